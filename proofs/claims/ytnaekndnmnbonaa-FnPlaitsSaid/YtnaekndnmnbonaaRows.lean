/-
  No cell of these rows narrows 'for every input' (looked for: loops, veiled, ifaces, maps, wideKeys, modest, calm, conditions, laid).
  DERIVED. THE GIVEN ROWS OF THIS SEAT. 12 by the template 'for every input the law returns true; each argument reads behind the call as it read before'; 0 by the template 'total and deterministic' (their statements: YtnaekndnmnbonaaTotals.lean).
  GIVEN WITH THE SEED: the statements are not yours to turn. If you find one false, say at which input.
  Laid BY PROGRAM, IN A SANDBOX (cutbox-rows.mjs): the forced cells as the released guide's own fill.sh prints them over the translation 0d3491757ab0f367… (all of the seat's roots in one cut). By AI agents, Wed Nov 11 2026. No macro, syntax, notation, axiom, sorry.
-/
import Derived.Test.YtnaekndnmnbonaaChecked
import GoSem.Claim
import GoSem.ClaimJoined
import GoSem.ClaimMapViews
import Derived.JoinedTies
import Derived.KernelRfl
namespace Go.Proofs.Ytnaekndnmnbonaa
/- THE CELL 'sum', in the pinned program and in every row, IS THE sha256 OF THE DUMP (.gsa) THAT YtnaekndnmnbonaaProg.lean LOADS. Nothing in Lean hashes anything: it is a label: what it is worth is what the hold of that sum in a sandbox is worth. -/
noncomputable def Try.pinned : Pinned := { name := "ytnaekndnmnbonaa", sum := "0d3491757ab0f367a223bdc2ed442a056b1b98f5c0d7896a25e14021c77b088e", checked := Try.checked }
namespace Rows
def none {H : Type} : Left H := { results := [], args := [] }

/-- 'laws.FnExactReadStroke': WHATEVER THE INPUT: true; the input reads as it did. -/
def fnExactReadStrokeSpec : ChangeSpec := { name := "fnExactReadStroke", fn := fun _ => fun
  | [d] => { results := [.lit (.bool true)], args := [d] }
  | _ => none }
def fnExactReadStrokeRow : OpenClaim := { program := "ytnaekndnmnbonaa", sum := "0d3491757ab0f367a223bdc2ed442a056b1b98f5c0d7896a25e14021c77b088e", func := "loop.example/g00931/laws.FnExactReadStroke", spec := "fnExactReadStroke", unfollowed := true, recurses := true, apart := false }
def FnExactReadStrokeSaid : Prop := fnExactReadStrokeRow.holds Try.pinned (OpenSpec.ofChange fnExactReadStrokeSpec)

/-- ITS FALSE NEIGHBOUR: 'it returns false'. Refute it at one input. -/
def fnExactReadStrokeWrong : ChangeSpec := { name := "fnExactReadStroke", fn := fun _ => fun
  | [d] => { results := [.lit (.bool false)], args := [d] }
  | _ => none }
def FnExactReadStrokeWrongFalsely : Prop := fnExactReadStrokeRow.holds Try.pinned (OpenSpec.ofChange fnExactReadStrokeWrong)

/-- 'laws.FnExactReadPath': WHATEVER THE INPUT: true; the input reads as it did. -/
def fnExactReadPathSpec : ChangeSpec := { name := "fnExactReadPath", fn := fun _ => fun
  | [d] => { results := [.lit (.bool true)], args := [d] }
  | _ => none }
def fnExactReadPathRow : OpenClaim := { program := "ytnaekndnmnbonaa", sum := "0d3491757ab0f367a223bdc2ed442a056b1b98f5c0d7896a25e14021c77b088e", func := "loop.example/g00931/laws.FnExactReadPath", spec := "fnExactReadPath", unfollowed := true, recurses := true, apart := false }
def FnExactReadPathSaid : Prop := fnExactReadPathRow.holds Try.pinned (OpenSpec.ofChange fnExactReadPathSpec)

/-- ITS FALSE NEIGHBOUR: 'it returns false'. Refute it at one input. -/
def fnExactReadPathWrong : ChangeSpec := { name := "fnExactReadPath", fn := fun _ => fun
  | [d] => { results := [.lit (.bool false)], args := [d] }
  | _ => none }
def FnExactReadPathWrongFalsely : Prop := fnExactReadPathRow.holds Try.pinned (OpenSpec.ofChange fnExactReadPathWrong)

/-- 'laws.FnExactReadTool': WHATEVER THE INPUT: true; the input reads as it did. -/
def fnExactReadToolSpec : ChangeSpec := { name := "fnExactReadTool", fn := fun _ => fun
  | [d] => { results := [.lit (.bool true)], args := [d] }
  | _ => none }
def fnExactReadToolRow : OpenClaim := { program := "ytnaekndnmnbonaa", sum := "0d3491757ab0f367a223bdc2ed442a056b1b98f5c0d7896a25e14021c77b088e", func := "loop.example/g00931/laws.FnExactReadTool", spec := "fnExactReadTool", apart := false }
def FnExactReadToolSaid : Prop := fnExactReadToolRow.holds Try.pinned (OpenSpec.ofChange fnExactReadToolSpec)

/-- ITS FALSE NEIGHBOUR: 'it returns false'. Refute it at one input. -/
def fnExactReadToolWrong : ChangeSpec := { name := "fnExactReadTool", fn := fun _ => fun
  | [d] => { results := [.lit (.bool false)], args := [d] }
  | _ => none }
def FnExactReadToolWrongFalsely : Prop := fnExactReadToolRow.holds Try.pinned (OpenSpec.ofChange fnExactReadToolWrong)

/-- 'laws.FnExactCarveOrder': WHATEVER THE INPUT: true; the input reads as it did. -/
def fnExactCarveOrderSpec : ChangeSpec := { name := "fnExactCarveOrder", fn := fun _ => fun
  | [d] => { results := [.lit (.bool true)], args := [d] }
  | _ => none }
def fnExactCarveOrderRow : OpenClaim := { program := "ytnaekndnmnbonaa", sum := "0d3491757ab0f367a223bdc2ed442a056b1b98f5c0d7896a25e14021c77b088e", func := "loop.example/g00931/laws.FnExactCarveOrder", spec := "fnExactCarveOrder", apart := false }
def FnExactCarveOrderSaid : Prop := fnExactCarveOrderRow.holds Try.pinned (OpenSpec.ofChange fnExactCarveOrderSpec)

/-- ITS FALSE NEIGHBOUR: 'it returns false'. Refute it at one input. -/
def fnExactCarveOrderWrong : ChangeSpec := { name := "fnExactCarveOrder", fn := fun _ => fun
  | [d] => { results := [.lit (.bool false)], args := [d] }
  | _ => none }
def FnExactCarveOrderWrongFalsely : Prop := fnExactCarveOrderRow.holds Try.pinned (OpenSpec.ofChange fnExactCarveOrderWrong)

/-- 'laws.FnExactCurvePath': WHATEVER THE INPUT: true; the input reads as it did. -/
def fnExactCurvePathSpec : ChangeSpec := { name := "fnExactCurvePath", fn := fun _ => fun
  | [d1, d2, d3] => { results := [.lit (.bool true)], args := [d1, d2, d3] }
  | _ => none }
def fnExactCurvePathRow : OpenClaim := { program := "ytnaekndnmnbonaa", sum := "0d3491757ab0f367a223bdc2ed442a056b1b98f5c0d7896a25e14021c77b088e", func := "loop.example/g00931/laws.FnExactCurvePath", spec := "fnExactCurvePath", apart := false }
def FnExactCurvePathSaid : Prop := fnExactCurvePathRow.holds Try.pinned (OpenSpec.ofChange fnExactCurvePathSpec)

/-- ITS FALSE NEIGHBOUR: 'it returns false'. Refute it at one input. -/
def fnExactCurvePathWrong : ChangeSpec := { name := "fnExactCurvePath", fn := fun _ => fun
  | [d1, d2, d3] => { results := [.lit (.bool false)], args := [d1, d2, d3] }
  | _ => none }
def FnExactCurvePathWrongFalsely : Prop := fnExactCurvePathRow.holds Try.pinned (OpenSpec.ofChange fnExactCurvePathWrong)

/-- 'laws.FnExactColourLines': WHATEVER THE INPUT: true; the input reads as it did. -/
def fnExactColourLinesSpec : ChangeSpec := { name := "fnExactColourLines", fn := fun _ => fun
  | [d1, d2] => { results := [.lit (.bool true)], args := [d1, d2] }
  | _ => none }
def fnExactColourLinesRow : OpenClaim := { program := "ytnaekndnmnbonaa", sum := "0d3491757ab0f367a223bdc2ed442a056b1b98f5c0d7896a25e14021c77b088e", func := "loop.example/g00931/laws.FnExactColourLines", spec := "fnExactColourLines", apart := false }
def FnExactColourLinesSaid : Prop := fnExactColourLinesRow.holds Try.pinned (OpenSpec.ofChange fnExactColourLinesSpec)

/-- ITS FALSE NEIGHBOUR: 'it returns false'. Refute it at one input. -/
def fnExactColourLinesWrong : ChangeSpec := { name := "fnExactColourLines", fn := fun _ => fun
  | [d1, d2] => { results := [.lit (.bool false)], args := [d1, d2] }
  | _ => none }
def FnExactColourLinesWrongFalsely : Prop := fnExactColourLinesRow.holds Try.pinned (OpenSpec.ofChange fnExactColourLinesWrong)

/-- 'laws.FnExactCarveCurve': WHATEVER THE INPUT: true; the input reads as it did. -/
def fnExactCarveCurveSpec : ChangeSpec := { name := "fnExactCarveCurve", fn := fun _ => fun
  | [d1, d2, d3, d4, d5] => { results := [.lit (.bool true)], args := [d1, d2, d3, d4, d5] }
  | _ => none }
def fnExactCarveCurveRow : OpenClaim := { program := "ytnaekndnmnbonaa", sum := "0d3491757ab0f367a223bdc2ed442a056b1b98f5c0d7896a25e14021c77b088e", func := "loop.example/g00931/laws.FnExactCarveCurve", spec := "fnExactCarveCurve", apart := false }
def FnExactCarveCurveSaid : Prop := fnExactCarveCurveRow.holds Try.pinned (OpenSpec.ofChange fnExactCarveCurveSpec)

/-- ITS FALSE NEIGHBOUR: 'it returns false'. Refute it at one input. -/
def fnExactCarveCurveWrong : ChangeSpec := { name := "fnExactCarveCurve", fn := fun _ => fun
  | [d1, d2, d3, d4, d5] => { results := [.lit (.bool false)], args := [d1, d2, d3, d4, d5] }
  | _ => none }
def FnExactCarveCurveWrongFalsely : Prop := fnExactCarveCurveRow.holds Try.pinned (OpenSpec.ofChange fnExactCarveCurveWrong)

/-- 'laws.FnExactBandOf': WHATEVER THE INPUT: true; the input reads as it did. -/
def fnExactBandOfSpec : ChangeSpec := { name := "fnExactBandOf", fn := fun _ => fun
  | [d1, d2, d3, d4] => { results := [.lit (.bool true)], args := [d1, d2, d3, d4] }
  | _ => none }
def fnExactBandOfRow : OpenClaim := { program := "ytnaekndnmnbonaa", sum := "0d3491757ab0f367a223bdc2ed442a056b1b98f5c0d7896a25e14021c77b088e", func := "loop.example/g00931/laws.FnExactBandOf", spec := "fnExactBandOf", apart := false }
def FnExactBandOfSaid : Prop := fnExactBandOfRow.holds Try.pinned (OpenSpec.ofChange fnExactBandOfSpec)

/-- ITS FALSE NEIGHBOUR: 'it returns false'. Refute it at one input. -/
def fnExactBandOfWrong : ChangeSpec := { name := "fnExactBandOf", fn := fun _ => fun
  | [d1, d2, d3, d4] => { results := [.lit (.bool false)], args := [d1, d2, d3, d4] }
  | _ => none }
def FnExactBandOfWrongFalsely : Prop := fnExactBandOfRow.holds Try.pinned (OpenSpec.ofChange fnExactBandOfWrong)

/-- 'laws.FnExactApplyStroke': WHATEVER THE INPUT: true; the input reads as it did. -/
def fnExactApplyStrokeSpec : ChangeSpec := { name := "fnExactApplyStroke", fn := fun _ => fun
  | [d1, d2, d3] => { results := [.lit (.bool true)], args := [d1, d2, d3] }
  | _ => none }
def fnExactApplyStrokeRow : OpenClaim := { program := "ytnaekndnmnbonaa", sum := "0d3491757ab0f367a223bdc2ed442a056b1b98f5c0d7896a25e14021c77b088e", func := "loop.example/g00931/laws.FnExactApplyStroke", spec := "fnExactApplyStroke", unfollowed := true, recurses := true, apart := false }
def FnExactApplyStrokeSaid : Prop := fnExactApplyStrokeRow.holds Try.pinned (OpenSpec.ofChange fnExactApplyStrokeSpec)

/-- ITS FALSE NEIGHBOUR: 'it returns false'. Refute it at one input. -/
def fnExactApplyStrokeWrong : ChangeSpec := { name := "fnExactApplyStroke", fn := fun _ => fun
  | [d1, d2, d3] => { results := [.lit (.bool false)], args := [d1, d2, d3] }
  | _ => none }
def FnExactApplyStrokeWrongFalsely : Prop := fnExactApplyStrokeRow.holds Try.pinned (OpenSpec.ofChange fnExactApplyStrokeWrong)

/-- 'laws.FnExactCarvePanel': WHATEVER THE INPUT: true; the input reads as it did. -/
def fnExactCarvePanelSpec : ChangeSpec := { name := "fnExactCarvePanel", fn := fun _ => fun
  | [d1, d2, d3, d4] => { results := [.lit (.bool true)], args := [d1, d2, d3, d4] }
  | _ => none }
def fnExactCarvePanelRow : OpenClaim := { program := "ytnaekndnmnbonaa", sum := "0d3491757ab0f367a223bdc2ed442a056b1b98f5c0d7896a25e14021c77b088e", func := "loop.example/g00931/laws.FnExactCarvePanel", spec := "fnExactCarvePanel", apart := false }
def FnExactCarvePanelSaid : Prop := fnExactCarvePanelRow.holds Try.pinned (OpenSpec.ofChange fnExactCarvePanelSpec)

/-- ITS FALSE NEIGHBOUR: 'it returns false'. Refute it at one input. -/
def fnExactCarvePanelWrong : ChangeSpec := { name := "fnExactCarvePanel", fn := fun _ => fun
  | [d1, d2, d3, d4] => { results := [.lit (.bool false)], args := [d1, d2, d3, d4] }
  | _ => none }
def FnExactCarvePanelWrongFalsely : Prop := fnExactCarvePanelRow.holds Try.pinned (OpenSpec.ofChange fnExactCarvePanelWrong)

/-- 'laws.FnExactApplyStrokes': WHATEVER THE INPUT: true; the input reads as it did. -/
def fnExactApplyStrokesSpec : ChangeSpec := { name := "fnExactApplyStrokes", fn := fun _ => fun
  | [d1, d2, d3] => { results := [.lit (.bool true)], args := [d1, d2, d3] }
  | _ => none }
def fnExactApplyStrokesRow : OpenClaim := { program := "ytnaekndnmnbonaa", sum := "0d3491757ab0f367a223bdc2ed442a056b1b98f5c0d7896a25e14021c77b088e", func := "loop.example/g00931/laws.FnExactApplyStrokes", spec := "fnExactApplyStrokes", unfollowed := true, recurses := true, apart := false }
def FnExactApplyStrokesSaid : Prop := fnExactApplyStrokesRow.holds Try.pinned (OpenSpec.ofChange fnExactApplyStrokesSpec)

/-- ITS FALSE NEIGHBOUR: 'it returns false'. Refute it at one input. -/
def fnExactApplyStrokesWrong : ChangeSpec := { name := "fnExactApplyStrokes", fn := fun _ => fun
  | [d1, d2, d3] => { results := [.lit (.bool false)], args := [d1, d2, d3] }
  | _ => none }
def FnExactApplyStrokesWrongFalsely : Prop := fnExactApplyStrokesRow.holds Try.pinned (OpenSpec.ofChange fnExactApplyStrokesWrong)

/-- 'laws.FnPlaits': WHATEVER THE INPUT: true; the input reads as it did. -/
def fnPlaitsSpec : ChangeSpec := { name := "fnPlaits", fn := fun _ => fun
  | [d] => { results := [.lit (.bool true)], args := [d] }
  | _ => none }
def fnPlaitsRow : OpenClaim := { program := "ytnaekndnmnbonaa", sum := "0d3491757ab0f367a223bdc2ed442a056b1b98f5c0d7896a25e14021c77b088e", func := "loop.example/g00931/laws.FnPlaits", spec := "fnPlaits", unfollowed := true, recurses := true, apart := false }
def FnPlaitsSaid : Prop := fnPlaitsRow.holds Try.pinned (OpenSpec.ofChange fnPlaitsSpec)

/-- ITS FALSE NEIGHBOUR: 'it returns false'. Refute it at one input. -/
def fnPlaitsWrong : ChangeSpec := { name := "fnPlaits", fn := fun _ => fun
  | [d] => { results := [.lit (.bool false)], args := [d] }
  | _ => none }
def FnPlaitsWrongFalsely : Prop := fnPlaitsRow.holds Try.pinned (OpenSpec.ofChange fnPlaitsWrong)

/- THE SECOND FORM. 'bulk': how many values and letters a reading holds, each counted each time it is reached (what is shared counts as often as it is met; a slice's spare places count too). A statement '..UptoSaid' is the law's where the arguments, and the package variables that the reading takes, are together of bulk at most 1048576: NARROWER than '..Said'. Prove '..Said' where nothing that the law and all that it calls make is longer than what came in: it says more and counts as full. Else prove '..UptoSaid'. A law counts once. -/
mutual
def uptoBulk {H : Type} : DataW H → Nat
  | .lit (.string bytes) => bytes.length + 1
  | .lit _ => 1
  | .nil => 1
  | .ptr d => uptoBulk d + 1
  | .slice elems spare => uptoBulkAll elems + uptoBulkAll spare + 1
  | .agg parts => uptoBulkAll parts + 1
  | .iface _ d => uptoBulk d + 1
  | .map entries => uptoBulkEntries entries + 1
  | .held _ => 1
def uptoBulkAll {H : Type} : List (DataW H) → Nat
  | [] => 0
  | d :: r => uptoBulk d + uptoBulkAll r
def uptoBulkEntries {H : Type} : List (Lit × DataW H) → Nat
  | [] => 0
  | x :: r => uptoBulkEntry x + uptoBulkEntries r
def uptoBulkEntry {H : Type} : Lit × DataW H → Nat
  | (.string bytes, d) => bytes.length + uptoBulk d + 1
  | (_, d) => uptoBulk d + 1
 end
def uptoSmall : (H : Type) → List (DataW H) → Bool := fun _ ds => decide (uptoBulkAll ds ≤ 1048576)
def OpenSpec.upto (s : _root_.Go.ChangeSpec) : _root_.Go.OpenSpec := { _root_.Go.OpenSpec.ofChange s with cond := some uptoSmall }

/-- 'laws.FnExactReadStroke', WHERE WHAT IT READS IS OF BULK AT MOST 1048576: true; the input reads as it did. -/
def fnExactReadStrokeUptoRow : OpenClaim := { program := "ytnaekndnmnbonaa", sum := "0d3491757ab0f367a223bdc2ed442a056b1b98f5c0d7896a25e14021c77b088e", func := "loop.example/g00931/laws.FnExactReadStroke", spec := "fnExactReadStroke", unfollowed := true, recurses := true, apart := false, narrowed := true }
def FnExactReadStrokeUptoSaid : Prop := fnExactReadStrokeUptoRow.holds Try.pinned (OpenSpec.upto fnExactReadStrokeSpec)

/-- 'laws.FnExactReadPath', WHERE WHAT IT READS IS OF BULK AT MOST 1048576: true; the input reads as it did. -/
def fnExactReadPathUptoRow : OpenClaim := { program := "ytnaekndnmnbonaa", sum := "0d3491757ab0f367a223bdc2ed442a056b1b98f5c0d7896a25e14021c77b088e", func := "loop.example/g00931/laws.FnExactReadPath", spec := "fnExactReadPath", unfollowed := true, recurses := true, apart := false, narrowed := true }
def FnExactReadPathUptoSaid : Prop := fnExactReadPathUptoRow.holds Try.pinned (OpenSpec.upto fnExactReadPathSpec)

/-- 'laws.FnExactReadTool', WHERE WHAT IT READS IS OF BULK AT MOST 1048576: true; the input reads as it did. -/
def fnExactReadToolUptoRow : OpenClaim := { program := "ytnaekndnmnbonaa", sum := "0d3491757ab0f367a223bdc2ed442a056b1b98f5c0d7896a25e14021c77b088e", func := "loop.example/g00931/laws.FnExactReadTool", spec := "fnExactReadTool", apart := false, narrowed := true }
def FnExactReadToolUptoSaid : Prop := fnExactReadToolUptoRow.holds Try.pinned (OpenSpec.upto fnExactReadToolSpec)

/-- 'laws.FnExactCarveOrder', WHERE WHAT IT READS IS OF BULK AT MOST 1048576: true; the input reads as it did. -/
def fnExactCarveOrderUptoRow : OpenClaim := { program := "ytnaekndnmnbonaa", sum := "0d3491757ab0f367a223bdc2ed442a056b1b98f5c0d7896a25e14021c77b088e", func := "loop.example/g00931/laws.FnExactCarveOrder", spec := "fnExactCarveOrder", apart := false, narrowed := true }
def FnExactCarveOrderUptoSaid : Prop := fnExactCarveOrderUptoRow.holds Try.pinned (OpenSpec.upto fnExactCarveOrderSpec)

/-- 'laws.FnExactCurvePath', WHERE WHAT IT READS IS OF BULK AT MOST 1048576: true; the input reads as it did. -/
def fnExactCurvePathUptoRow : OpenClaim := { program := "ytnaekndnmnbonaa", sum := "0d3491757ab0f367a223bdc2ed442a056b1b98f5c0d7896a25e14021c77b088e", func := "loop.example/g00931/laws.FnExactCurvePath", spec := "fnExactCurvePath", apart := false, narrowed := true }
def FnExactCurvePathUptoSaid : Prop := fnExactCurvePathUptoRow.holds Try.pinned (OpenSpec.upto fnExactCurvePathSpec)

/-- 'laws.FnExactColourLines', WHERE WHAT IT READS IS OF BULK AT MOST 1048576: true; the input reads as it did. -/
def fnExactColourLinesUptoRow : OpenClaim := { program := "ytnaekndnmnbonaa", sum := "0d3491757ab0f367a223bdc2ed442a056b1b98f5c0d7896a25e14021c77b088e", func := "loop.example/g00931/laws.FnExactColourLines", spec := "fnExactColourLines", apart := false, narrowed := true }
def FnExactColourLinesUptoSaid : Prop := fnExactColourLinesUptoRow.holds Try.pinned (OpenSpec.upto fnExactColourLinesSpec)

/-- 'laws.FnExactCarveCurve', WHERE WHAT IT READS IS OF BULK AT MOST 1048576: true; the input reads as it did. -/
def fnExactCarveCurveUptoRow : OpenClaim := { program := "ytnaekndnmnbonaa", sum := "0d3491757ab0f367a223bdc2ed442a056b1b98f5c0d7896a25e14021c77b088e", func := "loop.example/g00931/laws.FnExactCarveCurve", spec := "fnExactCarveCurve", apart := false, narrowed := true }
def FnExactCarveCurveUptoSaid : Prop := fnExactCarveCurveUptoRow.holds Try.pinned (OpenSpec.upto fnExactCarveCurveSpec)

/-- 'laws.FnExactBandOf', WHERE WHAT IT READS IS OF BULK AT MOST 1048576: true; the input reads as it did. -/
def fnExactBandOfUptoRow : OpenClaim := { program := "ytnaekndnmnbonaa", sum := "0d3491757ab0f367a223bdc2ed442a056b1b98f5c0d7896a25e14021c77b088e", func := "loop.example/g00931/laws.FnExactBandOf", spec := "fnExactBandOf", apart := false, narrowed := true }
def FnExactBandOfUptoSaid : Prop := fnExactBandOfUptoRow.holds Try.pinned (OpenSpec.upto fnExactBandOfSpec)

/-- 'laws.FnExactApplyStroke', WHERE WHAT IT READS IS OF BULK AT MOST 1048576: true; the input reads as it did. -/
def fnExactApplyStrokeUptoRow : OpenClaim := { program := "ytnaekndnmnbonaa", sum := "0d3491757ab0f367a223bdc2ed442a056b1b98f5c0d7896a25e14021c77b088e", func := "loop.example/g00931/laws.FnExactApplyStroke", spec := "fnExactApplyStroke", unfollowed := true, recurses := true, apart := false, narrowed := true }
def FnExactApplyStrokeUptoSaid : Prop := fnExactApplyStrokeUptoRow.holds Try.pinned (OpenSpec.upto fnExactApplyStrokeSpec)

/-- 'laws.FnExactCarvePanel', WHERE WHAT IT READS IS OF BULK AT MOST 1048576: true; the input reads as it did. -/
def fnExactCarvePanelUptoRow : OpenClaim := { program := "ytnaekndnmnbonaa", sum := "0d3491757ab0f367a223bdc2ed442a056b1b98f5c0d7896a25e14021c77b088e", func := "loop.example/g00931/laws.FnExactCarvePanel", spec := "fnExactCarvePanel", apart := false, narrowed := true }
def FnExactCarvePanelUptoSaid : Prop := fnExactCarvePanelUptoRow.holds Try.pinned (OpenSpec.upto fnExactCarvePanelSpec)

/-- 'laws.FnExactApplyStrokes', WHERE WHAT IT READS IS OF BULK AT MOST 1048576: true; the input reads as it did. -/
def fnExactApplyStrokesUptoRow : OpenClaim := { program := "ytnaekndnmnbonaa", sum := "0d3491757ab0f367a223bdc2ed442a056b1b98f5c0d7896a25e14021c77b088e", func := "loop.example/g00931/laws.FnExactApplyStrokes", spec := "fnExactApplyStrokes", unfollowed := true, recurses := true, apart := false, narrowed := true }
def FnExactApplyStrokesUptoSaid : Prop := fnExactApplyStrokesUptoRow.holds Try.pinned (OpenSpec.upto fnExactApplyStrokesSpec)

/-- 'laws.FnPlaits', WHERE WHAT IT READS IS OF BULK AT MOST 1048576: true; the input reads as it did. -/
def fnPlaitsUptoRow : OpenClaim := { program := "ytnaekndnmnbonaa", sum := "0d3491757ab0f367a223bdc2ed442a056b1b98f5c0d7896a25e14021c77b088e", func := "loop.example/g00931/laws.FnPlaits", spec := "fnPlaits", unfollowed := true, recurses := true, apart := false, narrowed := true }
def FnPlaitsUptoSaid : Prop := fnPlaitsUptoRow.holds Try.pinned (OpenSpec.upto fnPlaitsSpec)

end Rows
end Go.Proofs.Ytnaekndnmnbonaa
