/-
  No cell of these rows narrows 'for every input' (looked for: loops, veiled, ifaces, maps, wideKeys, modest, calm, conditions, laid).
  DERIVED. THE GIVEN ROWS OF THIS SEAT. 6 by the template 'for every input the law returns true; each argument reads behind the call as it read before'; 0 by the template 'total and deterministic' (their statements: YtnifcedmpilldaaTotals.lean).
  GIVEN WITH THE SEED: the statements are not yours to turn. If you find one false, say at which input.
  Laid BY PROGRAM, IN A SANDBOX (cutbox-rows.mjs): the forced cells as the released guide's own fill.sh prints them over the translation 929fc17871fadb6a… (all of the seat's roots in one cut). By AI agents, Wed Nov 11 2026. No macro, syntax, notation, axiom, sorry.
-/
import Derived.Test.YtnifcedmpilldaaChecked
import GoSem.Claim
import GoSem.ClaimJoined
import GoSem.ClaimMapViews
import Derived.JoinedTies
import Derived.KernelRfl
namespace Go.Proofs.Ytnifcedmpilldaa
/- THE CELL 'sum', in the pinned program and in every row, IS THE sha256 OF THE DUMP (.gsa) THAT YtnifcedmpilldaaProg.lean LOADS. Nothing in Lean hashes anything: it is a label: what it is worth is what the hold of that sum in a sandbox is worth. -/
noncomputable def Try.pinned : Pinned := { name := "ytnifcedmpilldaa", sum := "929fc17871fadb6af913e69af418e54a32597542644ab8d20fa5cb92af8f9b88", checked := Try.checked }
namespace Rows
def none {H : Type} : Left H := { results := [], args := [] }

/-- 'laws.FnBands': WHATEVER THE INPUT: true; the input reads as it did. -/
def fnBandsSpec : ChangeSpec := { name := "fnBands", fn := fun _ => fun
  | [d] => { results := [.lit (.bool true)], args := [d] }
  | _ => none }
def fnBandsRow : OpenClaim := { program := "ytnifcedmpilldaa", sum := "929fc17871fadb6af913e69af418e54a32597542644ab8d20fa5cb92af8f9b88", func := "loop.example/g00931/laws.FnBands", spec := "fnBands", unfollowed := true, recurses := true, apart := false }
def FnBandsSaid : Prop := fnBandsRow.holds Try.pinned (OpenSpec.ofChange fnBandsSpec)

/-- ITS FALSE NEIGHBOUR: 'it returns false'. Refute it at one input. -/
def fnBandsWrong : ChangeSpec := { name := "fnBands", fn := fun _ => fun
  | [d] => { results := [.lit (.bool false)], args := [d] }
  | _ => none }
def FnBandsWrongFalsely : Prop := fnBandsRow.holds Try.pinned (OpenSpec.ofChange fnBandsWrong)

/-- 'laws.FnPolygons': WHATEVER THE INPUT: true; the input reads as it did. -/
def fnPolygonsSpec : ChangeSpec := { name := "fnPolygons", fn := fun _ => fun
  | [d] => { results := [.lit (.bool true)], args := [d] }
  | _ => none }
def fnPolygonsRow : OpenClaim := { program := "ytnifcedmpilldaa", sum := "929fc17871fadb6af913e69af418e54a32597542644ab8d20fa5cb92af8f9b88", func := "loop.example/g00931/laws.FnPolygons", spec := "fnPolygons", unfollowed := true, recurses := true, apart := false }
def FnPolygonsSaid : Prop := fnPolygonsRow.holds Try.pinned (OpenSpec.ofChange fnPolygonsSpec)

/-- ITS FALSE NEIGHBOUR: 'it returns false'. Refute it at one input. -/
def fnPolygonsWrong : ChangeSpec := { name := "fnPolygons", fn := fun _ => fun
  | [d] => { results := [.lit (.bool false)], args := [d] }
  | _ => none }
def FnPolygonsWrongFalsely : Prop := fnPolygonsRow.holds Try.pinned (OpenSpec.ofChange fnPolygonsWrong)

/-- 'laws.FnStroked': WHATEVER THE INPUT: true; the input reads as it did. -/
def fnStrokedSpec : ChangeSpec := { name := "fnStroked", fn := fun _ => fun
  | [d] => { results := [.lit (.bool true)], args := [d] }
  | _ => none }
def fnStrokedRow : OpenClaim := { program := "ytnifcedmpilldaa", sum := "929fc17871fadb6af913e69af418e54a32597542644ab8d20fa5cb92af8f9b88", func := "loop.example/g00931/laws.FnStroked", spec := "fnStroked", unfollowed := true, recurses := true, apart := false }
def FnStrokedSaid : Prop := fnStrokedRow.holds Try.pinned (OpenSpec.ofChange fnStrokedSpec)

/-- ITS FALSE NEIGHBOUR: 'it returns false'. Refute it at one input. -/
def fnStrokedWrong : ChangeSpec := { name := "fnStroked", fn := fun _ => fun
  | [d] => { results := [.lit (.bool false)], args := [d] }
  | _ => none }
def FnStrokedWrongFalsely : Prop := fnStrokedRow.holds Try.pinned (OpenSpec.ofChange fnStrokedWrong)

/-- 'laws.FnCarved': WHATEVER THE INPUT: true; the input reads as it did. -/
def fnCarvedSpec : ChangeSpec := { name := "fnCarved", fn := fun _ => fun
  | [d] => { results := [.lit (.bool true)], args := [d] }
  | _ => none }
def fnCarvedRow : OpenClaim := { program := "ytnifcedmpilldaa", sum := "929fc17871fadb6af913e69af418e54a32597542644ab8d20fa5cb92af8f9b88", func := "loop.example/g00931/laws.FnCarved", spec := "fnCarved", apart := false }
def FnCarvedSaid : Prop := fnCarvedRow.holds Try.pinned (OpenSpec.ofChange fnCarvedSpec)

/-- ITS FALSE NEIGHBOUR: 'it returns false'. Refute it at one input. -/
def fnCarvedWrong : ChangeSpec := { name := "fnCarved", fn := fun _ => fun
  | [d] => { results := [.lit (.bool false)], args := [d] }
  | _ => none }
def FnCarvedWrongFalsely : Prop := fnCarvedRow.holds Try.pinned (OpenSpec.ofChange fnCarvedWrong)

/-- 'laws.FnTools': WHATEVER THE INPUT: true; the input reads as it did. -/
def fnToolsSpec : ChangeSpec := { name := "fnTools", fn := fun _ => fun
  | [d] => { results := [.lit (.bool true)], args := [d] }
  | _ => none }
def fnToolsRow : OpenClaim := { program := "ytnifcedmpilldaa", sum := "929fc17871fadb6af913e69af418e54a32597542644ab8d20fa5cb92af8f9b88", func := "loop.example/g00931/laws.FnTools", spec := "fnTools", apart := false }
def FnToolsSaid : Prop := fnToolsRow.holds Try.pinned (OpenSpec.ofChange fnToolsSpec)

/-- ITS FALSE NEIGHBOUR: 'it returns false'. Refute it at one input. -/
def fnToolsWrong : ChangeSpec := { name := "fnTools", fn := fun _ => fun
  | [d] => { results := [.lit (.bool false)], args := [d] }
  | _ => none }
def FnToolsWrongFalsely : Prop := fnToolsRow.holds Try.pinned (OpenSpec.ofChange fnToolsWrong)

/-- 'laws.FnStrokeTexts': WHATEVER THE INPUT: true; the input reads as it did. -/
def fnStrokeTextsSpec : ChangeSpec := { name := "fnStrokeTexts", fn := fun _ => fun
  | [d] => { results := [.lit (.bool true)], args := [d] }
  | _ => none }
def fnStrokeTextsRow : OpenClaim := { program := "ytnifcedmpilldaa", sum := "929fc17871fadb6af913e69af418e54a32597542644ab8d20fa5cb92af8f9b88", func := "loop.example/g00931/laws.FnStrokeTexts", spec := "fnStrokeTexts", unfollowed := true, recurses := true, apart := false }
def FnStrokeTextsSaid : Prop := fnStrokeTextsRow.holds Try.pinned (OpenSpec.ofChange fnStrokeTextsSpec)

/-- ITS FALSE NEIGHBOUR: 'it returns false'. Refute it at one input. -/
def fnStrokeTextsWrong : ChangeSpec := { name := "fnStrokeTexts", fn := fun _ => fun
  | [d] => { results := [.lit (.bool false)], args := [d] }
  | _ => none }
def FnStrokeTextsWrongFalsely : Prop := fnStrokeTextsRow.holds Try.pinned (OpenSpec.ofChange fnStrokeTextsWrong)

/- THE SECOND FORM. 'bulk': how many values and letters a reading holds, each counted each time it is reached (what is shared counts as often as it is met; a slice's spare places count too). A statement '..UptoSaid' is the law's where the arguments, and the package variables that the reading takes, are together of bulk at most 1048576: NARROWER than '..Said'. Prove '..Said' where nothing that the law and all that it calls make is longer than what came in: it says more and counts as full. Else prove '..UptoSaid'. A law counts once. -/
mutual
def uptoBulk {H : Type} : DataW H → Nat
  | .lit (.string bytes) => bytes.length + 1
  | .lit _ => 1
  | .nil => 1
  | .ptr d => uptoBulk d + 1
  | .slice elems spare => uptoBulkAll elems + uptoBulkAll spare + 1
  | .agg parts => uptoBulkAll parts + 1
  | .iface _ d => uptoBulk d + 1
  | .map entries => uptoBulkEntries entries + 1
  | .held _ => 1
def uptoBulkAll {H : Type} : List (DataW H) → Nat
  | [] => 0
  | d :: r => uptoBulk d + uptoBulkAll r
def uptoBulkEntries {H : Type} : List (Lit × DataW H) → Nat
  | [] => 0
  | x :: r => uptoBulkEntry x + uptoBulkEntries r
def uptoBulkEntry {H : Type} : Lit × DataW H → Nat
  | (.string bytes, d) => bytes.length + uptoBulk d + 1
  | (_, d) => uptoBulk d + 1
 end
def uptoSmall : (H : Type) → List (DataW H) → Bool := fun _ ds => decide (uptoBulkAll ds ≤ 1048576)
def OpenSpec.upto (s : _root_.Go.ChangeSpec) : _root_.Go.OpenSpec := { _root_.Go.OpenSpec.ofChange s with cond := some uptoSmall }

/-- 'laws.FnBands', WHERE WHAT IT READS IS OF BULK AT MOST 1048576: true; the input reads as it did. -/
def fnBandsUptoRow : OpenClaim := { program := "ytnifcedmpilldaa", sum := "929fc17871fadb6af913e69af418e54a32597542644ab8d20fa5cb92af8f9b88", func := "loop.example/g00931/laws.FnBands", spec := "fnBands", unfollowed := true, recurses := true, apart := false, narrowed := true }
def FnBandsUptoSaid : Prop := fnBandsUptoRow.holds Try.pinned (OpenSpec.upto fnBandsSpec)

/-- 'laws.FnPolygons', WHERE WHAT IT READS IS OF BULK AT MOST 1048576: true; the input reads as it did. -/
def fnPolygonsUptoRow : OpenClaim := { program := "ytnifcedmpilldaa", sum := "929fc17871fadb6af913e69af418e54a32597542644ab8d20fa5cb92af8f9b88", func := "loop.example/g00931/laws.FnPolygons", spec := "fnPolygons", unfollowed := true, recurses := true, apart := false, narrowed := true }
def FnPolygonsUptoSaid : Prop := fnPolygonsUptoRow.holds Try.pinned (OpenSpec.upto fnPolygonsSpec)

/-- 'laws.FnStroked', WHERE WHAT IT READS IS OF BULK AT MOST 1048576: true; the input reads as it did. -/
def fnStrokedUptoRow : OpenClaim := { program := "ytnifcedmpilldaa", sum := "929fc17871fadb6af913e69af418e54a32597542644ab8d20fa5cb92af8f9b88", func := "loop.example/g00931/laws.FnStroked", spec := "fnStroked", unfollowed := true, recurses := true, apart := false, narrowed := true }
def FnStrokedUptoSaid : Prop := fnStrokedUptoRow.holds Try.pinned (OpenSpec.upto fnStrokedSpec)

/-- 'laws.FnCarved', WHERE WHAT IT READS IS OF BULK AT MOST 1048576: true; the input reads as it did. -/
def fnCarvedUptoRow : OpenClaim := { program := "ytnifcedmpilldaa", sum := "929fc17871fadb6af913e69af418e54a32597542644ab8d20fa5cb92af8f9b88", func := "loop.example/g00931/laws.FnCarved", spec := "fnCarved", apart := false, narrowed := true }
def FnCarvedUptoSaid : Prop := fnCarvedUptoRow.holds Try.pinned (OpenSpec.upto fnCarvedSpec)

/-- 'laws.FnTools', WHERE WHAT IT READS IS OF BULK AT MOST 1048576: true; the input reads as it did. -/
def fnToolsUptoRow : OpenClaim := { program := "ytnifcedmpilldaa", sum := "929fc17871fadb6af913e69af418e54a32597542644ab8d20fa5cb92af8f9b88", func := "loop.example/g00931/laws.FnTools", spec := "fnTools", apart := false, narrowed := true }
def FnToolsUptoSaid : Prop := fnToolsUptoRow.holds Try.pinned (OpenSpec.upto fnToolsSpec)

/-- 'laws.FnStrokeTexts', WHERE WHAT IT READS IS OF BULK AT MOST 1048576: true; the input reads as it did. -/
def fnStrokeTextsUptoRow : OpenClaim := { program := "ytnifcedmpilldaa", sum := "929fc17871fadb6af913e69af418e54a32597542644ab8d20fa5cb92af8f9b88", func := "loop.example/g00931/laws.FnStrokeTexts", spec := "fnStrokeTexts", unfollowed := true, recurses := true, apart := false, narrowed := true }
def FnStrokeTextsUptoSaid : Prop := fnStrokeTextsUptoRow.holds Try.pinned (OpenSpec.upto fnStrokeTextsSpec)

end Rows
end Go.Proofs.Ytnifcedmpilldaa
