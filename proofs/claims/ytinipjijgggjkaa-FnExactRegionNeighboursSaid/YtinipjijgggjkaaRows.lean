/-
  No cell of these rows narrows 'for every input' (looked for: loops, veiled, ifaces, maps, wideKeys, modest, calm, conditions, laid).
  DERIVED. THE GIVEN ROWS OF THIS SEAT. 12 by the template 'for every input the law returns true; each argument reads behind the call as it read before'; 0 by the template 'total and deterministic' (their statements: YtinipjijgggjkaaTotals.lean).
  GIVEN WITH THE SEED: the statements are not yours to turn. If you find one false, say at which input.
  Laid BY PROGRAM, IN A SANDBOX (cutbox-rows.mjs): the forced cells as the released guide's own fill.sh prints them over the translation ef2a985de79a4e3f… (all of the seat's roots in one cut). By AI agents, Wed Nov 11 2026. No macro, syntax, notation, axiom, sorry.
-/
import Derived.Test.YtinipjijgggjkaaChecked
import GoSem.Claim
import GoSem.ClaimJoined
import GoSem.ClaimMapViews
import Derived.JoinedTies
import Derived.KernelRfl
namespace Go.Proofs.Ytinipjijgggjkaa
/- THE CELL 'sum', in the pinned program and in every row, IS THE sha256 OF THE DUMP (.gsa) THAT YtinipjijgggjkaaProg.lean LOADS. Nothing in Lean hashes anything: it is a label: what it is worth is what the hold of that sum in a sandbox is worth. -/
noncomputable def Try.pinned : Pinned := { name := "ytinipjijgggjkaa", sum := "ef2a985de79a4e3f90c6036970fc1c50b32fdb8dc3e3113bac45d0110f95abc8", checked := Try.checked }
namespace Rows
def none {H : Type} : Left H := { results := [], args := [] }

/-- 'laws.FnExactCountRegions': WHATEVER THE INPUT: true; the input reads as it did. -/
def fnExactCountRegionsSpec : ChangeSpec := { name := "fnExactCountRegions", fn := fun _ => fun
  | [d] => { results := [.lit (.bool true)], args := [d] }
  | _ => none }
def fnExactCountRegionsRow : OpenClaim := { program := "ytinipjijgggjkaa", sum := "ef2a985de79a4e3f90c6036970fc1c50b32fdb8dc3e3113bac45d0110f95abc8", func := "loop.example/g00931/laws.FnExactCountRegions", spec := "fnExactCountRegions", unfollowed := true, recurses := true, plainKeys := false, apart := false }
def FnExactCountRegionsSaid : Prop := fnExactCountRegionsRow.holds Try.pinned (OpenSpec.ofChange fnExactCountRegionsSpec)

/-- ITS FALSE NEIGHBOUR: 'it returns false'. Refute it at one input. -/
def fnExactCountRegionsWrong : ChangeSpec := { name := "fnExactCountRegions", fn := fun _ => fun
  | [d] => { results := [.lit (.bool false)], args := [d] }
  | _ => none }
def FnExactCountRegionsWrongFalsely : Prop := fnExactCountRegionsRow.holds Try.pinned (OpenSpec.ofChange fnExactCountRegionsWrong)

/-- 'laws.FnExactRegionAt': WHATEVER THE INPUT: true; the input reads as it did. -/
def fnExactRegionAtSpec : ChangeSpec := { name := "fnExactRegionAt", fn := fun _ => fun
  | [d1, d2] => { results := [.lit (.bool true)], args := [d1, d2] }
  | _ => none }
def fnExactRegionAtRow : OpenClaim := { program := "ytinipjijgggjkaa", sum := "ef2a985de79a4e3f90c6036970fc1c50b32fdb8dc3e3113bac45d0110f95abc8", func := "loop.example/g00931/laws.FnExactRegionAt", spec := "fnExactRegionAt", unfollowed := true, recurses := true, plainKeys := false, apart := false }
def FnExactRegionAtSaid : Prop := fnExactRegionAtRow.holds Try.pinned (OpenSpec.ofChange fnExactRegionAtSpec)

/-- ITS FALSE NEIGHBOUR: 'it returns false'. Refute it at one input. -/
def fnExactRegionAtWrong : ChangeSpec := { name := "fnExactRegionAt", fn := fun _ => fun
  | [d1, d2] => { results := [.lit (.bool false)], args := [d1, d2] }
  | _ => none }
def FnExactRegionAtWrongFalsely : Prop := fnExactRegionAtRow.holds Try.pinned (OpenSpec.ofChange fnExactRegionAtWrong)

/-- 'laws.FnExactShadeOf': WHATEVER THE INPUT: true; the input reads as it did. -/
def fnExactShadeOfSpec : ChangeSpec := { name := "fnExactShadeOf", fn := fun _ => fun
  | [d1, d2] => { results := [.lit (.bool true)], args := [d1, d2] }
  | _ => none }
def fnExactShadeOfRow : OpenClaim := { program := "ytinipjijgggjkaa", sum := "ef2a985de79a4e3f90c6036970fc1c50b32fdb8dc3e3113bac45d0110f95abc8", func := "loop.example/g00931/laws.FnExactShadeOf", spec := "fnExactShadeOf", unfollowed := true, recurses := true, plainKeys := false, apart := false }
def FnExactShadeOfSaid : Prop := fnExactShadeOfRow.holds Try.pinned (OpenSpec.ofChange fnExactShadeOfSpec)

/-- ITS FALSE NEIGHBOUR: 'it returns false'. Refute it at one input. -/
def fnExactShadeOfWrong : ChangeSpec := { name := "fnExactShadeOf", fn := fun _ => fun
  | [d1, d2] => { results := [.lit (.bool false)], args := [d1, d2] }
  | _ => none }
def FnExactShadeOfWrongFalsely : Prop := fnExactShadeOfRow.holds Try.pinned (OpenSpec.ofChange fnExactShadeOfWrong)

/-- 'laws.FnExactRegionsOf': WHATEVER THE INPUT: true; the input reads as it did. -/
def fnExactRegionsOfSpec : ChangeSpec := { name := "fnExactRegionsOf", fn := fun _ => fun
  | [d] => { results := [.lit (.bool true)], args := [d] }
  | _ => none }
def fnExactRegionsOfRow : OpenClaim := { program := "ytinipjijgggjkaa", sum := "ef2a985de79a4e3f90c6036970fc1c50b32fdb8dc3e3113bac45d0110f95abc8", func := "loop.example/g00931/laws.FnExactRegionsOf", spec := "fnExactRegionsOf", unfollowed := true, recurses := true, plainKeys := false, apart := false }
def FnExactRegionsOfSaid : Prop := fnExactRegionsOfRow.holds Try.pinned (OpenSpec.ofChange fnExactRegionsOfSpec)

/-- ITS FALSE NEIGHBOUR: 'it returns false'. Refute it at one input. -/
def fnExactRegionsOfWrong : ChangeSpec := { name := "fnExactRegionsOf", fn := fun _ => fun
  | [d] => { results := [.lit (.bool false)], args := [d] }
  | _ => none }
def FnExactRegionsOfWrongFalsely : Prop := fnExactRegionsOfRow.holds Try.pinned (OpenSpec.ofChange fnExactRegionsOfWrong)

/-- 'laws.FnExactIsColouring': WHATEVER THE INPUT: true; the input reads as it did. -/
def fnExactIsColouringSpec : ChangeSpec := { name := "fnExactIsColouring", fn := fun _ => fun
  | [d1, d2] => { results := [.lit (.bool true)], args := [d1, d2] }
  | _ => none }
def fnExactIsColouringRow : OpenClaim := { program := "ytinipjijgggjkaa", sum := "ef2a985de79a4e3f90c6036970fc1c50b32fdb8dc3e3113bac45d0110f95abc8", func := "loop.example/g00931/laws.FnExactIsColouring", spec := "fnExactIsColouring", recurses := true, plainKeys := false, apart := false }
def FnExactIsColouringSaid : Prop := fnExactIsColouringRow.holds Try.pinned (OpenSpec.ofChange fnExactIsColouringSpec)

/-- ITS FALSE NEIGHBOUR: 'it returns false'. Refute it at one input. -/
def fnExactIsColouringWrong : ChangeSpec := { name := "fnExactIsColouring", fn := fun _ => fun
  | [d1, d2] => { results := [.lit (.bool false)], args := [d1, d2] }
  | _ => none }
def FnExactIsColouringWrongFalsely : Prop := fnExactIsColouringRow.holds Try.pinned (OpenSpec.ofChange fnExactIsColouringWrong)

/-- 'laws.FnExactColourCurves': WHATEVER THE INPUT: true; the input reads as it did. -/
def fnExactColourCurvesSpec : ChangeSpec := { name := "fnExactColourCurves", fn := fun _ => fun
  | [d] => { results := [.lit (.bool true)], args := [d] }
  | _ => none }
def fnExactColourCurvesRow : OpenClaim := { program := "ytinipjijgggjkaa", sum := "ef2a985de79a4e3f90c6036970fc1c50b32fdb8dc3e3113bac45d0110f95abc8", func := "loop.example/g00931/laws.FnExactColourCurves", spec := "fnExactColourCurves", recurses := true, plainKeys := false, apart := false }
def FnExactColourCurvesSaid : Prop := fnExactColourCurvesRow.holds Try.pinned (OpenSpec.ofChange fnExactColourCurvesSpec)

/-- ITS FALSE NEIGHBOUR: 'it returns false'. Refute it at one input. -/
def fnExactColourCurvesWrong : ChangeSpec := { name := "fnExactColourCurves", fn := fun _ => fun
  | [d] => { results := [.lit (.bool false)], args := [d] }
  | _ => none }
def FnExactColourCurvesWrongFalsely : Prop := fnExactColourCurvesRow.holds Try.pinned (OpenSpec.ofChange fnExactColourCurvesWrong)

/-- 'laws.FnExactCurveNeighbours': WHATEVER THE INPUT: true; the input reads as it did. -/
def fnExactCurveNeighboursSpec : ChangeSpec := { name := "fnExactCurveNeighbours", fn := fun _ => fun
  | [d1, d2] => { results := [.lit (.bool true)], args := [d1, d2] }
  | _ => none }
def fnExactCurveNeighboursRow : OpenClaim := { program := "ytinipjijgggjkaa", sum := "ef2a985de79a4e3f90c6036970fc1c50b32fdb8dc3e3113bac45d0110f95abc8", func := "loop.example/g00931/laws.FnExactCurveNeighbours", spec := "fnExactCurveNeighbours", recurses := true, plainKeys := false, apart := false }
def FnExactCurveNeighboursSaid : Prop := fnExactCurveNeighboursRow.holds Try.pinned (OpenSpec.ofChange fnExactCurveNeighboursSpec)

/-- ITS FALSE NEIGHBOUR: 'it returns false'. Refute it at one input. -/
def fnExactCurveNeighboursWrong : ChangeSpec := { name := "fnExactCurveNeighbours", fn := fun _ => fun
  | [d1, d2] => { results := [.lit (.bool false)], args := [d1, d2] }
  | _ => none }
def FnExactCurveNeighboursWrongFalsely : Prop := fnExactCurveNeighboursRow.holds Try.pinned (OpenSpec.ofChange fnExactCurveNeighboursWrong)

/-- 'laws.FnExactFewestColours': WHATEVER THE INPUT: true; the input reads as it did. -/
def fnExactFewestColoursSpec : ChangeSpec := { name := "fnExactFewestColours", fn := fun _ => fun
  | [d] => { results := [.lit (.bool true)], args := [d] }
  | _ => none }
def fnExactFewestColoursRow : OpenClaim := { program := "ytinipjijgggjkaa", sum := "ef2a985de79a4e3f90c6036970fc1c50b32fdb8dc3e3113bac45d0110f95abc8", func := "loop.example/g00931/laws.FnExactFewestColours", spec := "fnExactFewestColours", recurses := true, plainKeys := false, apart := false }
def FnExactFewestColoursSaid : Prop := fnExactFewestColoursRow.holds Try.pinned (OpenSpec.ofChange fnExactFewestColoursSpec)

/-- ITS FALSE NEIGHBOUR: 'it returns false'. Refute it at one input. -/
def fnExactFewestColoursWrong : ChangeSpec := { name := "fnExactFewestColours", fn := fun _ => fun
  | [d] => { results := [.lit (.bool false)], args := [d] }
  | _ => none }
def FnExactFewestColoursWrongFalsely : Prop := fnExactFewestColoursRow.holds Try.pinned (OpenSpec.ofChange fnExactFewestColoursWrong)

/-- 'laws.FnExactRegionNeighbours': WHATEVER THE INPUT: true; the input reads as it did. -/
def fnExactRegionNeighboursSpec : ChangeSpec := { name := "fnExactRegionNeighbours", fn := fun _ => fun
  | [d1, d2] => { results := [.lit (.bool true)], args := [d1, d2] }
  | _ => none }
def fnExactRegionNeighboursRow : OpenClaim := { program := "ytinipjijgggjkaa", sum := "ef2a985de79a4e3f90c6036970fc1c50b32fdb8dc3e3113bac45d0110f95abc8", func := "loop.example/g00931/laws.FnExactRegionNeighbours", spec := "fnExactRegionNeighbours", unfollowed := true, recurses := true, plainKeys := false, apart := false }
def FnExactRegionNeighboursSaid : Prop := fnExactRegionNeighboursRow.holds Try.pinned (OpenSpec.ofChange fnExactRegionNeighboursSpec)

/-- ITS FALSE NEIGHBOUR: 'it returns false'. Refute it at one input. -/
def fnExactRegionNeighboursWrong : ChangeSpec := { name := "fnExactRegionNeighbours", fn := fun _ => fun
  | [d1, d2] => { results := [.lit (.bool false)], args := [d1, d2] }
  | _ => none }
def FnExactRegionNeighboursWrongFalsely : Prop := fnExactRegionNeighboursRow.holds Try.pinned (OpenSpec.ofChange fnExactRegionNeighboursWrong)

/-- 'laws.FnRegions': WHATEVER THE INPUT: true; the input reads as it did. -/
def fnRegionsSpec : ChangeSpec := { name := "fnRegions", fn := fun _ => fun
  | [d] => { results := [.lit (.bool true)], args := [d] }
  | _ => none }
def fnRegionsRow : OpenClaim := { program := "ytinipjijgggjkaa", sum := "ef2a985de79a4e3f90c6036970fc1c50b32fdb8dc3e3113bac45d0110f95abc8", func := "loop.example/g00931/laws.FnRegions", spec := "fnRegions", unfollowed := true, recurses := true, plainKeys := false, apart := false }
def FnRegionsSaid : Prop := fnRegionsRow.holds Try.pinned (OpenSpec.ofChange fnRegionsSpec)

/-- ITS FALSE NEIGHBOUR: 'it returns false'. Refute it at one input. -/
def fnRegionsWrong : ChangeSpec := { name := "fnRegions", fn := fun _ => fun
  | [d] => { results := [.lit (.bool false)], args := [d] }
  | _ => none }
def FnRegionsWrongFalsely : Prop := fnRegionsRow.holds Try.pinned (OpenSpec.ofChange fnRegionsWrong)

/-- 'laws.FnColours': WHATEVER THE INPUT: true; the input reads as it did. -/
def fnColoursSpec : ChangeSpec := { name := "fnColours", fn := fun _ => fun
  | [d] => { results := [.lit (.bool true)], args := [d] }
  | _ => none }
def fnColoursRow : OpenClaim := { program := "ytinipjijgggjkaa", sum := "ef2a985de79a4e3f90c6036970fc1c50b32fdb8dc3e3113bac45d0110f95abc8", func := "loop.example/g00931/laws.FnColours", spec := "fnColours", recurses := true, plainKeys := false, apart := false }
def FnColoursSaid : Prop := fnColoursRow.holds Try.pinned (OpenSpec.ofChange fnColoursSpec)

/-- ITS FALSE NEIGHBOUR: 'it returns false'. Refute it at one input. -/
def fnColoursWrong : ChangeSpec := { name := "fnColours", fn := fun _ => fun
  | [d] => { results := [.lit (.bool false)], args := [d] }
  | _ => none }
def FnColoursWrongFalsely : Prop := fnColoursRow.holds Try.pinned (OpenSpec.ofChange fnColoursWrong)

/-- 'laws.FnStrokes': WHATEVER THE INPUT: true; the input reads as it did. -/
def fnStrokesSpec : ChangeSpec := { name := "fnStrokes", fn := fun _ => fun
  | [d] => { results := [.lit (.bool true)], args := [d] }
  | _ => none }
def fnStrokesRow : OpenClaim := { program := "ytinipjijgggjkaa", sum := "ef2a985de79a4e3f90c6036970fc1c50b32fdb8dc3e3113bac45d0110f95abc8", func := "loop.example/g00931/laws.FnStrokes", spec := "fnStrokes", unfollowed := true, recurses := true, plainKeys := false, apart := false }
def FnStrokesSaid : Prop := fnStrokesRow.holds Try.pinned (OpenSpec.ofChange fnStrokesSpec)

/-- ITS FALSE NEIGHBOUR: 'it returns false'. Refute it at one input. -/
def fnStrokesWrong : ChangeSpec := { name := "fnStrokes", fn := fun _ => fun
  | [d] => { results := [.lit (.bool false)], args := [d] }
  | _ => none }
def FnStrokesWrongFalsely : Prop := fnStrokesRow.holds Try.pinned (OpenSpec.ofChange fnStrokesWrong)

/- THE SECOND FORM. 'bulk': how many values and letters a reading holds, each counted each time it is reached (what is shared counts as often as it is met; a slice's spare places count too). A statement '..UptoSaid' is the law's where the arguments, and the package variables that the reading takes, are together of bulk at most 1048576: NARROWER than '..Said'. Prove '..Said' where nothing that the law and all that it calls make is longer than what came in: it says more and counts as full. Else prove '..UptoSaid'. A law counts once. -/
mutual
def uptoBulk {H : Type} : DataW H → Nat
  | .lit (.string bytes) => bytes.length + 1
  | .lit _ => 1
  | .nil => 1
  | .ptr d => uptoBulk d + 1
  | .slice elems spare => uptoBulkAll elems + uptoBulkAll spare + 1
  | .agg parts => uptoBulkAll parts + 1
  | .iface _ d => uptoBulk d + 1
  | .map entries => uptoBulkEntries entries + 1
  | .held _ => 1
def uptoBulkAll {H : Type} : List (DataW H) → Nat
  | [] => 0
  | d :: r => uptoBulk d + uptoBulkAll r
def uptoBulkEntries {H : Type} : List (Lit × DataW H) → Nat
  | [] => 0
  | x :: r => uptoBulkEntry x + uptoBulkEntries r
def uptoBulkEntry {H : Type} : Lit × DataW H → Nat
  | (.string bytes, d) => bytes.length + uptoBulk d + 1
  | (_, d) => uptoBulk d + 1
 end
def uptoSmall : (H : Type) → List (DataW H) → Bool := fun _ ds => decide (uptoBulkAll ds ≤ 1048576)
def OpenSpec.upto (s : _root_.Go.ChangeSpec) : _root_.Go.OpenSpec := { _root_.Go.OpenSpec.ofChange s with cond := some uptoSmall }

/-- 'laws.FnExactCountRegions', WHERE WHAT IT READS IS OF BULK AT MOST 1048576: true; the input reads as it did. -/
def fnExactCountRegionsUptoRow : OpenClaim := { program := "ytinipjijgggjkaa", sum := "ef2a985de79a4e3f90c6036970fc1c50b32fdb8dc3e3113bac45d0110f95abc8", func := "loop.example/g00931/laws.FnExactCountRegions", spec := "fnExactCountRegions", unfollowed := true, recurses := true, plainKeys := false, apart := false, narrowed := true }
def FnExactCountRegionsUptoSaid : Prop := fnExactCountRegionsUptoRow.holds Try.pinned (OpenSpec.upto fnExactCountRegionsSpec)

/-- 'laws.FnExactRegionAt', WHERE WHAT IT READS IS OF BULK AT MOST 1048576: true; the input reads as it did. -/
def fnExactRegionAtUptoRow : OpenClaim := { program := "ytinipjijgggjkaa", sum := "ef2a985de79a4e3f90c6036970fc1c50b32fdb8dc3e3113bac45d0110f95abc8", func := "loop.example/g00931/laws.FnExactRegionAt", spec := "fnExactRegionAt", unfollowed := true, recurses := true, plainKeys := false, apart := false, narrowed := true }
def FnExactRegionAtUptoSaid : Prop := fnExactRegionAtUptoRow.holds Try.pinned (OpenSpec.upto fnExactRegionAtSpec)

/-- 'laws.FnExactShadeOf', WHERE WHAT IT READS IS OF BULK AT MOST 1048576: true; the input reads as it did. -/
def fnExactShadeOfUptoRow : OpenClaim := { program := "ytinipjijgggjkaa", sum := "ef2a985de79a4e3f90c6036970fc1c50b32fdb8dc3e3113bac45d0110f95abc8", func := "loop.example/g00931/laws.FnExactShadeOf", spec := "fnExactShadeOf", unfollowed := true, recurses := true, plainKeys := false, apart := false, narrowed := true }
def FnExactShadeOfUptoSaid : Prop := fnExactShadeOfUptoRow.holds Try.pinned (OpenSpec.upto fnExactShadeOfSpec)

/-- 'laws.FnExactRegionsOf', WHERE WHAT IT READS IS OF BULK AT MOST 1048576: true; the input reads as it did. -/
def fnExactRegionsOfUptoRow : OpenClaim := { program := "ytinipjijgggjkaa", sum := "ef2a985de79a4e3f90c6036970fc1c50b32fdb8dc3e3113bac45d0110f95abc8", func := "loop.example/g00931/laws.FnExactRegionsOf", spec := "fnExactRegionsOf", unfollowed := true, recurses := true, plainKeys := false, apart := false, narrowed := true }
def FnExactRegionsOfUptoSaid : Prop := fnExactRegionsOfUptoRow.holds Try.pinned (OpenSpec.upto fnExactRegionsOfSpec)

/-- 'laws.FnExactIsColouring', WHERE WHAT IT READS IS OF BULK AT MOST 1048576: true; the input reads as it did. -/
def fnExactIsColouringUptoRow : OpenClaim := { program := "ytinipjijgggjkaa", sum := "ef2a985de79a4e3f90c6036970fc1c50b32fdb8dc3e3113bac45d0110f95abc8", func := "loop.example/g00931/laws.FnExactIsColouring", spec := "fnExactIsColouring", recurses := true, plainKeys := false, apart := false, narrowed := true }
def FnExactIsColouringUptoSaid : Prop := fnExactIsColouringUptoRow.holds Try.pinned (OpenSpec.upto fnExactIsColouringSpec)

/-- 'laws.FnExactColourCurves', WHERE WHAT IT READS IS OF BULK AT MOST 1048576: true; the input reads as it did. -/
def fnExactColourCurvesUptoRow : OpenClaim := { program := "ytinipjijgggjkaa", sum := "ef2a985de79a4e3f90c6036970fc1c50b32fdb8dc3e3113bac45d0110f95abc8", func := "loop.example/g00931/laws.FnExactColourCurves", spec := "fnExactColourCurves", recurses := true, plainKeys := false, apart := false, narrowed := true }
def FnExactColourCurvesUptoSaid : Prop := fnExactColourCurvesUptoRow.holds Try.pinned (OpenSpec.upto fnExactColourCurvesSpec)

/-- 'laws.FnExactCurveNeighbours', WHERE WHAT IT READS IS OF BULK AT MOST 1048576: true; the input reads as it did. -/
def fnExactCurveNeighboursUptoRow : OpenClaim := { program := "ytinipjijgggjkaa", sum := "ef2a985de79a4e3f90c6036970fc1c50b32fdb8dc3e3113bac45d0110f95abc8", func := "loop.example/g00931/laws.FnExactCurveNeighbours", spec := "fnExactCurveNeighbours", recurses := true, plainKeys := false, apart := false, narrowed := true }
def FnExactCurveNeighboursUptoSaid : Prop := fnExactCurveNeighboursUptoRow.holds Try.pinned (OpenSpec.upto fnExactCurveNeighboursSpec)

/-- 'laws.FnExactFewestColours', WHERE WHAT IT READS IS OF BULK AT MOST 1048576: true; the input reads as it did. -/
def fnExactFewestColoursUptoRow : OpenClaim := { program := "ytinipjijgggjkaa", sum := "ef2a985de79a4e3f90c6036970fc1c50b32fdb8dc3e3113bac45d0110f95abc8", func := "loop.example/g00931/laws.FnExactFewestColours", spec := "fnExactFewestColours", recurses := true, plainKeys := false, apart := false, narrowed := true }
def FnExactFewestColoursUptoSaid : Prop := fnExactFewestColoursUptoRow.holds Try.pinned (OpenSpec.upto fnExactFewestColoursSpec)

/-- 'laws.FnExactRegionNeighbours', WHERE WHAT IT READS IS OF BULK AT MOST 1048576: true; the input reads as it did. -/
def fnExactRegionNeighboursUptoRow : OpenClaim := { program := "ytinipjijgggjkaa", sum := "ef2a985de79a4e3f90c6036970fc1c50b32fdb8dc3e3113bac45d0110f95abc8", func := "loop.example/g00931/laws.FnExactRegionNeighbours", spec := "fnExactRegionNeighbours", unfollowed := true, recurses := true, plainKeys := false, apart := false, narrowed := true }
def FnExactRegionNeighboursUptoSaid : Prop := fnExactRegionNeighboursUptoRow.holds Try.pinned (OpenSpec.upto fnExactRegionNeighboursSpec)

/-- 'laws.FnRegions', WHERE WHAT IT READS IS OF BULK AT MOST 1048576: true; the input reads as it did. -/
def fnRegionsUptoRow : OpenClaim := { program := "ytinipjijgggjkaa", sum := "ef2a985de79a4e3f90c6036970fc1c50b32fdb8dc3e3113bac45d0110f95abc8", func := "loop.example/g00931/laws.FnRegions", spec := "fnRegions", unfollowed := true, recurses := true, plainKeys := false, apart := false, narrowed := true }
def FnRegionsUptoSaid : Prop := fnRegionsUptoRow.holds Try.pinned (OpenSpec.upto fnRegionsSpec)

/-- 'laws.FnColours', WHERE WHAT IT READS IS OF BULK AT MOST 1048576: true; the input reads as it did. -/
def fnColoursUptoRow : OpenClaim := { program := "ytinipjijgggjkaa", sum := "ef2a985de79a4e3f90c6036970fc1c50b32fdb8dc3e3113bac45d0110f95abc8", func := "loop.example/g00931/laws.FnColours", spec := "fnColours", recurses := true, plainKeys := false, apart := false, narrowed := true }
def FnColoursUptoSaid : Prop := fnColoursUptoRow.holds Try.pinned (OpenSpec.upto fnColoursSpec)

/-- 'laws.FnStrokes', WHERE WHAT IT READS IS OF BULK AT MOST 1048576: true; the input reads as it did. -/
def fnStrokesUptoRow : OpenClaim := { program := "ytinipjijgggjkaa", sum := "ef2a985de79a4e3f90c6036970fc1c50b32fdb8dc3e3113bac45d0110f95abc8", func := "loop.example/g00931/laws.FnStrokes", spec := "fnStrokes", unfollowed := true, recurses := true, plainKeys := false, apart := false, narrowed := true }
def FnStrokesUptoSaid : Prop := fnStrokesUptoRow.holds Try.pinned (OpenSpec.upto fnStrokesSpec)

end Rows
end Go.Proofs.Ytinipjijgggjkaa
