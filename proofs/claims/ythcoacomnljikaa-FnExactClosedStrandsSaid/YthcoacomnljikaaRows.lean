/-
  No cell of these rows narrows 'for every input' (looked for: loops, veiled, ifaces, maps, wideKeys, modest, calm, conditions, laid).
  DERIVED. THE GIVEN ROWS OF THIS SEAT. 12 by the template 'for every input the law returns true; each argument reads behind the call as it read before'; 0 by the template 'total and deterministic' (their statements: YthcoacomnljikaaTotals.lean).
  GIVEN WITH THE SEED: the statements are not yours to turn. If you find one false, say at which input.
  Laid BY PROGRAM, IN A SANDBOX (cutbox-rows.mjs): the forced cells as the released guide's own fill.sh prints them over the translation 75c9e0bd0c25a602… (all of the seat's roots in one cut). By AI agents, Wed Nov 11 2026. No macro, syntax, notation, axiom, sorry.
-/
import Derived.Test.YthcoacomnljikaaChecked
import GoSem.Claim
import GoSem.ClaimJoined
import GoSem.ClaimMapViews
import Derived.JoinedTies
import Derived.KernelRfl
namespace Go.Proofs.Ythcoacomnljikaa
/- THE CELL 'sum', in the pinned program and in every row, IS THE sha256 OF THE DUMP (.gsa) THAT YthcoacomnljikaaProg.lean LOADS. Nothing in Lean hashes anything: it is a label: what it is worth is what the hold of that sum in a sandbox is worth. -/
noncomputable def Try.pinned : Pinned := { name := "ythcoacomnljikaa", sum := "75c9e0bd0c25a602611a1bf8123696f1ff764c8dc0e55c30460f88c404b9a735", checked := Try.checked }
namespace Rows
def none {H : Type} : Left H := { results := [], args := [] }

/-- 'laws.FnExactMovePolygon': WHATEVER THE INPUT: true; the input reads as it did. -/
def fnExactMovePolygonSpec : ChangeSpec := { name := "fnExactMovePolygon", fn := fun _ => fun
  | [d1, d2] => { results := [.lit (.bool true)], args := [d1, d2] }
  | _ => none }
def fnExactMovePolygonRow : OpenClaim := { program := "ythcoacomnljikaa", sum := "75c9e0bd0c25a602611a1bf8123696f1ff764c8dc0e55c30460f88c404b9a735", func := "loop.example/g00931/laws.FnExactMovePolygon", spec := "fnExactMovePolygon", unfollowed := true, recurses := true, apart := false }
def FnExactMovePolygonSaid : Prop := fnExactMovePolygonRow.holds Try.pinned (OpenSpec.ofChange fnExactMovePolygonSpec)

/-- ITS FALSE NEIGHBOUR: 'it returns false'. Refute it at one input. -/
def fnExactMovePolygonWrong : ChangeSpec := { name := "fnExactMovePolygon", fn := fun _ => fun
  | [d1, d2] => { results := [.lit (.bool false)], args := [d1, d2] }
  | _ => none }
def FnExactMovePolygonWrongFalsely : Prop := fnExactMovePolygonRow.holds Try.pinned (OpenSpec.ofChange fnExactMovePolygonWrong)

/-- 'laws.FnExactRowsOf': WHATEVER THE INPUT: true; the input reads as it did. -/
def fnExactRowsOfSpec : ChangeSpec := { name := "fnExactRowsOf", fn := fun _ => fun
  | [d1, d2] => { results := [.lit (.bool true)], args := [d1, d2] }
  | _ => none }
def fnExactRowsOfRow : OpenClaim := { program := "ythcoacomnljikaa", sum := "75c9e0bd0c25a602611a1bf8123696f1ff764c8dc0e55c30460f88c404b9a735", func := "loop.example/g00931/laws.FnExactRowsOf", spec := "fnExactRowsOf", apart := false }
def FnExactRowsOfSaid : Prop := fnExactRowsOfRow.holds Try.pinned (OpenSpec.ofChange fnExactRowsOfSpec)

/-- ITS FALSE NEIGHBOUR: 'it returns false'. Refute it at one input. -/
def fnExactRowsOfWrong : ChangeSpec := { name := "fnExactRowsOf", fn := fun _ => fun
  | [d1, d2] => { results := [.lit (.bool false)], args := [d1, d2] }
  | _ => none }
def FnExactRowsOfWrongFalsely : Prop := fnExactRowsOfRow.holds Try.pinned (OpenSpec.ofChange fnExactRowsOfWrong)

/-- 'laws.FnExactPathText': WHATEVER THE INPUT: true; the input reads as it did. -/
def fnExactPathTextSpec : ChangeSpec := { name := "fnExactPathText", fn := fun _ => fun
  | [d] => { results := [.lit (.bool true)], args := [d] }
  | _ => none }
def fnExactPathTextRow : OpenClaim := { program := "ythcoacomnljikaa", sum := "75c9e0bd0c25a602611a1bf8123696f1ff764c8dc0e55c30460f88c404b9a735", func := "loop.example/g00931/laws.FnExactPathText", spec := "fnExactPathText", unfollowed := true, recurses := true, apart := false }
def FnExactPathTextSaid : Prop := fnExactPathTextRow.holds Try.pinned (OpenSpec.ofChange fnExactPathTextSpec)

/-- ITS FALSE NEIGHBOUR: 'it returns false'. Refute it at one input. -/
def fnExactPathTextWrong : ChangeSpec := { name := "fnExactPathText", fn := fun _ => fun
  | [d] => { results := [.lit (.bool false)], args := [d] }
  | _ => none }
def FnExactPathTextWrongFalsely : Prop := fnExactPathTextRow.holds Try.pinned (OpenSpec.ofChange fnExactPathTextWrong)

/-- 'laws.FnExactPathOfStrand': WHATEVER THE INPUT: true; the input reads as it did. -/
def fnExactPathOfStrandSpec : ChangeSpec := { name := "fnExactPathOfStrand", fn := fun _ => fun
  | [d1, d2, d3] => { results := [.lit (.bool true)], args := [d1, d2, d3] }
  | _ => none }
def fnExactPathOfStrandRow : OpenClaim := { program := "ythcoacomnljikaa", sum := "75c9e0bd0c25a602611a1bf8123696f1ff764c8dc0e55c30460f88c404b9a735", func := "loop.example/g00931/laws.FnExactPathOfStrand", spec := "fnExactPathOfStrand", unfollowed := true, recurses := true, apart := false }
def FnExactPathOfStrandSaid : Prop := fnExactPathOfStrandRow.holds Try.pinned (OpenSpec.ofChange fnExactPathOfStrandSpec)

/-- ITS FALSE NEIGHBOUR: 'it returns false'. Refute it at one input. -/
def fnExactPathOfStrandWrong : ChangeSpec := { name := "fnExactPathOfStrand", fn := fun _ => fun
  | [d1, d2, d3] => { results := [.lit (.bool false)], args := [d1, d2, d3] }
  | _ => none }
def FnExactPathOfStrandWrongFalsely : Prop := fnExactPathOfStrandRow.holds Try.pinned (OpenSpec.ofChange fnExactPathOfStrandWrong)

/-- 'laws.FnExactInPolygon': WHATEVER THE INPUT: true; the input reads as it did. -/
def fnExactInPolygonSpec : ChangeSpec := { name := "fnExactInPolygon", fn := fun _ => fun
  | [d1, d2] => { results := [.lit (.bool true)], args := [d1, d2] }
  | _ => none }
def fnExactInPolygonRow : OpenClaim := { program := "ythcoacomnljikaa", sum := "75c9e0bd0c25a602611a1bf8123696f1ff764c8dc0e55c30460f88c404b9a735", func := "loop.example/g00931/laws.FnExactInPolygon", spec := "fnExactInPolygon", unfollowed := true, recurses := true, apart := false }
def FnExactInPolygonSaid : Prop := fnExactInPolygonRow.holds Try.pinned (OpenSpec.ofChange fnExactInPolygonSpec)

/-- ITS FALSE NEIGHBOUR: 'it returns false'. Refute it at one input. -/
def fnExactInPolygonWrong : ChangeSpec := { name := "fnExactInPolygon", fn := fun _ => fun
  | [d1, d2] => { results := [.lit (.bool false)], args := [d1, d2] }
  | _ => none }
def FnExactInPolygonWrongFalsely : Prop := fnExactInPolygonRow.holds Try.pinned (OpenSpec.ofChange fnExactInPolygonWrong)

/-- 'laws.FnExactLayersOf': WHATEVER THE INPUT: true; the input reads as it did. -/
def fnExactLayersOfSpec : ChangeSpec := { name := "fnExactLayersOf", fn := fun _ => fun
  | [d1, d2] => { results := [.lit (.bool true)], args := [d1, d2] }
  | _ => none }
def fnExactLayersOfRow : OpenClaim := { program := "ythcoacomnljikaa", sum := "75c9e0bd0c25a602611a1bf8123696f1ff764c8dc0e55c30460f88c404b9a735", func := "loop.example/g00931/laws.FnExactLayersOf", spec := "fnExactLayersOf", apart := false }
def FnExactLayersOfSaid : Prop := fnExactLayersOfRow.holds Try.pinned (OpenSpec.ofChange fnExactLayersOfSpec)

/-- ITS FALSE NEIGHBOUR: 'it returns false'. Refute it at one input. -/
def fnExactLayersOfWrong : ChangeSpec := { name := "fnExactLayersOf", fn := fun _ => fun
  | [d1, d2] => { results := [.lit (.bool false)], args := [d1, d2] }
  | _ => none }
def FnExactLayersOfWrongFalsely : Prop := fnExactLayersOfRow.holds Try.pinned (OpenSpec.ofChange fnExactLayersOfWrong)

/-- 'laws.FnExactPlaitPicture': WHATEVER THE INPUT: true; the input reads as it did. -/
def fnExactPlaitPictureSpec : ChangeSpec := { name := "fnExactPlaitPicture", fn := fun _ => fun
  | [d1, d2] => { results := [.lit (.bool true)], args := [d1, d2] }
  | _ => none }
def fnExactPlaitPictureRow : OpenClaim := { program := "ythcoacomnljikaa", sum := "75c9e0bd0c25a602611a1bf8123696f1ff764c8dc0e55c30460f88c404b9a735", func := "loop.example/g00931/laws.FnExactPlaitPicture", spec := "fnExactPlaitPicture", apart := false }
def FnExactPlaitPictureSaid : Prop := fnExactPlaitPictureRow.holds Try.pinned (OpenSpec.ofChange fnExactPlaitPictureSpec)

/-- ITS FALSE NEIGHBOUR: 'it returns false'. Refute it at one input. -/
def fnExactPlaitPictureWrong : ChangeSpec := { name := "fnExactPlaitPicture", fn := fun _ => fun
  | [d1, d2] => { results := [.lit (.bool false)], args := [d1, d2] }
  | _ => none }
def FnExactPlaitPictureWrongFalsely : Prop := fnExactPlaitPictureRow.holds Try.pinned (OpenSpec.ofChange fnExactPlaitPictureWrong)

/-- 'laws.FnExactIsConvex': WHATEVER THE INPUT: true; the input reads as it did. -/
def fnExactIsConvexSpec : ChangeSpec := { name := "fnExactIsConvex", fn := fun _ => fun
  | [d] => { results := [.lit (.bool true)], args := [d] }
  | _ => none }
def fnExactIsConvexRow : OpenClaim := { program := "ythcoacomnljikaa", sum := "75c9e0bd0c25a602611a1bf8123696f1ff764c8dc0e55c30460f88c404b9a735", func := "loop.example/g00931/laws.FnExactIsConvex", spec := "fnExactIsConvex", unfollowed := true, recurses := true, apart := false }
def FnExactIsConvexSaid : Prop := fnExactIsConvexRow.holds Try.pinned (OpenSpec.ofChange fnExactIsConvexSpec)

/-- ITS FALSE NEIGHBOUR: 'it returns false'. Refute it at one input. -/
def fnExactIsConvexWrong : ChangeSpec := { name := "fnExactIsConvex", fn := fun _ => fun
  | [d] => { results := [.lit (.bool false)], args := [d] }
  | _ => none }
def FnExactIsConvexWrongFalsely : Prop := fnExactIsConvexRow.holds Try.pinned (OpenSpec.ofChange fnExactIsConvexWrong)

/-- 'laws.FnExactToolText': WHATEVER THE INPUT: true; the input reads as it did. -/
def fnExactToolTextSpec : ChangeSpec := { name := "fnExactToolText", fn := fun _ => fun
  | [d] => { results := [.lit (.bool true)], args := [d] }
  | _ => none }
def fnExactToolTextRow : OpenClaim := { program := "ythcoacomnljikaa", sum := "75c9e0bd0c25a602611a1bf8123696f1ff764c8dc0e55c30460f88c404b9a735", func := "loop.example/g00931/laws.FnExactToolText", spec := "fnExactToolText", apart := false }
def FnExactToolTextSaid : Prop := fnExactToolTextRow.holds Try.pinned (OpenSpec.ofChange fnExactToolTextSpec)

/-- ITS FALSE NEIGHBOUR: 'it returns false'. Refute it at one input. -/
def fnExactToolTextWrong : ChangeSpec := { name := "fnExactToolText", fn := fun _ => fun
  | [d] => { results := [.lit (.bool false)], args := [d] }
  | _ => none }
def FnExactToolTextWrongFalsely : Prop := fnExactToolTextRow.holds Try.pinned (OpenSpec.ofChange fnExactToolTextWrong)

/-- 'laws.FnExactClosedStrands': WHATEVER THE INPUT: true; the input reads as it did. -/
def fnExactClosedStrandsSpec : ChangeSpec := { name := "fnExactClosedStrands", fn := fun _ => fun
  | [d1, d2] => { results := [.lit (.bool true)], args := [d1, d2] }
  | _ => none }
def fnExactClosedStrandsRow : OpenClaim := { program := "ythcoacomnljikaa", sum := "75c9e0bd0c25a602611a1bf8123696f1ff764c8dc0e55c30460f88c404b9a735", func := "loop.example/g00931/laws.FnExactClosedStrands", spec := "fnExactClosedStrands", unfollowed := true, recurses := true, apart := false }
def FnExactClosedStrandsSaid : Prop := fnExactClosedStrandsRow.holds Try.pinned (OpenSpec.ofChange fnExactClosedStrandsSpec)

/-- ITS FALSE NEIGHBOUR: 'it returns false'. Refute it at one input. -/
def fnExactClosedStrandsWrong : ChangeSpec := { name := "fnExactClosedStrands", fn := fun _ => fun
  | [d1, d2] => { results := [.lit (.bool false)], args := [d1, d2] }
  | _ => none }
def FnExactClosedStrandsWrongFalsely : Prop := fnExactClosedStrandsRow.holds Try.pinned (OpenSpec.ofChange fnExactClosedStrandsWrong)

/-- 'laws.FnExactCheckMoves': WHATEVER THE INPUT: true; the input reads as it did. -/
def fnExactCheckMovesSpec : ChangeSpec := { name := "fnExactCheckMoves", fn := fun _ => fun
  | [d1, d2, d3, d4, d5] => { results := [.lit (.bool true)], args := [d1, d2, d3, d4, d5] }
  | _ => none }
def fnExactCheckMovesRow : OpenClaim := { program := "ythcoacomnljikaa", sum := "75c9e0bd0c25a602611a1bf8123696f1ff764c8dc0e55c30460f88c404b9a735", func := "loop.example/g00931/laws.FnExactCheckMoves", spec := "fnExactCheckMoves", apart := false }
def FnExactCheckMovesSaid : Prop := fnExactCheckMovesRow.holds Try.pinned (OpenSpec.ofChange fnExactCheckMovesSpec)

/-- ITS FALSE NEIGHBOUR: 'it returns false'. Refute it at one input. -/
def fnExactCheckMovesWrong : ChangeSpec := { name := "fnExactCheckMoves", fn := fun _ => fun
  | [d1, d2, d3, d4, d5] => { results := [.lit (.bool false)], args := [d1, d2, d3, d4, d5] }
  | _ => none }
def FnExactCheckMovesWrongFalsely : Prop := fnExactCheckMovesRow.holds Try.pinned (OpenSpec.ofChange fnExactCheckMovesWrong)

/-- 'laws.FnExactStrokeFor': WHATEVER THE INPUT: true; the input reads as it did. -/
def fnExactStrokeForSpec : ChangeSpec := { name := "fnExactStrokeFor", fn := fun _ => fun
  | [d1, d2, d3, d4] => { results := [.lit (.bool true)], args := [d1, d2, d3, d4] }
  | _ => none }
def fnExactStrokeForRow : OpenClaim := { program := "ythcoacomnljikaa", sum := "75c9e0bd0c25a602611a1bf8123696f1ff764c8dc0e55c30460f88c404b9a735", func := "loop.example/g00931/laws.FnExactStrokeFor", spec := "fnExactStrokeFor", apart := false }
def FnExactStrokeForSaid : Prop := fnExactStrokeForRow.holds Try.pinned (OpenSpec.ofChange fnExactStrokeForSpec)

/-- ITS FALSE NEIGHBOUR: 'it returns false'. Refute it at one input. -/
def fnExactStrokeForWrong : ChangeSpec := { name := "fnExactStrokeFor", fn := fun _ => fun
  | [d1, d2, d3, d4] => { results := [.lit (.bool false)], args := [d1, d2, d3, d4] }
  | _ => none }
def FnExactStrokeForWrongFalsely : Prop := fnExactStrokeForRow.holds Try.pinned (OpenSpec.ofChange fnExactStrokeForWrong)

/- THE SECOND FORM. 'bulk': how many values and letters a reading holds, each counted each time it is reached (what is shared counts as often as it is met; a slice's spare places count too). A statement '..UptoSaid' is the law's where the arguments, and the package variables that the reading takes, are together of bulk at most 1048576: NARROWER than '..Said'. Prove '..Said' where nothing that the law and all that it calls make is longer than what came in: it says more and counts as full. Else prove '..UptoSaid'. A law counts once. -/
mutual
def uptoBulk {H : Type} : DataW H → Nat
  | .lit (.string bytes) => bytes.length + 1
  | .lit _ => 1
  | .nil => 1
  | .ptr d => uptoBulk d + 1
  | .slice elems spare => uptoBulkAll elems + uptoBulkAll spare + 1
  | .agg parts => uptoBulkAll parts + 1
  | .iface _ d => uptoBulk d + 1
  | .map entries => uptoBulkEntries entries + 1
  | .held _ => 1
def uptoBulkAll {H : Type} : List (DataW H) → Nat
  | [] => 0
  | d :: r => uptoBulk d + uptoBulkAll r
def uptoBulkEntries {H : Type} : List (Lit × DataW H) → Nat
  | [] => 0
  | x :: r => uptoBulkEntry x + uptoBulkEntries r
def uptoBulkEntry {H : Type} : Lit × DataW H → Nat
  | (.string bytes, d) => bytes.length + uptoBulk d + 1
  | (_, d) => uptoBulk d + 1
 end
def uptoSmall : (H : Type) → List (DataW H) → Bool := fun _ ds => decide (uptoBulkAll ds ≤ 1048576)
def OpenSpec.upto (s : _root_.Go.ChangeSpec) : _root_.Go.OpenSpec := { _root_.Go.OpenSpec.ofChange s with cond := some uptoSmall }

/-- 'laws.FnExactMovePolygon', WHERE WHAT IT READS IS OF BULK AT MOST 1048576: true; the input reads as it did. -/
def fnExactMovePolygonUptoRow : OpenClaim := { program := "ythcoacomnljikaa", sum := "75c9e0bd0c25a602611a1bf8123696f1ff764c8dc0e55c30460f88c404b9a735", func := "loop.example/g00931/laws.FnExactMovePolygon", spec := "fnExactMovePolygon", unfollowed := true, recurses := true, apart := false, narrowed := true }
def FnExactMovePolygonUptoSaid : Prop := fnExactMovePolygonUptoRow.holds Try.pinned (OpenSpec.upto fnExactMovePolygonSpec)

/-- 'laws.FnExactRowsOf', WHERE WHAT IT READS IS OF BULK AT MOST 1048576: true; the input reads as it did. -/
def fnExactRowsOfUptoRow : OpenClaim := { program := "ythcoacomnljikaa", sum := "75c9e0bd0c25a602611a1bf8123696f1ff764c8dc0e55c30460f88c404b9a735", func := "loop.example/g00931/laws.FnExactRowsOf", spec := "fnExactRowsOf", apart := false, narrowed := true }
def FnExactRowsOfUptoSaid : Prop := fnExactRowsOfUptoRow.holds Try.pinned (OpenSpec.upto fnExactRowsOfSpec)

/-- 'laws.FnExactPathText', WHERE WHAT IT READS IS OF BULK AT MOST 1048576: true; the input reads as it did. -/
def fnExactPathTextUptoRow : OpenClaim := { program := "ythcoacomnljikaa", sum := "75c9e0bd0c25a602611a1bf8123696f1ff764c8dc0e55c30460f88c404b9a735", func := "loop.example/g00931/laws.FnExactPathText", spec := "fnExactPathText", unfollowed := true, recurses := true, apart := false, narrowed := true }
def FnExactPathTextUptoSaid : Prop := fnExactPathTextUptoRow.holds Try.pinned (OpenSpec.upto fnExactPathTextSpec)

/-- 'laws.FnExactPathOfStrand', WHERE WHAT IT READS IS OF BULK AT MOST 1048576: true; the input reads as it did. -/
def fnExactPathOfStrandUptoRow : OpenClaim := { program := "ythcoacomnljikaa", sum := "75c9e0bd0c25a602611a1bf8123696f1ff764c8dc0e55c30460f88c404b9a735", func := "loop.example/g00931/laws.FnExactPathOfStrand", spec := "fnExactPathOfStrand", unfollowed := true, recurses := true, apart := false, narrowed := true }
def FnExactPathOfStrandUptoSaid : Prop := fnExactPathOfStrandUptoRow.holds Try.pinned (OpenSpec.upto fnExactPathOfStrandSpec)

/-- 'laws.FnExactInPolygon', WHERE WHAT IT READS IS OF BULK AT MOST 1048576: true; the input reads as it did. -/
def fnExactInPolygonUptoRow : OpenClaim := { program := "ythcoacomnljikaa", sum := "75c9e0bd0c25a602611a1bf8123696f1ff764c8dc0e55c30460f88c404b9a735", func := "loop.example/g00931/laws.FnExactInPolygon", spec := "fnExactInPolygon", unfollowed := true, recurses := true, apart := false, narrowed := true }
def FnExactInPolygonUptoSaid : Prop := fnExactInPolygonUptoRow.holds Try.pinned (OpenSpec.upto fnExactInPolygonSpec)

/-- 'laws.FnExactLayersOf', WHERE WHAT IT READS IS OF BULK AT MOST 1048576: true; the input reads as it did. -/
def fnExactLayersOfUptoRow : OpenClaim := { program := "ythcoacomnljikaa", sum := "75c9e0bd0c25a602611a1bf8123696f1ff764c8dc0e55c30460f88c404b9a735", func := "loop.example/g00931/laws.FnExactLayersOf", spec := "fnExactLayersOf", apart := false, narrowed := true }
def FnExactLayersOfUptoSaid : Prop := fnExactLayersOfUptoRow.holds Try.pinned (OpenSpec.upto fnExactLayersOfSpec)

/-- 'laws.FnExactPlaitPicture', WHERE WHAT IT READS IS OF BULK AT MOST 1048576: true; the input reads as it did. -/
def fnExactPlaitPictureUptoRow : OpenClaim := { program := "ythcoacomnljikaa", sum := "75c9e0bd0c25a602611a1bf8123696f1ff764c8dc0e55c30460f88c404b9a735", func := "loop.example/g00931/laws.FnExactPlaitPicture", spec := "fnExactPlaitPicture", apart := false, narrowed := true }
def FnExactPlaitPictureUptoSaid : Prop := fnExactPlaitPictureUptoRow.holds Try.pinned (OpenSpec.upto fnExactPlaitPictureSpec)

/-- 'laws.FnExactIsConvex', WHERE WHAT IT READS IS OF BULK AT MOST 1048576: true; the input reads as it did. -/
def fnExactIsConvexUptoRow : OpenClaim := { program := "ythcoacomnljikaa", sum := "75c9e0bd0c25a602611a1bf8123696f1ff764c8dc0e55c30460f88c404b9a735", func := "loop.example/g00931/laws.FnExactIsConvex", spec := "fnExactIsConvex", unfollowed := true, recurses := true, apart := false, narrowed := true }
def FnExactIsConvexUptoSaid : Prop := fnExactIsConvexUptoRow.holds Try.pinned (OpenSpec.upto fnExactIsConvexSpec)

/-- 'laws.FnExactToolText', WHERE WHAT IT READS IS OF BULK AT MOST 1048576: true; the input reads as it did. -/
def fnExactToolTextUptoRow : OpenClaim := { program := "ythcoacomnljikaa", sum := "75c9e0bd0c25a602611a1bf8123696f1ff764c8dc0e55c30460f88c404b9a735", func := "loop.example/g00931/laws.FnExactToolText", spec := "fnExactToolText", apart := false, narrowed := true }
def FnExactToolTextUptoSaid : Prop := fnExactToolTextUptoRow.holds Try.pinned (OpenSpec.upto fnExactToolTextSpec)

/-- 'laws.FnExactClosedStrands', WHERE WHAT IT READS IS OF BULK AT MOST 1048576: true; the input reads as it did. -/
def fnExactClosedStrandsUptoRow : OpenClaim := { program := "ythcoacomnljikaa", sum := "75c9e0bd0c25a602611a1bf8123696f1ff764c8dc0e55c30460f88c404b9a735", func := "loop.example/g00931/laws.FnExactClosedStrands", spec := "fnExactClosedStrands", unfollowed := true, recurses := true, apart := false, narrowed := true }
def FnExactClosedStrandsUptoSaid : Prop := fnExactClosedStrandsUptoRow.holds Try.pinned (OpenSpec.upto fnExactClosedStrandsSpec)

/-- 'laws.FnExactCheckMoves', WHERE WHAT IT READS IS OF BULK AT MOST 1048576: true; the input reads as it did. -/
def fnExactCheckMovesUptoRow : OpenClaim := { program := "ythcoacomnljikaa", sum := "75c9e0bd0c25a602611a1bf8123696f1ff764c8dc0e55c30460f88c404b9a735", func := "loop.example/g00931/laws.FnExactCheckMoves", spec := "fnExactCheckMoves", apart := false, narrowed := true }
def FnExactCheckMovesUptoSaid : Prop := fnExactCheckMovesUptoRow.holds Try.pinned (OpenSpec.upto fnExactCheckMovesSpec)

/-- 'laws.FnExactStrokeFor', WHERE WHAT IT READS IS OF BULK AT MOST 1048576: true; the input reads as it did. -/
def fnExactStrokeForUptoRow : OpenClaim := { program := "ythcoacomnljikaa", sum := "75c9e0bd0c25a602611a1bf8123696f1ff764c8dc0e55c30460f88c404b9a735", func := "loop.example/g00931/laws.FnExactStrokeFor", spec := "fnExactStrokeFor", apart := false, narrowed := true }
def FnExactStrokeForUptoSaid : Prop := fnExactStrokeForUptoRow.holds Try.pinned (OpenSpec.upto fnExactStrokeForSpec)

end Rows
end Go.Proofs.Ythcoacomnljikaa
