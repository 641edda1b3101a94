/-
  No cell of these rows narrows 'for every input' (looked for: loops, veiled, ifaces, maps, wideKeys, modest, calm, conditions, laid).
  DERIVED. THE GIVEN ROWS OF THIS SEAT. 12 by the template 'for every input the law returns true; each argument reads behind the call as it read before'; 0 by the template 'total and deterministic' (their statements: YthcbifffelaaoaaTotals.lean).
  GIVEN WITH THE SEED: the statements are not yours to turn. If you find one false, say at which input.
  Laid BY PROGRAM, IN A SANDBOX (cutbox-rows.mjs): the forced cells as the released guide's own fill.sh prints them over the translation 00ff81864ca4556a… (all of the seat's roots in one cut). By AI agents, Wed Nov 11 2026. No macro, syntax, notation, axiom, sorry.
-/
import Derived.Test.YthcbifffelaaoaaChecked
import GoSem.Claim
import GoSem.ClaimJoined
import GoSem.ClaimMapViews
import Derived.JoinedTies
import Derived.KernelRfl
namespace Go.Proofs.Ythcbifffelaaoaa
/- THE CELL 'sum', in the pinned program and in every row, IS THE sha256 OF THE DUMP (.gsa) THAT YthcbifffelaaoaaProg.lean LOADS. Nothing in Lean hashes anything: it is a label: what it is worth is what the hold of that sum in a sandbox is worth. -/
noncomputable def Try.pinned : Pinned := { name := "ythcbifffelaaoaa", sum := "00ff81864ca4556ac595bb73d670076af4f30a02d6ed1defea86da01e8023141", checked := Try.checked }
namespace Rows
def none {H : Type} : Left H := { results := [], args := [] }

/-- 'laws.FnExactValidWord': WHATEVER THE INPUT: true; the input reads as it did. -/
def fnExactValidWordSpec : ChangeSpec := { name := "fnExactValidWord", fn := fun _ => fun
  | [d1, d2] => { results := [.lit (.bool true)], args := [d1, d2] }
  | _ => none }
def fnExactValidWordRow : OpenClaim := { program := "ythcbifffelaaoaa", sum := "00ff81864ca4556ac595bb73d670076af4f30a02d6ed1defea86da01e8023141", func := "loop.example/g00931/laws.FnExactValidWord", spec := "fnExactValidWord", apart := false }
def FnExactValidWordSaid : Prop := fnExactValidWordRow.holds Try.pinned (OpenSpec.ofChange fnExactValidWordSpec)

/-- ITS FALSE NEIGHBOUR: 'it returns false'. Refute it at one input. -/
def fnExactValidWordWrong : ChangeSpec := { name := "fnExactValidWord", fn := fun _ => fun
  | [d1, d2] => { results := [.lit (.bool false)], args := [d1, d2] }
  | _ => none }
def FnExactValidWordWrongFalsely : Prop := fnExactValidWordRow.holds Try.pinned (OpenSpec.ofChange fnExactValidWordWrong)

/-- 'laws.FnExactPlainPlait': WHATEVER THE INPUT: true; the input reads as it did. -/
def fnExactPlainPlaitSpec : ChangeSpec := { name := "fnExactPlainPlait", fn := fun _ => fun
  | [d1, d2] => { results := [.lit (.bool true)], args := [d1, d2] }
  | _ => none }
def fnExactPlainPlaitRow : OpenClaim := { program := "ythcbifffelaaoaa", sum := "00ff81864ca4556ac595bb73d670076af4f30a02d6ed1defea86da01e8023141", func := "loop.example/g00931/laws.FnExactPlainPlait", spec := "fnExactPlainPlait", apart := false }
def FnExactPlainPlaitSaid : Prop := fnExactPlainPlaitRow.holds Try.pinned (OpenSpec.ofChange fnExactPlainPlaitSpec)

/-- ITS FALSE NEIGHBOUR: 'it returns false'. Refute it at one input. -/
def fnExactPlainPlaitWrong : ChangeSpec := { name := "fnExactPlainPlait", fn := fun _ => fun
  | [d1, d2] => { results := [.lit (.bool false)], args := [d1, d2] }
  | _ => none }
def FnExactPlainPlaitWrongFalsely : Prop := fnExactPlainPlaitRow.holds Try.pinned (OpenSpec.ofChange fnExactPlainPlaitWrong)

/-- 'laws.FnExactInverseWord': WHATEVER THE INPUT: true; the input reads as it did. -/
def fnExactInverseWordSpec : ChangeSpec := { name := "fnExactInverseWord", fn := fun _ => fun
  | [d1, d2] => { results := [.lit (.bool true)], args := [d1, d2] }
  | _ => none }
def fnExactInverseWordRow : OpenClaim := { program := "ythcbifffelaaoaa", sum := "00ff81864ca4556ac595bb73d670076af4f30a02d6ed1defea86da01e8023141", func := "loop.example/g00931/laws.FnExactInverseWord", spec := "fnExactInverseWord", apart := false }
def FnExactInverseWordSaid : Prop := fnExactInverseWordRow.holds Try.pinned (OpenSpec.ofChange fnExactInverseWordSpec)

/-- ITS FALSE NEIGHBOUR: 'it returns false'. Refute it at one input. -/
def fnExactInverseWordWrong : ChangeSpec := { name := "fnExactInverseWord", fn := fun _ => fun
  | [d1, d2] => { results := [.lit (.bool false)], args := [d1, d2] }
  | _ => none }
def FnExactInverseWordWrongFalsely : Prop := fnExactInverseWordRow.holds Try.pinned (OpenSpec.ofChange fnExactInverseWordWrong)

/-- 'laws.FnExactReduceWord': WHATEVER THE INPUT: true; the input reads as it did. -/
def fnExactReduceWordSpec : ChangeSpec := { name := "fnExactReduceWord", fn := fun _ => fun
  | [d1, d2] => { results := [.lit (.bool true)], args := [d1, d2] }
  | _ => none }
def fnExactReduceWordRow : OpenClaim := { program := "ythcbifffelaaoaa", sum := "00ff81864ca4556ac595bb73d670076af4f30a02d6ed1defea86da01e8023141", func := "loop.example/g00931/laws.FnExactReduceWord", spec := "fnExactReduceWord", apart := false }
def FnExactReduceWordSaid : Prop := fnExactReduceWordRow.holds Try.pinned (OpenSpec.ofChange fnExactReduceWordSpec)

/-- ITS FALSE NEIGHBOUR: 'it returns false'. Refute it at one input. -/
def fnExactReduceWordWrong : ChangeSpec := { name := "fnExactReduceWord", fn := fun _ => fun
  | [d1, d2] => { results := [.lit (.bool false)], args := [d1, d2] }
  | _ => none }
def FnExactReduceWordWrongFalsely : Prop := fnExactReduceWordRow.holds Try.pinned (OpenSpec.ofChange fnExactReduceWordWrong)

/-- 'laws.FnExactDoubleArea': WHATEVER THE INPUT: true; the input reads as it did. -/
def fnExactDoubleAreaSpec : ChangeSpec := { name := "fnExactDoubleArea", fn := fun _ => fun
  | [d] => { results := [.lit (.bool true)], args := [d] }
  | _ => none }
def fnExactDoubleAreaRow : OpenClaim := { program := "ythcbifffelaaoaa", sum := "00ff81864ca4556ac595bb73d670076af4f30a02d6ed1defea86da01e8023141", func := "loop.example/g00931/laws.FnExactDoubleArea", spec := "fnExactDoubleArea", unfollowed := true, recurses := true, apart := false }
def FnExactDoubleAreaSaid : Prop := fnExactDoubleAreaRow.holds Try.pinned (OpenSpec.ofChange fnExactDoubleAreaSpec)

/-- ITS FALSE NEIGHBOUR: 'it returns false'. Refute it at one input. -/
def fnExactDoubleAreaWrong : ChangeSpec := { name := "fnExactDoubleArea", fn := fun _ => fun
  | [d] => { results := [.lit (.bool false)], args := [d] }
  | _ => none }
def FnExactDoubleAreaWrongFalsely : Prop := fnExactDoubleAreaRow.holds Try.pinned (OpenSpec.ofChange fnExactDoubleAreaWrong)

/-- 'laws.FnExactCutLength': WHATEVER THE INPUT: true; the input reads as it did. -/
def fnExactCutLengthSpec : ChangeSpec := { name := "fnExactCutLength", fn := fun _ => fun
  | [d] => { results := [.lit (.bool true)], args := [d] }
  | _ => none }
def fnExactCutLengthRow : OpenClaim := { program := "ythcbifffelaaoaa", sum := "00ff81864ca4556ac595bb73d670076af4f30a02d6ed1defea86da01e8023141", func := "loop.example/g00931/laws.FnExactCutLength", spec := "fnExactCutLength", apart := false }
def FnExactCutLengthSaid : Prop := fnExactCutLengthRow.holds Try.pinned (OpenSpec.ofChange fnExactCutLengthSpec)

/-- ITS FALSE NEIGHBOUR: 'it returns false'. Refute it at one input. -/
def fnExactCutLengthWrong : ChangeSpec := { name := "fnExactCutLength", fn := fun _ => fun
  | [d] => { results := [.lit (.bool false)], args := [d] }
  | _ => none }
def FnExactCutLengthWrongFalsely : Prop := fnExactCutLengthRow.holds Try.pinned (OpenSpec.ofChange fnExactCutLengthWrong)

/-- 'laws.FnExactTravelLength': WHATEVER THE INPUT: true; the input reads as it did. -/
def fnExactTravelLengthSpec : ChangeSpec := { name := "fnExactTravelLength", fn := fun _ => fun
  | [d] => { results := [.lit (.bool true)], args := [d] }
  | _ => none }
def fnExactTravelLengthRow : OpenClaim := { program := "ythcbifffelaaoaa", sum := "00ff81864ca4556ac595bb73d670076af4f30a02d6ed1defea86da01e8023141", func := "loop.example/g00931/laws.FnExactTravelLength", spec := "fnExactTravelLength", apart := false }
def FnExactTravelLengthSaid : Prop := fnExactTravelLengthRow.holds Try.pinned (OpenSpec.ofChange fnExactTravelLengthSpec)

/-- ITS FALSE NEIGHBOUR: 'it returns false'. Refute it at one input. -/
def fnExactTravelLengthWrong : ChangeSpec := { name := "fnExactTravelLength", fn := fun _ => fun
  | [d] => { results := [.lit (.bool false)], args := [d] }
  | _ => none }
def FnExactTravelLengthWrongFalsely : Prop := fnExactTravelLengthRow.holds Try.pinned (OpenSpec.ofChange fnExactTravelLengthWrong)

/-- 'laws.FnExactPolygonBox': WHATEVER THE INPUT: true; the input reads as it did. -/
def fnExactPolygonBoxSpec : ChangeSpec := { name := "fnExactPolygonBox", fn := fun _ => fun
  | [d] => { results := [.lit (.bool true)], args := [d] }
  | _ => none }
def fnExactPolygonBoxRow : OpenClaim := { program := "ythcbifffelaaoaa", sum := "00ff81864ca4556ac595bb73d670076af4f30a02d6ed1defea86da01e8023141", func := "loop.example/g00931/laws.FnExactPolygonBox", spec := "fnExactPolygonBox", unfollowed := true, recurses := true, apart := false }
def FnExactPolygonBoxSaid : Prop := fnExactPolygonBoxRow.holds Try.pinned (OpenSpec.ofChange fnExactPolygonBoxSpec)

/-- ITS FALSE NEIGHBOUR: 'it returns false'. Refute it at one input. -/
def fnExactPolygonBoxWrong : ChangeSpec := { name := "fnExactPolygonBox", fn := fun _ => fun
  | [d] => { results := [.lit (.bool false)], args := [d] }
  | _ => none }
def FnExactPolygonBoxWrongFalsely : Prop := fnExactPolygonBoxRow.holds Try.pinned (OpenSpec.ofChange fnExactPolygonBoxWrong)

/-- 'laws.FnExactWordText': WHATEVER THE INPUT: true; the input reads as it did. -/
def fnExactWordTextSpec : ChangeSpec := { name := "fnExactWordText", fn := fun _ => fun
  | [d] => { results := [.lit (.bool true)], args := [d] }
  | _ => none }
def fnExactWordTextRow : OpenClaim := { program := "ythcbifffelaaoaa", sum := "00ff81864ca4556ac595bb73d670076af4f30a02d6ed1defea86da01e8023141", func := "loop.example/g00931/laws.FnExactWordText", spec := "fnExactWordText", apart := false }
def FnExactWordTextSaid : Prop := fnExactWordTextRow.holds Try.pinned (OpenSpec.ofChange fnExactWordTextSpec)

/-- ITS FALSE NEIGHBOUR: 'it returns false'. Refute it at one input. -/
def fnExactWordTextWrong : ChangeSpec := { name := "fnExactWordText", fn := fun _ => fun
  | [d] => { results := [.lit (.bool false)], args := [d] }
  | _ => none }
def FnExactWordTextWrongFalsely : Prop := fnExactWordTextRow.holds Try.pinned (OpenSpec.ofChange fnExactWordTextWrong)

/-- 'laws.FnExactOrderAfter': WHATEVER THE INPUT: true; the input reads as it did. -/
def fnExactOrderAfterSpec : ChangeSpec := { name := "fnExactOrderAfter", fn := fun _ => fun
  | [d1, d2] => { results := [.lit (.bool true)], args := [d1, d2] }
  | _ => none }
def fnExactOrderAfterRow : OpenClaim := { program := "ythcbifffelaaoaa", sum := "00ff81864ca4556ac595bb73d670076af4f30a02d6ed1defea86da01e8023141", func := "loop.example/g00931/laws.FnExactOrderAfter", spec := "fnExactOrderAfter", unfollowed := true, recurses := true, apart := false }
def FnExactOrderAfterSaid : Prop := fnExactOrderAfterRow.holds Try.pinned (OpenSpec.ofChange fnExactOrderAfterSpec)

/-- ITS FALSE NEIGHBOUR: 'it returns false'. Refute it at one input. -/
def fnExactOrderAfterWrong : ChangeSpec := { name := "fnExactOrderAfter", fn := fun _ => fun
  | [d1, d2] => { results := [.lit (.bool false)], args := [d1, d2] }
  | _ => none }
def FnExactOrderAfterWrongFalsely : Prop := fnExactOrderAfterRow.holds Try.pinned (OpenSpec.ofChange fnExactOrderAfterWrong)

/-- 'laws.FnExactTurnOf': WHATEVER THE INPUT: true; the input reads as it did. -/
def fnExactTurnOfSpec : ChangeSpec := { name := "fnExactTurnOf", fn := fun _ => fun
  | [d] => { results := [.lit (.bool true)], args := [d] }
  | _ => none }
def fnExactTurnOfRow : OpenClaim := { program := "ythcbifffelaaoaa", sum := "00ff81864ca4556ac595bb73d670076af4f30a02d6ed1defea86da01e8023141", func := "loop.example/g00931/laws.FnExactTurnOf", spec := "fnExactTurnOf", unfollowed := true, recurses := true, apart := false }
def FnExactTurnOfSaid : Prop := fnExactTurnOfRow.holds Try.pinned (OpenSpec.ofChange fnExactTurnOfSpec)

/-- ITS FALSE NEIGHBOUR: 'it returns false'. Refute it at one input. -/
def fnExactTurnOfWrong : ChangeSpec := { name := "fnExactTurnOf", fn := fun _ => fun
  | [d] => { results := [.lit (.bool false)], args := [d] }
  | _ => none }
def FnExactTurnOfWrongFalsely : Prop := fnExactTurnOfRow.holds Try.pinned (OpenSpec.ofChange fnExactTurnOfWrong)

/-- 'laws.FnExactOversOf': WHATEVER THE INPUT: true; the input reads as it did. -/
def fnExactOversOfSpec : ChangeSpec := { name := "fnExactOversOf", fn := fun _ => fun
  | [d1, d2] => { results := [.lit (.bool true)], args := [d1, d2] }
  | _ => none }
def fnExactOversOfRow : OpenClaim := { program := "ythcbifffelaaoaa", sum := "00ff81864ca4556ac595bb73d670076af4f30a02d6ed1defea86da01e8023141", func := "loop.example/g00931/laws.FnExactOversOf", spec := "fnExactOversOf", unfollowed := true, recurses := true, apart := false }
def FnExactOversOfSaid : Prop := fnExactOversOfRow.holds Try.pinned (OpenSpec.ofChange fnExactOversOfSpec)

/-- ITS FALSE NEIGHBOUR: 'it returns false'. Refute it at one input. -/
def fnExactOversOfWrong : ChangeSpec := { name := "fnExactOversOf", fn := fun _ => fun
  | [d1, d2] => { results := [.lit (.bool false)], args := [d1, d2] }
  | _ => none }
def FnExactOversOfWrongFalsely : Prop := fnExactOversOfRow.holds Try.pinned (OpenSpec.ofChange fnExactOversOfWrong)

/- THE SECOND FORM. 'bulk': how many values and letters a reading holds, each counted each time it is reached (what is shared counts as often as it is met; a slice's spare places count too). A statement '..UptoSaid' is the law's where the arguments, and the package variables that the reading takes, are together of bulk at most 1048576: NARROWER than '..Said'. Prove '..Said' where nothing that the law and all that it calls make is longer than what came in: it says more and counts as full. Else prove '..UptoSaid'. A law counts once. -/
mutual
def uptoBulk {H : Type} : DataW H → Nat
  | .lit (.string bytes) => bytes.length + 1
  | .lit _ => 1
  | .nil => 1
  | .ptr d => uptoBulk d + 1
  | .slice elems spare => uptoBulkAll elems + uptoBulkAll spare + 1
  | .agg parts => uptoBulkAll parts + 1
  | .iface _ d => uptoBulk d + 1
  | .map entries => uptoBulkEntries entries + 1
  | .held _ => 1
def uptoBulkAll {H : Type} : List (DataW H) → Nat
  | [] => 0
  | d :: r => uptoBulk d + uptoBulkAll r
def uptoBulkEntries {H : Type} : List (Lit × DataW H) → Nat
  | [] => 0
  | x :: r => uptoBulkEntry x + uptoBulkEntries r
def uptoBulkEntry {H : Type} : Lit × DataW H → Nat
  | (.string bytes, d) => bytes.length + uptoBulk d + 1
  | (_, d) => uptoBulk d + 1
 end
def uptoSmall : (H : Type) → List (DataW H) → Bool := fun _ ds => decide (uptoBulkAll ds ≤ 1048576)
def OpenSpec.upto (s : _root_.Go.ChangeSpec) : _root_.Go.OpenSpec := { _root_.Go.OpenSpec.ofChange s with cond := some uptoSmall }

/-- 'laws.FnExactValidWord', WHERE WHAT IT READS IS OF BULK AT MOST 1048576: true; the input reads as it did. -/
def fnExactValidWordUptoRow : OpenClaim := { program := "ythcbifffelaaoaa", sum := "00ff81864ca4556ac595bb73d670076af4f30a02d6ed1defea86da01e8023141", func := "loop.example/g00931/laws.FnExactValidWord", spec := "fnExactValidWord", apart := false, narrowed := true }
def FnExactValidWordUptoSaid : Prop := fnExactValidWordUptoRow.holds Try.pinned (OpenSpec.upto fnExactValidWordSpec)

/-- 'laws.FnExactPlainPlait', WHERE WHAT IT READS IS OF BULK AT MOST 1048576: true; the input reads as it did. -/
def fnExactPlainPlaitUptoRow : OpenClaim := { program := "ythcbifffelaaoaa", sum := "00ff81864ca4556ac595bb73d670076af4f30a02d6ed1defea86da01e8023141", func := "loop.example/g00931/laws.FnExactPlainPlait", spec := "fnExactPlainPlait", apart := false, narrowed := true }
def FnExactPlainPlaitUptoSaid : Prop := fnExactPlainPlaitUptoRow.holds Try.pinned (OpenSpec.upto fnExactPlainPlaitSpec)

/-- 'laws.FnExactInverseWord', WHERE WHAT IT READS IS OF BULK AT MOST 1048576: true; the input reads as it did. -/
def fnExactInverseWordUptoRow : OpenClaim := { program := "ythcbifffelaaoaa", sum := "00ff81864ca4556ac595bb73d670076af4f30a02d6ed1defea86da01e8023141", func := "loop.example/g00931/laws.FnExactInverseWord", spec := "fnExactInverseWord", apart := false, narrowed := true }
def FnExactInverseWordUptoSaid : Prop := fnExactInverseWordUptoRow.holds Try.pinned (OpenSpec.upto fnExactInverseWordSpec)

/-- 'laws.FnExactReduceWord', WHERE WHAT IT READS IS OF BULK AT MOST 1048576: true; the input reads as it did. -/
def fnExactReduceWordUptoRow : OpenClaim := { program := "ythcbifffelaaoaa", sum := "00ff81864ca4556ac595bb73d670076af4f30a02d6ed1defea86da01e8023141", func := "loop.example/g00931/laws.FnExactReduceWord", spec := "fnExactReduceWord", apart := false, narrowed := true }
def FnExactReduceWordUptoSaid : Prop := fnExactReduceWordUptoRow.holds Try.pinned (OpenSpec.upto fnExactReduceWordSpec)

/-- 'laws.FnExactDoubleArea', WHERE WHAT IT READS IS OF BULK AT MOST 1048576: true; the input reads as it did. -/
def fnExactDoubleAreaUptoRow : OpenClaim := { program := "ythcbifffelaaoaa", sum := "00ff81864ca4556ac595bb73d670076af4f30a02d6ed1defea86da01e8023141", func := "loop.example/g00931/laws.FnExactDoubleArea", spec := "fnExactDoubleArea", unfollowed := true, recurses := true, apart := false, narrowed := true }
def FnExactDoubleAreaUptoSaid : Prop := fnExactDoubleAreaUptoRow.holds Try.pinned (OpenSpec.upto fnExactDoubleAreaSpec)

/-- 'laws.FnExactCutLength', WHERE WHAT IT READS IS OF BULK AT MOST 1048576: true; the input reads as it did. -/
def fnExactCutLengthUptoRow : OpenClaim := { program := "ythcbifffelaaoaa", sum := "00ff81864ca4556ac595bb73d670076af4f30a02d6ed1defea86da01e8023141", func := "loop.example/g00931/laws.FnExactCutLength", spec := "fnExactCutLength", apart := false, narrowed := true }
def FnExactCutLengthUptoSaid : Prop := fnExactCutLengthUptoRow.holds Try.pinned (OpenSpec.upto fnExactCutLengthSpec)

/-- 'laws.FnExactTravelLength', WHERE WHAT IT READS IS OF BULK AT MOST 1048576: true; the input reads as it did. -/
def fnExactTravelLengthUptoRow : OpenClaim := { program := "ythcbifffelaaoaa", sum := "00ff81864ca4556ac595bb73d670076af4f30a02d6ed1defea86da01e8023141", func := "loop.example/g00931/laws.FnExactTravelLength", spec := "fnExactTravelLength", apart := false, narrowed := true }
def FnExactTravelLengthUptoSaid : Prop := fnExactTravelLengthUptoRow.holds Try.pinned (OpenSpec.upto fnExactTravelLengthSpec)

/-- 'laws.FnExactPolygonBox', WHERE WHAT IT READS IS OF BULK AT MOST 1048576: true; the input reads as it did. -/
def fnExactPolygonBoxUptoRow : OpenClaim := { program := "ythcbifffelaaoaa", sum := "00ff81864ca4556ac595bb73d670076af4f30a02d6ed1defea86da01e8023141", func := "loop.example/g00931/laws.FnExactPolygonBox", spec := "fnExactPolygonBox", unfollowed := true, recurses := true, apart := false, narrowed := true }
def FnExactPolygonBoxUptoSaid : Prop := fnExactPolygonBoxUptoRow.holds Try.pinned (OpenSpec.upto fnExactPolygonBoxSpec)

/-- 'laws.FnExactWordText', WHERE WHAT IT READS IS OF BULK AT MOST 1048576: true; the input reads as it did. -/
def fnExactWordTextUptoRow : OpenClaim := { program := "ythcbifffelaaoaa", sum := "00ff81864ca4556ac595bb73d670076af4f30a02d6ed1defea86da01e8023141", func := "loop.example/g00931/laws.FnExactWordText", spec := "fnExactWordText", apart := false, narrowed := true }
def FnExactWordTextUptoSaid : Prop := fnExactWordTextUptoRow.holds Try.pinned (OpenSpec.upto fnExactWordTextSpec)

/-- 'laws.FnExactOrderAfter', WHERE WHAT IT READS IS OF BULK AT MOST 1048576: true; the input reads as it did. -/
def fnExactOrderAfterUptoRow : OpenClaim := { program := "ythcbifffelaaoaa", sum := "00ff81864ca4556ac595bb73d670076af4f30a02d6ed1defea86da01e8023141", func := "loop.example/g00931/laws.FnExactOrderAfter", spec := "fnExactOrderAfter", unfollowed := true, recurses := true, apart := false, narrowed := true }
def FnExactOrderAfterUptoSaid : Prop := fnExactOrderAfterUptoRow.holds Try.pinned (OpenSpec.upto fnExactOrderAfterSpec)

/-- 'laws.FnExactTurnOf', WHERE WHAT IT READS IS OF BULK AT MOST 1048576: true; the input reads as it did. -/
def fnExactTurnOfUptoRow : OpenClaim := { program := "ythcbifffelaaoaa", sum := "00ff81864ca4556ac595bb73d670076af4f30a02d6ed1defea86da01e8023141", func := "loop.example/g00931/laws.FnExactTurnOf", spec := "fnExactTurnOf", unfollowed := true, recurses := true, apart := false, narrowed := true }
def FnExactTurnOfUptoSaid : Prop := fnExactTurnOfUptoRow.holds Try.pinned (OpenSpec.upto fnExactTurnOfSpec)

/-- 'laws.FnExactOversOf', WHERE WHAT IT READS IS OF BULK AT MOST 1048576: true; the input reads as it did. -/
def fnExactOversOfUptoRow : OpenClaim := { program := "ythcbifffelaaoaa", sum := "00ff81864ca4556ac595bb73d670076af4f30a02d6ed1defea86da01e8023141", func := "loop.example/g00931/laws.FnExactOversOf", spec := "fnExactOversOf", unfollowed := true, recurses := true, apart := false, narrowed := true }
def FnExactOversOfUptoSaid : Prop := fnExactOversOfUptoRow.holds Try.pinned (OpenSpec.upto fnExactOversOfSpec)

end Rows
end Go.Proofs.Ythcbifffelaaoaa
