/- FnColours: for every input the law returns true and its arguments read afterwards as before; no condition. -/
import Derived.Test.YtinipjijgggjkaaRows
import Derived.WalkKit
import Derived.Test.YtinipjijgggjkaaF13P
import Derived.ProofKit
import Derived.OpenShut
import Derived.ShutString
import Derived.ChangeOld
import Derived.Below
namespace Go.Proofs.Ytinipjijgggjkaa
open Go.ChangeShapes Go.WideShapes Go.ChangeAt Go.RowKit
open Go.ChangeMaps (open_string shut_string)
set_option linter.unusedVariables false

theorem own13 : ownKnob Try.prog.godebug = none := by kernel_rfl
theorem laidOut13 : laidOutB Try.prog = true := by kernel_rfl
set_option maxRecDepth 100000 in
theorem lifted13 (os : Os) (started : os.Started) (H : Type) (enc : TypeId × Value → H) :
    ReturnsInHanded {} Try.checked os 13 .any (Rows.fnColoursSpec.pre6 enc Try.prog Try.f13 Rows.fnColoursRow.domain false) (Rows.fnColoursSpec.post enc Try.prog Try.f13 false true false false) := by
  refine returnsInHanded_of_change (C := Try.checked) own13 started (by kernel_rfl) Try.func13
    (ChangeSpec.witness6 (enc := enc) (C := Try.checked) false ⟨#[], #[.slice none 0 0], []⟩ 8 (by kernel_rfl) (by kernel_rfl) (by kernel_rfl) (by kernel_rfl)) ?_
  intro W base args ds gs before hval0 hW hcnd _
  have hval : ∀ (j : Nat) t v, Try.f13.params[j]? = some t → args[j]? = some v → Value.okWide Try.prog W .any base t v := hval0
  have hW' := hW
  obtain ⟨p, q, hA0, hV, rfl, hfz, hnd⟩ := hW
  have hA : DataW.TrodAll enc Try.prog W 0 (fun _ => true) true Try.f13.params.toList args.toList ds p := hA0
  rw [Try.params13] at hA hval
  obtain ⟨v0, vs0, d0, ds0, p0, q0, hargs, rfl, rfl, h0, r0⟩ := trodAll_cons hA
  obtain ⟨rfl, rfl, rfl⟩ := trodAll_nil r0
  obtain rfl : args = #[v0] := by cases args; simp_all
  obtain ⟨rfl, rfl⟩ := trodVars_none hV
  have k0 := h0
  have lt0 : ∀ x ∈ p0, x.block < W.heap.size := by obtain ⟨m, hm⟩ := k0; exact DataW.trod_lt m _ _ _ hm
  obtain ⟨s0, n0, c0, rfl⟩ := okWide_slice Try.underlying54 (hval 0 54 v0 rfl rfl)
  obtain ⟨a0, g0, l0, w0, o0, j0⟩ := Go.Sh.open_rowT Go.Sh.eU8 (Go.Sh.okI .u8) Try.underlying54 (by kernel_rfl) (fun n cs x h => Go.Sh.dec_int (k := .u8) Try.underlying5 h) h0
  clear hA0 hval0
  refine (Go.Sh.law_of (Go.Sh.c13 g0 l0 j0 (Go.Sh.law13 a0 (by omega : a0.length ≤ maxLen) o0)) (fun v rs h => h.1)).mono fun e W' ⟨he, bel⟩ => ?_
  subst he
  exact ⟨_, rfl, _, _, _, [], _, [], hW', trodAll_mk1 (shut_bool Try.underlying4 _), (trodAll_cons_mk (Below.trod laidOut13 (by kernel_rfl) (of_decide_eq_true (by kernel_rfl)) k0 bel lt0) trodAll_mk0), rfl, bel.frame _, fun h => by cases h⟩

theorem named13 : Try.pinned.checked.prog.funcNamed Rows.fnColoursRow.func = some 13 := by kernel_rfl
theorem wf13 : Rows.fnColoursRow.wf (OpenSpec.ofChange Rows.fnColoursSpec) = true := by kernel_rfl
theorem laid13 : laidOutB Try.pinned.checked.prog = true := by kernel_rfl
theorem rowed13 : mapsRowed Try.pinned.checked.prog = true := by kernel_rfl
theorem place13 : (Rows.fnColoursRow.inPlace == Try.pinned.checked.prog.inPlace 13) = true := by kernel_rfl
theorem foll13 : (Rows.fnColoursRow.unfollowed == Try.pinned.checked.prog.unfollowed 13) = true := by kernel_rfl
theorem recu13 : (Rows.fnColoursRow.recurses == Try.pinned.checked.prog.recurses 13) = true := by kernel_rfl
theorem vars13 : (Rows.fnColoursRow.named == Try.pinned.checked.prog.varsNamed 13) = true := by kernel_rfl
set_option maxRecDepth 100000 in
theorem closed13 : joinedFacts Try.pinned.checked.prog 13 Try.f13 Rows.fnColoursSpec Rows.fnColoursRow = true := by
  unfold joinedFacts
  rw [wf13, laid13, rowed13, place13, foll13, recu13, vars13]
  kernel_rfl

theorem over13 : Rows.fnColoursRow.holds Try.pinned (OpenSpec.ofChange Rows.fnColoursSpec) :=
  OpenClaim.holds_of_wide 13 Try.f13 rfl rfl rfl rfl rfl rfl rfl ⟨rfl, rfl, rfl, rfl, rfl⟩ rfl rfl rfl rfl rfl named13 Try.func13 closed13
    (of_decide_eq_true (by kernel_rfl)) (by unfold Func.isWrapper; first | (rw [if_pos (by decide +kernel)]; kernel_rfl) | (rw [if_neg (by decide +kernel)]; exact ⟨rfl, rfl⟩))
    (fun os started H enc _ => lifted13 os started H enc)

theorem proved13 : Rows.FnColoursSaid := over13
#print axioms proved13
end Go.Proofs.Ytinipjijgggjkaa
