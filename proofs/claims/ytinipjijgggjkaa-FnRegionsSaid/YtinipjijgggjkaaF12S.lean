/- FnRegions: for every input the law returns true and its arguments read afterwards as before; no condition. -/
import Derived.Test.YtinipjijgggjkaaRows
import Derived.WalkKit
import Derived.Test.YtinipjijgggjkaaF12P
import Derived.ProofKit
import Derived.OpenShut
import Derived.ShutString
import Derived.ChangeOld
import Derived.Below
namespace Go.Proofs.Ytinipjijgggjkaa
open Go.ChangeShapes Go.WideShapes Go.ChangeAt Go.RowKit
open Go.ChangeMaps (open_string shut_string)
set_option linter.unusedVariables false

theorem own12 : ownKnob Try.prog.godebug = none := by kernel_rfl
theorem laidOut12 : laidOutB Try.prog = true := by kernel_rfl
set_option maxRecDepth 100000 in
theorem lifted12 (os : Os) (started : os.Started) (H : Type) (enc : TypeId × Value → H) :
    ReturnsInHanded {} Try.checked os 12 .any (Rows.fnRegionsSpec.pre6 enc Try.prog Try.f12 Rows.fnRegionsRow.domain false) (Rows.fnRegionsSpec.post enc Try.prog Try.f12 false true false false) := by
  refine returnsInHanded_of_change (C := Try.checked) own12 started (by kernel_rfl) Try.func12
    (ChangeSpec.witness6 (enc := enc) (C := Try.checked) false ⟨#[], #[.slice none 0 0], []⟩ 8 (by kernel_rfl) (by kernel_rfl) (by kernel_rfl) (by kernel_rfl)) ?_
  intro W base args ds gs before hval0 hW hcnd _
  have hval : ∀ (j : Nat) t v, Try.f12.params[j]? = some t → args[j]? = some v → Value.okWide Try.prog W .any base t v := hval0
  have hW' := hW
  obtain ⟨p, q, hA0, hV, rfl, hfz, hnd⟩ := hW
  have hA : DataW.TrodAll enc Try.prog W 0 (fun _ => true) true Try.f12.params.toList args.toList ds p := hA0
  rw [Try.params12] at hA hval
  obtain ⟨v0, vs0, d0, ds0, p0, q0, hargs, rfl, rfl, h0, r0⟩ := trodAll_cons hA
  obtain ⟨rfl, rfl, rfl⟩ := trodAll_nil r0
  obtain rfl : args = #[v0] := by cases args; simp_all
  obtain ⟨rfl, rfl⟩ := trodVars_none hV
  have k0 := h0
  have lt0 : ∀ x ∈ p0, x.block < W.heap.size := by obtain ⟨m, hm⟩ := k0; exact DataW.trod_lt m _ _ _ hm
  obtain ⟨s0, n0, c0, rfl⟩ := okWide_slice Try.underlying54 (hval 0 54 v0 rfl rfl)
  obtain ⟨a0, g0, l0, w0, o0, j0⟩ := Go.Sh.open_rowT Go.Sh.eU8 (Go.Sh.okI .u8) Try.underlying54 (by kernel_rfl) (fun n cs x h => Go.Sh.dec_int (k := .u8) Try.underlying5 h) h0
  clear hA0 hval0
  refine (Go.Sh.law_of (Go.Sh.c12 g0 l0 j0 (Go.Sh.law12 a0 (by omega : a0.length ≤ maxLen) o0)) (fun v rs h => h.1)).mono fun e W' ⟨he, bel⟩ => ?_
  subst he
  exact ⟨_, rfl, _, _, _, [], _, [], hW', trodAll_mk1 (shut_bool Try.underlying4 _), (trodAll_cons_mk (Below.trod laidOut12 (by kernel_rfl) (of_decide_eq_true (by kernel_rfl)) k0 bel lt0) trodAll_mk0), rfl, bel.frame _, fun h => by cases h⟩

theorem named12 : Try.pinned.checked.prog.funcNamed Rows.fnRegionsRow.func = some 12 := by kernel_rfl
theorem wf12 : Rows.fnRegionsRow.wf (OpenSpec.ofChange Rows.fnRegionsSpec) = true := by kernel_rfl
theorem laid12 : laidOutB Try.pinned.checked.prog = true := by kernel_rfl
theorem rowed12 : mapsRowed Try.pinned.checked.prog = true := by kernel_rfl
theorem place12 : (Rows.fnRegionsRow.inPlace == Try.pinned.checked.prog.inPlace 12) = true := by kernel_rfl
theorem foll12 : (Rows.fnRegionsRow.unfollowed == Try.pinned.checked.prog.unfollowed 12) = true := by kernel_rfl
theorem recu12 : (Rows.fnRegionsRow.recurses == Try.pinned.checked.prog.recurses 12) = true := by kernel_rfl
theorem vars12 : (Rows.fnRegionsRow.named == Try.pinned.checked.prog.varsNamed 12) = true := by kernel_rfl
set_option maxRecDepth 100000 in
theorem closed12 : joinedFacts Try.pinned.checked.prog 12 Try.f12 Rows.fnRegionsSpec Rows.fnRegionsRow = true := by
  unfold joinedFacts
  rw [wf12, laid12, rowed12, place12, foll12, recu12, vars12]
  kernel_rfl

theorem over12 : Rows.fnRegionsRow.holds Try.pinned (OpenSpec.ofChange Rows.fnRegionsSpec) :=
  OpenClaim.holds_of_wide 12 Try.f12 rfl rfl rfl rfl rfl rfl rfl ⟨rfl, rfl, rfl, rfl, rfl⟩ rfl rfl rfl rfl rfl named12 Try.func12 closed12
    (of_decide_eq_true (by kernel_rfl)) (by unfold Func.isWrapper; first | (rw [if_pos (by decide +kernel)]; kernel_rfl) | (rw [if_neg (by decide +kernel)]; exact ⟨rfl, rfl⟩))
    (fun os started H enc _ => lifted12 os started H enc)

theorem proved12 : Rows.FnRegionsSaid := over12
#print axioms proved12
end Go.Proofs.Ytinipjijgggjkaa
