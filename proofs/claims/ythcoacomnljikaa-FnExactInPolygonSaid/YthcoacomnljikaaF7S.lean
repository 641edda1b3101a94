/- FnExactInPolygon: for every input the law returns true and its arguments read afterwards as before; no condition. -/
import Derived.Test.YthcoacomnljikaaRows
import Derived.WalkKit
import Derived.Test.YthcoacomnljikaaF7P
import Derived.ProofKit
import Derived.OpenShut
import Derived.ShutString
import Derived.ChangeOld
import Derived.Below
namespace Go.Proofs.Ythcoacomnljikaa
open Go.ChangeShapes Go.WideShapes Go.ChangeAt Go.RowKit
open Go.ChangeMaps (open_string shut_string)
set_option linter.unusedVariables false

theorem own7 : ownKnob Try.prog.godebug = none := by kernel_rfl
theorem laidOut7 : laidOutB Try.prog = true := by kernel_rfl
theorem len7_2 {α : Type} {l : List α} (h : l.length = 2) : ∃ c0 c1, l = [c0, c1] := by
  match l, h with
  | [c0, c1], _ => exact ⟨c0, c1, rfl⟩
theorem dec7_24 {H : Type} {enc : TypeId × Value → H} {w : World} {base : Nat} {spare : Nat → Bool} {held : Bool} (n : Nat) (cs : List Value) (x : DataW H × List MemPlace) (h : DataW.trod enc Try.prog w base spare held n 24 cs = some x) : ∃ z : Go.Sh.SPoint, cs = Go.Sh.eSPoint.f z ∧ Go.Sh.okSPoint z := by
  obtain ⟨hl, hf⟩ := Go.Sh.dec_field Try.underlying24 h
  rw [show Try.prog.cellsOf 24 = 2 by kernel_rfl] at hl
  obtain ⟨c0, c1, rfl⟩ := len7_2 hl
  obtain ⟨m0, y0, h0⟩ := hf 0 _ rfl
  have k0 : DataW.trod enc Try.prog w base spare held m0 2 ((([c0, c1] : List Value).drop 0).take (Try.prog.cellsOf 2)) = some y0 := h0
  rw [show Try.prog.cellsOf 2 = 1 by kernel_rfl] at k0
  obtain ⟨z0, e0, o0⟩ := Go.Sh.dec_int (k := .i64) Try.underlying2 k0
  obtain ⟨m1, y1, h1⟩ := hf 1 _ rfl
  have k1 : DataW.trod enc Try.prog w base spare held m1 2 ((([c0, c1] : List Value).drop 1).take (Try.prog.cellsOf 2)) = some y1 := h1
  rw [show Try.prog.cellsOf 2 = 1 by kernel_rfl] at k1
  obtain ⟨z1, e1, o1⟩ := Go.Sh.dec_int (k := .i64) Try.underlying2 k1
  refine ⟨⟨z0, z1⟩, ?_, o0, o1⟩
  simp at e0 e1
  simp_all [Go.Sh.eSPoint]
set_option maxRecDepth 100000 in
theorem lifted7 (os : Os) (started : os.Started) (H : Type) (enc : TypeId × Value → H) :
    ReturnsInHanded {} Try.checked os 7 .any (Rows.fnExactInPolygonSpec.pre6 enc Try.prog Try.f7 Rows.fnExactInPolygonRow.domain false) (Rows.fnExactInPolygonSpec.post enc Try.prog Try.f7 false true false false) := by
  refine returnsInHanded_of_change (C := Try.checked) own7 started (by kernel_rfl) Try.func7
    (ChangeSpec.witness6 (enc := enc) (C := Try.checked) false ⟨#[], #[.slice none 0 0, .agg #[.int .i64 0, .int .i64 0]], []⟩ 8 (by kernel_rfl) (by kernel_rfl) (by kernel_rfl) (by kernel_rfl)) ?_
  intro W base args ds gs before hval0 hW hcnd _
  have hval : ∀ (j : Nat) t v, Try.f7.params[j]? = some t → args[j]? = some v → Value.okWide Try.prog W .any base t v := hval0
  have hW' := hW
  obtain ⟨p, q, hA0, hV, rfl, hfz, hnd⟩ := hW
  have hA : DataW.TrodAll enc Try.prog W 0 (fun _ => true) true Try.f7.params.toList args.toList ds p := hA0
  rw [Try.params7] at hA hval
  obtain ⟨v0, vs0, d0, ds0, p0, q0, hargs, rfl, rfl, h0, r0⟩ := trodAll_cons hA
  obtain ⟨v1, vs1, d1, ds1, p1, q1, rfl, rfl, rfl, h1, r1⟩ := trodAll_cons r0
  obtain ⟨rfl, rfl, rfl⟩ := trodAll_nil r1
  obtain rfl : args = #[v0, v1] := by cases args; simp_all
  obtain ⟨rfl, rfl⟩ := trodVars_none hV
  have k0 := h0
  have lt0 : ∀ x ∈ p0, x.block < W.heap.size := by obtain ⟨m, hm⟩ := k0; exact DataW.trod_lt m _ _ _ hm
  obtain ⟨s0, n0, c0, rfl⟩ := okWide_slice Try.underlying22 (hval 0 22 v0 rfl rfl)
  obtain ⟨a0, g0, l0, w0, o0, j0⟩ := Go.Sh.open_rowT Go.Sh.eSPoint Go.Sh.okSPoint Try.underlying22 (by kernel_rfl) (dec7_24) h0
  have k1 := h1
  have lt1 : ∀ x ∈ p1, x.block < W.heap.size := by obtain ⟨m, hm⟩ := k1; exact DataW.trod_lt m _ _ _ hm
  obtain ⟨a1, rfl, o1⟩ := Go.Sh.open_valT Go.Sh.eSPoint Go.Sh.okSPoint Try.underlying24 (dec7_24) (hval 1 24 v1 rfl rfl) h1
  clear hA0 hval0
  refine (Go.Sh.law_of (Go.Sh.c7 g0 l0 j0 (Go.Sh.law7 a0 a1 (by omega : a0.length ≤ maxLen))) (fun v rs h => h.1)).mono fun e W' ⟨he, bel⟩ => ?_
  subst he
  exact ⟨_, rfl, _, _, _, [], _, [], hW', trodAll_mk1 (shut_bool Try.underlying4 _), (trodAll_cons_mk (Below.trod laidOut7 (by kernel_rfl) (of_decide_eq_true (by kernel_rfl)) k0 bel lt0) (trodAll_cons_mk (Below.trod laidOut7 (by kernel_rfl) (of_decide_eq_true (by kernel_rfl)) k1 bel lt1) trodAll_mk0)), rfl, bel.frame _, fun h => by cases h⟩

theorem over7 : Rows.fnExactInPolygonRow.holds Try.pinned (OpenSpec.ofChange Rows.fnExactInPolygonSpec) :=
  OpenClaim.holds_of_wide 7 Try.f7 rfl rfl rfl rfl rfl rfl rfl ⟨rfl, rfl, rfl, rfl, rfl⟩ rfl rfl rfl rfl rfl (by kernel_rfl) Try.func7 (by kernel_rfl)
    (of_decide_eq_true (by kernel_rfl)) (by unfold Func.isWrapper; first | (rw [if_pos (by decide +kernel)]; kernel_rfl) | (rw [if_neg (by decide +kernel)]; exact ⟨rfl, rfl⟩))
    (fun os started H enc _ => lifted7 os started H enc)

theorem proved7 : Rows.FnExactInPolygonSaid := over7
#print axioms proved7
end Go.Proofs.Ythcoacomnljikaa
