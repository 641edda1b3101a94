/- FnExactCurveNeighbours: for every input the law returns true and its arguments read afterwards as before; no condition. -/
import Derived.Test.YtinipjijgggjkaaRows
import Derived.WalkKit
import Derived.Test.YtinipjijgggjkaaF9P
import Derived.ProofKit
import Derived.OpenShut
import Derived.ShutString
import Derived.ChangeOld
import Derived.Below
namespace Go.Proofs.Ytinipjijgggjkaa
open Go.ChangeShapes Go.WideShapes Go.ChangeAt Go.RowKit
open Go.ChangeMaps (open_string shut_string)
set_option linter.unusedVariables false

theorem own9 : ownKnob Try.prog.godebug = none := by kernel_rfl
theorem laidOut9 : laidOutB Try.prog = true := by kernel_rfl
theorem len9_3 {α : Type} {l : List α} (h : l.length = 3) : ∃ c0 c1 c2, l = [c0, c1, c2] := by
  match l, h with
  | [c0, c1, c2], _ => exact ⟨c0, c1, c2, rfl⟩
set_option maxRecDepth 100000 in
theorem decP9_24 {H : Type} {enc : TypeId × Value → H} {w : World} {r : Reach} {b0 base : Nat} {spare : Nat → Bool} {held : Bool} {v : Value} {d : DataW H} {p : List MemPlace} (hv : Value.okWide Try.prog w r b0 24 v) (h : DataW.Trod enc Try.prog w base spare held 24 v d p) : ∃ (z : Go.Sh.SPanel) (a2 : Option Addr) (n2 q2 : Nat), v = .agg #[.int .i64 z.W, .int .i64 z.H, .slice a2 n2 q2] ∧ Go.Sh.okSPanel z ∧ Go.Sh.Rd w a2 (Go.Sh.eI64.fl z.Breaks) ∧ z.Breaks.length = n2 ∧ n2 ≤ q2 := by
  obtain ⟨ar, rfl, _⟩ := Go.WideShapes.okWide_struct Try.underlying24 hv
  obtain ⟨n, hn⟩ := h
  obtain ⟨hl, hf⟩ := Go.Sh.dec_field Try.underlying24 hn
  rw [show Try.prog.cellsOf 24 = 3 by kernel_rfl] at hl
  obtain ⟨c0, c1, c2, hc⟩ := len9_3 hl
  rw [hc] at hf
  obtain ⟨m0, y0, h0⟩ := hf 0 _ rfl
  have k0 : DataW.trod enc Try.prog w base spare held m0 2 ((([c0, c1, c2] : List Value).drop 0).take (Try.prog.cellsOf 2)) = some y0 := h0
  rw [show Try.prog.cellsOf 2 = 1 by kernel_rfl] at k0
  obtain ⟨z0, e0, o0⟩ := Go.Sh.dec_int (k := .i64) Try.underlying2 k0
  obtain ⟨m1, y1, h1⟩ := hf 1 _ rfl
  have k1 : DataW.trod enc Try.prog w base spare held m1 2 ((([c0, c1, c2] : List Value).drop 1).take (Try.prog.cellsOf 2)) = some y1 := h1
  rw [show Try.prog.cellsOf 2 = 1 by kernel_rfl] at k1
  obtain ⟨z1, e1, o1⟩ := Go.Sh.dec_int (k := .i64) Try.underlying2 k1
  obtain ⟨m2, y2, h2⟩ := hf 2 _ rfl
  have k2 : DataW.trod enc Try.prog w base spare held m2 22 ((([c0, c1, c2] : List Value).drop 2).take (Try.prog.cellsOf 22)) = some y2 := h2
  rw [show Try.prog.cellsOf 22 = 1 by kernel_rfl] at k2
  obtain ⟨a2, n2, q2, z2, e2, g2, l2, w2, o2, j2⟩ := Go.Sh.open_rowC Go.Sh.eI64 (Go.Sh.okI .i64) Try.underlying22 (by kernel_rfl) (fun n cs x h => Go.Sh.dec_int (k := .i64) Try.underlying2 h) k2
  refine ⟨⟨z0, z1, z2⟩, a2, n2, q2, ?_, ⟨o0, o1, ⟨Nat.le_trans (Nat.le_of_eq l2) w2, o2⟩⟩, g2, l2, j2⟩
  simp at e0 e1 e2
  have hc2 : ar = #[c0, c1, c2] := by apply Array.toList_inj.1; simpa [Value.cells] using hc
  rw [hc2]; simp_all
set_option maxRecDepth 100000 in
theorem lifted9 (os : Os) (started : os.Started) (H : Type) (enc : TypeId × Value → H) :
    ReturnsInHanded {} Try.checked os 9 .any (Rows.fnExactCurveNeighboursSpec.pre6 enc Try.prog Try.f9 Rows.fnExactCurveNeighboursRow.domain false) (Rows.fnExactCurveNeighboursSpec.post enc Try.prog Try.f9 false true false false) := by
  refine returnsInHanded_of_change (C := Try.checked) own9 started (by kernel_rfl) Try.func9
    (ChangeSpec.witness6 (enc := enc) (C := Try.checked) false ⟨#[], #[.agg #[.int .i64 0, .int .i64 0, .slice none 0 0], .int .i64 0], []⟩ 8 (by kernel_rfl) (by kernel_rfl) (by kernel_rfl) (by kernel_rfl)) ?_
  intro W base args ds gs before hval0 hW hcnd _
  have hval : ∀ (j : Nat) t v, Try.f9.params[j]? = some t → args[j]? = some v → Value.okWide Try.prog W .any base t v := hval0
  have hW' := hW
  obtain ⟨p, q, hA0, hV, rfl, hfz, hnd⟩ := hW
  have hA : DataW.TrodAll enc Try.prog W 0 (fun _ => true) true Try.f9.params.toList args.toList ds p := hA0
  rw [Try.params9] at hA hval
  obtain ⟨v0, vs0, d0, ds0, p0, q0, hargs, rfl, rfl, h0, r0⟩ := trodAll_cons hA
  obtain ⟨v1, vs1, d1, ds1, p1, q1, rfl, rfl, rfl, h1, r1⟩ := trodAll_cons r0
  obtain ⟨rfl, rfl, rfl⟩ := trodAll_nil r1
  obtain rfl : args = #[v0, v1] := by cases args; simp_all
  obtain ⟨rfl, rfl⟩ := trodVars_none hV
  have k0 := h0
  have lt0 : ∀ x ∈ p0, x.block < W.heap.size := by obtain ⟨m, hm⟩ := k0; exact DataW.trod_lt m _ _ _ hm
  obtain ⟨a0, s0_2, n0_2, c0_2, rfl, o0, g0_2, l0_2, j0_2⟩ := decP9_24 (hval 0 24 v0 rfl rfl) h0
  obtain ⟨a1, rfl, rfl, rfl, w1⟩ := open_int Try.underlying2 (hval 1 2 v1 rfl rfl) h1
  clear hA0 hval0
  refine (Go.Sh.law_of (Go.Sh.c9 g0_2 l0_2 j0_2 (Go.Sh.law9 a0 a1 o0)) (fun v rs h => h.1)).mono fun e W' ⟨he, bel⟩ => ?_
  subst he
  exact ⟨_, rfl, _, _, _, [], _, [], hW', trodAll_mk1 (shut_bool Try.underlying4 _), (trodAll_cons_mk (Below.trod laidOut9 (by kernel_rfl) (of_decide_eq_true (by kernel_rfl)) k0 bel lt0) (trodAll_cons_mk (shut_int Try.underlying2 w1) trodAll_mk0)), rfl, bel.frame _, fun h => by cases h⟩

theorem named9 : Try.pinned.checked.prog.funcNamed Rows.fnExactCurveNeighboursRow.func = some 9 := by kernel_rfl
theorem wf9 : Rows.fnExactCurveNeighboursRow.wf (OpenSpec.ofChange Rows.fnExactCurveNeighboursSpec) = true := by kernel_rfl
theorem laid9 : laidOutB Try.pinned.checked.prog = true := by kernel_rfl
theorem rowed9 : mapsRowed Try.pinned.checked.prog = true := by kernel_rfl
theorem place9 : (Rows.fnExactCurveNeighboursRow.inPlace == Try.pinned.checked.prog.inPlace 9) = true := by kernel_rfl
theorem foll9 : (Rows.fnExactCurveNeighboursRow.unfollowed == Try.pinned.checked.prog.unfollowed 9) = true := by kernel_rfl
theorem recu9 : (Rows.fnExactCurveNeighboursRow.recurses == Try.pinned.checked.prog.recurses 9) = true := by kernel_rfl
theorem vars9 : (Rows.fnExactCurveNeighboursRow.named == Try.pinned.checked.prog.varsNamed 9) = true := by kernel_rfl
set_option maxRecDepth 100000 in
theorem closed9 : joinedFacts Try.pinned.checked.prog 9 Try.f9 Rows.fnExactCurveNeighboursSpec Rows.fnExactCurveNeighboursRow = true := by
  unfold joinedFacts
  rw [wf9, laid9, rowed9, place9, foll9, recu9, vars9]
  kernel_rfl

theorem over9 : Rows.fnExactCurveNeighboursRow.holds Try.pinned (OpenSpec.ofChange Rows.fnExactCurveNeighboursSpec) :=
  OpenClaim.holds_of_wide 9 Try.f9 rfl rfl rfl rfl rfl rfl rfl ⟨rfl, rfl, rfl, rfl, rfl⟩ rfl rfl rfl rfl rfl named9 Try.func9 closed9
    (of_decide_eq_true (by kernel_rfl)) (by unfold Func.isWrapper; first | (rw [if_pos (by decide +kernel)]; kernel_rfl) | (rw [if_neg (by decide +kernel)]; exact ⟨rfl, rfl⟩))
    (fun os started H enc _ => lifted9 os started H enc)

theorem proved9 : Rows.FnExactCurveNeighboursSaid := over9
#print axioms proved9
end Go.Proofs.Ytinipjijgggjkaa
