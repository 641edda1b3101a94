/- Walks through functions that the law reaches, printed by program. -/
import Derived.Test.YtnifcedmpilldaaF4W0
set_option linter.unusedVariables false
set_option linter.unusedSimpArgs false
namespace Go.Sh
open Go Go.RowKit
/- spec.l04Trace -/
def sh205_1 (q0 : SPanel) (q1 : SWalker) : (List SPoint × List Int × SWalker) → Option ((List SPoint × List Int × SWalker) ⊕ (List SPoint × List Int))
  | (x14, x15, x16) => bif ((x14.length : Int) == 0) || (!((((x16.At.X == q1.At.X) && ((x16.At.Y == q1.At.Y) && true)) && ((x16.DX == q1.DX) && ((x16.DY == q1.DY) && true))))) then (Option.bind (appL x14 [x16.At]) fun x24 => Option.bind (sh214 q0 x16) fun x27 => Option.bind (appL x15 [x27]) fun x30 => Option.bind (sh213 q0 x16) fun x35 => some (.inl (x24, x30, x35))) else (some (.inr (x14, x15)))
def sh205 (q0 : SPanel) (q1 : SWalker) : Option (List SPoint × List Int) := Option.bind (iter (sh205_1 q0 q1) (([] : List SPoint), ([] : List Int), q1)) fun b1 => (some (b1.1, b1.2))
def T205 (r : List SPoint × List Int) (v : Value) (rs : List Own) : Prop := ∃ (a0 : Option Addr) (n0 c0 : Nat), r.1.length = n0 ∧ ∃ (a1 : Option Addr) (n1 c1 : Nat), r.2.length = n1 ∧ v = rets [.slice a0 n0 c0, .slice a1 n1 c1] ∧ rs = [rowT 42 eSPoint a0 n0 c0 r.1, rowT 2 eI64 a1 n1 c1 r.2]
set_option maxRecDepth 100000 in
theorem c205 {w : World} {q0 : SPanel} {a_0 : Option Addr} {n_0 : Nat} {a_0_2 : Option Addr} {n_0_2 c_0_2 : Nat} (g_0 : RdAt w a_0 n_0 [.int .i64 q0.W, .int .i64 q0.H, .slice a_0_2 n_0_2 c_0_2]) (g_0_2 : Rd w a_0_2 (eI64.fl q0.Breaks)) (l_0_2 : q0.Breaks.length = n_0_2) (k_0_2 : n_0_2 ≤ c_0_2) {q1 : SWalker} {r : List SPoint × List Int} (hres : sh205 q0 q1 = some r) : Calls Go.Proofs.Try.prog 205 [ptrAt a_0 n_0, .agg #[.int .i64 q1.At.X, .int .i64 q1.At.Y, .int .i64 q1.DX, .int .i64 q1.DY]].toArray w (Ret w (T205 r)) := by
  subst l_0_2
  obtain ⟨b_0, e_0, g_0⟩ := g_0.norm0
  rw [e_0]
  unfold sh205 at hres
  refine calls_of (n := 37) (M := []) (es := []) Go.Proofs.Try.func205 rfl rfl rfl (Sep.nil _ _ _) ?_
  refine JX.seq ?_
  refine JX.region ?_
  refine JL.eff (ef_box rfl rfl) rfl ?_
  rintro _ _ ⟨g1, rfl, rfl⟩
  refine JL.val (yl_assign rfl) rfl ?_
  refine JL.val (yl_assign rfl) rfl ?_
  refine JL.nil ?_
  refine JE.code ?_
  refine JX.seq ?_
  refine JX.region ?_
  refine JL.eff (ef_buildSlice (E := 42) (k := eSPoint.k) (us := eSPoint.fl ([] : List SPoint)) rfl (fun w => bsl34_0  w) rfl (by decide)) rfl ?_
  rintro _ _ ⟨a3, rfl, rfl⟩
  refine JL.val (yl_assign rfl) rfl ?_
  refine JL.nil ?_
  refine JE.code ?_
  refine JX.seq ?_
  refine JX.region ?_
  refine JL.eff (ef_buildSlice (E := 2) (k := eI64.k) (us := eI64.fl ([] : List Int)) rfl (fun w => bsl24_0  w) rfl (by decide)) rfl ?_
  rintro _ _ ⟨a5, rfl, rfl⟩
  refine JL.val (yl_assign rfl) rfl ?_
  refine JL.nil ?_
  refine JE.code ?_
  refine JX.seq ?_
  refine JX.seq ?_
  refine JX.region ?_
  refine JL.val (yl_loadn Go.Proofs.Try.underlying104 rfl i104 rfl (fun w hC => rd_box hC 0 rfl) rfl (i104s).symm i104p) rfl ?_
  refine JL.eff (ef_alloc i104 i104z rfl) rfl ?_
  rintro _ _ ⟨g7, rfl, rfl⟩
  refine JL.eff (ef_store_box (i := 3) (v := .agg #[.int .i64 q1.At.X, .int .i64 q1.At.Y, .int .i64 q1.DX, .int .i64 q1.DY]) i104 rfl rfl rfl (i104s).symm (Nat.le_of_ble_eq_true rfl) (by simp [Value.cells, Value.oneCell'])) rfl ?_
  rintro _ _ rfl
  refine JL.nil ?_
  refine JE.code ?_
  refine JX.block ?_
  obtain ⟨y1, hy1, hresO1⟩ := bind_some hres
  refine JX.loop (I := fun (s1 : List SPoint × List Int × SWalker) aa ww => ∃ (a9 : Option Addr) (cp10 : Nat) (a11 : Option Addr) (cp12 : Nat) (g13 : Nat), St w [] 37 [(0, ptrAt b_0 0), (3, ptrAt (some ⟨g1, 0, none⟩) 0), (6, .slice a9 s1.1.length cp10), (7, .slice a11 s1.2.1.length cp12), (8, ptrAt (some ⟨g13, 0, none⟩) 0)] [boxO 104 g1 [.int .i64 q1.At.X, .int .i64 q1.At.Y, .int .i64 q1.DX, .int .i64 q1.DY], rowT 42 eSPoint a9 s1.1.length cp10 s1.1, rowT 2 eI64 a11 s1.2.1.length cp12 s1.2.1, boxO 104 g13 [.int .i64 s1.2.2.At.X, .int .i64 s1.2.2.At.Y, .int .i64 s1.2.2.DX, .int .i64 s1.2.2.DY]] aa ww) (sh205_1 q0 q1) hy1 (fun a w h => ⟨a3, 0, a5, 0, g7, h.weak ⟨rfl, rfl, rfl, rfl, rfl, trivial⟩ [0, 1, 2, 3] (by decide) rfl⟩) ?_
  rintro ⟨x14, x15, x16⟩ o1 hres hox1 aa ww ⟨a17, cp18, a19, cp20, g21, hS⟩
  refine (?_ : JX Go.Proofs.Try.prog w [] 37 _ _ [(0, ptrAt b_0 0), (3, ptrAt (some ⟨g1, 0, none⟩) 0), (6, .slice a17 x14.length cp18), (7, .slice a19 x15.length cp20), (8, ptrAt (some ⟨g21, 0, none⟩) 0)] [boxO 104 g1 [.int .i64 q1.At.X, .int .i64 q1.At.Y, .int .i64 q1.DX, .int .i64 q1.DY], rowT 42 eSPoint a17 x14.length cp18 x14, rowT 2 eI64 a19 x15.length cp20 x15, boxO 104 g21 [.int .i64 x16.At.X, .int .i64 x16.At.Y, .int .i64 x16.DX, .int .i64 x16.DY]] _) aa ww hS
  clear hS
  simp only [sh205_1] at hres
  refine JX.seq ?_
  refine JX.seq ?_
  refine JX.region ?_
  refine JL.val (yl_move rfl) rfl ?_
  refine JL.val (yl_len_slice Go.Proofs.Try.underlying34 rfl) rfl ?_
  refine JL.val (yl_eql rfl rfl) rfl ?_
  refine JL.val (yl_move rfl) rfl ?_
  refine JL.cut (K := fun J => J [(0, ptrAt b_0 0), (3, ptrAt (some ⟨g1, 0, none⟩) 0), (6, .slice a17 x14.length cp18), (7, .slice a19 x15.length cp20), (8, ptrAt (some ⟨g21, 0, none⟩) 0), (19, .bool (((x14.length : Int) == 0) || (!((((x16.At.X == q1.At.X) && ((x16.At.Y == q1.At.Y) && true)) && ((x16.DX == q1.DX) && ((x16.DY == q1.DY) && true)))))))] [boxO 104 g1 [.int .i64 q1.At.X, .int .i64 q1.At.Y, .int .i64 q1.DX, .int .i64 q1.DY], rowT 42 eSPoint a17 x14.length cp18 x14, rowT 2 eI64 a19 x15.length cp20 x15, boxO 104 g21 [.int .i64 x16.At.X, .int .i64 x16.At.Y, .int .i64 x16.DX, .int .i64 x16.DY]]) 4 ?_ ?_
  · refine JL.nil ?_
    refine JE.weak (env' := [(0, ptrAt b_0 0), (3, ptrAt (some ⟨g1, 0, none⟩) 0), (6, .slice a17 x14.length cp18), (7, .slice a19 x15.length cp20), (8, ptrAt (some ⟨g21, 0, none⟩) 0), (19, .bool (((x14.length : Int) == 0) || (!((((x16.At.X == q1.At.X) && ((x16.At.Y == q1.At.Y) && true)) && ((x16.DX == q1.DX) && ((x16.DY == q1.DY) && true)))))))]) (es' := [boxO 104 g1 [.int .i64 q1.At.X, .int .i64 q1.At.Y, .int .i64 q1.DX, .int .i64 q1.DY], rowT 42 eSPoint a17 x14.length cp18 x14, rowT 2 eI64 a19 x15.length cp20 x15, boxO 104 g21 [.int .i64 x16.At.X, .int .i64 x16.At.Y, .int .i64 x16.DX, .int .i64 x16.DY]]) [0, 1, 2, 3] ?_ ⟨rfl, rfl, rfl, rfl, rfl, rfl, trivial⟩ (by decide) rfl
    refine JE.code ?_
    rcases cond_some hres with ⟨hb, hres⟩ | ⟨hb, hres⟩
    · refine JX.condT rfl hb ?_
      refine JX.skip ?_
      refine JE.code ?_
      refine JX.seq ?_
      refine JX.block ?_
      refine JX.seq ?_
      refine JX.region ?_
      refine JL.val (yl_move rfl) rfl ?_
      refine JL.val (yl_fieldAt (a := some _) Go.Proofs.Try.underlying104 rfl i42 i42n rfl rfl) rfl ?_
      refine JL.val (yl_loadn Go.Proofs.Try.underlying42 rfl i42 rfl (fun w hC => rd_box hC 3 rfl) rfl (i42s).symm i42p) rfl ?_
      refine JL.eff (ef_buildSlice (E := 42) (k := eSPoint.k) (us := eSPoint.fl [x16.At]) rfl (fun w => bsl34_1 x16.At.X x16.At.Y w) rfl (by decide)) rfl ?_
      rintro _ _ ⟨a22, rfl, rfl⟩
      obtain ⟨x24, hx24, hres⟩ := bind_some hres
      refine JL.eff (ef_appendT (ix := 1) Go.Proofs.Try.underlying34 i42 i42z i42s rfl i42b0 i42b1 rfl rfl rfl rfl rfl (fun w hC => rd_row hC 4 rfl) hx24) rfl ?_
      rintro _ _ ⟨a25, cp26, rfl, rfl⟩
      refine JL.val (yl_assign rfl) rfl ?_
      refine JL.nil ?_
      refine JE.weak (env' := [(0, ptrAt b_0 0), (3, ptrAt (some ⟨g1, 0, none⟩) 0), (6, .slice a25 x24.length cp26), (7, .slice a19 x15.length cp20), (8, ptrAt (some ⟨g21, 0, none⟩) 0)]) (es' := [boxO 104 g1 [.int .i64 q1.At.X, .int .i64 q1.At.Y, .int .i64 q1.DX, .int .i64 q1.DY], rowT 42 eSPoint a25 x24.length cp26 x24, rowT 2 eI64 a19 x15.length cp20 x15, boxO 104 g21 [.int .i64 x16.At.X, .int .i64 x16.At.Y, .int .i64 x16.DX, .int .i64 x16.DY]]) [0, 1, 2, 3] ?_ ⟨rfl, rfl, rfl, rfl, rfl, trivial⟩ (by decide) rfl
      refine JE.code ?_
      refine JX.region ?_
      refine JL.val (yl_move rfl) rfl ?_
      refine JL.val (yl_move rfl) rfl ?_
      refine JL.val (yl_loadn Go.Proofs.Try.underlying104 rfl i104 rfl (fun w hC => rd_box hC 3 rfl) rfl (i104s).symm i104p) rfl ?_
      obtain ⟨x27, hx27, hres⟩ := bind_some hres
      refine JL.eff (ef_call (vs := [ptrAt b_0 0, .agg #[.int .i64 x16.At.X, .int .i64 x16.At.Y, .int .i64 x16.DX, .int .i64 x16.DY]]) (T := T214 x27) Go.Proofs.Try.func214 rfl (by kernel_rfl) rfl (fun w hC => c214 (q1 := x16) (RdAt.of0 (rd_arg g_0 hC)) (rd_arg g_0_2 hC) rfl k_0_2 hx27)) rfl ?_
      rintro _ _ ⟨_, ⟨rfl, rfl⟩, rfl⟩
      refine JL.eff (ef_buildSlice (E := 2) (k := eI64.k) (us := eI64.fl [x27]) rfl (fun w => bsl24_1 x27 w) rfl (by decide)) rfl ?_
      rintro _ _ ⟨a28, rfl, rfl⟩
      obtain ⟨x30, hx30, hres⟩ := bind_some hres
      refine JL.eff (ef_appendT (ix := 2) Go.Proofs.Try.underlying24 i2 i2z i2s rfl i2b0 i2b1 rfl rfl rfl rfl rfl (fun w hC => rd_row hC 4 rfl) hx30) rfl ?_
      rintro _ _ ⟨a31, cp32, rfl, rfl⟩
      refine JL.val (yl_assign rfl) rfl ?_
      refine JL.nil ?_
      refine JE.weak (env' := [(0, ptrAt b_0 0), (3, ptrAt (some ⟨g1, 0, none⟩) 0), (6, .slice a25 x24.length cp26), (7, .slice a31 x30.length cp32), (8, ptrAt (some ⟨g21, 0, none⟩) 0)]) (es' := [boxO 104 g1 [.int .i64 q1.At.X, .int .i64 q1.At.Y, .int .i64 q1.DX, .int .i64 q1.DY], rowT 42 eSPoint a25 x24.length cp26 x24, rowT 2 eI64 a31 x30.length cp32 x30, boxO 104 g21 [.int .i64 x16.At.X, .int .i64 x16.At.Y, .int .i64 x16.DX, .int .i64 x16.DY]]) [0, 1, 2, 3] ?_ ⟨rfl, rfl, rfl, rfl, rfl, trivial⟩ (by decide) rfl
      refine JE.code ?_
      refine JX.seq ?_
      refine JX.seq ?_
      refine JX.region ?_
      refine JL.val (yl_loadn Go.Proofs.Try.underlying104 rfl i104 rfl (fun w hC => rd_box hC 3 rfl) rfl (i104s).symm i104p) rfl ?_
      refine JL.nil ?_
      refine JE.weak (env' := [(0, ptrAt b_0 0), (3, ptrAt (some ⟨g1, 0, none⟩) 0), (6, .slice a25 x24.length cp26), (7, .slice a31 x30.length cp32), (34, .agg #[.int .i64 x16.At.X, .int .i64 x16.At.Y, .int .i64 x16.DX, .int .i64 x16.DY])]) (es' := [boxO 104 g1 [.int .i64 q1.At.X, .int .i64 q1.At.Y, .int .i64 q1.DX, .int .i64 q1.DY], rowT 42 eSPoint a25 x24.length cp26 x24, rowT 2 eI64 a31 x30.length cp32 x30]) [0, 1, 2] ?_ ⟨rfl, rfl, rfl, rfl, rfl, trivial⟩ (by decide) rfl
      refine JE.code ?_
      refine JX.region ?_
      refine JL.eff (ef_alloc i104 i104z rfl) rfl ?_
      rintro _ _ ⟨g33, rfl, rfl⟩
      refine JL.eff (ef_store_box (i := 3) (v := .agg #[.int .i64 x16.At.X, .int .i64 x16.At.Y, .int .i64 x16.DX, .int .i64 x16.DY]) i104 rfl rfl rfl (i104s).symm (Nat.le_of_ble_eq_true rfl) (by simp [Value.cells, Value.oneCell'])) rfl ?_
      rintro _ _ rfl
      refine JL.nil ?_
      refine JE.code ?_
      refine JX.region ?_
      refine JL.val (yl_move rfl) rfl ?_
      refine JL.val (yl_loadn Go.Proofs.Try.underlying104 rfl i104 rfl (fun w hC => rd_box hC 3 rfl) rfl (i104s).symm i104p) rfl ?_
      obtain ⟨x35, hx35, hres⟩ := bind_some hres
      refine JL.eff (ef_call (vs := [ptrAt b_0 0, .agg #[.int .i64 x16.At.X, .int .i64 x16.At.Y, .int .i64 x16.DX, .int .i64 x16.DY]]) (T := T213 x35) Go.Proofs.Try.func213 rfl (by kernel_rfl) rfl (fun w hC => c213 (q1 := x16) (RdAt.of0 (rd_arg g_0 hC)) (rd_arg g_0_2 hC) rfl k_0_2 hx35)) rfl ?_
      rintro _ _ ⟨_, ⟨rfl, rfl⟩, rfl⟩
      refine JL.eff (ef_store_box (i := 3) (v := .agg #[.int .i64 x35.At.X, .int .i64 x35.At.Y, .int .i64 x35.DX, .int .i64 x35.DY]) i104 rfl rfl rfl (i104s).symm (Nat.le_of_ble_eq_true rfl) (by simp [Value.cells, Value.oneCell'])) rfl ?_
      rintro _ _ rfl
      refine JL.nil ?_
      refine JE.weak (env' := [(0, ptrAt b_0 0), (3, ptrAt (some ⟨g1, 0, none⟩) 0), (6, .slice a25 x24.length cp26), (7, .slice a31 x30.length cp32), (8, ptrAt (some ⟨g33, 0, none⟩) 0)]) (es' := [boxO 104 g1 [.int .i64 q1.At.X, .int .i64 q1.At.Y, .int .i64 q1.DX, .int .i64 q1.DY], rowT 42 eSPoint a25 x24.length cp26 x24, rowT 2 eI64 a31 x30.length cp32 x30, boxO 104 g33 [.int .i64 x35.At.X, .int .i64 x35.At.Y, .int .i64 x35.DX, .int .i64 x35.DY]]) [0, 1, 2, 3] ?_ ⟨rfl, rfl, rfl, rfl, rfl, trivial⟩ (by decide) rfl
      refine JE.cont hres ?_
      exact fun a w h => ⟨a25, cp26, a31, cp32, g33, h.weak ⟨rfl, rfl, rfl, rfl, rfl, trivial⟩ [0, 1, 2, 3] (by decide) rfl⟩
    · refine JX.condF rfl hb ?_
      refine JX.exit ?_
      refine JE.qb rfl ?_
      obtain ⟨b1, hb1⟩ : ∃ b : List SPoint × List Int, b = (x14, x15) := ⟨_, rfl⟩
      have hy1 : b1 = y1 := by rw [hb1]; exact hox1 _ (Option.some.inj hres).symm
      have hres := hresO1
      rw [← hy1] at hres
      refine JE.weak (env' := [(6, .slice a17 b1.1.length cp18), (7, .slice a19 b1.2.length cp20)]) (es' := [rowT 42 eSPoint a17 b1.1.length cp18 b1.1, rowT 2 eI64 a19 b1.2.length cp20 b1.2]) [1, 2] ?_ ⟨(by subst hb1; rfl), (by subst hb1; rfl), trivial⟩ (by decide) (by subst hb1; rfl)
      refine JE.code ?_
      refine JX.seq ?_
      refine JX.region ?_
      refine JL.val (yl_move rfl) rfl ?_
      refine JL.val (yl_move rfl) rfl ?_
      refine JL.val (yl_assign rfl) rfl ?_
      refine JL.val (yl_assign rfl) rfl ?_
      refine JL.nil ?_
      refine JE.weak (env' := [(4, .slice a17 b1.1.length cp18), (5, .slice a19 b1.2.length cp20)]) (es' := [rowT 42 eSPoint a17 b1.1.length cp18 b1.1, rowT 2 eI64 a19 b1.2.length cp20 b1.2]) [0, 1] ?_ ⟨rfl, rfl, trivial⟩ (by decide) rfl
      refine JE.code ?_
      refine JX.ret ?_
      obtain rfl := Option.some.inj hres
      refine JE.ret (rs := [.tmp 4, .tmp 5]) (vs := [.slice a17 b1.1.length cp18, .slice a19 b1.2.length cp20]) rfl ⟨rfl, rfl, trivial⟩ ?_
      exact fun w' hb hs => ⟨_, _, ⟨a17, b1.1.length, cp18, rfl, a19, b1.2.length, cp20, rfl, rfl, rfl⟩, rfl, hb, hs.sel [0, 1] _ (by decide) rfl⟩
  · intro K
    rcases Bool.eq_false_or_eq_true ((x14.length : Int) == 0) with hb | hb
    · refine JL.set (d := 15) (v := .bool true) (congrArg (fun b => some (Value.bool b)) hb) ?_
      refine JL.gskip rfl rfl rfl rfl ?_
      refine JL.gskip rfl rfl rfl rfl ?_
      refine JL.gskip rfl rfl rfl rfl ?_
      refine JL.val (yl_pick_true rfl rfl) rfl ?_
      exact JL.weak [0, 1, 2, 3] K ⟨rfl, rfl, rfl, rfl, rfl, (by rw [hb]; rfl), trivial⟩ (by decide) rfl
    · refine JL.set (d := 15) (v := .bool false) (congrArg (fun b => some (Value.bool b)) hb) ?_
      refine JL.gval rfl rfl (yl_loadn Go.Proofs.Try.underlying104 rfl i104 rfl (fun w hC => rd_box hC 3 rfl) rfl (i104s).symm i104p) rfl ?_
      refine JL.gval rfl rfl (yl_loadn Go.Proofs.Try.underlying104 rfl i104 rfl (fun w hC => rd_box hC 0 rfl) rfl (i104s).symm i104p) rfl ?_
      refine JL.gval rfl rfl (yl_binop_of rfl rfl (fun w => eqs104_g _ _ _ _ _ w) (fun w => eqs104_neq x16.At.X x16.At.Y x16.DX x16.DY q1.At.X q1.At.Y q1.DX q1.DY w)) rfl ?_
      refine JL.val (yl_pick_false rfl rfl) rfl ?_
      exact JL.weak [0, 1, 2, 3] K ⟨rfl, rfl, rfl, rfl, rfl, (by rw [hb]; rfl), trivial⟩ (by decide) rfl

/- spec.l03Walker -/
def sh206 (q0 : SPanel) (q1 : Int) : Option (SWalker) := Option.bind (nzI (w64 (2 * q0.H))) fun x3 => Option.bind (nzI (w64 (2 * q0.H))) fun x4 => bif ((w64 (q1.tdiv (w64 (2 * q0.H)))).tmod 2) == 0 then (some (SWalker.mk (SPoint.mk (w64 (q1.tdiv (w64 (2 * q0.H)))) (w64 ((w64 ((w64 ((q1.tmod (w64 (2 * q0.H))).tdiv 2)) * 2)) + 1))) 1 (w64 ((w64 (2 * ((q1.tmod (w64 (2 * q0.H))).tmod 2))) - 1)))) else (Option.bind (bif ((q1.tmod (w64 (2 * q0.H))).tmod 2) == 1 then (some (SWalker.mk (SPoint.mk (w64 (q1.tdiv (w64 (2 * q0.H)))) (w64 ((w64 ((w64 ((q1.tmod (w64 (2 * q0.H))) + 1)).tdiv 2)) * 2))) 1 (-1))) else (some (SWalker.mk (SPoint.mk (w64 (q1.tdiv (w64 (2 * q0.H)))) (w64 ((w64 ((w64 ((q1.tmod (w64 (2 * q0.H))) + 1)).tdiv 2)) * 2))) 1 1))) fun j7 => (some j7))
def T206 (r : SWalker) (v : Value) (rs : List Own) : Prop := v = rets [.agg #[.int .i64 r.At.X, .int .i64 r.At.Y, .int .i64 r.DX, .int .i64 r.DY]] ∧ rs = []
set_option maxRecDepth 100000 in
theorem c206 {w : World} {q0 : SPanel} {a_0 : Option Addr} {n_0 : Nat} {a_0_2 : Option Addr} {n_0_2 c_0_2 : Nat} (g_0 : RdAt w a_0 n_0 [.int .i64 q0.W, .int .i64 q0.H, .slice a_0_2 n_0_2 c_0_2]) (g_0_2 : Rd w a_0_2 (eI64.fl q0.Breaks)) (l_0_2 : q0.Breaks.length = n_0_2) (k_0_2 : n_0_2 ≤ c_0_2) {q1 : Int} {r : SWalker} (hres : sh206 q0 q1 = some r) : Calls Go.Proofs.Try.prog 206 [ptrAt a_0 n_0, .int .i64 q1].toArray w (Ret w (T206 r)) := by
  subst l_0_2
  obtain ⟨b_0, e_0, g_0⟩ := g_0.norm0
  rw [e_0]
  unfold sh206 at hres
  refine calls_of (n := 48) (M := []) (es := []) Go.Proofs.Try.func206 rfl rfl rfl (Sep.nil _ _ _) ?_
  refine JX.seq ?_
  refine JX.region ?_
  refine JL.eff (ef_alloc i104 i104z rfl) rfl ?_
  rintro _ _ ⟨g1, rfl, rfl⟩
  refine JL.nil ?_
  refine JE.code ?_
  refine JX.seq ?_
  refine JX.region ?_
  refine JL.val (yl_move rfl) rfl ?_
  refine JL.val (yl_move rfl) rfl ?_
  refine JL.val (yl_nilCheckAt rfl (Rd.some g_0 (j := 0) rfl)) rfl ?_
  refine JL.val (yl_fieldAt Go.Proofs.Try.underlying26 rfl i2 i2n rfl (Rd.some g_0 (j := 0) rfl)) rfl ?_
  refine JL.val (yl_load1 Go.Proofs.Try.underlying2 rfl rfl (fun w hC => rd_arg g_0 hC) rfl) rfl ?_
  refine JL.val (yl_mul rfl rfl) rfl ?_
  obtain ⟨x3, hx3, hres⟩ := bind_some hres
  refine JL.val (yl_quo rfl rfl (nzI_some hx3)) rfl ?_
  refine JL.val (yl_assign rfl) rfl ?_
  refine JL.nil ?_
  refine JE.weak (env' := [(0, ptrAt b_0 0), (1, .int .i64 q1), (4, ptrAt (some ⟨g1, 0, none⟩) 0), (5, .int .i64 (w64 (q1.tdiv (w64 (2 * q0.H)))))]) (es' := [boxO 104 g1 [.int .i64 0, .int .i64 0, .int .i64 0, .int .i64 0]]) [0] ?_ ⟨rfl, rfl, rfl, rfl, trivial⟩ (by decide) rfl
  refine JE.code ?_
  refine JX.seq ?_
  refine JX.region ?_
  refine JL.val (yl_move rfl) rfl ?_
  refine JL.val (yl_move rfl) rfl ?_
  refine JL.val (yl_nilCheckAt rfl (Rd.some g_0 (j := 0) rfl)) rfl ?_
  refine JL.val (yl_fieldAt Go.Proofs.Try.underlying26 rfl i2 i2n rfl (Rd.some g_0 (j := 0) rfl)) rfl ?_
  refine JL.val (yl_load1 Go.Proofs.Try.underlying2 rfl rfl (fun w hC => rd_arg g_0 hC) rfl) rfl ?_
  refine JL.val (yl_mul rfl rfl) rfl ?_
  obtain ⟨x4, hx4, hres⟩ := bind_some hres
  refine JL.val (yl_rem rfl rfl (nzI_some hx4)) rfl ?_
  refine JL.val (yl_assign rfl) rfl ?_
  refine JL.nil ?_
  refine JE.weak (env' := [(4, ptrAt (some ⟨g1, 0, none⟩) 0), (5, .int .i64 (w64 (q1.tdiv (w64 (2 * q0.H))))), (6, .int .i64 (q1.tmod (w64 (2 * q0.H))))]) (es' := [boxO 104 g1 [.int .i64 0, .int .i64 0, .int .i64 0, .int .i64 0]]) [0] ?_ ⟨rfl, rfl, rfl, trivial⟩ (by decide) rfl
  refine JE.code ?_
  refine JX.seq ?_
  refine JX.seq ?_
  refine JX.region ?_
  refine JL.val (yl_move rfl) rfl ?_
  refine JL.val (yl_rem rfl rfl (by decide)) rfl ?_
  refine JL.val (yl_eql rfl rfl) rfl ?_
  refine JL.nil ?_
  refine JE.code ?_
  rcases cond_some hres with ⟨hb, hres⟩ | ⟨hb, hres⟩
  · refine JX.condT rfl hb ?_
    refine JX.seq ?_
    refine JX.region ?_
    refine JL.val (yl_move rfl) rfl ?_
    refine JL.val (yl_move rfl) rfl ?_
    refine JL.val (yl_quo rfl rfl (by decide)) rfl ?_
    refine JL.val (yl_mul rfl rfl) rfl ?_
    refine JL.val (yl_add rfl rfl) rfl ?_
    refine JL.val (yl_build rfl (fun w => bld42_0_1 (w64 (q1.tdiv (w64 (2 * q0.H)))) (w64 ((w64 ((w64 ((q1.tmod (w64 (2 * q0.H))).tdiv 2)) * 2)) + 1)) w)) rfl ?_
    refine JL.val (yl_move rfl) rfl ?_
    refine JL.val (yl_rem rfl rfl (by decide)) rfl ?_
    refine JL.val (yl_mul rfl rfl) rfl ?_
    refine JL.val (yl_sub rfl rfl) rfl ?_
    refine JL.val (yl_build rfl (fun w => bld104_0_1_2 (w64 (q1.tdiv (w64 (2 * q0.H)))) (w64 ((w64 ((w64 ((q1.tmod (w64 (2 * q0.H))).tdiv 2)) * 2)) + 1)) 1 (w64 ((w64 (2 * ((q1.tmod (w64 (2 * q0.H))).tmod 2))) - 1)) w)) rfl ?_
    refine JL.eff (ef_store_box (i := 0) (v := .agg #[.int .i64 (w64 (q1.tdiv (w64 (2 * q0.H)))), .int .i64 (w64 ((w64 ((w64 ((q1.tmod (w64 (2 * q0.H))).tdiv 2)) * 2)) + 1)), .int .i64 1, .int .i64 (w64 ((w64 (2 * ((q1.tmod (w64 (2 * q0.H))).tmod 2))) - 1))]) i104 rfl rfl rfl (i104s).symm (Nat.le_of_ble_eq_true rfl) (by simp [Value.cells, Value.oneCell'])) rfl ?_
    rintro _ _ rfl
    refine JL.nil ?_
    refine JE.weak (env' := [(4, ptrAt (some ⟨g1, 0, none⟩) 0)]) (es' := [boxO 104 g1 [.int .i64 (w64 (q1.tdiv (w64 (2 * q0.H)))), .int .i64 (w64 ((w64 ((w64 ((q1.tmod (w64 (2 * q0.H))).tdiv 2)) * 2)) + 1)), .int .i64 1, .int .i64 (w64 ((w64 (2 * ((q1.tmod (w64 (2 * q0.H))).tmod 2))) - 1))]]) [0] ?_ ⟨rfl, trivial⟩ (by decide) rfl
    refine JE.code ?_
    refine JX.ret ?_
    obtain rfl := Option.some.inj hres
    refine JE.ret (rs := [.cell 4 104]) (vs := [.agg #[.int .i64 (w64 (q1.tdiv (w64 (2 * q0.H)))), .int .i64 (w64 ((w64 ((w64 ((q1.tmod (w64 (2 * q0.H))).tdiv 2)) * 2)) + 1)), .int .i64 1, .int .i64 (w64 ((w64 (2 * ((q1.tmod (w64 (2 * q0.H))).tmod 2))) - 1))]]) rfl ⟨rv_box 0 rfl rfl Go.Proofs.Try.underlying104 rfl i104 (i104s).symm, trivial⟩ ?_
    exact fun w' hb hs => ⟨_, _, ⟨rfl, rfl⟩, rfl, hb, hs.sel [] _ (by decide) rfl⟩
  · refine JX.condF rfl hb ?_
    refine JX.skip ?_
    refine JE.code ?_
    refine JX.seq ?_
    refine JX.region ?_
    refine JL.val (yl_move rfl) rfl ?_
    refine JL.val (yl_move rfl) rfl ?_
    refine JL.val (yl_add rfl rfl) rfl ?_
    refine JL.val (yl_quo rfl rfl (by decide)) rfl ?_
    refine JL.val (yl_mul rfl rfl) rfl ?_
    refine JL.val (yl_build rfl (fun w => bld42_0_1 (w64 (q1.tdiv (w64 (2 * q0.H)))) (w64 ((w64 ((w64 ((q1.tmod (w64 (2 * q0.H))) + 1)).tdiv 2)) * 2)) w)) rfl ?_
    refine JL.val (yl_build rfl (fun w => bld104_0_1_2 (w64 (q1.tdiv (w64 (2 * q0.H)))) (w64 ((w64 ((w64 ((q1.tmod (w64 (2 * q0.H))) + 1)).tdiv 2)) * 2)) 1 1 w)) rfl ?_
    refine JL.eff (ef_alloc i104 i104z rfl) rfl ?_
    rintro _ _ ⟨g5, rfl, rfl⟩
    refine JL.eff (ef_store_box (i := 1) (v := .agg #[.int .i64 (w64 (q1.tdiv (w64 (2 * q0.H)))), .int .i64 (w64 ((w64 ((w64 ((q1.tmod (w64 (2 * q0.H))) + 1)).tdiv 2)) * 2)), .int .i64 1, .int .i64 1]) i104 rfl rfl rfl (i104s).symm (Nat.le_of_ble_eq_true rfl) (by simp [Value.cells, Value.oneCell'])) rfl ?_
    rintro _ _ rfl
    refine JL.nil ?_
    refine JE.weak (env' := [(4, ptrAt (some ⟨g1, 0, none⟩) 0), (6, .int .i64 (q1.tmod (w64 (2 * q0.H)))), (7, ptrAt (some ⟨g5, 0, none⟩) 0)]) (es' := [boxO 104 g1 [.int .i64 0, .int .i64 0, .int .i64 0, .int .i64 0], boxO 104 g5 [.int .i64 (w64 (q1.tdiv (w64 (2 * q0.H)))), .int .i64 (w64 ((w64 ((w64 ((q1.tmod (w64 (2 * q0.H))) + 1)).tdiv 2)) * 2)), .int .i64 1, .int .i64 1]]) [0, 1] ?_ ⟨rfl, rfl, rfl, trivial⟩ (by decide) rfl
    refine JE.code ?_
    refine JX.seq ?_
    refine JX.seq ?_
    refine JX.region ?_
    refine JL.val (yl_move rfl) rfl ?_
    refine JL.val (yl_rem rfl rfl (by decide)) rfl ?_
    refine JL.val (yl_eql rfl rfl) rfl ?_
    refine JL.nil ?_
    refine JE.code ?_
    obtain ⟨j7, hj7, hresj7⟩ := bind_some hres
    refine JX.cut (K := fun J => J [(4, ptrAt (some ⟨g1, 0, none⟩) 0), (7, ptrAt (some ⟨g5, 0, none⟩) 0)] [boxO 104 g1 [.int .i64 0, .int .i64 0, .int .i64 0, .int .i64 0], boxO 104 g5 [.int .i64 j7.At.X, .int .i64 j7.At.Y, .int .i64 j7.DX, .int .i64 j7.DY]]) ?_ ?_
    · have hres := hresj7
      refine JE.code ?_
      refine JX.seq ?_
      refine JX.region ?_
      refine JL.val (yl_loadn Go.Proofs.Try.underlying104 rfl i104 rfl (fun w hC => rd_box hC 1 rfl) rfl (i104s).symm i104p) rfl ?_
      refine JL.eff (ef_store_box (i := 0) (v := .agg #[.int .i64 j7.At.X, .int .i64 j7.At.Y, .int .i64 j7.DX, .int .i64 j7.DY]) i104 rfl rfl rfl (i104s).symm (Nat.le_of_ble_eq_true rfl) (by simp [Value.cells, Value.oneCell'])) rfl ?_
      rintro _ _ rfl
      refine JL.nil ?_
      refine JE.weak (env' := [(4, ptrAt (some ⟨g1, 0, none⟩) 0)]) (es' := [boxO 104 g1 [.int .i64 j7.At.X, .int .i64 j7.At.Y, .int .i64 j7.DX, .int .i64 j7.DY]]) [0] ?_ ⟨rfl, trivial⟩ (by decide) rfl
      refine JE.code ?_
      refine JX.ret ?_
      obtain rfl := Option.some.inj hres
      refine JE.ret (rs := [.cell 4 104]) (vs := [.agg #[.int .i64 j7.At.X, .int .i64 j7.At.Y, .int .i64 j7.DX, .int .i64 j7.DY]]) rfl ⟨rv_box 0 rfl rfl Go.Proofs.Try.underlying104 rfl i104 (i104s).symm, trivial⟩ ?_
      exact fun w' hb hs => ⟨_, _, ⟨rfl, rfl⟩, rfl, hb, hs.sel [] _ (by decide) rfl⟩
    · intro K
      rcases cond_some hj7 with ⟨hb, hres⟩ | ⟨hb, hres⟩
      · refine JX.condT rfl hb ?_
        refine JX.region ?_
        refine JL.val (yl_fieldAt (a := some _) Go.Proofs.Try.underlying104 rfl i2 i2n rfl rfl) rfl ?_
        refine JL.eff (ef_store_box (i := 1) (v := .int .i64 (-1)) i2 rfl rfl rfl (i2s).symm (Nat.le_of_ble_eq_true rfl) (by simp [Value.cells, Value.oneCell'])) rfl ?_
        rintro _ _ rfl
        refine JL.nil ?_
        have hj := Option.some.inj hres
        exact JE.weak [0, 1] (K) ⟨(by subst hj; rfl), (by subst hj; rfl), trivial⟩ (by decide) (by subst hj; rfl)
      · refine JX.condF rfl hb ?_
        refine JX.skip ?_
        have hj := Option.some.inj hres
        exact JE.weak [0, 1] (K) ⟨(by subst hj; rfl), (by subst hj; rfl), trivial⟩ (by decide) (by subst hj; rfl)

/- spec.l04All -/
def sh147_3 (x21 : List (List SPoint)) (x29 : List SPoint × List Int) : (Int × List Int) → Option ((Int × List Int) ⊕ (List Int))
  | (x37, x38) => bif decide (x37 < (x29.2.length : Int)) then (Option.bind (getI x29.2 x37) fun x40 => Option.bind (getI x38 x40) fun x41 => some (.inl (w64 (x37 + 1), x38.set (x40).toNat ((x21.length : Nat) : Int)))) else (some (.inr x38))
def sh147_2 (q0 : SPanel) : (Int × List Int × List (List SPoint)) → Option ((Int × List Int × List (List SPoint)) ⊕ (List Int × List (List SPoint)))
  | (x19, x20, x21) => bif decide (x19 < (w64 ((w64 (4 * q0.W)) * q0.H))) then (Option.bind (getI x20 x19) fun x27 => bif decide (0 ≤ x27) then (some (.inl (w64 (x19 + 1), x20, x21))) else (Option.bind (sh206 q0 x19) fun x28 => Option.bind (sh205 q0 x28) fun x29 => Option.bind (iter (sh147_3 x21 x29) (0, x20)) fun b3 => (Option.bind (appL x21 [x29.1]) fun x45 => some (.inl (w64 (x19 + 1), b3, x45))))) else (some (.inr (x20, x21)))
def sh147_1 (q0 : SPanel) : (Int × List Int) → Option ((Int × List Int) ⊕ (List Int))
  | (x6, x7) => bif decide (x6 < (w64 ((w64 (4 * q0.W)) * q0.H))) then (Option.bind (getI x7 x6) fun x9 => some (.inl (w64 (x6 + 1), x7.set (x6).toNat (-1)))) else (some (.inr x7))
def sh147 (q0 : SPanel) : Option (List (List SPoint) × List Int) := Option.bind (mkL (w64 ((w64 (4 * q0.W)) * q0.H)) 0) fun x2 => Option.bind (iter (sh147_1 q0) (0, x2)) fun b1 => (Option.bind (iter (sh147_2 q0) (0, b1, ([] : List (List SPoint)))) fun b2 => (some (b2.2, b2.1)))
def T147 (r : List (List SPoint) × List Int) (v : Value) (rs : List Own) : Prop := ∃ (a0 : Option Addr) (n0 c0 : Nat) (h0 : List Hd), r.1.length = n0 ∧ Inn h0 r.1 ∧ ∃ (a1 : Option Addr) (n1 c1 : Nat), r.2.length = n1 ∧ v = rets [.slice a0 n0 c0, .slice a1 n1 c1] ∧ rs = [rowT 34 eHd a0 n0 c0 h0, innO 42 eSPoint none h0 r.1, rowT 2 eI64 a1 n1 c1 r.2]
set_option maxRecDepth 100000 in
set_option maxHeartbeats 1000000 in
theorem c147 {w : World} {q0 : SPanel} {a_0 : Option Addr} {n_0 : Nat} {a_0_2 : Option Addr} {n_0_2 c_0_2 : Nat} (g_0 : RdAt w a_0 n_0 [.int .i64 q0.W, .int .i64 q0.H, .slice a_0_2 n_0_2 c_0_2]) (g_0_2 : Rd w a_0_2 (eI64.fl q0.Breaks)) (l_0_2 : q0.Breaks.length = n_0_2) (k_0_2 : n_0_2 ≤ c_0_2) {r : List (List SPoint) × List Int} (hres : sh147 q0 = some r) : Calls Go.Proofs.Try.prog 147 [ptrAt a_0 n_0].toArray w (Ret w (T147 r)) := by
  subst l_0_2
  obtain ⟨b_0, e_0, g_0⟩ := g_0.norm0
  rw [e_0]
  unfold sh147 at hres
  refine calls_of (n := 71) (M := []) (es := []) Go.Proofs.Try.func147 rfl rfl rfl (Sep.nil _ _ _) ?_
  refine JX.seq ?_
  refine JX.region ?_
  refine JL.val (yl_assign rfl) rfl ?_
  refine JL.val (yl_assign rfl) rfl ?_
  refine JL.nil ?_
  refine JE.code ?_
  refine JX.seq ?_
  refine JX.drawH [(0, .pure), (1, .pure), (2, .pure), (3, .read), (4, .pure), (5, .pure), (6, .pure), (7, .pure), (8, .read), (9, .pure), (10, .pure)] [] [] [] [] [] mixedP (by kernel_rfl) (by kernel_rfl) (by decide) rfl rfl ?_
  intro wrr1 Nr1 hFr1
  refine JH.pure rfl (yl_move rfl) rfl ?_
  refine JH.pure rfl (yl_nilCheckAt rfl (Rd.some g_0 (j := 0) rfl)) rfl ?_
  refine JH.pure rfl (yl_fieldAt Go.Proofs.Try.underlying26 rfl i2 i2n rfl (Rd.some g_0 (j := 0) rfl)) rfl ?_
  refine JH.read rfl (yl_load1 Go.Proofs.Try.underlying2 rfl rfl (fun w hw => hFr1.arg g_0 hw) rfl) rfl ?_
  refine JH.pure rfl (yl_mul rfl rfl) rfl ?_
  refine JH.pure rfl (yl_move rfl) rfl ?_
  refine JH.pure rfl (yl_nilCheckAt rfl (Rd.some g_0 (j := 0) rfl)) rfl ?_
  refine JH.pure rfl (yl_fieldAt Go.Proofs.Try.underlying26 rfl i2 i2n rfl (Rd.some g_0 (j := 0) rfl)) rfl ?_
  refine JH.read rfl (yl_load1 Go.Proofs.Try.underlying2 rfl rfl (fun w hw => hFr1.arg g_0 hw) rfl) rfl ?_
  refine JH.pure rfl (yl_mul rfl rfl) rfl ?_
  refine JH.pure rfl (yl_assign rfl) rfl ?_
  refine JH.nil ?_
  refine JE.weak (env' := [(0, ptrAt b_0 0), (4, .int .i64 (w64 ((w64 (4 * q0.W)) * q0.H)))]) (es' := []) [] ?_ ⟨rfl, rfl, trivial⟩ (by decide) rfl
  refine JE.code ?_
  refine JX.seq ?_
  refine JX.region ?_
  refine JL.val (yl_move rfl) rfl ?_
  obtain ⟨x2, hx2, hres⟩ := bind_some hres
  refine JL.eff (ef_makeS (e := eI64) Go.Proofs.Try.underlying24 i2 i2s i2z rfl i2b1 rfl rfl hx2) rfl ?_
  rintro _ _ ⟨a3, rfl, rfl⟩
  refine JL.val (yl_assign rfl) rfl ?_
  refine JL.nil ?_
  refine JE.code ?_
  refine JX.seq ?_
  refine JX.seq ?_
  refine JX.region ?_
  refine JL.val (yl_assign rfl) rfl ?_
  refine JL.nil ?_
  refine JE.code ?_
  refine JX.block ?_
  obtain ⟨y1, hy1, hresO1⟩ := bind_some hres
  refine JX.loop (I := fun (s1 : Int × List Int) aa ww => ∃ (l5 : s1.2.length = x2.length), St w [] 71 [(0, ptrAt b_0 0), (4, .int .i64 (w64 ((w64 (4 * q0.W)) * q0.H))), (5, .slice a3 x2.length x2.length), (6, .int .i64 s1.1)] [rowT 2 eI64 a3 x2.length x2.length s1.2] aa ww) (sh147_1 q0) hy1 (fun a w h => ⟨rfl, h.weak ⟨rfl, rfl, rfl, rfl, trivial⟩ [0] (by decide) rfl⟩) ?_
  rintro ⟨x6, x7⟩ o1 hres hox1 aa ww ⟨l8, hS⟩
  refine (?_ : JX Go.Proofs.Try.prog w [] 71 _ _ [(0, ptrAt b_0 0), (4, .int .i64 (w64 ((w64 (4 * q0.W)) * q0.H))), (5, .slice a3 x2.length x2.length), (6, .int .i64 x6)] [rowT 2 eI64 a3 x2.length x2.length x7] _) aa ww hS
  clear hS
  simp only [sh147_1] at hres
  refine JX.seq ?_
  refine JX.seq ?_
  refine JX.region ?_
  refine JL.val (yl_move rfl) rfl ?_
  refine JL.val (yl_move rfl) rfl ?_
  refine JL.val (yl_lss rfl rfl) rfl ?_
  refine JL.nil ?_
  refine JE.code ?_
  rcases cond_some hres with ⟨hb, hres⟩ | ⟨hb, hres⟩
  · refine JX.condT rfl hb ?_
    refine JX.skip ?_
    refine JE.code ?_
    refine JX.seq ?_
    refine JX.block ?_
    refine JX.region ?_
    refine JL.val (yl_move rfl) rfl ?_
    refine JL.val (yl_move rfl) rfl ?_
    obtain ⟨x9, hx9, hres⟩ := bind_some hres
    refine JL.val (yl_idxT Go.Proofs.Try.underlying24 i2 i2s rfl rfl hx9 l8 (fun w hC => rd_row hC 0 rfl)) rfl ?_
    refine JL.eff (ef_storeT (ix := 0) (u := (-1)) i2 i2s rfl rfl rfl hx9 rfl) rfl ?_
    rintro _ _ rfl
    refine JL.nil ?_
    refine JE.weak (env' := [(0, ptrAt b_0 0), (4, .int .i64 (w64 ((w64 (4 * q0.W)) * q0.H))), (5, .slice a3 x2.length x2.length), (6, .int .i64 x6)]) (es' := [rowT 2 eI64 a3 x2.length x2.length (x7.set (x6).toNat (-1))]) [0] ?_ ⟨rfl, rfl, rfl, rfl, trivial⟩ (by decide) rfl
    refine JE.code ?_
    refine JX.region ?_
    refine JL.val (yl_move rfl) rfl ?_
    refine JL.val (yl_add rfl rfl) rfl ?_
    refine JL.val (yl_assign rfl) rfl ?_
    refine JL.nil ?_
    refine JE.cont hres ?_
    exact fun a w h => ⟨(List.length_set.trans l8), h.weak ⟨rfl, rfl, rfl, rfl, trivial⟩ [0] (by decide) rfl⟩
  · refine JX.condF rfl hb ?_
    refine JX.exit ?_
    refine JE.qb rfl ?_
    obtain ⟨b1, hb1⟩ : ∃ b : List Int, b = x7 := ⟨_, rfl⟩
    have hy1 : b1 = y1 := by rw [hb1]; exact hox1 _ (Option.some.inj hres).symm
    have hres := hresO1
    rw [← hy1] at hres
    have l10 : b1.length = x2.length := by subst hb1; exact l8
    refine JE.weak (env' := [(0, ptrAt b_0 0), (4, .int .i64 (w64 ((w64 (4 * q0.W)) * q0.H))), (5, .slice a3 x2.length x2.length)]) (es' := [rowT 2 eI64 a3 x2.length x2.length b1]) [0] ?_ ⟨(by subst hb1; rfl), (by subst hb1; rfl), (by subst hb1; rfl), trivial⟩ (by decide) (by subst hb1; rfl)
    refine JE.code ?_
    refine JX.seq ?_
    refine JX.region ?_
    refine JL.eff (ef_buildSlice (E := 34) (k := eHd.k) (us := eHd.fl ([] : List Hd)) rfl (fun w => bsl29_0  w) rfl (by decide)) rfl ?_
    rintro _ _ ⟨a11, rfl, rfl⟩
    refine JL.nilinn 42 eSPoint ?_
    refine JL.val (yl_assign rfl) rfl ?_
    refine JL.nil ?_
    refine JE.code ?_
    refine JX.seq ?_
    refine JX.seq ?_
    refine JX.region ?_
    refine JL.val (yl_assign rfl) rfl ?_
    refine JL.nil ?_
    refine JE.code ?_
    refine JX.block ?_
    obtain ⟨y2, hy2, hresO2⟩ := bind_some hres
    refine JX.loop (I := fun (s2 : Int × List Int × List (List SPoint)) aa ww => ∃ (l14 : s2.2.1.length = x2.length) (a15 : Option Addr) (cp16 : Nat) (hs17 : List Hd) (hi18 : Inn hs17 s2.2.2), St w [] 71 [(0, ptrAt b_0 0), (4, .int .i64 (w64 ((w64 (4 * q0.W)) * q0.H))), (5, .slice a3 x2.length x2.length), (7, .slice a15 s2.2.2.length cp16), (8, .int .i64 s2.1)] [rowT 2 eI64 a3 x2.length x2.length s2.2.1, rowT 34 eHd a15 s2.2.2.length cp16 hs17, innO 42 eSPoint none hs17 s2.2.2] aa ww) (sh147_2 q0) hy2 (fun a w h => ⟨l10, a11, 0, ([] : List Hd), (Inn.nil (T := SPoint)), h.weak ⟨rfl, rfl, rfl, rfl, rfl, trivial⟩ [0, 1, 2] (by decide) rfl⟩) ?_
    rintro ⟨x19, x20, x21⟩ o2 hres hox2 aa ww ⟨l22, a23, cp24, hs25, hi26, hS⟩
    refine (?_ : JX Go.Proofs.Try.prog w [] 71 _ _ [(0, ptrAt b_0 0), (4, .int .i64 (w64 ((w64 (4 * q0.W)) * q0.H))), (5, .slice a3 x2.length x2.length), (7, .slice a23 x21.length cp24), (8, .int .i64 x19)] [rowT 2 eI64 a3 x2.length x2.length x20, rowT 34 eHd a23 x21.length cp24 hs25, innO 42 eSPoint none hs25 x21] _) aa ww hS
    clear hS
    simp only [sh147_2] at hres
    refine JX.seq ?_
    refine JX.seq ?_
    refine JX.region ?_
    refine JL.val (yl_move rfl) rfl ?_
    refine JL.val (yl_move rfl) rfl ?_
    refine JL.val (yl_lss rfl rfl) rfl ?_
    refine JL.nil ?_
    refine JE.code ?_
    rcases cond_some hres with ⟨hb, hres⟩ | ⟨hb, hres⟩
    · refine JX.condT rfl hb ?_
      refine JX.skip ?_
      refine JE.code ?_
      refine JX.seq ?_
      refine JX.block ?_
      refine JX.seq ?_
      refine JX.seq ?_
      refine JX.region ?_
      refine JL.val (yl_move rfl) rfl ?_
      refine JL.val (yl_move rfl) rfl ?_
      obtain ⟨x27, hx27, hres⟩ := bind_some hres
      refine JL.val (yl_idxT Go.Proofs.Try.underlying24 i2 i2s rfl rfl hx27 l22 (fun w hC => rd_row hC 0 rfl)) rfl ?_
      refine JL.val (yl_loadT0 Go.Proofs.Try.underlying2 rfl rfl hx27 (fun w hC => rd_row hC 0 rfl) rfl) rfl ?_
      refine JL.val (yl_geq rfl rfl) rfl ?_
      refine JL.nil ?_
      refine JE.weak (env' := [(0, ptrAt b_0 0), (4, .int .i64 (w64 ((w64 (4 * q0.W)) * q0.H))), (5, .slice a3 x2.length x2.length), (7, .slice a23 x21.length cp24), (8, .int .i64 x19), (42, .bool (decide (0 ≤ x27)))]) (es' := [rowT 2 eI64 a3 x2.length x2.length x20, rowT 34 eHd a23 x21.length cp24 hs25, innO 42 eSPoint none hs25 x21]) [0, 1, 2] ?_ ⟨rfl, rfl, rfl, rfl, rfl, rfl, trivial⟩ (by decide) rfl
      refine JE.code ?_
      rcases cond_some hres with ⟨hb, hres⟩ | ⟨hb, hres⟩
      · refine JX.condT rfl hb ?_
        refine JX.exit ?_
        refine JE.qb rfl ?_
        refine JE.code ?_
        refine JX.region ?_
        refine JL.val (yl_move rfl) rfl ?_
        refine JL.val (yl_add rfl rfl) rfl ?_
        refine JL.val (yl_assign rfl) rfl ?_
        refine JL.nil ?_
        refine JE.cont hres ?_
        exact fun a w h => ⟨l22, a23, cp24, hs25, hi26, h.weak ⟨rfl, rfl, rfl, (by first | rfl | (simp only [List.length_set, l22]; rfl) | simp only [List.length_set, l22]), rfl, trivial⟩ [0, 1, 2] (by decide) (by first | rfl | (simp only [List.length_set, l22]; rfl) | simp only [List.length_set, l22])⟩
      · refine JX.condF rfl hb ?_
        refine JX.skip ?_
        refine JE.code ?_
        refine JX.seq ?_
        refine JX.region ?_
        refine JL.val (yl_move rfl) rfl ?_
        refine JL.val (yl_move rfl) rfl ?_
        refine JL.val (yl_move rfl) rfl ?_
        obtain ⟨x28, hx28, hres⟩ := bind_some hres
        refine JL.eff (ef_call (T := T206 x28) Go.Proofs.Try.func206 rfl (by kernel_rfl) rfl (fun w hC => c206 (RdAt.of0 (rd_arg g_0 hC)) (rd_arg g_0_2 hC) rfl k_0_2 hx28)) rfl ?_
        rintro _ _ ⟨_, ⟨rfl, rfl⟩, rfl⟩
        obtain ⟨x29, hx29, hres⟩ := bind_some hres
        refine JL.eff (ef_call (vs := [ptrAt b_0 0, .agg #[.int .i64 x28.At.X, .int .i64 x28.At.Y, .int .i64 x28.DX, .int .i64 x28.DY]]) (T := T205 x29) Go.Proofs.Try.func205 rfl (by kernel_rfl) rfl (fun w hC => c205 (q1 := x28) (RdAt.of0 (rd_arg g_0 hC)) (rd_arg g_0_2 hC) rfl k_0_2 hx29)) rfl ?_
        rintro _ _ ⟨_, ⟨a30, _, cp31, rfl, a33, _, cp34, rfl, rfl, rfl⟩, rfl⟩
        refine JL.val (yl_move rfl) rfl ?_
        refine JL.val (yl_extract rfl rfl) rfl ?_
        refine JL.val (yl_extract rfl rfl) rfl ?_
        refine JL.val (yl_assign rfl) rfl ?_
        refine JL.val (yl_assign rfl) rfl ?_
        refine JL.nil ?_
        refine JE.weak (env' := [(0, ptrAt b_0 0), (4, .int .i64 (w64 ((w64 (4 * q0.W)) * q0.H))), (5, .slice a3 x2.length x2.length), (7, .slice a23 x21.length cp24), (8, .int .i64 x19), (9, .slice a30 x29.1.length cp31), (10, .slice a33 x29.2.length cp34)]) (es' := [rowT 2 eI64 a3 x2.length x2.length x20, rowT 34 eHd a23 x21.length cp24 hs25, innO 42 eSPoint none hs25 x21, rowT 42 eSPoint a30 x29.1.length cp31 x29.1, rowT 2 eI64 a33 x29.2.length cp34 x29.2]) [0, 1, 2, 3, 4] ?_ ⟨rfl, rfl, rfl, rfl, rfl, rfl, rfl, trivial⟩ (by decide) rfl
        refine JE.code ?_
        refine JX.seq ?_
        refine JX.seq ?_
        refine JX.region ?_
        refine JL.val (yl_assign rfl) rfl ?_
        refine JL.nil ?_
        refine JE.code ?_
        refine JX.block ?_
        obtain ⟨y3, hy3, hresO3⟩ := bind_some hres
        refine JX.loop (I := fun (s3 : Int × List Int) aa ww => ∃ (l36 : s3.2.length = x2.length), St w [] 71 [(0, ptrAt b_0 0), (4, .int .i64 (w64 ((w64 (4 * q0.W)) * q0.H))), (5, .slice a3 x2.length x2.length), (7, .slice a23 x21.length cp24), (8, .int .i64 x19), (9, .slice a30 x29.1.length cp31), (10, .slice a33 x29.2.length cp34), (11, .int .i64 s3.1)] [rowT 2 eI64 a3 x2.length x2.length s3.2, rowT 34 eHd a23 x21.length cp24 hs25, innO 42 eSPoint none hs25 x21, rowT 42 eSPoint a30 x29.1.length cp31 x29.1, rowT 2 eI64 a33 x29.2.length cp34 x29.2] aa ww) (sh147_3 x21 x29) hy3 (fun a w h => ⟨l22, h.weak ⟨rfl, rfl, rfl, rfl, rfl, rfl, rfl, rfl, trivial⟩ [0, 1, 2, 3, 4] (by decide) rfl⟩) ?_
        rintro ⟨x37, x38⟩ o3 hres hox3 aa ww ⟨l39, hS⟩
        refine (?_ : JX Go.Proofs.Try.prog w [] 71 _ _ [(0, ptrAt b_0 0), (4, .int .i64 (w64 ((w64 (4 * q0.W)) * q0.H))), (5, .slice a3 x2.length x2.length), (7, .slice a23 x21.length cp24), (8, .int .i64 x19), (9, .slice a30 x29.1.length cp31), (10, .slice a33 x29.2.length cp34), (11, .int .i64 x37)] [rowT 2 eI64 a3 x2.length x2.length x38, rowT 34 eHd a23 x21.length cp24 hs25, innO 42 eSPoint none hs25 x21, rowT 42 eSPoint a30 x29.1.length cp31 x29.1, rowT 2 eI64 a33 x29.2.length cp34 x29.2] _) aa ww hS
        clear hS
        simp only [sh147_3] at hres
        refine JX.seq ?_
        refine JX.seq ?_
        refine JX.region ?_
        refine JL.val (yl_move rfl) rfl ?_
        refine JL.val (yl_move rfl) rfl ?_
        refine JL.val (yl_len_slice Go.Proofs.Try.underlying24 rfl) rfl ?_
        refine JL.val (yl_lss rfl rfl) rfl ?_
        refine JL.nil ?_
        refine JE.weak (env' := [(0, ptrAt b_0 0), (4, .int .i64 (w64 ((w64 (4 * q0.W)) * q0.H))), (5, .slice a3 x2.length x2.length), (7, .slice a23 x21.length cp24), (8, .int .i64 x19), (9, .slice a30 x29.1.length cp31), (10, .slice a33 x29.2.length cp34), (11, .int .i64 x37), (54, .bool (decide (x37 < (x29.2.length : Int))))]) (es' := [rowT 2 eI64 a3 x2.length x2.length x38, rowT 34 eHd a23 x21.length cp24 hs25, innO 42 eSPoint none hs25 x21, rowT 42 eSPoint a30 x29.1.length cp31 x29.1, rowT 2 eI64 a33 x29.2.length cp34 x29.2]) [0, 1, 2, 3, 4] ?_ ⟨rfl, rfl, rfl, rfl, rfl, rfl, rfl, rfl, rfl, trivial⟩ (by decide) rfl
        refine JE.code ?_
        rcases cond_some hres with ⟨hb, hres⟩ | ⟨hb, hres⟩
        · refine JX.condT rfl hb ?_
          refine JX.skip ?_
          refine JE.code ?_
          refine JX.seq ?_
          refine JX.block ?_
          refine JX.region ?_
          refine JL.val (yl_move rfl) rfl ?_
          refine JL.val (yl_move rfl) rfl ?_
          refine JL.val (yl_move rfl) rfl ?_
          obtain ⟨x40, hx40, hres⟩ := bind_some hres
          refine JL.val (yl_idxT Go.Proofs.Try.underlying24 i2 i2s rfl rfl hx40 rfl (fun w hC => rd_row hC 4 rfl)) rfl ?_
          refine JL.val (yl_loadT0 Go.Proofs.Try.underlying2 rfl rfl hx40 (fun w hC => rd_row hC 4 rfl) rfl) rfl ?_
          refine JL.val (yl_move rfl) rfl ?_
          refine JL.val (yl_len_slice Go.Proofs.Try.underlying29 rfl) rfl ?_
          obtain ⟨x41, hx41, hres⟩ := bind_some hres
          refine JL.val (yl_idxT Go.Proofs.Try.underlying24 i2 i2s rfl rfl hx41 l39 (fun w hC => rd_row hC 0 rfl)) rfl ?_
          refine JL.eff (ef_storeT (ix := 0) (u := ((x21.length : Nat) : Int)) i2 i2s rfl rfl rfl hx41 rfl) rfl ?_
          rintro _ _ rfl
          refine JL.nil ?_
          refine JE.weak (env' := [(0, ptrAt b_0 0), (4, .int .i64 (w64 ((w64 (4 * q0.W)) * q0.H))), (5, .slice a3 x2.length x2.length), (7, .slice a23 x21.length cp24), (8, .int .i64 x19), (9, .slice a30 x29.1.length cp31), (10, .slice a33 x29.2.length cp34), (11, .int .i64 x37)]) (es' := [rowT 2 eI64 a3 x2.length x2.length (x38.set (x40).toNat ((x21.length : Nat) : Int)), rowT 34 eHd a23 x21.length cp24 hs25, innO 42 eSPoint none hs25 x21, rowT 42 eSPoint a30 x29.1.length cp31 x29.1, rowT 2 eI64 a33 x29.2.length cp34 x29.2]) [0, 1, 2, 3, 4] ?_ ⟨rfl, rfl, rfl, rfl, rfl, rfl, rfl, rfl, trivial⟩ (by decide) rfl
          refine JE.code ?_
          refine JX.region ?_
          refine JL.val (yl_move rfl) rfl ?_
          refine JL.val (yl_add rfl rfl) rfl ?_
          refine JL.val (yl_assign rfl) rfl ?_
          refine JL.nil ?_
          refine JE.cont hres ?_
          exact fun a w h => ⟨(List.length_set.trans l39), h.weak ⟨rfl, rfl, rfl, rfl, rfl, rfl, rfl, rfl, trivial⟩ [0, 1, 2, 3, 4] (by decide) rfl⟩
        · refine JX.condF rfl hb ?_
          refine JX.exit ?_
          refine JE.qb rfl ?_
          obtain ⟨b3, hb3⟩ : ∃ b : List Int, b = x38 := ⟨_, rfl⟩
          have hy3 : b3 = y3 := by rw [hb3]; exact hox3 _ (Option.some.inj hres).symm
          have hres := hresO3
          rw [← hy3] at hres
          have l42 : b3.length = x2.length := by subst hb3; exact l39
          refine JE.weak (env' := [(0, ptrAt b_0 0), (4, .int .i64 (w64 ((w64 (4 * q0.W)) * q0.H))), (5, .slice a3 x2.length x2.length), (7, .slice a23 x21.length cp24), (8, .int .i64 x19), (9, .slice a30 x29.1.length cp31)]) (es' := [rowT 2 eI64 a3 x2.length x2.length b3, rowT 34 eHd a23 x21.length cp24 hs25, innO 42 eSPoint none hs25 x21, rowT 42 eSPoint a30 x29.1.length cp31 x29.1]) [0, 1, 2, 3] ?_ ⟨(by subst hb3; rfl), (by subst hb3; rfl), (by subst hb3; rfl), (by subst hb3; rfl), (by subst hb3; rfl), (by subst hb3; rfl), trivial⟩ (by decide) (by subst hb3; rfl)
          refine JE.code ?_
          refine JX.region ?_
          refine JL.val (yl_move rfl) rfl ?_
          refine JL.val (yl_move rfl) rfl ?_
          refine JL.eff (ef_buildSlice (E := 34) (k := eHd.k) (us := eHd.fl [⟨a30, x29.1.length, cp31⟩]) rfl (fun w => bsl29_1 a30 x29.1.length cp31 w) rfl (by decide)) rfl ?_
          rintro _ _ ⟨a43, rfl, rfl⟩
          obtain ⟨x45, hx45, hres⟩ := bind_some hres
          refine JL.eff (ef_appendH (ix := 1) Go.Proofs.Try.underlying29 i34 i34z i34s rfl i34b0 i34b1 rfl rfl (Inn.len hi26) rfl rfl (fun w hC => rd_row hC 4 rfl) hx45 hi26) rfl ?_
          rintro _ _ ⟨a46, cp47, rfl, rfl⟩
          refine JL.absorb (es' := [rowT 2 eI64 a3 x2.length x2.length b3, rowT 34 eHd a46 x45.length cp47 (hs25 ++ [⟨a30, x29.1.length, cp31⟩]), rowT 34 eHd a43 1 1 [⟨a30, x29.1.length, cp31⟩]]) [0, 1, 4, 2, 3] (by decide) rfl (appL_some hx45).2 ?_
          refine JL.val (yl_assign rfl) rfl ?_
          refine JL.nil ?_
          refine JE.weak (env' := [(0, ptrAt b_0 0), (4, .int .i64 (w64 ((w64 (4 * q0.W)) * q0.H))), (5, .slice a3 x2.length x2.length), (7, .slice a46 x45.length cp47), (8, .int .i64 x19)]) (es' := [rowT 2 eI64 a3 x2.length x2.length b3, rowT 34 eHd a46 x45.length cp47 (hs25 ++ [⟨a30, x29.1.length, cp31⟩]), innO 42 eSPoint none (hs25 ++ [⟨a30, x29.1.length, cp31⟩]) x45]) [0, 1, 3] ?_ ⟨rfl, rfl, rfl, rfl, rfl, trivial⟩ (by decide) rfl
          refine JE.code ?_
          refine JX.region ?_
          refine JL.val (yl_move rfl) rfl ?_
          refine JL.val (yl_add rfl rfl) rfl ?_
          refine JL.val (yl_assign rfl) rfl ?_
          refine JL.nil ?_
          refine JE.cont hres ?_
          exact fun a w h => ⟨l42, a46, cp47, hs25 ++ [⟨a30, x29.1.length, cp31⟩], (Inn.appZ hi26 rfl (appL_some hx45).2), h.weak ⟨rfl, rfl, rfl, (by first | rfl | (simp only [List.length_set, l42]; rfl) | simp only [List.length_set, l42]), rfl, trivial⟩ [0, 1, 2] (by decide) (by first | rfl | (simp only [List.length_set, l42]; rfl) | simp only [List.length_set, l42])⟩
    · refine JX.condF rfl hb ?_
      refine JX.exit ?_
      refine JE.qb rfl ?_
      obtain ⟨b2, hb2⟩ : ∃ b : List Int × List (List SPoint), b = (x20, x21) := ⟨_, rfl⟩
      have hy2 : b2 = y2 := by rw [hb2]; exact hox2 _ (Option.some.inj hres).symm
      have hres := hresO2
      rw [← hy2] at hres
      have l48 : b2.1.length = x2.length := by subst hb2; exact l22
      have hi52 : Inn hs25 b2.2 := by subst hb2; exact hi26
      refine JE.weak (env' := [(5, .slice a3 x2.length x2.length), (7, .slice a23 b2.2.length cp24)]) (es' := [rowT 2 eI64 a3 x2.length x2.length b2.1, rowT 34 eHd a23 b2.2.length cp24 hs25, innO 42 eSPoint none hs25 b2.2]) [0, 1, 2] ?_ ⟨(by subst hb2; rfl), (by subst hb2; first | rfl | (simp only [List.length_set, l22]; rfl) | simp only [List.length_set, l22]), trivial⟩ (by decide) (by subst hb2; first | rfl | (simp only [List.length_set, l22]; rfl) | simp only [List.length_set, l22])
      refine JE.code ?_
      refine JX.seq ?_
      refine JX.region ?_
      refine JL.val (yl_move rfl) rfl ?_
      refine JL.val (yl_move rfl) rfl ?_
      refine JL.val (yl_assign rfl) rfl ?_
      refine JL.val (yl_assign rfl) rfl ?_
      refine JL.nil ?_
      refine JE.weak (env' := [(2, .slice a23 b2.2.length cp24), (3, .slice a3 x2.length x2.length)]) (es' := [rowT 34 eHd a23 b2.2.length cp24 hs25, innO 42 eSPoint none hs25 b2.2, rowT 2 eI64 a3 x2.length x2.length b2.1]) [1, 2, 0] ?_ ⟨rfl, rfl, trivial⟩ (by decide) rfl
      refine JE.code ?_
      refine JX.ret ?_
      obtain rfl := Option.some.inj hres
      refine JE.ret (rs := [.tmp 2, .tmp 3]) (vs := [.slice a23 b2.2.length cp24, .slice a3 x2.length x2.length]) rfl ⟨rfl, rfl, trivial⟩ ?_
      exact fun w' hb hs => ⟨_, _, ⟨a23, b2.2.length, cp24, hs25, rfl, hi52, a3, x2.length, x2.length, l48, rfl, rfl⟩, rfl, hb, hs.sel [0, 1, 2] _ (by decide) rfl⟩

/- spec.l20Code -/
def sh99 (q0 : SPanel) (q1 : Int) (q2 : Int) : Option (List SPoint × Int) := Option.bind (sh139 q0) fun x1 => bif !x1 then (some (([] : List SPoint), 1)) else (Option.bind (sh147 q0) fun x3 => Option.bind (sh100 q1 0 (w64 (((x3.1.length : Nat) : Int) - 1))) fun x13 => Option.bind (bif !x13 then (some true) else (Option.bind (sh100 q2 1 1000) fun x15 => some !x15)) fun cb14 => (bif cb14 then (some (([] : List SPoint), 2)) else (Option.bind (getI x3.1 q1) fun x17 => some (x17, 0))))
def T99 (r : List SPoint × Int) (v : Value) (rs : List Own) : Prop := ∃ (a0 : Option Addr) (n0 c0 : Nat), r.1.length = n0 ∧ v = rets [.slice a0 n0 c0, .int .i64 r.2] ∧ rs = [rowT 42 eSPoint a0 n0 c0 r.1]
set_option maxRecDepth 100000 in
theorem c99 {w : World} {q0 : SPanel} {a_0 : Option Addr} {n_0 : Nat} {a_0_2 : Option Addr} {n_0_2 c_0_2 : Nat} (g_0 : RdAt w a_0 n_0 [.int .i64 q0.W, .int .i64 q0.H, .slice a_0_2 n_0_2 c_0_2]) (g_0_2 : Rd w a_0_2 (eI64.fl q0.Breaks)) (l_0_2 : q0.Breaks.length = n_0_2) (k_0_2 : n_0_2 ≤ c_0_2) {q1 : Int} {q2 : Int} {r : List SPoint × Int} (hres : sh99 q0 q1 q2 = some r) : Calls Go.Proofs.Try.prog 99 [ptrAt a_0 n_0, .int .i64 q1, .int .i64 q2].toArray w (Ret w (T99 r)) := by
  subst l_0_2
  obtain ⟨b_0, e_0, g_0⟩ := g_0.norm0
  rw [e_0]
  unfold sh99 at hres
  refine calls_of (n := 33) (M := []) (es := []) Go.Proofs.Try.func99 rfl rfl rfl (Sep.nil _ _ _) ?_
  refine JX.seq ?_
  refine JX.region ?_
  refine JL.val (yl_assign rfl) rfl ?_
  refine JL.val (yl_assign rfl) rfl ?_
  refine JL.nil ?_
  refine JE.code ?_
  refine JX.seq ?_
  refine JX.seq ?_
  refine JX.region ?_
  refine JL.val (yl_move rfl) rfl ?_
  obtain ⟨x1, hx1, hres⟩ := bind_some hres
  refine JL.eff (ef_call (T := T139 x1) Go.Proofs.Try.func139 rfl (by kernel_rfl) rfl (fun w hC => c139 (RdAt.of0 (rd_arg g_0 hC)) (rd_arg g_0_2 hC) rfl k_0_2 hx1)) rfl ?_
  rintro _ _ ⟨_, ⟨rfl, rfl⟩, rfl⟩
  refine JL.val (yl_not rfl) rfl ?_
  refine JL.nil ?_
  refine JE.code ?_
  rcases cond_some hres with ⟨hb, hres⟩ | ⟨hb, hres⟩
  · refine JX.condT rfl hb ?_
    refine JX.seq ?_
    refine JX.region ?_
    refine JL.val (yl_assign rfl) rfl ?_
    refine JL.val (yl_assign rfl) rfl ?_
    refine JL.nil ?_
    refine JE.code ?_
    refine JX.ret ?_
    refine JE.nilrow 42 eSPoint ?_
    obtain rfl := Option.some.inj hres
    refine JE.ret (rs := [.tmp 6, .tmp 7]) (vs := [.slice none 0 0, .int .i64 1]) rfl ⟨rfl, rfl, trivial⟩ ?_
    exact fun w' hb hs => ⟨_, _, ⟨none, 0, 0, rfl, rfl, rfl⟩, rfl, hb, hs.sel [0] _ (by decide) rfl⟩
  · refine JX.condF rfl hb ?_
    refine JX.skip ?_
    refine JE.code ?_
    refine JX.seq ?_
    refine JX.region ?_
    refine JL.val (yl_move rfl) rfl ?_
    obtain ⟨x3, hx3, hres⟩ := bind_some hres
    refine JL.eff (ef_call (T := T147 x3) Go.Proofs.Try.func147 rfl (by kernel_rfl) rfl (fun w hC => c147 (RdAt.of0 (rd_arg g_0 hC)) (rd_arg g_0_2 hC) rfl k_0_2 hx3)) rfl ?_
    rintro _ _ ⟨_, ⟨a4, _, cp5, hs7, rfl, hi8, a10, _, cp11, rfl, rfl, rfl⟩, rfl⟩
    refine JL.val (yl_move rfl) rfl ?_
    refine JL.val (yl_extract rfl rfl) rfl ?_
    refine JL.val (yl_extract rfl rfl) rfl ?_
    refine JL.val (yl_assign rfl) rfl ?_
    refine JL.val (yl_assign rfl) rfl ?_
    refine JL.nil ?_
    refine JE.weak (env' := [(1, .int .i64 q1), (2, .int .i64 q2), (8, .slice a4 x3.1.length cp5)]) (es' := [rowT 34 eHd a4 x3.1.length cp5 hs7, innO 42 eSPoint none hs7 x3.1]) [0, 1] ?_ ⟨rfl, rfl, rfl, trivial⟩ (by decide) rfl
    refine JE.code ?_
    refine JX.seq ?_
    refine JX.seq ?_
    refine JX.region ?_
    refine JL.val (yl_move rfl) rfl ?_
    refine JL.val (yl_move rfl) rfl ?_
    refine JL.val (yl_len_slice Go.Proofs.Try.underlying29 rfl) rfl ?_
    refine JL.val (yl_sub rfl rfl) rfl ?_
    obtain ⟨x13, hx13, hres⟩ := bind_some hres
    refine JL.eff (ef_call (T := T100 x13) Go.Proofs.Try.func100 rfl (by kernel_rfl) rfl (fun w hC => c100  hx13)) rfl ?_
    rintro _ _ ⟨_, ⟨rfl, rfl⟩, rfl⟩
    refine JL.val (yl_not rfl) rfl ?_
    refine JL.val (yl_move rfl) rfl ?_
    obtain ⟨cb14, hcb14, hres⟩ := bind_some hres
    refine JL.cut (K := fun J => J [(1, .int .i64 q1), (8, .slice a4 x3.1.length cp5), (28, .bool cb14)] [rowT 34 eHd a4 x3.1.length cp5 hs7, innO 42 eSPoint none hs7 x3.1]) 4 ?_ ?_
    · refine JL.nil ?_
      refine JE.weak (env' := [(1, .int .i64 q1), (8, .slice a4 x3.1.length cp5), (28, .bool cb14)]) (es' := [rowT 34 eHd a4 x3.1.length cp5 hs7, innO 42 eSPoint none hs7 x3.1]) [0, 1] ?_ ⟨rfl, rfl, rfl, trivial⟩ (by decide) rfl
      refine JE.code ?_
      rcases cond_some hres with ⟨hb, hres⟩ | ⟨hb, hres⟩
      · refine JX.condT rfl hb ?_
        refine JX.seq ?_
        refine JX.region ?_
        refine JL.val (yl_assign rfl) rfl ?_
        refine JL.val (yl_assign rfl) rfl ?_
        refine JL.nil ?_
        refine JE.weak (env' := [(6, .slice none 0 0), (7, .int .i64 2)]) (es' := []) [] ?_ ⟨rfl, rfl, trivial⟩ (by decide) rfl
        refine JE.code ?_
        refine JX.ret ?_
        refine JE.nilrow 42 eSPoint ?_
        obtain rfl := Option.some.inj hres
        refine JE.ret (rs := [.tmp 6, .tmp 7]) (vs := [.slice none 0 0, .int .i64 2]) rfl ⟨rfl, rfl, trivial⟩ ?_
        exact fun w' hb hs => ⟨_, _, ⟨none, 0, 0, rfl, rfl, rfl⟩, rfl, hb, hs.sel [0] _ (by decide) rfl⟩
      · refine JX.condF rfl hb ?_
        refine JX.skip ?_
        refine JE.code ?_
        refine JX.seq ?_
        refine JX.region ?_
        refine JL.val (yl_move rfl) rfl ?_
        refine JL.val (yl_move rfl) rfl ?_
        obtain ⟨x17, hx17, hres⟩ := bind_some hres
        obtain ⟨ha18, hc19, hhx17⟩ := Inn.sub hi8 hx17
        refine JL.val (yl_idxT Go.Proofs.Try.underlying29 i34 i34s rfl rfl hhx17 (Inn.len hi8) (fun w hC => rd_row hC 0 rfl)) rfl ?_
        refine JL.val (yl_loadT0 (z := ⟨ha18, x17.length, hc19⟩) Go.Proofs.Try.underlying34 rfl rfl hhx17 (fun w hC => rd_row hC 0 rfl) rfl) rfl ?_
        refine JL.val (yl_assign rfl) rfl ?_
        refine JL.val (yl_assign rfl) rfl ?_
        refine JL.nil ?_
        refine JE.weak (env' := [(6, .slice ha18 x17.length hc19), (7, .int .i64 0)]) (es' := [rowT 34 eHd a4 x3.1.length cp5 hs7, innO 42 eSPoint none hs7 x3.1]) [0, 1] ?_ ⟨rfl, rfl, trivial⟩ (by decide) rfl
        refine JE.code ?_
        refine JX.ret ?_
        refine JE.focus (es' := [rowT 34 eHd a4 x3.1.length cp5 hs7]) [0, 1] (by decide) rfl hhx17 hx17 ?_
        obtain rfl := Option.some.inj hres
        refine JE.ret (rs := [.tmp 6, .tmp 7]) (vs := [.slice ha18 x17.length hc19, .int .i64 0]) rfl ⟨rfl, rfl, trivial⟩ ?_
        exact fun w' hb hs => ⟨_, _, ⟨ha18, x17.length, hc19, rfl, rfl, rfl⟩, rfl, hb, hs.sel [2] _ (by decide) rfl⟩
    · intro K
      rcases cond_some hcb14 with ⟨hb, hres⟩ | ⟨hb, hres⟩
      · refine JL.set (d := 24) (v := .bool true) (congrArg (fun b => some (Value.bool b)) hb) ?_
        refine JL.gskip rfl rfl rfl rfl ?_
        refine JL.gskip rfl rfl rfl rfl ?_
        refine JL.gskip rfl rfl rfl rfl ?_
        refine JL.val (yl_pick_true rfl rfl) rfl ?_
        have he := Option.some.inj hres
        exact JL.weak [0, 1] K ⟨rfl, rfl, (by rw [← he]; rfl), trivial⟩ (by decide) rfl
      · refine JL.set (d := 24) (v := .bool false) (congrArg (fun b => some (Value.bool b)) hb) ?_
        refine JL.gval rfl rfl (yl_move rfl) rfl ?_
        obtain ⟨x15, hx15, hres⟩ := bind_some hres
        refine JL.geff rfl rfl (ef_call (T := T100 x15) Go.Proofs.Try.func100 rfl (by kernel_rfl) rfl (fun w hC => c100  hx15)) rfl ?_
        rintro _ _ ⟨_, ⟨rfl, rfl⟩, rfl⟩
        refine JL.gval rfl rfl (yl_not rfl) rfl ?_
        refine JL.val (yl_pick_false rfl rfl) rfl ?_
        have he := Option.some.inj hres
        exact JL.weak [0, 1] K ⟨rfl, rfl, (by rw [← he]; rfl), trivial⟩ (by decide) rfl

/- spec.BandOf -/
def sh12_1 (q2 : Int) (q3 : Int) (x3 : List SPoint × Int) : (Int × List (List SPoint)) → Option ((Int × List (List SPoint)) ⊕ (List (List SPoint)))
  | (x20, x21) => bif decide (x20 < (x3.1.length : Int)) then (Option.bind (getI x3.1 x20) fun x26 => Option.bind (nzI (x3.1.length : Int)) fun x29 => Option.bind (getI x3.1 ((w64 (x20 + 1)).tmod (x3.1.length : Int))) fun x30 => Option.bind (appL x21 [[SPoint.mk (w64 ((w64 (x26.X * q2)) + (w64 ((w64 (0 - q3)) * (w64 (x30.Y - x26.Y)))))) (w64 ((w64 (x26.Y * q2)) + (w64 (q3 * (w64 (x30.X - x26.X)))))), SPoint.mk (w64 ((w64 (x30.X * q2)) + (w64 ((w64 (0 - q3)) * (w64 (x30.Y - x26.Y)))))) (w64 ((w64 (x30.Y * q2)) + (w64 (q3 * (w64 (x30.X - x26.X)))))), SPoint.mk (w64 ((w64 (x30.X * q2)) - (w64 ((w64 (0 - q3)) * (w64 (x30.Y - x26.Y)))))) (w64 ((w64 (x30.Y * q2)) - (w64 (q3 * (w64 (x30.X - x26.X)))))), SPoint.mk (w64 ((w64 (x26.X * q2)) - (w64 ((w64 (0 - q3)) * (w64 (x30.Y - x26.Y)))))) (w64 ((w64 (x26.Y * q2)) - (w64 (q3 * (w64 (x30.X - x26.X))))))]]) fun x37 => some (.inl (w64 (x20 + 1), x37))) else (some (.inr x21))
def sh12 (q0 : SPanel) (q1 : Int) (q2 : Int) (q3 : Int) : Option (List (List SPoint) × Int) := Option.bind (sh99 q0 q1 q2) fun x3 => Option.bind (bif x3.2 == 0 then (Option.bind (sh100 q3 1 1000) fun x8 => some !x8) else (some false)) fun cb7 => (Option.bind (bif cb7 then (some 2) else (some x3.2)) fun j9 => (Option.bind (bif (j9 == 0) && (decide (q2 < (w64 (2 * q3)))) then (some 6) else (some j9)) fun j10 => (bif j10 != 0 then (some (([] : List (List SPoint)), j10)) else (Option.bind (iter (sh12_1 q2 q3 x3) (0, ([] : List (List SPoint)))) fun b1 => (some (b1, 0))))))
def T12 (r : List (List SPoint) × Int) (v : Value) (rs : List Own) : Prop := ∃ (a0 : Option Addr) (n0 c0 : Nat) (h0 : List Hd), r.1.length = n0 ∧ Inn h0 r.1 ∧ v = rets [.slice a0 n0 c0, .int .i64 r.2] ∧ rs = [rowT 34 eHd a0 n0 c0 h0, innO 42 eSPoint none h0 r.1]
set_option maxRecDepth 100000 in
set_option maxHeartbeats 1000000 in
theorem c12 {w : World} {q0 : SPanel} {a_0_2 : Option Addr} {n_0_2 c_0_2 : Nat} (g_0_2 : Rd w a_0_2 (eI64.fl q0.Breaks)) (l_0_2 : q0.Breaks.length = n_0_2) (k_0_2 : n_0_2 ≤ c_0_2) {q1 : Int} {q2 : Int} {q3 : Int} {r : List (List SPoint) × Int} (hres : sh12 q0 q1 q2 q3 = some r) : Calls Go.Proofs.Try.prog 12 [.agg #[.int .i64 q0.W, .int .i64 q0.H, .slice a_0_2 n_0_2 c_0_2], .int .i64 q1, .int .i64 q2, .int .i64 q3].toArray w (Ret w (T12 r)) := by
  subst l_0_2
  unfold sh12 at hres
  refine calls_of (n := 133) (M := []) (es := []) Go.Proofs.Try.func12 rfl rfl rfl (Sep.nil _ _ _) ?_
  refine JX.seq ?_
  refine JX.region ?_
  refine JL.eff (ef_box rfl rfl) rfl ?_
  rintro _ _ ⟨g1, rfl, rfl⟩
  refine JL.val (yl_assign rfl) rfl ?_
  refine JL.val (yl_assign rfl) rfl ?_
  refine JL.nil ?_
  refine JE.code ?_
  refine JX.seq ?_
  refine JX.region ?_
  refine JL.val (yl_move rfl) rfl ?_
  refine JL.val (yl_move rfl) rfl ?_
  obtain ⟨x3, hx3, hres⟩ := bind_some hres
  refine JL.eff (ef_call (T := T99 x3) Go.Proofs.Try.func99 rfl (by kernel_rfl) rfl (fun w hC => c99 (RdAt.of0 (rd_box hC 0 rfl)) (rd_arg g_0_2 hC) rfl k_0_2 hx3)) rfl ?_
  rintro _ _ ⟨_, ⟨a4, _, cp5, rfl, rfl, rfl⟩, rfl⟩
  refine JL.val (yl_move rfl) rfl ?_
  refine JL.val (yl_extract rfl rfl) rfl ?_
  refine JL.val (yl_extract rfl rfl) rfl ?_
  refine JL.val (yl_assign rfl) rfl ?_
  refine JL.val (yl_assign rfl) rfl ?_
  refine JL.nil ?_
  refine JE.weak (env' := [(2, .int .i64 q2), (3, .int .i64 q3), (10, .slice a4 x3.1.length cp5), (11, .int .i64 x3.2)]) (es' := [rowT 42 eSPoint a4 x3.1.length cp5 x3.1]) [1] ?_ ⟨rfl, rfl, rfl, rfl, trivial⟩ (by decide) rfl
  refine JE.code ?_
  refine JX.seq ?_
  refine JX.seq ?_
  refine JX.region ?_
  refine JL.val (yl_move rfl) rfl ?_
  refine JL.val (yl_eql rfl rfl) rfl ?_
  refine JL.val (yl_move rfl) rfl ?_
  obtain ⟨cb7, hcb7, hres⟩ := bind_some hres
  refine JL.cut (K := fun J => J [(2, .int .i64 q2), (3, .int .i64 q3), (10, .slice a4 x3.1.length cp5), (11, .int .i64 x3.2), (30, .bool cb7)] [rowT 42 eSPoint a4 x3.1.length cp5 x3.1]) 4 ?_ ?_
  · refine JL.nil ?_
    refine JE.weak (env' := [(2, .int .i64 q2), (3, .int .i64 q3), (10, .slice a4 x3.1.length cp5), (11, .int .i64 x3.2), (30, .bool cb7)]) (es' := [rowT 42 eSPoint a4 x3.1.length cp5 x3.1]) [0] ?_ ⟨rfl, rfl, rfl, rfl, rfl, trivial⟩ (by decide) rfl
    refine JE.code ?_
    obtain ⟨j9, hj9, hresj9⟩ := bind_some hres
    refine JX.cut (K := fun J => J [(2, .int .i64 q2), (3, .int .i64 q3), (10, .slice a4 x3.1.length cp5), (11, .int .i64 j9)] [rowT 42 eSPoint a4 x3.1.length cp5 x3.1]) ?_ ?_
    · have hres := hresj9
      refine JE.code ?_
      refine JX.seq ?_
      refine JX.seq ?_
      refine JX.region ?_
      refine JL.val (yl_move rfl) rfl ?_
      refine JL.val (yl_eql rfl rfl) rfl ?_
      refine JL.val (yl_move rfl) rfl ?_
      refine JL.cut (K := fun J => J [(2, .int .i64 q2), (3, .int .i64 q3), (10, .slice a4 x3.1.length cp5), (11, .int .i64 j9), (38, .bool ((j9 == 0) && (decide (q2 < (w64 (2 * q3))))))] [rowT 42 eSPoint a4 x3.1.length cp5 x3.1]) 5 ?_ ?_
      · refine JL.nil ?_
        refine JE.weak (env' := [(2, .int .i64 q2), (3, .int .i64 q3), (10, .slice a4 x3.1.length cp5), (11, .int .i64 j9), (38, .bool ((j9 == 0) && (decide (q2 < (w64 (2 * q3))))))]) (es' := [rowT 42 eSPoint a4 x3.1.length cp5 x3.1]) [0] ?_ ⟨rfl, rfl, rfl, rfl, rfl, trivial⟩ (by decide) rfl
        refine JE.code ?_
        obtain ⟨j10, hj10, hresj10⟩ := bind_some hres
        refine JX.cut (K := fun J => J [(2, .int .i64 q2), (3, .int .i64 q3), (10, .slice a4 x3.1.length cp5), (11, .int .i64 j10)] [rowT 42 eSPoint a4 x3.1.length cp5 x3.1]) ?_ ?_
        · have hres := hresj10
          refine JE.code ?_
          refine JX.seq ?_
          refine JX.seq ?_
          refine JX.region ?_
          refine JL.val (yl_move rfl) rfl ?_
          refine JL.val (yl_neq rfl rfl) rfl ?_
          refine JL.nil ?_
          refine JE.code ?_
          rcases cond_some hres with ⟨hb, hres⟩ | ⟨hb, hres⟩
          · refine JX.condT rfl hb ?_
            refine JX.seq ?_
            refine JX.region ?_
            refine JL.val (yl_move rfl) rfl ?_
            refine JL.val (yl_assign rfl) rfl ?_
            refine JL.val (yl_assign rfl) rfl ?_
            refine JL.nil ?_
            refine JE.weak (env' := [(8, .slice none 0 0), (9, .int .i64 j10)]) (es' := []) [] ?_ ⟨rfl, rfl, trivial⟩ (by decide) rfl
            refine JE.code ?_
            refine JX.ret ?_
            refine JE.nilrow 34 eHd ?_
            refine JE.nilinn 42 eSPoint ?_
            obtain rfl := Option.some.inj hres
            refine JE.ret (rs := [.tmp 8, .tmp 9]) (vs := [.slice none 0 0, .int .i64 j10]) rfl ⟨rfl, rfl, trivial⟩ ?_
            exact fun w' hb hs => ⟨_, _, ⟨none, 0, 0, ([] : List Hd), ((Inn.len (Inn.nil (T := SPoint))).symm.trans rfl), (Inn.nil (T := SPoint)), rfl, rfl⟩, rfl, hb, hs.sel [0, 1] _ (by decide) rfl⟩
          · refine JX.condF rfl hb ?_
            refine JX.skip ?_
            refine JE.code ?_
            refine JX.seq ?_
            refine JX.region ?_
            refine JL.eff (ef_buildSlice (E := 34) (k := eHd.k) (us := eHd.fl ([] : List Hd)) rfl (fun w => bsl29_0  w) rfl (by decide)) rfl ?_
            rintro _ _ ⟨a13, rfl, rfl⟩
            refine JL.nilinn 42 eSPoint ?_
            refine JL.val (yl_assign rfl) rfl ?_
            refine JL.nil ?_
            refine JE.code ?_
            refine JX.seq ?_
            refine JX.seq ?_
            refine JX.region ?_
            refine JL.val (yl_assign rfl) rfl ?_
            refine JL.nil ?_
            refine JE.code ?_
            refine JX.block ?_
            obtain ⟨y1, hy1, hresO1⟩ := bind_some hres
            refine JX.loop (I := fun (s1 : Int × List (List SPoint)) aa ww => ∃ (a16 : Option Addr) (cp17 : Nat) (hs18 : List Hd) (hi19 : Inn hs18 s1.2), St w [] 133 [(2, .int .i64 q2), (3, .int .i64 q3), (10, .slice a4 x3.1.length cp5), (12, .slice a16 s1.2.length cp17), (13, .int .i64 s1.1)] [rowT 42 eSPoint a4 x3.1.length cp5 x3.1, rowT 34 eHd a16 s1.2.length cp17 hs18, innO 42 eSPoint none hs18 s1.2] aa ww) (sh12_1 q2 q3 x3) hy1 (fun a w h => ⟨a13, 0, ([] : List Hd), (Inn.nil (T := SPoint)), h.weak ⟨rfl, rfl, rfl, rfl, rfl, trivial⟩ [0, 1, 2] (by decide) rfl⟩) ?_
            rintro ⟨x20, x21⟩ o1 hres hox1 aa ww ⟨a22, cp23, hs24, hi25, hS⟩
            refine (?_ : JX Go.Proofs.Try.prog w [] 133 _ _ [(2, .int .i64 q2), (3, .int .i64 q3), (10, .slice a4 x3.1.length cp5), (12, .slice a22 x21.length cp23), (13, .int .i64 x20)] [rowT 42 eSPoint a4 x3.1.length cp5 x3.1, rowT 34 eHd a22 x21.length cp23 hs24, innO 42 eSPoint none hs24 x21] _) aa ww hS
            clear hS
            simp only [sh12_1] at hres
            refine JX.seq ?_
            refine JX.seq ?_
            refine JX.region ?_
            refine JL.val (yl_move rfl) rfl ?_
            refine JL.val (yl_move rfl) rfl ?_
            refine JL.val (yl_len_slice Go.Proofs.Try.underlying34 rfl) rfl ?_
            refine JL.val (yl_lss rfl rfl) rfl ?_
            refine JL.nil ?_
            refine JE.weak (env' := [(2, .int .i64 q2), (3, .int .i64 q3), (10, .slice a4 x3.1.length cp5), (12, .slice a22 x21.length cp23), (13, .int .i64 x20), (46, .bool (decide (x20 < (x3.1.length : Int))))]) (es' := [rowT 42 eSPoint a4 x3.1.length cp5 x3.1, rowT 34 eHd a22 x21.length cp23 hs24, innO 42 eSPoint none hs24 x21]) [0, 1, 2] ?_ ⟨rfl, rfl, rfl, rfl, rfl, rfl, trivial⟩ (by decide) rfl
            refine JE.code ?_
            rcases cond_some hres with ⟨hb, hres⟩ | ⟨hb, hres⟩
            · refine JX.condT rfl hb ?_
              refine JX.skip ?_
              refine JE.code ?_
              refine JX.seq ?_
              refine JX.block ?_
              refine JX.seq ?_
              refine JX.region ?_
              refine JL.val (yl_move rfl) rfl ?_
              refine JL.val (yl_move rfl) rfl ?_
              obtain ⟨x26, hx26, hres⟩ := bind_some hres
              refine JL.val (yl_idxT Go.Proofs.Try.underlying34 i42 i42s rfl rfl hx26 rfl (fun w hC => rd_row hC 0 rfl)) rfl ?_
              refine JL.val (yl_loadTn Go.Proofs.Try.underlying42 rfl i42 i42s rfl hx26 (fun w hC => rd_row hC 0 rfl)) rfl ?_
              refine JL.eff (ef_alloc i42 i42z rfl) rfl ?_
              rintro _ _ ⟨g27, rfl, rfl⟩
              refine JL.eff (ef_store_box (i := 3) (v := .agg #[.int .i64 x26.X, .int .i64 x26.Y]) i42 rfl rfl rfl (i42s).symm (Nat.le_of_ble_eq_true rfl) (by simp [Value.cells, Value.oneCell'])) rfl ?_
              rintro _ _ rfl
              refine JL.nil ?_
              refine JE.weak (env' := [(2, .int .i64 q2), (3, .int .i64 q3), (10, .slice a4 x3.1.length cp5), (12, .slice a22 x21.length cp23), (13, .int .i64 x20), (14, ptrAt (some ⟨g27, 0, none⟩) 0)]) (es' := [rowT 42 eSPoint a4 x3.1.length cp5 x3.1, rowT 34 eHd a22 x21.length cp23 hs24, innO 42 eSPoint none hs24 x21, boxO 42 g27 [.int .i64 x26.X, .int .i64 x26.Y]]) [0, 1, 2, 3] ?_ ⟨rfl, rfl, rfl, rfl, rfl, rfl, trivial⟩ (by decide) rfl
              refine JE.code ?_
              refine JX.seq ?_
              refine JX.region ?_
              refine JL.val (yl_move rfl) rfl ?_
              refine JL.val (yl_move rfl) rfl ?_
              refine JL.val (yl_add rfl rfl) rfl ?_
              refine JL.val (yl_move rfl) rfl ?_
              refine JL.val (yl_len_slice Go.Proofs.Try.underlying34 rfl) rfl ?_
              obtain ⟨x29, hx29, hres⟩ := bind_some hres
              refine JL.val (yl_rem rfl rfl (nzI_some hx29)) rfl ?_
              obtain ⟨x30, hx30, hres⟩ := bind_some hres
              refine JL.val (yl_idxT Go.Proofs.Try.underlying34 i42 i42s rfl rfl hx30 rfl (fun w hC => rd_row hC 0 rfl)) rfl ?_
              refine JL.val (yl_loadTn Go.Proofs.Try.underlying42 rfl i42 i42s rfl hx30 (fun w hC => rd_row hC 0 rfl)) rfl ?_
              refine JL.eff (ef_alloc i42 i42z rfl) rfl ?_
              rintro _ _ ⟨g31, rfl, rfl⟩
              refine JL.eff (ef_store_box (i := 4) (v := .agg #[.int .i64 x30.X, .int .i64 x30.Y]) i42 rfl rfl rfl (i42s).symm (Nat.le_of_ble_eq_true rfl) (by simp [Value.cells, Value.oneCell'])) rfl ?_
              rintro _ _ rfl
              refine JL.nil ?_
              refine JE.weak (env' := [(2, .int .i64 q2), (3, .int .i64 q3), (10, .slice a4 x3.1.length cp5), (12, .slice a22 x21.length cp23), (13, .int .i64 x20), (14, ptrAt (some ⟨g27, 0, none⟩) 0), (15, ptrAt (some ⟨g31, 0, none⟩) 0)]) (es' := [rowT 42 eSPoint a4 x3.1.length cp5 x3.1, rowT 34 eHd a22 x21.length cp23 hs24, innO 42 eSPoint none hs24 x21, boxO 42 g27 [.int .i64 x26.X, .int .i64 x26.Y], boxO 42 g31 [.int .i64 x30.X, .int .i64 x30.Y]]) [0, 1, 2, 3, 4] ?_ ⟨rfl, rfl, rfl, rfl, rfl, rfl, rfl, trivial⟩ (by decide) rfl
              refine JE.code ?_
              refine JX.seq ?_
              refine JX.region ?_
              refine JL.val (yl_move rfl) rfl ?_
              refine JL.val (yl_neg rfl) rfl ?_
              refine JL.val (yl_fieldAt (a := some _) Go.Proofs.Try.underlying42 rfl i2 i2n rfl rfl) rfl ?_
              refine JL.val (yl_load1 Go.Proofs.Try.underlying2 rfl rfl (fun w hC => rd_box hC 4 rfl) rfl) rfl ?_
              refine JL.val (yl_fieldAt (a := some _) Go.Proofs.Try.underlying42 rfl i2 i2n rfl rfl) rfl ?_
              refine JL.val (yl_load1 Go.Proofs.Try.underlying2 rfl rfl (fun w hC => rd_box hC 3 rfl) rfl) rfl ?_
              refine JL.val (yl_sub rfl rfl) rfl ?_
              refine JL.val (yl_mul rfl rfl) rfl ?_
              refine JL.val (yl_assign rfl) rfl ?_
              refine JL.nil ?_
              refine JE.weak (env' := [(2, .int .i64 q2), (3, .int .i64 q3), (10, .slice a4 x3.1.length cp5), (12, .slice a22 x21.length cp23), (13, .int .i64 x20), (14, ptrAt (some ⟨g27, 0, none⟩) 0), (15, ptrAt (some ⟨g31, 0, none⟩) 0), (16, .int .i64 (w64 ((w64 (0 - q3)) * (w64 (x30.Y - x26.Y)))))]) (es' := [rowT 42 eSPoint a4 x3.1.length cp5 x3.1, rowT 34 eHd a22 x21.length cp23 hs24, innO 42 eSPoint none hs24 x21, boxO 42 g27 [.int .i64 x26.X, .int .i64 x26.Y], boxO 42 g31 [.int .i64 x30.X, .int .i64 x30.Y]]) [0, 1, 2, 3, 4] ?_ ⟨rfl, rfl, rfl, rfl, rfl, rfl, rfl, rfl, trivial⟩ (by decide) rfl
              refine JE.code ?_
              refine JX.seq ?_
              refine JX.region ?_
              refine JL.val (yl_move rfl) rfl ?_
              refine JL.val (yl_fieldAt (a := some _) Go.Proofs.Try.underlying42 rfl i2 i2n rfl rfl) rfl ?_
              refine JL.val (yl_load1 Go.Proofs.Try.underlying2 rfl rfl (fun w hC => rd_box hC 4 rfl) rfl) rfl ?_
              refine JL.val (yl_fieldAt (a := some _) Go.Proofs.Try.underlying42 rfl i2 i2n rfl rfl) rfl ?_
              refine JL.val (yl_load1 Go.Proofs.Try.underlying2 rfl rfl (fun w hC => rd_box hC 3 rfl) rfl) rfl ?_
              refine JL.val (yl_sub rfl rfl) rfl ?_
              refine JL.val (yl_mul rfl rfl) rfl ?_
              refine JL.val (yl_assign rfl) rfl ?_
              refine JL.nil ?_
              refine JE.weak (env' := [(2, .int .i64 q2), (3, .int .i64 q3), (10, .slice a4 x3.1.length cp5), (12, .slice a22 x21.length cp23), (13, .int .i64 x20), (14, ptrAt (some ⟨g27, 0, none⟩) 0), (15, ptrAt (some ⟨g31, 0, none⟩) 0), (16, .int .i64 (w64 ((w64 (0 - q3)) * (w64 (x30.Y - x26.Y))))), (17, .int .i64 (w64 (q3 * (w64 (x30.X - x26.X)))))]) (es' := [rowT 42 eSPoint a4 x3.1.length cp5 x3.1, rowT 34 eHd a22 x21.length cp23 hs24, innO 42 eSPoint none hs24 x21, boxO 42 g27 [.int .i64 x26.X, .int .i64 x26.Y], boxO 42 g31 [.int .i64 x30.X, .int .i64 x30.Y]]) [0, 1, 2, 3, 4] ?_ ⟨rfl, rfl, rfl, rfl, rfl, rfl, rfl, rfl, rfl, trivial⟩ (by decide) rfl
              refine JE.code ?_
              refine JX.region ?_
              refine JL.val (yl_move rfl) rfl ?_
              refine JL.val (yl_fieldAt (a := some _) Go.Proofs.Try.underlying42 rfl i2 i2n rfl rfl) rfl ?_
              refine JL.val (yl_load1 Go.Proofs.Try.underlying2 rfl rfl (fun w hC => rd_box hC 3 rfl) rfl) rfl ?_
              refine JL.val (yl_move rfl) rfl ?_
              refine JL.val (yl_mul rfl rfl) rfl ?_
              refine JL.val (yl_move rfl) rfl ?_
              refine JL.val (yl_add rfl rfl) rfl ?_
              refine JL.val (yl_fieldAt (a := some _) Go.Proofs.Try.underlying42 rfl i2 i2n rfl rfl) rfl ?_
              refine JL.val (yl_load1 Go.Proofs.Try.underlying2 rfl rfl (fun w hC => rd_box hC 3 rfl) rfl) rfl ?_
              refine JL.val (yl_move rfl) rfl ?_
              refine JL.val (yl_mul rfl rfl) rfl ?_
              refine JL.val (yl_move rfl) rfl ?_
              refine JL.val (yl_add rfl rfl) rfl ?_
              refine JL.val (yl_build rfl (fun w => bld42_0_1 (w64 ((w64 (x26.X * q2)) + (w64 ((w64 (0 - q3)) * (w64 (x30.Y - x26.Y)))))) (w64 ((w64 (x26.Y * q2)) + (w64 (q3 * (w64 (x30.X - x26.X)))))) w)) rfl ?_
              refine JL.val (yl_fieldAt (a := some _) Go.Proofs.Try.underlying42 rfl i2 i2n rfl rfl) rfl ?_
              refine JL.val (yl_load1 Go.Proofs.Try.underlying2 rfl rfl (fun w hC => rd_box hC 4 rfl) rfl) rfl ?_
              refine JL.val (yl_move rfl) rfl ?_
              refine JL.val (yl_mul rfl rfl) rfl ?_
              refine JL.val (yl_move rfl) rfl ?_
              refine JL.val (yl_add rfl rfl) rfl ?_
              refine JL.val (yl_fieldAt (a := some _) Go.Proofs.Try.underlying42 rfl i2 i2n rfl rfl) rfl ?_
              refine JL.val (yl_load1 Go.Proofs.Try.underlying2 rfl rfl (fun w hC => rd_box hC 4 rfl) rfl) rfl ?_
              refine JL.val (yl_move rfl) rfl ?_
              refine JL.val (yl_mul rfl rfl) rfl ?_
              refine JL.val (yl_move rfl) rfl ?_
              refine JL.val (yl_add rfl rfl) rfl ?_
              refine JL.val (yl_build rfl (fun w => bld42_0_1 (w64 ((w64 (x30.X * q2)) + (w64 ((w64 (0 - q3)) * (w64 (x30.Y - x26.Y)))))) (w64 ((w64 (x30.Y * q2)) + (w64 (q3 * (w64 (x30.X - x26.X)))))) w)) rfl ?_
              refine JL.val (yl_fieldAt (a := some _) Go.Proofs.Try.underlying42 rfl i2 i2n rfl rfl) rfl ?_
              refine JL.val (yl_load1 Go.Proofs.Try.underlying2 rfl rfl (fun w hC => rd_box hC 4 rfl) rfl) rfl ?_
              refine JL.val (yl_move rfl) rfl ?_
              refine JL.val (yl_mul rfl rfl) rfl ?_
              refine JL.val (yl_move rfl) rfl ?_
              refine JL.val (yl_sub rfl rfl) rfl ?_
              refine JL.val (yl_fieldAt (a := some _) Go.Proofs.Try.underlying42 rfl i2 i2n rfl rfl) rfl ?_
              refine JL.val (yl_load1 Go.Proofs.Try.underlying2 rfl rfl (fun w hC => rd_box hC 4 rfl) rfl) rfl ?_
              refine JL.val (yl_move rfl) rfl ?_
              refine JL.val (yl_mul rfl rfl) rfl ?_
              refine JL.val (yl_move rfl) rfl ?_
              refine JL.val (yl_sub rfl rfl) rfl ?_
              refine JL.val (yl_build rfl (fun w => bld42_0_1 (w64 ((w64 (x30.X * q2)) - (w64 ((w64 (0 - q3)) * (w64 (x30.Y - x26.Y)))))) (w64 ((w64 (x30.Y * q2)) - (w64 (q3 * (w64 (x30.X - x26.X)))))) w)) rfl ?_
              refine JL.val (yl_fieldAt (a := some _) Go.Proofs.Try.underlying42 rfl i2 i2n rfl rfl) rfl ?_
              refine JL.val (yl_load1 Go.Proofs.Try.underlying2 rfl rfl (fun w hC => rd_box hC 3 rfl) rfl) rfl ?_
              refine JL.val (yl_move rfl) rfl ?_
              refine JL.val (yl_mul rfl rfl) rfl ?_
              refine JL.val (yl_move rfl) rfl ?_
              refine JL.val (yl_sub rfl rfl) rfl ?_
              refine JL.val (yl_fieldAt (a := some _) Go.Proofs.Try.underlying42 rfl i2 i2n rfl rfl) rfl ?_
              refine JL.val (yl_load1 Go.Proofs.Try.underlying2 rfl rfl (fun w hC => rd_box hC 3 rfl) rfl) rfl ?_
              refine JL.val (yl_move rfl) rfl ?_
              refine JL.val (yl_mul rfl rfl) rfl ?_
              refine JL.val (yl_move rfl) rfl ?_
              refine JL.val (yl_sub rfl rfl) rfl ?_
              refine JL.val (yl_build rfl (fun w => bld42_0_1 (w64 ((w64 (x26.X * q2)) - (w64 ((w64 (0 - q3)) * (w64 (x30.Y - x26.Y)))))) (w64 ((w64 (x26.Y * q2)) - (w64 (q3 * (w64 (x30.X - x26.X)))))) w)) rfl ?_
              refine JL.eff (ef_buildSlice (E := 42) (k := eSPoint.k) (us := eSPoint.fl [SPoint.mk (w64 ((w64 (x26.X * q2)) + (w64 ((w64 (0 - q3)) * (w64 (x30.Y - x26.Y)))))) (w64 ((w64 (x26.Y * q2)) + (w64 (q3 * (w64 (x30.X - x26.X)))))), SPoint.mk (w64 ((w64 (x30.X * q2)) + (w64 ((w64 (0 - q3)) * (w64 (x30.Y - x26.Y)))))) (w64 ((w64 (x30.Y * q2)) + (w64 (q3 * (w64 (x30.X - x26.X)))))), SPoint.mk (w64 ((w64 (x30.X * q2)) - (w64 ((w64 (0 - q3)) * (w64 (x30.Y - x26.Y)))))) (w64 ((w64 (x30.Y * q2)) - (w64 (q3 * (w64 (x30.X - x26.X)))))), SPoint.mk (w64 ((w64 (x26.X * q2)) - (w64 ((w64 (0 - q3)) * (w64 (x30.Y - x26.Y)))))) (w64 ((w64 (x26.Y * q2)) - (w64 (q3 * (w64 (x30.X - x26.X))))))]) rfl (fun w => bsl34_4 (w64 ((w64 (x26.X * q2)) + (w64 ((w64 (0 - q3)) * (w64 (x30.Y - x26.Y)))))) (w64 ((w64 (x26.Y * q2)) + (w64 (q3 * (w64 (x30.X - x26.X)))))) (w64 ((w64 (x30.X * q2)) + (w64 ((w64 (0 - q3)) * (w64 (x30.Y - x26.Y)))))) (w64 ((w64 (x30.Y * q2)) + (w64 (q3 * (w64 (x30.X - x26.X)))))) (w64 ((w64 (x30.X * q2)) - (w64 ((w64 (0 - q3)) * (w64 (x30.Y - x26.Y)))))) (w64 ((w64 (x30.Y * q2)) - (w64 (q3 * (w64 (x30.X - x26.X)))))) (w64 ((w64 (x26.X * q2)) - (w64 ((w64 (0 - q3)) * (w64 (x30.Y - x26.Y)))))) (w64 ((w64 (x26.Y * q2)) - (w64 (q3 * (w64 (x30.X - x26.X)))))) w) rfl (by decide)) rfl ?_
              rintro _ _ ⟨a33, rfl, rfl⟩
              refine JL.eff (ef_buildSlice (E := 34) (k := eHd.k) (us := eHd.fl [⟨a33, 4, 4⟩]) rfl (fun w => bsl29_1 a33 4 4 w) rfl (by decide)) rfl ?_
              rintro _ _ ⟨a35, rfl, rfl⟩
              obtain ⟨x37, hx37, hres⟩ := bind_some hres
              refine JL.eff (ef_appendH (ix := 1) Go.Proofs.Try.underlying29 i34 i34z i34s rfl i34b0 i34b1 rfl rfl (Inn.len hi25) rfl rfl (fun w hC => rd_row hC 6 rfl) hx37 hi25) rfl ?_
              rintro _ _ ⟨a38, cp39, rfl, rfl⟩
              refine JL.absorb (es' := [rowT 42 eSPoint a4 x3.1.length cp5 x3.1, rowT 34 eHd a38 x37.length cp39 (hs24 ++ [⟨a33, 4, 4⟩]), boxO 42 g27 [.int .i64 x26.X, .int .i64 x26.Y], boxO 42 g31 [.int .i64 x30.X, .int .i64 x30.Y], rowT 34 eHd a35 1 1 [⟨a33, 4, 4⟩]]) [0, 1, 3, 4, 6, 2, 5] (by decide) rfl (appL_some hx37).2 ?_
              refine JL.val (yl_assign rfl) rfl ?_
              refine JL.nil ?_
              refine JE.weak (env' := [(2, .int .i64 q2), (3, .int .i64 q3), (10, .slice a4 x3.1.length cp5), (12, .slice a38 x37.length cp39), (13, .int .i64 x20)]) (es' := [rowT 42 eSPoint a4 x3.1.length cp5 x3.1, rowT 34 eHd a38 x37.length cp39 (hs24 ++ [⟨a33, 4, 4⟩]), innO 42 eSPoint none (hs24 ++ [⟨a33, 4, 4⟩]) x37]) [0, 1, 5] ?_ ⟨rfl, rfl, rfl, rfl, rfl, trivial⟩ (by decide) rfl
              refine JE.code ?_
              refine JX.region ?_
              refine JL.val (yl_move rfl) rfl ?_
              refine JL.val (yl_add rfl rfl) rfl ?_
              refine JL.val (yl_assign rfl) rfl ?_
              refine JL.nil ?_
              refine JE.cont hres ?_
              exact fun a w h => ⟨a38, cp39, hs24 ++ [⟨a33, 4, 4⟩], (Inn.appZ hi25 rfl (appL_some hx37).2), h.weak ⟨rfl, rfl, rfl, (by first | rfl | (simp only [List.length_set]; rfl) | simp only [List.length_set]), rfl, trivial⟩ [0, 1, 2] (by decide) (by first | rfl | (simp only [List.length_set]; rfl) | simp only [List.length_set])⟩
            · refine JX.condF rfl hb ?_
              refine JX.exit ?_
              refine JE.qb rfl ?_
              obtain ⟨b1, hb1⟩ : ∃ b : List (List SPoint), b = x21 := ⟨_, rfl⟩
              have hy1 : b1 = y1 := by rw [hb1]; exact hox1 _ (Option.some.inj hres).symm
              have hres := hresO1
              rw [← hy1] at hres
              have hi43 : Inn hs24 b1 := by subst hb1; exact hi25
              refine JE.weak (env' := [(12, .slice a22 b1.length cp23)]) (es' := [rowT 34 eHd a22 b1.length cp23 hs24, innO 42 eSPoint none hs24 b1]) [1, 2] ?_ ⟨(by subst hb1; first | rfl | (simp only [List.length_set]; rfl) | simp only [List.length_set]), trivial⟩ (by decide) (by subst hb1; first | rfl | (simp only [List.length_set]; rfl) | simp only [List.length_set])
              refine JE.code ?_
              refine JX.seq ?_
              refine JX.region ?_
              refine JL.val (yl_move rfl) rfl ?_
              refine JL.val (yl_assign rfl) rfl ?_
              refine JL.val (yl_assign rfl) rfl ?_
              refine JL.nil ?_
              refine JE.code ?_
              refine JX.ret ?_
              obtain rfl := Option.some.inj hres
              refine JE.ret (rs := [.tmp 8, .tmp 9]) (vs := [.slice a22 b1.length cp23, .int .i64 0]) rfl ⟨rfl, rfl, trivial⟩ ?_
              exact fun w' hb hs => ⟨_, _, ⟨a22, b1.length, cp23, hs24, rfl, hi43, rfl, rfl⟩, rfl, hb, hs.sel [0, 1] _ (by decide) rfl⟩
        · intro K
          rcases cond_some hj10 with ⟨hb, hres⟩ | ⟨hb, hres⟩
          · refine JX.condT rfl hb ?_
            refine JX.region ?_
            refine JL.val (yl_assign rfl) rfl ?_
            refine JL.nil ?_
            have hj := Option.some.inj hres
            exact JE.weak [0] (K) ⟨(by subst hj; rfl), (by subst hj; rfl), (by subst hj; rfl), (by subst hj; rfl), trivial⟩ (by decide) (by subst hj; rfl)
          · refine JX.condF rfl hb ?_
            refine JX.skip ?_
            have hj := Option.some.inj hres
            exact JE.weak [0] (K) ⟨(by subst hj; rfl), (by subst hj; rfl), (by subst hj; rfl), (by subst hj; rfl), trivial⟩ (by decide) (by subst hj; rfl)
      · intro K
        rcases Bool.eq_false_or_eq_true (j9 == 0) with hb | hb
        · refine JL.set (d := 33) (v := .bool true) (congrArg (fun b => some (Value.bool b)) hb) ?_
          refine JL.gval rfl rfl (yl_move rfl) rfl ?_
          refine JL.gval rfl rfl (yl_mul rfl rfl) rfl ?_
          refine JL.gval rfl rfl (yl_move rfl) rfl ?_
          refine JL.gval rfl rfl (yl_gtr rfl rfl) rfl ?_
          refine JL.val (yl_pick_true rfl rfl) rfl ?_
          exact JL.weak [0] K ⟨rfl, rfl, rfl, rfl, (by rw [hb]; rfl), trivial⟩ (by decide) rfl
        · refine JL.set (d := 33) (v := .bool false) (congrArg (fun b => some (Value.bool b)) hb) ?_
          refine JL.gskip rfl rfl rfl rfl ?_
          refine JL.gskip rfl rfl rfl rfl ?_
          refine JL.gskip rfl rfl rfl rfl ?_
          refine JL.gskip rfl rfl rfl rfl ?_
          refine JL.val (yl_pick_false rfl rfl) rfl ?_
          exact JL.weak [0] K ⟨rfl, rfl, rfl, rfl, (by rw [hb]; rfl), trivial⟩ (by decide) rfl
    · intro K
      rcases cond_some hj9 with ⟨hb, hres⟩ | ⟨hb, hres⟩
      · refine JX.condT rfl hb ?_
        refine JX.region ?_
        refine JL.val (yl_assign rfl) rfl ?_
        refine JL.nil ?_
        have hj := Option.some.inj hres
        exact JE.weak [0] (K) ⟨(by subst hj; rfl), (by subst hj; rfl), (by subst hj; rfl), (by subst hj; rfl), trivial⟩ (by decide) (by subst hj; rfl)
      · refine JX.condF rfl hb ?_
        refine JX.skip ?_
        have hj := Option.some.inj hres
        exact JE.weak [0] (K) ⟨(by subst hj; rfl), (by subst hj; rfl), (by subst hj; rfl), (by subst hj; rfl), trivial⟩ (by decide) (by subst hj; rfl)
  · intro K
    rcases cond_some hcb7 with ⟨hb, hres⟩ | ⟨hb, hres⟩
    · refine JL.set (d := 26) (v := .bool true) (congrArg (fun b => some (Value.bool b)) hb) ?_
      refine JL.gval rfl rfl (yl_move rfl) rfl ?_
      obtain ⟨x8, hx8, hres⟩ := bind_some hres
      refine JL.geff rfl rfl (ef_call (T := T100 x8) Go.Proofs.Try.func100 rfl (by kernel_rfl) rfl (fun w hC => c100  hx8)) rfl ?_
      rintro _ _ ⟨_, ⟨rfl, rfl⟩, rfl⟩
      refine JL.gval rfl rfl (yl_not rfl) rfl ?_
      refine JL.val (yl_pick_true rfl rfl) rfl ?_
      have he := Option.some.inj hres
      exact JL.weak [0] K ⟨rfl, rfl, rfl, rfl, (by rw [← he]; rfl), trivial⟩ (by decide) rfl
    · refine JL.set (d := 26) (v := .bool false) (congrArg (fun b => some (Value.bool b)) hb) ?_
      refine JL.gskip rfl rfl rfl rfl ?_
      refine JL.gskip rfl rfl rfl rfl ?_
      refine JL.gskip rfl rfl rfl rfl ?_
      refine JL.val (yl_pick_false rfl rfl) rfl ?_
      have he := Option.some.inj hres
      exact JL.weak [0] K ⟨rfl, rfl, rfl, rfl, (by rw [← he]; rfl), trivial⟩ (by decide) rfl

/- spec.CurvePath -/
def sh15_1 (q2 : Int) (x3 : List SPoint × Int) : (Int × List SPoint) → Option ((Int × List SPoint) ⊕ (List SPoint))
  | (x12, x13) => bif decide (x12 < (x3.1.length : Int)) then (Option.bind (getI x3.1 x12) fun x17 => Option.bind (getI x3.1 x12) fun x18 => Option.bind (appL x13 [SPoint.mk (w64 (x17.X * q2)) (w64 (x18.Y * q2))]) fun x21 => some (.inl (w64 (x12 + 1), x21))) else (some (.inr x13))
def sh15 (q0 : SPanel) (q1 : Int) (q2 : Int) : Option (List SPoint × Int) := Option.bind (sh99 q0 q1 q2) fun x3 => bif x3.2 != 0 then (some (([] : List SPoint), x3.2)) else (Option.bind (iter (sh15_1 q2 x3) (0, ([] : List SPoint))) fun b1 => (some (b1, 0)))
def T15 (r : List SPoint × Int) (v : Value) (rs : List Own) : Prop := ∃ (a0 : Option Addr) (n0 c0 : Nat), r.1.length = n0 ∧ v = rets [.slice a0 n0 c0, .int .i64 r.2] ∧ rs = [rowT 42 eSPoint a0 n0 c0 r.1]
set_option maxRecDepth 100000 in
theorem c15 {w : World} {q0 : SPanel} {a_0_2 : Option Addr} {n_0_2 c_0_2 : Nat} (g_0_2 : Rd w a_0_2 (eI64.fl q0.Breaks)) (l_0_2 : q0.Breaks.length = n_0_2) (k_0_2 : n_0_2 ≤ c_0_2) {q1 : Int} {q2 : Int} {r : List SPoint × Int} (hres : sh15 q0 q1 q2 = some r) : Calls Go.Proofs.Try.prog 15 [.agg #[.int .i64 q0.W, .int .i64 q0.H, .slice a_0_2 n_0_2 c_0_2], .int .i64 q1, .int .i64 q2].toArray w (Ret w (T15 r)) := by
  subst l_0_2
  unfold sh15 at hres
  refine calls_of (n := 47) (M := []) (es := []) Go.Proofs.Try.func15 rfl rfl rfl (Sep.nil _ _ _) ?_
  refine JX.seq ?_
  refine JX.region ?_
  refine JL.eff (ef_box rfl rfl) rfl ?_
  rintro _ _ ⟨g1, rfl, rfl⟩
  refine JL.val (yl_assign rfl) rfl ?_
  refine JL.val (yl_assign rfl) rfl ?_
  refine JL.nil ?_
  refine JE.code ?_
  refine JX.seq ?_
  refine JX.region ?_
  refine JL.val (yl_move rfl) rfl ?_
  refine JL.val (yl_move rfl) rfl ?_
  obtain ⟨x3, hx3, hres⟩ := bind_some hres
  refine JL.eff (ef_call (T := T99 x3) Go.Proofs.Try.func99 rfl (by kernel_rfl) rfl (fun w hC => c99 (RdAt.of0 (rd_box hC 0 rfl)) (rd_arg g_0_2 hC) rfl k_0_2 hx3)) rfl ?_
  rintro _ _ ⟨_, ⟨a4, _, cp5, rfl, rfl, rfl⟩, rfl⟩
  refine JL.val (yl_move rfl) rfl ?_
  refine JL.val (yl_extract rfl rfl) rfl ?_
  refine JL.val (yl_extract rfl rfl) rfl ?_
  refine JL.val (yl_assign rfl) rfl ?_
  refine JL.val (yl_assign rfl) rfl ?_
  refine JL.nil ?_
  refine JE.weak (env' := [(2, .int .i64 q2), (8, .slice a4 x3.1.length cp5), (9, .int .i64 x3.2)]) (es' := [rowT 42 eSPoint a4 x3.1.length cp5 x3.1]) [1] ?_ ⟨rfl, rfl, rfl, trivial⟩ (by decide) rfl
  refine JE.code ?_
  refine JX.seq ?_
  refine JX.seq ?_
  refine JX.region ?_
  refine JL.val (yl_move rfl) rfl ?_
  refine JL.val (yl_neq rfl rfl) rfl ?_
  refine JL.nil ?_
  refine JE.code ?_
  rcases cond_some hres with ⟨hb, hres⟩ | ⟨hb, hres⟩
  · refine JX.condT rfl hb ?_
    refine JX.seq ?_
    refine JX.region ?_
    refine JL.val (yl_move rfl) rfl ?_
    refine JL.val (yl_assign rfl) rfl ?_
    refine JL.val (yl_assign rfl) rfl ?_
    refine JL.nil ?_
    refine JE.weak (env' := [(6, .slice none 0 0), (7, .int .i64 x3.2)]) (es' := []) [] ?_ ⟨rfl, rfl, trivial⟩ (by decide) rfl
    refine JE.code ?_
    refine JX.ret ?_
    refine JE.nilrow 42 eSPoint ?_
    obtain rfl := Option.some.inj hres
    refine JE.ret (rs := [.tmp 6, .tmp 7]) (vs := [.slice none 0 0, .int .i64 x3.2]) rfl ⟨rfl, rfl, trivial⟩ ?_
    exact fun w' hb hs => ⟨_, _, ⟨none, 0, 0, rfl, rfl, rfl⟩, rfl, hb, hs.sel [0] _ (by decide) rfl⟩
  · refine JX.condF rfl hb ?_
    refine JX.skip ?_
    refine JE.code ?_
    refine JX.seq ?_
    refine JX.region ?_
    refine JL.eff (ef_buildSlice (E := 42) (k := eSPoint.k) (us := eSPoint.fl ([] : List SPoint)) rfl (fun w => bsl34_0  w) rfl (by decide)) rfl ?_
    rintro _ _ ⟨a8, rfl, rfl⟩
    refine JL.val (yl_assign rfl) rfl ?_
    refine JL.nil ?_
    refine JE.code ?_
    refine JX.seq ?_
    refine JX.seq ?_
    refine JX.region ?_
    refine JL.val (yl_assign rfl) rfl ?_
    refine JL.nil ?_
    refine JE.code ?_
    refine JX.block ?_
    obtain ⟨y1, hy1, hresO1⟩ := bind_some hres
    refine JX.loop (I := fun (s1 : Int × List SPoint) aa ww => ∃ (a10 : Option Addr) (cp11 : Nat), St w [] 47 [(2, .int .i64 q2), (8, .slice a4 x3.1.length cp5), (10, .slice a10 s1.2.length cp11), (11, .int .i64 s1.1)] [rowT 42 eSPoint a4 x3.1.length cp5 x3.1, rowT 42 eSPoint a10 s1.2.length cp11 s1.2] aa ww) (sh15_1 q2 x3) hy1 (fun a w h => ⟨a8, 0, h.weak ⟨rfl, rfl, rfl, rfl, trivial⟩ [0, 1] (by decide) rfl⟩) ?_
    rintro ⟨x12, x13⟩ o1 hres hox1 aa ww ⟨a14, cp15, hS⟩
    refine (?_ : JX Go.Proofs.Try.prog w [] 47 _ _ [(2, .int .i64 q2), (8, .slice a4 x3.1.length cp5), (10, .slice a14 x13.length cp15), (11, .int .i64 x12)] [rowT 42 eSPoint a4 x3.1.length cp5 x3.1, rowT 42 eSPoint a14 x13.length cp15 x13] _) aa ww hS
    clear hS
    simp only [sh15_1] at hres
    refine JX.seq ?_
    refine JX.seq ?_
    refine JX.region ?_
    refine JL.val (yl_move rfl) rfl ?_
    refine JL.val (yl_move rfl) rfl ?_
    refine JL.val (yl_len_slice Go.Proofs.Try.underlying34 rfl) rfl ?_
    refine JL.val (yl_lss rfl rfl) rfl ?_
    refine JL.nil ?_
    refine JE.weak (env' := [(2, .int .i64 q2), (8, .slice a4 x3.1.length cp5), (10, .slice a14 x13.length cp15), (11, .int .i64 x12), (25, .bool (decide (x12 < (x3.1.length : Int))))]) (es' := [rowT 42 eSPoint a4 x3.1.length cp5 x3.1, rowT 42 eSPoint a14 x13.length cp15 x13]) [0, 1] ?_ ⟨rfl, rfl, rfl, rfl, rfl, trivial⟩ (by decide) rfl
    refine JE.code ?_
    rcases cond_some hres with ⟨hb, hres⟩ | ⟨hb, hres⟩
    · refine JX.condT rfl hb ?_
      refine JX.skip ?_
      refine JE.code ?_
      refine JX.seq ?_
      refine JX.block ?_
      refine JX.drawH [(0, .pure), (1, .pure), (2, .pure), (3, .pure), (4, .pure), (5, .read), (6, .pure), (7, .pure), (8, .pure), (9, .pure), (10, .pure), (11, .pure), (12, .read), (13, .pure), (14, .pure), (15, .pure), (16, .must), (17, .must), (18, .pure)] [17] [1] [0] [rowT 42 eSPoint a14 x13.length cp15 x13] [rowT 42 eSPoint a4 x3.1.length cp5 x3.1] mixedP (by kernel_rfl) (by kernel_rfl) (by decide) rfl rfl ?_
      intro wrr16 Nr16 hFr16
      refine JH.pure rfl (yl_move rfl) rfl ?_
      refine JH.pure rfl (yl_move rfl) rfl ?_
      refine JH.pure rfl (yl_move rfl) rfl ?_
      obtain ⟨x17, hx17, hres⟩ := bind_some hres
      refine JH.pure rfl (yl_idxQ Go.Proofs.Try.underlying34 i42 i42s rfl rfl hx17 rfl (rd_row hFr16.cl 0 rfl) rfl) rfl ?_
      refine JH.pure rfl (yl_fieldAt Go.Proofs.Try.underlying42 rfl i2 i2n rfl (RdT.someQ (rd_row hFr16.cl 0 rfl) hx17 rfl rfl)) rfl ?_
      refine JH.read rfl (yl_loadT1 Go.Proofs.Try.underlying2 rfl rfl hx17 (fun w hw => hFr16.row 0 rfl rfl hw) rfl) rfl ?_
      refine JH.pure rfl (yl_move rfl) rfl ?_
      refine JH.pure rfl (yl_mul rfl rfl) rfl ?_
      refine JH.pure rfl (yl_move rfl) rfl ?_
      refine JH.pure rfl (yl_move rfl) rfl ?_
      obtain ⟨x18, hx18, hres⟩ := bind_some hres
      refine JH.pure rfl (yl_idxQ Go.Proofs.Try.underlying34 i42 i42s rfl rfl hx18 rfl (rd_row hFr16.cl 0 rfl) rfl) rfl ?_
      refine JH.pure rfl (yl_fieldAt Go.Proofs.Try.underlying42 rfl i2 i2n rfl (RdT.someQ (rd_row hFr16.cl 0 rfl) hx18 rfl rfl)) rfl ?_
      refine JH.read rfl (yl_loadT1 Go.Proofs.Try.underlying2 rfl rfl hx18 (fun w hw => hFr16.row 0 rfl rfl hw) rfl) rfl ?_
      refine JH.pure rfl (yl_move rfl) rfl ?_
      refine JH.pure rfl (yl_mul rfl rfl) rfl ?_
      refine JH.pure rfl (yl_build rfl (fun w => bld42_0_1 (w64 (x17.X * q2)) (w64 (x18.Y * q2)) w)) rfl ?_
      refine JH.must rfl (ef_buildSlice (E := 42) (k := eSPoint.k) (us := eSPoint.fl [SPoint.mk (w64 (x17.X * q2)) (w64 (x18.Y * q2))]) rfl (fun w => bsl34_1 (w64 (x17.X * q2)) (w64 (x18.Y * q2)) w) rfl (by decide)) rfl rfl ?_
      rintro _ _ ⟨a19, rfl, rfl⟩
      obtain ⟨x21, hx21, hres⟩ := bind_some hres
      refine JH.must rfl (ef_appendT (ix := 0) Go.Proofs.Try.underlying34 i42 i42z i42s rfl i42b0 i42b1 rfl rfl rfl rfl rfl (fun w hC => rd_row hC 1 rfl) hx21) rfl rfl ?_
      rintro _ _ ⟨a22, cp23, rfl, rfl⟩
      refine JH.pure rfl (yl_assign rfl) rfl ?_
      refine JH.nil ?_
      refine JE.weak (env' := [(2, .int .i64 q2), (8, .slice a4 x3.1.length cp5), (10, .slice a22 x21.length cp23), (11, .int .i64 x12)]) (es' := [rowT 42 eSPoint a4 x3.1.length cp5 x3.1, rowT 42 eSPoint a22 x21.length cp23 x21]) [0, 1] ?_ ⟨rfl, rfl, rfl, rfl, trivial⟩ (by decide) rfl
      refine JE.code ?_
      refine JX.region ?_
      refine JL.val (yl_move rfl) rfl ?_
      refine JL.val (yl_add rfl rfl) rfl ?_
      refine JL.val (yl_assign rfl) rfl ?_
      refine JL.nil ?_
      refine JE.cont hres ?_
      exact fun a w h => ⟨a22, cp23, h.weak ⟨rfl, rfl, rfl, rfl, trivial⟩ [0, 1] (by decide) rfl⟩
    · refine JX.condF rfl hb ?_
      refine JX.exit ?_
      refine JE.qb rfl ?_
      obtain ⟨b1, hb1⟩ : ∃ b : List SPoint, b = x13 := ⟨_, rfl⟩
      have hy1 : b1 = y1 := by rw [hb1]; exact hox1 _ (Option.some.inj hres).symm
      have hres := hresO1
      rw [← hy1] at hres
      refine JE.weak (env' := [(10, .slice a14 b1.length cp15)]) (es' := [rowT 42 eSPoint a14 b1.length cp15 b1]) [1] ?_ ⟨(by subst hb1; rfl), trivial⟩ (by decide) (by subst hb1; rfl)
      refine JE.code ?_
      refine JX.seq ?_
      refine JX.region ?_
      refine JL.val (yl_move rfl) rfl ?_
      refine JL.val (yl_assign rfl) rfl ?_
      refine JL.val (yl_assign rfl) rfl ?_
      refine JL.nil ?_
      refine JE.code ?_
      refine JX.ret ?_
      obtain rfl := Option.some.inj hres
      refine JE.ret (rs := [.tmp 6, .tmp 7]) (vs := [.slice a14 b1.length cp15, .int .i64 0]) rfl ⟨rfl, rfl, trivial⟩ ?_
      exact fun w' hb hs => ⟨_, _, ⟨a14, b1.length, cp15, rfl, rfl, rfl⟩, rfl, hb, hs.sel [0] _ (by decide) rfl⟩

/- (*spec.l00Src).one -/
def sh93 (q0 : Sl00Src) (q1 : Int) : Option (Bool × Int × Int) := Option.bind (sh92 q0 q1) fun x1 => some (x1.1 == 0, x1.2.1, x1.2.2)
def T93 (gb_0 : Nat) (a_0_0 : Option Addr) (n_0_0 c_0_0 : Nat) (r : Bool × Int × Int) (v : Value) (es' rs : List Own) : Prop := es' = [boxO 163 gb_0 [.slice a_0_0 n_0_0 c_0_0, .int .i64 r.2.1, .int .u64 r.2.2]] ∧ v = rets [.bool r.1] ∧ rs = []
set_option maxRecDepth 100000 in
theorem c93 {w : World} {M : List Nat} {q0 : Sl00Src} {gb_0 : Nat} {a_0_0 : Option Addr} {n_0_0 c_0_0 : Nat} (g_0_0 : RdS M w a_0_0 (eU8.fl q0.code)) (l_0_0 : q0.code.length = n_0_0) (k_0_0 : n_0_0 ≤ c_0_0) {q1 : Int} (gs : Sep w.heap.size M w [boxO 163 gb_0 [.slice a_0_0 n_0_0 c_0_0, .int .i64 q0.at_, .int .u64 q0.seed]]) {r : Bool × Int × Int} (hres : sh93 q0 q1 = some r) : Calls Go.Proofs.Try.prog 93 [ptrAt (some ⟨gb_0, 0, none⟩) 0, .int .i64 q1].toArray w (RetMs w M (T93 gb_0 a_0_0 n_0_0 c_0_0 r)) := by
  subst l_0_0
  unfold sh93 at hres
  refine calls_of (n := 9) (M := M) (es := [boxO 163 gb_0 [.slice a_0_0 q0.code.length c_0_0, .int .i64 q0.at_, .int .u64 q0.seed]]) Go.Proofs.Try.func93 rfl rfl rfl gs ?_
  refine JX.seq ?_
  refine JX.region ?_
  refine JL.val (yl_assign rfl) rfl ?_
  refine JL.nil ?_
  refine JE.code ?_
  refine JX.seq ?_
  refine JX.region ?_
  refine JL.val (yl_move rfl) rfl ?_
  refine JL.val (yl_move rfl) rfl ?_
  obtain ⟨x1, hx1, hres⟩ := bind_some hres
  refine JL.eff (ef_callms (caps := []) (vs := [ptrAt (some ⟨gb_0, 0, none⟩) 0, .int .i64 q1]) (T := T92 gb_0 a_0_0 q0.code.length c_0_0 x1) [0] [] [boxO 163 gb_0 [.slice a_0_0 q0.code.length c_0_0, .int .i64 q0.at_, .int .u64 q0.seed]] [] rfl Go.Proofs.Try.func92 rfl (by kernel_rfl) rfl (by decide) rfl rfl (fun w N hF hS => c92 (q0 := q0) (RdS.pass hF g_0_0) rfl k_0_0 hS hx1)) rfl ?_
  rintro _ _ ⟨_, _, ⟨rfl, rfl, rfl⟩, rfl⟩
  refine JL.val (yl_eql rfl rfl) rfl ?_
  refine JL.val (yl_assign rfl) rfl ?_
  refine JL.nil ?_
  refine JE.weak (env' := [(4, .bool (x1.1 == 0))]) (es' := [boxO 163 gb_0 [.slice a_0_0 q0.code.length c_0_0, .int .i64 x1.2.1, .int .u64 x1.2.2]]) [0] ?_ ⟨rfl, trivial⟩ (by decide) rfl
  refine JE.code ?_
  refine JX.ret ?_
  obtain rfl := Option.some.inj hres
  refine JE.ret (rs := [.tmp 4]) (vs := [.bool (x1.1 == 0)]) rfl ⟨rfl, trivial⟩ ?_
  exact fun w' hb hs => ⟨_, _, _, ⟨rfl, rfl, rfl⟩, rfl, hb, hs.sel [0] _ (by decide) rfl⟩

/- spec.l02New -/
def sh184 (q0 : Int) (q1 : Int) : Option (SPanel) := Option.bind (sh202 q0 q1) fun x3 => Option.bind (mkL x3 0) fun x4 => some (SPanel.mk q0 q1 x4)
def T184 (r : SPanel) (v : Value) (rs : List Own) : Prop := ∃ (a0_2 : Option Addr) (n0_2 c0_2 : Nat), r.Breaks.length = n0_2 ∧ v = rets [.agg #[.int .i64 r.W, .int .i64 r.H, .slice a0_2 n0_2 c0_2]] ∧ rs = [rowT 2 eI64 a0_2 n0_2 c0_2 r.Breaks]
set_option maxRecDepth 100000 in
theorem c184 {w : World} {q0 : Int} {q1 : Int} {r : SPanel} (hres : sh184 q0 q1 = some r) : Calls Go.Proofs.Try.prog 184 [.int .i64 q0, .int .i64 q1].toArray w (Ret w (T184 r)) := by
  unfold sh184 at hres
  refine calls_of (n := 12) (M := []) (es := []) Go.Proofs.Try.func184 rfl rfl rfl (Sep.nil _ _ _) ?_
  refine JX.seq ?_
  refine JX.region ?_
  refine JL.eff (ef_alloc i26 i26z rfl) rfl ?_
  rintro _ _ ⟨g1, rfl, rfl⟩
  refine JL.nil ?_
  refine JE.code ?_
  refine JX.seq ?_
  refine JX.region ?_
  refine JL.val (yl_move rfl) rfl ?_
  refine JL.val (yl_move rfl) rfl ?_
  refine JL.val (yl_move rfl) rfl ?_
  refine JL.val (yl_move rfl) rfl ?_
  obtain ⟨x3, hx3, hres⟩ := bind_some hres
  refine JL.eff (ef_call (T := T202 x3) Go.Proofs.Try.func202 rfl (by kernel_rfl) rfl (fun w hC => c202  hx3)) rfl ?_
  rintro _ _ ⟨_, ⟨rfl, rfl⟩, rfl⟩
  obtain ⟨x4, hx4, hres⟩ := bind_some hres
  refine JL.eff (ef_makeS (e := eI64) Go.Proofs.Try.underlying24 i2 i2s i2z rfl i2b1 rfl rfl hx4) rfl ?_
  rintro _ _ ⟨a5, rfl, rfl⟩
  refine JL.val (yl_build rfl (fun w => bld26_0_1_2 q0 q1 a5 x4.length x4.length w)) rfl ?_
  refine JL.eff (ef_store_box (i := 0) (v := .agg #[.int .i64 q0, .int .i64 q1, .slice a5 x4.length x4.length]) i26 rfl rfl rfl (i26s).symm (Nat.le_of_ble_eq_true rfl) (by simp [Value.cells, Value.oneCell'])) rfl ?_
  rintro _ _ rfl
  refine JL.nil ?_
  refine JE.weak (env' := [(4, ptrAt (some ⟨g1, 0, none⟩) 0)]) (es' := [boxO 26 g1 [.int .i64 q0, .int .i64 q1, .slice a5 x4.length x4.length], rowT 2 eI64 a5 x4.length x4.length x4]) [0, 1] ?_ ⟨rfl, trivial⟩ (by decide) rfl
  refine JE.code ?_
  refine JX.ret ?_
  obtain rfl := Option.some.inj hres
  refine JE.ret (rs := [.cell 4 26]) (vs := [.agg #[.int .i64 q0, .int .i64 q1, .slice a5 x4.length x4.length]]) rfl ⟨rv_box 0 rfl rfl Go.Proofs.Try.underlying26 rfl i26 (i26s).symm, trivial⟩ ?_
  exact fun w' hb hs => ⟨_, _, ⟨a5, x4.length, x4.length, rfl, rfl, rfl⟩, rfl, hb, hs.sel [1] _ (by decide) rfl⟩

/- spec.l02Draw -/
def sh183_1 (q0 : Sl00Src) (x5 : SPanel) (x11 : Int × Int × Int) : (Int × (Int × Int) × List Int) → Option ((Int × (Int × Int) × List Int) ⊕ ((Int × Int) × List Int))
  | (x13, x14, x15) => bif decide (x13 < ((x5.Breaks.length : Nat) : Int)) then (Option.bind (sh92 (Sl00Src.mk q0.code x14.1 x14.2) 4) fun x17 => Option.bind (bif decide (x17.1 < x11.1) then (Option.bind (sh92 (Sl00Src.mk q0.code x17.2.1 x17.2.2) 2) fun x21 => Option.bind (getI x15 x13) fun x22 => some ((x21.2.1, x21.2.2), x15.set (x13).toNat (w64 (1 + x21.1)))) else (some ((x17.2.1, x17.2.2), x15))) fun j18 => (some (.inl (w64 (x13 + 1), (j18.1.1, j18.1.2), j18.2)))) else (some (.inr ((x14.1, x14.2), x15)))
def sh183 (q0 : Sl00Src) (q1 : Int) : Option (SPanel × Int × Int) := Option.bind (sh92 q0 q1) fun x3 => Option.bind (sh92 (Sl00Src.mk q0.code x3.2.1 x3.2.2) q1) fun x4 => Option.bind (sh184 (w64 (1 + x3.1)) (w64 (1 + x4.1))) fun x5 => Option.bind (sh92 (Sl00Src.mk q0.code x4.2.1 x4.2.2) 4) fun x11 => Option.bind (iter (sh183_1 q0 x5 x11) (0, (x11.2.1, x11.2.2), x5.Breaks)) fun b1 => (some (SPanel.mk x5.W x5.H b1.2, b1.1.1, b1.1.2))
def T183 (gb_0 : Nat) (a_0_0 : Option Addr) (n_0_0 c_0_0 : Nat) (r : SPanel × Int × Int) (v : Value) (es' rs : List Own) : Prop := es' = [boxO 163 gb_0 [.slice a_0_0 n_0_0 c_0_0, .int .i64 r.2.1, .int .u64 r.2.2]] ∧ ∃ (a0_2 : Option Addr) (n0_2 c0_2 : Nat), r.1.Breaks.length = n0_2 ∧ v = rets [.agg #[.int .i64 r.1.W, .int .i64 r.1.H, .slice a0_2 n0_2 c0_2]] ∧ rs = [rowT 2 eI64 a0_2 n0_2 c0_2 r.1.Breaks]
set_option maxRecDepth 100000 in
theorem c183 {w : World} {M : List Nat} {q0 : Sl00Src} {gb_0 : Nat} {a_0_0 : Option Addr} {n_0_0 c_0_0 : Nat} (g_0_0 : RdS M w a_0_0 (eU8.fl q0.code)) (l_0_0 : q0.code.length = n_0_0) (k_0_0 : n_0_0 ≤ c_0_0) {q1 : Int} (gs : Sep w.heap.size M w [boxO 163 gb_0 [.slice a_0_0 n_0_0 c_0_0, .int .i64 q0.at_, .int .u64 q0.seed]]) {r : SPanel × Int × Int} (hres : sh183 q0 q1 = some r) : Calls Go.Proofs.Try.prog 183 [ptrAt (some ⟨gb_0, 0, none⟩) 0, .int .i64 q1].toArray w (RetMs w M (T183 gb_0 a_0_0 n_0_0 c_0_0 r)) := by
  subst l_0_0
  unfold sh183 at hres
  refine calls_of (n := 40) (M := M) (es := [boxO 163 gb_0 [.slice a_0_0 q0.code.length c_0_0, .int .i64 q0.at_, .int .u64 q0.seed]]) Go.Proofs.Try.func183 rfl rfl rfl gs ?_
  refine JX.seq ?_
  refine JX.region ?_
  refine JL.eff (ef_alloc i26 i26z rfl) rfl ?_
  rintro _ _ ⟨g1, rfl, rfl⟩
  refine JL.nil ?_
  refine JE.code ?_
  refine JX.seq ?_
  refine JX.region ?_
  refine JL.val (yl_move rfl) rfl ?_
  refine JL.val (yl_move rfl) rfl ?_
  obtain ⟨x3, hx3, hres⟩ := bind_some hres
  refine JL.eff (ef_callms (caps := []) (vs := [ptrAt (some ⟨gb_0, 0, none⟩) 0, .int .i64 q1]) (T := T92 gb_0 a_0_0 q0.code.length c_0_0 x3) [0] [1] [boxO 163 gb_0 [.slice a_0_0 q0.code.length c_0_0, .int .i64 q0.at_, .int .u64 q0.seed]] [boxO 26 g1 [.int .i64 0, .int .i64 0, .slice none 0 0]] rfl Go.Proofs.Try.func92 rfl (by kernel_rfl) rfl (by decide) rfl rfl (fun w N hF hS => c92 (q0 := q0) (RdS.pass hF g_0_0) rfl k_0_0 hS hx3)) rfl ?_
  rintro _ _ ⟨_, _, ⟨rfl, rfl, rfl⟩, rfl⟩
  refine JL.val (yl_add rfl rfl) rfl ?_
  refine JL.val (yl_assign rfl) rfl ?_
  refine JL.nil ?_
  refine JE.weak (env' := [(0, ptrAt (some ⟨gb_0, 0, none⟩) 0), (1, .int .i64 q1), (4, ptrAt (some ⟨g1, 0, none⟩) 0), (5, .int .i64 (w64 (1 + x3.1)))]) (es' := [boxO 163 gb_0 [.slice a_0_0 q0.code.length c_0_0, .int .i64 x3.2.1, .int .u64 x3.2.2], boxO 26 g1 [.int .i64 0, .int .i64 0, .slice none 0 0]]) [1, 0] ?_ ⟨rfl, rfl, rfl, rfl, trivial⟩ (by decide) rfl
  refine JE.code ?_
  refine JX.seq ?_
  refine JX.region ?_
  refine JL.val (yl_move rfl) rfl ?_
  refine JL.val (yl_move rfl) rfl ?_
  refine JL.val (yl_move rfl) rfl ?_
  obtain ⟨x4, hx4, hres⟩ := bind_some hres
  refine JL.eff (ef_callms (caps := []) (vs := [ptrAt (some ⟨gb_0, 0, none⟩) 0, .int .i64 q1]) (T := T92 gb_0 a_0_0 q0.code.length c_0_0 x4) [0] [1] [boxO 163 gb_0 [.slice a_0_0 q0.code.length c_0_0, .int .i64 x3.2.1, .int .u64 x3.2.2]] [boxO 26 g1 [.int .i64 0, .int .i64 0, .slice none 0 0]] rfl Go.Proofs.Try.func92 rfl (by kernel_rfl) rfl (by decide) rfl rfl (fun w N hF hS => c92 (q0 := Sl00Src.mk q0.code x3.2.1 x3.2.2) (RdS.pass hF g_0_0) rfl k_0_0 hS hx4)) rfl ?_
  rintro _ _ ⟨_, _, ⟨rfl, rfl, rfl⟩, rfl⟩
  refine JL.val (yl_add rfl rfl) rfl ?_
  obtain ⟨x5, hx5, hres⟩ := bind_some hres
  refine JL.eff (ef_call (T := T184 x5) Go.Proofs.Try.func184 rfl (by kernel_rfl) rfl (fun w hC => c184  hx5)) rfl ?_
  rintro _ _ ⟨_, ⟨a6, _, cp7, rfl, rfl, rfl⟩, rfl⟩
  refine JL.eff (ef_alloc i26 i26z rfl) rfl ?_
  rintro _ _ ⟨g9, rfl, rfl⟩
  refine JL.eff (ef_store_box (i := 3) (v := .agg #[.int .i64 x5.W, .int .i64 x5.H, .slice a6 x5.Breaks.length cp7]) i26 rfl rfl rfl (i26s).symm (Nat.le_of_ble_eq_true rfl) (by simp [Value.cells, Value.oneCell'])) rfl ?_
  rintro _ _ rfl
  refine JL.nil ?_
  refine JE.weak (env' := [(0, ptrAt (some ⟨gb_0, 0, none⟩) 0), (4, ptrAt (some ⟨g1, 0, none⟩) 0), (6, ptrAt (some ⟨g9, 0, none⟩) 0)]) (es' := [boxO 163 gb_0 [.slice a_0_0 q0.code.length c_0_0, .int .i64 x4.2.1, .int .u64 x4.2.2], boxO 26 g1 [.int .i64 0, .int .i64 0, .slice none 0 0], boxO 26 g9 [.int .i64 x5.W, .int .i64 x5.H, .slice a6 x5.Breaks.length cp7], rowT 2 eI64 a6 x5.Breaks.length cp7 x5.Breaks]) [1, 0, 3, 2] ?_ ⟨rfl, rfl, rfl, trivial⟩ (by decide) rfl
  refine JE.code ?_
  refine JX.seq ?_
  refine JX.region ?_
  refine JL.val (yl_move rfl) rfl ?_
  obtain ⟨x11, hx11, hres⟩ := bind_some hres
  refine JL.eff (ef_callms (caps := []) (vs := [ptrAt (some ⟨gb_0, 0, none⟩) 0, .int .i64 4]) (T := T92 gb_0 a_0_0 q0.code.length c_0_0 x11) [0] [1, 2, 3] [boxO 163 gb_0 [.slice a_0_0 q0.code.length c_0_0, .int .i64 x4.2.1, .int .u64 x4.2.2]] [boxO 26 g1 [.int .i64 0, .int .i64 0, .slice none 0 0], boxO 26 g9 [.int .i64 x5.W, .int .i64 x5.H, .slice a6 x5.Breaks.length cp7], rowT 2 eI64 a6 x5.Breaks.length cp7 x5.Breaks] rfl Go.Proofs.Try.func92 rfl (by kernel_rfl) rfl (by decide) rfl rfl (fun w N hF hS => c92 (q0 := Sl00Src.mk q0.code x4.2.1 x4.2.2) (RdS.pass hF g_0_0) rfl k_0_0 hS hx11)) rfl ?_
  rintro _ _ ⟨_, _, ⟨rfl, rfl, rfl⟩, rfl⟩
  refine JL.val (yl_assign rfl) rfl ?_
  refine JL.nil ?_
  refine JE.code ?_
  refine JX.seq ?_
  refine JX.seq ?_
  refine JX.region ?_
  refine JL.val (yl_assign rfl) rfl ?_
  refine JL.nil ?_
  refine JE.code ?_
  refine JX.block ?_
  obtain ⟨y1, hy1, hresO1⟩ := bind_some hres
  refine JX.loop (I := fun (s1 : Int × (Int × Int) × List Int) aa ww => ∃ (l12 : s1.2.2.length = x5.Breaks.length), St w M 40 [(0, ptrAt (some ⟨gb_0, 0, none⟩) 0), (4, ptrAt (some ⟨g1, 0, none⟩) 0), (6, ptrAt (some ⟨g9, 0, none⟩) 0), (7, .int .i64 x11.1), (8, .int .i64 s1.1)] [boxO 163 gb_0 [.slice a_0_0 q0.code.length c_0_0, .int .i64 s1.2.1.1, .int .u64 s1.2.1.2], boxO 26 g1 [.int .i64 0, .int .i64 0, .slice none 0 0], boxO 26 g9 [.int .i64 x5.W, .int .i64 x5.H, .slice a6 x5.Breaks.length cp7], rowT 2 eI64 a6 x5.Breaks.length cp7 s1.2.2] aa ww) (sh183_1 q0 x5 x11) hy1 (fun a w h => ⟨rfl, h.weak ⟨rfl, rfl, rfl, rfl, rfl, trivial⟩ [3, 0, 1, 2] (by decide) rfl⟩) ?_
  rintro ⟨x13, x14, x15⟩ o1 hres hox1 aa ww ⟨l16, hS⟩
  refine (?_ : JX Go.Proofs.Try.prog w M 40 _ _ [(0, ptrAt (some ⟨gb_0, 0, none⟩) 0), (4, ptrAt (some ⟨g1, 0, none⟩) 0), (6, ptrAt (some ⟨g9, 0, none⟩) 0), (7, .int .i64 x11.1), (8, .int .i64 x13)] [boxO 163 gb_0 [.slice a_0_0 q0.code.length c_0_0, .int .i64 x14.1, .int .u64 x14.2], boxO 26 g1 [.int .i64 0, .int .i64 0, .slice none 0 0], boxO 26 g9 [.int .i64 x5.W, .int .i64 x5.H, .slice a6 x5.Breaks.length cp7], rowT 2 eI64 a6 x5.Breaks.length cp7 x15] _) aa ww hS
  clear hS
  simp only [sh183_1] at hres
  refine JX.seq ?_
  refine JX.seq ?_
  refine JX.region ?_
  refine JL.val (yl_move rfl) rfl ?_
  refine JL.val (yl_fieldAt (a := some _) Go.Proofs.Try.underlying26 rfl i24 i24n rfl rfl) rfl ?_
  refine JL.val (yl_load1 Go.Proofs.Try.underlying24 rfl rfl (fun w hC => rd_box hC 2 rfl) rfl) rfl ?_
  refine JL.val (yl_len_slice Go.Proofs.Try.underlying24 rfl) rfl ?_
  refine JL.val (yl_lss rfl rfl) rfl ?_
  refine JL.nil ?_
  refine JE.weak (env' := [(0, ptrAt (some ⟨gb_0, 0, none⟩) 0), (4, ptrAt (some ⟨g1, 0, none⟩) 0), (6, ptrAt (some ⟨g9, 0, none⟩) 0), (7, .int .i64 x11.1), (8, .int .i64 x13), (25, .bool (decide (x13 < ((x5.Breaks.length : Nat) : Int))))]) (es' := [boxO 163 gb_0 [.slice a_0_0 q0.code.length c_0_0, .int .i64 x14.1, .int .u64 x14.2], boxO 26 g1 [.int .i64 0, .int .i64 0, .slice none 0 0], boxO 26 g9 [.int .i64 x5.W, .int .i64 x5.H, .slice a6 x5.Breaks.length cp7], rowT 2 eI64 a6 x5.Breaks.length cp7 x15]) [0, 1, 2, 3] ?_ ⟨rfl, rfl, rfl, rfl, rfl, rfl, trivial⟩ (by decide) rfl
  refine JE.code ?_
  rcases cond_some hres with ⟨hb, hres⟩ | ⟨hb, hres⟩
  · refine JX.condT rfl hb ?_
    refine JX.skip ?_
    refine JE.code ?_
    refine JX.seq ?_
    refine JX.block ?_
    refine JX.seq ?_
    refine JX.region ?_
    refine JL.val (yl_move rfl) rfl ?_
    obtain ⟨x17, hx17, hres⟩ := bind_some hres
    refine JL.eff (ef_callms (caps := []) (vs := [ptrAt (some ⟨gb_0, 0, none⟩) 0, .int .i64 4]) (T := T92 gb_0 a_0_0 q0.code.length c_0_0 x17) [0] [1, 2, 3] [boxO 163 gb_0 [.slice a_0_0 q0.code.length c_0_0, .int .i64 x14.1, .int .u64 x14.2]] [boxO 26 g1 [.int .i64 0, .int .i64 0, .slice none 0 0], boxO 26 g9 [.int .i64 x5.W, .int .i64 x5.H, .slice a6 x5.Breaks.length cp7], rowT 2 eI64 a6 x5.Breaks.length cp7 x15] rfl Go.Proofs.Try.func92 rfl (by kernel_rfl) rfl (by decide) rfl rfl (fun w N hF hS => c92 (q0 := Sl00Src.mk q0.code x14.1 x14.2) (RdS.pass hF g_0_0) rfl k_0_0 hS hx17)) rfl ?_
    rintro _ _ ⟨_, _, ⟨rfl, rfl, rfl⟩, rfl⟩
    refine JL.val (yl_move rfl) rfl ?_
    refine JL.val (yl_lss rfl rfl) rfl ?_
    refine JL.nil ?_
    refine JE.weak (env' := [(0, ptrAt (some ⟨gb_0, 0, none⟩) 0), (4, ptrAt (some ⟨g1, 0, none⟩) 0), (6, ptrAt (some ⟨g9, 0, none⟩) 0), (7, .int .i64 x11.1), (8, .int .i64 x13), (31, .bool (decide (x17.1 < x11.1)))]) (es' := [boxO 163 gb_0 [.slice a_0_0 q0.code.length c_0_0, .int .i64 x17.2.1, .int .u64 x17.2.2], boxO 26 g1 [.int .i64 0, .int .i64 0, .slice none 0 0], boxO 26 g9 [.int .i64 x5.W, .int .i64 x5.H, .slice a6 x5.Breaks.length cp7], rowT 2 eI64 a6 x5.Breaks.length cp7 x15]) [3, 0, 1, 2] ?_ ⟨rfl, rfl, rfl, rfl, rfl, rfl, trivial⟩ (by decide) rfl
    refine JE.code ?_
    obtain ⟨j18, hj18, hresj18⟩ := bind_some hres
    refine JX.cut (K := fun J => ∀ (l19 : j18.2.length = x5.Breaks.length), J [(0, ptrAt (some ⟨gb_0, 0, none⟩) 0), (4, ptrAt (some ⟨g1, 0, none⟩) 0), (6, ptrAt (some ⟨g9, 0, none⟩) 0), (7, .int .i64 x11.1), (8, .int .i64 x13)] [boxO 163 gb_0 [.slice a_0_0 q0.code.length c_0_0, .int .i64 j18.1.1, .int .u64 j18.1.2], boxO 26 g1 [.int .i64 0, .int .i64 0, .slice none 0 0], boxO 26 g9 [.int .i64 x5.W, .int .i64 x5.H, .slice a6 x5.Breaks.length cp7], rowT 2 eI64 a6 x5.Breaks.length cp7 j18.2]) ?_ ?_
    · intro l19
      have hres := hresj18
      refine JE.code ?_
      refine JX.region ?_
      refine JL.val (yl_move rfl) rfl ?_
      refine JL.val (yl_add rfl rfl) rfl ?_
      refine JL.val (yl_assign rfl) rfl ?_
      refine JL.nil ?_
      refine JE.cont hres ?_
      exact fun a w h => ⟨l19, h.weak ⟨rfl, rfl, rfl, rfl, rfl, trivial⟩ [0, 1, 2, 3] (by decide) rfl⟩
    · intro K
      rcases cond_some hj18 with ⟨hb, hres⟩ | ⟨hb, hres⟩
      · refine JX.condT rfl hb ?_
        refine JX.drawH [(0, .pure), (1, .read), (2, .pure), (3, .pure), (4, .must), (5, .pure), (6, .pure), (7, .must)] [4, 7] [0, 3] [1, 2] [boxO 163 gb_0 [.slice a_0_0 q0.code.length c_0_0, .int .i64 x17.2.1, .int .u64 x17.2.2], rowT 2 eI64 a6 x5.Breaks.length cp7 x15] [boxO 26 g1 [.int .i64 0, .int .i64 0, .slice none 0 0], boxO 26 g9 [.int .i64 x5.W, .int .i64 x5.H, .slice a6 x5.Breaks.length cp7]] mixedP (by kernel_rfl) (by kernel_rfl) (by decide) rfl rfl ?_
        intro wrr20 Nr20 hFr20
        refine JH.pure rfl (yl_fieldAt (a := some _) Go.Proofs.Try.underlying26 rfl i24 i24n rfl rfl) rfl ?_
        refine JH.read rfl (yl_load1 Go.Proofs.Try.underlying24 rfl rfl (fun w hw => hFr20.box 2 rfl rfl hw) rfl) rfl ?_
        refine JH.pure rfl (yl_move rfl) rfl ?_
        refine JH.pure rfl (yl_move rfl) rfl ?_
        obtain ⟨x21, hx21, hres⟩ := bind_some hres
        refine JH.must rfl (ef_callms (caps := []) (vs := [ptrAt (some ⟨gb_0, 0, none⟩) 0, .int .i64 2]) (T := T92 gb_0 a_0_0 q0.code.length c_0_0 x21) [0] [1] [boxO 163 gb_0 [.slice a_0_0 q0.code.length c_0_0, .int .i64 x17.2.1, .int .u64 x17.2.2]] [rowT 2 eI64 a6 x5.Breaks.length cp7 x15] rfl Go.Proofs.Try.func92 rfl (by kernel_rfl) rfl (by decide) rfl rfl (fun w N hF hS => c92 (q0 := Sl00Src.mk q0.code x17.2.1 x17.2.2) (RdS.pass hF (RdS.pass hFr20 g_0_0)) rfl k_0_0 hS hx21)) rfl rfl ?_
        rintro _ _ ⟨_, _, ⟨rfl, rfl, rfl⟩, rfl⟩
        refine JH.pure rfl (yl_add rfl rfl) rfl ?_
        obtain ⟨x22, hx22, hres⟩ := bind_some hres
        refine JH.pure rfl (yl_idxQ Go.Proofs.Try.underlying24 i2 i2s rfl rfl hx22 l16 (rd_row hFr20.cl 3 rfl) l16) rfl ?_
        refine JH.must rfl (ef_storeT (ix := 0) (u := w64 (1 + x21.1)) i2 i2s rfl rfl rfl hx22 rfl) rfl rfl ?_
        rintro _ _ rfl
        refine JH.nil ?_
        refine JE.weak (env' := [(0, ptrAt (some ⟨gb_0, 0, none⟩) 0), (4, ptrAt (some ⟨g1, 0, none⟩) 0), (6, ptrAt (some ⟨g9, 0, none⟩) 0), (7, .int .i64 x11.1), (8, .int .i64 x13)]) (es' := [boxO 163 gb_0 [.slice a_0_0 q0.code.length c_0_0, .int .i64 x21.2.1, .int .u64 x21.2.2], boxO 26 g1 [.int .i64 0, .int .i64 0, .slice none 0 0], boxO 26 g9 [.int .i64 x5.W, .int .i64 x5.H, .slice a6 x5.Breaks.length cp7], rowT 2 eI64 a6 x5.Breaks.length cp7 (x15.set (x13).toNat (w64 (1 + x21.1)))]) [3, 0, 1, 2] ?_ ⟨rfl, rfl, rfl, rfl, rfl, trivial⟩ (by decide) rfl
        have hj := Option.some.inj hres
        exact JE.weak [0, 1, 2, 3] (K (by subst hj; exact (List.length_set.trans l16))) ⟨(by subst hj; rfl), (by subst hj; rfl), (by subst hj; rfl), (by subst hj; rfl), (by subst hj; rfl), trivial⟩ (by decide) (by subst hj; rfl)
      · refine JX.condF rfl hb ?_
        refine JX.skip ?_
        have hj := Option.some.inj hres
        exact JE.weak [0, 1, 2, 3] (K (by subst hj; exact l16)) ⟨(by subst hj; rfl), (by subst hj; rfl), (by subst hj; rfl), (by subst hj; rfl), (by subst hj; rfl), trivial⟩ (by decide) (by subst hj; rfl)
  · refine JX.condF rfl hb ?_
    refine JX.exit ?_
    refine JE.qb rfl ?_
    obtain ⟨b1, hb1⟩ : ∃ b : (Int × Int) × List Int, b = ((x14.1, x14.2), x15) := ⟨_, rfl⟩
    have hy1 : b1 = y1 := by rw [hb1]; exact hox1 _ (Option.some.inj hres).symm
    have hres := hresO1
    rw [← hy1] at hres
    have l23 : b1.2.length = x5.Breaks.length := by subst hb1; exact l16
    refine JE.weak (env' := [(4, ptrAt (some ⟨g1, 0, none⟩) 0), (6, ptrAt (some ⟨g9, 0, none⟩) 0)]) (es' := [boxO 163 gb_0 [.slice a_0_0 q0.code.length c_0_0, .int .i64 b1.1.1, .int .u64 b1.1.2], boxO 26 g1 [.int .i64 0, .int .i64 0, .slice none 0 0], boxO 26 g9 [.int .i64 x5.W, .int .i64 x5.H, .slice a6 x5.Breaks.length cp7], rowT 2 eI64 a6 x5.Breaks.length cp7 b1.2]) [0, 1, 2, 3] ?_ ⟨(by subst hb1; rfl), (by subst hb1; rfl), trivial⟩ (by decide) (by subst hb1; rfl)
    refine JE.code ?_
    refine JX.seq ?_
    refine JX.region ?_
    refine JL.val (yl_loadn Go.Proofs.Try.underlying26 rfl i26 rfl (fun w hC => rd_box hC 2 rfl) rfl (i26s).symm i26p) rfl ?_
    refine JL.eff (ef_store_box (i := 1) (v := .agg #[.int .i64 x5.W, .int .i64 x5.H, .slice a6 x5.Breaks.length cp7]) i26 rfl rfl rfl (i26s).symm (Nat.le_of_ble_eq_true rfl) (by simp [Value.cells, Value.oneCell'])) rfl ?_
    rintro _ _ rfl
    refine JL.nil ?_
    refine JE.weak (env' := [(4, ptrAt (some ⟨g1, 0, none⟩) 0)]) (es' := [boxO 163 gb_0 [.slice a_0_0 q0.code.length c_0_0, .int .i64 b1.1.1, .int .u64 b1.1.2], boxO 26 g1 [.int .i64 x5.W, .int .i64 x5.H, .slice a6 x5.Breaks.length cp7], rowT 2 eI64 a6 x5.Breaks.length cp7 b1.2]) [0, 1, 3] ?_ ⟨rfl, trivial⟩ (by decide) rfl
    refine JE.code ?_
    refine JX.ret ?_
    obtain rfl := Option.some.inj hres
    refine JE.ret (rs := [.cell 4 26]) (vs := [.agg #[.int .i64 x5.W, .int .i64 x5.H, .slice a6 x5.Breaks.length cp7]]) rfl ⟨rv_box 1 rfl rfl Go.Proofs.Try.underlying26 rfl i26 (i26s).symm, trivial⟩ ?_
    exact fun w' hb hs => ⟨_, _, _, ⟨rfl, a6, x5.Breaks.length, cp7, l23, rfl, rfl⟩, rfl, hb, hs.sel [0, 2] _ (by decide) rfl⟩

/- spec.l20Draw -/
def sh172_1 (q0 : Sl00Src) : (Int × (Int × Int) × List SPoint) → Option ((Int × (Int × Int) × List SPoint) ⊕ ((Int × Int) × List SPoint))
  | (x42, x43, x44) => bif decide (0 < x42) then (Option.bind (sh92 (Sl00Src.mk q0.code x43.1 x43.2) 21) fun x47 => Option.bind (sh92 (Sl00Src.mk q0.code x47.2.1 x47.2.2) 21) fun x48 => Option.bind (appL x44 [SPoint.mk (w64 (x47.1 - 10)) (w64 (x48.1 - 10))]) fun x51 => some (.inl (w64 (x42 - 1), (x48.2.1, x48.2.2), x51))) else (some (.inr ((x43.1, x43.2), x44)))
def sh172 (q0 : Sl00Src) : Option (List SPoint × Int × Int) := Option.bind (sh93 q0 2) fun x1 => bif x1.1 then (Option.bind (sh183 (Sl00Src.mk q0.code x1.2.1 x1.2.2) 3) fun x2 => Option.bind (sh147 x2.1) fun x8 => Option.bind (sh92 (Sl00Src.mk q0.code x2.2.1 x2.2.2) ((x8.1.length : Nat) : Int)) fun x18 => Option.bind (sh93 (Sl00Src.mk q0.code x18.2.1 x18.2.2) 2) fun x19 => bif x19.1 then (Option.bind (sh12 x2.1 x18.1 10 3) fun x20 => Option.bind (sh92 (Sl00Src.mk q0.code x19.2.1 x19.2.2) ((x20.1.length : Nat) : Int)) fun x27 => Option.bind (getI x20.1 x27.1) fun x28 => some (x28, x27.2.1, x27.2.2)) else (Option.bind (sh15 x2.1 x18.1 4) fun x33 => some (x33.1, x19.2.1, x19.2.2))) else (Option.bind (sh92 (Sl00Src.mk q0.code x1.2.1 x1.2.2) 5) fun x39 => Option.bind (iter (sh172_1 q0) (w64 (3 + x39.1), (x39.2.1, x39.2.2), ([] : List SPoint))) fun b1 => (some (b1.2, b1.1.1, b1.1.2)))
def T172 (gb_0 : Nat) (a_0_0 : Option Addr) (n_0_0 c_0_0 : Nat) (r : List SPoint × Int × Int) (v : Value) (es' rs : List Own) : Prop := es' = [boxO 163 gb_0 [.slice a_0_0 n_0_0 c_0_0, .int .i64 r.2.1, .int .u64 r.2.2]] ∧ ∃ (a0 : Option Addr) (n0 c0 : Nat), r.1.length = n0 ∧ v = rets [.slice a0 n0 c0] ∧ rs = [rowT 42 eSPoint a0 n0 c0 r.1]
set_option maxRecDepth 100000 in
theorem c172 {w : World} {M : List Nat} {q0 : Sl00Src} {gb_0 : Nat} {a_0_0 : Option Addr} {n_0_0 c_0_0 : Nat} (g_0_0 : RdS M w a_0_0 (eU8.fl q0.code)) (l_0_0 : q0.code.length = n_0_0) (k_0_0 : n_0_0 ≤ c_0_0) (gs : Sep w.heap.size M w [boxO 163 gb_0 [.slice a_0_0 n_0_0 c_0_0, .int .i64 q0.at_, .int .u64 q0.seed]]) {r : List SPoint × Int × Int} (hres : sh172 q0 = some r) : Calls Go.Proofs.Try.prog 172 [ptrAt (some ⟨gb_0, 0, none⟩) 0].toArray w (RetMs w M (T172 gb_0 a_0_0 n_0_0 c_0_0 r)) := by
  subst l_0_0
  unfold sh172 at hres
  refine calls_of (n := 68) (M := M) (es := [boxO 163 gb_0 [.slice a_0_0 q0.code.length c_0_0, .int .i64 q0.at_, .int .u64 q0.seed]]) Go.Proofs.Try.func172 rfl rfl rfl gs ?_
  refine JX.seq ?_
  refine JX.region ?_
  refine JL.val (yl_assign rfl) rfl ?_
  refine JL.nil ?_
  refine JE.code ?_
  refine JX.seq ?_
  refine JX.seq ?_
  refine JX.region ?_
  refine JL.val (yl_move rfl) rfl ?_
  obtain ⟨x1, hx1, hres⟩ := bind_some hres
  refine JL.eff (ef_callms (caps := []) (vs := [ptrAt (some ⟨gb_0, 0, none⟩) 0, .int .i64 2]) (T := T93 gb_0 a_0_0 q0.code.length c_0_0 x1) [0] [] [boxO 163 gb_0 [.slice a_0_0 q0.code.length c_0_0, .int .i64 q0.at_, .int .u64 q0.seed]] [] rfl Go.Proofs.Try.func93 rfl (by kernel_rfl) rfl (by decide) rfl rfl (fun w N hF hS => c93 (q0 := q0) (RdS.pass hF g_0_0) rfl k_0_0 hS hx1)) rfl ?_
  rintro _ _ ⟨_, _, ⟨rfl, rfl, rfl⟩, rfl⟩
  refine JL.nil ?_
  refine JE.code ?_
  rcases cond_some hres with ⟨hb, hres⟩ | ⟨hb, hres⟩
  · refine JX.condT rfl hb ?_
    refine JX.seq ?_
    refine JX.region ?_
    refine JL.val (yl_move rfl) rfl ?_
    obtain ⟨x2, hx2, hres⟩ := bind_some hres
    refine JL.eff (ef_callms (caps := []) (vs := [ptrAt (some ⟨gb_0, 0, none⟩) 0, .int .i64 3]) (T := T183 gb_0 a_0_0 q0.code.length c_0_0 x2) [0] [] [boxO 163 gb_0 [.slice a_0_0 q0.code.length c_0_0, .int .i64 x1.2.1, .int .u64 x1.2.2]] [] rfl Go.Proofs.Try.func183 rfl (by kernel_rfl) rfl (by decide) rfl rfl (fun w N hF hS => c183 (q0 := Sl00Src.mk q0.code x1.2.1 x1.2.2) (RdS.pass hF g_0_0) rfl k_0_0 hS hx2)) rfl ?_
    rintro _ _ ⟨_, _, ⟨rfl, a3, _, cp4, rfl, rfl, rfl⟩, rfl⟩
    refine JL.eff (ef_alloc i26 i26z rfl) rfl ?_
    rintro _ _ ⟨g6, rfl, rfl⟩
    refine JL.eff (ef_store_box (i := 2) (v := .agg #[.int .i64 x2.1.W, .int .i64 x2.1.H, .slice a3 x2.1.Breaks.length cp4]) i26 rfl rfl rfl (i26s).symm (Nat.le_of_ble_eq_true rfl) (by simp [Value.cells, Value.oneCell'])) rfl ?_
    rintro _ _ rfl
    refine JL.nil ?_
    refine JE.weak (env' := [(0, ptrAt (some ⟨gb_0, 0, none⟩) 0), (3, ptrAt (some ⟨g6, 0, none⟩) 0)]) (es' := [boxO 163 gb_0 [.slice a_0_0 q0.code.length c_0_0, .int .i64 x2.2.1, .int .u64 x2.2.2], boxO 26 g6 [.int .i64 x2.1.W, .int .i64 x2.1.H, .slice a3 x2.1.Breaks.length cp4], rowT 2 eI64 a3 x2.1.Breaks.length cp4 x2.1.Breaks]) [0, 2, 1] ?_ ⟨rfl, rfl, trivial⟩ (by decide) rfl
    refine JE.code ?_
    refine JX.seq ?_
    refine JX.region ?_
    obtain ⟨x8, hx8, hres⟩ := bind_some hres
    refine JL.eff (ef_call (T := T147 x8) Go.Proofs.Try.func147 rfl (by kernel_rfl) rfl (fun w hC => c147 (RdAt.of0 (rd_box hC 1 rfl)) (rd_row hC 2 rfl) rfl (ln_row hC 2 rfl) hx8)) rfl ?_
    rintro _ _ ⟨_, ⟨a9, _, cp10, hs12, rfl, hi13, a15, _, cp16, rfl, rfl, rfl⟩, rfl⟩
    refine JL.val (yl_move rfl) rfl ?_
    refine JL.val (yl_extract rfl rfl) rfl ?_
    refine JL.val (yl_extract rfl rfl) rfl ?_
    refine JL.val (yl_assign rfl) rfl ?_
    refine JL.val (yl_assign rfl) rfl ?_
    refine JL.nil ?_
    refine JE.weak (env' := [(0, ptrAt (some ⟨gb_0, 0, none⟩) 0), (3, ptrAt (some ⟨g6, 0, none⟩) 0), (4, .slice a9 x8.1.length cp10)]) (es' := [boxO 163 gb_0 [.slice a_0_0 q0.code.length c_0_0, .int .i64 x2.2.1, .int .u64 x2.2.2], boxO 26 g6 [.int .i64 x2.1.W, .int .i64 x2.1.H, .slice a3 x2.1.Breaks.length cp4], rowT 2 eI64 a3 x2.1.Breaks.length cp4 x2.1.Breaks, rowT 34 eHd a9 x8.1.length cp10 hs12, innO 42 eSPoint none hs12 x8.1]) [0, 1, 2, 3, 4] ?_ ⟨rfl, rfl, rfl, trivial⟩ (by decide) rfl
    refine JE.code ?_
    refine JX.seq ?_
    refine JX.region ?_
    refine JL.val (yl_move rfl) rfl ?_
    refine JL.val (yl_move rfl) rfl ?_
    refine JL.val (yl_len_slice Go.Proofs.Try.underlying29 rfl) rfl ?_
    obtain ⟨x18, hx18, hres⟩ := bind_some hres
    refine JL.eff (ef_callms (caps := []) (vs := [ptrAt (some ⟨gb_0, 0, none⟩) 0, .int .i64 ((x8.1.length : Nat) : Int)]) (T := T92 gb_0 a_0_0 q0.code.length c_0_0 x18) [0] [1, 2, 3, 4] [boxO 163 gb_0 [.slice a_0_0 q0.code.length c_0_0, .int .i64 x2.2.1, .int .u64 x2.2.2]] [boxO 26 g6 [.int .i64 x2.1.W, .int .i64 x2.1.H, .slice a3 x2.1.Breaks.length cp4], rowT 2 eI64 a3 x2.1.Breaks.length cp4 x2.1.Breaks, rowT 34 eHd a9 x8.1.length cp10 hs12, innO 42 eSPoint none hs12 x8.1] rfl Go.Proofs.Try.func92 rfl (by kernel_rfl) rfl (by decide) rfl rfl (fun w N hF hS => c92 (q0 := Sl00Src.mk q0.code x2.2.1 x2.2.2) (RdS.pass hF g_0_0) rfl k_0_0 hS hx18)) rfl ?_
    rintro _ _ ⟨_, _, ⟨rfl, rfl, rfl⟩, rfl⟩
    refine JL.val (yl_assign rfl) rfl ?_
    refine JL.nil ?_
    refine JE.weak (env' := [(0, ptrAt (some ⟨gb_0, 0, none⟩) 0), (3, ptrAt (some ⟨g6, 0, none⟩) 0), (6, .int .i64 x18.1)]) (es' := [boxO 163 gb_0 [.slice a_0_0 q0.code.length c_0_0, .int .i64 x18.2.1, .int .u64 x18.2.2], boxO 26 g6 [.int .i64 x2.1.W, .int .i64 x2.1.H, .slice a3 x2.1.Breaks.length cp4], rowT 2 eI64 a3 x2.1.Breaks.length cp4 x2.1.Breaks]) [4, 0, 1] ?_ ⟨rfl, rfl, rfl, trivial⟩ (by decide) rfl
    refine JE.code ?_
    refine JX.seq ?_
    refine JX.seq ?_
    refine JX.region ?_
    refine JL.val (yl_move rfl) rfl ?_
    obtain ⟨x19, hx19, hres⟩ := bind_some hres
    refine JL.eff (ef_callms (caps := []) (vs := [ptrAt (some ⟨gb_0, 0, none⟩) 0, .int .i64 2]) (T := T93 gb_0 a_0_0 q0.code.length c_0_0 x19) [0] [1, 2] [boxO 163 gb_0 [.slice a_0_0 q0.code.length c_0_0, .int .i64 x18.2.1, .int .u64 x18.2.2]] [boxO 26 g6 [.int .i64 x2.1.W, .int .i64 x2.1.H, .slice a3 x2.1.Breaks.length cp4], rowT 2 eI64 a3 x2.1.Breaks.length cp4 x2.1.Breaks] rfl Go.Proofs.Try.func93 rfl (by kernel_rfl) rfl (by decide) rfl rfl (fun w N hF hS => c93 (q0 := Sl00Src.mk q0.code x18.2.1 x18.2.2) (RdS.pass hF g_0_0) rfl k_0_0 hS hx19)) rfl ?_
    rintro _ _ ⟨_, _, ⟨rfl, rfl, rfl⟩, rfl⟩
    refine JL.nil ?_
    refine JE.code ?_
    rcases cond_some hres with ⟨hb, hres⟩ | ⟨hb, hres⟩
    · refine JX.condT rfl hb ?_
      refine JX.seq ?_
      refine JX.region ?_
      refine JL.val (yl_loadn Go.Proofs.Try.underlying26 rfl i26 rfl (fun w hC => rd_box hC 0 rfl) rfl (i26s).symm i26p) rfl ?_
      refine JL.val (yl_move rfl) rfl ?_
      obtain ⟨x20, hx20, hres⟩ := bind_some hres
      refine JL.eff (ef_call (vs := [.agg #[.int .i64 x2.1.W, .int .i64 x2.1.H, .slice a3 x2.1.Breaks.length cp4], .int .i64 x18.1, .int .i64 10, .int .i64 3]) (T := T12 x20) Go.Proofs.Try.func12 rfl (by kernel_rfl) rfl (fun w hC => c12 (q0 := x2.1) (rd_row hC 1 rfl) rfl (ln_row hC 1 rfl) hx20)) rfl ?_
      rintro _ _ ⟨_, ⟨a21, _, cp22, hs24, rfl, hi25, rfl, rfl⟩, rfl⟩
      refine JL.val (yl_move rfl) rfl ?_
      refine JL.val (yl_extract rfl rfl) rfl ?_
      refine JL.val (yl_extract rfl rfl) rfl ?_
      refine JL.val (yl_assign rfl) rfl ?_
      refine JL.val (yl_assign rfl) rfl ?_
      refine JL.nil ?_
      refine JE.weak (env' := [(0, ptrAt (some ⟨gb_0, 0, none⟩) 0), (7, .slice a21 x20.1.length cp22)]) (es' := [boxO 163 gb_0 [.slice a_0_0 q0.code.length c_0_0, .int .i64 x19.2.1, .int .u64 x19.2.2], rowT 34 eHd a21 x20.1.length cp22 hs24, innO 42 eSPoint none hs24 x20.1]) [2, 3, 4] ?_ ⟨rfl, rfl, trivial⟩ (by decide) rfl
      refine JE.code ?_
      refine JX.seq ?_
      refine JX.region ?_
      refine JL.val (yl_move rfl) rfl ?_
      refine JL.val (yl_move rfl) rfl ?_
      refine JL.val (yl_move rfl) rfl ?_
      refine JL.val (yl_len_slice Go.Proofs.Try.underlying29 rfl) rfl ?_
      obtain ⟨x27, hx27, hres⟩ := bind_some hres
      refine JL.eff (ef_callms (caps := []) (vs := [ptrAt (some ⟨gb_0, 0, none⟩) 0, .int .i64 ((x20.1.length : Nat) : Int)]) (T := T92 gb_0 a_0_0 q0.code.length c_0_0 x27) [0] [1, 2] [boxO 163 gb_0 [.slice a_0_0 q0.code.length c_0_0, .int .i64 x19.2.1, .int .u64 x19.2.2]] [rowT 34 eHd a21 x20.1.length cp22 hs24, innO 42 eSPoint none hs24 x20.1] rfl Go.Proofs.Try.func92 rfl (by kernel_rfl) rfl (by decide) rfl rfl (fun w N hF hS => c92 (q0 := Sl00Src.mk q0.code x19.2.1 x19.2.2) (RdS.pass hF g_0_0) rfl k_0_0 hS hx27)) rfl ?_
      rintro _ _ ⟨_, _, ⟨rfl, rfl, rfl⟩, rfl⟩
      obtain ⟨x28, hx28, hres⟩ := bind_some hres
      obtain ⟨ha29, hc30, hhx28⟩ := Inn.sub hi25 hx28
      refine JL.val (yl_idxT Go.Proofs.Try.underlying29 i34 i34s rfl rfl hhx28 (Inn.len hi25) (fun w hC => rd_row hC 0 rfl)) rfl ?_
      refine JL.val (yl_loadT0 (z := ⟨ha29, x28.length, hc30⟩) Go.Proofs.Try.underlying34 rfl rfl hhx28 (fun w hC => rd_row hC 0 rfl) rfl) rfl ?_
      refine JL.val (yl_assign rfl) rfl ?_
      refine JL.nil ?_
      refine JE.weak (env' := [(2, .slice ha29 x28.length hc30)]) (es' := [boxO 163 gb_0 [.slice a_0_0 q0.code.length c_0_0, .int .i64 x27.2.1, .int .u64 x27.2.2], rowT 34 eHd a21 x20.1.length cp22 hs24, innO 42 eSPoint none hs24 x20.1]) [2, 0, 1] ?_ ⟨rfl, trivial⟩ (by decide) rfl
      refine JE.code ?_
      refine JX.ret ?_
      refine JE.focus (es' := [boxO 163 gb_0 [.slice a_0_0 q0.code.length c_0_0, .int .i64 x27.2.1, .int .u64 x27.2.2], rowT 34 eHd a21 x20.1.length cp22 hs24]) [0, 1, 2] (by decide) rfl hhx28 hx28 ?_
      obtain rfl := Option.some.inj hres
      refine JE.ret (rs := [.tmp 2]) (vs := [.slice ha29 x28.length hc30]) rfl ⟨rfl, trivial⟩ ?_
      exact fun w' hb hs => ⟨_, _, _, ⟨rfl, ha29, x28.length, hc30, rfl, rfl, rfl⟩, rfl, hb, hs.sel [0, 3] _ (by decide) rfl⟩
    · refine JX.condF rfl hb ?_
      refine JX.skip ?_
      refine JE.code ?_
      refine JX.seq ?_
      refine JX.region ?_
      refine JL.val (yl_loadn Go.Proofs.Try.underlying26 rfl i26 rfl (fun w hC => rd_box hC 0 rfl) rfl (i26s).symm i26p) rfl ?_
      refine JL.val (yl_move rfl) rfl ?_
      obtain ⟨x33, hx33, hres⟩ := bind_some hres
      refine JL.eff (ef_call (vs := [.agg #[.int .i64 x2.1.W, .int .i64 x2.1.H, .slice a3 x2.1.Breaks.length cp4], .int .i64 x18.1, .int .i64 4]) (T := T15 x33) Go.Proofs.Try.func15 rfl (by kernel_rfl) rfl (fun w hC => c15 (q0 := x2.1) (rd_row hC 1 rfl) rfl (ln_row hC 1 rfl) hx33)) rfl ?_
      rintro _ _ ⟨_, ⟨a34, _, cp35, rfl, rfl, rfl⟩, rfl⟩
      refine JL.val (yl_move rfl) rfl ?_
      refine JL.val (yl_extract rfl rfl) rfl ?_
      refine JL.val (yl_extract rfl rfl) rfl ?_
      refine JL.val (yl_assign rfl) rfl ?_
      refine JL.val (yl_assign rfl) rfl ?_
      refine JL.nil ?_
      refine JE.weak (env' := [(9, .slice a34 x33.1.length cp35)]) (es' := [boxO 163 gb_0 [.slice a_0_0 q0.code.length c_0_0, .int .i64 x19.2.1, .int .u64 x19.2.2], rowT 42 eSPoint a34 x33.1.length cp35 x33.1]) [2, 3] ?_ ⟨rfl, trivial⟩ (by decide) rfl
      refine JE.code ?_
      refine JX.seq ?_
      refine JX.region ?_
      refine JL.val (yl_move rfl) rfl ?_
      refine JL.val (yl_assign rfl) rfl ?_
      refine JL.nil ?_
      refine JE.code ?_
      refine JX.ret ?_
      obtain rfl := Option.some.inj hres
      refine JE.ret (rs := [.tmp 2]) (vs := [.slice a34 x33.1.length cp35]) rfl ⟨rfl, trivial⟩ ?_
      exact fun w' hb hs => ⟨_, _, _, ⟨rfl, a34, x33.1.length, cp35, rfl, rfl, rfl⟩, rfl, hb, hs.sel [0, 1] _ (by decide) rfl⟩
  · refine JX.condF rfl hb ?_
    refine JX.skip ?_
    refine JE.code ?_
    refine JX.seq ?_
    refine JX.region ?_
    refine JL.eff (ef_buildSlice (E := 42) (k := eSPoint.k) (us := eSPoint.fl ([] : List SPoint)) rfl (fun w => bsl34_0  w) rfl (by decide)) rfl ?_
    rintro _ _ ⟨a37, rfl, rfl⟩
    refine JL.val (yl_assign rfl) rfl ?_
    refine JL.nil ?_
    refine JE.code ?_
    refine JX.seq ?_
    refine JX.seq ?_
    refine JX.region ?_
    refine JL.val (yl_move rfl) rfl ?_
    obtain ⟨x39, hx39, hres⟩ := bind_some hres
    refine JL.eff (ef_callms (caps := []) (vs := [ptrAt (some ⟨gb_0, 0, none⟩) 0, .int .i64 5]) (T := T92 gb_0 a_0_0 q0.code.length c_0_0 x39) [0] [1] [boxO 163 gb_0 [.slice a_0_0 q0.code.length c_0_0, .int .i64 x1.2.1, .int .u64 x1.2.2]] [rowT 42 eSPoint a37 0 0 ([] : List SPoint)] rfl Go.Proofs.Try.func92 rfl (by kernel_rfl) rfl (by decide) rfl rfl (fun w N hF hS => c92 (q0 := Sl00Src.mk q0.code x1.2.1 x1.2.2) (RdS.pass hF g_0_0) rfl k_0_0 hS hx39)) rfl ?_
    rintro _ _ ⟨_, _, ⟨rfl, rfl, rfl⟩, rfl⟩
    refine JL.val (yl_add rfl rfl) rfl ?_
    refine JL.val (yl_assign rfl) rfl ?_
    refine JL.nil ?_
    refine JE.weak (env' := [(0, ptrAt (some ⟨gb_0, 0, none⟩) 0), (11, .slice a37 0 0), (12, .int .i64 (w64 (3 + x39.1)))]) (es' := [boxO 163 gb_0 [.slice a_0_0 q0.code.length c_0_0, .int .i64 x39.2.1, .int .u64 x39.2.2], rowT 42 eSPoint a37 0 0 ([] : List SPoint)]) [1, 0] ?_ ⟨rfl, rfl, rfl, trivial⟩ (by decide) rfl
    refine JE.code ?_
    refine JX.block ?_
    obtain ⟨y1, hy1, hresO1⟩ := bind_some hres
    refine JX.loop (I := fun (s1 : Int × (Int × Int) × List SPoint) aa ww => ∃ (a40 : Option Addr) (cp41 : Nat), St w M 68 [(0, ptrAt (some ⟨gb_0, 0, none⟩) 0), (11, .slice a40 s1.2.2.length cp41), (12, .int .i64 s1.1)] [boxO 163 gb_0 [.slice a_0_0 q0.code.length c_0_0, .int .i64 s1.2.1.1, .int .u64 s1.2.1.2], rowT 42 eSPoint a40 s1.2.2.length cp41 s1.2.2] aa ww) (sh172_1 q0) hy1 (fun a w h => ⟨a37, 0, h.weak ⟨rfl, rfl, rfl, trivial⟩ [0, 1] (by decide) rfl⟩) ?_
    rintro ⟨x42, x43, x44⟩ o1 hres hox1 aa ww ⟨a45, cp46, hS⟩
    refine (?_ : JX Go.Proofs.Try.prog w M 68 _ _ [(0, ptrAt (some ⟨gb_0, 0, none⟩) 0), (11, .slice a45 x44.length cp46), (12, .int .i64 x42)] [boxO 163 gb_0 [.slice a_0_0 q0.code.length c_0_0, .int .i64 x43.1, .int .u64 x43.2], rowT 42 eSPoint a45 x44.length cp46 x44] _) aa ww hS
    clear hS
    simp only [sh172_1] at hres
    refine JX.seq ?_
    refine JX.seq ?_
    refine JX.region ?_
    refine JL.val (yl_move rfl) rfl ?_
    refine JL.val (yl_gtr rfl rfl) rfl ?_
    refine JL.nil ?_
    refine JE.code ?_
    rcases cond_some hres with ⟨hb, hres⟩ | ⟨hb, hres⟩
    · refine JX.condT rfl hb ?_
      refine JX.skip ?_
      refine JE.code ?_
      refine JX.seq ?_
      refine JX.block ?_
      refine JX.seq ?_
      refine JX.region ?_
      refine JL.val (yl_move rfl) rfl ?_
      obtain ⟨x47, hx47, hres⟩ := bind_some hres
      refine JL.eff (ef_callms (caps := []) (vs := [ptrAt (some ⟨gb_0, 0, none⟩) 0, .int .i64 21]) (T := T92 gb_0 a_0_0 q0.code.length c_0_0 x47) [0] [1] [boxO 163 gb_0 [.slice a_0_0 q0.code.length c_0_0, .int .i64 x43.1, .int .u64 x43.2]] [rowT 42 eSPoint a45 x44.length cp46 x44] rfl Go.Proofs.Try.func92 rfl (by kernel_rfl) rfl (by decide) rfl rfl (fun w N hF hS => c92 (q0 := Sl00Src.mk q0.code x43.1 x43.2) (RdS.pass hF g_0_0) rfl k_0_0 hS hx47)) rfl ?_
      rintro _ _ ⟨_, _, ⟨rfl, rfl, rfl⟩, rfl⟩
      refine JL.val (yl_sub rfl rfl) rfl ?_
      refine JL.val (yl_assign rfl) rfl ?_
      refine JL.nil ?_
      refine JE.weak (env' := [(0, ptrAt (some ⟨gb_0, 0, none⟩) 0), (11, .slice a45 x44.length cp46), (12, .int .i64 x42), (13, .int .i64 (w64 (x47.1 - 10)))]) (es' := [boxO 163 gb_0 [.slice a_0_0 q0.code.length c_0_0, .int .i64 x47.2.1, .int .u64 x47.2.2], rowT 42 eSPoint a45 x44.length cp46 x44]) [1, 0] ?_ ⟨rfl, rfl, rfl, rfl, trivial⟩ (by decide) rfl
      refine JE.code ?_
      refine JX.region ?_
      refine JL.val (yl_move rfl) rfl ?_
      refine JL.val (yl_move rfl) rfl ?_
      refine JL.val (yl_move rfl) rfl ?_
      obtain ⟨x48, hx48, hres⟩ := bind_some hres
      refine JL.eff (ef_callms (caps := []) (vs := [ptrAt (some ⟨gb_0, 0, none⟩) 0, .int .i64 21]) (T := T92 gb_0 a_0_0 q0.code.length c_0_0 x48) [0] [1] [boxO 163 gb_0 [.slice a_0_0 q0.code.length c_0_0, .int .i64 x47.2.1, .int .u64 x47.2.2]] [rowT 42 eSPoint a45 x44.length cp46 x44] rfl Go.Proofs.Try.func92 rfl (by kernel_rfl) rfl (by decide) rfl rfl (fun w N hF hS => c92 (q0 := Sl00Src.mk q0.code x47.2.1 x47.2.2) (RdS.pass hF g_0_0) rfl k_0_0 hS hx48)) rfl ?_
      rintro _ _ ⟨_, _, ⟨rfl, rfl, rfl⟩, rfl⟩
      refine JL.val (yl_sub rfl rfl) rfl ?_
      refine JL.val (yl_build rfl (fun w => bld42_0_1 (w64 (x47.1 - 10)) (w64 (x48.1 - 10)) w)) rfl ?_
      refine JL.eff (ef_buildSlice (E := 42) (k := eSPoint.k) (us := eSPoint.fl [SPoint.mk (w64 (x47.1 - 10)) (w64 (x48.1 - 10))]) rfl (fun w => bsl34_1 (w64 (x47.1 - 10)) (w64 (x48.1 - 10)) w) rfl (by decide)) rfl ?_
      rintro _ _ ⟨a49, rfl, rfl⟩
      obtain ⟨x51, hx51, hres⟩ := bind_some hres
      refine JL.eff (ef_appendT (ix := 0) Go.Proofs.Try.underlying34 i42 i42z i42s rfl i42b0 i42b1 rfl rfl rfl rfl rfl (fun w hC => rd_row hC 2 rfl) hx51) rfl ?_
      rintro _ _ ⟨a52, cp53, rfl, rfl⟩
      refine JL.val (yl_assign rfl) rfl ?_
      refine JL.nil ?_
      refine JE.weak (env' := [(0, ptrAt (some ⟨gb_0, 0, none⟩) 0), (11, .slice a52 x51.length cp53), (12, .int .i64 x42)]) (es' := [boxO 163 gb_0 [.slice a_0_0 q0.code.length c_0_0, .int .i64 x48.2.1, .int .u64 x48.2.2], rowT 42 eSPoint a52 x51.length cp53 x51]) [1, 0] ?_ ⟨rfl, rfl, rfl, trivial⟩ (by decide) rfl
      refine JE.code ?_
      refine JX.region ?_
      refine JL.val (yl_move rfl) rfl ?_
      refine JL.val (yl_sub rfl rfl) rfl ?_
      refine JL.val (yl_assign rfl) rfl ?_
      refine JL.nil ?_
      refine JE.cont hres ?_
      exact fun a w h => ⟨a52, cp53, h.weak ⟨rfl, rfl, rfl, trivial⟩ [0, 1] (by decide) rfl⟩
    · refine JX.condF rfl hb ?_
      refine JX.exit ?_
      refine JE.qb rfl ?_
      obtain ⟨b1, hb1⟩ : ∃ b : (Int × Int) × List SPoint, b = ((x43.1, x43.2), x44) := ⟨_, rfl⟩
      have hy1 : b1 = y1 := by rw [hb1]; exact hox1 _ (Option.some.inj hres).symm
      have hres := hresO1
      rw [← hy1] at hres
      refine JE.weak (env' := [(11, .slice a45 b1.2.length cp46)]) (es' := [boxO 163 gb_0 [.slice a_0_0 q0.code.length c_0_0, .int .i64 b1.1.1, .int .u64 b1.1.2], rowT 42 eSPoint a45 b1.2.length cp46 b1.2]) [0, 1] ?_ ⟨(by subst hb1; rfl), trivial⟩ (by decide) (by subst hb1; rfl)
      refine JE.code ?_
      refine JX.seq ?_
      refine JX.region ?_
      refine JL.val (yl_move rfl) rfl ?_
      refine JL.val (yl_assign rfl) rfl ?_
      refine JL.nil ?_
      refine JE.code ?_
      refine JX.ret ?_
      obtain rfl := Option.some.inj hres
      refine JE.ret (rs := [.tmp 2]) (vs := [.slice a45 b1.2.length cp46]) rfl ⟨rfl, trivial⟩ ?_
      exact fun w' hb hs => ⟨_, _, _, ⟨rfl, a45, b1.2.length, cp46, rfl, rfl, rfl⟩, rfl, hb, hs.sel [0, 1] _ (by decide) rfl⟩

/- spec.l20Bent -/
def sh108 (q0 : Sl00Src) : Option (List SPoint × Int × Int) := Option.bind (sh172 q0) fun x1 => Option.bind (sh92 (Sl00Src.mk q0.code x1.2.1 x1.2.2) 20) fun x5 => bif x5.1 == 0 then (Option.bind (sh94 (Sl00Src.mk q0.code x5.2.1 x5.2.2) [(-100001), (-100000), 100000, 100001, (-9223372036854775808)]) fun x8 => Option.bind (getI x1.1 (0 : Int)) fun x9 => some (x1.1.set ((0 : Int)).toNat (SPoint.mk x8.1 x9.Y), x8.2.1, x8.2.2)) else (bif x5.1 == 1 then (Option.bind (takeL x1.1 (2 : Int)) fun x10 => some (x10, x5.2.1, x5.2.2)) else (bif x5.1 == 2 then (Option.bind (sh92 (Sl00Src.mk q0.code x5.2.1 x5.2.2) 2) fun x11 => Option.bind (mkL (w64 (300 + x11.1)) (SPoint.mk 0 0)) fun x12 => some (x12, x11.2.1, x11.2.2)) else (some (x1.1, x5.2.1, x5.2.2))))
def T108 (gb_0 : Nat) (a_0_0 : Option Addr) (n_0_0 c_0_0 : Nat) (r : List SPoint × Int × Int) (v : Value) (es' rs : List Own) : Prop := es' = [boxO 163 gb_0 [.slice a_0_0 n_0_0 c_0_0, .int .i64 r.2.1, .int .u64 r.2.2]] ∧ ∃ (a0 : Option Addr) (n0 c0 : Nat), r.1.length = n0 ∧ v = rets [.slice a0 n0 c0] ∧ rs = [rowT 42 eSPoint a0 n0 c0 r.1]
set_option maxRecDepth 100000 in
theorem c108 {w : World} {M : List Nat} {q0 : Sl00Src} {gb_0 : Nat} {a_0_0 : Option Addr} {n_0_0 c_0_0 : Nat} (g_0_0 : RdS M w a_0_0 (eU8.fl q0.code)) (l_0_0 : q0.code.length = n_0_0) (k_0_0 : n_0_0 ≤ c_0_0) (gs : Sep w.heap.size M w [boxO 163 gb_0 [.slice a_0_0 n_0_0 c_0_0, .int .i64 q0.at_, .int .u64 q0.seed]]) {r : List SPoint × Int × Int} (hres : sh108 q0 = some r) : Calls Go.Proofs.Try.prog 108 [ptrAt (some ⟨gb_0, 0, none⟩) 0].toArray w (RetMs w M (T108 gb_0 a_0_0 n_0_0 c_0_0 r)) := by
  subst l_0_0
  unfold sh108 at hres
  refine calls_of (n := 27) (M := M) (es := [boxO 163 gb_0 [.slice a_0_0 q0.code.length c_0_0, .int .i64 q0.at_, .int .u64 q0.seed]]) Go.Proofs.Try.func108 rfl rfl rfl gs ?_
  refine JX.seq ?_
  refine JX.region ?_
  refine JL.val (yl_assign rfl) rfl ?_
  refine JL.nil ?_
  refine JE.code ?_
  refine JX.seq ?_
  refine JX.region ?_
  refine JL.val (yl_move rfl) rfl ?_
  obtain ⟨x1, hx1, hres⟩ := bind_some hres
  refine JL.eff (ef_callms (caps := []) (vs := [ptrAt (some ⟨gb_0, 0, none⟩) 0]) (T := T172 gb_0 a_0_0 q0.code.length c_0_0 x1) [0] [] [boxO 163 gb_0 [.slice a_0_0 q0.code.length c_0_0, .int .i64 q0.at_, .int .u64 q0.seed]] [] rfl Go.Proofs.Try.func172 rfl (by kernel_rfl) rfl (by decide) rfl rfl (fun w N hF hS => c172 (q0 := q0) (RdS.pass hF g_0_0) rfl k_0_0 hS hx1)) rfl ?_
  rintro _ _ ⟨_, _, ⟨rfl, a2, _, cp3, rfl, rfl, rfl⟩, rfl⟩
  refine JL.val (yl_assign rfl) rfl ?_
  refine JL.nil ?_
  refine JE.code ?_
  refine JX.seq ?_
  refine JX.seq ?_
  refine JX.region ?_
  refine JL.val (yl_move rfl) rfl ?_
  obtain ⟨x5, hx5, hres⟩ := bind_some hres
  refine JL.eff (ef_callms (caps := []) (vs := [ptrAt (some ⟨gb_0, 0, none⟩) 0, .int .i64 20]) (T := T92 gb_0 a_0_0 q0.code.length c_0_0 x5) [0] [1] [boxO 163 gb_0 [.slice a_0_0 q0.code.length c_0_0, .int .i64 x1.2.1, .int .u64 x1.2.2]] [rowT 42 eSPoint a2 x1.1.length cp3 x1.1] rfl Go.Proofs.Try.func92 rfl (by kernel_rfl) rfl (by decide) rfl rfl (fun w N hF hS => c92 (q0 := Sl00Src.mk q0.code x1.2.1 x1.2.2) (RdS.pass hF g_0_0) rfl k_0_0 hS hx5)) rfl ?_
  rintro _ _ ⟨_, _, ⟨rfl, rfl, rfl⟩, rfl⟩
  refine JL.nil ?_
  refine JE.code ?_
  refine JX.block ?_
  refine JX.seq ?_
  refine JX.region ?_
  refine JL.val (yl_eql rfl rfl) rfl ?_
  refine JL.val (yl_assign rfl) rfl ?_
  refine JL.nil ?_
  refine JE.code ?_
  rcases cond_some hres with ⟨hb, hres⟩ | ⟨hb, hres⟩
  · refine JX.condT rfl hb ?_
    refine JX.region ?_
    refine JL.val (yl_move rfl) rfl ?_
    refine JL.val (yl_move rfl) rfl ?_
    refine JL.eff (ef_buildSlice (E := 2) (k := eI64.k) (us := eI64.fl [(-100001), (-100000), 100000, 100001, (-9223372036854775808)]) rfl (fun w => bsl24_5 (-100001) (-100000) 100000 100001 (-9223372036854775808) w) rfl (by decide)) rfl ?_
    rintro _ _ ⟨a6, rfl, rfl⟩
    obtain ⟨x8, hx8, hres⟩ := bind_some hres
    refine JL.eff (ef_callms (caps := []) (vs := [ptrAt (some ⟨gb_0, 0, none⟩) 0, .slice a6 5 5]) (T := T94 gb_0 a_0_0 q0.code.length c_0_0 x8) [1] [0, 2] [boxO 163 gb_0 [.slice a_0_0 q0.code.length c_0_0, .int .i64 x5.2.1, .int .u64 x5.2.2]] [rowT 42 eSPoint a2 x1.1.length cp3 x1.1, rowT 2 eI64 a6 5 5 [(-100001), (-100000), 100000, 100001, (-9223372036854775808)]] rfl Go.Proofs.Try.func94 rfl (by kernel_rfl) rfl (by decide) rfl rfl (fun w N hF hS => c94 (q0 := Sl00Src.mk q0.code x5.2.1 x5.2.2) (RdS.pass hF g_0_0) rfl k_0_0 (RdS.row hF 2 rfl rfl) rfl (ln_row hF.cl 2 rfl) hS hx8)) rfl ?_
    rintro _ _ ⟨_, _, ⟨rfl, rfl, rfl⟩, rfl⟩
    obtain ⟨x9, hx9, hres⟩ := bind_some hres
    refine JL.val (yl_idxT Go.Proofs.Try.underlying34 i42 i42s rfl rfl hx9 rfl (fun w hC => rd_row hC 0 rfl)) rfl ?_
    refine JL.val (yl_fieldAtT Go.Proofs.Try.underlying42 rfl i2 i2n rfl hx9 (fun w hC => rd_row hC 0 rfl)) rfl ?_
    refine JL.eff (ef_storeF (ix := 0) (u := SPoint.mk x8.1 x9.Y) i2 i2s rfl rfl rfl hx9 (by decide) rfl rfl rfl) rfl ?_
    rintro _ _ rfl
    refine JL.nil ?_
    refine JE.weak (env' := [(3, .slice a2 x1.1.length cp3)]) (es' := [boxO 163 gb_0 [.slice a_0_0 q0.code.length c_0_0, .int .i64 x8.2.1, .int .u64 x8.2.2], rowT 42 eSPoint a2 x1.1.length cp3 (x1.1.set ((0 : Int)).toNat (SPoint.mk x8.1 x9.Y))]) [2, 0] ?_ ⟨rfl, trivial⟩ (by decide) rfl
    refine JE.code ?_
    refine JX.seq ?_
    refine JX.region ?_
    refine JL.val (yl_move rfl) rfl ?_
    refine JL.val (yl_assign rfl) rfl ?_
    refine JL.nil ?_
    refine JE.code ?_
    refine JX.ret ?_
    obtain rfl := Option.some.inj hres
    refine JE.ret (rs := [.tmp 2]) (vs := [.slice a2 x1.1.length cp3]) rfl ⟨rfl, trivial⟩ ?_
    exact fun w' hb hs => ⟨_, _, _, ⟨rfl, a2, x1.1.length, cp3, List.length_set, rfl, rfl⟩, rfl, hb, hs.sel [0, 1] _ (by decide) rfl⟩
  · refine JX.condF rfl hb ?_
    refine JX.seq ?_
    refine JX.region ?_
    refine JL.val (yl_eql rfl rfl) rfl ?_
    refine JL.val (yl_assign rfl) rfl ?_
    refine JL.nil ?_
    refine JE.code ?_
    rcases cond_some hres with ⟨hb, hres⟩ | ⟨hb, hres⟩
    · refine JX.condT rfl hb ?_
      refine JX.seq ?_
      refine JX.region ?_
      refine JL.val (yl_move rfl) rfl ?_
      obtain ⟨x10, hx10, hres⟩ := bind_some hres
      refine JL.val (yl_takeT Go.Proofs.Try.underlying34 i42 rfl rfl hx10 rfl (fun w hC => ln_row hC 0 rfl)) rfl ?_
      refine JL.takeT 0 hx10 rfl ?_
      refine JL.val (yl_assign rfl) rfl ?_
      refine JL.nil ?_
      refine JE.code ?_
      refine JX.ret ?_
      refine JE.qbr ?_
      obtain rfl := Option.some.inj hres
      refine JE.ret (rs := [.tmp 2]) (vs := [.slice a2 x10.length cp3]) rfl ⟨rfl, trivial⟩ ?_
      exact fun w' hb hs => ⟨_, _, _, ⟨rfl, a2, x10.length, cp3, rfl, rfl, rfl⟩, rfl, hb, hs.sel [1, 0] _ (by decide) rfl⟩
    · refine JX.condF rfl hb ?_
      refine JX.seq ?_
      refine JX.region ?_
      refine JL.val (yl_eql rfl rfl) rfl ?_
      refine JL.val (yl_assign rfl) rfl ?_
      refine JL.nil ?_
      refine JE.code ?_
      rcases cond_some hres with ⟨hb, hres⟩ | ⟨hb, hres⟩
      · refine JX.condT rfl hb ?_
        refine JX.seq ?_
        refine JX.region ?_
        refine JL.val (yl_move rfl) rfl ?_
        obtain ⟨x11, hx11, hres⟩ := bind_some hres
        refine JL.eff (ef_callms (caps := []) (vs := [ptrAt (some ⟨gb_0, 0, none⟩) 0, .int .i64 2]) (T := T92 gb_0 a_0_0 q0.code.length c_0_0 x11) [1] [0] [boxO 163 gb_0 [.slice a_0_0 q0.code.length c_0_0, .int .i64 x5.2.1, .int .u64 x5.2.2]] [rowT 42 eSPoint a2 x1.1.length cp3 x1.1] rfl Go.Proofs.Try.func92 rfl (by kernel_rfl) rfl (by decide) rfl rfl (fun w N hF hS => c92 (q0 := Sl00Src.mk q0.code x5.2.1 x5.2.2) (RdS.pass hF g_0_0) rfl k_0_0 hS hx11)) rfl ?_
        rintro _ _ ⟨_, _, ⟨rfl, rfl, rfl⟩, rfl⟩
        refine JL.val (yl_add rfl rfl) rfl ?_
        obtain ⟨x12, hx12, hres⟩ := bind_some hres
        refine JL.eff (ef_makeS (e := eSPoint) Go.Proofs.Try.underlying34 i42 i42s i42z rfl i42b1 rfl rfl hx12) rfl ?_
        rintro _ _ ⟨a13, rfl, rfl⟩
        refine JL.val (yl_assign rfl) rfl ?_
        refine JL.nil ?_
        refine JE.weak (env' := [(2, .slice a13 x12.length x12.length)]) (es' := [boxO 163 gb_0 [.slice a_0_0 q0.code.length c_0_0, .int .i64 x11.2.1, .int .u64 x11.2.2], rowT 42 eSPoint a13 x12.length x12.length x12]) [1, 2] ?_ ⟨rfl, trivial⟩ (by decide) rfl
        refine JE.code ?_
        refine JX.ret ?_
        refine JE.qbr ?_
        obtain rfl := Option.some.inj hres
        refine JE.ret (rs := [.tmp 2]) (vs := [.slice a13 x12.length x12.length]) rfl ⟨rfl, trivial⟩ ?_
        exact fun w' hb hs => ⟨_, _, _, ⟨rfl, a13, x12.length, x12.length, rfl, rfl, rfl⟩, rfl, hb, hs.sel [0, 1] _ (by decide) rfl⟩
      · refine JX.condF rfl hb ?_
        refine JX.skip ?_
        refine JE.code ?_
        refine JX.seq ?_
        refine JX.region ?_
        refine JL.val (yl_move rfl) rfl ?_
        refine JL.val (yl_assign rfl) rfl ?_
        refine JL.nil ?_
        refine JE.code ?_
        refine JX.ret ?_
        obtain rfl := Option.some.inj hres
        refine JE.ret (rs := [.tmp 2]) (vs := [.slice a2 x1.1.length cp3]) rfl ⟨rfl, trivial⟩ ?_
        exact fun w' hb hs => ⟨_, _, _, ⟨rfl, a2, x1.1.length, cp3, rfl, rfl, rfl⟩, rfl, hb, hs.sel [1, 0] _ (by decide) rfl⟩

/- spec.l20Place -/
def sh109 (q0 : Sl00Src) : Option (SPoint × Int × Int) := Option.bind (sh93 q0 12) fun x3 => bif x3.1 then (Option.bind (sh94 (Sl00Src.mk q0.code x3.2.1 x3.2.2) [(-100001), (-100000), 100000, 100001]) fun x6 => some (SPoint.mk x6.1 0, x6.2.1, x6.2.2)) else (Option.bind (sh92 (Sl00Src.mk q0.code x3.2.1 x3.2.2) 25) fun x7 => Option.bind (sh92 (Sl00Src.mk q0.code x7.2.1 x7.2.2) 25) fun x8 => some (SPoint.mk (w64 (x7.1 - 12)) (w64 (x8.1 - 12)), x8.2.1, x8.2.2))
def T109 (gb_0 : Nat) (a_0_0 : Option Addr) (n_0_0 c_0_0 : Nat) (r : SPoint × Int × Int) (v : Value) (es' rs : List Own) : Prop := es' = [boxO 163 gb_0 [.slice a_0_0 n_0_0 c_0_0, .int .i64 r.2.1, .int .u64 r.2.2]] ∧ v = rets [.agg #[.int .i64 r.1.X, .int .i64 r.1.Y]] ∧ rs = []
set_option maxRecDepth 100000 in
theorem c109 {w : World} {M : List Nat} {q0 : Sl00Src} {gb_0 : Nat} {a_0_0 : Option Addr} {n_0_0 c_0_0 : Nat} (g_0_0 : RdS M w a_0_0 (eU8.fl q0.code)) (l_0_0 : q0.code.length = n_0_0) (k_0_0 : n_0_0 ≤ c_0_0) (gs : Sep w.heap.size M w [boxO 163 gb_0 [.slice a_0_0 n_0_0 c_0_0, .int .i64 q0.at_, .int .u64 q0.seed]]) {r : SPoint × Int × Int} (hres : sh109 q0 = some r) : Calls Go.Proofs.Try.prog 109 [ptrAt (some ⟨gb_0, 0, none⟩) 0].toArray w (RetMs w M (T109 gb_0 a_0_0 n_0_0 c_0_0 r)) := by
  subst l_0_0
  unfold sh109 at hres
  refine calls_of (n := 18) (M := M) (es := [boxO 163 gb_0 [.slice a_0_0 q0.code.length c_0_0, .int .i64 q0.at_, .int .u64 q0.seed]]) Go.Proofs.Try.func109 rfl rfl rfl gs ?_
  refine JX.seq ?_
  refine JX.region ?_
  refine JL.eff (ef_alloc i42 i42z rfl) rfl ?_
  rintro _ _ ⟨g1, rfl, rfl⟩
  refine JL.nil ?_
  refine JE.code ?_
  refine JX.seq ?_
  refine JX.seq ?_
  refine JX.region ?_
  refine JL.val (yl_move rfl) rfl ?_
  obtain ⟨x3, hx3, hres⟩ := bind_some hres
  refine JL.eff (ef_callms (caps := []) (vs := [ptrAt (some ⟨gb_0, 0, none⟩) 0, .int .i64 12]) (T := T93 gb_0 a_0_0 q0.code.length c_0_0 x3) [0] [1] [boxO 163 gb_0 [.slice a_0_0 q0.code.length c_0_0, .int .i64 q0.at_, .int .u64 q0.seed]] [boxO 42 g1 [.int .i64 0, .int .i64 0]] rfl Go.Proofs.Try.func93 rfl (by kernel_rfl) rfl (by decide) rfl rfl (fun w N hF hS => c93 (q0 := q0) (RdS.pass hF g_0_0) rfl k_0_0 hS hx3)) rfl ?_
  rintro _ _ ⟨_, _, ⟨rfl, rfl, rfl⟩, rfl⟩
  refine JL.nil ?_
  refine JE.code ?_
  rcases cond_some hres with ⟨hb, hres⟩ | ⟨hb, hres⟩
  · refine JX.condT rfl hb ?_
    refine JX.seq ?_
    refine JX.region ?_
    refine JL.val (yl_move rfl) rfl ?_
    refine JL.eff (ef_buildSlice (E := 2) (k := eI64.k) (us := eI64.fl [(-100001), (-100000), 100000, 100001]) rfl (fun w => bsl24_4 (-100001) (-100000) 100000 100001 w) rfl (by decide)) rfl ?_
    rintro _ _ ⟨a4, rfl, rfl⟩
    obtain ⟨x6, hx6, hres⟩ := bind_some hres
    refine JL.eff (ef_callms (caps := []) (vs := [ptrAt (some ⟨gb_0, 0, none⟩) 0, .slice a4 4 4]) (T := T94 gb_0 a_0_0 q0.code.length c_0_0 x6) [1] [0, 2] [boxO 163 gb_0 [.slice a_0_0 q0.code.length c_0_0, .int .i64 x3.2.1, .int .u64 x3.2.2]] [boxO 42 g1 [.int .i64 0, .int .i64 0], rowT 2 eI64 a4 4 4 [(-100001), (-100000), 100000, 100001]] rfl Go.Proofs.Try.func94 rfl (by kernel_rfl) rfl (by decide) rfl rfl (fun w N hF hS => c94 (q0 := Sl00Src.mk q0.code x3.2.1 x3.2.2) (RdS.pass hF g_0_0) rfl k_0_0 (RdS.row hF 2 rfl rfl) rfl (ln_row hF.cl 2 rfl) hS hx6)) rfl ?_
    rintro _ _ ⟨_, _, ⟨rfl, rfl, rfl⟩, rfl⟩
    refine JL.val (yl_build rfl (fun w => bld42_0 x6.1 w)) rfl ?_
    refine JL.eff (ef_store_box (i := 0) (v := .agg #[.int .i64 x6.1, .int .i64 0]) i42 rfl rfl rfl (i42s).symm (Nat.le_of_ble_eq_true rfl) (by simp [Value.cells, Value.oneCell'])) rfl ?_
    rintro _ _ rfl
    refine JL.nil ?_
    refine JE.weak (env' := [(2, ptrAt (some ⟨g1, 0, none⟩) 0)]) (es' := [boxO 163 gb_0 [.slice a_0_0 q0.code.length c_0_0, .int .i64 x6.2.1, .int .u64 x6.2.2], boxO 42 g1 [.int .i64 x6.1, .int .i64 0]]) [2, 0] ?_ ⟨rfl, trivial⟩ (by decide) rfl
    refine JE.code ?_
    refine JX.ret ?_
    obtain rfl := Option.some.inj hres
    refine JE.ret (rs := [.cell 2 42]) (vs := [.agg #[.int .i64 x6.1, .int .i64 0]]) rfl ⟨rv_box 1 rfl rfl Go.Proofs.Try.underlying42 rfl i42 (i42s).symm, trivial⟩ ?_
    exact fun w' hb hs => ⟨_, _, _, ⟨rfl, rfl, rfl⟩, rfl, hb, hs.sel [0] _ (by decide) rfl⟩
  · refine JX.condF rfl hb ?_
    refine JX.skip ?_
    refine JE.code ?_
    refine JX.seq ?_
    refine JX.region ?_
    refine JL.val (yl_move rfl) rfl ?_
    obtain ⟨x7, hx7, hres⟩ := bind_some hres
    refine JL.eff (ef_callms (caps := []) (vs := [ptrAt (some ⟨gb_0, 0, none⟩) 0, .int .i64 25]) (T := T92 gb_0 a_0_0 q0.code.length c_0_0 x7) [1] [0] [boxO 163 gb_0 [.slice a_0_0 q0.code.length c_0_0, .int .i64 x3.2.1, .int .u64 x3.2.2]] [boxO 42 g1 [.int .i64 0, .int .i64 0]] rfl Go.Proofs.Try.func92 rfl (by kernel_rfl) rfl (by decide) rfl rfl (fun w N hF hS => c92 (q0 := Sl00Src.mk q0.code x3.2.1 x3.2.2) (RdS.pass hF g_0_0) rfl k_0_0 hS hx7)) rfl ?_
    rintro _ _ ⟨_, _, ⟨rfl, rfl, rfl⟩, rfl⟩
    refine JL.val (yl_sub rfl rfl) rfl ?_
    refine JL.val (yl_assign rfl) rfl ?_
    refine JL.nil ?_
    refine JE.weak (env' := [(0, ptrAt (some ⟨gb_0, 0, none⟩) 0), (2, ptrAt (some ⟨g1, 0, none⟩) 0), (3, .int .i64 (w64 (x7.1 - 12)))]) (es' := [boxO 163 gb_0 [.slice a_0_0 q0.code.length c_0_0, .int .i64 x7.2.1, .int .u64 x7.2.2], boxO 42 g1 [.int .i64 0, .int .i64 0]]) [1, 0] ?_ ⟨rfl, rfl, rfl, trivial⟩ (by decide) rfl
    refine JE.code ?_
    refine JX.seq ?_
    refine JX.region ?_
    refine JL.val (yl_move rfl) rfl ?_
    refine JL.val (yl_move rfl) rfl ?_
    obtain ⟨x8, hx8, hres⟩ := bind_some hres
    refine JL.eff (ef_callms (caps := []) (vs := [ptrAt (some ⟨gb_0, 0, none⟩) 0, .int .i64 25]) (T := T92 gb_0 a_0_0 q0.code.length c_0_0 x8) [0] [1] [boxO 163 gb_0 [.slice a_0_0 q0.code.length c_0_0, .int .i64 x7.2.1, .int .u64 x7.2.2]] [boxO 42 g1 [.int .i64 0, .int .i64 0]] rfl Go.Proofs.Try.func92 rfl (by kernel_rfl) rfl (by decide) rfl rfl (fun w N hF hS => c92 (q0 := Sl00Src.mk q0.code x7.2.1 x7.2.2) (RdS.pass hF g_0_0) rfl k_0_0 hS hx8)) rfl ?_
    rintro _ _ ⟨_, _, ⟨rfl, rfl, rfl⟩, rfl⟩
    refine JL.val (yl_sub rfl rfl) rfl ?_
    refine JL.val (yl_build rfl (fun w => bld42_0_1 (w64 (x7.1 - 12)) (w64 (x8.1 - 12)) w)) rfl ?_
    refine JL.eff (ef_store_box (i := 0) (v := .agg #[.int .i64 (w64 (x7.1 - 12)), .int .i64 (w64 (x8.1 - 12))]) i42 rfl rfl rfl (i42s).symm (Nat.le_of_ble_eq_true rfl) (by simp [Value.cells, Value.oneCell'])) rfl ?_
    rintro _ _ rfl
    refine JL.nil ?_
    refine JE.weak (env' := [(2, ptrAt (some ⟨g1, 0, none⟩) 0)]) (es' := [boxO 163 gb_0 [.slice a_0_0 q0.code.length c_0_0, .int .i64 x8.2.1, .int .u64 x8.2.2], boxO 42 g1 [.int .i64 (w64 (x7.1 - 12)), .int .i64 (w64 (x8.1 - 12))]]) [1, 0] ?_ ⟨rfl, trivial⟩ (by decide) rfl
    refine JE.code ?_
    refine JX.ret ?_
    obtain rfl := Option.some.inj hres
    refine JE.ret (rs := [.cell 2 42]) (vs := [.agg #[.int .i64 (w64 (x7.1 - 12)), .int .i64 (w64 (x8.1 - 12))]]) rfl ⟨rv_box 1 rfl rfl Go.Proofs.Try.underlying42 rfl i42 (i42s).symm, trivial⟩ ?_
    exact fun w' hb hs => ⟨_, _, _, ⟨rfl, rfl, rfl⟩, rfl, hb, hs.sel [0] _ (by decide) rfl⟩

/- spec.DrawMovePolygon -/
def sh21 (q0 : List Int) : Option (List SPoint × SPoint) := Option.bind (sh90 q0) fun x3 => Option.bind (sh108 (Sl00Src.mk q0 x3.at_ x3.seed)) fun x6 => Option.bind (sh109 (Sl00Src.mk q0 x6.2.1 x6.2.2)) fun x10 => some (x6.1, x10.1)
def T21 (r : List SPoint × SPoint) (v : Value) (rs : List Own) : Prop := ∃ (a0 : Option Addr) (n0 c0 : Nat), r.1.length = n0 ∧ v = rets [.slice a0 n0 c0, .agg #[.int .i64 r.2.X, .int .i64 r.2.Y]] ∧ rs = [rowT 42 eSPoint a0 n0 c0 r.1]
set_option maxRecDepth 100000 in
theorem c21 {w : World} {q0 : List Int} {a_0 : Option Addr} {n_0 c_0 : Nat} (g_0 : Rd w a_0 (eU8.fl q0)) (l_0 : q0.length = n_0) (k_0 : n_0 ≤ c_0) {r : List SPoint × SPoint} (hres : sh21 q0 = some r) : Calls Go.Proofs.Try.prog 21 [.slice a_0 n_0 c_0].toArray w (Ret w (T21 r)) := by
  subst l_0
  unfold sh21 at hres
  refine calls_of (n := 13) (M := []) (es := []) Go.Proofs.Try.func21 rfl rfl rfl (Sep.nil _ _ _) ?_
  refine JX.seq ?_
  refine JX.region ?_
  refine JL.val (yl_assign rfl) rfl ?_
  refine JL.eff (ef_alloc i42 i42z rfl) rfl ?_
  rintro _ _ ⟨g1, rfl, rfl⟩
  refine JL.nil ?_
  refine JE.code ?_
  refine JX.seq ?_
  refine JX.region ?_
  refine JL.val (yl_move rfl) rfl ?_
  obtain ⟨x3, hx3, hres⟩ := bind_some hres
  refine JL.eff (ef_call (T := T90 a_0 q0.length c_0 x3) Go.Proofs.Try.func90 rfl (by kernel_rfl) rfl (fun w hC => c90 (rd_arg g_0 hC) rfl k_0 hx3)) rfl ?_
  rintro _ _ ⟨_, ⟨g4, rfl, rfl⟩, rfl⟩
  refine JL.val (yl_assign rfl) rfl ?_
  refine JL.nil ?_
  refine JE.code ?_
  refine JX.seq ?_
  refine JX.region ?_
  refine JL.val (yl_move rfl) rfl ?_
  obtain ⟨x6, hx6, hres⟩ := bind_some hres
  refine JL.eff (ef_callms (caps := []) (vs := [ptrAt (some ⟨g4, 0, none⟩) 0]) (T := T108 g4 a_0 q0.length c_0 x6) [1] [0] [boxO 163 g4 [.slice a_0 q0.length c_0, .int .i64 x3.at_, .int .u64 x3.seed]] [boxO 42 g1 [.int .i64 0, .int .i64 0]] rfl Go.Proofs.Try.func108 rfl (by kernel_rfl) rfl (by decide) rfl rfl (fun w N hF hS => c108 (q0 := Sl00Src.mk q0 x3.at_ x3.seed) (RdS.pass0 hF g_0) rfl k_0 hS hx6)) rfl ?_
  rintro _ _ ⟨_, _, ⟨rfl, a7, _, cp8, rfl, rfl, rfl⟩, rfl⟩
  refine JL.val (yl_assign rfl) rfl ?_
  refine JL.nil ?_
  refine JE.code ?_
  refine JX.seq ?_
  refine JX.region ?_
  refine JL.val (yl_move rfl) rfl ?_
  refine JL.val (yl_move rfl) rfl ?_
  obtain ⟨x10, hx10, hres⟩ := bind_some hres
  refine JL.eff (ef_callms (caps := []) (vs := [ptrAt (some ⟨g4, 0, none⟩) 0]) (T := T109 g4 a_0 q0.length c_0 x10) [1] [0, 2] [boxO 163 g4 [.slice a_0 q0.length c_0, .int .i64 x6.2.1, .int .u64 x6.2.2]] [boxO 42 g1 [.int .i64 0, .int .i64 0], rowT 42 eSPoint a7 x6.1.length cp8 x6.1] rfl Go.Proofs.Try.func109 rfl (by kernel_rfl) rfl (by decide) rfl rfl (fun w N hF hS => c109 (q0 := Sl00Src.mk q0 x6.2.1 x6.2.2) (RdS.pass0 hF g_0) rfl k_0 hS hx10)) rfl ?_
  rintro _ _ ⟨_, _, ⟨rfl, rfl, rfl⟩, rfl⟩
  refine JL.val (yl_assign rfl) rfl ?_
  refine JL.eff (ef_store_box (i := 0) (v := .agg #[.int .i64 x10.1.X, .int .i64 x10.1.Y]) i42 rfl rfl rfl (i42s).symm (Nat.le_of_ble_eq_true rfl) (by simp [Value.cells, Value.oneCell'])) rfl ?_
  rintro _ _ rfl
  refine JL.nil ?_
  refine JE.weak (env' := [(2, .slice a7 x6.1.length cp8), (3, ptrAt (some ⟨g1, 0, none⟩) 0)]) (es' := [rowT 42 eSPoint a7 x6.1.length cp8 x6.1, boxO 42 g1 [.int .i64 x10.1.X, .int .i64 x10.1.Y]]) [1, 0] ?_ ⟨rfl, rfl, trivial⟩ (by decide) rfl
  refine JE.code ?_
  refine JX.ret ?_
  obtain rfl := Option.some.inj hres
  refine JE.ret (rs := [.tmp 2, .cell 3 42]) (vs := [.slice a7 x6.1.length cp8, .agg #[.int .i64 x10.1.X, .int .i64 x10.1.Y]]) rfl ⟨rfl, rv_box 1 rfl rfl Go.Proofs.Try.underlying42 rfl i42 (i42s).symm, trivial⟩ ?_
  exact fun w' hb hs => ⟨_, _, ⟨a7, x6.1.length, cp8, rfl, rfl, rfl⟩, rfl, hb, hs.sel [0] _ (by decide) rfl⟩

/- impl.MovePolygon -/
def sh22_1 (q0 : List SPoint) (q1 : SPoint) : (Int × List SPoint) → Option ((Int × List SPoint) ⊕ (List SPoint))
  | (x11, x12) => bif decide (x11 < (q0.length : Int)) then (Option.bind (getI q0 x11) fun x15 => Option.bind (appL x12 [SPoint.mk (w64 (x15.X + q1.X)) (w64 (x15.Y + q1.Y))]) fun x20 => some (.inl (w64 (x11 + 1), x20))) else (some (.inr x12))
def sh22 (q0 : List SPoint) (q1 : SPoint) : Option (List SPoint × Int) := Option.bind (sh102 q0) fun x3 => bif !x3 then (some (([] : List SPoint), 1)) else (Option.bind (sh106 q1) fun x5 => bif !x5 then (some (([] : List SPoint), 2)) else (Option.bind (iter (sh22_1 q0 q1) (0, ([] : List SPoint))) fun b1 => (Option.bind (sh102 b1) fun x25 => bif !x25 then (some (([] : List SPoint), 2)) else (some (b1, 0)))))
def T22 (r : List SPoint × Int) (v : Value) (rs : List Own) : Prop := ∃ (a0 : Option Addr) (n0 c0 : Nat), r.1.length = n0 ∧ v = rets [.slice a0 n0 c0, .int .i64 r.2] ∧ rs = [rowT 42 eSPoint a0 n0 c0 r.1]
set_option maxRecDepth 100000 in
theorem c22 {w : World} {q0 : List SPoint} {a_0 : Option Addr} {n_0 c_0 : Nat} (g_0 : Rd w a_0 (eSPoint.fl q0)) (l_0 : q0.length = n_0) (k_0 : n_0 ≤ c_0) {q1 : SPoint} {r : List SPoint × Int} (hres : sh22 q0 q1 = some r) : Calls Go.Proofs.Try.prog 22 [.slice a_0 n_0 c_0, .agg #[.int .i64 q1.X, .int .i64 q1.Y]].toArray w (Ret w (T22 r)) := by
  subst l_0
  unfold sh22 at hres
  refine calls_of (n := 41) (M := []) (es := []) Go.Proofs.Try.func22 rfl rfl rfl (Sep.nil _ _ _) ?_
  refine JX.seq ?_
  refine JX.region ?_
  refine JL.eff (ef_box rfl rfl) rfl ?_
  rintro _ _ ⟨g1, rfl, rfl⟩
  refine JL.val (yl_assign rfl) rfl ?_
  refine JL.val (yl_assign rfl) rfl ?_
  refine JL.nil ?_
  refine JE.code ?_
  refine JX.seq ?_
  refine JX.seq ?_
  refine JX.region ?_
  refine JL.val (yl_move rfl) rfl ?_
  obtain ⟨x3, hx3, hres⟩ := bind_some hres
  refine JL.eff (ef_call (T := T102 x3) Go.Proofs.Try.func102 rfl (by kernel_rfl) rfl (fun w hC => c102 (rd_arg g_0 hC) rfl k_0 hx3)) rfl ?_
  rintro _ _ ⟨_, ⟨rfl, rfl⟩, rfl⟩
  refine JL.val (yl_not rfl) rfl ?_
  refine JL.nil ?_
  refine JE.code ?_
  rcases cond_some hres with ⟨hb, hres⟩ | ⟨hb, hres⟩
  · refine JX.condT rfl hb ?_
    refine JX.seq ?_
    refine JX.region ?_
    refine JL.val (yl_assign rfl) rfl ?_
    refine JL.val (yl_assign rfl) rfl ?_
    refine JL.nil ?_
    refine JE.weak (env' := [(4, .slice none 0 0), (5, .int .i64 1)]) (es' := []) [] ?_ ⟨rfl, rfl, trivial⟩ (by decide) rfl
    refine JE.code ?_
    refine JX.ret ?_
    refine JE.nilrow 42 eSPoint ?_
    obtain rfl := Option.some.inj hres
    refine JE.ret (rs := [.tmp 4, .tmp 5]) (vs := [.slice none 0 0, .int .i64 1]) rfl ⟨rfl, rfl, trivial⟩ ?_
    exact fun w' hb hs => ⟨_, _, ⟨none, 0, 0, rfl, rfl, rfl⟩, rfl, hb, hs.sel [0] _ (by decide) rfl⟩
  · refine JX.condF rfl hb ?_
    refine JX.skip ?_
    refine JE.code ?_
    refine JX.seq ?_
    refine JX.seq ?_
    refine JX.region ?_
    refine JL.val (yl_loadn Go.Proofs.Try.underlying42 rfl i42 rfl (fun w hC => rd_box hC 0 rfl) rfl (i42s).symm i42p) rfl ?_
    obtain ⟨x5, hx5, hres⟩ := bind_some hres
    refine JL.eff (ef_call (vs := [.agg #[.int .i64 q1.X, .int .i64 q1.Y]]) (T := T106 x5) Go.Proofs.Try.func106 rfl (by kernel_rfl) rfl (fun w hC => c106 (q0 := q1) hx5)) rfl ?_
    rintro _ _ ⟨_, ⟨rfl, rfl⟩, rfl⟩
    refine JL.val (yl_not rfl) rfl ?_
    refine JL.nil ?_
    refine JE.code ?_
    rcases cond_some hres with ⟨hb, hres⟩ | ⟨hb, hres⟩
    · refine JX.condT rfl hb ?_
      refine JX.seq ?_
      refine JX.region ?_
      refine JL.val (yl_assign rfl) rfl ?_
      refine JL.val (yl_assign rfl) rfl ?_
      refine JL.nil ?_
      refine JE.weak (env' := [(4, .slice none 0 0), (5, .int .i64 2)]) (es' := []) [] ?_ ⟨rfl, rfl, trivial⟩ (by decide) rfl
      refine JE.code ?_
      refine JX.ret ?_
      refine JE.nilrow 42 eSPoint ?_
      obtain rfl := Option.some.inj hres
      refine JE.ret (rs := [.tmp 4, .tmp 5]) (vs := [.slice none 0 0, .int .i64 2]) rfl ⟨rfl, rfl, trivial⟩ ?_
      exact fun w' hb hs => ⟨_, _, ⟨none, 0, 0, rfl, rfl, rfl⟩, rfl, hb, hs.sel [0] _ (by decide) rfl⟩
    · refine JX.condF rfl hb ?_
      refine JX.skip ?_
      refine JE.code ?_
      refine JX.seq ?_
      refine JX.region ?_
      refine JL.eff (ef_buildSlice (E := 42) (k := eSPoint.k) (us := eSPoint.fl ([] : List SPoint)) rfl (fun w => bsl34_0  w) rfl (by decide)) rfl ?_
      rintro _ _ ⟨a7, rfl, rfl⟩
      refine JL.val (yl_assign rfl) rfl ?_
      refine JL.nil ?_
      refine JE.code ?_
      refine JX.seq ?_
      refine JX.seq ?_
      refine JX.region ?_
      refine JL.val (yl_move rfl) rfl ?_
      refine JL.val (yl_len_slice Go.Proofs.Try.underlying34 rfl) rfl ?_
      refine JL.val (yl_move rfl) rfl ?_
      refine JL.nil ?_
      refine JE.code ?_
      refine JX.block ?_
      obtain ⟨y1, hy1, hresO1⟩ := bind_some hres
      refine JX.loop (I := fun (s1 : Int × List SPoint) aa ww => ∃ (a9 : Option Addr) (cp10 : Nat), St w [] 41 [(3, ptrAt (some ⟨g1, 0, none⟩) 0), (6, .slice a9 s1.2.length cp10), (16, .slice a_0 q0.length c_0), (17, .int .i64 (q0.length : Int)), (18, .int .i64 s1.1)] [boxO 42 g1 [.int .i64 q1.X, .int .i64 q1.Y], rowT 42 eSPoint a9 s1.2.length cp10 s1.2] aa ww) (sh22_1 q0 q1) hy1 (fun a w h => ⟨a7, 0, h.weak ⟨rfl, rfl, rfl, rfl, rfl, trivial⟩ [0, 1] (by decide) rfl⟩) ?_
      rintro ⟨x11, x12⟩ o1 hres hox1 aa ww ⟨a13, cp14, hS⟩
      refine (?_ : JX Go.Proofs.Try.prog w [] 41 _ _ [(3, ptrAt (some ⟨g1, 0, none⟩) 0), (6, .slice a13 x12.length cp14), (16, .slice a_0 q0.length c_0), (17, .int .i64 (q0.length : Int)), (18, .int .i64 x11)] [boxO 42 g1 [.int .i64 q1.X, .int .i64 q1.Y], rowT 42 eSPoint a13 x12.length cp14 x12] _) aa ww hS
      clear hS
      simp only [sh22_1] at hres
      refine JX.seq ?_
      refine JX.region ?_
      refine JL.val (yl_lss rfl rfl) rfl ?_
      refine JL.nil ?_
      refine JE.code ?_
      refine JX.seq ?_
      rcases cond_some hres with ⟨hb, hres⟩ | ⟨hb, hres⟩
      · refine JX.condT rfl hb ?_
        refine JX.skip ?_
        refine JE.code ?_
        refine JX.seq ?_
        refine JX.block ?_
        refine JX.seq ?_
        refine JX.region ?_
        obtain ⟨x15, hx15, hres⟩ := bind_some hres
        refine JL.val (yl_idxT Go.Proofs.Try.underlying34 i42 i42s rfl rfl hx15 rfl (fun w hC => rd_arg g_0 hC)) rfl ?_
        refine JL.val (yl_loadTn Go.Proofs.Try.underlying42 rfl i42 i42s rfl hx15 (fun w hC => rd_arg g_0 hC)) rfl ?_
        refine JL.eff (ef_alloc i42 i42z rfl) rfl ?_
        rintro _ _ ⟨g16, rfl, rfl⟩
        refine JL.eff (ef_store_box (i := 2) (v := .agg #[.int .i64 x15.X, .int .i64 x15.Y]) i42 rfl rfl rfl (i42s).symm (Nat.le_of_ble_eq_true rfl) (by simp [Value.cells, Value.oneCell'])) rfl ?_
        rintro _ _ rfl
        refine JL.nil ?_
        refine JE.weak (env' := [(3, ptrAt (some ⟨g1, 0, none⟩) 0), (6, .slice a13 x12.length cp14), (8, ptrAt (some ⟨g16, 0, none⟩) 0), (16, .slice a_0 q0.length c_0), (17, .int .i64 (q0.length : Int)), (18, .int .i64 x11)]) (es' := [boxO 42 g1 [.int .i64 q1.X, .int .i64 q1.Y], rowT 42 eSPoint a13 x12.length cp14 x12, boxO 42 g16 [.int .i64 x15.X, .int .i64 x15.Y]]) [0, 1, 2] ?_ ⟨rfl, rfl, rfl, rfl, rfl, rfl, trivial⟩ (by decide) rfl
        refine JE.code ?_
        refine JX.region ?_
        refine JL.val (yl_move rfl) rfl ?_
        refine JL.val (yl_fieldAt (a := some _) Go.Proofs.Try.underlying42 rfl i2 i2n rfl rfl) rfl ?_
        refine JL.val (yl_load1 Go.Proofs.Try.underlying2 rfl rfl (fun w hC => rd_box hC 2 rfl) rfl) rfl ?_
        refine JL.val (yl_fieldAt (a := some _) Go.Proofs.Try.underlying42 rfl i2 i2n rfl rfl) rfl ?_
        refine JL.val (yl_load1 Go.Proofs.Try.underlying2 rfl rfl (fun w hC => rd_box hC 0 rfl) rfl) rfl ?_
        refine JL.val (yl_add rfl rfl) rfl ?_
        refine JL.val (yl_fieldAt (a := some _) Go.Proofs.Try.underlying42 rfl i2 i2n rfl rfl) rfl ?_
        refine JL.val (yl_load1 Go.Proofs.Try.underlying2 rfl rfl (fun w hC => rd_box hC 2 rfl) rfl) rfl ?_
        refine JL.val (yl_fieldAt (a := some _) Go.Proofs.Try.underlying42 rfl i2 i2n rfl rfl) rfl ?_
        refine JL.val (yl_load1 Go.Proofs.Try.underlying2 rfl rfl (fun w hC => rd_box hC 0 rfl) rfl) rfl ?_
        refine JL.val (yl_add rfl rfl) rfl ?_
        refine JL.val (yl_build rfl (fun w => bld42_0_1 (w64 (x15.X + q1.X)) (w64 (x15.Y + q1.Y)) w)) rfl ?_
        refine JL.eff (ef_buildSlice (E := 42) (k := eSPoint.k) (us := eSPoint.fl [SPoint.mk (w64 (x15.X + q1.X)) (w64 (x15.Y + q1.Y))]) rfl (fun w => bsl34_1 (w64 (x15.X + q1.X)) (w64 (x15.Y + q1.Y)) w) rfl (by decide)) rfl ?_
        rintro _ _ ⟨a18, rfl, rfl⟩
        obtain ⟨x20, hx20, hres⟩ := bind_some hres
        refine JL.eff (ef_appendT (ix := 1) Go.Proofs.Try.underlying34 i42 i42z i42s rfl i42b0 i42b1 rfl rfl rfl rfl rfl (fun w hC => rd_row hC 3 rfl) hx20) rfl ?_
        rintro _ _ ⟨a21, cp22, rfl, rfl⟩
        refine JL.val (yl_assign rfl) rfl ?_
        refine JL.nil ?_
        refine JE.weak (env' := [(3, ptrAt (some ⟨g1, 0, none⟩) 0), (6, .slice a21 x20.length cp22), (16, .slice a_0 q0.length c_0), (17, .int .i64 (q0.length : Int)), (18, .int .i64 x11)]) (es' := [boxO 42 g1 [.int .i64 q1.X, .int .i64 q1.Y], rowT 42 eSPoint a21 x20.length cp22 x20]) [0, 1] ?_ ⟨rfl, rfl, rfl, rfl, rfl, trivial⟩ (by decide) rfl
        refine JE.code ?_
        refine JX.region ?_
        refine JL.val (yl_add rfl rfl) rfl ?_
        refine JL.val (yl_move rfl) rfl ?_
        refine JL.nil ?_
        refine JE.cont hres ?_
        exact fun a w h => ⟨a21, cp22, h.weak ⟨rfl, rfl, rfl, rfl, rfl, trivial⟩ [0, 1] (by decide) rfl⟩
      · refine JX.condF rfl hb ?_
        refine JX.exit ?_
        refine JE.qb rfl ?_
        obtain ⟨b1, hb1⟩ : ∃ b : List SPoint, b = x12 := ⟨_, rfl⟩
        have hy1 : b1 = y1 := by rw [hb1]; exact hox1 _ (Option.some.inj hres).symm
        have hres := hresO1
        rw [← hy1] at hres
        refine JE.weak (env' := [(6, .slice a13 b1.length cp14)]) (es' := [rowT 42 eSPoint a13 b1.length cp14 b1]) [1] ?_ ⟨(by subst hb1; rfl), trivial⟩ (by decide) (by subst hb1; rfl)
        refine JE.code ?_
        refine JX.seq ?_
        refine JX.seq ?_
        refine JX.region ?_
        refine JL.val (yl_move rfl) rfl ?_
        obtain ⟨x25, hx25, hres⟩ := bind_some hres
        refine JL.eff (ef_call (T := T102 x25) Go.Proofs.Try.func102 rfl (by kernel_rfl) rfl (fun w hC => c102 (rd_row hC 0 rfl) rfl (ln_row hC 0 rfl) hx25)) rfl ?_
        rintro _ _ ⟨_, ⟨rfl, rfl⟩, rfl⟩
        refine JL.val (yl_not rfl) rfl ?_
        refine JL.nil ?_
        refine JE.code ?_
        rcases cond_some hres with ⟨hb, hres⟩ | ⟨hb, hres⟩
        · refine JX.condT rfl hb ?_
          refine JX.seq ?_
          refine JX.region ?_
          refine JL.val (yl_assign rfl) rfl ?_
          refine JL.val (yl_assign rfl) rfl ?_
          refine JL.nil ?_
          refine JE.weak (env' := [(4, .slice none 0 0), (5, .int .i64 2)]) (es' := []) [] ?_ ⟨rfl, rfl, trivial⟩ (by decide) rfl
          refine JE.code ?_
          refine JX.ret ?_
          refine JE.nilrow 42 eSPoint ?_
          obtain rfl := Option.some.inj hres
          refine JE.ret (rs := [.tmp 4, .tmp 5]) (vs := [.slice none 0 0, .int .i64 2]) rfl ⟨rfl, rfl, trivial⟩ ?_
          exact fun w' hb hs => ⟨_, _, ⟨none, 0, 0, rfl, rfl, rfl⟩, rfl, hb, hs.sel [0] _ (by decide) rfl⟩
        · refine JX.condF rfl hb ?_
          refine JX.skip ?_
          refine JE.code ?_
          refine JX.seq ?_
          refine JX.region ?_
          refine JL.val (yl_move rfl) rfl ?_
          refine JL.val (yl_assign rfl) rfl ?_
          refine JL.val (yl_assign rfl) rfl ?_
          refine JL.nil ?_
          refine JE.code ?_
          refine JX.ret ?_
          obtain rfl := Option.some.inj hres
          refine JE.ret (rs := [.tmp 4, .tmp 5]) (vs := [.slice a13 b1.length cp14, .int .i64 0]) rfl ⟨rfl, rfl, trivial⟩ ?_
          exact fun w' hb hs => ⟨_, _, ⟨a13, b1.length, cp14, rfl, rfl, rfl⟩, rfl, hb, hs.sel [0] _ (by decide) rfl⟩

/- spec.l20Ok -/
def sh110_1 (q0 : List SPoint) : Int → Option (Int ⊕ (Unit ⊕ Bool))
  | x1 => bif decide (x1 < (q0.length : Int)) then (Option.bind (getI q0 x1) fun x2 => Option.bind (sh100 x2.X (-100000) 100000) fun x3 => Option.bind (bif !x3 then (some true) else (Option.bind (getI q0 x1) fun x5 => Option.bind (sh100 x5.Y (-100000) 100000) fun x6 => some !x6)) fun cb4 => (bif cb4 then (some (.inr (.inr false))) else (some (.inl (w64 (x1 + 1)))))) else (some (.inr (.inl ())))
def sh110 (q0 : List SPoint) : Option (Bool) := Option.bind (iter (sh110_1 q0) 0) fun y1 => elimS y1 (fun r => some r) fun b1 => (Option.bind (sh100 (q0.length : Int) 3 300) fun x7 => some x7)
def T110 (r : Bool) (v : Value) (rs : List Own) : Prop := v = rets [.bool r] ∧ rs = []
set_option maxRecDepth 100000 in
theorem c110 {w : World} {q0 : List SPoint} {a_0 : Option Addr} {n_0 c_0 : Nat} (g_0 : Rd w a_0 (eSPoint.fl q0)) (l_0 : q0.length = n_0) (k_0 : n_0 ≤ c_0) {r : Bool} (hres : sh110 q0 = some r) : Calls Go.Proofs.Try.prog 110 [.slice a_0 n_0 c_0].toArray w (Ret w (T110 r)) := by
  subst l_0
  unfold sh110 at hres
  refine calls_of (n := 29) (M := []) (es := []) Go.Proofs.Try.func110 rfl rfl rfl (Sep.nil _ _ _) ?_
  refine JX.seq ?_
  refine JX.region ?_
  refine JL.val (yl_assign rfl) rfl ?_
  refine JL.nil ?_
  refine JE.code ?_
  refine JX.seq ?_
  refine JX.seq ?_
  refine JX.region ?_
  refine JL.val (yl_assign rfl) rfl ?_
  refine JL.nil ?_
  refine JE.code ?_
  refine JX.block ?_
  obtain ⟨y1, hy1, hresO1⟩ := bind_some hres
  refine JX.loop (I := fun (s1 : Int) aa ww => St w [] 29 [(0, .slice a_0 q0.length c_0), (3, .int .i64 s1)] [] aa ww) (sh110_1 q0) hy1 (fun a w h => h.weak ⟨rfl, rfl, trivial⟩ [] (by decide) rfl) ?_
  rintro x1 o1 hres hox1 aa ww hS
  refine (?_ : JX Go.Proofs.Try.prog w [] 29 _ _ [(0, .slice a_0 q0.length c_0), (3, .int .i64 x1)] [] _) aa ww hS
  clear hS
  unfold sh110_1 at hres
  refine JX.seq ?_
  refine JX.seq ?_
  refine JX.region ?_
  refine JL.val (yl_move rfl) rfl ?_
  refine JL.val (yl_move rfl) rfl ?_
  refine JL.val (yl_len_slice Go.Proofs.Try.underlying34 rfl) rfl ?_
  refine JL.val (yl_lss rfl rfl) rfl ?_
  refine JL.nil ?_
  refine JE.weak (env' := [(0, .slice a_0 q0.length c_0), (3, .int .i64 x1), (7, .bool (decide (x1 < (q0.length : Int))))]) (es' := []) [] ?_ ⟨rfl, rfl, rfl, trivial⟩ (by decide) rfl
  refine JE.code ?_
  rcases cond_some hres with ⟨hb, hres⟩ | ⟨hb, hres⟩
  · refine JX.condT rfl hb ?_
    refine JX.skip ?_
    refine JE.code ?_
    refine JX.seq ?_
    refine JX.block ?_
    refine JX.seq ?_
    refine JX.region ?_
    refine JL.val (yl_move rfl) rfl ?_
    refine JL.val (yl_move rfl) rfl ?_
    obtain ⟨x2, hx2, hres⟩ := bind_some hres
    refine JL.val (yl_idxT Go.Proofs.Try.underlying34 i42 i42s rfl rfl hx2 rfl (fun w hC => rd_arg g_0 hC)) rfl ?_
    refine JL.val (yl_fieldAtT Go.Proofs.Try.underlying42 rfl i2 i2n rfl hx2 (fun w hC => rd_arg g_0 hC)) rfl ?_
    refine JL.val (yl_loadT1 Go.Proofs.Try.underlying2 rfl rfl hx2 (fun w hC => rd_arg g_0 hC) rfl) rfl ?_
    obtain ⟨x3, hx3, hres⟩ := bind_some hres
    refine JL.eff (ef_call (T := T100 x3) Go.Proofs.Try.func100 rfl (by kernel_rfl) rfl (fun w hC => c100  hx3)) rfl ?_
    rintro _ _ ⟨_, ⟨rfl, rfl⟩, rfl⟩
    refine JL.val (yl_not rfl) rfl ?_
    refine JL.val (yl_move rfl) rfl ?_
    obtain ⟨cb4, hcb4, hres⟩ := bind_some hres
    refine JL.cut (K := fun J => J [(0, .slice a_0 q0.length c_0), (3, .int .i64 x1), (25, .bool cb4)] []) 8 ?_ ?_
    · refine JL.nil ?_
      refine JE.weak (env' := [(0, .slice a_0 q0.length c_0), (3, .int .i64 x1), (25, .bool cb4)]) (es' := []) [] ?_ ⟨rfl, rfl, rfl, trivial⟩ (by decide) rfl
      refine JE.code ?_
      rcases cond_some hres with ⟨hb, hres⟩ | ⟨hb, hres⟩
      · refine JX.condT rfl hb ?_
        refine JX.seq ?_
        refine JX.region ?_
        refine JL.val (yl_assign rfl) rfl ?_
        refine JL.nil ?_
        refine JE.code ?_
        refine JX.ret ?_
        refine JE.qbr ?_
        refine JE.qbr ?_
        have hres := elimS_inr hresO1 (hox1 _ (Option.some.inj hres).symm)
        obtain rfl := Option.some.inj hres
        refine JE.ret (rs := [.tmp 2]) (vs := [.bool false]) rfl ⟨rfl, trivial⟩ ?_
        exact fun w' hb hs => ⟨_, _, ⟨rfl, rfl⟩, rfl, hb, hs.sel [] _ (by decide) rfl⟩
      · refine JX.condF rfl hb ?_
        refine JX.skip ?_
        refine JE.code ?_
        refine JX.region ?_
        refine JL.val (yl_move rfl) rfl ?_
        refine JL.val (yl_add rfl rfl) rfl ?_
        refine JL.val (yl_assign rfl) rfl ?_
        refine JL.nil ?_
        refine JE.cont hres ?_
        exact fun a w h => h.weak ⟨rfl, rfl, trivial⟩ [] (by decide) rfl
    · intro K
      rcases cond_some hcb4 with ⟨hb, hres⟩ | ⟨hb, hres⟩
      · refine JL.set (d := 17) (v := .bool true) (congrArg (fun b => some (Value.bool b)) hb) ?_
        refine JL.gskip rfl rfl rfl rfl ?_
        refine JL.gskip rfl rfl rfl rfl ?_
        refine JL.gskip rfl rfl rfl rfl ?_
        refine JL.gskip rfl rfl rfl rfl ?_
        refine JL.gskip rfl rfl rfl rfl ?_
        refine JL.gskip rfl rfl rfl rfl ?_
        refine JL.gskip rfl rfl rfl rfl ?_
        refine JL.val (yl_pick_true rfl rfl) rfl ?_
        have he := Option.some.inj hres
        exact JL.weak [] K ⟨rfl, rfl, (by rw [← he]; rfl), trivial⟩ (by decide) rfl
      · refine JL.set (d := 17) (v := .bool false) (congrArg (fun b => some (Value.bool b)) hb) ?_
        refine JL.gval rfl rfl (yl_move rfl) rfl ?_
        refine JL.gval rfl rfl (yl_move rfl) rfl ?_
        obtain ⟨x5, hx5, hres⟩ := bind_some hres
        refine JL.gval rfl rfl (yl_idxT Go.Proofs.Try.underlying34 i42 i42s rfl rfl hx5 rfl (fun w hC => rd_arg g_0 hC)) rfl ?_
        refine JL.gval rfl rfl (yl_fieldAtT Go.Proofs.Try.underlying42 rfl i2 i2n rfl hx5 (fun w hC => rd_arg g_0 hC)) rfl ?_
        refine JL.gval rfl rfl (yl_loadT1 Go.Proofs.Try.underlying2 rfl rfl hx5 (fun w hC => rd_arg g_0 hC) rfl) rfl ?_
        obtain ⟨x6, hx6, hres⟩ := bind_some hres
        refine JL.geff rfl rfl (ef_call (T := T100 x6) Go.Proofs.Try.func100 rfl (by kernel_rfl) rfl (fun w hC => c100  hx6)) rfl ?_
        rintro _ _ ⟨_, ⟨rfl, rfl⟩, rfl⟩
        refine JL.gval rfl rfl (yl_not rfl) rfl ?_
        refine JL.val (yl_pick_false rfl rfl) rfl ?_
        have he := Option.some.inj hres
        exact JL.weak [] K ⟨rfl, rfl, (by rw [← he]; rfl), trivial⟩ (by decide) rfl
  · refine JX.condF rfl hb ?_
    refine JX.exit ?_
    refine JE.qb rfl ?_
    obtain ⟨b1, hb1⟩ : ∃ b : Unit, b = () := ⟨_, rfl⟩
    have hy1 : Sum.inl b1 = y1 := by rw [hb1]; exact hox1 _ (Option.some.inj hres).symm
    have hres := elimS_inl hresO1 hy1
    refine JE.weak (env' := [(0, .slice a_0 q0.length c_0)]) (es' := []) [] ?_ ⟨(by subst hb1; rfl), trivial⟩ (by decide) (by subst hb1; rfl)
    refine JE.code ?_
    refine JX.seq ?_
    refine JX.region ?_
    refine JL.val (yl_move rfl) rfl ?_
    refine JL.val (yl_len_slice Go.Proofs.Try.underlying34 rfl) rfl ?_
    obtain ⟨x7, hx7, hres⟩ := bind_some hres
    refine JL.eff (ef_call (T := T100 x7) Go.Proofs.Try.func100 rfl (by kernel_rfl) rfl (fun w hC => c100  hx7)) rfl ?_
    rintro _ _ ⟨_, ⟨rfl, rfl⟩, rfl⟩
    refine JL.val (yl_assign rfl) rfl ?_
    refine JL.nil ?_
    refine JE.weak (env' := [(2, .bool x7)]) (es' := []) [] ?_ ⟨rfl, trivial⟩ (by decide) rfl
    refine JE.code ?_
    refine JX.ret ?_
    obtain rfl := Option.some.inj hres
    refine JE.ret (rs := [.tmp 2]) (vs := [.bool x7]) rfl ⟨rfl, trivial⟩ ?_
    exact fun w' hb hs => ⟨_, _, ⟨rfl, rfl⟩, rfl, hb, hs.sel [] _ (by decide) rfl⟩

/- spec.MovePolygon -/
def sh23_1 (q0 : List SPoint) (q1 : SPoint) : (Int × List SPoint) → Option ((Int × List SPoint) ⊕ (List SPoint))
  | (x13, x14) => bif decide (x13 < (q0.length : Int)) then (Option.bind (getI q0 x13) fun x18 => Option.bind (getI q0 x13) fun x19 => Option.bind (appL x14 [SPoint.mk (w64 (x18.X + q1.X)) (w64 (x19.Y + q1.Y))]) fun x22 => some (.inl (w64 (x13 + 1), x22))) else (some (.inr x14))
def sh23 (q0 : List SPoint) (q1 : SPoint) : Option (List SPoint × Int) := Option.bind (sh110 q0) fun x3 => bif !x3 then (some (([] : List SPoint), 1)) else (Option.bind (sh100 q1.X (-100000) 100000) fun x5 => Option.bind (bif !x5 then (some true) else (Option.bind (sh100 q1.Y (-100000) 100000) fun x7 => some !x7)) fun cb6 => (bif cb6 then (some (([] : List SPoint), 2)) else (Option.bind (iter (sh23_1 q0 q1) (0, ([] : List SPoint))) fun b1 => (Option.bind (sh110 b1) fun x27 => bif !x27 then (some (([] : List SPoint), 2)) else (some (b1, 0))))))
def T23 (r : List SPoint × Int) (v : Value) (rs : List Own) : Prop := ∃ (a0 : Option Addr) (n0 c0 : Nat), r.1.length = n0 ∧ v = rets [.slice a0 n0 c0, .int .i64 r.2] ∧ rs = [rowT 42 eSPoint a0 n0 c0 r.1]
set_option maxRecDepth 100000 in
theorem c23 {w : World} {q0 : List SPoint} {a_0 : Option Addr} {n_0 c_0 : Nat} (g_0 : Rd w a_0 (eSPoint.fl q0)) (l_0 : q0.length = n_0) (k_0 : n_0 ≤ c_0) {q1 : SPoint} {r : List SPoint × Int} (hres : sh23 q0 q1 = some r) : Calls Go.Proofs.Try.prog 23 [.slice a_0 n_0 c_0, .agg #[.int .i64 q1.X, .int .i64 q1.Y]].toArray w (Ret w (T23 r)) := by
  subst l_0
  unfold sh23 at hres
  refine calls_of (n := 52) (M := []) (es := []) Go.Proofs.Try.func23 rfl rfl rfl (Sep.nil _ _ _) ?_
  refine JX.seq ?_
  refine JX.region ?_
  refine JL.eff (ef_box rfl rfl) rfl ?_
  rintro _ _ ⟨g1, rfl, rfl⟩
  refine JL.val (yl_assign rfl) rfl ?_
  refine JL.val (yl_assign rfl) rfl ?_
  refine JL.nil ?_
  refine JE.code ?_
  refine JX.seq ?_
  refine JX.seq ?_
  refine JX.region ?_
  refine JL.val (yl_move rfl) rfl ?_
  obtain ⟨x3, hx3, hres⟩ := bind_some hres
  refine JL.eff (ef_call (T := T110 x3) Go.Proofs.Try.func110 rfl (by kernel_rfl) rfl (fun w hC => c110 (rd_arg g_0 hC) rfl k_0 hx3)) rfl ?_
  rintro _ _ ⟨_, ⟨rfl, rfl⟩, rfl⟩
  refine JL.val (yl_not rfl) rfl ?_
  refine JL.nil ?_
  refine JE.code ?_
  rcases cond_some hres with ⟨hb, hres⟩ | ⟨hb, hres⟩
  · refine JX.condT rfl hb ?_
    refine JX.seq ?_
    refine JX.region ?_
    refine JL.val (yl_assign rfl) rfl ?_
    refine JL.val (yl_assign rfl) rfl ?_
    refine JL.nil ?_
    refine JE.weak (env' := [(4, .slice none 0 0), (5, .int .i64 1)]) (es' := []) [] ?_ ⟨rfl, rfl, trivial⟩ (by decide) rfl
    refine JE.code ?_
    refine JX.ret ?_
    refine JE.nilrow 42 eSPoint ?_
    obtain rfl := Option.some.inj hres
    refine JE.ret (rs := [.tmp 4, .tmp 5]) (vs := [.slice none 0 0, .int .i64 1]) rfl ⟨rfl, rfl, trivial⟩ ?_
    exact fun w' hb hs => ⟨_, _, ⟨none, 0, 0, rfl, rfl, rfl⟩, rfl, hb, hs.sel [0] _ (by decide) rfl⟩
  · refine JX.condF rfl hb ?_
    refine JX.skip ?_
    refine JE.code ?_
    refine JX.seq ?_
    refine JX.seq ?_
    refine JX.region ?_
    refine JL.val (yl_fieldAt (a := some _) Go.Proofs.Try.underlying42 rfl i2 i2n rfl rfl) rfl ?_
    refine JL.val (yl_load1 Go.Proofs.Try.underlying2 rfl rfl (fun w hC => rd_box hC 0 rfl) rfl) rfl ?_
    obtain ⟨x5, hx5, hres⟩ := bind_some hres
    refine JL.eff (ef_call (T := T100 x5) Go.Proofs.Try.func100 rfl (by kernel_rfl) rfl (fun w hC => c100  hx5)) rfl ?_
    rintro _ _ ⟨_, ⟨rfl, rfl⟩, rfl⟩
    refine JL.val (yl_not rfl) rfl ?_
    refine JL.val (yl_move rfl) rfl ?_
    obtain ⟨cb6, hcb6, hres⟩ := bind_some hres
    refine JL.cut (K := fun J => J [(0, .slice a_0 q0.length c_0), (3, ptrAt (some ⟨g1, 0, none⟩) 0), (20, .bool cb6)] [boxO 42 g1 [.int .i64 q1.X, .int .i64 q1.Y]]) 5 ?_ ?_
    · refine JL.nil ?_
      refine JE.weak (env' := [(0, .slice a_0 q0.length c_0), (3, ptrAt (some ⟨g1, 0, none⟩) 0), (20, .bool cb6)]) (es' := [boxO 42 g1 [.int .i64 q1.X, .int .i64 q1.Y]]) [0] ?_ ⟨rfl, rfl, rfl, trivial⟩ (by decide) rfl
      refine JE.code ?_
      rcases cond_some hres with ⟨hb, hres⟩ | ⟨hb, hres⟩
      · refine JX.condT rfl hb ?_
        refine JX.seq ?_
        refine JX.region ?_
        refine JL.val (yl_assign rfl) rfl ?_
        refine JL.val (yl_assign rfl) rfl ?_
        refine JL.nil ?_
        refine JE.weak (env' := [(4, .slice none 0 0), (5, .int .i64 2)]) (es' := []) [] ?_ ⟨rfl, rfl, trivial⟩ (by decide) rfl
        refine JE.code ?_
        refine JX.ret ?_
        refine JE.nilrow 42 eSPoint ?_
        obtain rfl := Option.some.inj hres
        refine JE.ret (rs := [.tmp 4, .tmp 5]) (vs := [.slice none 0 0, .int .i64 2]) rfl ⟨rfl, rfl, trivial⟩ ?_
        exact fun w' hb hs => ⟨_, _, ⟨none, 0, 0, rfl, rfl, rfl⟩, rfl, hb, hs.sel [0] _ (by decide) rfl⟩
      · refine JX.condF rfl hb ?_
        refine JX.skip ?_
        refine JE.code ?_
        refine JX.seq ?_
        refine JX.region ?_
        refine JL.eff (ef_buildSlice (E := 42) (k := eSPoint.k) (us := eSPoint.fl ([] : List SPoint)) rfl (fun w => bsl34_0  w) rfl (by decide)) rfl ?_
        rintro _ _ ⟨a9, rfl, rfl⟩
        refine JL.val (yl_assign rfl) rfl ?_
        refine JL.nil ?_
        refine JE.code ?_
        refine JX.seq ?_
        refine JX.seq ?_
        refine JX.region ?_
        refine JL.val (yl_assign rfl) rfl ?_
        refine JL.nil ?_
        refine JE.code ?_
        refine JX.block ?_
        obtain ⟨y1, hy1, hresO1⟩ := bind_some hres
        refine JX.loop (I := fun (s1 : Int × List SPoint) aa ww => ∃ (a11 : Option Addr) (cp12 : Nat), St w [] 52 [(0, .slice a_0 q0.length c_0), (3, ptrAt (some ⟨g1, 0, none⟩) 0), (6, .slice a11 s1.2.length cp12), (7, .int .i64 s1.1)] [boxO 42 g1 [.int .i64 q1.X, .int .i64 q1.Y], rowT 42 eSPoint a11 s1.2.length cp12 s1.2] aa ww) (sh23_1 q0 q1) hy1 (fun a w h => ⟨a9, 0, h.weak ⟨rfl, rfl, rfl, rfl, trivial⟩ [0, 1] (by decide) rfl⟩) ?_
        rintro ⟨x13, x14⟩ o1 hres hox1 aa ww ⟨a15, cp16, hS⟩
        refine (?_ : JX Go.Proofs.Try.prog w [] 52 _ _ [(0, .slice a_0 q0.length c_0), (3, ptrAt (some ⟨g1, 0, none⟩) 0), (6, .slice a15 x14.length cp16), (7, .int .i64 x13)] [boxO 42 g1 [.int .i64 q1.X, .int .i64 q1.Y], rowT 42 eSPoint a15 x14.length cp16 x14] _) aa ww hS
        clear hS
        simp only [sh23_1] at hres
        refine JX.seq ?_
        refine JX.seq ?_
        refine JX.region ?_
        refine JL.val (yl_move rfl) rfl ?_
        refine JL.val (yl_move rfl) rfl ?_
        refine JL.val (yl_len_slice Go.Proofs.Try.underlying34 rfl) rfl ?_
        refine JL.val (yl_lss rfl rfl) rfl ?_
        refine JL.nil ?_
        refine JE.weak (env' := [(0, .slice a_0 q0.length c_0), (3, ptrAt (some ⟨g1, 0, none⟩) 0), (6, .slice a15 x14.length cp16), (7, .int .i64 x13), (25, .bool (decide (x13 < (q0.length : Int))))]) (es' := [boxO 42 g1 [.int .i64 q1.X, .int .i64 q1.Y], rowT 42 eSPoint a15 x14.length cp16 x14]) [0, 1] ?_ ⟨rfl, rfl, rfl, rfl, rfl, trivial⟩ (by decide) rfl
        refine JE.code ?_
        rcases cond_some hres with ⟨hb, hres⟩ | ⟨hb, hres⟩
        · refine JX.condT rfl hb ?_
          refine JX.skip ?_
          refine JE.code ?_
          refine JX.seq ?_
          refine JX.block ?_
          refine JX.drawH [(0, .pure), (1, .pure), (2, .pure), (3, .pure), (4, .pure), (5, .read), (6, .pure), (7, .read), (8, .pure), (9, .pure), (10, .pure), (11, .pure), (12, .pure), (13, .read), (14, .pure), (15, .read), (16, .pure), (17, .pure), (18, .must), (19, .must), (20, .pure)] [19] [1] [0] [rowT 42 eSPoint a15 x14.length cp16 x14] [boxO 42 g1 [.int .i64 q1.X, .int .i64 q1.Y]] mixedP (by kernel_rfl) (by kernel_rfl) (by decide) rfl rfl ?_
          intro wrr17 Nr17 hFr17
          refine JH.pure rfl (yl_move rfl) rfl ?_
          refine JH.pure rfl (yl_move rfl) rfl ?_
          refine JH.pure rfl (yl_move rfl) rfl ?_
          obtain ⟨x18, hx18, hres⟩ := bind_some hres
          refine JH.pure rfl (yl_idxQ Go.Proofs.Try.underlying34 i42 i42s rfl rfl hx18 rfl (rd_arg g_0 hFr17.cl) rfl) rfl ?_
          refine JH.pure rfl (yl_fieldAt Go.Proofs.Try.underlying42 rfl i2 i2n rfl (RdT.someQ (rd_arg g_0 hFr17.cl) hx18 rfl rfl)) rfl ?_
          refine JH.read rfl (yl_loadT1 Go.Proofs.Try.underlying2 rfl rfl hx18 (fun w hw => hFr17.arg g_0 hw) rfl) rfl ?_
          refine JH.pure rfl (yl_fieldAt (a := some _) Go.Proofs.Try.underlying42 rfl i2 i2n rfl rfl) rfl ?_
          refine JH.read rfl (yl_load1 Go.Proofs.Try.underlying2 rfl rfl (fun w hw => hFr17.box 0 rfl rfl hw) rfl) rfl ?_
          refine JH.pure rfl (yl_add rfl rfl) rfl ?_
          refine JH.pure rfl (yl_move rfl) rfl ?_
          refine JH.pure rfl (yl_move rfl) rfl ?_
          obtain ⟨x19, hx19, hres⟩ := bind_some hres
          refine JH.pure rfl (yl_idxQ Go.Proofs.Try.underlying34 i42 i42s rfl rfl hx19 rfl (rd_arg g_0 hFr17.cl) rfl) rfl ?_
          refine JH.pure rfl (yl_fieldAt Go.Proofs.Try.underlying42 rfl i2 i2n rfl (RdT.someQ (rd_arg g_0 hFr17.cl) hx19 rfl rfl)) rfl ?_
          refine JH.read rfl (yl_loadT1 Go.Proofs.Try.underlying2 rfl rfl hx19 (fun w hw => hFr17.arg g_0 hw) rfl) rfl ?_
          refine JH.pure rfl (yl_fieldAt (a := some _) Go.Proofs.Try.underlying42 rfl i2 i2n rfl rfl) rfl ?_
          refine JH.read rfl (yl_load1 Go.Proofs.Try.underlying2 rfl rfl (fun w hw => hFr17.box 0 rfl rfl hw) rfl) rfl ?_
          refine JH.pure rfl (yl_add rfl rfl) rfl ?_
          refine JH.pure rfl (yl_build rfl (fun w => bld42_0_1 (w64 (x18.X + q1.X)) (w64 (x19.Y + q1.Y)) w)) rfl ?_
          refine JH.must rfl (ef_buildSlice (E := 42) (k := eSPoint.k) (us := eSPoint.fl [SPoint.mk (w64 (x18.X + q1.X)) (w64 (x19.Y + q1.Y))]) rfl (fun w => bsl34_1 (w64 (x18.X + q1.X)) (w64 (x19.Y + q1.Y)) w) rfl (by decide)) rfl rfl ?_
          rintro _ _ ⟨a20, rfl, rfl⟩
          obtain ⟨x22, hx22, hres⟩ := bind_some hres
          refine JH.must rfl (ef_appendT (ix := 0) Go.Proofs.Try.underlying34 i42 i42z i42s rfl i42b0 i42b1 rfl rfl rfl rfl rfl (fun w hC => rd_row hC 1 rfl) hx22) rfl rfl ?_
          rintro _ _ ⟨a23, cp24, rfl, rfl⟩
          refine JH.pure rfl (yl_assign rfl) rfl ?_
          refine JH.nil ?_
          refine JE.weak (env' := [(0, .slice a_0 q0.length c_0), (3, ptrAt (some ⟨g1, 0, none⟩) 0), (6, .slice a23 x22.length cp24), (7, .int .i64 x13)]) (es' := [boxO 42 g1 [.int .i64 q1.X, .int .i64 q1.Y], rowT 42 eSPoint a23 x22.length cp24 x22]) [0, 1] ?_ ⟨rfl, rfl, rfl, rfl, trivial⟩ (by decide) rfl
          refine JE.code ?_
          refine JX.region ?_
          refine JL.val (yl_move rfl) rfl ?_
          refine JL.val (yl_add rfl rfl) rfl ?_
          refine JL.val (yl_assign rfl) rfl ?_
          refine JL.nil ?_
          refine JE.cont hres ?_
          exact fun a w h => ⟨a23, cp24, h.weak ⟨rfl, rfl, rfl, rfl, trivial⟩ [0, 1] (by decide) rfl⟩
        · refine JX.condF rfl hb ?_
          refine JX.exit ?_
          refine JE.qb rfl ?_
          obtain ⟨b1, hb1⟩ : ∃ b : List SPoint, b = x14 := ⟨_, rfl⟩
          have hy1 : b1 = y1 := by rw [hb1]; exact hox1 _ (Option.some.inj hres).symm
          have hres := hresO1
          rw [← hy1] at hres
          refine JE.weak (env' := [(6, .slice a15 b1.length cp16)]) (es' := [rowT 42 eSPoint a15 b1.length cp16 b1]) [1] ?_ ⟨(by subst hb1; rfl), trivial⟩ (by decide) (by subst hb1; rfl)
          refine JE.code ?_
          refine JX.seq ?_
          refine JX.seq ?_
          refine JX.region ?_
          refine JL.val (yl_move rfl) rfl ?_
          obtain ⟨x27, hx27, hres⟩ := bind_some hres
          refine JL.eff (ef_call (T := T110 x27) Go.Proofs.Try.func110 rfl (by kernel_rfl) rfl (fun w hC => c110 (rd_row hC 0 rfl) rfl (ln_row hC 0 rfl) hx27)) rfl ?_
          rintro _ _ ⟨_, ⟨rfl, rfl⟩, rfl⟩
          refine JL.val (yl_not rfl) rfl ?_
          refine JL.nil ?_
          refine JE.code ?_
          rcases cond_some hres with ⟨hb, hres⟩ | ⟨hb, hres⟩
          · refine JX.condT rfl hb ?_
            refine JX.seq ?_
            refine JX.region ?_
            refine JL.val (yl_assign rfl) rfl ?_
            refine JL.val (yl_assign rfl) rfl ?_
            refine JL.nil ?_
            refine JE.weak (env' := [(4, .slice none 0 0), (5, .int .i64 2)]) (es' := []) [] ?_ ⟨rfl, rfl, trivial⟩ (by decide) rfl
            refine JE.code ?_
            refine JX.ret ?_
            refine JE.nilrow 42 eSPoint ?_
            obtain rfl := Option.some.inj hres
            refine JE.ret (rs := [.tmp 4, .tmp 5]) (vs := [.slice none 0 0, .int .i64 2]) rfl ⟨rfl, rfl, trivial⟩ ?_
            exact fun w' hb hs => ⟨_, _, ⟨none, 0, 0, rfl, rfl, rfl⟩, rfl, hb, hs.sel [0] _ (by decide) rfl⟩
          · refine JX.condF rfl hb ?_
            refine JX.skip ?_
            refine JE.code ?_
            refine JX.seq ?_
            refine JX.region ?_
            refine JL.val (yl_move rfl) rfl ?_
            refine JL.val (yl_assign rfl) rfl ?_
            refine JL.val (yl_assign rfl) rfl ?_
            refine JL.nil ?_
            refine JE.code ?_
            refine JX.ret ?_
            obtain rfl := Option.some.inj hres
            refine JE.ret (rs := [.tmp 4, .tmp 5]) (vs := [.slice a15 b1.length cp16, .int .i64 0]) rfl ⟨rfl, rfl, trivial⟩ ?_
            exact fun w' hb hs => ⟨_, _, ⟨a15, b1.length, cp16, rfl, rfl, rfl⟩, rfl, hb, hs.sel [0] _ (by decide) rfl⟩
    · intro K
      rcases cond_some hcb6 with ⟨hb, hres⟩ | ⟨hb, hres⟩
      · refine JL.set (d := 15) (v := .bool true) (congrArg (fun b => some (Value.bool b)) hb) ?_
        refine JL.gskip rfl rfl rfl rfl ?_
        refine JL.gskip rfl rfl rfl rfl ?_
        refine JL.gskip rfl rfl rfl rfl ?_
        refine JL.gskip rfl rfl rfl rfl ?_
        refine JL.val (yl_pick_true rfl rfl) rfl ?_
        have he := Option.some.inj hres
        exact JL.weak [0] K ⟨rfl, rfl, (by rw [← he]; rfl), trivial⟩ (by decide) rfl
      · refine JL.set (d := 15) (v := .bool false) (congrArg (fun b => some (Value.bool b)) hb) ?_
        refine JL.gval rfl rfl (yl_fieldAt (a := some _) Go.Proofs.Try.underlying42 rfl i2 i2n rfl rfl) rfl ?_
        refine JL.gval rfl rfl (yl_load1 Go.Proofs.Try.underlying2 rfl rfl (fun w hC => rd_box hC 0 rfl) rfl) rfl ?_
        obtain ⟨x7, hx7, hres⟩ := bind_some hres
        refine JL.geff rfl rfl (ef_call (T := T100 x7) Go.Proofs.Try.func100 rfl (by kernel_rfl) rfl (fun w hC => c100  hx7)) rfl ?_
        rintro _ _ ⟨_, ⟨rfl, rfl⟩, rfl⟩
        refine JL.gval rfl rfl (yl_not rfl) rfl ?_
        refine JL.val (yl_pick_false rfl rfl) rfl ?_
        have he := Option.some.inj hres
        exact JL.weak [0] K ⟨rfl, rfl, (by rw [← he]; rfl), trivial⟩ (by decide) rfl

end Go.Sh
