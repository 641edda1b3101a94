/- Walks through functions that the law reaches, printed by program. -/
import Derived.Test.YtnifcedmpilldaaF4W2
set_option linter.unusedVariables false
set_option linter.unusedSimpArgs false
namespace Go.Sh
open Go Go.RowKit
/- laws.FnPolygons -/
def sh4_1 (x2 : List SPoint × SPoint) : Int → Option (Int ⊕ (Unit ⊕ Bool))
  | x66 => bif decide (x66 < (x2.1.length : Int)) then (Option.bind (getI x2.1 x66) fun x67 => Option.bind (sh20 x2.1 x67) fun x68 => bif (x68.2 != 0) || (x68.1 != 1) then (some (.inr (.inr false))) else (some (.inl (w64 (x66 + 1))))) else (some (.inr (.inl ())))
def sh4_2 (x2 : List SPoint × SPoint) : Int → Option (Int ⊕ (Unit ⊕ Bool))
  | x71 => bif decide (x71 < (x2.1.length : Int)) then (Option.bind (getI x2.1 x71) fun x72 => Option.bind (sh20 x2.1 x72) fun x73 => bif (x73.2 != 0) || (x73.1 != 1) then (some (.inr (.inr false))) else (some (.inl (w64 (x71 + 1))))) else (some (.inr (.inl ())))
def sh4 (q0 : List Int) : Option (Bool) := Option.bind (sh9 q0) fun x1 => bif x1 then (some true) else (Option.bind (sh21 q0) fun x2 => Option.bind (sh22 x2.1 x2.2) fun x8 => Option.bind (sh23 x2.1 x2.2) fun x12 => Option.bind (sh24 q0) fun x16 => Option.bind (sh20 x16.1 x16.2) fun x22 => Option.bind (sh25 x16.1 x16.2) fun x23 => Option.bind (sh26 q0) fun x24 => Option.bind (sh27 x24) fun x28 => Option.bind (sh28 x24) fun x33 => Option.bind (sh29 q0) fun x38 => Option.bind (sh18 x38) fun x42 => Option.bind (sh30 x38) fun x43 => Option.bind (sh31 q0) fun x44 => Option.bind (sh32 x44) fun x48 => Option.bind (sh33 x44) fun x49 => Option.bind (sh34 q0) fun x50 => Option.bind (bif x8.2 != x12.2 then (some true) else (Option.bind (sh17 x8.1 x12.1) fun x55 => some !x55)) fun cb54 => (Option.bind (bif ((((((((cb54 || (x22.2 != x23.2)) || (x22.1 != x23.1)) || (x28.2.2 != x33.2.2)) || (!(((x28.1.X == x33.1.X) && ((x28.1.Y == x33.1.Y) && true))))) || (!(((x28.2.1.X == x33.2.1.X) && ((x28.2.1.Y == x33.2.1.Y) && true))))) || (x42.2 != x43.2)) || (x42.1 != x43.1)) || (x48.2 != x49.2)) || (x48.1 != x49.1) then (some true) else (Option.bind (sh19 x50) fun x57 => Option.bind (sh35 x50) fun x58 => some (x57 != x58))) fun cb56 => (bif cb56 then (some false) else (bif x22.2 == 0 then (Option.bind (sh27 x16.1) fun x59 => bif (x59.2.2 != 0) || ((x22.1 == 2) && ((((decide (x16.2.X ≤ x59.1.X)) || (decide (x16.2.Y ≤ x59.1.Y))) || (decide (x59.2.1.X ≤ x16.2.X))) || (decide (x59.2.1.Y ≤ x16.2.Y)))) then (some false) else (bif x8.2 != 0 then (some true) else (Option.bind (sh18 x2.1) fun x64 => Option.bind (sh18 x8.1) fun x65 => bif ((x64.2 != 0) || (x65.2 != 0)) || (x64.1 != x65.1) then (some false) else (Option.bind (iter (sh4_1 x2) 0) fun y1 => elimS y1 (fun r => some r) fun b1 => (some true))))) else (bif x8.2 != 0 then (some true) else (Option.bind (sh18 x2.1) fun x69 => Option.bind (sh18 x8.1) fun x70 => bif ((x69.2 != 0) || (x70.2 != 0)) || (x69.1 != x70.1) then (some false) else (Option.bind (iter (sh4_2 x2) 0) fun y2 => elimS y2 (fun r => some r) fun b2 => (some true))))))))
def T4 (r : Bool) (v : Value) (rs : List Own) : Prop := v = rets [.bool r] ∧ rs = []
set_option maxRecDepth 100000 in
set_option maxHeartbeats 1000000 in
theorem c4 {w : World} {q0 : List Int} {a_0 : Option Addr} {n_0 c_0 : Nat} (g_0 : Rd w a_0 (eU8.fl q0)) (l_0 : q0.length = n_0) (k_0 : n_0 ≤ c_0) {r : Bool} (hres : sh4 q0 = some r) : Calls Go.Proofs.Try.prog 4 [.slice a_0 n_0 c_0].toArray w (Ret w (T4 r)) := by
  subst l_0
  unfold sh4 at hres
  refine calls_of (n := 266) (M := []) (es := []) Go.Proofs.Try.func4 rfl rfl rfl (Sep.nil _ _ _) ?_
  refine JX.seq ?_
  refine JX.region ?_
  refine JL.val (yl_assign rfl) rfl ?_
  refine JL.nil ?_
  refine JE.code ?_
  refine JX.seq ?_
  refine JX.seq ?_
  refine JX.region ?_
  refine JL.val (yl_move rfl) rfl ?_
  obtain ⟨x1, hx1, hres⟩ := bind_some hres
  refine JL.eff (ef_call (T := T9 x1) Go.Proofs.Try.func9 rfl (by kernel_rfl) rfl (fun w hC => c9 (rd_arg g_0 hC) rfl k_0 hx1)) rfl ?_
  rintro _ _ ⟨_, ⟨rfl, rfl⟩, rfl⟩
  refine JL.nil ?_
  refine JE.code ?_
  rcases cond_some hres with ⟨hb, hres⟩ | ⟨hb, hres⟩
  · refine JX.condT rfl hb ?_
    refine JX.seq ?_
    refine JX.region ?_
    refine JL.val (yl_assign rfl) rfl ?_
    refine JL.nil ?_
    refine JE.code ?_
    refine JX.ret ?_
    obtain rfl := Option.some.inj hres
    refine JE.ret (rs := [.tmp 2]) (vs := [.bool true]) rfl ⟨rfl, trivial⟩ ?_
    exact fun w' hb hs => ⟨_, _, ⟨rfl, rfl⟩, rfl, hb, hs.sel [] _ (by decide) rfl⟩
  · refine JX.condF rfl hb ?_
    refine JX.skip ?_
    refine JE.code ?_
    refine JX.seq ?_
    refine JX.region ?_
    refine JL.val (yl_move rfl) rfl ?_
    obtain ⟨x2, hx2, hres⟩ := bind_some hres
    refine JL.eff (ef_call (T := T21 x2) Go.Proofs.Try.func21 rfl (by kernel_rfl) rfl (fun w hC => c21 (rd_arg g_0 hC) rfl k_0 hx2)) rfl ?_
    rintro _ _ ⟨_, ⟨a3, _, cp4, rfl, rfl, rfl⟩, rfl⟩
    refine JL.val (yl_move rfl) rfl ?_
    refine JL.val (yl_extract rfl rfl) rfl ?_
    refine JL.val (yl_extract rfl rfl) rfl ?_
    refine JL.eff (ef_alloc i42 i42z rfl) rfl ?_
    rintro _ _ ⟨g6, rfl, rfl⟩
    refine JL.val (yl_assign rfl) rfl ?_
    refine JL.eff (ef_store_box (i := 1) (v := .agg #[.int .i64 x2.2.X, .int .i64 x2.2.Y]) i42 rfl rfl rfl (i42s).symm (Nat.le_of_ble_eq_true rfl) (by simp [Value.cells, Value.oneCell'])) rfl ?_
    rintro _ _ rfl
    refine JL.nil ?_
    refine JE.weak (env' := [(0, .slice a_0 q0.length c_0), (3, .slice a3 x2.1.length cp4), (4, ptrAt (some ⟨g6, 0, none⟩) 0)]) (es' := [rowT 42 eSPoint a3 x2.1.length cp4 x2.1, boxO 42 g6 [.int .i64 x2.2.X, .int .i64 x2.2.Y]]) [0, 1] ?_ ⟨rfl, rfl, rfl, trivial⟩ (by decide) rfl
    refine JE.code ?_
    refine JX.seq ?_
    refine JX.region ?_
    refine JL.val (yl_move rfl) rfl ?_
    refine JL.val (yl_loadn Go.Proofs.Try.underlying42 rfl i42 rfl (fun w hC => rd_box hC 1 rfl) rfl (i42s).symm i42p) rfl ?_
    obtain ⟨x8, hx8, hres⟩ := bind_some hres
    refine JL.eff (ef_call (vs := [.slice a3 x2.1.length cp4, .agg #[.int .i64 x2.2.X, .int .i64 x2.2.Y]]) (T := T22 x8) Go.Proofs.Try.func22 rfl (by kernel_rfl) rfl (fun w hC => c22 (q1 := x2.2) (rd_row hC 0 rfl) rfl (ln_row hC 0 rfl) hx8)) rfl ?_
    rintro _ _ ⟨_, ⟨a9, _, cp10, rfl, rfl, rfl⟩, rfl⟩
    refine JL.val (yl_move rfl) rfl ?_
    refine JL.val (yl_extract rfl rfl) rfl ?_
    refine JL.val (yl_extract rfl rfl) rfl ?_
    refine JL.val (yl_assign rfl) rfl ?_
    refine JL.val (yl_assign rfl) rfl ?_
    refine JL.nil ?_
    refine JE.weak (env' := [(0, .slice a_0 q0.length c_0), (3, .slice a3 x2.1.length cp4), (4, ptrAt (some ⟨g6, 0, none⟩) 0), (5, .slice a9 x8.1.length cp10), (6, .int .i64 x8.2)]) (es' := [rowT 42 eSPoint a3 x2.1.length cp4 x2.1, boxO 42 g6 [.int .i64 x2.2.X, .int .i64 x2.2.Y], rowT 42 eSPoint a9 x8.1.length cp10 x8.1]) [0, 1, 2] ?_ ⟨rfl, rfl, rfl, rfl, rfl, trivial⟩ (by decide) rfl
    refine JE.code ?_
    refine JX.seq ?_
    refine JX.region ?_
    refine JL.val (yl_move rfl) rfl ?_
    refine JL.val (yl_loadn Go.Proofs.Try.underlying42 rfl i42 rfl (fun w hC => rd_box hC 1 rfl) rfl (i42s).symm i42p) rfl ?_
    obtain ⟨x12, hx12, hres⟩ := bind_some hres
    refine JL.eff (ef_call (vs := [.slice a3 x2.1.length cp4, .agg #[.int .i64 x2.2.X, .int .i64 x2.2.Y]]) (T := T23 x12) Go.Proofs.Try.func23 rfl (by kernel_rfl) rfl (fun w hC => c23 (q1 := x2.2) (rd_row hC 0 rfl) rfl (ln_row hC 0 rfl) hx12)) rfl ?_
    rintro _ _ ⟨_, ⟨a13, _, cp14, rfl, rfl, rfl⟩, rfl⟩
    refine JL.val (yl_move rfl) rfl ?_
    refine JL.val (yl_extract rfl rfl) rfl ?_
    refine JL.val (yl_extract rfl rfl) rfl ?_
    refine JL.val (yl_assign rfl) rfl ?_
    refine JL.val (yl_assign rfl) rfl ?_
    refine JL.nil ?_
    refine JE.weak (env' := [(0, .slice a_0 q0.length c_0), (3, .slice a3 x2.1.length cp4), (5, .slice a9 x8.1.length cp10), (6, .int .i64 x8.2), (7, .slice a13 x12.1.length cp14), (8, .int .i64 x12.2)]) (es' := [rowT 42 eSPoint a3 x2.1.length cp4 x2.1, rowT 42 eSPoint a9 x8.1.length cp10 x8.1, rowT 42 eSPoint a13 x12.1.length cp14 x12.1]) [0, 2, 3] ?_ ⟨rfl, rfl, rfl, rfl, rfl, rfl, trivial⟩ (by decide) rfl
    refine JE.code ?_
    refine JX.seq ?_
    refine JX.region ?_
    refine JL.val (yl_move rfl) rfl ?_
    obtain ⟨x16, hx16, hres⟩ := bind_some hres
    refine JL.eff (ef_call (T := T24 x16) Go.Proofs.Try.func24 rfl (by kernel_rfl) rfl (fun w hC => c24 (rd_arg g_0 hC) rfl k_0 hx16)) rfl ?_
    rintro _ _ ⟨_, ⟨a17, _, cp18, rfl, rfl, rfl⟩, rfl⟩
    refine JL.val (yl_move rfl) rfl ?_
    refine JL.val (yl_extract rfl rfl) rfl ?_
    refine JL.val (yl_extract rfl rfl) rfl ?_
    refine JL.eff (ef_alloc i42 i42z rfl) rfl ?_
    rintro _ _ ⟨g20, rfl, rfl⟩
    refine JL.val (yl_assign rfl) rfl ?_
    refine JL.eff (ef_store_box (i := 4) (v := .agg #[.int .i64 x16.2.X, .int .i64 x16.2.Y]) i42 rfl rfl rfl (i42s).symm (Nat.le_of_ble_eq_true rfl) (by simp [Value.cells, Value.oneCell'])) rfl ?_
    rintro _ _ rfl
    refine JL.nil ?_
    refine JE.weak (env' := [(0, .slice a_0 q0.length c_0), (3, .slice a3 x2.1.length cp4), (5, .slice a9 x8.1.length cp10), (6, .int .i64 x8.2), (7, .slice a13 x12.1.length cp14), (8, .int .i64 x12.2), (9, .slice a17 x16.1.length cp18), (10, ptrAt (some ⟨g20, 0, none⟩) 0)]) (es' := [rowT 42 eSPoint a3 x2.1.length cp4 x2.1, rowT 42 eSPoint a9 x8.1.length cp10 x8.1, rowT 42 eSPoint a13 x12.1.length cp14 x12.1, rowT 42 eSPoint a17 x16.1.length cp18 x16.1, boxO 42 g20 [.int .i64 x16.2.X, .int .i64 x16.2.Y]]) [0, 1, 2, 3, 4] ?_ ⟨rfl, rfl, rfl, rfl, rfl, rfl, rfl, rfl, trivial⟩ (by decide) rfl
    refine JE.code ?_
    refine JX.seq ?_
    refine JX.region ?_
    refine JL.val (yl_move rfl) rfl ?_
    refine JL.val (yl_loadn Go.Proofs.Try.underlying42 rfl i42 rfl (fun w hC => rd_box hC 4 rfl) rfl (i42s).symm i42p) rfl ?_
    obtain ⟨x22, hx22, hres⟩ := bind_some hres
    refine JL.eff (ef_call (vs := [.slice a17 x16.1.length cp18, .agg #[.int .i64 x16.2.X, .int .i64 x16.2.Y]]) (T := T20 x22) Go.Proofs.Try.func20 rfl (by kernel_rfl) rfl (fun w hC => c20 (q1 := x16.2) (rd_row hC 3 rfl) rfl (ln_row hC 3 rfl) hx22)) rfl ?_
    rintro _ _ ⟨_, ⟨rfl, rfl⟩, rfl⟩
    refine JL.val (yl_move rfl) rfl ?_
    refine JL.val (yl_extract rfl rfl) rfl ?_
    refine JL.val (yl_extract rfl rfl) rfl ?_
    refine JL.val (yl_assign rfl) rfl ?_
    refine JL.val (yl_assign rfl) rfl ?_
    refine JL.nil ?_
    refine JE.weak (env' := [(0, .slice a_0 q0.length c_0), (3, .slice a3 x2.1.length cp4), (5, .slice a9 x8.1.length cp10), (6, .int .i64 x8.2), (7, .slice a13 x12.1.length cp14), (8, .int .i64 x12.2), (9, .slice a17 x16.1.length cp18), (10, ptrAt (some ⟨g20, 0, none⟩) 0), (11, .int .i64 x22.1), (12, .int .i64 x22.2)]) (es' := [rowT 42 eSPoint a3 x2.1.length cp4 x2.1, rowT 42 eSPoint a9 x8.1.length cp10 x8.1, rowT 42 eSPoint a13 x12.1.length cp14 x12.1, rowT 42 eSPoint a17 x16.1.length cp18 x16.1, boxO 42 g20 [.int .i64 x16.2.X, .int .i64 x16.2.Y]]) [0, 1, 2, 3, 4] ?_ ⟨rfl, rfl, rfl, rfl, rfl, rfl, rfl, rfl, rfl, rfl, trivial⟩ (by decide) rfl
    refine JE.code ?_
    refine JX.seq ?_
    refine JX.region ?_
    refine JL.val (yl_move rfl) rfl ?_
    refine JL.val (yl_loadn Go.Proofs.Try.underlying42 rfl i42 rfl (fun w hC => rd_box hC 4 rfl) rfl (i42s).symm i42p) rfl ?_
    obtain ⟨x23, hx23, hres⟩ := bind_some hres
    refine JL.eff (ef_call (vs := [.slice a17 x16.1.length cp18, .agg #[.int .i64 x16.2.X, .int .i64 x16.2.Y]]) (T := T25 x23) Go.Proofs.Try.func25 rfl (by kernel_rfl) rfl (fun w hC => c25 (q1 := x16.2) (rd_row hC 3 rfl) rfl (ln_row hC 3 rfl) hx23)) rfl ?_
    rintro _ _ ⟨_, ⟨rfl, rfl⟩, rfl⟩
    refine JL.val (yl_move rfl) rfl ?_
    refine JL.val (yl_extract rfl rfl) rfl ?_
    refine JL.val (yl_extract rfl rfl) rfl ?_
    refine JL.val (yl_assign rfl) rfl ?_
    refine JL.val (yl_assign rfl) rfl ?_
    refine JL.nil ?_
    refine JE.weak (env' := [(0, .slice a_0 q0.length c_0), (3, .slice a3 x2.1.length cp4), (5, .slice a9 x8.1.length cp10), (6, .int .i64 x8.2), (7, .slice a13 x12.1.length cp14), (8, .int .i64 x12.2), (9, .slice a17 x16.1.length cp18), (10, ptrAt (some ⟨g20, 0, none⟩) 0), (11, .int .i64 x22.1), (12, .int .i64 x22.2), (13, .int .i64 x23.1), (14, .int .i64 x23.2)]) (es' := [rowT 42 eSPoint a3 x2.1.length cp4 x2.1, rowT 42 eSPoint a9 x8.1.length cp10 x8.1, rowT 42 eSPoint a13 x12.1.length cp14 x12.1, rowT 42 eSPoint a17 x16.1.length cp18 x16.1, boxO 42 g20 [.int .i64 x16.2.X, .int .i64 x16.2.Y]]) [0, 1, 2, 3, 4] ?_ ⟨rfl, rfl, rfl, rfl, rfl, rfl, rfl, rfl, rfl, rfl, rfl, rfl, trivial⟩ (by decide) rfl
    refine JE.code ?_
    refine JX.seq ?_
    refine JX.region ?_
    refine JL.val (yl_move rfl) rfl ?_
    obtain ⟨x24, hx24, hres⟩ := bind_some hres
    refine JL.eff (ef_call (T := T26 x24) Go.Proofs.Try.func26 rfl (by kernel_rfl) rfl (fun w hC => c26 (rd_arg g_0 hC) rfl k_0 hx24)) rfl ?_
    rintro _ _ ⟨_, ⟨a25, _, cp26, rfl, rfl, rfl⟩, rfl⟩
    refine JL.val (yl_assign rfl) rfl ?_
    refine JL.nil ?_
    refine JE.code ?_
    refine JX.seq ?_
    refine JX.region ?_
    refine JL.val (yl_move rfl) rfl ?_
    obtain ⟨x28, hx28, hres⟩ := bind_some hres
    refine JL.eff (ef_call (T := T27 x28) Go.Proofs.Try.func27 rfl (by kernel_rfl) rfl (fun w hC => c27 (rd_row hC 5 rfl) rfl (ln_row hC 5 rfl) hx28)) rfl ?_
    rintro _ _ ⟨_, ⟨rfl, rfl⟩, rfl⟩
    refine JL.val (yl_move rfl) rfl ?_
    refine JL.val (yl_extract rfl rfl) rfl ?_
    refine JL.val (yl_extract rfl rfl) rfl ?_
    refine JL.val (yl_extract rfl rfl) rfl ?_
    refine JL.eff (ef_alloc i42 i42z rfl) rfl ?_
    rintro _ _ ⟨g29, rfl, rfl⟩
    refine JL.eff (ef_alloc i42 i42z rfl) rfl ?_
    rintro _ _ ⟨g31, rfl, rfl⟩
    refine JL.eff (ef_store_box (i := 6) (v := .agg #[.int .i64 x28.1.X, .int .i64 x28.1.Y]) i42 rfl rfl rfl (i42s).symm (Nat.le_of_ble_eq_true rfl) (by simp [Value.cells, Value.oneCell'])) rfl ?_
    rintro _ _ rfl
    refine JL.eff (ef_store_box (i := 7) (v := .agg #[.int .i64 x28.2.1.X, .int .i64 x28.2.1.Y]) i42 rfl rfl rfl (i42s).symm (Nat.le_of_ble_eq_true rfl) (by simp [Value.cells, Value.oneCell'])) rfl ?_
    rintro _ _ rfl
    refine JL.val (yl_assign rfl) rfl ?_
    refine JL.nil ?_
    refine JE.weak (env' := [(0, .slice a_0 q0.length c_0), (3, .slice a3 x2.1.length cp4), (5, .slice a9 x8.1.length cp10), (6, .int .i64 x8.2), (7, .slice a13 x12.1.length cp14), (8, .int .i64 x12.2), (9, .slice a17 x16.1.length cp18), (10, ptrAt (some ⟨g20, 0, none⟩) 0), (11, .int .i64 x22.1), (12, .int .i64 x22.2), (13, .int .i64 x23.1), (14, .int .i64 x23.2), (15, .slice a25 x24.length cp26), (16, ptrAt (some ⟨g29, 0, none⟩) 0), (17, ptrAt (some ⟨g31, 0, none⟩) 0), (18, .int .i64 x28.2.2)]) (es' := [rowT 42 eSPoint a3 x2.1.length cp4 x2.1, rowT 42 eSPoint a9 x8.1.length cp10 x8.1, rowT 42 eSPoint a13 x12.1.length cp14 x12.1, rowT 42 eSPoint a17 x16.1.length cp18 x16.1, boxO 42 g20 [.int .i64 x16.2.X, .int .i64 x16.2.Y], rowT 42 eSPoint a25 x24.length cp26 x24, boxO 42 g29 [.int .i64 x28.1.X, .int .i64 x28.1.Y], boxO 42 g31 [.int .i64 x28.2.1.X, .int .i64 x28.2.1.Y]]) [0, 1, 2, 3, 4, 5, 6, 7] ?_ ⟨rfl, rfl, rfl, rfl, rfl, rfl, rfl, rfl, rfl, rfl, rfl, rfl, rfl, rfl, rfl, rfl, trivial⟩ (by decide) rfl
    refine JE.code ?_
    refine JX.seq ?_
    refine JX.region ?_
    refine JL.val (yl_move rfl) rfl ?_
    obtain ⟨x33, hx33, hres⟩ := bind_some hres
    refine JL.eff (ef_call (T := T28 x33) Go.Proofs.Try.func28 rfl (by kernel_rfl) rfl (fun w hC => c28 (rd_row hC 5 rfl) rfl (ln_row hC 5 rfl) hx33)) rfl ?_
    rintro _ _ ⟨_, ⟨rfl, rfl⟩, rfl⟩
    refine JL.val (yl_move rfl) rfl ?_
    refine JL.val (yl_extract rfl rfl) rfl ?_
    refine JL.val (yl_extract rfl rfl) rfl ?_
    refine JL.val (yl_extract rfl rfl) rfl ?_
    refine JL.eff (ef_alloc i42 i42z rfl) rfl ?_
    rintro _ _ ⟨g34, rfl, rfl⟩
    refine JL.eff (ef_alloc i42 i42z rfl) rfl ?_
    rintro _ _ ⟨g36, rfl, rfl⟩
    refine JL.eff (ef_store_box (i := 8) (v := .agg #[.int .i64 x33.1.X, .int .i64 x33.1.Y]) i42 rfl rfl rfl (i42s).symm (Nat.le_of_ble_eq_true rfl) (by simp [Value.cells, Value.oneCell'])) rfl ?_
    rintro _ _ rfl
    refine JL.eff (ef_store_box (i := 9) (v := .agg #[.int .i64 x33.2.1.X, .int .i64 x33.2.1.Y]) i42 rfl rfl rfl (i42s).symm (Nat.le_of_ble_eq_true rfl) (by simp [Value.cells, Value.oneCell'])) rfl ?_
    rintro _ _ rfl
    refine JL.val (yl_assign rfl) rfl ?_
    refine JL.nil ?_
    refine JE.weak (env' := [(0, .slice a_0 q0.length c_0), (3, .slice a3 x2.1.length cp4), (5, .slice a9 x8.1.length cp10), (6, .int .i64 x8.2), (7, .slice a13 x12.1.length cp14), (8, .int .i64 x12.2), (9, .slice a17 x16.1.length cp18), (10, ptrAt (some ⟨g20, 0, none⟩) 0), (11, .int .i64 x22.1), (12, .int .i64 x22.2), (13, .int .i64 x23.1), (14, .int .i64 x23.2), (16, ptrAt (some ⟨g29, 0, none⟩) 0), (17, ptrAt (some ⟨g31, 0, none⟩) 0), (18, .int .i64 x28.2.2), (19, ptrAt (some ⟨g34, 0, none⟩) 0), (20, ptrAt (some ⟨g36, 0, none⟩) 0), (21, .int .i64 x33.2.2)]) (es' := [rowT 42 eSPoint a3 x2.1.length cp4 x2.1, rowT 42 eSPoint a9 x8.1.length cp10 x8.1, rowT 42 eSPoint a13 x12.1.length cp14 x12.1, rowT 42 eSPoint a17 x16.1.length cp18 x16.1, boxO 42 g20 [.int .i64 x16.2.X, .int .i64 x16.2.Y], boxO 42 g29 [.int .i64 x28.1.X, .int .i64 x28.1.Y], boxO 42 g31 [.int .i64 x28.2.1.X, .int .i64 x28.2.1.Y], boxO 42 g34 [.int .i64 x33.1.X, .int .i64 x33.1.Y], boxO 42 g36 [.int .i64 x33.2.1.X, .int .i64 x33.2.1.Y]]) [0, 1, 2, 3, 4, 6, 7, 8, 9] ?_ ⟨rfl, rfl, rfl, rfl, rfl, rfl, rfl, rfl, rfl, rfl, rfl, rfl, rfl, rfl, rfl, rfl, rfl, rfl, trivial⟩ (by decide) rfl
    refine JE.code ?_
    refine JX.seq ?_
    refine JX.region ?_
    refine JL.val (yl_move rfl) rfl ?_
    obtain ⟨x38, hx38, hres⟩ := bind_some hres
    refine JL.eff (ef_call (T := T29 x38) Go.Proofs.Try.func29 rfl (by kernel_rfl) rfl (fun w hC => c29 (rd_arg g_0 hC) rfl k_0 hx38)) rfl ?_
    rintro _ _ ⟨_, ⟨a39, _, cp40, rfl, rfl, rfl⟩, rfl⟩
    refine JL.val (yl_assign rfl) rfl ?_
    refine JL.nil ?_
    refine JE.code ?_
    refine JX.seq ?_
    refine JX.region ?_
    refine JL.val (yl_move rfl) rfl ?_
    obtain ⟨x42, hx42, hres⟩ := bind_some hres
    refine JL.eff (ef_call (T := T18 x42) Go.Proofs.Try.func18 rfl (by kernel_rfl) rfl (fun w hC => c18 (rd_row hC 9 rfl) rfl (ln_row hC 9 rfl) hx42)) rfl ?_
    rintro _ _ ⟨_, ⟨rfl, rfl⟩, rfl⟩
    refine JL.val (yl_move rfl) rfl ?_
    refine JL.val (yl_extract rfl rfl) rfl ?_
    refine JL.val (yl_extract rfl rfl) rfl ?_
    refine JL.val (yl_assign rfl) rfl ?_
    refine JL.val (yl_assign rfl) rfl ?_
    refine JL.nil ?_
    refine JE.weak (env' := [(0, .slice a_0 q0.length c_0), (3, .slice a3 x2.1.length cp4), (5, .slice a9 x8.1.length cp10), (6, .int .i64 x8.2), (7, .slice a13 x12.1.length cp14), (8, .int .i64 x12.2), (9, .slice a17 x16.1.length cp18), (10, ptrAt (some ⟨g20, 0, none⟩) 0), (11, .int .i64 x22.1), (12, .int .i64 x22.2), (13, .int .i64 x23.1), (14, .int .i64 x23.2), (16, ptrAt (some ⟨g29, 0, none⟩) 0), (17, ptrAt (some ⟨g31, 0, none⟩) 0), (18, .int .i64 x28.2.2), (19, ptrAt (some ⟨g34, 0, none⟩) 0), (20, ptrAt (some ⟨g36, 0, none⟩) 0), (21, .int .i64 x33.2.2), (22, .slice a39 x38.length cp40), (23, .int .i64 x42.1), (24, .int .i64 x42.2)]) (es' := [rowT 42 eSPoint a3 x2.1.length cp4 x2.1, rowT 42 eSPoint a9 x8.1.length cp10 x8.1, rowT 42 eSPoint a13 x12.1.length cp14 x12.1, rowT 42 eSPoint a17 x16.1.length cp18 x16.1, boxO 42 g20 [.int .i64 x16.2.X, .int .i64 x16.2.Y], boxO 42 g29 [.int .i64 x28.1.X, .int .i64 x28.1.Y], boxO 42 g31 [.int .i64 x28.2.1.X, .int .i64 x28.2.1.Y], boxO 42 g34 [.int .i64 x33.1.X, .int .i64 x33.1.Y], boxO 42 g36 [.int .i64 x33.2.1.X, .int .i64 x33.2.1.Y], rowT 42 eSPoint a39 x38.length cp40 x38]) [0, 1, 2, 3, 4, 5, 6, 7, 8, 9] ?_ ⟨rfl, rfl, rfl, rfl, rfl, rfl, rfl, rfl, rfl, rfl, rfl, rfl, rfl, rfl, rfl, rfl, rfl, rfl, rfl, rfl, rfl, trivial⟩ (by decide) rfl
    refine JE.code ?_
    refine JX.seq ?_
    refine JX.region ?_
    refine JL.val (yl_move rfl) rfl ?_
    obtain ⟨x43, hx43, hres⟩ := bind_some hres
    refine JL.eff (ef_call (T := T30 x43) Go.Proofs.Try.func30 rfl (by kernel_rfl) rfl (fun w hC => c30 (rd_row hC 9 rfl) rfl (ln_row hC 9 rfl) hx43)) rfl ?_
    rintro _ _ ⟨_, ⟨rfl, rfl⟩, rfl⟩
    refine JL.val (yl_move rfl) rfl ?_
    refine JL.val (yl_extract rfl rfl) rfl ?_
    refine JL.val (yl_extract rfl rfl) rfl ?_
    refine JL.val (yl_assign rfl) rfl ?_
    refine JL.val (yl_assign rfl) rfl ?_
    refine JL.nil ?_
    refine JE.weak (env' := [(0, .slice a_0 q0.length c_0), (3, .slice a3 x2.1.length cp4), (5, .slice a9 x8.1.length cp10), (6, .int .i64 x8.2), (7, .slice a13 x12.1.length cp14), (8, .int .i64 x12.2), (9, .slice a17 x16.1.length cp18), (10, ptrAt (some ⟨g20, 0, none⟩) 0), (11, .int .i64 x22.1), (12, .int .i64 x22.2), (13, .int .i64 x23.1), (14, .int .i64 x23.2), (16, ptrAt (some ⟨g29, 0, none⟩) 0), (17, ptrAt (some ⟨g31, 0, none⟩) 0), (18, .int .i64 x28.2.2), (19, ptrAt (some ⟨g34, 0, none⟩) 0), (20, ptrAt (some ⟨g36, 0, none⟩) 0), (21, .int .i64 x33.2.2), (23, .int .i64 x42.1), (24, .int .i64 x42.2), (25, .int .i64 x43.1), (26, .int .i64 x43.2)]) (es' := [rowT 42 eSPoint a3 x2.1.length cp4 x2.1, rowT 42 eSPoint a9 x8.1.length cp10 x8.1, rowT 42 eSPoint a13 x12.1.length cp14 x12.1, rowT 42 eSPoint a17 x16.1.length cp18 x16.1, boxO 42 g20 [.int .i64 x16.2.X, .int .i64 x16.2.Y], boxO 42 g29 [.int .i64 x28.1.X, .int .i64 x28.1.Y], boxO 42 g31 [.int .i64 x28.2.1.X, .int .i64 x28.2.1.Y], boxO 42 g34 [.int .i64 x33.1.X, .int .i64 x33.1.Y], boxO 42 g36 [.int .i64 x33.2.1.X, .int .i64 x33.2.1.Y]]) [0, 1, 2, 3, 4, 5, 6, 7, 8] ?_ ⟨rfl, rfl, rfl, rfl, rfl, rfl, rfl, rfl, rfl, rfl, rfl, rfl, rfl, rfl, rfl, rfl, rfl, rfl, rfl, rfl, rfl, rfl, trivial⟩ (by decide) rfl
    refine JE.code ?_
    refine JX.seq ?_
    refine JX.region ?_
    refine JL.val (yl_move rfl) rfl ?_
    obtain ⟨x44, hx44, hres⟩ := bind_some hres
    refine JL.eff (ef_call (T := T31 x44) Go.Proofs.Try.func31 rfl (by kernel_rfl) rfl (fun w hC => c31 (rd_arg g_0 hC) rfl k_0 hx44)) rfl ?_
    rintro _ _ ⟨_, ⟨a45, _, cp46, rfl, rfl, rfl⟩, rfl⟩
    refine JL.val (yl_assign rfl) rfl ?_
    refine JL.nil ?_
    refine JE.code ?_
    refine JX.seq ?_
    refine JX.region ?_
    refine JL.val (yl_move rfl) rfl ?_
    obtain ⟨x48, hx48, hres⟩ := bind_some hres
    refine JL.eff (ef_call (T := T32 x48) Go.Proofs.Try.func32 rfl (by kernel_rfl) rfl (fun w hC => c32 (rd_row hC 9 rfl) rfl (ln_row hC 9 rfl) hx48)) rfl ?_
    rintro _ _ ⟨_, ⟨rfl, rfl⟩, rfl⟩
    refine JL.val (yl_move rfl) rfl ?_
    refine JL.val (yl_extract rfl rfl) rfl ?_
    refine JL.val (yl_extract rfl rfl) rfl ?_
    refine JL.val (yl_assign rfl) rfl ?_
    refine JL.val (yl_assign rfl) rfl ?_
    refine JL.nil ?_
    refine JE.weak (env' := [(0, .slice a_0 q0.length c_0), (3, .slice a3 x2.1.length cp4), (5, .slice a9 x8.1.length cp10), (6, .int .i64 x8.2), (7, .slice a13 x12.1.length cp14), (8, .int .i64 x12.2), (9, .slice a17 x16.1.length cp18), (10, ptrAt (some ⟨g20, 0, none⟩) 0), (11, .int .i64 x22.1), (12, .int .i64 x22.2), (13, .int .i64 x23.1), (14, .int .i64 x23.2), (16, ptrAt (some ⟨g29, 0, none⟩) 0), (17, ptrAt (some ⟨g31, 0, none⟩) 0), (18, .int .i64 x28.2.2), (19, ptrAt (some ⟨g34, 0, none⟩) 0), (20, ptrAt (some ⟨g36, 0, none⟩) 0), (21, .int .i64 x33.2.2), (23, .int .i64 x42.1), (24, .int .i64 x42.2), (25, .int .i64 x43.1), (26, .int .i64 x43.2), (27, .slice a45 x44.length cp46), (28, .int .i64 x48.1), (29, .int .i64 x48.2)]) (es' := [rowT 42 eSPoint a3 x2.1.length cp4 x2.1, rowT 42 eSPoint a9 x8.1.length cp10 x8.1, rowT 42 eSPoint a13 x12.1.length cp14 x12.1, rowT 42 eSPoint a17 x16.1.length cp18 x16.1, boxO 42 g20 [.int .i64 x16.2.X, .int .i64 x16.2.Y], boxO 42 g29 [.int .i64 x28.1.X, .int .i64 x28.1.Y], boxO 42 g31 [.int .i64 x28.2.1.X, .int .i64 x28.2.1.Y], boxO 42 g34 [.int .i64 x33.1.X, .int .i64 x33.1.Y], boxO 42 g36 [.int .i64 x33.2.1.X, .int .i64 x33.2.1.Y], rowT 42 eSPoint a45 x44.length cp46 x44]) [0, 1, 2, 3, 4, 5, 6, 7, 8, 9] ?_ ⟨rfl, rfl, rfl, rfl, rfl, rfl, rfl, rfl, rfl, rfl, rfl, rfl, rfl, rfl, rfl, rfl, rfl, rfl, rfl, rfl, rfl, rfl, rfl, rfl, rfl, trivial⟩ (by decide) rfl
    refine JE.code ?_
    refine JX.seq ?_
    refine JX.region ?_
    refine JL.val (yl_move rfl) rfl ?_
    obtain ⟨x49, hx49, hres⟩ := bind_some hres
    refine JL.eff (ef_call (T := T33 x49) Go.Proofs.Try.func33 rfl (by kernel_rfl) rfl (fun w hC => c33 (rd_row hC 9 rfl) rfl (ln_row hC 9 rfl) hx49)) rfl ?_
    rintro _ _ ⟨_, ⟨rfl, rfl⟩, rfl⟩
    refine JL.val (yl_move rfl) rfl ?_
    refine JL.val (yl_extract rfl rfl) rfl ?_
    refine JL.val (yl_extract rfl rfl) rfl ?_
    refine JL.val (yl_assign rfl) rfl ?_
    refine JL.val (yl_assign rfl) rfl ?_
    refine JL.nil ?_
    refine JE.weak (env' := [(0, .slice a_0 q0.length c_0), (3, .slice a3 x2.1.length cp4), (5, .slice a9 x8.1.length cp10), (6, .int .i64 x8.2), (7, .slice a13 x12.1.length cp14), (8, .int .i64 x12.2), (9, .slice a17 x16.1.length cp18), (10, ptrAt (some ⟨g20, 0, none⟩) 0), (11, .int .i64 x22.1), (12, .int .i64 x22.2), (13, .int .i64 x23.1), (14, .int .i64 x23.2), (16, ptrAt (some ⟨g29, 0, none⟩) 0), (17, ptrAt (some ⟨g31, 0, none⟩) 0), (18, .int .i64 x28.2.2), (19, ptrAt (some ⟨g34, 0, none⟩) 0), (20, ptrAt (some ⟨g36, 0, none⟩) 0), (21, .int .i64 x33.2.2), (23, .int .i64 x42.1), (24, .int .i64 x42.2), (25, .int .i64 x43.1), (26, .int .i64 x43.2), (28, .int .i64 x48.1), (29, .int .i64 x48.2), (30, .int .i64 x49.1), (31, .int .i64 x49.2)]) (es' := [rowT 42 eSPoint a3 x2.1.length cp4 x2.1, rowT 42 eSPoint a9 x8.1.length cp10 x8.1, rowT 42 eSPoint a13 x12.1.length cp14 x12.1, rowT 42 eSPoint a17 x16.1.length cp18 x16.1, boxO 42 g20 [.int .i64 x16.2.X, .int .i64 x16.2.Y], boxO 42 g29 [.int .i64 x28.1.X, .int .i64 x28.1.Y], boxO 42 g31 [.int .i64 x28.2.1.X, .int .i64 x28.2.1.Y], boxO 42 g34 [.int .i64 x33.1.X, .int .i64 x33.1.Y], boxO 42 g36 [.int .i64 x33.2.1.X, .int .i64 x33.2.1.Y]]) [0, 1, 2, 3, 4, 5, 6, 7, 8] ?_ ⟨rfl, rfl, rfl, rfl, rfl, rfl, rfl, rfl, rfl, rfl, rfl, rfl, rfl, rfl, rfl, rfl, rfl, rfl, rfl, rfl, rfl, rfl, rfl, rfl, rfl, rfl, trivial⟩ (by decide) rfl
    refine JE.code ?_
    refine JX.seq ?_
    refine JX.region ?_
    refine JL.val (yl_move rfl) rfl ?_
    obtain ⟨x50, hx50, hres⟩ := bind_some hres
    refine JL.eff (ef_call (T := T34 x50) Go.Proofs.Try.func34 rfl (by kernel_rfl) rfl (fun w hC => c34 (rd_arg g_0 hC) rfl k_0 hx50)) rfl ?_
    rintro _ _ ⟨_, ⟨a51, _, cp52, rfl, rfl, rfl⟩, rfl⟩
    refine JL.val (yl_assign rfl) rfl ?_
    refine JL.nil ?_
    refine JE.code ?_
    refine JX.seq ?_
    refine JX.seq ?_
    refine JX.region ?_
    refine JL.val (yl_move rfl) rfl ?_
    refine JL.val (yl_move rfl) rfl ?_
    refine JL.val (yl_neq rfl rfl) rfl ?_
    refine JL.val (yl_move rfl) rfl ?_
    obtain ⟨cb54, hcb54, hres⟩ := bind_some hres
    refine JL.cut (K := fun J => J [(3, .slice a3 x2.1.length cp4), (5, .slice a9 x8.1.length cp10), (6, .int .i64 x8.2), (9, .slice a17 x16.1.length cp18), (10, ptrAt (some ⟨g20, 0, none⟩) 0), (11, .int .i64 x22.1), (12, .int .i64 x22.2), (13, .int .i64 x23.1), (14, .int .i64 x23.2), (16, ptrAt (some ⟨g29, 0, none⟩) 0), (17, ptrAt (some ⟨g31, 0, none⟩) 0), (18, .int .i64 x28.2.2), (19, ptrAt (some ⟨g34, 0, none⟩) 0), (20, ptrAt (some ⟨g36, 0, none⟩) 0), (21, .int .i64 x33.2.2), (23, .int .i64 x42.1), (24, .int .i64 x42.2), (25, .int .i64 x43.1), (26, .int .i64 x43.2), (28, .int .i64 x48.1), (29, .int .i64 x48.2), (30, .int .i64 x49.1), (31, .int .i64 x49.2), (32, .slice a51 x50.length cp52), (127, .bool cb54)] [rowT 42 eSPoint a3 x2.1.length cp4 x2.1, rowT 42 eSPoint a9 x8.1.length cp10 x8.1, rowT 42 eSPoint a17 x16.1.length cp18 x16.1, boxO 42 g20 [.int .i64 x16.2.X, .int .i64 x16.2.Y], boxO 42 g29 [.int .i64 x28.1.X, .int .i64 x28.1.Y], boxO 42 g31 [.int .i64 x28.2.1.X, .int .i64 x28.2.1.Y], boxO 42 g34 [.int .i64 x33.1.X, .int .i64 x33.1.Y], boxO 42 g36 [.int .i64 x33.2.1.X, .int .i64 x33.2.1.Y], rowT 42 eSPoint a51 x50.length cp52 x50]) 5 ?_ ?_
    · refine JL.val (yl_move rfl) rfl ?_
      refine JL.cut (K := fun J => J [(3, .slice a3 x2.1.length cp4), (5, .slice a9 x8.1.length cp10), (6, .int .i64 x8.2), (9, .slice a17 x16.1.length cp18), (10, ptrAt (some ⟨g20, 0, none⟩) 0), (11, .int .i64 x22.1), (12, .int .i64 x22.2), (13, .int .i64 x23.1), (16, ptrAt (some ⟨g29, 0, none⟩) 0), (17, ptrAt (some ⟨g31, 0, none⟩) 0), (18, .int .i64 x28.2.2), (19, ptrAt (some ⟨g34, 0, none⟩) 0), (20, ptrAt (some ⟨g36, 0, none⟩) 0), (21, .int .i64 x33.2.2), (23, .int .i64 x42.1), (24, .int .i64 x42.2), (25, .int .i64 x43.1), (26, .int .i64 x43.2), (28, .int .i64 x48.1), (29, .int .i64 x48.2), (30, .int .i64 x49.1), (31, .int .i64 x49.2), (32, .slice a51 x50.length cp52), (132, .bool (cb54 || (x22.2 != x23.2)))] [rowT 42 eSPoint a3 x2.1.length cp4 x2.1, rowT 42 eSPoint a9 x8.1.length cp10 x8.1, rowT 42 eSPoint a17 x16.1.length cp18 x16.1, boxO 42 g20 [.int .i64 x16.2.X, .int .i64 x16.2.Y], boxO 42 g29 [.int .i64 x28.1.X, .int .i64 x28.1.Y], boxO 42 g31 [.int .i64 x28.2.1.X, .int .i64 x28.2.1.Y], boxO 42 g34 [.int .i64 x33.1.X, .int .i64 x33.1.Y], boxO 42 g36 [.int .i64 x33.2.1.X, .int .i64 x33.2.1.Y], rowT 42 eSPoint a51 x50.length cp52 x50]) 4 ?_ ?_
      · refine JL.val (yl_move rfl) rfl ?_
        refine JL.cut (K := fun J => J [(3, .slice a3 x2.1.length cp4), (5, .slice a9 x8.1.length cp10), (6, .int .i64 x8.2), (9, .slice a17 x16.1.length cp18), (10, ptrAt (some ⟨g20, 0, none⟩) 0), (11, .int .i64 x22.1), (12, .int .i64 x22.2), (16, ptrAt (some ⟨g29, 0, none⟩) 0), (17, ptrAt (some ⟨g31, 0, none⟩) 0), (18, .int .i64 x28.2.2), (19, ptrAt (some ⟨g34, 0, none⟩) 0), (20, ptrAt (some ⟨g36, 0, none⟩) 0), (21, .int .i64 x33.2.2), (23, .int .i64 x42.1), (24, .int .i64 x42.2), (25, .int .i64 x43.1), (26, .int .i64 x43.2), (28, .int .i64 x48.1), (29, .int .i64 x48.2), (30, .int .i64 x49.1), (31, .int .i64 x49.2), (32, .slice a51 x50.length cp52), (137, .bool ((cb54 || (x22.2 != x23.2)) || (x22.1 != x23.1)))] [rowT 42 eSPoint a3 x2.1.length cp4 x2.1, rowT 42 eSPoint a9 x8.1.length cp10 x8.1, rowT 42 eSPoint a17 x16.1.length cp18 x16.1, boxO 42 g20 [.int .i64 x16.2.X, .int .i64 x16.2.Y], boxO 42 g29 [.int .i64 x28.1.X, .int .i64 x28.1.Y], boxO 42 g31 [.int .i64 x28.2.1.X, .int .i64 x28.2.1.Y], boxO 42 g34 [.int .i64 x33.1.X, .int .i64 x33.1.Y], boxO 42 g36 [.int .i64 x33.2.1.X, .int .i64 x33.2.1.Y], rowT 42 eSPoint a51 x50.length cp52 x50]) 4 ?_ ?_
        · refine JL.val (yl_move rfl) rfl ?_
          refine JL.cut (K := fun J => J [(3, .slice a3 x2.1.length cp4), (5, .slice a9 x8.1.length cp10), (6, .int .i64 x8.2), (9, .slice a17 x16.1.length cp18), (10, ptrAt (some ⟨g20, 0, none⟩) 0), (11, .int .i64 x22.1), (12, .int .i64 x22.2), (16, ptrAt (some ⟨g29, 0, none⟩) 0), (17, ptrAt (some ⟨g31, 0, none⟩) 0), (19, ptrAt (some ⟨g34, 0, none⟩) 0), (20, ptrAt (some ⟨g36, 0, none⟩) 0), (23, .int .i64 x42.1), (24, .int .i64 x42.2), (25, .int .i64 x43.1), (26, .int .i64 x43.2), (28, .int .i64 x48.1), (29, .int .i64 x48.2), (30, .int .i64 x49.1), (31, .int .i64 x49.2), (32, .slice a51 x50.length cp52), (142, .bool (((cb54 || (x22.2 != x23.2)) || (x22.1 != x23.1)) || (x28.2.2 != x33.2.2)))] [rowT 42 eSPoint a3 x2.1.length cp4 x2.1, rowT 42 eSPoint a9 x8.1.length cp10 x8.1, rowT 42 eSPoint a17 x16.1.length cp18 x16.1, boxO 42 g20 [.int .i64 x16.2.X, .int .i64 x16.2.Y], boxO 42 g29 [.int .i64 x28.1.X, .int .i64 x28.1.Y], boxO 42 g31 [.int .i64 x28.2.1.X, .int .i64 x28.2.1.Y], boxO 42 g34 [.int .i64 x33.1.X, .int .i64 x33.1.Y], boxO 42 g36 [.int .i64 x33.2.1.X, .int .i64 x33.2.1.Y], rowT 42 eSPoint a51 x50.length cp52 x50]) 4 ?_ ?_
          · refine JL.val (yl_move rfl) rfl ?_
            refine JL.cut (K := fun J => J [(3, .slice a3 x2.1.length cp4), (5, .slice a9 x8.1.length cp10), (6, .int .i64 x8.2), (9, .slice a17 x16.1.length cp18), (10, ptrAt (some ⟨g20, 0, none⟩) 0), (11, .int .i64 x22.1), (12, .int .i64 x22.2), (17, ptrAt (some ⟨g31, 0, none⟩) 0), (20, ptrAt (some ⟨g36, 0, none⟩) 0), (23, .int .i64 x42.1), (24, .int .i64 x42.2), (25, .int .i64 x43.1), (26, .int .i64 x43.2), (28, .int .i64 x48.1), (29, .int .i64 x48.2), (30, .int .i64 x49.1), (31, .int .i64 x49.2), (32, .slice a51 x50.length cp52), (147, .bool ((((cb54 || (x22.2 != x23.2)) || (x22.1 != x23.1)) || (x28.2.2 != x33.2.2)) || (!(((x28.1.X == x33.1.X) && ((x28.1.Y == x33.1.Y) && true))))))] [rowT 42 eSPoint a3 x2.1.length cp4 x2.1, rowT 42 eSPoint a9 x8.1.length cp10 x8.1, rowT 42 eSPoint a17 x16.1.length cp18 x16.1, boxO 42 g20 [.int .i64 x16.2.X, .int .i64 x16.2.Y], boxO 42 g31 [.int .i64 x28.2.1.X, .int .i64 x28.2.1.Y], boxO 42 g36 [.int .i64 x33.2.1.X, .int .i64 x33.2.1.Y], rowT 42 eSPoint a51 x50.length cp52 x50]) 4 ?_ ?_
            · refine JL.val (yl_move rfl) rfl ?_
              refine JL.cut (K := fun J => J [(3, .slice a3 x2.1.length cp4), (5, .slice a9 x8.1.length cp10), (6, .int .i64 x8.2), (9, .slice a17 x16.1.length cp18), (10, ptrAt (some ⟨g20, 0, none⟩) 0), (11, .int .i64 x22.1), (12, .int .i64 x22.2), (23, .int .i64 x42.1), (24, .int .i64 x42.2), (25, .int .i64 x43.1), (26, .int .i64 x43.2), (28, .int .i64 x48.1), (29, .int .i64 x48.2), (30, .int .i64 x49.1), (31, .int .i64 x49.2), (32, .slice a51 x50.length cp52), (152, .bool (((((cb54 || (x22.2 != x23.2)) || (x22.1 != x23.1)) || (x28.2.2 != x33.2.2)) || (!(((x28.1.X == x33.1.X) && ((x28.1.Y == x33.1.Y) && true))))) || (!(((x28.2.1.X == x33.2.1.X) && ((x28.2.1.Y == x33.2.1.Y) && true))))))] [rowT 42 eSPoint a3 x2.1.length cp4 x2.1, rowT 42 eSPoint a9 x8.1.length cp10 x8.1, rowT 42 eSPoint a17 x16.1.length cp18 x16.1, boxO 42 g20 [.int .i64 x16.2.X, .int .i64 x16.2.Y], rowT 42 eSPoint a51 x50.length cp52 x50]) 4 ?_ ?_
              · refine JL.val (yl_move rfl) rfl ?_
                refine JL.cut (K := fun J => J [(3, .slice a3 x2.1.length cp4), (5, .slice a9 x8.1.length cp10), (6, .int .i64 x8.2), (9, .slice a17 x16.1.length cp18), (10, ptrAt (some ⟨g20, 0, none⟩) 0), (11, .int .i64 x22.1), (12, .int .i64 x22.2), (23, .int .i64 x42.1), (25, .int .i64 x43.1), (28, .int .i64 x48.1), (29, .int .i64 x48.2), (30, .int .i64 x49.1), (31, .int .i64 x49.2), (32, .slice a51 x50.length cp52), (157, .bool ((((((cb54 || (x22.2 != x23.2)) || (x22.1 != x23.1)) || (x28.2.2 != x33.2.2)) || (!(((x28.1.X == x33.1.X) && ((x28.1.Y == x33.1.Y) && true))))) || (!(((x28.2.1.X == x33.2.1.X) && ((x28.2.1.Y == x33.2.1.Y) && true))))) || (x42.2 != x43.2)))] [rowT 42 eSPoint a3 x2.1.length cp4 x2.1, rowT 42 eSPoint a9 x8.1.length cp10 x8.1, rowT 42 eSPoint a17 x16.1.length cp18 x16.1, boxO 42 g20 [.int .i64 x16.2.X, .int .i64 x16.2.Y], rowT 42 eSPoint a51 x50.length cp52 x50]) 4 ?_ ?_
                · refine JL.val (yl_move rfl) rfl ?_
                  refine JL.cut (K := fun J => J [(3, .slice a3 x2.1.length cp4), (5, .slice a9 x8.1.length cp10), (6, .int .i64 x8.2), (9, .slice a17 x16.1.length cp18), (10, ptrAt (some ⟨g20, 0, none⟩) 0), (11, .int .i64 x22.1), (12, .int .i64 x22.2), (28, .int .i64 x48.1), (29, .int .i64 x48.2), (30, .int .i64 x49.1), (31, .int .i64 x49.2), (32, .slice a51 x50.length cp52), (162, .bool (((((((cb54 || (x22.2 != x23.2)) || (x22.1 != x23.1)) || (x28.2.2 != x33.2.2)) || (!(((x28.1.X == x33.1.X) && ((x28.1.Y == x33.1.Y) && true))))) || (!(((x28.2.1.X == x33.2.1.X) && ((x28.2.1.Y == x33.2.1.Y) && true))))) || (x42.2 != x43.2)) || (x42.1 != x43.1)))] [rowT 42 eSPoint a3 x2.1.length cp4 x2.1, rowT 42 eSPoint a9 x8.1.length cp10 x8.1, rowT 42 eSPoint a17 x16.1.length cp18 x16.1, boxO 42 g20 [.int .i64 x16.2.X, .int .i64 x16.2.Y], rowT 42 eSPoint a51 x50.length cp52 x50]) 4 ?_ ?_
                  · refine JL.val (yl_move rfl) rfl ?_
                    refine JL.cut (K := fun J => J [(3, .slice a3 x2.1.length cp4), (5, .slice a9 x8.1.length cp10), (6, .int .i64 x8.2), (9, .slice a17 x16.1.length cp18), (10, ptrAt (some ⟨g20, 0, none⟩) 0), (11, .int .i64 x22.1), (12, .int .i64 x22.2), (28, .int .i64 x48.1), (30, .int .i64 x49.1), (32, .slice a51 x50.length cp52), (167, .bool ((((((((cb54 || (x22.2 != x23.2)) || (x22.1 != x23.1)) || (x28.2.2 != x33.2.2)) || (!(((x28.1.X == x33.1.X) && ((x28.1.Y == x33.1.Y) && true))))) || (!(((x28.2.1.X == x33.2.1.X) && ((x28.2.1.Y == x33.2.1.Y) && true))))) || (x42.2 != x43.2)) || (x42.1 != x43.1)) || (x48.2 != x49.2)))] [rowT 42 eSPoint a3 x2.1.length cp4 x2.1, rowT 42 eSPoint a9 x8.1.length cp10 x8.1, rowT 42 eSPoint a17 x16.1.length cp18 x16.1, boxO 42 g20 [.int .i64 x16.2.X, .int .i64 x16.2.Y], rowT 42 eSPoint a51 x50.length cp52 x50]) 4 ?_ ?_
                    · refine JL.val (yl_move rfl) rfl ?_
                      refine JL.cut (K := fun J => J [(3, .slice a3 x2.1.length cp4), (5, .slice a9 x8.1.length cp10), (6, .int .i64 x8.2), (9, .slice a17 x16.1.length cp18), (10, ptrAt (some ⟨g20, 0, none⟩) 0), (11, .int .i64 x22.1), (12, .int .i64 x22.2), (32, .slice a51 x50.length cp52), (172, .bool (((((((((cb54 || (x22.2 != x23.2)) || (x22.1 != x23.1)) || (x28.2.2 != x33.2.2)) || (!(((x28.1.X == x33.1.X) && ((x28.1.Y == x33.1.Y) && true))))) || (!(((x28.2.1.X == x33.2.1.X) && ((x28.2.1.Y == x33.2.1.Y) && true))))) || (x42.2 != x43.2)) || (x42.1 != x43.1)) || (x48.2 != x49.2)) || (x48.1 != x49.1)))] [rowT 42 eSPoint a3 x2.1.length cp4 x2.1, rowT 42 eSPoint a9 x8.1.length cp10 x8.1, rowT 42 eSPoint a17 x16.1.length cp18 x16.1, boxO 42 g20 [.int .i64 x16.2.X, .int .i64 x16.2.Y], rowT 42 eSPoint a51 x50.length cp52 x50]) 4 ?_ ?_
                      · refine JL.val (yl_move rfl) rfl ?_
                        obtain ⟨cb56, hcb56, hres⟩ := bind_some hres
                        refine JL.cut (K := fun J => J [(3, .slice a3 x2.1.length cp4), (5, .slice a9 x8.1.length cp10), (6, .int .i64 x8.2), (9, .slice a17 x16.1.length cp18), (10, ptrAt (some ⟨g20, 0, none⟩) 0), (11, .int .i64 x22.1), (12, .int .i64 x22.2), (179, .bool cb56)] [rowT 42 eSPoint a3 x2.1.length cp4 x2.1, rowT 42 eSPoint a9 x8.1.length cp10 x8.1, rowT 42 eSPoint a17 x16.1.length cp18 x16.1, boxO 42 g20 [.int .i64 x16.2.X, .int .i64 x16.2.Y]]) 6 ?_ ?_
                        · refine JL.nil ?_
                          refine JE.weak (env' := [(3, .slice a3 x2.1.length cp4), (5, .slice a9 x8.1.length cp10), (6, .int .i64 x8.2), (9, .slice a17 x16.1.length cp18), (10, ptrAt (some ⟨g20, 0, none⟩) 0), (11, .int .i64 x22.1), (12, .int .i64 x22.2), (179, .bool cb56)]) (es' := [rowT 42 eSPoint a3 x2.1.length cp4 x2.1, rowT 42 eSPoint a9 x8.1.length cp10 x8.1, rowT 42 eSPoint a17 x16.1.length cp18 x16.1, boxO 42 g20 [.int .i64 x16.2.X, .int .i64 x16.2.Y]]) [0, 1, 2, 3] ?_ ⟨rfl, rfl, rfl, rfl, rfl, rfl, rfl, rfl, trivial⟩ (by decide) rfl
                          refine JE.code ?_
                          rcases cond_some hres with ⟨hb, hres⟩ | ⟨hb, hres⟩
                          · refine JX.condT rfl hb ?_
                            refine JX.seq ?_
                            refine JX.region ?_
                            refine JL.val (yl_assign rfl) rfl ?_
                            refine JL.nil ?_
                            refine JE.weak (env' := [(2, .bool false)]) (es' := []) [] ?_ ⟨rfl, trivial⟩ (by decide) rfl
                            refine JE.code ?_
                            refine JX.ret ?_
                            obtain rfl := Option.some.inj hres
                            refine JE.ret (rs := [.tmp 2]) (vs := [.bool false]) rfl ⟨rfl, trivial⟩ ?_
                            exact fun w' hb hs => ⟨_, _, ⟨rfl, rfl⟩, rfl, hb, hs.sel [] _ (by decide) rfl⟩
                          · refine JX.condF rfl hb ?_
                            refine JX.skip ?_
                            refine JE.code ?_
                            refine JX.seq ?_
                            refine JX.seq ?_
                            refine JX.region ?_
                            refine JL.val (yl_move rfl) rfl ?_
                            refine JL.val (yl_eql rfl rfl) rfl ?_
                            refine JL.nil ?_
                            refine JE.code ?_
                            rcases cond_some hres with ⟨hb, hres⟩ | ⟨hb, hres⟩
                            · refine JX.condT rfl hb ?_
                              refine JX.seq ?_
                              refine JX.region ?_
                              refine JL.val (yl_move rfl) rfl ?_
                              obtain ⟨x59, hx59, hres⟩ := bind_some hres
                              refine JL.eff (ef_call (T := T27 x59) Go.Proofs.Try.func27 rfl (by kernel_rfl) rfl (fun w hC => c27 (rd_row hC 2 rfl) rfl (ln_row hC 2 rfl) hx59)) rfl ?_
                              rintro _ _ ⟨_, ⟨rfl, rfl⟩, rfl⟩
                              refine JL.val (yl_move rfl) rfl ?_
                              refine JL.val (yl_extract rfl rfl) rfl ?_
                              refine JL.val (yl_extract rfl rfl) rfl ?_
                              refine JL.val (yl_extract rfl rfl) rfl ?_
                              refine JL.eff (ef_alloc i42 i42z rfl) rfl ?_
                              rintro _ _ ⟨g60, rfl, rfl⟩
                              refine JL.eff (ef_alloc i42 i42z rfl) rfl ?_
                              rintro _ _ ⟨g62, rfl, rfl⟩
                              refine JL.eff (ef_store_box (i := 4) (v := .agg #[.int .i64 x59.1.X, .int .i64 x59.1.Y]) i42 rfl rfl rfl (i42s).symm (Nat.le_of_ble_eq_true rfl) (by simp [Value.cells, Value.oneCell'])) rfl ?_
                              rintro _ _ rfl
                              refine JL.eff (ef_store_box (i := 5) (v := .agg #[.int .i64 x59.2.1.X, .int .i64 x59.2.1.Y]) i42 rfl rfl rfl (i42s).symm (Nat.le_of_ble_eq_true rfl) (by simp [Value.cells, Value.oneCell'])) rfl ?_
                              rintro _ _ rfl
                              refine JL.val (yl_assign rfl) rfl ?_
                              refine JL.nil ?_
                              refine JE.weak (env' := [(3, .slice a3 x2.1.length cp4), (5, .slice a9 x8.1.length cp10), (6, .int .i64 x8.2), (10, ptrAt (some ⟨g20, 0, none⟩) 0), (11, .int .i64 x22.1), (33, ptrAt (some ⟨g60, 0, none⟩) 0), (34, ptrAt (some ⟨g62, 0, none⟩) 0), (35, .int .i64 x59.2.2)]) (es' := [rowT 42 eSPoint a3 x2.1.length cp4 x2.1, rowT 42 eSPoint a9 x8.1.length cp10 x8.1, boxO 42 g20 [.int .i64 x16.2.X, .int .i64 x16.2.Y], boxO 42 g60 [.int .i64 x59.1.X, .int .i64 x59.1.Y], boxO 42 g62 [.int .i64 x59.2.1.X, .int .i64 x59.2.1.Y]]) [0, 1, 3, 4, 5] ?_ ⟨rfl, rfl, rfl, rfl, rfl, rfl, rfl, rfl, trivial⟩ (by decide) rfl
                              refine JE.code ?_
                              refine JX.seq ?_
                              refine JX.region ?_
                              refine JL.val (yl_move rfl) rfl ?_
                              refine JL.val (yl_neq rfl rfl) rfl ?_
                              refine JL.val (yl_move rfl) rfl ?_
                              refine JL.cut (K := fun J => J [(3, .slice a3 x2.1.length cp4), (5, .slice a9 x8.1.length cp10), (6, .int .i64 x8.2), (221, .bool ((x59.2.2 != 0) || ((x22.1 == 2) && ((((decide (x16.2.X ≤ x59.1.X)) || (decide (x16.2.Y ≤ x59.1.Y))) || (decide (x59.2.1.X ≤ x16.2.X))) || (decide (x59.2.1.Y ≤ x16.2.Y))))))] [rowT 42 eSPoint a3 x2.1.length cp4 x2.1, rowT 42 eSPoint a9 x8.1.length cp10 x8.1]) 31 ?_ ?_
                              · refine JL.nil ?_
                                refine JE.weak (env' := [(3, .slice a3 x2.1.length cp4), (5, .slice a9 x8.1.length cp10), (6, .int .i64 x8.2), (221, .bool ((x59.2.2 != 0) || ((x22.1 == 2) && ((((decide (x16.2.X ≤ x59.1.X)) || (decide (x16.2.Y ≤ x59.1.Y))) || (decide (x59.2.1.X ≤ x16.2.X))) || (decide (x59.2.1.Y ≤ x16.2.Y))))))]) (es' := [rowT 42 eSPoint a3 x2.1.length cp4 x2.1, rowT 42 eSPoint a9 x8.1.length cp10 x8.1]) [0, 1] ?_ ⟨rfl, rfl, rfl, rfl, trivial⟩ (by decide) rfl
                                refine JE.code ?_
                                rcases cond_some hres with ⟨hb, hres⟩ | ⟨hb, hres⟩
                                · refine JX.condT rfl hb ?_
                                  refine JX.seq ?_
                                  refine JX.region ?_
                                  refine JL.val (yl_assign rfl) rfl ?_
                                  refine JL.nil ?_
                                  refine JE.weak (env' := [(2, .bool false)]) (es' := []) [] ?_ ⟨rfl, trivial⟩ (by decide) rfl
                                  refine JE.code ?_
                                  refine JX.ret ?_
                                  obtain rfl := Option.some.inj hres
                                  refine JE.ret (rs := [.tmp 2]) (vs := [.bool false]) rfl ⟨rfl, trivial⟩ ?_
                                  exact fun w' hb hs => ⟨_, _, ⟨rfl, rfl⟩, rfl, hb, hs.sel [] _ (by decide) rfl⟩
                                · refine JX.condF rfl hb ?_
                                  refine JX.skip ?_
                                  refine JE.code ?_
                                  refine JX.seq ?_
                                  refine JX.seq ?_
                                  refine JX.region ?_
                                  refine JL.val (yl_move rfl) rfl ?_
                                  refine JL.val (yl_neq rfl rfl) rfl ?_
                                  refine JL.nil ?_
                                  refine JE.code ?_
                                  rcases cond_some hres with ⟨hb, hres⟩ | ⟨hb, hres⟩
                                  · refine JX.condT rfl hb ?_
                                    refine JX.seq ?_
                                    refine JX.region ?_
                                    refine JL.val (yl_assign rfl) rfl ?_
                                    refine JL.nil ?_
                                    refine JE.weak (env' := [(2, .bool true)]) (es' := []) [] ?_ ⟨rfl, trivial⟩ (by decide) rfl
                                    refine JE.code ?_
                                    refine JX.ret ?_
                                    obtain rfl := Option.some.inj hres
                                    refine JE.ret (rs := [.tmp 2]) (vs := [.bool true]) rfl ⟨rfl, trivial⟩ ?_
                                    exact fun w' hb hs => ⟨_, _, ⟨rfl, rfl⟩, rfl, hb, hs.sel [] _ (by decide) rfl⟩
                                  · refine JX.condF rfl hb ?_
                                    refine JX.skip ?_
                                    refine JE.code ?_
                                    refine JX.seq ?_
                                    refine JX.region ?_
                                    refine JL.val (yl_move rfl) rfl ?_
                                    obtain ⟨x64, hx64, hres⟩ := bind_some hres
                                    refine JL.eff (ef_call (T := T18 x64) Go.Proofs.Try.func18 rfl (by kernel_rfl) rfl (fun w hC => c18 (rd_row hC 0 rfl) rfl (ln_row hC 0 rfl) hx64)) rfl ?_
                                    rintro _ _ ⟨_, ⟨rfl, rfl⟩, rfl⟩
                                    refine JL.val (yl_move rfl) rfl ?_
                                    refine JL.val (yl_extract rfl rfl) rfl ?_
                                    refine JL.val (yl_extract rfl rfl) rfl ?_
                                    refine JL.val (yl_assign rfl) rfl ?_
                                    refine JL.val (yl_assign rfl) rfl ?_
                                    refine JL.nil ?_
                                    refine JE.weak (env' := [(3, .slice a3 x2.1.length cp4), (5, .slice a9 x8.1.length cp10), (36, .int .i64 x64.1), (37, .int .i64 x64.2)]) (es' := [rowT 42 eSPoint a3 x2.1.length cp4 x2.1, rowT 42 eSPoint a9 x8.1.length cp10 x8.1]) [0, 1] ?_ ⟨rfl, rfl, rfl, rfl, trivial⟩ (by decide) rfl
                                    refine JE.code ?_
                                    refine JX.seq ?_
                                    refine JX.region ?_
                                    refine JL.val (yl_move rfl) rfl ?_
                                    obtain ⟨x65, hx65, hres⟩ := bind_some hres
                                    refine JL.eff (ef_call (T := T18 x65) Go.Proofs.Try.func18 rfl (by kernel_rfl) rfl (fun w hC => c18 (rd_row hC 1 rfl) rfl (ln_row hC 1 rfl) hx65)) rfl ?_
                                    rintro _ _ ⟨_, ⟨rfl, rfl⟩, rfl⟩
                                    refine JL.val (yl_move rfl) rfl ?_
                                    refine JL.val (yl_extract rfl rfl) rfl ?_
                                    refine JL.val (yl_extract rfl rfl) rfl ?_
                                    refine JL.val (yl_assign rfl) rfl ?_
                                    refine JL.val (yl_assign rfl) rfl ?_
                                    refine JL.nil ?_
                                    refine JE.weak (env' := [(3, .slice a3 x2.1.length cp4), (36, .int .i64 x64.1), (37, .int .i64 x64.2), (38, .int .i64 x65.1), (39, .int .i64 x65.2)]) (es' := [rowT 42 eSPoint a3 x2.1.length cp4 x2.1]) [0] ?_ ⟨rfl, rfl, rfl, rfl, rfl, trivial⟩ (by decide) rfl
                                    refine JE.code ?_
                                    refine JX.seq ?_
                                    refine JX.seq ?_
                                    refine JX.region ?_
                                    refine JL.val (yl_move rfl) rfl ?_
                                    refine JL.val (yl_neq rfl rfl) rfl ?_
                                    refine JL.val (yl_move rfl) rfl ?_
                                    refine JL.cut (K := fun J => J [(3, .slice a3 x2.1.length cp4), (36, .int .i64 x64.1), (38, .int .i64 x65.1), (239, .bool ((x64.2 != 0) || (x65.2 != 0)))] [rowT 42 eSPoint a3 x2.1.length cp4 x2.1]) 3 ?_ ?_
                                    · refine JL.val (yl_move rfl) rfl ?_
                                      refine JL.cut (K := fun J => J [(3, .slice a3 x2.1.length cp4), (244, .bool (((x64.2 != 0) || (x65.2 != 0)) || (x64.1 != x65.1)))] [rowT 42 eSPoint a3 x2.1.length cp4 x2.1]) 4 ?_ ?_
                                      · refine JL.nil ?_
                                        refine JE.weak (env' := [(3, .slice a3 x2.1.length cp4), (244, .bool (((x64.2 != 0) || (x65.2 != 0)) || (x64.1 != x65.1)))]) (es' := [rowT 42 eSPoint a3 x2.1.length cp4 x2.1]) [0] ?_ ⟨rfl, rfl, trivial⟩ (by decide) rfl
                                        refine JE.code ?_
                                        rcases cond_some hres with ⟨hb, hres⟩ | ⟨hb, hres⟩
                                        · refine JX.condT rfl hb ?_
                                          refine JX.seq ?_
                                          refine JX.region ?_
                                          refine JL.val (yl_assign rfl) rfl ?_
                                          refine JL.nil ?_
                                          refine JE.weak (env' := [(2, .bool false)]) (es' := []) [] ?_ ⟨rfl, trivial⟩ (by decide) rfl
                                          refine JE.code ?_
                                          refine JX.ret ?_
                                          obtain rfl := Option.some.inj hres
                                          refine JE.ret (rs := [.tmp 2]) (vs := [.bool false]) rfl ⟨rfl, trivial⟩ ?_
                                          exact fun w' hb hs => ⟨_, _, ⟨rfl, rfl⟩, rfl, hb, hs.sel [] _ (by decide) rfl⟩
                                        · refine JX.condF rfl hb ?_
                                          refine JX.skip ?_
                                          refine JE.code ?_
                                          refine JX.seq ?_
                                          refine JX.seq ?_
                                          refine JX.region ?_
                                          refine JL.val (yl_assign rfl) rfl ?_
                                          refine JL.nil ?_
                                          refine JE.code ?_
                                          refine JX.block ?_
                                          obtain ⟨y1, hy1, hresO1⟩ := bind_some hres
                                          refine JX.loop (I := fun (s1 : Int) aa ww => St w [] 266 [(3, .slice a3 x2.1.length cp4), (40, .int .i64 s1)] [rowT 42 eSPoint a3 x2.1.length cp4 x2.1] aa ww) (sh4_1 x2) hy1 (fun a w h => h.weak ⟨rfl, rfl, trivial⟩ [0] (by decide) rfl) ?_
                                          rintro x66 o1 hres hox1 aa ww hS
                                          refine (?_ : JX Go.Proofs.Try.prog w [] 266 _ _ [(3, .slice a3 x2.1.length cp4), (40, .int .i64 x66)] [rowT 42 eSPoint a3 x2.1.length cp4 x2.1] _) aa ww hS
                                          clear hS
                                          unfold sh4_1 at hres
                                          refine JX.seq ?_
                                          refine JX.seq ?_
                                          refine JX.region ?_
                                          refine JL.val (yl_move rfl) rfl ?_
                                          refine JL.val (yl_move rfl) rfl ?_
                                          refine JL.val (yl_len_slice Go.Proofs.Try.underlying34 rfl) rfl ?_
                                          refine JL.val (yl_lss rfl rfl) rfl ?_
                                          refine JL.nil ?_
                                          refine JE.weak (env' := [(3, .slice a3 x2.1.length cp4), (40, .int .i64 x66), (248, .bool (decide (x66 < (x2.1.length : Int))))]) (es' := [rowT 42 eSPoint a3 x2.1.length cp4 x2.1]) [0] ?_ ⟨rfl, rfl, rfl, trivial⟩ (by decide) rfl
                                          refine JE.code ?_
                                          rcases cond_some hres with ⟨hb, hres⟩ | ⟨hb, hres⟩
                                          · refine JX.condT rfl hb ?_
                                            refine JX.skip ?_
                                            refine JE.code ?_
                                            refine JX.seq ?_
                                            refine JX.block ?_
                                            refine JX.seq ?_
                                            refine JX.region ?_
                                            refine JL.val (yl_move rfl) rfl ?_
                                            refine JL.val (yl_move rfl) rfl ?_
                                            refine JL.val (yl_move rfl) rfl ?_
                                            obtain ⟨x67, hx67, hres⟩ := bind_some hres
                                            refine JL.val (yl_idxT Go.Proofs.Try.underlying34 i42 i42s rfl rfl hx67 rfl (fun w hC => rd_row hC 0 rfl)) rfl ?_
                                            refine JL.val (yl_loadTn Go.Proofs.Try.underlying42 rfl i42 i42s rfl hx67 (fun w hC => rd_row hC 0 rfl)) rfl ?_
                                            obtain ⟨x68, hx68, hres⟩ := bind_some hres
                                            refine JL.eff (ef_call (vs := [.slice a3 x2.1.length cp4, .agg #[.int .i64 x67.X, .int .i64 x67.Y]]) (T := T20 x68) Go.Proofs.Try.func20 rfl (by kernel_rfl) rfl (fun w hC => c20 (q1 := x67) (rd_row hC 0 rfl) rfl (ln_row hC 0 rfl) hx68)) rfl ?_
                                            rintro _ _ ⟨_, ⟨rfl, rfl⟩, rfl⟩
                                            refine JL.val (yl_move rfl) rfl ?_
                                            refine JL.val (yl_extract rfl rfl) rfl ?_
                                            refine JL.val (yl_extract rfl rfl) rfl ?_
                                            refine JL.val (yl_assign rfl) rfl ?_
                                            refine JL.val (yl_assign rfl) rfl ?_
                                            refine JL.nil ?_
                                            refine JE.weak (env' := [(3, .slice a3 x2.1.length cp4), (40, .int .i64 x66), (41, .int .i64 x68.1), (42, .int .i64 x68.2)]) (es' := [rowT 42 eSPoint a3 x2.1.length cp4 x2.1]) [0] ?_ ⟨rfl, rfl, rfl, rfl, trivial⟩ (by decide) rfl
                                            refine JE.code ?_
                                            refine JX.seq ?_
                                            refine JX.region ?_
                                            refine JL.val (yl_move rfl) rfl ?_
                                            refine JL.val (yl_neq rfl rfl) rfl ?_
                                            refine JL.val (yl_move rfl) rfl ?_
                                            refine JL.cut (K := fun J => J [(3, .slice a3 x2.1.length cp4), (40, .int .i64 x66), (265, .bool ((x68.2 != 0) || (x68.1 != 1)))] [rowT 42 eSPoint a3 x2.1.length cp4 x2.1]) 3 ?_ ?_
                                            · refine JL.nil ?_
                                              refine JE.weak (env' := [(3, .slice a3 x2.1.length cp4), (40, .int .i64 x66), (265, .bool ((x68.2 != 0) || (x68.1 != 1)))]) (es' := [rowT 42 eSPoint a3 x2.1.length cp4 x2.1]) [0] ?_ ⟨rfl, rfl, rfl, trivial⟩ (by decide) rfl
                                              refine JE.code ?_
                                              rcases cond_some hres with ⟨hb, hres⟩ | ⟨hb, hres⟩
                                              · refine JX.condT rfl hb ?_
                                                refine JX.seq ?_
                                                refine JX.region ?_
                                                refine JL.val (yl_assign rfl) rfl ?_
                                                refine JL.nil ?_
                                                refine JE.weak (env' := [(2, .bool false)]) (es' := []) [] ?_ ⟨rfl, trivial⟩ (by decide) rfl
                                                refine JE.code ?_
                                                refine JX.ret ?_
                                                refine JE.qbr ?_
                                                refine JE.qbr ?_
                                                have hres := elimS_inr hresO1 (hox1 _ (Option.some.inj hres).symm)
                                                obtain rfl := Option.some.inj hres
                                                refine JE.ret (rs := [.tmp 2]) (vs := [.bool false]) rfl ⟨rfl, trivial⟩ ?_
                                                exact fun w' hb hs => ⟨_, _, ⟨rfl, rfl⟩, rfl, hb, hs.sel [] _ (by decide) rfl⟩
                                              · refine JX.condF rfl hb ?_
                                                refine JX.skip ?_
                                                refine JE.code ?_
                                                refine JX.region ?_
                                                refine JL.val (yl_move rfl) rfl ?_
                                                refine JL.val (yl_add rfl rfl) rfl ?_
                                                refine JL.val (yl_assign rfl) rfl ?_
                                                refine JL.nil ?_
                                                refine JE.cont hres ?_
                                                exact fun a w h => h.weak ⟨rfl, rfl, trivial⟩ [0] (by decide) rfl
                                            · intro K
                                              rcases Bool.eq_false_or_eq_true (x68.2 != 0) with hb | hb
                                              · refine JL.set (d := 262) (v := .bool true) (congrArg (fun b => some (Value.bool b)) hb) ?_
                                                refine JL.gskip rfl rfl rfl rfl ?_
                                                refine JL.gskip rfl rfl rfl rfl ?_
                                                refine JL.val (yl_pick_true rfl rfl) rfl ?_
                                                exact JL.weak [0] K ⟨rfl, rfl, (by rw [hb]; rfl), trivial⟩ (by decide) rfl
                                              · refine JL.set (d := 262) (v := .bool false) (congrArg (fun b => some (Value.bool b)) hb) ?_
                                                refine JL.gval rfl rfl (yl_move rfl) rfl ?_
                                                refine JL.gval rfl rfl (yl_neq rfl rfl) rfl ?_
                                                refine JL.val (yl_pick_false rfl rfl) rfl ?_
                                                exact JL.weak [0] K ⟨rfl, rfl, (by rw [hb]; rfl), trivial⟩ (by decide) rfl
                                          · refine JX.condF rfl hb ?_
                                            refine JX.exit ?_
                                            refine JE.qb rfl ?_
                                            obtain ⟨b1, hb1⟩ : ∃ b : Unit, b = () := ⟨_, rfl⟩
                                            have hy1 : Sum.inl b1 = y1 := by rw [hb1]; exact hox1 _ (Option.some.inj hres).symm
                                            have hres := elimS_inl hresO1 hy1
                                            refine JE.weak (env' := []) (es' := []) [] ?_ trivial (by decide) (by subst hb1; rfl)
                                            refine JE.code ?_
                                            refine JX.seq ?_
                                            refine JX.region ?_
                                            refine JL.val (yl_assign rfl) rfl ?_
                                            refine JL.nil ?_
                                            refine JE.code ?_
                                            refine JX.ret ?_
                                            obtain rfl := Option.some.inj hres
                                            refine JE.ret (rs := [.tmp 2]) (vs := [.bool true]) rfl ⟨rfl, trivial⟩ ?_
                                            exact fun w' hb hs => ⟨_, _, ⟨rfl, rfl⟩, rfl, hb, hs.sel [] _ (by decide) rfl⟩
                                      · intro K
                                        rcases Bool.eq_false_or_eq_true ((x64.2 != 0) || (x65.2 != 0)) with hb | hb
                                        · refine JL.set (d := 240) (v := .bool true) (congrArg (fun b => some (Value.bool b)) hb) ?_
                                          refine JL.gskip rfl rfl rfl rfl ?_
                                          refine JL.gskip rfl rfl rfl rfl ?_
                                          refine JL.gskip rfl rfl rfl rfl ?_
                                          refine JL.val (yl_pick_true rfl rfl) rfl ?_
                                          exact JL.weak [0] K ⟨rfl, (by rw [hb]; rfl), trivial⟩ (by decide) rfl
                                        · refine JL.set (d := 240) (v := .bool false) (congrArg (fun b => some (Value.bool b)) hb) ?_
                                          refine JL.gval rfl rfl (yl_move rfl) rfl ?_
                                          refine JL.gval rfl rfl (yl_move rfl) rfl ?_
                                          refine JL.gval rfl rfl (yl_neq rfl rfl) rfl ?_
                                          refine JL.val (yl_pick_false rfl rfl) rfl ?_
                                          exact JL.weak [0] K ⟨rfl, (by rw [hb]; rfl), trivial⟩ (by decide) rfl
                                    · intro K
                                      rcases Bool.eq_false_or_eq_true (x64.2 != 0) with hb | hb
                                      · refine JL.set (d := 236) (v := .bool true) (congrArg (fun b => some (Value.bool b)) hb) ?_
                                        refine JL.gskip rfl rfl rfl rfl ?_
                                        refine JL.gskip rfl rfl rfl rfl ?_
                                        refine JL.val (yl_pick_true rfl rfl) rfl ?_
                                        exact JL.weak [0] K ⟨rfl, rfl, rfl, (by rw [hb]; rfl), trivial⟩ (by decide) rfl
                                      · refine JL.set (d := 236) (v := .bool false) (congrArg (fun b => some (Value.bool b)) hb) ?_
                                        refine JL.gval rfl rfl (yl_move rfl) rfl ?_
                                        refine JL.gval rfl rfl (yl_neq rfl rfl) rfl ?_
                                        refine JL.val (yl_pick_false rfl rfl) rfl ?_
                                        exact JL.weak [0] K ⟨rfl, rfl, rfl, (by rw [hb]; rfl), trivial⟩ (by decide) rfl
                              · intro K
                                rcases Bool.eq_false_or_eq_true (x59.2.2 != 0) with hb | hb
                                · refine JL.set (d := 190) (v := .bool true) (congrArg (fun b => some (Value.bool b)) hb) ?_
                                  refine JL.gskip rfl rfl rfl rfl ?_
                                  refine JL.gskip rfl rfl rfl rfl ?_
                                  refine JL.gskip rfl rfl rfl rfl ?_
                                  refine JL.gnone rfl rfl rfl ?_
                                  refine JL.gnone rfl rfl rfl ?_
                                  refine JL.gnone rfl rfl rfl ?_
                                  refine JL.gnone rfl rfl rfl ?_
                                  refine JL.gnone rfl rfl rfl ?_
                                  refine JL.gnone rfl rfl rfl ?_
                                  refine JL.gnone rfl rfl rfl ?_
                                  refine JL.gnone rfl rfl rfl ?_
                                  refine JL.gnone rfl rfl rfl ?_
                                  refine JL.gnone rfl rfl rfl ?_
                                  refine JL.gnone rfl rfl rfl ?_
                                  refine JL.gnone rfl rfl rfl ?_
                                  refine JL.gnone rfl rfl rfl ?_
                                  refine JL.gnone rfl rfl rfl ?_
                                  refine JL.gnone rfl rfl rfl ?_
                                  refine JL.gnone rfl rfl rfl ?_
                                  refine JL.gnone rfl rfl rfl ?_
                                  refine JL.gnone rfl rfl rfl ?_
                                  refine JL.gnone rfl rfl rfl ?_
                                  refine JL.gnone rfl rfl rfl ?_
                                  refine JL.gnone rfl rfl rfl ?_
                                  refine JL.gnone rfl rfl rfl ?_
                                  refine JL.gnone rfl rfl rfl ?_
                                  refine JL.gnone rfl rfl rfl ?_
                                  refine JL.gnone rfl rfl rfl ?_
                                  refine JL.gnone rfl rfl rfl ?_
                                  refine JL.gskip rfl rfl rfl rfl ?_
                                  refine JL.val (yl_pick_true rfl rfl) rfl ?_
                                  exact JL.weak [0, 1] K ⟨rfl, rfl, rfl, (by rw [hb]; rfl), trivial⟩ (by decide) rfl
                                · refine JL.set (d := 190) (v := .bool false) (congrArg (fun b => some (Value.bool b)) hb) ?_
                                  refine JL.gval rfl rfl (yl_move rfl) rfl ?_
                                  refine JL.gval rfl rfl (yl_eql rfl rfl) rfl ?_
                                  refine JL.gval rfl rfl (yl_move rfl) rfl ?_
                                  refine JL.cut (K := fun J => J [(3, .slice a3 x2.1.length cp4), (5, .slice a9 x8.1.length cp10), (6, .int .i64 x8.2), (190, .bool false), (220, .bool ((x22.1 == 2) && ((((decide (x16.2.X ≤ x59.1.X)) || (decide (x16.2.Y ≤ x59.1.Y))) || (decide (x59.2.1.X ≤ x16.2.X))) || (decide (x59.2.1.Y ≤ x16.2.Y)))))] [rowT 42 eSPoint a3 x2.1.length cp4 x2.1, rowT 42 eSPoint a9 x8.1.length cp10 x8.1]) 27 ?_ ?_
                                  · refine JL.val (yl_pick_false rfl rfl) rfl ?_
                                    exact JL.weak [0, 1] K ⟨rfl, rfl, rfl, (by rw [hb]; rfl), trivial⟩ (by decide) rfl
                                  · intro K
                                    rcases Bool.eq_false_or_eq_true (x22.1 == 2) with hb | hb
                                    · refine JL.set (d := 193) (v := .bool true) (congrArg (fun b => some (Value.bool b)) hb) ?_
                                      refine JL.gval rfl rfl (yl_fieldAt (a := some _) Go.Proofs.Try.underlying42 rfl i2 i2n rfl rfl) rfl ?_
                                      refine JL.gval rfl rfl (yl_load1 Go.Proofs.Try.underlying2 rfl rfl (fun w hC => rd_box hC 2 rfl) rfl) rfl ?_
                                      refine JL.gval rfl rfl (yl_fieldAt (a := some _) Go.Proofs.Try.underlying42 rfl i2 i2n rfl rfl) rfl ?_
                                      refine JL.gval rfl rfl (yl_load1 Go.Proofs.Try.underlying2 rfl rfl (fun w hC => rd_box hC 3 rfl) rfl) rfl ?_
                                      refine JL.gval rfl rfl (yl_leq rfl rfl) rfl ?_
                                      refine JL.gval rfl rfl (yl_move rfl) rfl ?_
                                      refine JL.cut (K := fun J => J [(3, .slice a3 x2.1.length cp4), (5, .slice a9 x8.1.length cp10), (6, .int .i64 x8.2), (10, ptrAt (some ⟨g20, 0, none⟩) 0), (34, ptrAt (some ⟨g62, 0, none⟩) 0), (190, .bool false), (193, .bool true), (205, .bool ((decide (x16.2.X ≤ x59.1.X)) || (decide (x16.2.Y ≤ x59.1.Y))))] [rowT 42 eSPoint a3 x2.1.length cp4 x2.1, rowT 42 eSPoint a9 x8.1.length cp10 x8.1, boxO 42 g20 [.int .i64 x16.2.X, .int .i64 x16.2.Y], boxO 42 g62 [.int .i64 x59.2.1.X, .int .i64 x59.2.1.Y]]) 6 ?_ ?_
                                      · refine JL.gval rfl rfl (yl_move rfl) rfl ?_
                                        refine JL.cut (K := fun J => J [(3, .slice a3 x2.1.length cp4), (5, .slice a9 x8.1.length cp10), (6, .int .i64 x8.2), (10, ptrAt (some ⟨g20, 0, none⟩) 0), (34, ptrAt (some ⟨g62, 0, none⟩) 0), (190, .bool false), (193, .bool true), (212, .bool (((decide (x16.2.X ≤ x59.1.X)) || (decide (x16.2.Y ≤ x59.1.Y))) || (decide (x59.2.1.X ≤ x16.2.X))))] [rowT 42 eSPoint a3 x2.1.length cp4 x2.1, rowT 42 eSPoint a9 x8.1.length cp10 x8.1, boxO 42 g20 [.int .i64 x16.2.X, .int .i64 x16.2.Y], boxO 42 g62 [.int .i64 x59.2.1.X, .int .i64 x59.2.1.Y]]) 6 ?_ ?_
                                        · refine JL.gval rfl rfl (yl_move rfl) rfl ?_
                                          refine JL.cut (K := fun J => J [(3, .slice a3 x2.1.length cp4), (5, .slice a9 x8.1.length cp10), (6, .int .i64 x8.2), (190, .bool false), (193, .bool true), (219, .bool ((((decide (x16.2.X ≤ x59.1.X)) || (decide (x16.2.Y ≤ x59.1.Y))) || (decide (x59.2.1.X ≤ x16.2.X))) || (decide (x59.2.1.Y ≤ x16.2.Y))))] [rowT 42 eSPoint a3 x2.1.length cp4 x2.1, rowT 42 eSPoint a9 x8.1.length cp10 x8.1]) 6 ?_ ?_
                                          · refine JL.gval rfl rfl (yl_pick_true rfl rfl) rfl ?_
                                            exact JL.weak [0, 1] K ⟨rfl, rfl, rfl, rfl, (by rw [hb]; rfl), trivial⟩ (by decide) rfl
                                          · intro K
                                            rcases Bool.eq_false_or_eq_true (((decide (x16.2.X ≤ x59.1.X)) || (decide (x16.2.Y ≤ x59.1.Y))) || (decide (x59.2.1.X ≤ x16.2.X))) with hb | hb
                                            · refine JL.set (d := 213) (v := .bool true) (congrArg (fun b => some (Value.bool b)) hb) ?_
                                              refine JL.gskip rfl rfl rfl rfl ?_
                                              refine JL.gskip rfl rfl rfl rfl ?_
                                              refine JL.gskip rfl rfl rfl rfl ?_
                                              refine JL.gskip rfl rfl rfl rfl ?_
                                              refine JL.gskip rfl rfl rfl rfl ?_
                                              refine JL.gval rfl rfl (yl_pick_true rfl rfl) rfl ?_
                                              exact JL.weak [0, 1] K ⟨rfl, rfl, rfl, rfl, rfl, (by rw [hb]; rfl), trivial⟩ (by decide) rfl
                                            · refine JL.set (d := 213) (v := .bool false) (congrArg (fun b => some (Value.bool b)) hb) ?_
                                              refine JL.gval rfl rfl (yl_fieldAt (a := some _) Go.Proofs.Try.underlying42 rfl i2 i2n rfl rfl) rfl ?_
                                              refine JL.gval rfl rfl (yl_load1 Go.Proofs.Try.underlying2 rfl rfl (fun w hC => rd_box hC 2 rfl) rfl) rfl ?_
                                              refine JL.gval rfl rfl (yl_fieldAt (a := some _) Go.Proofs.Try.underlying42 rfl i2 i2n rfl rfl) rfl ?_
                                              refine JL.gval rfl rfl (yl_load1 Go.Proofs.Try.underlying2 rfl rfl (fun w hC => rd_box hC 3 rfl) rfl) rfl ?_
                                              refine JL.gval rfl rfl (yl_geq rfl rfl) rfl ?_
                                              refine JL.gval rfl rfl (yl_pick_false rfl rfl) rfl ?_
                                              exact JL.weak [0, 1] K ⟨rfl, rfl, rfl, rfl, rfl, (by rw [hb]; rfl), trivial⟩ (by decide) rfl
                                        · intro K
                                          rcases Bool.eq_false_or_eq_true ((decide (x16.2.X ≤ x59.1.X)) || (decide (x16.2.Y ≤ x59.1.Y))) with hb | hb
                                          · refine JL.set (d := 206) (v := .bool true) (congrArg (fun b => some (Value.bool b)) hb) ?_
                                            refine JL.gskip rfl rfl rfl rfl ?_
                                            refine JL.gskip rfl rfl rfl rfl ?_
                                            refine JL.gskip rfl rfl rfl rfl ?_
                                            refine JL.gskip rfl rfl rfl rfl ?_
                                            refine JL.gskip rfl rfl rfl rfl ?_
                                            refine JL.gval rfl rfl (yl_pick_true rfl rfl) rfl ?_
                                            exact JL.weak [0, 1, 2, 3] K ⟨rfl, rfl, rfl, rfl, rfl, rfl, rfl, (by rw [hb]; rfl), trivial⟩ (by decide) rfl
                                          · refine JL.set (d := 206) (v := .bool false) (congrArg (fun b => some (Value.bool b)) hb) ?_
                                            refine JL.gval rfl rfl (yl_fieldAt (a := some _) Go.Proofs.Try.underlying42 rfl i2 i2n rfl rfl) rfl ?_
                                            refine JL.gval rfl rfl (yl_load1 Go.Proofs.Try.underlying2 rfl rfl (fun w hC => rd_box hC 2 rfl) rfl) rfl ?_
                                            refine JL.gval rfl rfl (yl_fieldAt (a := some _) Go.Proofs.Try.underlying42 rfl i2 i2n rfl rfl) rfl ?_
                                            refine JL.gval rfl rfl (yl_load1 Go.Proofs.Try.underlying2 rfl rfl (fun w hC => rd_box hC 3 rfl) rfl) rfl ?_
                                            refine JL.gval rfl rfl (yl_geq rfl rfl) rfl ?_
                                            refine JL.gval rfl rfl (yl_pick_false rfl rfl) rfl ?_
                                            exact JL.weak [0, 1, 2, 3] K ⟨rfl, rfl, rfl, rfl, rfl, rfl, rfl, (by rw [hb]; rfl), trivial⟩ (by decide) rfl
                                      · intro K
                                        rcases Bool.eq_false_or_eq_true (decide (x16.2.X ≤ x59.1.X)) with hb | hb
                                        · refine JL.set (d := 199) (v := .bool true) (congrArg (fun b => some (Value.bool b)) hb) ?_
                                          refine JL.gskip rfl rfl rfl rfl ?_
                                          refine JL.gskip rfl rfl rfl rfl ?_
                                          refine JL.gskip rfl rfl rfl rfl ?_
                                          refine JL.gskip rfl rfl rfl rfl ?_
                                          refine JL.gskip rfl rfl rfl rfl ?_
                                          refine JL.gval rfl rfl (yl_pick_true rfl rfl) rfl ?_
                                          exact JL.weak [0, 1, 2, 4] K ⟨rfl, rfl, rfl, rfl, rfl, rfl, rfl, (by rw [hb]; rfl), trivial⟩ (by decide) rfl
                                        · refine JL.set (d := 199) (v := .bool false) (congrArg (fun b => some (Value.bool b)) hb) ?_
                                          refine JL.gval rfl rfl (yl_fieldAt (a := some _) Go.Proofs.Try.underlying42 rfl i2 i2n rfl rfl) rfl ?_
                                          refine JL.gval rfl rfl (yl_load1 Go.Proofs.Try.underlying2 rfl rfl (fun w hC => rd_box hC 2 rfl) rfl) rfl ?_
                                          refine JL.gval rfl rfl (yl_fieldAt (a := some _) Go.Proofs.Try.underlying42 rfl i2 i2n rfl rfl) rfl ?_
                                          refine JL.gval rfl rfl (yl_load1 Go.Proofs.Try.underlying2 rfl rfl (fun w hC => rd_box hC 3 rfl) rfl) rfl ?_
                                          refine JL.gval rfl rfl (yl_leq rfl rfl) rfl ?_
                                          refine JL.gval rfl rfl (yl_pick_false rfl rfl) rfl ?_
                                          exact JL.weak [0, 1, 2, 4] K ⟨rfl, rfl, rfl, rfl, rfl, rfl, rfl, (by rw [hb]; rfl), trivial⟩ (by decide) rfl
                                    · refine JL.set (d := 193) (v := .bool false) (congrArg (fun b => some (Value.bool b)) hb) ?_
                                      refine JL.gskip rfl rfl rfl rfl ?_
                                      refine JL.gskip rfl rfl rfl rfl ?_
                                      refine JL.gskip rfl rfl rfl rfl ?_
                                      refine JL.gskip rfl rfl rfl rfl ?_
                                      refine JL.gskip rfl rfl rfl rfl ?_
                                      refine JL.gskip rfl rfl rfl rfl ?_
                                      refine JL.gnone rfl rfl rfl ?_
                                      refine JL.gnone rfl rfl rfl ?_
                                      refine JL.gnone rfl rfl rfl ?_
                                      refine JL.gnone rfl rfl rfl ?_
                                      refine JL.gnone rfl rfl rfl ?_
                                      refine JL.gskip rfl rfl rfl rfl ?_
                                      refine JL.gskip rfl rfl rfl rfl ?_
                                      refine JL.gnone rfl rfl rfl ?_
                                      refine JL.gnone rfl rfl rfl ?_
                                      refine JL.gnone rfl rfl rfl ?_
                                      refine JL.gnone rfl rfl rfl ?_
                                      refine JL.gnone rfl rfl rfl ?_
                                      refine JL.gskip rfl rfl rfl rfl ?_
                                      refine JL.gskip rfl rfl rfl rfl ?_
                                      refine JL.gnone rfl rfl rfl ?_
                                      refine JL.gnone rfl rfl rfl ?_
                                      refine JL.gnone rfl rfl rfl ?_
                                      refine JL.gnone rfl rfl rfl ?_
                                      refine JL.gnone rfl rfl rfl ?_
                                      refine JL.gskip rfl rfl rfl rfl ?_
                                      refine JL.gval rfl rfl (yl_pick_false rfl rfl) rfl ?_
                                      exact JL.weak [0, 1] K ⟨rfl, rfl, rfl, rfl, (by rw [hb]; rfl), trivial⟩ (by decide) rfl
                            · refine JX.condF rfl hb ?_
                              refine JX.skip ?_
                              refine JE.code ?_
                              refine JX.seq ?_
                              refine JX.seq ?_
                              refine JX.region ?_
                              refine JL.val (yl_move rfl) rfl ?_
                              refine JL.val (yl_neq rfl rfl) rfl ?_
                              refine JL.nil ?_
                              refine JE.weak (env' := [(3, .slice a3 x2.1.length cp4), (5, .slice a9 x8.1.length cp10), (223, .bool (x8.2 != 0))]) (es' := [rowT 42 eSPoint a3 x2.1.length cp4 x2.1, rowT 42 eSPoint a9 x8.1.length cp10 x8.1]) [0, 1] ?_ ⟨rfl, rfl, rfl, trivial⟩ (by decide) rfl
                              refine JE.code ?_
                              rcases cond_some hres with ⟨hb, hres⟩ | ⟨hb, hres⟩
                              · refine JX.condT rfl hb ?_
                                refine JX.seq ?_
                                refine JX.region ?_
                                refine JL.val (yl_assign rfl) rfl ?_
                                refine JL.nil ?_
                                refine JE.weak (env' := [(2, .bool true)]) (es' := []) [] ?_ ⟨rfl, trivial⟩ (by decide) rfl
                                refine JE.code ?_
                                refine JX.ret ?_
                                obtain rfl := Option.some.inj hres
                                refine JE.ret (rs := [.tmp 2]) (vs := [.bool true]) rfl ⟨rfl, trivial⟩ ?_
                                exact fun w' hb hs => ⟨_, _, ⟨rfl, rfl⟩, rfl, hb, hs.sel [] _ (by decide) rfl⟩
                              · refine JX.condF rfl hb ?_
                                refine JX.skip ?_
                                refine JE.code ?_
                                refine JX.seq ?_
                                refine JX.region ?_
                                refine JL.val (yl_move rfl) rfl ?_
                                obtain ⟨x69, hx69, hres⟩ := bind_some hres
                                refine JL.eff (ef_call (T := T18 x69) Go.Proofs.Try.func18 rfl (by kernel_rfl) rfl (fun w hC => c18 (rd_row hC 0 rfl) rfl (ln_row hC 0 rfl) hx69)) rfl ?_
                                rintro _ _ ⟨_, ⟨rfl, rfl⟩, rfl⟩
                                refine JL.val (yl_move rfl) rfl ?_
                                refine JL.val (yl_extract rfl rfl) rfl ?_
                                refine JL.val (yl_extract rfl rfl) rfl ?_
                                refine JL.val (yl_assign rfl) rfl ?_
                                refine JL.val (yl_assign rfl) rfl ?_
                                refine JL.nil ?_
                                refine JE.weak (env' := [(3, .slice a3 x2.1.length cp4), (5, .slice a9 x8.1.length cp10), (36, .int .i64 x69.1), (37, .int .i64 x69.2)]) (es' := [rowT 42 eSPoint a3 x2.1.length cp4 x2.1, rowT 42 eSPoint a9 x8.1.length cp10 x8.1]) [0, 1] ?_ ⟨rfl, rfl, rfl, rfl, trivial⟩ (by decide) rfl
                                refine JE.code ?_
                                refine JX.seq ?_
                                refine JX.region ?_
                                refine JL.val (yl_move rfl) rfl ?_
                                obtain ⟨x70, hx70, hres⟩ := bind_some hres
                                refine JL.eff (ef_call (T := T18 x70) Go.Proofs.Try.func18 rfl (by kernel_rfl) rfl (fun w hC => c18 (rd_row hC 1 rfl) rfl (ln_row hC 1 rfl) hx70)) rfl ?_
                                rintro _ _ ⟨_, ⟨rfl, rfl⟩, rfl⟩
                                refine JL.val (yl_move rfl) rfl ?_
                                refine JL.val (yl_extract rfl rfl) rfl ?_
                                refine JL.val (yl_extract rfl rfl) rfl ?_
                                refine JL.val (yl_assign rfl) rfl ?_
                                refine JL.val (yl_assign rfl) rfl ?_
                                refine JL.nil ?_
                                refine JE.weak (env' := [(3, .slice a3 x2.1.length cp4), (36, .int .i64 x69.1), (37, .int .i64 x69.2), (38, .int .i64 x70.1), (39, .int .i64 x70.2)]) (es' := [rowT 42 eSPoint a3 x2.1.length cp4 x2.1]) [0] ?_ ⟨rfl, rfl, rfl, rfl, rfl, trivial⟩ (by decide) rfl
                                refine JE.code ?_
                                refine JX.seq ?_
                                refine JX.seq ?_
                                refine JX.region ?_
                                refine JL.val (yl_move rfl) rfl ?_
                                refine JL.val (yl_neq rfl rfl) rfl ?_
                                refine JL.val (yl_move rfl) rfl ?_
                                refine JL.cut (K := fun J => J [(3, .slice a3 x2.1.length cp4), (36, .int .i64 x69.1), (38, .int .i64 x70.1), (239, .bool ((x69.2 != 0) || (x70.2 != 0)))] [rowT 42 eSPoint a3 x2.1.length cp4 x2.1]) 3 ?_ ?_
                                · refine JL.val (yl_move rfl) rfl ?_
                                  refine JL.cut (K := fun J => J [(3, .slice a3 x2.1.length cp4), (244, .bool (((x69.2 != 0) || (x70.2 != 0)) || (x69.1 != x70.1)))] [rowT 42 eSPoint a3 x2.1.length cp4 x2.1]) 4 ?_ ?_
                                  · refine JL.nil ?_
                                    refine JE.weak (env' := [(3, .slice a3 x2.1.length cp4), (244, .bool (((x69.2 != 0) || (x70.2 != 0)) || (x69.1 != x70.1)))]) (es' := [rowT 42 eSPoint a3 x2.1.length cp4 x2.1]) [0] ?_ ⟨rfl, rfl, trivial⟩ (by decide) rfl
                                    refine JE.code ?_
                                    rcases cond_some hres with ⟨hb, hres⟩ | ⟨hb, hres⟩
                                    · refine JX.condT rfl hb ?_
                                      refine JX.seq ?_
                                      refine JX.region ?_
                                      refine JL.val (yl_assign rfl) rfl ?_
                                      refine JL.nil ?_
                                      refine JE.weak (env' := [(2, .bool false)]) (es' := []) [] ?_ ⟨rfl, trivial⟩ (by decide) rfl
                                      refine JE.code ?_
                                      refine JX.ret ?_
                                      obtain rfl := Option.some.inj hres
                                      refine JE.ret (rs := [.tmp 2]) (vs := [.bool false]) rfl ⟨rfl, trivial⟩ ?_
                                      exact fun w' hb hs => ⟨_, _, ⟨rfl, rfl⟩, rfl, hb, hs.sel [] _ (by decide) rfl⟩
                                    · refine JX.condF rfl hb ?_
                                      refine JX.skip ?_
                                      refine JE.code ?_
                                      refine JX.seq ?_
                                      refine JX.seq ?_
                                      refine JX.region ?_
                                      refine JL.val (yl_assign rfl) rfl ?_
                                      refine JL.nil ?_
                                      refine JE.code ?_
                                      refine JX.block ?_
                                      obtain ⟨y2, hy2, hresO2⟩ := bind_some hres
                                      refine JX.loop (I := fun (s2 : Int) aa ww => St w [] 266 [(3, .slice a3 x2.1.length cp4), (40, .int .i64 s2)] [rowT 42 eSPoint a3 x2.1.length cp4 x2.1] aa ww) (sh4_2 x2) hy2 (fun a w h => h.weak ⟨rfl, rfl, trivial⟩ [0] (by decide) rfl) ?_
                                      rintro x71 o2 hres hox2 aa ww hS
                                      refine (?_ : JX Go.Proofs.Try.prog w [] 266 _ _ [(3, .slice a3 x2.1.length cp4), (40, .int .i64 x71)] [rowT 42 eSPoint a3 x2.1.length cp4 x2.1] _) aa ww hS
                                      clear hS
                                      unfold sh4_2 at hres
                                      refine JX.seq ?_
                                      refine JX.seq ?_
                                      refine JX.region ?_
                                      refine JL.val (yl_move rfl) rfl ?_
                                      refine JL.val (yl_move rfl) rfl ?_
                                      refine JL.val (yl_len_slice Go.Proofs.Try.underlying34 rfl) rfl ?_
                                      refine JL.val (yl_lss rfl rfl) rfl ?_
                                      refine JL.nil ?_
                                      refine JE.weak (env' := [(3, .slice a3 x2.1.length cp4), (40, .int .i64 x71), (248, .bool (decide (x71 < (x2.1.length : Int))))]) (es' := [rowT 42 eSPoint a3 x2.1.length cp4 x2.1]) [0] ?_ ⟨rfl, rfl, rfl, trivial⟩ (by decide) rfl
                                      refine JE.code ?_
                                      rcases cond_some hres with ⟨hb, hres⟩ | ⟨hb, hres⟩
                                      · refine JX.condT rfl hb ?_
                                        refine JX.skip ?_
                                        refine JE.code ?_
                                        refine JX.seq ?_
                                        refine JX.block ?_
                                        refine JX.seq ?_
                                        refine JX.region ?_
                                        refine JL.val (yl_move rfl) rfl ?_
                                        refine JL.val (yl_move rfl) rfl ?_
                                        refine JL.val (yl_move rfl) rfl ?_
                                        obtain ⟨x72, hx72, hres⟩ := bind_some hres
                                        refine JL.val (yl_idxT Go.Proofs.Try.underlying34 i42 i42s rfl rfl hx72 rfl (fun w hC => rd_row hC 0 rfl)) rfl ?_
                                        refine JL.val (yl_loadTn Go.Proofs.Try.underlying42 rfl i42 i42s rfl hx72 (fun w hC => rd_row hC 0 rfl)) rfl ?_
                                        obtain ⟨x73, hx73, hres⟩ := bind_some hres
                                        refine JL.eff (ef_call (vs := [.slice a3 x2.1.length cp4, .agg #[.int .i64 x72.X, .int .i64 x72.Y]]) (T := T20 x73) Go.Proofs.Try.func20 rfl (by kernel_rfl) rfl (fun w hC => c20 (q1 := x72) (rd_row hC 0 rfl) rfl (ln_row hC 0 rfl) hx73)) rfl ?_
                                        rintro _ _ ⟨_, ⟨rfl, rfl⟩, rfl⟩
                                        refine JL.val (yl_move rfl) rfl ?_
                                        refine JL.val (yl_extract rfl rfl) rfl ?_
                                        refine JL.val (yl_extract rfl rfl) rfl ?_
                                        refine JL.val (yl_assign rfl) rfl ?_
                                        refine JL.val (yl_assign rfl) rfl ?_
                                        refine JL.nil ?_
                                        refine JE.weak (env' := [(3, .slice a3 x2.1.length cp4), (40, .int .i64 x71), (41, .int .i64 x73.1), (42, .int .i64 x73.2)]) (es' := [rowT 42 eSPoint a3 x2.1.length cp4 x2.1]) [0] ?_ ⟨rfl, rfl, rfl, rfl, trivial⟩ (by decide) rfl
                                        refine JE.code ?_
                                        refine JX.seq ?_
                                        refine JX.region ?_
                                        refine JL.val (yl_move rfl) rfl ?_
                                        refine JL.val (yl_neq rfl rfl) rfl ?_
                                        refine JL.val (yl_move rfl) rfl ?_
                                        refine JL.cut (K := fun J => J [(3, .slice a3 x2.1.length cp4), (40, .int .i64 x71), (265, .bool ((x73.2 != 0) || (x73.1 != 1)))] [rowT 42 eSPoint a3 x2.1.length cp4 x2.1]) 3 ?_ ?_
                                        · refine JL.nil ?_
                                          refine JE.weak (env' := [(3, .slice a3 x2.1.length cp4), (40, .int .i64 x71), (265, .bool ((x73.2 != 0) || (x73.1 != 1)))]) (es' := [rowT 42 eSPoint a3 x2.1.length cp4 x2.1]) [0] ?_ ⟨rfl, rfl, rfl, trivial⟩ (by decide) rfl
                                          refine JE.code ?_
                                          rcases cond_some hres with ⟨hb, hres⟩ | ⟨hb, hres⟩
                                          · refine JX.condT rfl hb ?_
                                            refine JX.seq ?_
                                            refine JX.region ?_
                                            refine JL.val (yl_assign rfl) rfl ?_
                                            refine JL.nil ?_
                                            refine JE.weak (env' := [(2, .bool false)]) (es' := []) [] ?_ ⟨rfl, trivial⟩ (by decide) rfl
                                            refine JE.code ?_
                                            refine JX.ret ?_
                                            refine JE.qbr ?_
                                            refine JE.qbr ?_
                                            have hres := elimS_inr hresO2 (hox2 _ (Option.some.inj hres).symm)
                                            obtain rfl := Option.some.inj hres
                                            refine JE.ret (rs := [.tmp 2]) (vs := [.bool false]) rfl ⟨rfl, trivial⟩ ?_
                                            exact fun w' hb hs => ⟨_, _, ⟨rfl, rfl⟩, rfl, hb, hs.sel [] _ (by decide) rfl⟩
                                          · refine JX.condF rfl hb ?_
                                            refine JX.skip ?_
                                            refine JE.code ?_
                                            refine JX.region ?_
                                            refine JL.val (yl_move rfl) rfl ?_
                                            refine JL.val (yl_add rfl rfl) rfl ?_
                                            refine JL.val (yl_assign rfl) rfl ?_
                                            refine JL.nil ?_
                                            refine JE.cont hres ?_
                                            exact fun a w h => h.weak ⟨rfl, rfl, trivial⟩ [0] (by decide) rfl
                                        · intro K
                                          rcases Bool.eq_false_or_eq_true (x73.2 != 0) with hb | hb
                                          · refine JL.set (d := 262) (v := .bool true) (congrArg (fun b => some (Value.bool b)) hb) ?_
                                            refine JL.gskip rfl rfl rfl rfl ?_
                                            refine JL.gskip rfl rfl rfl rfl ?_
                                            refine JL.val (yl_pick_true rfl rfl) rfl ?_
                                            exact JL.weak [0] K ⟨rfl, rfl, (by rw [hb]; rfl), trivial⟩ (by decide) rfl
                                          · refine JL.set (d := 262) (v := .bool false) (congrArg (fun b => some (Value.bool b)) hb) ?_
                                            refine JL.gval rfl rfl (yl_move rfl) rfl ?_
                                            refine JL.gval rfl rfl (yl_neq rfl rfl) rfl ?_
                                            refine JL.val (yl_pick_false rfl rfl) rfl ?_
                                            exact JL.weak [0] K ⟨rfl, rfl, (by rw [hb]; rfl), trivial⟩ (by decide) rfl
                                      · refine JX.condF rfl hb ?_
                                        refine JX.exit ?_
                                        refine JE.qb rfl ?_
                                        obtain ⟨b2, hb2⟩ : ∃ b : Unit, b = () := ⟨_, rfl⟩
                                        have hy2 : Sum.inl b2 = y2 := by rw [hb2]; exact hox2 _ (Option.some.inj hres).symm
                                        have hres := elimS_inl hresO2 hy2
                                        refine JE.weak (env' := []) (es' := []) [] ?_ trivial (by decide) (by subst hb2; rfl)
                                        refine JE.code ?_
                                        refine JX.seq ?_
                                        refine JX.region ?_
                                        refine JL.val (yl_assign rfl) rfl ?_
                                        refine JL.nil ?_
                                        refine JE.code ?_
                                        refine JX.ret ?_
                                        obtain rfl := Option.some.inj hres
                                        refine JE.ret (rs := [.tmp 2]) (vs := [.bool true]) rfl ⟨rfl, trivial⟩ ?_
                                        exact fun w' hb hs => ⟨_, _, ⟨rfl, rfl⟩, rfl, hb, hs.sel [] _ (by decide) rfl⟩
                                  · intro K
                                    rcases Bool.eq_false_or_eq_true ((x69.2 != 0) || (x70.2 != 0)) with hb | hb
                                    · refine JL.set (d := 240) (v := .bool true) (congrArg (fun b => some (Value.bool b)) hb) ?_
                                      refine JL.gskip rfl rfl rfl rfl ?_
                                      refine JL.gskip rfl rfl rfl rfl ?_
                                      refine JL.gskip rfl rfl rfl rfl ?_
                                      refine JL.val (yl_pick_true rfl rfl) rfl ?_
                                      exact JL.weak [0] K ⟨rfl, (by rw [hb]; rfl), trivial⟩ (by decide) rfl
                                    · refine JL.set (d := 240) (v := .bool false) (congrArg (fun b => some (Value.bool b)) hb) ?_
                                      refine JL.gval rfl rfl (yl_move rfl) rfl ?_
                                      refine JL.gval rfl rfl (yl_move rfl) rfl ?_
                                      refine JL.gval rfl rfl (yl_neq rfl rfl) rfl ?_
                                      refine JL.val (yl_pick_false rfl rfl) rfl ?_
                                      exact JL.weak [0] K ⟨rfl, (by rw [hb]; rfl), trivial⟩ (by decide) rfl
                                · intro K
                                  rcases Bool.eq_false_or_eq_true (x69.2 != 0) with hb | hb
                                  · refine JL.set (d := 236) (v := .bool true) (congrArg (fun b => some (Value.bool b)) hb) ?_
                                    refine JL.gskip rfl rfl rfl rfl ?_
                                    refine JL.gskip rfl rfl rfl rfl ?_
                                    refine JL.val (yl_pick_true rfl rfl) rfl ?_
                                    exact JL.weak [0] K ⟨rfl, rfl, rfl, (by rw [hb]; rfl), trivial⟩ (by decide) rfl
                                  · refine JL.set (d := 236) (v := .bool false) (congrArg (fun b => some (Value.bool b)) hb) ?_
                                    refine JL.gval rfl rfl (yl_move rfl) rfl ?_
                                    refine JL.gval rfl rfl (yl_neq rfl rfl) rfl ?_
                                    refine JL.val (yl_pick_false rfl rfl) rfl ?_
                                    exact JL.weak [0] K ⟨rfl, rfl, rfl, (by rw [hb]; rfl), trivial⟩ (by decide) rfl
                        · intro K
                          rcases cond_some hcb56 with ⟨hb, hres⟩ | ⟨hb, hres⟩
                          · refine JL.set (d := 173) (v := .bool true) (congrArg (fun b => some (Value.bool b)) hb) ?_
                            refine JL.gskip rfl rfl rfl rfl ?_
                            refine JL.gskip rfl rfl rfl rfl ?_
                            refine JL.gskip rfl rfl rfl rfl ?_
                            refine JL.gskip rfl rfl rfl rfl ?_
                            refine JL.gskip rfl rfl rfl rfl ?_
                            refine JL.val (yl_pick_true rfl rfl) rfl ?_
                            have he := Option.some.inj hres
                            exact JL.weak [0, 1, 2, 3] K ⟨rfl, rfl, rfl, rfl, rfl, rfl, rfl, (by rw [← he]; rfl), trivial⟩ (by decide) rfl
                          · refine JL.set (d := 173) (v := .bool false) (congrArg (fun b => some (Value.bool b)) hb) ?_
                            refine JL.gval rfl rfl (yl_move rfl) rfl ?_
                            obtain ⟨x57, hx57, hres⟩ := bind_some hres
                            refine JL.geff rfl rfl (ef_call (T := T19 x57) Go.Proofs.Try.func19 rfl (by kernel_rfl) rfl (fun w hC => c19 (rd_row hC 4 rfl) rfl (ln_row hC 4 rfl) hx57)) rfl ?_
                            rintro _ _ ⟨_, ⟨rfl, rfl⟩, rfl⟩
                            refine JL.gval rfl rfl (yl_move rfl) rfl ?_
                            obtain ⟨x58, hx58, hres⟩ := bind_some hres
                            refine JL.geff rfl rfl (ef_call (T := T35 x58) Go.Proofs.Try.func35 rfl (by kernel_rfl) rfl (fun w hC => c35 (rd_row hC 4 rfl) rfl (ln_row hC 4 rfl) hx58)) rfl ?_
                            rintro _ _ ⟨_, ⟨rfl, rfl⟩, rfl⟩
                            refine JL.gval rfl rfl (yl_bneq Go.Proofs.Try.underlying4 rfl rfl) rfl ?_
                            refine JL.val (yl_pick_false rfl rfl) rfl ?_
                            have he := Option.some.inj hres
                            exact JL.weak [0, 1, 2, 3] K ⟨rfl, rfl, rfl, rfl, rfl, rfl, rfl, (by rw [← he]; rfl), trivial⟩ (by decide) rfl
                      · intro K
                        rcases Bool.eq_false_or_eq_true ((((((((cb54 || (x22.2 != x23.2)) || (x22.1 != x23.1)) || (x28.2.2 != x33.2.2)) || (!(((x28.1.X == x33.1.X) && ((x28.1.Y == x33.1.Y) && true))))) || (!(((x28.2.1.X == x33.2.1.X) && ((x28.2.1.Y == x33.2.1.Y) && true))))) || (x42.2 != x43.2)) || (x42.1 != x43.1)) || (x48.2 != x49.2)) with hb | hb
                        · refine JL.set (d := 168) (v := .bool true) (congrArg (fun b => some (Value.bool b)) hb) ?_
                          refine JL.gskip rfl rfl rfl rfl ?_
                          refine JL.gskip rfl rfl rfl rfl ?_
                          refine JL.gskip rfl rfl rfl rfl ?_
                          refine JL.val (yl_pick_true rfl rfl) rfl ?_
                          exact JL.weak [0, 1, 2, 3, 4] K ⟨rfl, rfl, rfl, rfl, rfl, rfl, rfl, rfl, (by rw [hb]; rfl), trivial⟩ (by decide) rfl
                        · refine JL.set (d := 168) (v := .bool false) (congrArg (fun b => some (Value.bool b)) hb) ?_
                          refine JL.gval rfl rfl (yl_move rfl) rfl ?_
                          refine JL.gval rfl rfl (yl_move rfl) rfl ?_
                          refine JL.gval rfl rfl (yl_neq rfl rfl) rfl ?_
                          refine JL.val (yl_pick_false rfl rfl) rfl ?_
                          exact JL.weak [0, 1, 2, 3, 4] K ⟨rfl, rfl, rfl, rfl, rfl, rfl, rfl, rfl, (by rw [hb]; rfl), trivial⟩ (by decide) rfl
                    · intro K
                      rcases Bool.eq_false_or_eq_true (((((((cb54 || (x22.2 != x23.2)) || (x22.1 != x23.1)) || (x28.2.2 != x33.2.2)) || (!(((x28.1.X == x33.1.X) && ((x28.1.Y == x33.1.Y) && true))))) || (!(((x28.2.1.X == x33.2.1.X) && ((x28.2.1.Y == x33.2.1.Y) && true))))) || (x42.2 != x43.2)) || (x42.1 != x43.1)) with hb | hb
                      · refine JL.set (d := 163) (v := .bool true) (congrArg (fun b => some (Value.bool b)) hb) ?_
                        refine JL.gskip rfl rfl rfl rfl ?_
                        refine JL.gskip rfl rfl rfl rfl ?_
                        refine JL.gskip rfl rfl rfl rfl ?_
                        refine JL.val (yl_pick_true rfl rfl) rfl ?_
                        exact JL.weak [0, 1, 2, 3, 4] K ⟨rfl, rfl, rfl, rfl, rfl, rfl, rfl, rfl, rfl, rfl, (by rw [hb]; rfl), trivial⟩ (by decide) rfl
                      · refine JL.set (d := 163) (v := .bool false) (congrArg (fun b => some (Value.bool b)) hb) ?_
                        refine JL.gval rfl rfl (yl_move rfl) rfl ?_
                        refine JL.gval rfl rfl (yl_move rfl) rfl ?_
                        refine JL.gval rfl rfl (yl_neq rfl rfl) rfl ?_
                        refine JL.val (yl_pick_false rfl rfl) rfl ?_
                        exact JL.weak [0, 1, 2, 3, 4] K ⟨rfl, rfl, rfl, rfl, rfl, rfl, rfl, rfl, rfl, rfl, (by rw [hb]; rfl), trivial⟩ (by decide) rfl
                  · intro K
                    rcases Bool.eq_false_or_eq_true ((((((cb54 || (x22.2 != x23.2)) || (x22.1 != x23.1)) || (x28.2.2 != x33.2.2)) || (!(((x28.1.X == x33.1.X) && ((x28.1.Y == x33.1.Y) && true))))) || (!(((x28.2.1.X == x33.2.1.X) && ((x28.2.1.Y == x33.2.1.Y) && true))))) || (x42.2 != x43.2)) with hb | hb
                    · refine JL.set (d := 158) (v := .bool true) (congrArg (fun b => some (Value.bool b)) hb) ?_
                      refine JL.gskip rfl rfl rfl rfl ?_
                      refine JL.gskip rfl rfl rfl rfl ?_
                      refine JL.gskip rfl rfl rfl rfl ?_
                      refine JL.val (yl_pick_true rfl rfl) rfl ?_
                      exact JL.weak [0, 1, 2, 3, 4] K ⟨rfl, rfl, rfl, rfl, rfl, rfl, rfl, rfl, rfl, rfl, rfl, rfl, (by rw [hb]; rfl), trivial⟩ (by decide) rfl
                    · refine JL.set (d := 158) (v := .bool false) (congrArg (fun b => some (Value.bool b)) hb) ?_
                      refine JL.gval rfl rfl (yl_move rfl) rfl ?_
                      refine JL.gval rfl rfl (yl_move rfl) rfl ?_
                      refine JL.gval rfl rfl (yl_neq rfl rfl) rfl ?_
                      refine JL.val (yl_pick_false rfl rfl) rfl ?_
                      exact JL.weak [0, 1, 2, 3, 4] K ⟨rfl, rfl, rfl, rfl, rfl, rfl, rfl, rfl, rfl, rfl, rfl, rfl, (by rw [hb]; rfl), trivial⟩ (by decide) rfl
                · intro K
                  rcases Bool.eq_false_or_eq_true (((((cb54 || (x22.2 != x23.2)) || (x22.1 != x23.1)) || (x28.2.2 != x33.2.2)) || (!(((x28.1.X == x33.1.X) && ((x28.1.Y == x33.1.Y) && true))))) || (!(((x28.2.1.X == x33.2.1.X) && ((x28.2.1.Y == x33.2.1.Y) && true))))) with hb | hb
                  · refine JL.set (d := 153) (v := .bool true) (congrArg (fun b => some (Value.bool b)) hb) ?_
                    refine JL.gskip rfl rfl rfl rfl ?_
                    refine JL.gskip rfl rfl rfl rfl ?_
                    refine JL.gskip rfl rfl rfl rfl ?_
                    refine JL.val (yl_pick_true rfl rfl) rfl ?_
                    exact JL.weak [0, 1, 2, 3, 4] K ⟨rfl, rfl, rfl, rfl, rfl, rfl, rfl, rfl, rfl, rfl, rfl, rfl, rfl, rfl, (by rw [hb]; rfl), trivial⟩ (by decide) rfl
                  · refine JL.set (d := 153) (v := .bool false) (congrArg (fun b => some (Value.bool b)) hb) ?_
                    refine JL.gval rfl rfl (yl_move rfl) rfl ?_
                    refine JL.gval rfl rfl (yl_move rfl) rfl ?_
                    refine JL.gval rfl rfl (yl_neq rfl rfl) rfl ?_
                    refine JL.val (yl_pick_false rfl rfl) rfl ?_
                    exact JL.weak [0, 1, 2, 3, 4] K ⟨rfl, rfl, rfl, rfl, rfl, rfl, rfl, rfl, rfl, rfl, rfl, rfl, rfl, rfl, (by rw [hb]; rfl), trivial⟩ (by decide) rfl
              · intro K
                rcases Bool.eq_false_or_eq_true ((((cb54 || (x22.2 != x23.2)) || (x22.1 != x23.1)) || (x28.2.2 != x33.2.2)) || (!(((x28.1.X == x33.1.X) && ((x28.1.Y == x33.1.Y) && true))))) with hb | hb
                · refine JL.set (d := 148) (v := .bool true) (congrArg (fun b => some (Value.bool b)) hb) ?_
                  refine JL.gskip rfl rfl rfl rfl ?_
                  refine JL.gskip rfl rfl rfl rfl ?_
                  refine JL.gskip rfl rfl rfl rfl ?_
                  refine JL.val (yl_pick_true rfl rfl) rfl ?_
                  exact JL.weak [0, 1, 2, 3, 6] K ⟨rfl, rfl, rfl, rfl, rfl, rfl, rfl, rfl, rfl, rfl, rfl, rfl, rfl, rfl, rfl, rfl, (by rw [hb]; rfl), trivial⟩ (by decide) rfl
                · refine JL.set (d := 148) (v := .bool false) (congrArg (fun b => some (Value.bool b)) hb) ?_
                  refine JL.gval rfl rfl (yl_loadn Go.Proofs.Try.underlying42 rfl i42 rfl (fun w hC => rd_box hC 4 rfl) rfl (i42s).symm i42p) rfl ?_
                  refine JL.gval rfl rfl (yl_loadn Go.Proofs.Try.underlying42 rfl i42 rfl (fun w hC => rd_box hC 5 rfl) rfl (i42s).symm i42p) rfl ?_
                  refine JL.gval rfl rfl (yl_binop_of rfl rfl (fun w => eqs42_g _ _ _ _ _ w) (fun w => eqs42_neq x28.2.1.X x28.2.1.Y x33.2.1.X x33.2.1.Y w)) rfl ?_
                  refine JL.val (yl_pick_false rfl rfl) rfl ?_
                  exact JL.weak [0, 1, 2, 3, 6] K ⟨rfl, rfl, rfl, rfl, rfl, rfl, rfl, rfl, rfl, rfl, rfl, rfl, rfl, rfl, rfl, rfl, (by rw [hb]; rfl), trivial⟩ (by decide) rfl
            · intro K
              rcases Bool.eq_false_or_eq_true (((cb54 || (x22.2 != x23.2)) || (x22.1 != x23.1)) || (x28.2.2 != x33.2.2)) with hb | hb
              · refine JL.set (d := 143) (v := .bool true) (congrArg (fun b => some (Value.bool b)) hb) ?_
                refine JL.gskip rfl rfl rfl rfl ?_
                refine JL.gskip rfl rfl rfl rfl ?_
                refine JL.gskip rfl rfl rfl rfl ?_
                refine JL.val (yl_pick_true rfl rfl) rfl ?_
                exact JL.weak [0, 1, 2, 3, 5, 7, 8] K ⟨rfl, rfl, rfl, rfl, rfl, rfl, rfl, rfl, rfl, rfl, rfl, rfl, rfl, rfl, rfl, rfl, rfl, rfl, (by rw [hb]; rfl), trivial⟩ (by decide) rfl
              · refine JL.set (d := 143) (v := .bool false) (congrArg (fun b => some (Value.bool b)) hb) ?_
                refine JL.gval rfl rfl (yl_loadn Go.Proofs.Try.underlying42 rfl i42 rfl (fun w hC => rd_box hC 4 rfl) rfl (i42s).symm i42p) rfl ?_
                refine JL.gval rfl rfl (yl_loadn Go.Proofs.Try.underlying42 rfl i42 rfl (fun w hC => rd_box hC 6 rfl) rfl (i42s).symm i42p) rfl ?_
                refine JL.gval rfl rfl (yl_binop_of rfl rfl (fun w => eqs42_g _ _ _ _ _ w) (fun w => eqs42_neq x28.1.X x28.1.Y x33.1.X x33.1.Y w)) rfl ?_
                refine JL.val (yl_pick_false rfl rfl) rfl ?_
                exact JL.weak [0, 1, 2, 3, 5, 7, 8] K ⟨rfl, rfl, rfl, rfl, rfl, rfl, rfl, rfl, rfl, rfl, rfl, rfl, rfl, rfl, rfl, rfl, rfl, rfl, (by rw [hb]; rfl), trivial⟩ (by decide) rfl
          · intro K
            rcases Bool.eq_false_or_eq_true ((cb54 || (x22.2 != x23.2)) || (x22.1 != x23.1)) with hb | hb
            · refine JL.set (d := 138) (v := .bool true) (congrArg (fun b => some (Value.bool b)) hb) ?_
              refine JL.gskip rfl rfl rfl rfl ?_
              refine JL.gskip rfl rfl rfl rfl ?_
              refine JL.gskip rfl rfl rfl rfl ?_
              refine JL.val (yl_pick_true rfl rfl) rfl ?_
              exact JL.weak [0, 1, 2, 3, 4, 5, 6, 7, 8] K ⟨rfl, rfl, rfl, rfl, rfl, rfl, rfl, rfl, rfl, rfl, rfl, rfl, rfl, rfl, rfl, rfl, rfl, rfl, rfl, rfl, (by rw [hb]; rfl), trivial⟩ (by decide) rfl
            · refine JL.set (d := 138) (v := .bool false) (congrArg (fun b => some (Value.bool b)) hb) ?_
              refine JL.gval rfl rfl (yl_move rfl) rfl ?_
              refine JL.gval rfl rfl (yl_move rfl) rfl ?_
              refine JL.gval rfl rfl (yl_neq rfl rfl) rfl ?_
              refine JL.val (yl_pick_false rfl rfl) rfl ?_
              exact JL.weak [0, 1, 2, 3, 4, 5, 6, 7, 8] K ⟨rfl, rfl, rfl, rfl, rfl, rfl, rfl, rfl, rfl, rfl, rfl, rfl, rfl, rfl, rfl, rfl, rfl, rfl, rfl, rfl, (by rw [hb]; rfl), trivial⟩ (by decide) rfl
        · intro K
          rcases Bool.eq_false_or_eq_true (cb54 || (x22.2 != x23.2)) with hb | hb
          · refine JL.set (d := 133) (v := .bool true) (congrArg (fun b => some (Value.bool b)) hb) ?_
            refine JL.gskip rfl rfl rfl rfl ?_
            refine JL.gskip rfl rfl rfl rfl ?_
            refine JL.gskip rfl rfl rfl rfl ?_
            refine JL.val (yl_pick_true rfl rfl) rfl ?_
            exact JL.weak [0, 1, 2, 3, 4, 5, 6, 7, 8] K ⟨rfl, rfl, rfl, rfl, rfl, rfl, rfl, rfl, rfl, rfl, rfl, rfl, rfl, rfl, rfl, rfl, rfl, rfl, rfl, rfl, rfl, rfl, (by rw [hb]; rfl), trivial⟩ (by decide) rfl
          · refine JL.set (d := 133) (v := .bool false) (congrArg (fun b => some (Value.bool b)) hb) ?_
            refine JL.gval rfl rfl (yl_move rfl) rfl ?_
            refine JL.gval rfl rfl (yl_move rfl) rfl ?_
            refine JL.gval rfl rfl (yl_neq rfl rfl) rfl ?_
            refine JL.val (yl_pick_false rfl rfl) rfl ?_
            exact JL.weak [0, 1, 2, 3, 4, 5, 6, 7, 8] K ⟨rfl, rfl, rfl, rfl, rfl, rfl, rfl, rfl, rfl, rfl, rfl, rfl, rfl, rfl, rfl, rfl, rfl, rfl, rfl, rfl, rfl, rfl, (by rw [hb]; rfl), trivial⟩ (by decide) rfl
      · intro K
        rcases Bool.eq_false_or_eq_true (cb54) with hb | hb
        · refine JL.set (d := 128) (v := .bool true) (congrArg (fun b => some (Value.bool b)) hb) ?_
          refine JL.gskip rfl rfl rfl rfl ?_
          refine JL.gskip rfl rfl rfl rfl ?_
          refine JL.gskip rfl rfl rfl rfl ?_
          refine JL.val (yl_pick_true rfl rfl) rfl ?_
          exact JL.weak [0, 1, 2, 3, 4, 5, 6, 7, 8] K ⟨rfl, rfl, rfl, rfl, rfl, rfl, rfl, rfl, rfl, rfl, rfl, rfl, rfl, rfl, rfl, rfl, rfl, rfl, rfl, rfl, rfl, rfl, rfl, (by rw [hb]; rfl), trivial⟩ (by decide) rfl
        · refine JL.set (d := 128) (v := .bool false) (congrArg (fun b => some (Value.bool b)) hb) ?_
          refine JL.gval rfl rfl (yl_move rfl) rfl ?_
          refine JL.gval rfl rfl (yl_move rfl) rfl ?_
          refine JL.gval rfl rfl (yl_neq rfl rfl) rfl ?_
          refine JL.val (yl_pick_false rfl rfl) rfl ?_
          exact JL.weak [0, 1, 2, 3, 4, 5, 6, 7, 8] K ⟨rfl, rfl, rfl, rfl, rfl, rfl, rfl, rfl, rfl, rfl, rfl, rfl, rfl, rfl, rfl, rfl, rfl, rfl, rfl, rfl, rfl, rfl, rfl, (by rw [hb]; rfl), trivial⟩ (by decide) rfl
    · intro K
      rcases cond_some hcb54 with ⟨hb, hres⟩ | ⟨hb, hres⟩
      · refine JL.set (d := 122) (v := .bool true) (congrArg (fun b => some (Value.bool b)) hb) ?_
        refine JL.gskip rfl rfl rfl rfl ?_
        refine JL.gskip rfl rfl rfl rfl ?_
        refine JL.gskip rfl rfl rfl rfl ?_
        refine JL.gskip rfl rfl rfl rfl ?_
        refine JL.val (yl_pick_true rfl rfl) rfl ?_
        have he := Option.some.inj hres
        exact JL.weak [0, 1, 3, 4, 5, 6, 7, 8, 9] K ⟨rfl, rfl, rfl, rfl, rfl, rfl, rfl, rfl, rfl, rfl, rfl, rfl, rfl, rfl, rfl, rfl, rfl, rfl, rfl, rfl, rfl, rfl, rfl, rfl, (by rw [← he]; rfl), trivial⟩ (by decide) rfl
      · refine JL.set (d := 122) (v := .bool false) (congrArg (fun b => some (Value.bool b)) hb) ?_
        refine JL.gval rfl rfl (yl_move rfl) rfl ?_
        refine JL.gval rfl rfl (yl_move rfl) rfl ?_
        obtain ⟨x55, hx55, hres⟩ := bind_some hres
        refine JL.geff rfl rfl (ef_call (T := T17 x55) Go.Proofs.Try.func17 rfl (by kernel_rfl) rfl (fun w hC => c17 (rd_row hC 1 rfl) rfl (ln_row hC 1 rfl) (rd_row hC 2 rfl) rfl (ln_row hC 2 rfl) hx55)) rfl ?_
        rintro _ _ ⟨_, ⟨rfl, rfl⟩, rfl⟩
        refine JL.gval rfl rfl (yl_not rfl) rfl ?_
        refine JL.val (yl_pick_false rfl rfl) rfl ?_
        have he := Option.some.inj hres
        exact JL.weak [0, 1, 3, 4, 5, 6, 7, 8, 9] K ⟨rfl, rfl, rfl, rfl, rfl, rfl, rfl, rfl, rfl, rfl, rfl, rfl, rfl, rfl, rfl, rfl, rfl, rfl, rfl, rfl, rfl, rfl, rfl, rfl, (by rw [← he]; rfl), trivial⟩ (by decide) rfl

end Go.Sh
