/- Walks through functions that the law reaches, printed by program. -/
import Derived.Test.YtinipjijgggjkaaF13W3
set_option linter.unusedVariables false
set_option linter.unusedSimpArgs false
namespace Go.Sh
open Go Go.RowKit
/- laws.FnColours -/
def sh13_1 (x74 : List Int × Int) : (Int × Int) → Option ((Int × Int) ⊕ (Int))
  | (x80, x81) => bif decide (x81 < (x74.1.length : Int)) then (Option.bind (getI x74.1 x81) fun x82 => some (.inl (if x80 < (w64 (x82 + 1)) then (w64 (x82 + 1)) else x80, w64 (x81 + 1)))) else (some (.inr x80))
def sh13 (q0 : List Int) : Option (Bool) := Option.bind (sh45 q0) fun x1 => bif x1 then (some true) else (Option.bind (sh52 q0) fun x2 => Option.bind (sh36 x2) fun x8 => Option.bind (sh35 x2) fun x12 => Option.bind (sh53 q0) fun x16 => Option.bind (sh42 x16) fun x22 => Option.bind (sh41 x16) fun x23 => Option.bind (sh54 q0) fun x24 => Option.bind (sh55 q0) fun x33 => Option.bind (sh40 x33.1 x33.2) fun x39 => Option.bind (sh39 x33.1 x33.2) fun x43 => Option.bind (sh56 q0) fun x47 => Option.bind (sh57 x47.1 x47.2) fun x56 => Option.bind (sh58 x47.1 x47.2) fun x60 => Option.bind (bif x8.2 != x12.2 then (some true) else (Option.bind (sh51 x8.1 x12.1) fun x66 => some !x66)) fun cb65 => (Option.bind (bif (cb65 || (x22.2 != x23.2)) || (x22.1 != x23.1) then (some true) else (Option.bind (sh33 x24.1 x24.2) fun x68 => Option.bind (sh31 x24.1 x24.2) fun x69 => some (x68 != x69))) fun cb67 => (Option.bind (bif cb67 || (x39.2 != x43.2) then (some true) else (Option.bind (sh51 x39.1 x43.1) fun x71 => some !x71)) fun cb70 => (Option.bind (bif cb70 || (x56.2 != x60.2) then (some true) else (Option.bind (sh59 x56.1 x60.1) fun x73 => some !x73)) fun cb72 => (bif cb72 then (some false) else (bif x22.2 == 0 then (Option.bind (sh36 x16) fun x74 => Option.bind (bif x74.2 != 0 then (some true) else (Option.bind (sh33 x16 x74.1) fun x79 => some !x79)) fun cb78 => (bif cb78 then (some false) else (Option.bind (iter (sh13_1 x74) (0, 0)) fun b1 => (bif (decide (b1 < x22.1)) || (decide (x22.1 < 1)) then (some false) else (bif x8.2 != 0 then (some true) else (Option.bind (sh60 x2) fun x83 => some ((x83.2 == 0) && ((x8.1.length : Int) == x83.1)))))))) else (bif x8.2 != 0 then (some true) else (Option.bind (sh60 x2) fun x84 => some ((x84.2 == 0) && ((x8.1.length : Int) == x84.1))))))))))
def T13 (r : Bool) (v : Value) (rs : List Own) : Prop := v = rets [.bool r] ∧ rs = []
set_option maxRecDepth 100000 in
set_option maxHeartbeats 1000000 in
theorem c13 {w : World} {q0 : List Int} {a_0 : Option Addr} {n_0 c_0 : Nat} (g_0 : Rd w a_0 (eU8.fl q0)) (l_0 : q0.length = n_0) (k_0 : n_0 ≤ c_0) {r : Bool} (hres : sh13 q0 = some r) : Calls Go.Proofs.Try.prog 13 [.slice a_0 n_0 c_0].toArray w (Ret w (T13 r)) := by
  subst l_0
  unfold sh13 at hres
  refine calls_of (n := 198) (M := []) (es := []) Go.Proofs.Try.func13 rfl rfl rfl (Sep.nil _ _ _) ?_
  refine JX.seq ?_
  refine JX.region ?_
  refine JL.val (yl_assign rfl) rfl ?_
  refine JL.nil ?_
  refine JE.code ?_
  refine JX.seq ?_
  refine JX.seq ?_
  refine JX.region ?_
  refine JL.val (yl_move rfl) rfl ?_
  obtain ⟨x1, hx1, hres⟩ := bind_some hres
  refine JL.eff (ef_call (T := T45 x1) Go.Proofs.Try.func45 rfl (by kernel_rfl) rfl (fun w hC => c45 (rd_arg g_0 hC) rfl k_0 hx1)) rfl ?_
  rintro _ _ ⟨_, ⟨rfl, rfl⟩, rfl⟩
  refine JL.nil ?_
  refine JE.code ?_
  rcases cond_some hres with ⟨hb, hres⟩ | ⟨hb, hres⟩
  · refine JX.condT rfl hb ?_
    refine JX.seq ?_
    refine JX.region ?_
    refine JL.val (yl_assign rfl) rfl ?_
    refine JL.nil ?_
    refine JE.code ?_
    refine JX.ret ?_
    obtain rfl := Option.some.inj hres
    refine JE.ret (rs := [.tmp 2]) (vs := [.bool true]) rfl ⟨rfl, trivial⟩ ?_
    exact fun w' hb hs => ⟨_, _, ⟨rfl, rfl⟩, rfl, hb, hs.sel [] _ (by decide) rfl⟩
  · refine JX.condF rfl hb ?_
    refine JX.skip ?_
    refine JE.code ?_
    refine JX.seq ?_
    refine JX.region ?_
    refine JL.val (yl_move rfl) rfl ?_
    obtain ⟨x2, hx2, hres⟩ := bind_some hres
    refine JL.eff (ef_call (T := T52 x2) Go.Proofs.Try.func52 rfl (by kernel_rfl) rfl (fun w hC => c52 (rd_arg g_0 hC) rfl k_0 hx2)) rfl ?_
    rintro _ _ ⟨_, ⟨a3, _, cp4, rfl, rfl, rfl⟩, rfl⟩
    refine JL.eff (ef_alloc i28 i28z rfl) rfl ?_
    rintro _ _ ⟨g6, rfl, rfl⟩
    refine JL.eff (ef_store_box (i := 1) (v := .agg #[.int .i64 x2.W, .int .i64 x2.H, .slice a3 x2.Breaks.length cp4]) i28 rfl rfl rfl (i28s).symm (Nat.le_of_ble_eq_true rfl) (by simp [Value.cells, Value.oneCell'])) rfl ?_
    rintro _ _ rfl
    refine JL.nil ?_
    refine JE.weak (env' := [(0, .slice a_0 q0.length c_0), (3, ptrAt (some ⟨g6, 0, none⟩) 0)]) (es' := [boxO 28 g6 [.int .i64 x2.W, .int .i64 x2.H, .slice a3 x2.Breaks.length cp4], rowT 2 eI64 a3 x2.Breaks.length cp4 x2.Breaks]) [1, 0] ?_ ⟨rfl, rfl, trivial⟩ (by decide) rfl
    refine JE.code ?_
    refine JX.seq ?_
    refine JX.region ?_
    refine JL.val (yl_loadn Go.Proofs.Try.underlying28 rfl i28 rfl (fun w hC => rd_box hC 0 rfl) rfl (i28s).symm i28p) rfl ?_
    obtain ⟨x8, hx8, hres⟩ := bind_some hres
    refine JL.eff (ef_call (vs := [.agg #[.int .i64 x2.W, .int .i64 x2.H, .slice a3 x2.Breaks.length cp4]]) (T := T36 x8) Go.Proofs.Try.func36 rfl (by kernel_rfl) rfl (fun w hC => c36 (q0 := x2) (rd_row hC 1 rfl) rfl (ln_row hC 1 rfl) hx8)) rfl ?_
    rintro _ _ ⟨_, ⟨a9, _, cp10, rfl, rfl, rfl⟩, rfl⟩
    refine JL.val (yl_move rfl) rfl ?_
    refine JL.val (yl_extract rfl rfl) rfl ?_
    refine JL.val (yl_extract rfl rfl) rfl ?_
    refine JL.val (yl_assign rfl) rfl ?_
    refine JL.val (yl_assign rfl) rfl ?_
    refine JL.nil ?_
    refine JE.weak (env' := [(0, .slice a_0 q0.length c_0), (3, ptrAt (some ⟨g6, 0, none⟩) 0), (4, .slice a9 x8.1.length cp10), (5, .int .i64 x8.2)]) (es' := [boxO 28 g6 [.int .i64 x2.W, .int .i64 x2.H, .slice a3 x2.Breaks.length cp4], rowT 2 eI64 a3 x2.Breaks.length cp4 x2.Breaks, rowT 2 eI64 a9 x8.1.length cp10 x8.1]) [0, 1, 2] ?_ ⟨rfl, rfl, rfl, rfl, trivial⟩ (by decide) rfl
    refine JE.code ?_
    refine JX.seq ?_
    refine JX.region ?_
    refine JL.val (yl_loadn Go.Proofs.Try.underlying28 rfl i28 rfl (fun w hC => rd_box hC 0 rfl) rfl (i28s).symm i28p) rfl ?_
    obtain ⟨x12, hx12, hres⟩ := bind_some hres
    refine JL.eff (ef_call (vs := [.agg #[.int .i64 x2.W, .int .i64 x2.H, .slice a3 x2.Breaks.length cp4]]) (T := T35 x12) Go.Proofs.Try.func35 rfl (by kernel_rfl) rfl (fun w hC => c35 (q0 := x2) (rd_row hC 1 rfl) rfl (ln_row hC 1 rfl) hx12)) rfl ?_
    rintro _ _ ⟨_, ⟨a13, _, cp14, rfl, rfl, rfl⟩, rfl⟩
    refine JL.val (yl_move rfl) rfl ?_
    refine JL.val (yl_extract rfl rfl) rfl ?_
    refine JL.val (yl_extract rfl rfl) rfl ?_
    refine JL.val (yl_assign rfl) rfl ?_
    refine JL.val (yl_assign rfl) rfl ?_
    refine JL.nil ?_
    refine JE.weak (env' := [(0, .slice a_0 q0.length c_0), (3, ptrAt (some ⟨g6, 0, none⟩) 0), (4, .slice a9 x8.1.length cp10), (5, .int .i64 x8.2), (6, .slice a13 x12.1.length cp14), (7, .int .i64 x12.2)]) (es' := [boxO 28 g6 [.int .i64 x2.W, .int .i64 x2.H, .slice a3 x2.Breaks.length cp4], rowT 2 eI64 a3 x2.Breaks.length cp4 x2.Breaks, rowT 2 eI64 a9 x8.1.length cp10 x8.1, rowT 2 eI64 a13 x12.1.length cp14 x12.1]) [0, 1, 2, 3] ?_ ⟨rfl, rfl, rfl, rfl, rfl, rfl, trivial⟩ (by decide) rfl
    refine JE.code ?_
    refine JX.seq ?_
    refine JX.region ?_
    refine JL.val (yl_move rfl) rfl ?_
    obtain ⟨x16, hx16, hres⟩ := bind_some hres
    refine JL.eff (ef_call (T := T53 x16) Go.Proofs.Try.func53 rfl (by kernel_rfl) rfl (fun w hC => c53 (rd_arg g_0 hC) rfl k_0 hx16)) rfl ?_
    rintro _ _ ⟨_, ⟨a17, _, cp18, rfl, rfl, rfl⟩, rfl⟩
    refine JL.eff (ef_alloc i28 i28z rfl) rfl ?_
    rintro _ _ ⟨g20, rfl, rfl⟩
    refine JL.eff (ef_store_box (i := 5) (v := .agg #[.int .i64 x16.W, .int .i64 x16.H, .slice a17 x16.Breaks.length cp18]) i28 rfl rfl rfl (i28s).symm (Nat.le_of_ble_eq_true rfl) (by simp [Value.cells, Value.oneCell'])) rfl ?_
    rintro _ _ rfl
    refine JL.nil ?_
    refine JE.weak (env' := [(0, .slice a_0 q0.length c_0), (3, ptrAt (some ⟨g6, 0, none⟩) 0), (4, .slice a9 x8.1.length cp10), (5, .int .i64 x8.2), (6, .slice a13 x12.1.length cp14), (7, .int .i64 x12.2), (8, ptrAt (some ⟨g20, 0, none⟩) 0)]) (es' := [boxO 28 g6 [.int .i64 x2.W, .int .i64 x2.H, .slice a3 x2.Breaks.length cp4], rowT 2 eI64 a3 x2.Breaks.length cp4 x2.Breaks, rowT 2 eI64 a9 x8.1.length cp10 x8.1, rowT 2 eI64 a13 x12.1.length cp14 x12.1, boxO 28 g20 [.int .i64 x16.W, .int .i64 x16.H, .slice a17 x16.Breaks.length cp18], rowT 2 eI64 a17 x16.Breaks.length cp18 x16.Breaks]) [0, 1, 2, 3, 5, 4] ?_ ⟨rfl, rfl, rfl, rfl, rfl, rfl, rfl, trivial⟩ (by decide) rfl
    refine JE.code ?_
    refine JX.seq ?_
    refine JX.region ?_
    refine JL.val (yl_loadn Go.Proofs.Try.underlying28 rfl i28 rfl (fun w hC => rd_box hC 4 rfl) rfl (i28s).symm i28p) rfl ?_
    obtain ⟨x22, hx22, hres⟩ := bind_some hres
    refine JL.eff (ef_call (vs := [.agg #[.int .i64 x16.W, .int .i64 x16.H, .slice a17 x16.Breaks.length cp18]]) (T := T42 x22) Go.Proofs.Try.func42 rfl (by kernel_rfl) rfl (fun w hC => c42 (q0 := x16) (rd_row hC 5 rfl) rfl (ln_row hC 5 rfl) hx22)) rfl ?_
    rintro _ _ ⟨_, ⟨rfl, rfl⟩, rfl⟩
    refine JL.val (yl_move rfl) rfl ?_
    refine JL.val (yl_extract rfl rfl) rfl ?_
    refine JL.val (yl_extract rfl rfl) rfl ?_
    refine JL.val (yl_assign rfl) rfl ?_
    refine JL.val (yl_assign rfl) rfl ?_
    refine JL.nil ?_
    refine JE.weak (env' := [(0, .slice a_0 q0.length c_0), (3, ptrAt (some ⟨g6, 0, none⟩) 0), (4, .slice a9 x8.1.length cp10), (5, .int .i64 x8.2), (6, .slice a13 x12.1.length cp14), (7, .int .i64 x12.2), (8, ptrAt (some ⟨g20, 0, none⟩) 0), (9, .int .i64 x22.1), (10, .int .i64 x22.2)]) (es' := [boxO 28 g6 [.int .i64 x2.W, .int .i64 x2.H, .slice a3 x2.Breaks.length cp4], rowT 2 eI64 a3 x2.Breaks.length cp4 x2.Breaks, rowT 2 eI64 a9 x8.1.length cp10 x8.1, rowT 2 eI64 a13 x12.1.length cp14 x12.1, boxO 28 g20 [.int .i64 x16.W, .int .i64 x16.H, .slice a17 x16.Breaks.length cp18], rowT 2 eI64 a17 x16.Breaks.length cp18 x16.Breaks]) [0, 1, 2, 3, 4, 5] ?_ ⟨rfl, rfl, rfl, rfl, rfl, rfl, rfl, rfl, rfl, trivial⟩ (by decide) rfl
    refine JE.code ?_
    refine JX.seq ?_
    refine JX.region ?_
    refine JL.val (yl_loadn Go.Proofs.Try.underlying28 rfl i28 rfl (fun w hC => rd_box hC 4 rfl) rfl (i28s).symm i28p) rfl ?_
    obtain ⟨x23, hx23, hres⟩ := bind_some hres
    refine JL.eff (ef_call (vs := [.agg #[.int .i64 x16.W, .int .i64 x16.H, .slice a17 x16.Breaks.length cp18]]) (T := T41 x23) Go.Proofs.Try.func41 rfl (by kernel_rfl) rfl (fun w hC => c41 (q0 := x16) (rd_row hC 5 rfl) rfl (ln_row hC 5 rfl) hx23)) rfl ?_
    rintro _ _ ⟨_, ⟨rfl, rfl⟩, rfl⟩
    refine JL.val (yl_move rfl) rfl ?_
    refine JL.val (yl_extract rfl rfl) rfl ?_
    refine JL.val (yl_extract rfl rfl) rfl ?_
    refine JL.val (yl_assign rfl) rfl ?_
    refine JL.val (yl_assign rfl) rfl ?_
    refine JL.nil ?_
    refine JE.weak (env' := [(0, .slice a_0 q0.length c_0), (3, ptrAt (some ⟨g6, 0, none⟩) 0), (4, .slice a9 x8.1.length cp10), (5, .int .i64 x8.2), (6, .slice a13 x12.1.length cp14), (7, .int .i64 x12.2), (8, ptrAt (some ⟨g20, 0, none⟩) 0), (9, .int .i64 x22.1), (10, .int .i64 x22.2), (11, .int .i64 x23.1), (12, .int .i64 x23.2)]) (es' := [boxO 28 g6 [.int .i64 x2.W, .int .i64 x2.H, .slice a3 x2.Breaks.length cp4], rowT 2 eI64 a3 x2.Breaks.length cp4 x2.Breaks, rowT 2 eI64 a9 x8.1.length cp10 x8.1, rowT 2 eI64 a13 x12.1.length cp14 x12.1, boxO 28 g20 [.int .i64 x16.W, .int .i64 x16.H, .slice a17 x16.Breaks.length cp18], rowT 2 eI64 a17 x16.Breaks.length cp18 x16.Breaks]) [0, 1, 2, 3, 4, 5] ?_ ⟨rfl, rfl, rfl, rfl, rfl, rfl, rfl, rfl, rfl, rfl, rfl, trivial⟩ (by decide) rfl
    refine JE.code ?_
    refine JX.seq ?_
    refine JX.region ?_
    refine JL.val (yl_move rfl) rfl ?_
    obtain ⟨x24, hx24, hres⟩ := bind_some hres
    refine JL.eff (ef_call (T := T54 x24) Go.Proofs.Try.func54 rfl (by kernel_rfl) rfl (fun w hC => c54 (rd_arg g_0 hC) rfl k_0 hx24)) rfl ?_
    rintro _ _ ⟨_, ⟨a25, _, cp26, rfl, a28, _, cp29, rfl, rfl, rfl⟩, rfl⟩
    refine JL.val (yl_move rfl) rfl ?_
    refine JL.val (yl_extract rfl rfl) rfl ?_
    refine JL.val (yl_extract rfl rfl) rfl ?_
    refine JL.eff (ef_alloc i28 i28z rfl) rfl ?_
    rintro _ _ ⟨g31, rfl, rfl⟩
    refine JL.eff (ef_store_box (i := 8) (v := .agg #[.int .i64 x24.1.W, .int .i64 x24.1.H, .slice a25 x24.1.Breaks.length cp26]) i28 rfl rfl rfl (i28s).symm (Nat.le_of_ble_eq_true rfl) (by simp [Value.cells, Value.oneCell'])) rfl ?_
    rintro _ _ rfl
    refine JL.val (yl_assign rfl) rfl ?_
    refine JL.nil ?_
    refine JE.weak (env' := [(0, .slice a_0 q0.length c_0), (3, ptrAt (some ⟨g6, 0, none⟩) 0), (4, .slice a9 x8.1.length cp10), (5, .int .i64 x8.2), (6, .slice a13 x12.1.length cp14), (7, .int .i64 x12.2), (8, ptrAt (some ⟨g20, 0, none⟩) 0), (9, .int .i64 x22.1), (10, .int .i64 x22.2), (11, .int .i64 x23.1), (12, .int .i64 x23.2), (13, ptrAt (some ⟨g31, 0, none⟩) 0), (14, .slice a28 x24.2.length cp29)]) (es' := [boxO 28 g6 [.int .i64 x2.W, .int .i64 x2.H, .slice a3 x2.Breaks.length cp4], rowT 2 eI64 a3 x2.Breaks.length cp4 x2.Breaks, rowT 2 eI64 a9 x8.1.length cp10 x8.1, rowT 2 eI64 a13 x12.1.length cp14 x12.1, boxO 28 g20 [.int .i64 x16.W, .int .i64 x16.H, .slice a17 x16.Breaks.length cp18], rowT 2 eI64 a17 x16.Breaks.length cp18 x16.Breaks, boxO 28 g31 [.int .i64 x24.1.W, .int .i64 x24.1.H, .slice a25 x24.1.Breaks.length cp26], rowT 2 eI64 a25 x24.1.Breaks.length cp26 x24.1.Breaks, rowT 2 eI64 a28 x24.2.length cp29 x24.2]) [0, 1, 2, 3, 4, 5, 8, 6, 7] ?_ ⟨rfl, rfl, rfl, rfl, rfl, rfl, rfl, rfl, rfl, rfl, rfl, rfl, rfl, trivial⟩ (by decide) rfl
    refine JE.code ?_
    refine JX.seq ?_
    refine JX.region ?_
    refine JL.val (yl_move rfl) rfl ?_
    obtain ⟨x33, hx33, hres⟩ := bind_some hres
    refine JL.eff (ef_call (T := T55 x33) Go.Proofs.Try.func55 rfl (by kernel_rfl) rfl (fun w hC => c55 (rd_arg g_0 hC) rfl k_0 hx33)) rfl ?_
    rintro _ _ ⟨_, ⟨a34, _, cp35, rfl, rfl, rfl⟩, rfl⟩
    refine JL.val (yl_move rfl) rfl ?_
    refine JL.val (yl_extract rfl rfl) rfl ?_
    refine JL.val (yl_extract rfl rfl) rfl ?_
    refine JL.eff (ef_alloc i28 i28z rfl) rfl ?_
    rintro _ _ ⟨g37, rfl, rfl⟩
    refine JL.eff (ef_store_box (i := 10) (v := .agg #[.int .i64 x33.1.W, .int .i64 x33.1.H, .slice a34 x33.1.Breaks.length cp35]) i28 rfl rfl rfl (i28s).symm (Nat.le_of_ble_eq_true rfl) (by simp [Value.cells, Value.oneCell'])) rfl ?_
    rintro _ _ rfl
    refine JL.val (yl_assign rfl) rfl ?_
    refine JL.nil ?_
    refine JE.weak (env' := [(0, .slice a_0 q0.length c_0), (3, ptrAt (some ⟨g6, 0, none⟩) 0), (4, .slice a9 x8.1.length cp10), (5, .int .i64 x8.2), (6, .slice a13 x12.1.length cp14), (7, .int .i64 x12.2), (8, ptrAt (some ⟨g20, 0, none⟩) 0), (9, .int .i64 x22.1), (10, .int .i64 x22.2), (11, .int .i64 x23.1), (12, .int .i64 x23.2), (13, ptrAt (some ⟨g31, 0, none⟩) 0), (14, .slice a28 x24.2.length cp29), (15, ptrAt (some ⟨g37, 0, none⟩) 0), (16, .int .i64 x33.2)]) (es' := [boxO 28 g6 [.int .i64 x2.W, .int .i64 x2.H, .slice a3 x2.Breaks.length cp4], rowT 2 eI64 a3 x2.Breaks.length cp4 x2.Breaks, rowT 2 eI64 a9 x8.1.length cp10 x8.1, rowT 2 eI64 a13 x12.1.length cp14 x12.1, boxO 28 g20 [.int .i64 x16.W, .int .i64 x16.H, .slice a17 x16.Breaks.length cp18], rowT 2 eI64 a17 x16.Breaks.length cp18 x16.Breaks, boxO 28 g31 [.int .i64 x24.1.W, .int .i64 x24.1.H, .slice a25 x24.1.Breaks.length cp26], rowT 2 eI64 a25 x24.1.Breaks.length cp26 x24.1.Breaks, rowT 2 eI64 a28 x24.2.length cp29 x24.2, boxO 28 g37 [.int .i64 x33.1.W, .int .i64 x33.1.H, .slice a34 x33.1.Breaks.length cp35], rowT 2 eI64 a34 x33.1.Breaks.length cp35 x33.1.Breaks]) [0, 1, 2, 3, 4, 5, 6, 7, 8, 10, 9] ?_ ⟨rfl, rfl, rfl, rfl, rfl, rfl, rfl, rfl, rfl, rfl, rfl, rfl, rfl, rfl, rfl, trivial⟩ (by decide) rfl
    refine JE.code ?_
    refine JX.seq ?_
    refine JX.region ?_
    refine JL.val (yl_loadn Go.Proofs.Try.underlying28 rfl i28 rfl (fun w hC => rd_box hC 9 rfl) rfl (i28s).symm i28p) rfl ?_
    refine JL.val (yl_move rfl) rfl ?_
    obtain ⟨x39, hx39, hres⟩ := bind_some hres
    refine JL.eff (ef_call (vs := [.agg #[.int .i64 x33.1.W, .int .i64 x33.1.H, .slice a34 x33.1.Breaks.length cp35], .int .i64 x33.2]) (T := T40 x39) Go.Proofs.Try.func40 rfl (by kernel_rfl) rfl (fun w hC => c40 (q0 := x33.1) (rd_row hC 10 rfl) rfl (ln_row hC 10 rfl) hx39)) rfl ?_
    rintro _ _ ⟨_, ⟨a40, _, cp41, rfl, rfl, rfl⟩, rfl⟩
    refine JL.val (yl_move rfl) rfl ?_
    refine JL.val (yl_extract rfl rfl) rfl ?_
    refine JL.val (yl_extract rfl rfl) rfl ?_
    refine JL.val (yl_assign rfl) rfl ?_
    refine JL.val (yl_assign rfl) rfl ?_
    refine JL.nil ?_
    refine JE.weak (env' := [(0, .slice a_0 q0.length c_0), (3, ptrAt (some ⟨g6, 0, none⟩) 0), (4, .slice a9 x8.1.length cp10), (5, .int .i64 x8.2), (6, .slice a13 x12.1.length cp14), (7, .int .i64 x12.2), (8, ptrAt (some ⟨g20, 0, none⟩) 0), (9, .int .i64 x22.1), (10, .int .i64 x22.2), (11, .int .i64 x23.1), (12, .int .i64 x23.2), (13, ptrAt (some ⟨g31, 0, none⟩) 0), (14, .slice a28 x24.2.length cp29), (15, ptrAt (some ⟨g37, 0, none⟩) 0), (16, .int .i64 x33.2), (17, .slice a40 x39.1.length cp41), (18, .int .i64 x39.2)]) (es' := [boxO 28 g6 [.int .i64 x2.W, .int .i64 x2.H, .slice a3 x2.Breaks.length cp4], rowT 2 eI64 a3 x2.Breaks.length cp4 x2.Breaks, rowT 2 eI64 a9 x8.1.length cp10 x8.1, rowT 2 eI64 a13 x12.1.length cp14 x12.1, boxO 28 g20 [.int .i64 x16.W, .int .i64 x16.H, .slice a17 x16.Breaks.length cp18], rowT 2 eI64 a17 x16.Breaks.length cp18 x16.Breaks, boxO 28 g31 [.int .i64 x24.1.W, .int .i64 x24.1.H, .slice a25 x24.1.Breaks.length cp26], rowT 2 eI64 a25 x24.1.Breaks.length cp26 x24.1.Breaks, rowT 2 eI64 a28 x24.2.length cp29 x24.2, boxO 28 g37 [.int .i64 x33.1.W, .int .i64 x33.1.H, .slice a34 x33.1.Breaks.length cp35], rowT 2 eI64 a34 x33.1.Breaks.length cp35 x33.1.Breaks, rowT 2 eI64 a40 x39.1.length cp41 x39.1]) [0, 1, 2, 3, 4, 5, 6, 7, 8, 9, 10, 11] ?_ ⟨rfl, rfl, rfl, rfl, rfl, rfl, rfl, rfl, rfl, rfl, rfl, rfl, rfl, rfl, rfl, rfl, rfl, trivial⟩ (by decide) rfl
    refine JE.code ?_
    refine JX.seq ?_
    refine JX.region ?_
    refine JL.val (yl_loadn Go.Proofs.Try.underlying28 rfl i28 rfl (fun w hC => rd_box hC 9 rfl) rfl (i28s).symm i28p) rfl ?_
    refine JL.val (yl_move rfl) rfl ?_
    obtain ⟨x43, hx43, hres⟩ := bind_some hres
    refine JL.eff (ef_call (vs := [.agg #[.int .i64 x33.1.W, .int .i64 x33.1.H, .slice a34 x33.1.Breaks.length cp35], .int .i64 x33.2]) (T := T39 x43) Go.Proofs.Try.func39 rfl (by kernel_rfl) rfl (fun w hC => c39 (q0 := x33.1) (rd_row hC 10 rfl) rfl (ln_row hC 10 rfl) hx43)) rfl ?_
    rintro _ _ ⟨_, ⟨a44, _, cp45, rfl, rfl, rfl⟩, rfl⟩
    refine JL.val (yl_move rfl) rfl ?_
    refine JL.val (yl_extract rfl rfl) rfl ?_
    refine JL.val (yl_extract rfl rfl) rfl ?_
    refine JL.val (yl_assign rfl) rfl ?_
    refine JL.val (yl_assign rfl) rfl ?_
    refine JL.nil ?_
    refine JE.weak (env' := [(0, .slice a_0 q0.length c_0), (3, ptrAt (some ⟨g6, 0, none⟩) 0), (4, .slice a9 x8.1.length cp10), (5, .int .i64 x8.2), (6, .slice a13 x12.1.length cp14), (7, .int .i64 x12.2), (8, ptrAt (some ⟨g20, 0, none⟩) 0), (9, .int .i64 x22.1), (10, .int .i64 x22.2), (11, .int .i64 x23.1), (12, .int .i64 x23.2), (13, ptrAt (some ⟨g31, 0, none⟩) 0), (14, .slice a28 x24.2.length cp29), (17, .slice a40 x39.1.length cp41), (18, .int .i64 x39.2), (19, .slice a44 x43.1.length cp45), (20, .int .i64 x43.2)]) (es' := [boxO 28 g6 [.int .i64 x2.W, .int .i64 x2.H, .slice a3 x2.Breaks.length cp4], rowT 2 eI64 a3 x2.Breaks.length cp4 x2.Breaks, rowT 2 eI64 a9 x8.1.length cp10 x8.1, rowT 2 eI64 a13 x12.1.length cp14 x12.1, boxO 28 g20 [.int .i64 x16.W, .int .i64 x16.H, .slice a17 x16.Breaks.length cp18], rowT 2 eI64 a17 x16.Breaks.length cp18 x16.Breaks, boxO 28 g31 [.int .i64 x24.1.W, .int .i64 x24.1.H, .slice a25 x24.1.Breaks.length cp26], rowT 2 eI64 a25 x24.1.Breaks.length cp26 x24.1.Breaks, rowT 2 eI64 a28 x24.2.length cp29 x24.2, rowT 2 eI64 a40 x39.1.length cp41 x39.1, rowT 2 eI64 a44 x43.1.length cp45 x43.1]) [0, 1, 2, 3, 4, 5, 6, 7, 8, 11, 12] ?_ ⟨rfl, rfl, rfl, rfl, rfl, rfl, rfl, rfl, rfl, rfl, rfl, rfl, rfl, rfl, rfl, rfl, rfl, trivial⟩ (by decide) rfl
    refine JE.code ?_
    refine JX.seq ?_
    refine JX.region ?_
    refine JL.val (yl_move rfl) rfl ?_
    obtain ⟨x47, hx47, hres⟩ := bind_some hres
    refine JL.eff (ef_call (T := T56 x47) Go.Proofs.Try.func56 rfl (by kernel_rfl) rfl (fun w hC => c56 (rd_arg g_0 hC) rfl k_0 hx47)) rfl ?_
    rintro _ _ ⟨_, ⟨a48, _, cp49, rfl, a51, _, cp52, rfl, rfl, rfl⟩, rfl⟩
    refine JL.val (yl_move rfl) rfl ?_
    refine JL.val (yl_extract rfl rfl) rfl ?_
    refine JL.val (yl_extract rfl rfl) rfl ?_
    refine JL.eff (ef_alloc i28 i28z rfl) rfl ?_
    rintro _ _ ⟨g54, rfl, rfl⟩
    refine JL.eff (ef_store_box (i := 13) (v := .agg #[.int .i64 x47.1.W, .int .i64 x47.1.H, .slice a48 x47.1.Breaks.length cp49]) i28 rfl rfl rfl (i28s).symm (Nat.le_of_ble_eq_true rfl) (by simp [Value.cells, Value.oneCell'])) rfl ?_
    rintro _ _ rfl
    refine JL.val (yl_assign rfl) rfl ?_
    refine JL.nil ?_
    refine JE.weak (env' := [(3, ptrAt (some ⟨g6, 0, none⟩) 0), (4, .slice a9 x8.1.length cp10), (5, .int .i64 x8.2), (6, .slice a13 x12.1.length cp14), (7, .int .i64 x12.2), (8, ptrAt (some ⟨g20, 0, none⟩) 0), (9, .int .i64 x22.1), (10, .int .i64 x22.2), (11, .int .i64 x23.1), (12, .int .i64 x23.2), (13, ptrAt (some ⟨g31, 0, none⟩) 0), (14, .slice a28 x24.2.length cp29), (17, .slice a40 x39.1.length cp41), (18, .int .i64 x39.2), (19, .slice a44 x43.1.length cp45), (20, .int .i64 x43.2), (21, ptrAt (some ⟨g54, 0, none⟩) 0), (22, .slice a51 x47.2.length cp52)]) (es' := [boxO 28 g6 [.int .i64 x2.W, .int .i64 x2.H, .slice a3 x2.Breaks.length cp4], rowT 2 eI64 a3 x2.Breaks.length cp4 x2.Breaks, rowT 2 eI64 a9 x8.1.length cp10 x8.1, rowT 2 eI64 a13 x12.1.length cp14 x12.1, boxO 28 g20 [.int .i64 x16.W, .int .i64 x16.H, .slice a17 x16.Breaks.length cp18], rowT 2 eI64 a17 x16.Breaks.length cp18 x16.Breaks, boxO 28 g31 [.int .i64 x24.1.W, .int .i64 x24.1.H, .slice a25 x24.1.Breaks.length cp26], rowT 2 eI64 a25 x24.1.Breaks.length cp26 x24.1.Breaks, rowT 2 eI64 a28 x24.2.length cp29 x24.2, rowT 2 eI64 a40 x39.1.length cp41 x39.1, rowT 2 eI64 a44 x43.1.length cp45 x43.1, boxO 28 g54 [.int .i64 x47.1.W, .int .i64 x47.1.H, .slice a48 x47.1.Breaks.length cp49], rowT 2 eI64 a48 x47.1.Breaks.length cp49 x47.1.Breaks, rowT 2 eI64 a51 x47.2.length cp52 x47.2]) [0, 1, 2, 3, 4, 5, 6, 7, 8, 9, 10, 13, 11, 12] ?_ ⟨rfl, rfl, rfl, rfl, rfl, rfl, rfl, rfl, rfl, rfl, rfl, rfl, rfl, rfl, rfl, rfl, rfl, rfl, trivial⟩ (by decide) rfl
    refine JE.code ?_
    refine JX.seq ?_
    refine JX.region ?_
    refine JL.val (yl_loadn Go.Proofs.Try.underlying28 rfl i28 rfl (fun w hC => rd_box hC 11 rfl) rfl (i28s).symm i28p) rfl ?_
    refine JL.val (yl_move rfl) rfl ?_
    obtain ⟨x56, hx56, hres⟩ := bind_some hres
    refine JL.eff (ef_call (vs := [.agg #[.int .i64 x47.1.W, .int .i64 x47.1.H, .slice a48 x47.1.Breaks.length cp49], .slice a51 x47.2.length cp52]) (T := T57 x56) Go.Proofs.Try.func57 rfl (by kernel_rfl) rfl (fun w hC => c57 (q0 := x47.1) (rd_row hC 12 rfl) rfl (ln_row hC 12 rfl) (rd_row hC 13 rfl) rfl (ln_row hC 13 rfl) hx56)) rfl ?_
    rintro _ _ ⟨_, ⟨a57, _, cp58, rfl, rfl, rfl⟩, rfl⟩
    refine JL.val (yl_move rfl) rfl ?_
    refine JL.val (yl_extract rfl rfl) rfl ?_
    refine JL.val (yl_extract rfl rfl) rfl ?_
    refine JL.val (yl_assign rfl) rfl ?_
    refine JL.val (yl_assign rfl) rfl ?_
    refine JL.nil ?_
    refine JE.weak (env' := [(3, ptrAt (some ⟨g6, 0, none⟩) 0), (4, .slice a9 x8.1.length cp10), (5, .int .i64 x8.2), (6, .slice a13 x12.1.length cp14), (7, .int .i64 x12.2), (8, ptrAt (some ⟨g20, 0, none⟩) 0), (9, .int .i64 x22.1), (10, .int .i64 x22.2), (11, .int .i64 x23.1), (12, .int .i64 x23.2), (13, ptrAt (some ⟨g31, 0, none⟩) 0), (14, .slice a28 x24.2.length cp29), (17, .slice a40 x39.1.length cp41), (18, .int .i64 x39.2), (19, .slice a44 x43.1.length cp45), (20, .int .i64 x43.2), (21, ptrAt (some ⟨g54, 0, none⟩) 0), (22, .slice a51 x47.2.length cp52), (23, .slice a57 x56.1.length cp58), (24, .int .i64 x56.2)]) (es' := [boxO 28 g6 [.int .i64 x2.W, .int .i64 x2.H, .slice a3 x2.Breaks.length cp4], rowT 2 eI64 a3 x2.Breaks.length cp4 x2.Breaks, rowT 2 eI64 a9 x8.1.length cp10 x8.1, rowT 2 eI64 a13 x12.1.length cp14 x12.1, boxO 28 g20 [.int .i64 x16.W, .int .i64 x16.H, .slice a17 x16.Breaks.length cp18], rowT 2 eI64 a17 x16.Breaks.length cp18 x16.Breaks, boxO 28 g31 [.int .i64 x24.1.W, .int .i64 x24.1.H, .slice a25 x24.1.Breaks.length cp26], rowT 2 eI64 a25 x24.1.Breaks.length cp26 x24.1.Breaks, rowT 2 eI64 a28 x24.2.length cp29 x24.2, rowT 2 eI64 a40 x39.1.length cp41 x39.1, rowT 2 eI64 a44 x43.1.length cp45 x43.1, boxO 28 g54 [.int .i64 x47.1.W, .int .i64 x47.1.H, .slice a48 x47.1.Breaks.length cp49], rowT 2 eI64 a48 x47.1.Breaks.length cp49 x47.1.Breaks, rowT 2 eI64 a51 x47.2.length cp52 x47.2, rowT 9 eStr a57 x56.1.length cp58 x56.1]) [0, 1, 2, 3, 4, 5, 6, 7, 8, 9, 10, 11, 12, 13, 14] ?_ ⟨rfl, rfl, rfl, rfl, rfl, rfl, rfl, rfl, rfl, rfl, rfl, rfl, rfl, rfl, rfl, rfl, rfl, rfl, rfl, rfl, trivial⟩ (by decide) rfl
    refine JE.code ?_
    refine JX.seq ?_
    refine JX.region ?_
    refine JL.val (yl_loadn Go.Proofs.Try.underlying28 rfl i28 rfl (fun w hC => rd_box hC 11 rfl) rfl (i28s).symm i28p) rfl ?_
    refine JL.val (yl_move rfl) rfl ?_
    obtain ⟨x60, hx60, hres⟩ := bind_some hres
    refine JL.eff (ef_call (vs := [.agg #[.int .i64 x47.1.W, .int .i64 x47.1.H, .slice a48 x47.1.Breaks.length cp49], .slice a51 x47.2.length cp52]) (T := T58 x60) Go.Proofs.Try.func58 rfl (by kernel_rfl) rfl (fun w hC => c58 (q0 := x47.1) (rd_row hC 12 rfl) rfl (ln_row hC 12 rfl) (rd_row hC 13 rfl) rfl (ln_row hC 13 rfl) hx60)) rfl ?_
    rintro _ _ ⟨_, ⟨a61, _, cp62, rfl, rfl, rfl⟩, rfl⟩
    refine JL.val (yl_move rfl) rfl ?_
    refine JL.val (yl_extract rfl rfl) rfl ?_
    refine JL.val (yl_extract rfl rfl) rfl ?_
    refine JL.val (yl_assign rfl) rfl ?_
    refine JL.val (yl_assign rfl) rfl ?_
    refine JL.nil ?_
    refine JE.weak (env' := [(3, ptrAt (some ⟨g6, 0, none⟩) 0), (4, .slice a9 x8.1.length cp10), (5, .int .i64 x8.2), (6, .slice a13 x12.1.length cp14), (7, .int .i64 x12.2), (8, ptrAt (some ⟨g20, 0, none⟩) 0), (9, .int .i64 x22.1), (10, .int .i64 x22.2), (11, .int .i64 x23.1), (12, .int .i64 x23.2), (13, ptrAt (some ⟨g31, 0, none⟩) 0), (14, .slice a28 x24.2.length cp29), (17, .slice a40 x39.1.length cp41), (18, .int .i64 x39.2), (19, .slice a44 x43.1.length cp45), (20, .int .i64 x43.2), (23, .slice a57 x56.1.length cp58), (24, .int .i64 x56.2), (25, .slice a61 x60.1.length cp62), (26, .int .i64 x60.2)]) (es' := [boxO 28 g6 [.int .i64 x2.W, .int .i64 x2.H, .slice a3 x2.Breaks.length cp4], rowT 2 eI64 a3 x2.Breaks.length cp4 x2.Breaks, rowT 2 eI64 a9 x8.1.length cp10 x8.1, rowT 2 eI64 a13 x12.1.length cp14 x12.1, boxO 28 g20 [.int .i64 x16.W, .int .i64 x16.H, .slice a17 x16.Breaks.length cp18], rowT 2 eI64 a17 x16.Breaks.length cp18 x16.Breaks, boxO 28 g31 [.int .i64 x24.1.W, .int .i64 x24.1.H, .slice a25 x24.1.Breaks.length cp26], rowT 2 eI64 a25 x24.1.Breaks.length cp26 x24.1.Breaks, rowT 2 eI64 a28 x24.2.length cp29 x24.2, rowT 2 eI64 a40 x39.1.length cp41 x39.1, rowT 2 eI64 a44 x43.1.length cp45 x43.1, rowT 9 eStr a57 x56.1.length cp58 x56.1, rowT 9 eStr a61 x60.1.length cp62 x60.1]) [0, 1, 2, 3, 4, 5, 6, 7, 8, 9, 10, 14, 15] ?_ ⟨rfl, rfl, rfl, rfl, rfl, rfl, rfl, rfl, rfl, rfl, rfl, rfl, rfl, rfl, rfl, rfl, rfl, rfl, rfl, rfl, trivial⟩ (by decide) rfl
    refine JE.code ?_
    refine JX.seq ?_
    refine JX.seq ?_
    refine JX.drawH [(0, .pure), (1, .pure), (2, .pure), (3, .pure), (4, .pure), (5, .pure), (6, .must), (7, .pure), (8, .pure), (9, .pure), (10, .pure), (11, .pure), (12, .pure), (13, .pure), (14, .pure), (15, .pure), (16, .pure), (17, .pure), (18, .pure), (19, .pure), (20, .read), (21, .pure), (23, .read), (24, .pure), (22, .must), (25, .must), (26, .pure), (27, .pure), (28, .pure), (29, .pure), (30, .pure), (31, .pure), (32, .pure), (33, .pure), (34, .pure), (35, .pure), (36, .must), (37, .pure), (38, .pure), (39, .pure), (40, .pure), (41, .pure), (42, .pure), (43, .pure), (44, .pure), (45, .pure), (46, .pure), (47, .must), (48, .pure), (49, .pure)] [] [] [0, 1, 2, 3, 4, 5, 6, 7, 8, 9, 10, 11, 12] [] [boxO 28 g6 [.int .i64 x2.W, .int .i64 x2.H, .slice a3 x2.Breaks.length cp4], rowT 2 eI64 a3 x2.Breaks.length cp4 x2.Breaks, rowT 2 eI64 a9 x8.1.length cp10 x8.1, rowT 2 eI64 a13 x12.1.length cp14 x12.1, boxO 28 g20 [.int .i64 x16.W, .int .i64 x16.H, .slice a17 x16.Breaks.length cp18], rowT 2 eI64 a17 x16.Breaks.length cp18 x16.Breaks, boxO 28 g31 [.int .i64 x24.1.W, .int .i64 x24.1.H, .slice a25 x24.1.Breaks.length cp26], rowT 2 eI64 a25 x24.1.Breaks.length cp26 x24.1.Breaks, rowT 2 eI64 a28 x24.2.length cp29 x24.2, rowT 2 eI64 a40 x39.1.length cp41 x39.1, rowT 2 eI64 a44 x43.1.length cp45 x43.1, rowT 9 eStr a57 x56.1.length cp58 x56.1, rowT 9 eStr a61 x60.1.length cp62 x60.1] mixedP (by kernel_rfl) (by kernel_rfl) (by decide) rfl rfl ?_
    intro wrr64 Nr64 hFr64
    refine JH.pure rfl (yl_move rfl) rfl ?_
    refine JH.pure rfl (yl_move rfl) rfl ?_
    refine JH.pure rfl (yl_neq rfl rfl) rfl ?_
    refine JH.pure rfl (yl_move rfl) rfl ?_
    obtain ⟨cb65, hcb65, hres⟩ := bind_some hres
    refine JH.cut (K := fun J => J [(3, ptrAt (some ⟨g6, 0, none⟩) 0), (4, .slice a9 x8.1.length cp10), (5, .int .i64 x8.2), (8, ptrAt (some ⟨g20, 0, none⟩) 0), (9, .int .i64 x22.1), (10, .int .i64 x22.2), (11, .int .i64 x23.1), (12, .int .i64 x23.2), (13, ptrAt (some ⟨g31, 0, none⟩) 0), (14, .slice a28 x24.2.length cp29), (17, .slice a40 x39.1.length cp41), (18, .int .i64 x39.2), (19, .slice a44 x43.1.length cp45), (20, .int .i64 x43.2), (23, .slice a57 x56.1.length cp58), (24, .int .i64 x56.2), (25, .slice a61 x60.1.length cp62), (26, .int .i64 x60.2), (106, .bool cb65)] []) 5 ?_ ?_
    · refine JH.pure rfl (yl_move rfl) rfl ?_
      refine JH.cut (K := fun J => J [(3, ptrAt (some ⟨g6, 0, none⟩) 0), (4, .slice a9 x8.1.length cp10), (5, .int .i64 x8.2), (8, ptrAt (some ⟨g20, 0, none⟩) 0), (9, .int .i64 x22.1), (10, .int .i64 x22.2), (11, .int .i64 x23.1), (13, ptrAt (some ⟨g31, 0, none⟩) 0), (14, .slice a28 x24.2.length cp29), (17, .slice a40 x39.1.length cp41), (18, .int .i64 x39.2), (19, .slice a44 x43.1.length cp45), (20, .int .i64 x43.2), (23, .slice a57 x56.1.length cp58), (24, .int .i64 x56.2), (25, .slice a61 x60.1.length cp62), (26, .int .i64 x60.2), (111, .bool (cb65 || (x22.2 != x23.2)))] []) 4 ?_ ?_
      · refine JH.pure rfl (yl_move rfl) rfl ?_
        refine JH.cut (K := fun J => J [(3, ptrAt (some ⟨g6, 0, none⟩) 0), (4, .slice a9 x8.1.length cp10), (5, .int .i64 x8.2), (8, ptrAt (some ⟨g20, 0, none⟩) 0), (9, .int .i64 x22.1), (10, .int .i64 x22.2), (13, ptrAt (some ⟨g31, 0, none⟩) 0), (14, .slice a28 x24.2.length cp29), (17, .slice a40 x39.1.length cp41), (18, .int .i64 x39.2), (19, .slice a44 x43.1.length cp45), (20, .int .i64 x43.2), (23, .slice a57 x56.1.length cp58), (24, .int .i64 x56.2), (25, .slice a61 x60.1.length cp62), (26, .int .i64 x60.2), (116, .bool ((cb65 || (x22.2 != x23.2)) || (x22.1 != x23.1)))] []) 4 ?_ ?_
        · refine JH.pure rfl (yl_move rfl) rfl ?_
          obtain ⟨cb67, hcb67, hres⟩ := bind_some hres
          refine JH.cut (K := fun J => J [(3, ptrAt (some ⟨g6, 0, none⟩) 0), (4, .slice a9 x8.1.length cp10), (5, .int .i64 x8.2), (8, ptrAt (some ⟨g20, 0, none⟩) 0), (9, .int .i64 x22.1), (10, .int .i64 x22.2), (17, .slice a40 x39.1.length cp41), (18, .int .i64 x39.2), (19, .slice a44 x43.1.length cp45), (20, .int .i64 x43.2), (23, .slice a57 x56.1.length cp58), (24, .int .i64 x56.2), (25, .slice a61 x60.1.length cp62), (26, .int .i64 x60.2), (125, .bool cb67)] []) 8 ?_ ?_
          · refine JH.pure rfl (yl_move rfl) rfl ?_
            refine JH.cut (K := fun J => J [(3, ptrAt (some ⟨g6, 0, none⟩) 0), (4, .slice a9 x8.1.length cp10), (5, .int .i64 x8.2), (8, ptrAt (some ⟨g20, 0, none⟩) 0), (9, .int .i64 x22.1), (10, .int .i64 x22.2), (17, .slice a40 x39.1.length cp41), (19, .slice a44 x43.1.length cp45), (23, .slice a57 x56.1.length cp58), (24, .int .i64 x56.2), (25, .slice a61 x60.1.length cp62), (26, .int .i64 x60.2), (130, .bool (cb67 || (x39.2 != x43.2)))] []) 4 ?_ ?_
            · refine JH.pure rfl (yl_move rfl) rfl ?_
              obtain ⟨cb70, hcb70, hres⟩ := bind_some hres
              refine JH.cut (K := fun J => J [(3, ptrAt (some ⟨g6, 0, none⟩) 0), (4, .slice a9 x8.1.length cp10), (5, .int .i64 x8.2), (8, ptrAt (some ⟨g20, 0, none⟩) 0), (9, .int .i64 x22.1), (10, .int .i64 x22.2), (23, .slice a57 x56.1.length cp58), (24, .int .i64 x56.2), (25, .slice a61 x60.1.length cp62), (26, .int .i64 x60.2), (136, .bool cb70)] []) 5 ?_ ?_
              · refine JH.pure rfl (yl_move rfl) rfl ?_
                refine JH.cut (K := fun J => J [(3, ptrAt (some ⟨g6, 0, none⟩) 0), (4, .slice a9 x8.1.length cp10), (5, .int .i64 x8.2), (8, ptrAt (some ⟨g20, 0, none⟩) 0), (9, .int .i64 x22.1), (10, .int .i64 x22.2), (23, .slice a57 x56.1.length cp58), (25, .slice a61 x60.1.length cp62), (141, .bool (cb70 || (x56.2 != x60.2)))] []) 4 ?_ ?_
                · refine JH.pure rfl (yl_move rfl) rfl ?_
                  obtain ⟨cb72, hcb72, hres⟩ := bind_some hres
                  refine JH.cut (K := fun J => J [(3, ptrAt (some ⟨g6, 0, none⟩) 0), (4, .slice a9 x8.1.length cp10), (5, .int .i64 x8.2), (8, ptrAt (some ⟨g20, 0, none⟩) 0), (9, .int .i64 x22.1), (10, .int .i64 x22.2), (147, .bool cb72)] []) 5 ?_ ?_
                  · refine JH.nil ?_
                    refine JE.weak (env' := [(3, ptrAt (some ⟨g6, 0, none⟩) 0), (4, .slice a9 x8.1.length cp10), (5, .int .i64 x8.2), (8, ptrAt (some ⟨g20, 0, none⟩) 0), (9, .int .i64 x22.1), (10, .int .i64 x22.2), (147, .bool cb72)]) (es' := [boxO 28 g6 [.int .i64 x2.W, .int .i64 x2.H, .slice a3 x2.Breaks.length cp4], rowT 2 eI64 a3 x2.Breaks.length cp4 x2.Breaks, rowT 2 eI64 a9 x8.1.length cp10 x8.1, boxO 28 g20 [.int .i64 x16.W, .int .i64 x16.H, .slice a17 x16.Breaks.length cp18], rowT 2 eI64 a17 x16.Breaks.length cp18 x16.Breaks]) [0, 1, 2, 4, 5] ?_ ⟨rfl, rfl, rfl, rfl, rfl, rfl, rfl, trivial⟩ (by decide) rfl
                    refine JE.code ?_
                    rcases cond_some hres with ⟨hb, hres⟩ | ⟨hb, hres⟩
                    · refine JX.condT rfl hb ?_
                      refine JX.seq ?_
                      refine JX.region ?_
                      refine JL.val (yl_assign rfl) rfl ?_
                      refine JL.nil ?_
                      refine JE.weak (env' := [(2, .bool false)]) (es' := []) [] ?_ ⟨rfl, trivial⟩ (by decide) rfl
                      refine JE.code ?_
                      refine JX.ret ?_
                      obtain rfl := Option.some.inj hres
                      refine JE.ret (rs := [.tmp 2]) (vs := [.bool false]) rfl ⟨rfl, trivial⟩ ?_
                      exact fun w' hb hs => ⟨_, _, ⟨rfl, rfl⟩, rfl, hb, hs.sel [] _ (by decide) rfl⟩
                    · refine JX.condF rfl hb ?_
                      refine JX.skip ?_
                      refine JE.code ?_
                      refine JX.seq ?_
                      refine JX.seq ?_
                      refine JX.region ?_
                      refine JL.val (yl_move rfl) rfl ?_
                      refine JL.val (yl_eql rfl rfl) rfl ?_
                      refine JL.nil ?_
                      refine JE.code ?_
                      rcases cond_some hres with ⟨hb, hres⟩ | ⟨hb, hres⟩
                      · refine JX.condT rfl hb ?_
                        refine JX.seq ?_
                        refine JX.region ?_
                        refine JL.val (yl_loadn Go.Proofs.Try.underlying28 rfl i28 rfl (fun w hC => rd_box hC 3 rfl) rfl (i28s).symm i28p) rfl ?_
                        obtain ⟨x74, hx74, hres⟩ := bind_some hres
                        refine JL.eff (ef_call (vs := [.agg #[.int .i64 x16.W, .int .i64 x16.H, .slice a17 x16.Breaks.length cp18]]) (T := T36 x74) Go.Proofs.Try.func36 rfl (by kernel_rfl) rfl (fun w hC => c36 (q0 := x16) (rd_row hC 4 rfl) rfl (ln_row hC 4 rfl) hx74)) rfl ?_
                        rintro _ _ ⟨_, ⟨a75, _, cp76, rfl, rfl, rfl⟩, rfl⟩
                        refine JL.val (yl_move rfl) rfl ?_
                        refine JL.val (yl_extract rfl rfl) rfl ?_
                        refine JL.val (yl_extract rfl rfl) rfl ?_
                        refine JL.val (yl_assign rfl) rfl ?_
                        refine JL.val (yl_assign rfl) rfl ?_
                        refine JL.nil ?_
                        refine JE.weak (env' := [(3, ptrAt (some ⟨g6, 0, none⟩) 0), (4, .slice a9 x8.1.length cp10), (5, .int .i64 x8.2), (8, ptrAt (some ⟨g20, 0, none⟩) 0), (9, .int .i64 x22.1), (27, .slice a75 x74.1.length cp76), (28, .int .i64 x74.2)]) (es' := [boxO 28 g6 [.int .i64 x2.W, .int .i64 x2.H, .slice a3 x2.Breaks.length cp4], rowT 2 eI64 a3 x2.Breaks.length cp4 x2.Breaks, rowT 2 eI64 a9 x8.1.length cp10 x8.1, boxO 28 g20 [.int .i64 x16.W, .int .i64 x16.H, .slice a17 x16.Breaks.length cp18], rowT 2 eI64 a17 x16.Breaks.length cp18 x16.Breaks, rowT 2 eI64 a75 x74.1.length cp76 x74.1]) [0, 1, 2, 3, 4, 5] ?_ ⟨rfl, rfl, rfl, rfl, rfl, rfl, rfl, trivial⟩ (by decide) rfl
                        refine JE.code ?_
                        refine JX.seq ?_
                        refine JX.seq ?_
                        refine JX.region ?_
                        refine JL.val (yl_move rfl) rfl ?_
                        refine JL.val (yl_neq rfl rfl) rfl ?_
                        refine JL.val (yl_move rfl) rfl ?_
                        obtain ⟨cb78, hcb78, hres⟩ := bind_some hres
                        refine JL.cut (K := fun J => J [(3, ptrAt (some ⟨g6, 0, none⟩) 0), (4, .slice a9 x8.1.length cp10), (5, .int .i64 x8.2), (9, .int .i64 x22.1), (27, .slice a75 x74.1.length cp76), (162, .bool cb78)] [boxO 28 g6 [.int .i64 x2.W, .int .i64 x2.H, .slice a3 x2.Breaks.length cp4], rowT 2 eI64 a3 x2.Breaks.length cp4 x2.Breaks, rowT 2 eI64 a9 x8.1.length cp10 x8.1, rowT 2 eI64 a75 x74.1.length cp76 x74.1]) 5 ?_ ?_
                        · refine JL.nil ?_
                          refine JE.weak (env' := [(3, ptrAt (some ⟨g6, 0, none⟩) 0), (4, .slice a9 x8.1.length cp10), (5, .int .i64 x8.2), (9, .int .i64 x22.1), (27, .slice a75 x74.1.length cp76), (162, .bool cb78)]) (es' := [boxO 28 g6 [.int .i64 x2.W, .int .i64 x2.H, .slice a3 x2.Breaks.length cp4], rowT 2 eI64 a3 x2.Breaks.length cp4 x2.Breaks, rowT 2 eI64 a9 x8.1.length cp10 x8.1, rowT 2 eI64 a75 x74.1.length cp76 x74.1]) [0, 1, 2, 3] ?_ ⟨rfl, rfl, rfl, rfl, rfl, rfl, trivial⟩ (by decide) rfl
                          refine JE.code ?_
                          rcases cond_some hres with ⟨hb, hres⟩ | ⟨hb, hres⟩
                          · refine JX.condT rfl hb ?_
                            refine JX.seq ?_
                            refine JX.region ?_
                            refine JL.val (yl_assign rfl) rfl ?_
                            refine JL.nil ?_
                            refine JE.weak (env' := [(2, .bool false)]) (es' := []) [] ?_ ⟨rfl, trivial⟩ (by decide) rfl
                            refine JE.code ?_
                            refine JX.ret ?_
                            obtain rfl := Option.some.inj hres
                            refine JE.ret (rs := [.tmp 2]) (vs := [.bool false]) rfl ⟨rfl, trivial⟩ ?_
                            exact fun w' hb hs => ⟨_, _, ⟨rfl, rfl⟩, rfl, hb, hs.sel [] _ (by decide) rfl⟩
                          · refine JX.condF rfl hb ?_
                            refine JX.skip ?_
                            refine JE.code ?_
                            refine JX.seq ?_
                            refine JX.region ?_
                            refine JL.val (yl_assign rfl) rfl ?_
                            refine JL.nil ?_
                            refine JE.code ?_
                            refine JX.seq ?_
                            refine JX.seq ?_
                            refine JX.region ?_
                            refine JL.val (yl_assign rfl) rfl ?_
                            refine JL.nil ?_
                            refine JE.code ?_
                            refine JX.block ?_
                            obtain ⟨y1, hy1, hresO1⟩ := bind_some hres
                            refine JX.loop (I := fun (s1 : Int × Int) aa ww => St w [] 198 [(3, ptrAt (some ⟨g6, 0, none⟩) 0), (4, .slice a9 x8.1.length cp10), (5, .int .i64 x8.2), (9, .int .i64 x22.1), (27, .slice a75 x74.1.length cp76), (29, .int .i64 s1.1), (30, .int .i64 s1.2)] [boxO 28 g6 [.int .i64 x2.W, .int .i64 x2.H, .slice a3 x2.Breaks.length cp4], rowT 2 eI64 a3 x2.Breaks.length cp4 x2.Breaks, rowT 2 eI64 a9 x8.1.length cp10 x8.1, rowT 2 eI64 a75 x74.1.length cp76 x74.1] aa ww) (sh13_1 x74) hy1 (fun a w h => h.weak ⟨rfl, rfl, rfl, rfl, rfl, rfl, rfl, trivial⟩ [0, 1, 2, 3] (by decide) rfl) ?_
                            rintro ⟨x80, x81⟩ o1 hres hox1 aa ww hS
                            refine (?_ : JX Go.Proofs.Try.prog w [] 198 _ _ [(3, ptrAt (some ⟨g6, 0, none⟩) 0), (4, .slice a9 x8.1.length cp10), (5, .int .i64 x8.2), (9, .int .i64 x22.1), (27, .slice a75 x74.1.length cp76), (29, .int .i64 x80), (30, .int .i64 x81)] [boxO 28 g6 [.int .i64 x2.W, .int .i64 x2.H, .slice a3 x2.Breaks.length cp4], rowT 2 eI64 a3 x2.Breaks.length cp4 x2.Breaks, rowT 2 eI64 a9 x8.1.length cp10 x8.1, rowT 2 eI64 a75 x74.1.length cp76 x74.1] _) aa ww hS
                            clear hS
                            simp only [sh13_1] at hres
                            refine JX.seq ?_
                            refine JX.seq ?_
                            refine JX.region ?_
                            refine JL.val (yl_move rfl) rfl ?_
                            refine JL.val (yl_move rfl) rfl ?_
                            refine JL.val (yl_len_slice Go.Proofs.Try.underlying22 rfl) rfl ?_
                            refine JL.val (yl_lss rfl rfl) rfl ?_
                            refine JL.nil ?_
                            refine JE.weak (env' := [(3, ptrAt (some ⟨g6, 0, none⟩) 0), (4, .slice a9 x8.1.length cp10), (5, .int .i64 x8.2), (9, .int .i64 x22.1), (27, .slice a75 x74.1.length cp76), (29, .int .i64 x80), (30, .int .i64 x81), (166, .bool (decide (x81 < (x74.1.length : Int))))]) (es' := [boxO 28 g6 [.int .i64 x2.W, .int .i64 x2.H, .slice a3 x2.Breaks.length cp4], rowT 2 eI64 a3 x2.Breaks.length cp4 x2.Breaks, rowT 2 eI64 a9 x8.1.length cp10 x8.1, rowT 2 eI64 a75 x74.1.length cp76 x74.1]) [0, 1, 2, 3] ?_ ⟨rfl, rfl, rfl, rfl, rfl, rfl, rfl, rfl, trivial⟩ (by decide) rfl
                            refine JE.code ?_
                            rcases cond_some hres with ⟨hb, hres⟩ | ⟨hb, hres⟩
                            · refine JX.condT rfl hb ?_
                              refine JX.skip ?_
                              refine JE.code ?_
                              refine JX.seq ?_
                              refine JX.block ?_
                              refine JX.region ?_
                              refine JL.val (yl_move rfl) rfl ?_
                              refine JL.val (yl_move rfl) rfl ?_
                              refine JL.val (yl_move rfl) rfl ?_
                              obtain ⟨x82, hx82, hres⟩ := bind_some hres
                              refine JL.val (yl_idxT Go.Proofs.Try.underlying22 i2 i2s rfl rfl hx82 rfl (fun w hC => rd_row hC 3 rfl)) rfl ?_
                              refine JL.val (yl_loadT0 Go.Proofs.Try.underlying2 rfl rfl hx82 (fun w hC => rd_row hC 3 rfl) rfl) rfl ?_
                              refine JL.val (yl_add rfl rfl) rfl ?_
                              refine JL.val (yl_max rfl rfl) rfl ?_
                              refine JL.val (yl_assign rfl) rfl ?_
                              refine JL.nil ?_
                              refine JE.weak (env' := [(3, ptrAt (some ⟨g6, 0, none⟩) 0), (4, .slice a9 x8.1.length cp10), (5, .int .i64 x8.2), (9, .int .i64 x22.1), (27, .slice a75 x74.1.length cp76), (29, .int .i64 (if x80 < (w64 (x82 + 1)) then (w64 (x82 + 1)) else x80)), (30, .int .i64 x81)]) (es' := [boxO 28 g6 [.int .i64 x2.W, .int .i64 x2.H, .slice a3 x2.Breaks.length cp4], rowT 2 eI64 a3 x2.Breaks.length cp4 x2.Breaks, rowT 2 eI64 a9 x8.1.length cp10 x8.1, rowT 2 eI64 a75 x74.1.length cp76 x74.1]) [0, 1, 2, 3] ?_ ⟨rfl, rfl, rfl, rfl, rfl, rfl, rfl, trivial⟩ (by decide) rfl
                              refine JE.code ?_
                              refine JX.region ?_
                              refine JL.val (yl_move rfl) rfl ?_
                              refine JL.val (yl_add rfl rfl) rfl ?_
                              refine JL.val (yl_assign rfl) rfl ?_
                              refine JL.nil ?_
                              refine JE.cont hres ?_
                              exact fun a w h => h.weak ⟨rfl, rfl, rfl, rfl, rfl, rfl, rfl, trivial⟩ [0, 1, 2, 3] (by decide) rfl
                            · refine JX.condF rfl hb ?_
                              refine JX.exit ?_
                              refine JE.qb rfl ?_
                              obtain ⟨b1, hb1⟩ : ∃ b : Int, b = x80 := ⟨_, rfl⟩
                              have hy1 : b1 = y1 := by rw [hb1]; exact hox1 _ (Option.some.inj hres).symm
                              have hres := hresO1
                              rw [← hy1] at hres
                              refine JE.weak (env' := [(3, ptrAt (some ⟨g6, 0, none⟩) 0), (4, .slice a9 x8.1.length cp10), (5, .int .i64 x8.2), (9, .int .i64 x22.1), (29, .int .i64 b1)]) (es' := [boxO 28 g6 [.int .i64 x2.W, .int .i64 x2.H, .slice a3 x2.Breaks.length cp4], rowT 2 eI64 a3 x2.Breaks.length cp4 x2.Breaks, rowT 2 eI64 a9 x8.1.length cp10 x8.1]) [0, 1, 2] ?_ ⟨(by subst hb1; rfl), (by subst hb1; rfl), (by subst hb1; rfl), (by subst hb1; rfl), (by subst hb1; rfl), trivial⟩ (by decide) (by subst hb1; rfl)
                              refine JE.code ?_
                              refine JX.seq ?_
                              refine JX.region ?_
                              refine JL.val (yl_move rfl) rfl ?_
                              refine JL.val (yl_move rfl) rfl ?_
                              refine JL.val (yl_gtr rfl rfl) rfl ?_
                              refine JL.val (yl_move rfl) rfl ?_
                              refine JL.cut (K := fun J => J [(3, ptrAt (some ⟨g6, 0, none⟩) 0), (4, .slice a9 x8.1.length cp10), (5, .int .i64 x8.2), (182, .bool ((decide (b1 < x22.1)) || (decide (x22.1 < 1))))] [boxO 28 g6 [.int .i64 x2.W, .int .i64 x2.H, .slice a3 x2.Breaks.length cp4], rowT 2 eI64 a3 x2.Breaks.length cp4 x2.Breaks, rowT 2 eI64 a9 x8.1.length cp10 x8.1]) 3 ?_ ?_
                              · refine JL.nil ?_
                                refine JE.weak (env' := [(3, ptrAt (some ⟨g6, 0, none⟩) 0), (4, .slice a9 x8.1.length cp10), (5, .int .i64 x8.2), (182, .bool ((decide (b1 < x22.1)) || (decide (x22.1 < 1))))]) (es' := [boxO 28 g6 [.int .i64 x2.W, .int .i64 x2.H, .slice a3 x2.Breaks.length cp4], rowT 2 eI64 a3 x2.Breaks.length cp4 x2.Breaks, rowT 2 eI64 a9 x8.1.length cp10 x8.1]) [0, 1, 2] ?_ ⟨rfl, rfl, rfl, rfl, trivial⟩ (by decide) rfl
                                refine JE.code ?_
                                rcases cond_some hres with ⟨hb, hres⟩ | ⟨hb, hres⟩
                                · refine JX.condT rfl hb ?_
                                  refine JX.seq ?_
                                  refine JX.region ?_
                                  refine JL.val (yl_assign rfl) rfl ?_
                                  refine JL.nil ?_
                                  refine JE.weak (env' := [(2, .bool false)]) (es' := []) [] ?_ ⟨rfl, trivial⟩ (by decide) rfl
                                  refine JE.code ?_
                                  refine JX.ret ?_
                                  obtain rfl := Option.some.inj hres
                                  refine JE.ret (rs := [.tmp 2]) (vs := [.bool false]) rfl ⟨rfl, trivial⟩ ?_
                                  exact fun w' hb hs => ⟨_, _, ⟨rfl, rfl⟩, rfl, hb, hs.sel [] _ (by decide) rfl⟩
                                · refine JX.condF rfl hb ?_
                                  refine JX.skip ?_
                                  refine JE.code ?_
                                  refine JX.seq ?_
                                  refine JX.seq ?_
                                  refine JX.region ?_
                                  refine JL.val (yl_move rfl) rfl ?_
                                  refine JL.val (yl_neq rfl rfl) rfl ?_
                                  refine JL.nil ?_
                                  refine JE.code ?_
                                  rcases cond_some hres with ⟨hb, hres⟩ | ⟨hb, hres⟩
                                  · refine JX.condT rfl hb ?_
                                    refine JX.seq ?_
                                    refine JX.region ?_
                                    refine JL.val (yl_assign rfl) rfl ?_
                                    refine JL.nil ?_
                                    refine JE.weak (env' := [(2, .bool true)]) (es' := []) [] ?_ ⟨rfl, trivial⟩ (by decide) rfl
                                    refine JE.code ?_
                                    refine JX.ret ?_
                                    obtain rfl := Option.some.inj hres
                                    refine JE.ret (rs := [.tmp 2]) (vs := [.bool true]) rfl ⟨rfl, trivial⟩ ?_
                                    exact fun w' hb hs => ⟨_, _, ⟨rfl, rfl⟩, rfl, hb, hs.sel [] _ (by decide) rfl⟩
                                  · refine JX.condF rfl hb ?_
                                    refine JX.skip ?_
                                    refine JE.code ?_
                                    refine JX.seq ?_
                                    refine JX.region ?_
                                    refine JL.val (yl_loadn Go.Proofs.Try.underlying28 rfl i28 rfl (fun w hC => rd_box hC 0 rfl) rfl (i28s).symm i28p) rfl ?_
                                    obtain ⟨x83, hx83, hres⟩ := bind_some hres
                                    refine JL.eff (ef_call (vs := [.agg #[.int .i64 x2.W, .int .i64 x2.H, .slice a3 x2.Breaks.length cp4]]) (T := T60 x83) Go.Proofs.Try.func60 rfl (by kernel_rfl) rfl (fun w hC => c60 (q0 := x2) (rd_row hC 1 rfl) rfl (ln_row hC 1 rfl) hx83)) rfl ?_
                                    rintro _ _ ⟨_, ⟨rfl, rfl⟩, rfl⟩
                                    refine JL.val (yl_move rfl) rfl ?_
                                    refine JL.val (yl_extract rfl rfl) rfl ?_
                                    refine JL.val (yl_extract rfl rfl) rfl ?_
                                    refine JL.val (yl_assign rfl) rfl ?_
                                    refine JL.val (yl_assign rfl) rfl ?_
                                    refine JL.nil ?_
                                    refine JE.weak (env' := [(4, .slice a9 x8.1.length cp10), (31, .int .i64 x83.1), (32, .int .i64 x83.2)]) (es' := [rowT 2 eI64 a9 x8.1.length cp10 x8.1]) [2] ?_ ⟨rfl, rfl, rfl, trivial⟩ (by decide) rfl
                                    refine JE.code ?_
                                    refine JX.seq ?_
                                    refine JX.region ?_
                                    refine JL.val (yl_move rfl) rfl ?_
                                    refine JL.val (yl_eql rfl rfl) rfl ?_
                                    refine JL.val (yl_move rfl) rfl ?_
                                    refine JL.cut (K := fun J => J [(197, .bool ((x83.2 == 0) && ((x8.1.length : Int) == x83.1)))] []) 5 ?_ ?_
                                    · refine JL.val (yl_assign rfl) rfl ?_
                                      refine JL.nil ?_
                                      refine JE.weak (env' := [(2, .bool ((x83.2 == 0) && ((x8.1.length : Int) == x83.1)))]) (es' := []) [] ?_ ⟨rfl, trivial⟩ (by decide) rfl
                                      refine JE.code ?_
                                      refine JX.ret ?_
                                      obtain rfl := Option.some.inj hres
                                      refine JE.ret (rs := [.tmp 2]) (vs := [.bool ((x83.2 == 0) && ((x8.1.length : Int) == x83.1))]) rfl ⟨rfl, trivial⟩ ?_
                                      exact fun w' hb hs => ⟨_, _, ⟨rfl, rfl⟩, rfl, hb, hs.sel [] _ (by decide) rfl⟩
                                    · intro K
                                      rcases Bool.eq_false_or_eq_true (x83.2 == 0) with hb | hb
                                      · refine JL.set (d := 192) (v := .bool true) (congrArg (fun b => some (Value.bool b)) hb) ?_
                                        refine JL.gval rfl rfl (yl_move rfl) rfl ?_
                                        refine JL.gval rfl rfl (yl_len_slice Go.Proofs.Try.underlying22 rfl) rfl ?_
                                        refine JL.gval rfl rfl (yl_move rfl) rfl ?_
                                        refine JL.gval rfl rfl (yl_eql rfl rfl) rfl ?_
                                        refine JL.val (yl_pick_true rfl rfl) rfl ?_
                                        exact JL.weak [] K ⟨(by rw [hb]; rfl), trivial⟩ (by decide) rfl
                                      · refine JL.set (d := 192) (v := .bool false) (congrArg (fun b => some (Value.bool b)) hb) ?_
                                        refine JL.gskip rfl rfl rfl rfl ?_
                                        refine JL.gskip rfl rfl rfl rfl ?_
                                        refine JL.gskip rfl rfl rfl rfl ?_
                                        refine JL.gskip rfl rfl rfl rfl ?_
                                        refine JL.val (yl_pick_false rfl rfl) rfl ?_
                                        exact JL.weak [] K ⟨(by rw [hb]; rfl), trivial⟩ (by decide) rfl
                              · intro K
                                rcases Bool.eq_false_or_eq_true (decide (b1 < x22.1)) with hb | hb
                                · refine JL.set (d := 179) (v := .bool true) (congrArg (fun b => some (Value.bool b)) hb) ?_
                                  refine JL.gskip rfl rfl rfl rfl ?_
                                  refine JL.gskip rfl rfl rfl rfl ?_
                                  refine JL.val (yl_pick_true rfl rfl) rfl ?_
                                  exact JL.weak [0, 1, 2] K ⟨rfl, rfl, rfl, (by rw [hb]; rfl), trivial⟩ (by decide) rfl
                                · refine JL.set (d := 179) (v := .bool false) (congrArg (fun b => some (Value.bool b)) hb) ?_
                                  refine JL.gval rfl rfl (yl_move rfl) rfl ?_
                                  refine JL.gval rfl rfl (yl_lss rfl rfl) rfl ?_
                                  refine JL.val (yl_pick_false rfl rfl) rfl ?_
                                  exact JL.weak [0, 1, 2] K ⟨rfl, rfl, rfl, (by rw [hb]; rfl), trivial⟩ (by decide) rfl
                        · intro K
                          rcases cond_some hcb78 with ⟨hb, hres⟩ | ⟨hb, hres⟩
                          · refine JL.set (d := 157) (v := .bool true) (congrArg (fun b => some (Value.bool b)) hb) ?_
                            refine JL.gskip rfl rfl rfl rfl ?_
                            refine JL.gskip rfl rfl rfl rfl ?_
                            refine JL.gskip rfl rfl rfl rfl ?_
                            refine JL.gskip rfl rfl rfl rfl ?_
                            refine JL.val (yl_pick_true rfl rfl) rfl ?_
                            have he := Option.some.inj hres
                            exact JL.weak [0, 1, 2, 5] K ⟨rfl, rfl, rfl, rfl, rfl, (by rw [← he]; rfl), trivial⟩ (by decide) rfl
                          · refine JL.set (d := 157) (v := .bool false) (congrArg (fun b => some (Value.bool b)) hb) ?_
                            refine JL.gval rfl rfl (yl_loadn Go.Proofs.Try.underlying28 rfl i28 rfl (fun w hC => rd_box hC 3 rfl) rfl (i28s).symm i28p) rfl ?_
                            refine JL.gval rfl rfl (yl_move rfl) rfl ?_
                            obtain ⟨x79, hx79, hres⟩ := bind_some hres
                            refine JL.geff rfl rfl (ef_call (vs := [.agg #[.int .i64 x16.W, .int .i64 x16.H, .slice a17 x16.Breaks.length cp18], .slice a75 x74.1.length cp76]) (T := T33 x79) Go.Proofs.Try.func33 rfl (by kernel_rfl) rfl (fun w hC => c33 (q0 := x16) (rd_row hC 4 rfl) rfl (ln_row hC 4 rfl) (rd_row hC 5 rfl) rfl (ln_row hC 5 rfl) hx79)) rfl ?_
                            rintro _ _ ⟨_, ⟨rfl, rfl⟩, rfl⟩
                            refine JL.gval rfl rfl (yl_not rfl) rfl ?_
                            refine JL.val (yl_pick_false rfl rfl) rfl ?_
                            have he := Option.some.inj hres
                            exact JL.weak [0, 1, 2, 5] K ⟨rfl, rfl, rfl, rfl, rfl, (by rw [← he]; rfl), trivial⟩ (by decide) rfl
                      · refine JX.condF rfl hb ?_
                        refine JX.skip ?_
                        refine JE.code ?_
                        refine JX.seq ?_
                        refine JX.seq ?_
                        refine JX.region ?_
                        refine JL.val (yl_move rfl) rfl ?_
                        refine JL.val (yl_neq rfl rfl) rfl ?_
                        refine JL.nil ?_
                        refine JE.weak (env' := [(3, ptrAt (some ⟨g6, 0, none⟩) 0), (4, .slice a9 x8.1.length cp10), (184, .bool (x8.2 != 0))]) (es' := [boxO 28 g6 [.int .i64 x2.W, .int .i64 x2.H, .slice a3 x2.Breaks.length cp4], rowT 2 eI64 a3 x2.Breaks.length cp4 x2.Breaks, rowT 2 eI64 a9 x8.1.length cp10 x8.1]) [0, 1, 2] ?_ ⟨rfl, rfl, rfl, trivial⟩ (by decide) rfl
                        refine JE.code ?_
                        rcases cond_some hres with ⟨hb, hres⟩ | ⟨hb, hres⟩
                        · refine JX.condT rfl hb ?_
                          refine JX.seq ?_
                          refine JX.region ?_
                          refine JL.val (yl_assign rfl) rfl ?_
                          refine JL.nil ?_
                          refine JE.weak (env' := [(2, .bool true)]) (es' := []) [] ?_ ⟨rfl, trivial⟩ (by decide) rfl
                          refine JE.code ?_
                          refine JX.ret ?_
                          obtain rfl := Option.some.inj hres
                          refine JE.ret (rs := [.tmp 2]) (vs := [.bool true]) rfl ⟨rfl, trivial⟩ ?_
                          exact fun w' hb hs => ⟨_, _, ⟨rfl, rfl⟩, rfl, hb, hs.sel [] _ (by decide) rfl⟩
                        · refine JX.condF rfl hb ?_
                          refine JX.skip ?_
                          refine JE.code ?_
                          refine JX.seq ?_
                          refine JX.region ?_
                          refine JL.val (yl_loadn Go.Proofs.Try.underlying28 rfl i28 rfl (fun w hC => rd_box hC 0 rfl) rfl (i28s).symm i28p) rfl ?_
                          obtain ⟨x84, hx84, hres⟩ := bind_some hres
                          refine JL.eff (ef_call (vs := [.agg #[.int .i64 x2.W, .int .i64 x2.H, .slice a3 x2.Breaks.length cp4]]) (T := T60 x84) Go.Proofs.Try.func60 rfl (by kernel_rfl) rfl (fun w hC => c60 (q0 := x2) (rd_row hC 1 rfl) rfl (ln_row hC 1 rfl) hx84)) rfl ?_
                          rintro _ _ ⟨_, ⟨rfl, rfl⟩, rfl⟩
                          refine JL.val (yl_move rfl) rfl ?_
                          refine JL.val (yl_extract rfl rfl) rfl ?_
                          refine JL.val (yl_extract rfl rfl) rfl ?_
                          refine JL.val (yl_assign rfl) rfl ?_
                          refine JL.val (yl_assign rfl) rfl ?_
                          refine JL.nil ?_
                          refine JE.weak (env' := [(4, .slice a9 x8.1.length cp10), (31, .int .i64 x84.1), (32, .int .i64 x84.2)]) (es' := [rowT 2 eI64 a9 x8.1.length cp10 x8.1]) [2] ?_ ⟨rfl, rfl, rfl, trivial⟩ (by decide) rfl
                          refine JE.code ?_
                          refine JX.seq ?_
                          refine JX.region ?_
                          refine JL.val (yl_move rfl) rfl ?_
                          refine JL.val (yl_eql rfl rfl) rfl ?_
                          refine JL.val (yl_move rfl) rfl ?_
                          refine JL.cut (K := fun J => J [(197, .bool ((x84.2 == 0) && ((x8.1.length : Int) == x84.1)))] []) 5 ?_ ?_
                          · refine JL.val (yl_assign rfl) rfl ?_
                            refine JL.nil ?_
                            refine JE.weak (env' := [(2, .bool ((x84.2 == 0) && ((x8.1.length : Int) == x84.1)))]) (es' := []) [] ?_ ⟨rfl, trivial⟩ (by decide) rfl
                            refine JE.code ?_
                            refine JX.ret ?_
                            obtain rfl := Option.some.inj hres
                            refine JE.ret (rs := [.tmp 2]) (vs := [.bool ((x84.2 == 0) && ((x8.1.length : Int) == x84.1))]) rfl ⟨rfl, trivial⟩ ?_
                            exact fun w' hb hs => ⟨_, _, ⟨rfl, rfl⟩, rfl, hb, hs.sel [] _ (by decide) rfl⟩
                          · intro K
                            rcases Bool.eq_false_or_eq_true (x84.2 == 0) with hb | hb
                            · refine JL.set (d := 192) (v := .bool true) (congrArg (fun b => some (Value.bool b)) hb) ?_
                              refine JL.gval rfl rfl (yl_move rfl) rfl ?_
                              refine JL.gval rfl rfl (yl_len_slice Go.Proofs.Try.underlying22 rfl) rfl ?_
                              refine JL.gval rfl rfl (yl_move rfl) rfl ?_
                              refine JL.gval rfl rfl (yl_eql rfl rfl) rfl ?_
                              refine JL.val (yl_pick_true rfl rfl) rfl ?_
                              exact JL.weak [] K ⟨(by rw [hb]; rfl), trivial⟩ (by decide) rfl
                            · refine JL.set (d := 192) (v := .bool false) (congrArg (fun b => some (Value.bool b)) hb) ?_
                              refine JL.gskip rfl rfl rfl rfl ?_
                              refine JL.gskip rfl rfl rfl rfl ?_
                              refine JL.gskip rfl rfl rfl rfl ?_
                              refine JL.gskip rfl rfl rfl rfl ?_
                              refine JL.val (yl_pick_false rfl rfl) rfl ?_
                              exact JL.weak [] K ⟨(by rw [hb]; rfl), trivial⟩ (by decide) rfl
                  · intro K
                    rcases cond_some hcb72 with ⟨hb, hres⟩ | ⟨hb, hres⟩
                    · refine JH.set (d := 142) (v := .bool true) (congrArg (fun b => some (Value.bool b)) hb) ?_
                      refine JH.gskip rfl rfl rfl rfl rfl rfl ?_
                      refine JH.gskip rfl rfl rfl rfl rfl rfl ?_
                      refine JH.gskip rfl rfl rfl rfl rfl rfl ?_
                      refine JH.gskip rfl rfl rfl rfl rfl rfl ?_
                      refine JH.pure rfl (yl_pick_true rfl rfl) rfl ?_
                      have he := Option.some.inj hres
                      exact JH.weak [] K ⟨rfl, rfl, rfl, rfl, rfl, rfl, (by rw [← he]; rfl), trivial⟩ (by decide) rfl
                    · refine JH.set (d := 142) (v := .bool false) (congrArg (fun b => some (Value.bool b)) hb) ?_
                      refine JH.gpure rfl rfl rfl (yl_move rfl) rfl ?_
                      refine JH.gpure rfl rfl rfl (yl_move rfl) rfl ?_
                      obtain ⟨x73, hx73, hres⟩ := bind_some hres
                      refine JH.gmust rfl rfl rfl (ef_call (T := T59 x73) Go.Proofs.Try.func59 rfl (by kernel_rfl) rfl (fun w hC => c59 (hFr64.row 11 rfl rfl hC.1) rfl (ln_row hFr64.cl 11 rfl) (hFr64.row 12 rfl rfl hC.1) rfl (ln_row hFr64.cl 12 rfl) hx73)) rfl rfl ?_
                      rintro _ _ ⟨_, ⟨rfl, rfl⟩, rfl⟩
                      refine JH.gpure rfl rfl rfl (yl_not rfl) rfl ?_
                      refine JH.pure rfl (yl_pick_false rfl rfl) rfl ?_
                      have he := Option.some.inj hres
                      exact JH.weak [] K ⟨rfl, rfl, rfl, rfl, rfl, rfl, (by rw [← he]; rfl), trivial⟩ (by decide) rfl
                · intro K
                  rcases Bool.eq_false_or_eq_true (cb70) with hb | hb
                  · refine JH.set (d := 137) (v := .bool true) (congrArg (fun b => some (Value.bool b)) hb) ?_
                    refine JH.gskip rfl rfl rfl rfl rfl rfl ?_
                    refine JH.gskip rfl rfl rfl rfl rfl rfl ?_
                    refine JH.gskip rfl rfl rfl rfl rfl rfl ?_
                    refine JH.pure rfl (yl_pick_true rfl rfl) rfl ?_
                    exact JH.weak [] K ⟨rfl, rfl, rfl, rfl, rfl, rfl, rfl, rfl, (by rw [hb]; rfl), trivial⟩ (by decide) rfl
                  · refine JH.set (d := 137) (v := .bool false) (congrArg (fun b => some (Value.bool b)) hb) ?_
                    refine JH.gpure rfl rfl rfl (yl_move rfl) rfl ?_
                    refine JH.gpure rfl rfl rfl (yl_move rfl) rfl ?_
                    refine JH.gpure rfl rfl rfl (yl_neq rfl rfl) rfl ?_
                    refine JH.pure rfl (yl_pick_false rfl rfl) rfl ?_
                    exact JH.weak [] K ⟨rfl, rfl, rfl, rfl, rfl, rfl, rfl, rfl, (by rw [hb]; rfl), trivial⟩ (by decide) rfl
              · intro K
                rcases cond_some hcb70 with ⟨hb, hres⟩ | ⟨hb, hres⟩
                · refine JH.set (d := 131) (v := .bool true) (congrArg (fun b => some (Value.bool b)) hb) ?_
                  refine JH.gskip rfl rfl rfl rfl rfl rfl ?_
                  refine JH.gskip rfl rfl rfl rfl rfl rfl ?_
                  refine JH.gskip rfl rfl rfl rfl rfl rfl ?_
                  refine JH.gskip rfl rfl rfl rfl rfl rfl ?_
                  refine JH.pure rfl (yl_pick_true rfl rfl) rfl ?_
                  have he := Option.some.inj hres
                  exact JH.weak [] K ⟨rfl, rfl, rfl, rfl, rfl, rfl, rfl, rfl, rfl, rfl, (by rw [← he]; rfl), trivial⟩ (by decide) rfl
                · refine JH.set (d := 131) (v := .bool false) (congrArg (fun b => some (Value.bool b)) hb) ?_
                  refine JH.gpure rfl rfl rfl (yl_move rfl) rfl ?_
                  refine JH.gpure rfl rfl rfl (yl_move rfl) rfl ?_
                  obtain ⟨x71, hx71, hres⟩ := bind_some hres
                  refine JH.gmust rfl rfl rfl (ef_call (T := T51 x71) Go.Proofs.Try.func51 rfl (by kernel_rfl) rfl (fun w hC => c51 (hFr64.row 9 rfl rfl hC.1) rfl (ln_row hFr64.cl 9 rfl) (hFr64.row 10 rfl rfl hC.1) rfl (ln_row hFr64.cl 10 rfl) hx71)) rfl rfl ?_
                  rintro _ _ ⟨_, ⟨rfl, rfl⟩, rfl⟩
                  refine JH.gpure rfl rfl rfl (yl_not rfl) rfl ?_
                  refine JH.pure rfl (yl_pick_false rfl rfl) rfl ?_
                  have he := Option.some.inj hres
                  exact JH.weak [] K ⟨rfl, rfl, rfl, rfl, rfl, rfl, rfl, rfl, rfl, rfl, (by rw [← he]; rfl), trivial⟩ (by decide) rfl
            · intro K
              rcases Bool.eq_false_or_eq_true (cb67) with hb | hb
              · refine JH.set (d := 126) (v := .bool true) (congrArg (fun b => some (Value.bool b)) hb) ?_
                refine JH.gskip rfl rfl rfl rfl rfl rfl ?_
                refine JH.gskip rfl rfl rfl rfl rfl rfl ?_
                refine JH.gskip rfl rfl rfl rfl rfl rfl ?_
                refine JH.pure rfl (yl_pick_true rfl rfl) rfl ?_
                exact JH.weak [] K ⟨rfl, rfl, rfl, rfl, rfl, rfl, rfl, rfl, rfl, rfl, rfl, rfl, (by rw [hb]; rfl), trivial⟩ (by decide) rfl
              · refine JH.set (d := 126) (v := .bool false) (congrArg (fun b => some (Value.bool b)) hb) ?_
                refine JH.gpure rfl rfl rfl (yl_move rfl) rfl ?_
                refine JH.gpure rfl rfl rfl (yl_move rfl) rfl ?_
                refine JH.gpure rfl rfl rfl (yl_neq rfl rfl) rfl ?_
                refine JH.pure rfl (yl_pick_false rfl rfl) rfl ?_
                exact JH.weak [] K ⟨rfl, rfl, rfl, rfl, rfl, rfl, rfl, rfl, rfl, rfl, rfl, rfl, (by rw [hb]; rfl), trivial⟩ (by decide) rfl
          · intro K
            rcases cond_some hcb67 with ⟨hb, hres⟩ | ⟨hb, hres⟩
            · refine JH.set (d := 117) (v := .bool true) (congrArg (fun b => some (Value.bool b)) hb) ?_
              refine JH.gskip rfl rfl rfl rfl rfl rfl ?_
              refine JH.gskip rfl rfl rfl rfl rfl rfl ?_
              refine JH.gskip rfl rfl rfl rfl rfl rfl ?_
              refine JH.gskip rfl rfl rfl rfl rfl rfl ?_
              refine JH.gskip rfl rfl rfl rfl rfl rfl ?_
              refine JH.gskip rfl rfl rfl rfl rfl rfl ?_
              refine JH.gskip rfl rfl rfl rfl rfl rfl ?_
              refine JH.pure rfl (yl_pick_true rfl rfl) rfl ?_
              have he := Option.some.inj hres
              exact JH.weak [] K ⟨rfl, rfl, rfl, rfl, rfl, rfl, rfl, rfl, rfl, rfl, rfl, rfl, rfl, rfl, (by rw [← he]; rfl), trivial⟩ (by decide) rfl
            · refine JH.set (d := 117) (v := .bool false) (congrArg (fun b => some (Value.bool b)) hb) ?_
              refine JH.gread rfl rfl rfl (yl_loadn Go.Proofs.Try.underlying28 rfl i28 rfl (fun w hw => hFr64.box 6 rfl rfl hw) rfl (i28s).symm i28p) rfl ?_
              refine JH.gpure rfl rfl rfl (yl_move rfl) rfl ?_
              refine JH.gread rfl rfl rfl (yl_loadn Go.Proofs.Try.underlying28 rfl i28 rfl (fun w hw => hFr64.box 6 rfl rfl hw) rfl (i28s).symm i28p) rfl ?_
              refine JH.gpure rfl rfl rfl (yl_move rfl) rfl ?_
              obtain ⟨x68, hx68, hres⟩ := bind_some hres
              refine JH.gmust rfl rfl rfl (ef_call (vs := [.agg #[.int .i64 x24.1.W, .int .i64 x24.1.H, .slice a25 x24.1.Breaks.length cp26], .slice a28 x24.2.length cp29]) (T := T33 x68) Go.Proofs.Try.func33 rfl (by kernel_rfl) rfl (fun w hC => c33 (q0 := x24.1) (hFr64.row 7 rfl rfl hC.1) rfl (ln_row hFr64.cl 7 rfl) (hFr64.row 8 rfl rfl hC.1) rfl (ln_row hFr64.cl 8 rfl) hx68)) rfl rfl ?_
              rintro _ _ ⟨_, ⟨rfl, rfl⟩, rfl⟩
              obtain ⟨x69, hx69, hres⟩ := bind_some hres
              refine JH.gmust rfl rfl rfl (ef_call (vs := [.agg #[.int .i64 x24.1.W, .int .i64 x24.1.H, .slice a25 x24.1.Breaks.length cp26], .slice a28 x24.2.length cp29]) (T := T31 x69) Go.Proofs.Try.func31 rfl (by kernel_rfl) rfl (fun w hC => c31 (q0 := x24.1) (hFr64.row 7 rfl rfl hC.1) rfl (ln_row hFr64.cl 7 rfl) (hFr64.row 8 rfl rfl hC.1) rfl (ln_row hFr64.cl 8 rfl) hx69)) rfl rfl ?_
              rintro _ _ ⟨_, ⟨rfl, rfl⟩, rfl⟩
              refine JH.gpure rfl rfl rfl (yl_bneq Go.Proofs.Try.underlying4 rfl rfl) rfl ?_
              refine JH.pure rfl (yl_pick_false rfl rfl) rfl ?_
              have he := Option.some.inj hres
              exact JH.weak [] K ⟨rfl, rfl, rfl, rfl, rfl, rfl, rfl, rfl, rfl, rfl, rfl, rfl, rfl, rfl, (by rw [← he]; rfl), trivial⟩ (by decide) rfl
        · intro K
          rcases Bool.eq_false_or_eq_true (cb65 || (x22.2 != x23.2)) with hb | hb
          · refine JH.set (d := 112) (v := .bool true) (congrArg (fun b => some (Value.bool b)) hb) ?_
            refine JH.gskip rfl rfl rfl rfl rfl rfl ?_
            refine JH.gskip rfl rfl rfl rfl rfl rfl ?_
            refine JH.gskip rfl rfl rfl rfl rfl rfl ?_
            refine JH.pure rfl (yl_pick_true rfl rfl) rfl ?_
            exact JH.weak [] K ⟨rfl, rfl, rfl, rfl, rfl, rfl, rfl, rfl, rfl, rfl, rfl, rfl, rfl, rfl, rfl, rfl, (by rw [hb]; rfl), trivial⟩ (by decide) rfl
          · refine JH.set (d := 112) (v := .bool false) (congrArg (fun b => some (Value.bool b)) hb) ?_
            refine JH.gpure rfl rfl rfl (yl_move rfl) rfl ?_
            refine JH.gpure rfl rfl rfl (yl_move rfl) rfl ?_
            refine JH.gpure rfl rfl rfl (yl_neq rfl rfl) rfl ?_
            refine JH.pure rfl (yl_pick_false rfl rfl) rfl ?_
            exact JH.weak [] K ⟨rfl, rfl, rfl, rfl, rfl, rfl, rfl, rfl, rfl, rfl, rfl, rfl, rfl, rfl, rfl, rfl, (by rw [hb]; rfl), trivial⟩ (by decide) rfl
      · intro K
        rcases Bool.eq_false_or_eq_true (cb65) with hb | hb
        · refine JH.set (d := 107) (v := .bool true) (congrArg (fun b => some (Value.bool b)) hb) ?_
          refine JH.gskip rfl rfl rfl rfl rfl rfl ?_
          refine JH.gskip rfl rfl rfl rfl rfl rfl ?_
          refine JH.gskip rfl rfl rfl rfl rfl rfl ?_
          refine JH.pure rfl (yl_pick_true rfl rfl) rfl ?_
          exact JH.weak [] K ⟨rfl, rfl, rfl, rfl, rfl, rfl, rfl, rfl, rfl, rfl, rfl, rfl, rfl, rfl, rfl, rfl, rfl, (by rw [hb]; rfl), trivial⟩ (by decide) rfl
        · refine JH.set (d := 107) (v := .bool false) (congrArg (fun b => some (Value.bool b)) hb) ?_
          refine JH.gpure rfl rfl rfl (yl_move rfl) rfl ?_
          refine JH.gpure rfl rfl rfl (yl_move rfl) rfl ?_
          refine JH.gpure rfl rfl rfl (yl_neq rfl rfl) rfl ?_
          refine JH.pure rfl (yl_pick_false rfl rfl) rfl ?_
          exact JH.weak [] K ⟨rfl, rfl, rfl, rfl, rfl, rfl, rfl, rfl, rfl, rfl, rfl, rfl, rfl, rfl, rfl, rfl, rfl, (by rw [hb]; rfl), trivial⟩ (by decide) rfl
    · intro K
      rcases cond_some hcb65 with ⟨hb, hres⟩ | ⟨hb, hres⟩
      · refine JH.set (d := 101) (v := .bool true) (congrArg (fun b => some (Value.bool b)) hb) ?_
        refine JH.gskip rfl rfl rfl rfl rfl rfl ?_
        refine JH.gskip rfl rfl rfl rfl rfl rfl ?_
        refine JH.gskip rfl rfl rfl rfl rfl rfl ?_
        refine JH.gskip rfl rfl rfl rfl rfl rfl ?_
        refine JH.pure rfl (yl_pick_true rfl rfl) rfl ?_
        have he := Option.some.inj hres
        exact JH.weak [] K ⟨rfl, rfl, rfl, rfl, rfl, rfl, rfl, rfl, rfl, rfl, rfl, rfl, rfl, rfl, rfl, rfl, rfl, rfl, (by rw [← he]; rfl), trivial⟩ (by decide) rfl
      · refine JH.set (d := 101) (v := .bool false) (congrArg (fun b => some (Value.bool b)) hb) ?_
        refine JH.gpure rfl rfl rfl (yl_move rfl) rfl ?_
        refine JH.gpure rfl rfl rfl (yl_move rfl) rfl ?_
        obtain ⟨x66, hx66, hres⟩ := bind_some hres
        refine JH.gmust rfl rfl rfl (ef_call (T := T51 x66) Go.Proofs.Try.func51 rfl (by kernel_rfl) rfl (fun w hC => c51 (hFr64.row 2 rfl rfl hC.1) rfl (ln_row hFr64.cl 2 rfl) (hFr64.row 3 rfl rfl hC.1) rfl (ln_row hFr64.cl 3 rfl) hx66)) rfl rfl ?_
        rintro _ _ ⟨_, ⟨rfl, rfl⟩, rfl⟩
        refine JH.gpure rfl rfl rfl (yl_not rfl) rfl ?_
        refine JH.pure rfl (yl_pick_false rfl rfl) rfl ?_
        have he := Option.some.inj hres
        exact JH.weak [] K ⟨rfl, rfl, rfl, rfl, rfl, rfl, rfl, rfl, rfl, rfl, rfl, rfl, rfl, rfl, rfl, rfl, rfl, rfl, (by rw [← he]; rfl), trivial⟩ (by decide) rfl

end Go.Sh
