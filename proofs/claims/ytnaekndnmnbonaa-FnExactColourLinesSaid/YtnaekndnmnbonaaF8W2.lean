/- Walks through functions that the law reaches, printed by program. -/
import Derived.Test.YtnaekndnmnbonaaF8W1
set_option linter.unusedVariables false
set_option linter.unusedSimpArgs false
namespace Go.Sh
open Go Go.RowKit
/- laws.FnExactColourLines -/
def sh8 (q0 : SPanel) (q1 : List Int) : Option (Bool) := bif decide (1048576 < (q1.length : Int)) then (some true) else (Option.bind (sh27 q0 1048576) fun x3 => bif decide (x3 < 0) then (some true) else (Option.bind (sh29 q0) fun x4 => Option.bind (sh39 q1) fun x8 => Option.bind (sh38 x4 x8) fun x12 => Option.bind (sh29 q0) fun x16 => Option.bind (sh39 q1) fun x22 => Option.bind (sh40 x16 x22) fun x26 => Option.bind (sh41 x26.1 x12.1) fun x30 => bif !x30 || (x26.2 != x12.2) then (some false) else (Option.bind (sh29 q0) fun x32 => Option.bind (sh32 x16 x32) fun x36 => bif !x36 then (some false) else (Option.bind (sh39 q1) fun x37 => Option.bind (sh31 x22 x37) fun x41 => bif !x41 then (some false) else (Option.bind (sh33 x16 1) fun x42 => Option.bind (sh34 x22 x42.1) fun x44 => Option.bind (bif decide (x44.1 < 0) then (some true) else (Option.bind (sh41 x26.1 x12.1) fun x47 => some !x47)) fun c46 => (bif c46 || (x26.2 != x12.2) then (some false) else (Option.bind (sh42 x26.1 1) fun x48 => Option.bind (sh43 x48.2 1) fun x50 => bif decide (x50 < 0) then (some false) else (bif x50 != x48.1 then (some false) else (Option.bind (sh29 q0) fun x51 => Option.bind (sh39 q1) fun x55 => Option.bind (sh40 x51 x55) fun x59 => Option.bind (sh41 x59.1 x12.1) fun x63 => bif !x63 || (x59.2 != x12.2) then (some false) else (Option.bind (sh43 x48.2 1) fun x64 => bif decide (x64 < 0) then (some false) else (bif x64 != x48.1 then (some false) else (some true))))))))))))
def T8 (r : Bool) (v : Value) (rs : List Own) : Prop := v = rets [.bool r] ∧ rs = []
set_option maxRecDepth 100000 in
set_option maxHeartbeats 1000000 in
theorem c8 {w : World} {q0 : SPanel} {a_0_2 : Option Addr} {n_0_2 c_0_2 : Nat} (g_0_2 : Rd w a_0_2 (eI64.fl q0.Breaks)) (l_0_2 : q0.Breaks.length = n_0_2) (k_0_2 : n_0_2 ≤ c_0_2) {q1 : List Int} {a_1 : Option Addr} {n_1 c_1 : Nat} (g_1 : Rd w a_1 (eI64.fl q1)) (l_1 : q1.length = n_1) (k_1 : n_1 ≤ c_1) {r : Bool} (hres : sh8 q0 q1 = some r) : Calls Go.Proofs.Try.prog 8 [.agg #[.int .i64 q0.W, .int .i64 q0.H, .slice a_0_2 n_0_2 c_0_2], .slice a_1 n_1 c_1].toArray w (Ret w (T8 r)) := by
  subst l_0_2
  subst l_1
  unfold sh8 at hres
  refine calls_of (n := 117) (M := []) (es := []) Go.Proofs.Try.func8 rfl rfl rfl (Sep.nil _ _ _) ?_
  refine JX.seq ?_
  refine JX.region ?_
  refine JL.eff (ef_box rfl rfl) rfl ?_
  rintro _ _ ⟨g1, rfl, rfl⟩
  refine JL.val (yl_assign rfl) rfl ?_
  refine JL.nil ?_
  refine JE.code ?_
  refine JX.seq ?_
  refine JX.seq ?_
  refine JX.region ?_
  refine JL.val (yl_move rfl) rfl ?_
  refine JL.val (yl_len_slice Go.Proofs.Try.underlying33 rfl) rfl ?_
  refine JL.val (yl_gtr rfl rfl) rfl ?_
  refine JL.nil ?_
  refine JE.code ?_
  rcases cond_some hres with ⟨hb, hres⟩ | ⟨hb, hres⟩
  · refine JX.condT rfl hb ?_
    refine JX.seq ?_
    refine JX.region ?_
    refine JL.val (yl_assign rfl) rfl ?_
    refine JL.nil ?_
    refine JE.weak (env' := [(4, .bool true)]) (es' := []) [] ?_ ⟨rfl, trivial⟩ (by decide) rfl
    refine JE.code ?_
    refine JX.ret ?_
    obtain rfl := Option.some.inj hres
    refine JE.ret (rs := [.tmp 4]) (vs := [.bool true]) rfl ⟨rfl, trivial⟩ ?_
    exact fun w' hb hs => ⟨_, _, ⟨rfl, rfl⟩, rfl, hb, hs.sel [] _ (by decide) rfl⟩
  · refine JX.condF rfl hb ?_
    refine JX.skip ?_
    refine JE.code ?_
    refine JX.seq ?_
    refine JX.region ?_
    refine JL.val (yl_assign rfl) rfl ?_
    refine JL.nil ?_
    refine JE.code ?_
    refine JX.seq ?_
    refine JX.region ?_
    refine JL.val (yl_loadn Go.Proofs.Try.underlying35 rfl i35 rfl (fun w hC => rd_box hC 0 rfl) rfl (i35s).symm i35p) rfl ?_
    refine JL.val (yl_move rfl) rfl ?_
    obtain ⟨x3, hx3, hres⟩ := bind_some hres
    refine JL.eff (ef_call (vs := [.agg #[.int .i64 q0.W, .int .i64 q0.H, .slice a_0_2 q0.Breaks.length c_0_2], .int .i64 1048576]) (T := T27 x3) Go.Proofs.Try.func27 rfl (by kernel_rfl) rfl (fun w hC => c27 (q0 := q0) (rd_arg g_0_2 hC) rfl k_0_2 hx3)) rfl ?_
    rintro _ _ ⟨_, ⟨rfl, rfl⟩, rfl⟩
    refine JL.val (yl_assign rfl) rfl ?_
    refine JL.nil ?_
    refine JE.weak (env' := [(1, .slice a_1 q1.length c_1), (2, ptrAt (some ⟨g1, 0, none⟩) 0), (5, .int .i64 x3)]) (es' := [boxO 35 g1 [.int .i64 q0.W, .int .i64 q0.H, .slice a_0_2 q0.Breaks.length c_0_2]]) [0] ?_ ⟨rfl, rfl, rfl, trivial⟩ (by decide) rfl
    refine JE.code ?_
    refine JX.seq ?_
    refine JX.seq ?_
    refine JX.region ?_
    refine JL.val (yl_move rfl) rfl ?_
    refine JL.val (yl_lss rfl rfl) rfl ?_
    refine JL.nil ?_
    refine JE.code ?_
    rcases cond_some hres with ⟨hb, hres⟩ | ⟨hb, hres⟩
    · refine JX.condT rfl hb ?_
      refine JX.seq ?_
      refine JX.region ?_
      refine JL.val (yl_assign rfl) rfl ?_
      refine JL.nil ?_
      refine JE.weak (env' := [(4, .bool true)]) (es' := []) [] ?_ ⟨rfl, trivial⟩ (by decide) rfl
      refine JE.code ?_
      refine JX.ret ?_
      obtain rfl := Option.some.inj hres
      refine JE.ret (rs := [.tmp 4]) (vs := [.bool true]) rfl ⟨rfl, trivial⟩ ?_
      exact fun w' hb hs => ⟨_, _, ⟨rfl, rfl⟩, rfl, hb, hs.sel [] _ (by decide) rfl⟩
    · refine JX.condF rfl hb ?_
      refine JX.skip ?_
      refine JE.code ?_
      refine JX.seq ?_
      refine JX.region ?_
      refine JL.val (yl_loadn Go.Proofs.Try.underlying35 rfl i35 rfl (fun w hC => rd_box hC 0 rfl) rfl (i35s).symm i35p) rfl ?_
      obtain ⟨x4, hx4, hres⟩ := bind_some hres
      refine JL.eff (ef_call (vs := [.agg #[.int .i64 q0.W, .int .i64 q0.H, .slice a_0_2 q0.Breaks.length c_0_2]]) (T := T29 x4) Go.Proofs.Try.func29 rfl (by kernel_rfl) rfl (fun w hC => c29 (q0 := q0) (rd_arg g_0_2 hC) rfl k_0_2 hx4)) rfl ?_
      rintro _ _ ⟨_, ⟨a5, _, cp6, rfl, rfl, rfl⟩, rfl⟩
      refine JL.val (yl_move rfl) rfl ?_
      obtain ⟨x8, hx8, hres⟩ := bind_some hres
      refine JL.eff (ef_call (T := T39 x8) Go.Proofs.Try.func39 rfl (by kernel_rfl) rfl (fun w hC => c39 (rd_arg g_1 hC) rfl k_1 hx8)) rfl ?_
      rintro _ _ ⟨_, ⟨a9, _, cp10, rfl, rfl, rfl⟩, rfl⟩
      obtain ⟨x12, hx12, hres⟩ := bind_some hres
      refine JL.eff (ef_call (vs := [.agg #[.int .i64 x4.W, .int .i64 x4.H, .slice a5 x4.Breaks.length cp6], .slice a9 x8.length cp10]) (T := T38 x12) Go.Proofs.Try.func38 rfl (by kernel_rfl) rfl (fun w hC => c38 (q0 := x4) (rd_row hC 1 rfl) rfl (ln_row hC 1 rfl) (rd_row hC 2 rfl) rfl (ln_row hC 2 rfl) hx12)) rfl ?_
      rintro _ _ ⟨_, ⟨a13, _, cp14, rfl, rfl, rfl⟩, rfl⟩
      refine JL.val (yl_move rfl) rfl ?_
      refine JL.val (yl_extract rfl rfl) rfl ?_
      refine JL.val (yl_extract rfl rfl) rfl ?_
      refine JL.val (yl_assign rfl) rfl ?_
      refine JL.val (yl_assign rfl) rfl ?_
      refine JL.nil ?_
      refine JE.weak (env' := [(1, .slice a_1 q1.length c_1), (2, ptrAt (some ⟨g1, 0, none⟩) 0), (6, .slice a13 x12.1.length cp14), (7, .int .i64 x12.2)]) (es' := [boxO 35 g1 [.int .i64 q0.W, .int .i64 q0.H, .slice a_0_2 q0.Breaks.length c_0_2], rowT 9 eStr a13 x12.1.length cp14 x12.1]) [0, 3] ?_ ⟨rfl, rfl, rfl, rfl, trivial⟩ (by decide) rfl
      refine JE.code ?_
      refine JX.seq ?_
      refine JX.region ?_
      refine JL.val (yl_loadn Go.Proofs.Try.underlying35 rfl i35 rfl (fun w hC => rd_box hC 0 rfl) rfl (i35s).symm i35p) rfl ?_
      obtain ⟨x16, hx16, hres⟩ := bind_some hres
      refine JL.eff (ef_call (vs := [.agg #[.int .i64 q0.W, .int .i64 q0.H, .slice a_0_2 q0.Breaks.length c_0_2]]) (T := T29 x16) Go.Proofs.Try.func29 rfl (by kernel_rfl) rfl (fun w hC => c29 (q0 := q0) (rd_arg g_0_2 hC) rfl k_0_2 hx16)) rfl ?_
      rintro _ _ ⟨_, ⟨a17, _, cp18, rfl, rfl, rfl⟩, rfl⟩
      refine JL.eff (ef_alloc i39 i39z rfl) rfl ?_
      rintro _ _ ⟨g20, rfl, rfl⟩
      refine JL.eff (ef_store_box (i := 3) (v := .agg #[.int .i64 x16.W, .int .i64 x16.H, .slice a17 x16.Breaks.length cp18]) i39 rfl rfl rfl (i39s).symm (Nat.le_of_ble_eq_true rfl) (by simp [Value.cells, Value.oneCell'])) rfl ?_
      rintro _ _ rfl
      refine JL.nil ?_
      refine JE.weak (env' := [(1, .slice a_1 q1.length c_1), (2, ptrAt (some ⟨g1, 0, none⟩) 0), (6, .slice a13 x12.1.length cp14), (7, .int .i64 x12.2), (8, ptrAt (some ⟨g20, 0, none⟩) 0)]) (es' := [boxO 35 g1 [.int .i64 q0.W, .int .i64 q0.H, .slice a_0_2 q0.Breaks.length c_0_2], rowT 9 eStr a13 x12.1.length cp14 x12.1, boxO 39 g20 [.int .i64 x16.W, .int .i64 x16.H, .slice a17 x16.Breaks.length cp18], rowT 2 eI64 a17 x16.Breaks.length cp18 x16.Breaks]) [0, 1, 3, 2] ?_ ⟨rfl, rfl, rfl, rfl, rfl, trivial⟩ (by decide) rfl
      refine JE.code ?_
      refine JX.seq ?_
      refine JX.region ?_
      refine JL.val (yl_move rfl) rfl ?_
      obtain ⟨x22, hx22, hres⟩ := bind_some hres
      refine JL.eff (ef_call (T := T39 x22) Go.Proofs.Try.func39 rfl (by kernel_rfl) rfl (fun w hC => c39 (rd_arg g_1 hC) rfl k_1 hx22)) rfl ?_
      rintro _ _ ⟨_, ⟨a23, _, cp24, rfl, rfl, rfl⟩, rfl⟩
      refine JL.val (yl_assign rfl) rfl ?_
      refine JL.nil ?_
      refine JE.code ?_
      refine JX.seq ?_
      refine JX.region ?_
      refine JL.val (yl_loadn Go.Proofs.Try.underlying39 rfl i39 rfl (fun w hC => rd_box hC 2 rfl) rfl (i39s).symm i39p) rfl ?_
      refine JL.val (yl_move rfl) rfl ?_
      obtain ⟨x26, hx26, hres⟩ := bind_some hres
      refine JL.eff (ef_call (vs := [.agg #[.int .i64 x16.W, .int .i64 x16.H, .slice a17 x16.Breaks.length cp18], .slice a23 x22.length cp24]) (T := T40 x26) Go.Proofs.Try.func40 rfl (by kernel_rfl) rfl (fun w hC => c40 (q0 := x16) (rd_row hC 3 rfl) rfl (ln_row hC 3 rfl) (rd_row hC 4 rfl) rfl (ln_row hC 4 rfl) hx26)) rfl ?_
      rintro _ _ ⟨_, ⟨a27, _, cp28, rfl, rfl, rfl⟩, rfl⟩
      refine JL.val (yl_move rfl) rfl ?_
      refine JL.val (yl_extract rfl rfl) rfl ?_
      refine JL.val (yl_extract rfl rfl) rfl ?_
      refine JL.val (yl_assign rfl) rfl ?_
      refine JL.val (yl_assign rfl) rfl ?_
      refine JL.nil ?_
      refine JE.weak (env' := [(1, .slice a_1 q1.length c_1), (2, ptrAt (some ⟨g1, 0, none⟩) 0), (6, .slice a13 x12.1.length cp14), (7, .int .i64 x12.2), (8, ptrAt (some ⟨g20, 0, none⟩) 0), (9, .slice a23 x22.length cp24), (10, .slice a27 x26.1.length cp28), (11, .int .i64 x26.2)]) (es' := [boxO 35 g1 [.int .i64 q0.W, .int .i64 q0.H, .slice a_0_2 q0.Breaks.length c_0_2], rowT 9 eStr a13 x12.1.length cp14 x12.1, boxO 39 g20 [.int .i64 x16.W, .int .i64 x16.H, .slice a17 x16.Breaks.length cp18], rowT 2 eI64 a17 x16.Breaks.length cp18 x16.Breaks, rowT 2 eI64 a23 x22.length cp24 x22, rowT 9 eStr a27 x26.1.length cp28 x26.1]) [0, 1, 2, 3, 4, 5] ?_ ⟨rfl, rfl, rfl, rfl, rfl, rfl, rfl, rfl, trivial⟩ (by decide) rfl
      refine JE.code ?_
      refine JX.seq ?_
      refine JX.seq ?_
      refine JX.region ?_
      refine JL.val (yl_move rfl) rfl ?_
      refine JL.val (yl_move rfl) rfl ?_
      obtain ⟨x30, hx30, hres⟩ := bind_some hres
      refine JL.eff (ef_call (T := T41 x30) Go.Proofs.Try.func41 rfl (by kernel_rfl) rfl (fun w hC => c41 (rd_row hC 5 rfl) rfl (ln_row hC 5 rfl) (rd_row hC 1 rfl) rfl (ln_row hC 1 rfl) hx30)) rfl ?_
      rintro _ _ ⟨_, ⟨rfl, rfl⟩, rfl⟩
      refine JL.val (yl_not rfl) rfl ?_
      refine JL.val (yl_move rfl) rfl ?_
      refine JL.cut (K := fun J => J [(1, .slice a_1 q1.length c_1), (2, ptrAt (some ⟨g1, 0, none⟩) 0), (6, .slice a13 x12.1.length cp14), (7, .int .i64 x12.2), (8, ptrAt (some ⟨g20, 0, none⟩) 0), (9, .slice a23 x22.length cp24), (10, .slice a27 x26.1.length cp28), (11, .int .i64 x26.2), (51, .bool (!x30 || (x26.2 != x12.2)))] [boxO 35 g1 [.int .i64 q0.W, .int .i64 q0.H, .slice a_0_2 q0.Breaks.length c_0_2], rowT 9 eStr a13 x12.1.length cp14 x12.1, boxO 39 g20 [.int .i64 x16.W, .int .i64 x16.H, .slice a17 x16.Breaks.length cp18], rowT 2 eI64 a17 x16.Breaks.length cp18 x16.Breaks, rowT 2 eI64 a23 x22.length cp24 x22, rowT 9 eStr a27 x26.1.length cp28 x26.1]) 4 ?_ ?_
      · refine JL.nil ?_
        refine JE.weak (env' := [(1, .slice a_1 q1.length c_1), (2, ptrAt (some ⟨g1, 0, none⟩) 0), (6, .slice a13 x12.1.length cp14), (7, .int .i64 x12.2), (8, ptrAt (some ⟨g20, 0, none⟩) 0), (9, .slice a23 x22.length cp24), (10, .slice a27 x26.1.length cp28), (11, .int .i64 x26.2), (51, .bool (!x30 || (x26.2 != x12.2)))]) (es' := [boxO 35 g1 [.int .i64 q0.W, .int .i64 q0.H, .slice a_0_2 q0.Breaks.length c_0_2], rowT 9 eStr a13 x12.1.length cp14 x12.1, boxO 39 g20 [.int .i64 x16.W, .int .i64 x16.H, .slice a17 x16.Breaks.length cp18], rowT 2 eI64 a17 x16.Breaks.length cp18 x16.Breaks, rowT 2 eI64 a23 x22.length cp24 x22, rowT 9 eStr a27 x26.1.length cp28 x26.1]) [0, 1, 2, 3, 4, 5] ?_ ⟨rfl, rfl, rfl, rfl, rfl, rfl, rfl, rfl, rfl, trivial⟩ (by decide) rfl
        refine JE.code ?_
        rcases cond_some hres with ⟨hb, hres⟩ | ⟨hb, hres⟩
        · refine JX.condT rfl hb ?_
          refine JX.seq ?_
          refine JX.region ?_
          refine JL.val (yl_assign rfl) rfl ?_
          refine JL.nil ?_
          refine JE.weak (env' := [(4, .bool false)]) (es' := []) [] ?_ ⟨rfl, trivial⟩ (by decide) rfl
          refine JE.code ?_
          refine JX.ret ?_
          obtain rfl := Option.some.inj hres
          refine JE.ret (rs := [.tmp 4]) (vs := [.bool false]) rfl ⟨rfl, trivial⟩ ?_
          exact fun w' hb hs => ⟨_, _, ⟨rfl, rfl⟩, rfl, hb, hs.sel [] _ (by decide) rfl⟩
        · refine JX.condF rfl hb ?_
          refine JX.skip ?_
          refine JE.code ?_
          refine JX.seq ?_
          refine JX.seq ?_
          refine JX.drawH [(0, .read), (1, .read), (2, .must), (3, .must), (4, .pure)] [] [] [0, 1, 2, 3, 4, 5] [] [boxO 35 g1 [.int .i64 q0.W, .int .i64 q0.H, .slice a_0_2 q0.Breaks.length c_0_2], rowT 9 eStr a13 x12.1.length cp14 x12.1, boxO 39 g20 [.int .i64 x16.W, .int .i64 x16.H, .slice a17 x16.Breaks.length cp18], rowT 2 eI64 a17 x16.Breaks.length cp18 x16.Breaks, rowT 2 eI64 a23 x22.length cp24 x22, rowT 9 eStr a27 x26.1.length cp28 x26.1] mixedP (by kernel_rfl) (by kernel_rfl) (by decide) rfl rfl ?_
          intro wrr31 Nr31 hFr31
          refine JH.read rfl (yl_loadn Go.Proofs.Try.underlying39 rfl i39 rfl (fun w hw => hFr31.box 2 rfl rfl hw) rfl (i39s).symm i39p) rfl ?_
          refine JH.read rfl (yl_loadn Go.Proofs.Try.underlying35 rfl i35 rfl (fun w hw => hFr31.box 0 rfl rfl hw) rfl (i35s).symm i35p) rfl ?_
          obtain ⟨x32, hx32, hres⟩ := bind_some hres
          refine JH.must rfl (ef_call (vs := [.agg #[.int .i64 q0.W, .int .i64 q0.H, .slice a_0_2 q0.Breaks.length c_0_2]]) (T := T29 x32) Go.Proofs.Try.func29 rfl (by kernel_rfl) rfl (fun w hC => c29 (q0 := q0) (hFr31.arg g_0_2 hC.1) rfl k_0_2 hx32)) rfl rfl ?_
          rintro _ _ ⟨_, ⟨a33, _, cp34, rfl, rfl, rfl⟩, rfl⟩
          obtain ⟨x36, hx36, hres⟩ := bind_some hres
          refine JH.must rfl (ef_call (vs := [.agg #[.int .i64 x16.W, .int .i64 x16.H, .slice a17 x16.Breaks.length cp18], .agg #[.int .i64 x32.W, .int .i64 x32.H, .slice a33 x32.Breaks.length cp34]]) (T := T32 x36) Go.Proofs.Try.func32 rfl (by kernel_rfl) rfl (fun w hC => c32 (q0 := x16) (q1 := x32) (hFr31.row 3 rfl rfl hC.1) rfl (ln_row hFr31.cl 3 rfl) (rd_row hC 0 rfl) rfl (ln_row hC 0 rfl) hx36)) rfl rfl ?_
          rintro _ _ ⟨_, ⟨rfl, rfl⟩, rfl⟩
          refine JH.pure rfl (yl_not rfl) rfl ?_
          refine JH.nil ?_
          refine JE.weak (env' := [(1, .slice a_1 q1.length c_1), (2, ptrAt (some ⟨g1, 0, none⟩) 0), (6, .slice a13 x12.1.length cp14), (7, .int .i64 x12.2), (8, ptrAt (some ⟨g20, 0, none⟩) 0), (9, .slice a23 x22.length cp24), (10, .slice a27 x26.1.length cp28), (11, .int .i64 x26.2), (56, .bool !x36)]) (es' := [boxO 35 g1 [.int .i64 q0.W, .int .i64 q0.H, .slice a_0_2 q0.Breaks.length c_0_2], rowT 9 eStr a13 x12.1.length cp14 x12.1, boxO 39 g20 [.int .i64 x16.W, .int .i64 x16.H, .slice a17 x16.Breaks.length cp18], rowT 2 eI64 a17 x16.Breaks.length cp18 x16.Breaks, rowT 2 eI64 a23 x22.length cp24 x22, rowT 9 eStr a27 x26.1.length cp28 x26.1]) [0, 1, 2, 3, 4, 5] ?_ ⟨rfl, rfl, rfl, rfl, rfl, rfl, rfl, rfl, rfl, trivial⟩ (by decide) rfl
          refine JE.code ?_
          rcases cond_some hres with ⟨hb, hres⟩ | ⟨hb, hres⟩
          · refine JX.condT rfl hb ?_
            refine JX.seq ?_
            refine JX.region ?_
            refine JL.val (yl_assign rfl) rfl ?_
            refine JL.nil ?_
            refine JE.weak (env' := [(4, .bool false)]) (es' := []) [] ?_ ⟨rfl, trivial⟩ (by decide) rfl
            refine JE.code ?_
            refine JX.ret ?_
            obtain rfl := Option.some.inj hres
            refine JE.ret (rs := [.tmp 4]) (vs := [.bool false]) rfl ⟨rfl, trivial⟩ ?_
            exact fun w' hb hs => ⟨_, _, ⟨rfl, rfl⟩, rfl, hb, hs.sel [] _ (by decide) rfl⟩
          · refine JX.condF rfl hb ?_
            refine JX.skip ?_
            refine JE.code ?_
            refine JX.seq ?_
            refine JX.seq ?_
            refine JX.region ?_
            refine JL.val (yl_move rfl) rfl ?_
            refine JL.val (yl_move rfl) rfl ?_
            obtain ⟨x37, hx37, hres⟩ := bind_some hres
            refine JL.eff (ef_call (T := T39 x37) Go.Proofs.Try.func39 rfl (by kernel_rfl) rfl (fun w hC => c39 (rd_arg g_1 hC) rfl k_1 hx37)) rfl ?_
            rintro _ _ ⟨_, ⟨a38, _, cp39, rfl, rfl, rfl⟩, rfl⟩
            obtain ⟨x41, hx41, hres⟩ := bind_some hres
            refine JL.eff (ef_call (T := T31 x41) Go.Proofs.Try.func31 rfl (by kernel_rfl) rfl (fun w hC => c31 (rd_row hC 4 rfl) rfl (ln_row hC 4 rfl) (rd_row hC 6 rfl) rfl (ln_row hC 6 rfl) hx41)) rfl ?_
            rintro _ _ ⟨_, ⟨rfl, rfl⟩, rfl⟩
            refine JL.val (yl_not rfl) rfl ?_
            refine JL.nil ?_
            refine JE.weak (env' := [(1, .slice a_1 q1.length c_1), (2, ptrAt (some ⟨g1, 0, none⟩) 0), (6, .slice a13 x12.1.length cp14), (7, .int .i64 x12.2), (8, ptrAt (some ⟨g20, 0, none⟩) 0), (9, .slice a23 x22.length cp24), (10, .slice a27 x26.1.length cp28), (11, .int .i64 x26.2), (61, .bool !x41)]) (es' := [boxO 35 g1 [.int .i64 q0.W, .int .i64 q0.H, .slice a_0_2 q0.Breaks.length c_0_2], rowT 9 eStr a13 x12.1.length cp14 x12.1, boxO 39 g20 [.int .i64 x16.W, .int .i64 x16.H, .slice a17 x16.Breaks.length cp18], rowT 2 eI64 a17 x16.Breaks.length cp18 x16.Breaks, rowT 2 eI64 a23 x22.length cp24 x22, rowT 9 eStr a27 x26.1.length cp28 x26.1]) [0, 1, 2, 3, 4, 5] ?_ ⟨rfl, rfl, rfl, rfl, rfl, rfl, rfl, rfl, rfl, trivial⟩ (by decide) rfl
            refine JE.code ?_
            rcases cond_some hres with ⟨hb, hres⟩ | ⟨hb, hres⟩
            · refine JX.condT rfl hb ?_
              refine JX.seq ?_
              refine JX.region ?_
              refine JL.val (yl_assign rfl) rfl ?_
              refine JL.nil ?_
              refine JE.weak (env' := [(4, .bool false)]) (es' := []) [] ?_ ⟨rfl, trivial⟩ (by decide) rfl
              refine JE.code ?_
              refine JX.ret ?_
              obtain rfl := Option.some.inj hres
              refine JE.ret (rs := [.tmp 4]) (vs := [.bool false]) rfl ⟨rfl, trivial⟩ ?_
              exact fun w' hb hs => ⟨_, _, ⟨rfl, rfl⟩, rfl, hb, hs.sel [] _ (by decide) rfl⟩
            · refine JX.condF rfl hb ?_
              refine JX.skip ?_
              refine JE.code ?_
              refine JX.seq ?_
              refine JX.region ?_
              refine JL.val (yl_assign rfl) rfl ?_
              refine JL.nil ?_
              refine JE.code ?_
              refine JX.seq ?_
              refine JX.region ?_
              refine JL.val (yl_loadn Go.Proofs.Try.underlying39 rfl i39 rfl (fun w hC => rd_box hC 2 rfl) rfl (i39s).symm i39p) rfl ?_
              refine JL.val (yl_move rfl) rfl ?_
              obtain ⟨x42, hx42, hres⟩ := bind_some hres
              refine JL.eff (ef_callms (caps := []) (vs := [.agg #[.int .i64 x16.W, .int .i64 x16.H, .slice a17 x16.Breaks.length cp18], .int .i64 1]) (T := T33 a17 x16.Breaks.length cp18 x42) [3] [0, 1, 2, 4, 5] [rowT 2 eI64 a17 x16.Breaks.length cp18 x16.Breaks] [boxO 35 g1 [.int .i64 q0.W, .int .i64 q0.H, .slice a_0_2 q0.Breaks.length c_0_2], rowT 9 eStr a13 x12.1.length cp14 x12.1, boxO 39 g20 [.int .i64 x16.W, .int .i64 x16.H, .slice a17 x16.Breaks.length cp18], rowT 2 eI64 a23 x22.length cp24 x22, rowT 9 eStr a27 x26.1.length cp28 x26.1] rfl Go.Proofs.Try.func33 rfl (by kernel_rfl) rfl (by decide) rfl rfl (fun w N hF hS => c33 (q0 := x16) rfl hS hx42)) rfl ?_
              rintro _ _ ⟨_, _, ⟨l43, rfl, rfl, rfl⟩, rfl⟩
              refine JL.val (yl_assign rfl) rfl ?_
              refine JL.nil ?_
              refine JE.weak (env' := [(1, .slice a_1 q1.length c_1), (2, ptrAt (some ⟨g1, 0, none⟩) 0), (6, .slice a13 x12.1.length cp14), (7, .int .i64 x12.2), (9, .slice a23 x22.length cp24), (10, .slice a27 x26.1.length cp28), (11, .int .i64 x26.2), (12, .int .i64 x42.1)]) (es' := [boxO 35 g1 [.int .i64 q0.W, .int .i64 q0.H, .slice a_0_2 q0.Breaks.length c_0_2], rowT 9 eStr a13 x12.1.length cp14 x12.1, rowT 2 eI64 a23 x22.length cp24 x22, rowT 9 eStr a27 x26.1.length cp28 x26.1]) [0, 1, 3, 4] ?_ ⟨rfl, rfl, rfl, rfl, rfl, rfl, rfl, rfl, trivial⟩ (by decide) rfl
              refine JE.code ?_
              refine JX.seq ?_
              refine JX.region ?_
              refine JL.val (yl_move rfl) rfl ?_
              refine JL.val (yl_move rfl) rfl ?_
              obtain ⟨x44, hx44, hres⟩ := bind_some hres
              refine JL.eff (ef_callm (T := T34 a23 x22.length cp24 x44) 2 Go.Proofs.Try.func34 rfl (by kernel_rfl) rfl rfl (fun w fp hs => c34 hs rfl hx44)) rfl ?_
              rintro _ _ ⟨_, _, ⟨l45, rfl, rfl, rfl⟩, rfl⟩
              refine JL.val (yl_assign rfl) rfl ?_
              refine JL.nil ?_
              refine JE.weak (env' := [(1, .slice a_1 q1.length c_1), (2, ptrAt (some ⟨g1, 0, none⟩) 0), (6, .slice a13 x12.1.length cp14), (7, .int .i64 x12.2), (10, .slice a27 x26.1.length cp28), (11, .int .i64 x26.2), (12, .int .i64 x44.1)]) (es' := [boxO 35 g1 [.int .i64 q0.W, .int .i64 q0.H, .slice a_0_2 q0.Breaks.length c_0_2], rowT 9 eStr a13 x12.1.length cp14 x12.1, rowT 9 eStr a27 x26.1.length cp28 x26.1]) [0, 1, 3] ?_ ⟨rfl, rfl, rfl, rfl, rfl, rfl, rfl, trivial⟩ (by decide) rfl
              refine JE.code ?_
              refine JX.seq ?_
              refine JX.seq ?_
              refine JX.region ?_
              refine JL.val (yl_move rfl) rfl ?_
              refine JL.val (yl_lss rfl rfl) rfl ?_
              refine JL.val (yl_move rfl) rfl ?_
              obtain ⟨c46, hc46, hres⟩ := bind_some hres
              refine JL.cut (K := fun J => J [(1, .slice a_1 q1.length c_1), (2, ptrAt (some ⟨g1, 0, none⟩) 0), (6, .slice a13 x12.1.length cp14), (7, .int .i64 x12.2), (10, .slice a27 x26.1.length cp28), (11, .int .i64 x26.2), (75, .bool c46)] [boxO 35 g1 [.int .i64 q0.W, .int .i64 q0.H, .slice a_0_2 q0.Breaks.length c_0_2], rowT 9 eStr a13 x12.1.length cp14 x12.1, rowT 9 eStr a27 x26.1.length cp28 x26.1]) 5 ?_ ?_
              · refine JL.val (yl_move rfl) rfl ?_
                refine JL.cut (K := fun J => J [(1, .slice a_1 q1.length c_1), (2, ptrAt (some ⟨g1, 0, none⟩) 0), (6, .slice a13 x12.1.length cp14), (7, .int .i64 x12.2), (10, .slice a27 x26.1.length cp28), (80, .bool (c46 || (x26.2 != x12.2)))] [boxO 35 g1 [.int .i64 q0.W, .int .i64 q0.H, .slice a_0_2 q0.Breaks.length c_0_2], rowT 9 eStr a13 x12.1.length cp14 x12.1, rowT 9 eStr a27 x26.1.length cp28 x26.1]) 4 ?_ ?_
                · refine JL.nil ?_
                  refine JE.weak (env' := [(1, .slice a_1 q1.length c_1), (2, ptrAt (some ⟨g1, 0, none⟩) 0), (6, .slice a13 x12.1.length cp14), (7, .int .i64 x12.2), (10, .slice a27 x26.1.length cp28), (80, .bool (c46 || (x26.2 != x12.2)))]) (es' := [boxO 35 g1 [.int .i64 q0.W, .int .i64 q0.H, .slice a_0_2 q0.Breaks.length c_0_2], rowT 9 eStr a13 x12.1.length cp14 x12.1, rowT 9 eStr a27 x26.1.length cp28 x26.1]) [0, 1, 2] ?_ ⟨rfl, rfl, rfl, rfl, rfl, rfl, trivial⟩ (by decide) rfl
                  refine JE.code ?_
                  rcases cond_some hres with ⟨hb, hres⟩ | ⟨hb, hres⟩
                  · refine JX.condT rfl hb ?_
                    refine JX.seq ?_
                    refine JX.region ?_
                    refine JL.val (yl_assign rfl) rfl ?_
                    refine JL.nil ?_
                    refine JE.weak (env' := [(4, .bool false)]) (es' := []) [] ?_ ⟨rfl, trivial⟩ (by decide) rfl
                    refine JE.code ?_
                    refine JX.ret ?_
                    obtain rfl := Option.some.inj hres
                    refine JE.ret (rs := [.tmp 4]) (vs := [.bool false]) rfl ⟨rfl, trivial⟩ ?_
                    exact fun w' hb hs => ⟨_, _, ⟨rfl, rfl⟩, rfl, hb, hs.sel [] _ (by decide) rfl⟩
                  · refine JX.condF rfl hb ?_
                    refine JX.skip ?_
                    refine JE.code ?_
                    refine JX.seq ?_
                    refine JX.region ?_
                    refine JL.val (yl_assign rfl) rfl ?_
                    refine JL.nil ?_
                    refine JE.code ?_
                    refine JX.seq ?_
                    refine JX.region ?_
                    refine JL.val (yl_move rfl) rfl ?_
                    refine JL.val (yl_move rfl) rfl ?_
                    obtain ⟨x48, hx48, hres⟩ := bind_some hres
                    refine JL.eff (ef_callm (T := T42 a27 x26.1.length cp28 x48) 2 Go.Proofs.Try.func42 rfl (by kernel_rfl) rfl rfl (fun w fp hs => c42 hs rfl hx48)) rfl ?_
                    rintro _ _ ⟨_, _, ⟨l49, rfl, rfl, rfl⟩, rfl⟩
                    refine JL.val (yl_assign rfl) rfl ?_
                    refine JL.nil ?_
                    refine JE.weak (env' := [(1, .slice a_1 q1.length c_1), (2, ptrAt (some ⟨g1, 0, none⟩) 0), (6, .slice a13 x12.1.length cp14), (7, .int .i64 x12.2), (10, .slice a27 x26.1.length cp28), (13, .int .i64 x48.1)]) (es' := [boxO 35 g1 [.int .i64 q0.W, .int .i64 q0.H, .slice a_0_2 q0.Breaks.length c_0_2], rowT 9 eStr a13 x12.1.length cp14 x12.1, rowT 9 eStr a27 x26.1.length cp28 x48.2]) [0, 1, 2] ?_ ⟨rfl, rfl, rfl, rfl, rfl, rfl, trivial⟩ (by decide) rfl
                    refine JE.code ?_
                    refine JX.seq ?_
                    refine JX.region ?_
                    refine JL.val (yl_assign rfl) rfl ?_
                    refine JL.nil ?_
                    refine JE.code ?_
                    refine JX.seq ?_
                    refine JX.region ?_
                    refine JL.val (yl_move rfl) rfl ?_
                    refine JL.val (yl_move rfl) rfl ?_
                    obtain ⟨x50, hx50, hres⟩ := bind_some hres
                    refine JL.eff (ef_call (T := T43 x50) Go.Proofs.Try.func43 rfl (by kernel_rfl) rfl (fun w hC => c43 (rd_row hC 2 rfl) l49 (ln_row hC 2 rfl) hx50)) rfl ?_
                    rintro _ _ ⟨_, ⟨rfl, rfl⟩, rfl⟩
                    refine JL.val (yl_assign rfl) rfl ?_
                    refine JL.nil ?_
                    refine JE.weak (env' := [(1, .slice a_1 q1.length c_1), (2, ptrAt (some ⟨g1, 0, none⟩) 0), (6, .slice a13 x12.1.length cp14), (7, .int .i64 x12.2), (10, .slice a27 x26.1.length cp28), (13, .int .i64 x48.1), (14, .int .i64 x50)]) (es' := [boxO 35 g1 [.int .i64 q0.W, .int .i64 q0.H, .slice a_0_2 q0.Breaks.length c_0_2], rowT 9 eStr a13 x12.1.length cp14 x12.1, rowT 9 eStr a27 x26.1.length cp28 x48.2]) [0, 1, 2] ?_ ⟨rfl, rfl, rfl, rfl, rfl, rfl, rfl, trivial⟩ (by decide) rfl
                    refine JE.code ?_
                    refine JX.seq ?_
                    refine JX.seq ?_
                    refine JX.region ?_
                    refine JL.val (yl_move rfl) rfl ?_
                    refine JL.val (yl_lss rfl rfl) rfl ?_
                    refine JL.nil ?_
                    refine JE.code ?_
                    rcases cond_some hres with ⟨hb, hres⟩ | ⟨hb, hres⟩
                    · refine JX.condT rfl hb ?_
                      refine JX.seq ?_
                      refine JX.region ?_
                      refine JL.val (yl_assign rfl) rfl ?_
                      refine JL.nil ?_
                      refine JE.weak (env' := [(4, .bool false)]) (es' := []) [] ?_ ⟨rfl, trivial⟩ (by decide) rfl
                      refine JE.code ?_
                      refine JX.ret ?_
                      obtain rfl := Option.some.inj hres
                      refine JE.ret (rs := [.tmp 4]) (vs := [.bool false]) rfl ⟨rfl, trivial⟩ ?_
                      exact fun w' hb hs => ⟨_, _, ⟨rfl, rfl⟩, rfl, hb, hs.sel [] _ (by decide) rfl⟩
                    · refine JX.condF rfl hb ?_
                      refine JX.skip ?_
                      refine JE.code ?_
                      refine JX.seq ?_
                      refine JX.seq ?_
                      refine JX.region ?_
                      refine JL.val (yl_move rfl) rfl ?_
                      refine JL.val (yl_move rfl) rfl ?_
                      refine JL.val (yl_neq rfl rfl) rfl ?_
                      refine JL.nil ?_
                      refine JE.code ?_
                      rcases cond_some hres with ⟨hb, hres⟩ | ⟨hb, hres⟩
                      · refine JX.condT rfl hb ?_
                        refine JX.seq ?_
                        refine JX.region ?_
                        refine JL.val (yl_assign rfl) rfl ?_
                        refine JL.nil ?_
                        refine JE.weak (env' := [(4, .bool false)]) (es' := []) [] ?_ ⟨rfl, trivial⟩ (by decide) rfl
                        refine JE.code ?_
                        refine JX.ret ?_
                        obtain rfl := Option.some.inj hres
                        refine JE.ret (rs := [.tmp 4]) (vs := [.bool false]) rfl ⟨rfl, trivial⟩ ?_
                        exact fun w' hb hs => ⟨_, _, ⟨rfl, rfl⟩, rfl, hb, hs.sel [] _ (by decide) rfl⟩
                      · refine JX.condF rfl hb ?_
                        refine JX.skip ?_
                        refine JE.code ?_
                        refine JX.seq ?_
                        refine JX.region ?_
                        refine JL.val (yl_loadn Go.Proofs.Try.underlying35 rfl i35 rfl (fun w hC => rd_box hC 0 rfl) rfl (i35s).symm i35p) rfl ?_
                        obtain ⟨x51, hx51, hres⟩ := bind_some hres
                        refine JL.eff (ef_call (vs := [.agg #[.int .i64 q0.W, .int .i64 q0.H, .slice a_0_2 q0.Breaks.length c_0_2]]) (T := T29 x51) Go.Proofs.Try.func29 rfl (by kernel_rfl) rfl (fun w hC => c29 (q0 := q0) (rd_arg g_0_2 hC) rfl k_0_2 hx51)) rfl ?_
                        rintro _ _ ⟨_, ⟨a52, _, cp53, rfl, rfl, rfl⟩, rfl⟩
                        refine JL.val (yl_move rfl) rfl ?_
                        obtain ⟨x55, hx55, hres⟩ := bind_some hres
                        refine JL.eff (ef_call (T := T39 x55) Go.Proofs.Try.func39 rfl (by kernel_rfl) rfl (fun w hC => c39 (rd_arg g_1 hC) rfl k_1 hx55)) rfl ?_
                        rintro _ _ ⟨_, ⟨a56, _, cp57, rfl, rfl, rfl⟩, rfl⟩
                        obtain ⟨x59, hx59, hres⟩ := bind_some hres
                        refine JL.eff (ef_call (vs := [.agg #[.int .i64 x51.W, .int .i64 x51.H, .slice a52 x51.Breaks.length cp53], .slice a56 x55.length cp57]) (T := T40 x59) Go.Proofs.Try.func40 rfl (by kernel_rfl) rfl (fun w hC => c40 (q0 := x51) (rd_row hC 3 rfl) rfl (ln_row hC 3 rfl) (rd_row hC 4 rfl) rfl (ln_row hC 4 rfl) hx59)) rfl ?_
                        rintro _ _ ⟨_, ⟨a60, _, cp61, rfl, rfl, rfl⟩, rfl⟩
                        refine JL.val (yl_move rfl) rfl ?_
                        refine JL.val (yl_extract rfl rfl) rfl ?_
                        refine JL.val (yl_extract rfl rfl) rfl ?_
                        refine JL.val (yl_assign rfl) rfl ?_
                        refine JL.val (yl_assign rfl) rfl ?_
                        refine JL.nil ?_
                        refine JE.weak (env' := [(6, .slice a13 x12.1.length cp14), (7, .int .i64 x12.2), (10, .slice a27 x26.1.length cp28), (13, .int .i64 x48.1), (15, .slice a60 x59.1.length cp61), (16, .int .i64 x59.2)]) (es' := [rowT 9 eStr a13 x12.1.length cp14 x12.1, rowT 9 eStr a27 x26.1.length cp28 x48.2, rowT 9 eStr a60 x59.1.length cp61 x59.1]) [1, 2, 5] ?_ ⟨rfl, rfl, rfl, rfl, rfl, rfl, trivial⟩ (by decide) rfl
                        refine JE.code ?_
                        refine JX.seq ?_
                        refine JX.seq ?_
                        refine JX.region ?_
                        refine JL.val (yl_move rfl) rfl ?_
                        refine JL.val (yl_move rfl) rfl ?_
                        obtain ⟨x63, hx63, hres⟩ := bind_some hres
                        refine JL.eff (ef_call (T := T41 x63) Go.Proofs.Try.func41 rfl (by kernel_rfl) rfl (fun w hC => c41 (rd_row hC 2 rfl) rfl (ln_row hC 2 rfl) (rd_row hC 0 rfl) rfl (ln_row hC 0 rfl) hx63)) rfl ?_
                        rintro _ _ ⟨_, ⟨rfl, rfl⟩, rfl⟩
                        refine JL.val (yl_not rfl) rfl ?_
                        refine JL.val (yl_move rfl) rfl ?_
                        refine JL.cut (K := fun J => J [(10, .slice a27 x26.1.length cp28), (13, .int .i64 x48.1), (108, .bool (!x63 || (x59.2 != x12.2)))] [rowT 9 eStr a27 x26.1.length cp28 x48.2]) 4 ?_ ?_
                        · refine JL.nil ?_
                          refine JE.weak (env' := [(10, .slice a27 x26.1.length cp28), (13, .int .i64 x48.1), (108, .bool (!x63 || (x59.2 != x12.2)))]) (es' := [rowT 9 eStr a27 x26.1.length cp28 x48.2]) [0] ?_ ⟨rfl, rfl, rfl, trivial⟩ (by decide) rfl
                          refine JE.code ?_
                          rcases cond_some hres with ⟨hb, hres⟩ | ⟨hb, hres⟩
                          · refine JX.condT rfl hb ?_
                            refine JX.seq ?_
                            refine JX.region ?_
                            refine JL.val (yl_assign rfl) rfl ?_
                            refine JL.nil ?_
                            refine JE.weak (env' := [(4, .bool false)]) (es' := []) [] ?_ ⟨rfl, trivial⟩ (by decide) rfl
                            refine JE.code ?_
                            refine JX.ret ?_
                            obtain rfl := Option.some.inj hres
                            refine JE.ret (rs := [.tmp 4]) (vs := [.bool false]) rfl ⟨rfl, trivial⟩ ?_
                            exact fun w' hb hs => ⟨_, _, ⟨rfl, rfl⟩, rfl, hb, hs.sel [] _ (by decide) rfl⟩
                          · refine JX.condF rfl hb ?_
                            refine JX.skip ?_
                            refine JE.code ?_
                            refine JX.seq ?_
                            refine JX.region ?_
                            refine JL.val (yl_assign rfl) rfl ?_
                            refine JL.nil ?_
                            refine JE.code ?_
                            refine JX.seq ?_
                            refine JX.region ?_
                            refine JL.val (yl_move rfl) rfl ?_
                            refine JL.val (yl_move rfl) rfl ?_
                            obtain ⟨x64, hx64, hres⟩ := bind_some hres
                            refine JL.eff (ef_call (T := T43 x64) Go.Proofs.Try.func43 rfl (by kernel_rfl) rfl (fun w hC => c43 (rd_row hC 0 rfl) l49 (ln_row hC 0 rfl) hx64)) rfl ?_
                            rintro _ _ ⟨_, ⟨rfl, rfl⟩, rfl⟩
                            refine JL.val (yl_assign rfl) rfl ?_
                            refine JL.nil ?_
                            refine JE.weak (env' := [(13, .int .i64 x48.1), (14, .int .i64 x64)]) (es' := []) [] ?_ ⟨rfl, rfl, trivial⟩ (by decide) rfl
                            refine JE.code ?_
                            refine JX.seq ?_
                            refine JX.seq ?_
                            refine JX.region ?_
                            refine JL.val (yl_move rfl) rfl ?_
                            refine JL.val (yl_lss rfl rfl) rfl ?_
                            refine JL.nil ?_
                            refine JE.code ?_
                            rcases cond_some hres with ⟨hb, hres⟩ | ⟨hb, hres⟩
                            · refine JX.condT rfl hb ?_
                              refine JX.seq ?_
                              refine JX.region ?_
                              refine JL.val (yl_assign rfl) rfl ?_
                              refine JL.nil ?_
                              refine JE.code ?_
                              refine JX.ret ?_
                              obtain rfl := Option.some.inj hres
                              refine JE.ret (rs := [.tmp 4]) (vs := [.bool false]) rfl ⟨rfl, trivial⟩ ?_
                              exact fun w' hb hs => ⟨_, _, ⟨rfl, rfl⟩, rfl, hb, hs.sel [] _ (by decide) rfl⟩
                            · refine JX.condF rfl hb ?_
                              refine JX.skip ?_
                              refine JE.code ?_
                              refine JX.seq ?_
                              refine JX.seq ?_
                              refine JX.region ?_
                              refine JL.val (yl_move rfl) rfl ?_
                              refine JL.val (yl_move rfl) rfl ?_
                              refine JL.val (yl_neq rfl rfl) rfl ?_
                              refine JL.nil ?_
                              refine JE.code ?_
                              rcases cond_some hres with ⟨hb, hres⟩ | ⟨hb, hres⟩
                              · refine JX.condT rfl hb ?_
                                refine JX.seq ?_
                                refine JX.region ?_
                                refine JL.val (yl_assign rfl) rfl ?_
                                refine JL.nil ?_
                                refine JE.code ?_
                                refine JX.ret ?_
                                obtain rfl := Option.some.inj hres
                                refine JE.ret (rs := [.tmp 4]) (vs := [.bool false]) rfl ⟨rfl, trivial⟩ ?_
                                exact fun w' hb hs => ⟨_, _, ⟨rfl, rfl⟩, rfl, hb, hs.sel [] _ (by decide) rfl⟩
                              · refine JX.condF rfl hb ?_
                                refine JX.skip ?_
                                refine JE.code ?_
                                refine JX.seq ?_
                                refine JX.region ?_
                                refine JL.val (yl_assign rfl) rfl ?_
                                refine JL.nil ?_
                                refine JE.code ?_
                                refine JX.ret ?_
                                obtain rfl := Option.some.inj hres
                                refine JE.ret (rs := [.tmp 4]) (vs := [.bool true]) rfl ⟨rfl, trivial⟩ ?_
                                exact fun w' hb hs => ⟨_, _, ⟨rfl, rfl⟩, rfl, hb, hs.sel [] _ (by decide) rfl⟩
                        · intro K
                          rcases Bool.eq_false_or_eq_true (!x63) with hb | hb
                          · refine JL.set (d := 104) (v := .bool true) (congrArg (fun b => some (Value.bool b)) hb) ?_
                            refine JL.gskip rfl rfl rfl rfl ?_
                            refine JL.gskip rfl rfl rfl rfl ?_
                            refine JL.gskip rfl rfl rfl rfl ?_
                            refine JL.val (yl_pick_true rfl rfl) rfl ?_
                            exact JL.weak [1] K ⟨rfl, rfl, (by rw [hb]; rfl), trivial⟩ (by decide) rfl
                          · refine JL.set (d := 104) (v := .bool false) (congrArg (fun b => some (Value.bool b)) hb) ?_
                            refine JL.gval rfl rfl (yl_move rfl) rfl ?_
                            refine JL.gval rfl rfl (yl_move rfl) rfl ?_
                            refine JL.gval rfl rfl (yl_neq rfl rfl) rfl ?_
                            refine JL.val (yl_pick_false rfl rfl) rfl ?_
                            exact JL.weak [1] K ⟨rfl, rfl, (by rw [hb]; rfl), trivial⟩ (by decide) rfl
                · intro K
                  rcases Bool.eq_false_or_eq_true (c46) with hb | hb
                  · refine JL.set (d := 76) (v := .bool true) (congrArg (fun b => some (Value.bool b)) hb) ?_
                    refine JL.gskip rfl rfl rfl rfl ?_
                    refine JL.gskip rfl rfl rfl rfl ?_
                    refine JL.gskip rfl rfl rfl rfl ?_
                    refine JL.val (yl_pick_true rfl rfl) rfl ?_
                    exact JL.weak [0, 1, 2] K ⟨rfl, rfl, rfl, rfl, rfl, (by rw [hb]; rfl), trivial⟩ (by decide) rfl
                  · refine JL.set (d := 76) (v := .bool false) (congrArg (fun b => some (Value.bool b)) hb) ?_
                    refine JL.gval rfl rfl (yl_move rfl) rfl ?_
                    refine JL.gval rfl rfl (yl_move rfl) rfl ?_
                    refine JL.gval rfl rfl (yl_neq rfl rfl) rfl ?_
                    refine JL.val (yl_pick_false rfl rfl) rfl ?_
                    exact JL.weak [0, 1, 2] K ⟨rfl, rfl, rfl, rfl, rfl, (by rw [hb]; rfl), trivial⟩ (by decide) rfl
              · intro K
                rcases cond_some hc46 with ⟨hb, hres⟩ | ⟨hb, hres⟩
                · refine JL.set (d := 70) (v := .bool true) (congrArg (fun b => some (Value.bool b)) hb) ?_
                  refine JL.gskip rfl rfl rfl rfl ?_
                  refine JL.gskip rfl rfl rfl rfl ?_
                  refine JL.gskip rfl rfl rfl rfl ?_
                  refine JL.gskip rfl rfl rfl rfl ?_
                  refine JL.val (yl_pick_true rfl rfl) rfl ?_
                  have he := Option.some.inj hres
                  exact JL.weak [0, 1, 2] K ⟨rfl, rfl, rfl, rfl, rfl, rfl, (by rw [← he]; rfl), trivial⟩ (by decide) rfl
                · refine JL.set (d := 70) (v := .bool false) (congrArg (fun b => some (Value.bool b)) hb) ?_
                  refine JL.gval rfl rfl (yl_move rfl) rfl ?_
                  refine JL.gval rfl rfl (yl_move rfl) rfl ?_
                  obtain ⟨x47, hx47, hres⟩ := bind_some hres
                  refine JL.geff rfl rfl (ef_call (T := T41 x47) Go.Proofs.Try.func41 rfl (by kernel_rfl) rfl (fun w hC => c41 (rd_row hC 2 rfl) rfl (ln_row hC 2 rfl) (rd_row hC 1 rfl) rfl (ln_row hC 1 rfl) hx47)) rfl ?_
                  rintro _ _ ⟨_, ⟨rfl, rfl⟩, rfl⟩
                  refine JL.gval rfl rfl (yl_not rfl) rfl ?_
                  refine JL.val (yl_pick_false rfl rfl) rfl ?_
                  have he := Option.some.inj hres
                  exact JL.weak [0, 1, 2] K ⟨rfl, rfl, rfl, rfl, rfl, rfl, (by rw [← he]; rfl), trivial⟩ (by decide) rfl
      · intro K
        rcases Bool.eq_false_or_eq_true (!x30) with hb | hb
        · refine JL.set (d := 47) (v := .bool true) (congrArg (fun b => some (Value.bool b)) hb) ?_
          refine JL.gskip rfl rfl rfl rfl ?_
          refine JL.gskip rfl rfl rfl rfl ?_
          refine JL.gskip rfl rfl rfl rfl ?_
          refine JL.val (yl_pick_true rfl rfl) rfl ?_
          exact JL.weak [0, 1, 2, 3, 4, 5] K ⟨rfl, rfl, rfl, rfl, rfl, rfl, rfl, rfl, (by rw [hb]; rfl), trivial⟩ (by decide) rfl
        · refine JL.set (d := 47) (v := .bool false) (congrArg (fun b => some (Value.bool b)) hb) ?_
          refine JL.gval rfl rfl (yl_move rfl) rfl ?_
          refine JL.gval rfl rfl (yl_move rfl) rfl ?_
          refine JL.gval rfl rfl (yl_neq rfl rfl) rfl ?_
          refine JL.val (yl_pick_false rfl rfl) rfl ?_
          exact JL.weak [0, 1, 2, 3, 4, 5] K ⟨rfl, rfl, rfl, rfl, rfl, rfl, rfl, rfl, (by rw [hb]; rfl), trivial⟩ (by decide) rfl

end Go.Sh
