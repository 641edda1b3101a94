/- Walks through functions that the law reaches, printed by program. -/
import Derived.Test.YthcoacomnljikaaF14W0
set_option linter.unusedVariables false
set_option linter.unusedSimpArgs false
namespace Go.Sh
open Go Go.RowKit
/- laws.FnExactStrokeFor -/
def sh14 (q0 : SPanel) (q1 : SPoint) (q2 : Int) (q3 : Int) : Option (Bool) := Option.bind (sh56 q0 1048576) fun x5 => bif decide (x5 < 0) then (some true) else (Option.bind (sh58 q0) fun x7 => Option.bind (sh18 q1) fun x11 => Option.bind (sh61 x7 x11 q2 q3) fun x12 => Option.bind (sh58 q0) fun x16 => Option.bind (sh18 q1) fun x23 => Option.bind (sh62 x16 x23 q2 q3) fun x24 => Option.bind (sh20 x24.1 x12.1) fun x28 => bif !x28 || (x24.2 != x12.2) then (some false) else (Option.bind (sh58 q0) fun x30 => Option.bind (sh60 x16 x30) fun x34 => bif !x34 then (some false) else (Option.bind (sh63 x16 1) fun x35 => Option.bind (bif decide (x35.1 < 0) then (some true) else (Option.bind (sh20 x24.1 x12.1) fun x38 => some !x38)) fun c37 => (bif c37 || (x24.2 != x12.2) then (some false) else (Option.bind (sh21 x24.1 1) fun x39 => Option.bind (sh22 x39.2 1) fun x41 => bif decide (x41 < 0) then (some false) else (bif x41 != x39.1 then (some false) else (Option.bind (sh58 q0) fun x43 => Option.bind (sh18 q1) fun x47 => Option.bind (sh62 x43 x47 q2 q3) fun x48 => Option.bind (sh20 x48.1 x12.1) fun x52 => bif !x52 || (x48.2 != x12.2) then (some false) else (Option.bind (sh22 x39.2 1) fun x53 => bif decide (x53 < 0) then (some false) else (bif x53 != x39.1 then (some false) else (some true))))))))))
def T14 (r : Bool) (v : Value) (rs : List Own) : Prop := v = rets [.bool r] ∧ rs = []
set_option maxRecDepth 100000 in
theorem c14 {w : World} {q0 : SPanel} {a_0_2 : Option Addr} {n_0_2 c_0_2 : Nat} (g_0_2 : Rd w a_0_2 (eI64.fl q0.Breaks)) (l_0_2 : q0.Breaks.length = n_0_2) (k_0_2 : n_0_2 ≤ c_0_2) {q1 : SPoint} {q2 : Int} {q3 : Int} {r : Bool} (hres : sh14 q0 q1 q2 q3 = some r) : Calls Go.Proofs.Try.prog 14 [.agg #[.int .i64 q0.W, .int .i64 q0.H, .slice a_0_2 n_0_2 c_0_2], .agg #[.int .i64 q1.X, .int .i64 q1.Y], .int .i64 q2, .int .i64 q3].toArray w (Ret w (T14 r)) := by
  subst l_0_2
  unfold sh14 at hres
  refine calls_of (n := 114) (M := []) (es := []) Go.Proofs.Try.func14 rfl rfl rfl (Sep.nil _ _ _) ?_
  refine JX.seq ?_
  refine JX.region ?_
  refine JL.eff (ef_box rfl rfl) rfl ?_
  rintro _ _ ⟨g1, rfl, rfl⟩
  refine JL.eff (ef_box rfl rfl) rfl ?_
  rintro _ _ ⟨g3, rfl, rfl⟩
  refine JL.val (yl_assign rfl) rfl ?_
  refine JL.nil ?_
  refine JE.code ?_
  refine JX.seq ?_
  refine JX.region ?_
  refine JL.val (yl_assign rfl) rfl ?_
  refine JL.nil ?_
  refine JE.code ?_
  refine JX.seq ?_
  refine JX.region ?_
  refine JL.val (yl_loadn Go.Proofs.Try.underlying70 rfl i70 rfl (fun w hC => rd_box hC 0 rfl) rfl (i70s).symm i70p) rfl ?_
  refine JL.val (yl_move rfl) rfl ?_
  obtain ⟨x5, hx5, hres⟩ := bind_some hres
  refine JL.eff (ef_call (vs := [.agg #[.int .i64 q0.W, .int .i64 q0.H, .slice a_0_2 q0.Breaks.length c_0_2], .int .i64 1048576]) (T := T56 x5) Go.Proofs.Try.func56 rfl (by kernel_rfl) rfl (fun w hC => c56 (q0 := q0) (rd_arg g_0_2 hC) rfl k_0_2 hx5)) rfl ?_
  rintro _ _ ⟨_, ⟨rfl, rfl⟩, rfl⟩
  refine JL.val (yl_assign rfl) rfl ?_
  refine JL.nil ?_
  refine JE.weak (env' := [(2, .int .i64 q2), (3, .int .i64 q3), (4, ptrAt (some ⟨g1, 0, none⟩) 0), (5, ptrAt (some ⟨g3, 0, none⟩) 0), (9, .int .i64 x5)]) (es' := [boxO 70 g1 [.int .i64 q0.W, .int .i64 q0.H, .slice a_0_2 q0.Breaks.length c_0_2], boxO 24 g3 [.int .i64 q1.X, .int .i64 q1.Y]]) [0, 1] ?_ ⟨rfl, rfl, rfl, rfl, rfl, trivial⟩ (by decide) rfl
  refine JE.code ?_
  refine JX.seq ?_
  refine JX.seq ?_
  refine JX.region ?_
  refine JL.val (yl_move rfl) rfl ?_
  refine JL.val (yl_lss rfl rfl) rfl ?_
  refine JL.nil ?_
  refine JE.code ?_
  rcases cond_some hres with ⟨hb, hres⟩ | ⟨hb, hres⟩
  · refine JX.condT rfl hb ?_
    refine JX.seq ?_
    refine JX.region ?_
    refine JL.val (yl_assign rfl) rfl ?_
    refine JL.nil ?_
    refine JE.weak (env' := [(8, .bool true)]) (es' := []) [] ?_ ⟨rfl, trivial⟩ (by decide) rfl
    refine JE.code ?_
    refine JX.ret ?_
    obtain rfl := Option.some.inj hres
    refine JE.ret (rs := [.tmp 8]) (vs := [.bool true]) rfl ⟨rfl, trivial⟩ ?_
    exact fun w' hb hs => ⟨_, _, ⟨rfl, rfl⟩, rfl, hb, hs.sel [] _ (by decide) rfl⟩
  · refine JX.condF rfl hb ?_
    refine JX.skip ?_
    refine JE.code ?_
    refine JX.seq ?_
    refine JX.drawH [(0, .read), (2, .read), (4, .pure), (5, .pure), (1, .must), (3, .must), (6, .must), (7, .pure), (8, .pure), (9, .pure), (10, .pure), (11, .pure)] [] [] [0, 1] [] [boxO 70 g1 [.int .i64 q0.W, .int .i64 q0.H, .slice a_0_2 q0.Breaks.length c_0_2], boxO 24 g3 [.int .i64 q1.X, .int .i64 q1.Y]] mixedP rfl (by kernel_rfl) (by decide) rfl rfl ?_
    intro wrr6 Nr6 hFr6
    refine JH.read rfl (yl_loadn Go.Proofs.Try.underlying70 rfl i70 rfl (fun w hw => hFr6.box 0 rfl rfl hw) rfl (i70s).symm i70p) rfl ?_
    refine JH.read rfl (yl_loadn Go.Proofs.Try.underlying24 rfl i24 rfl (fun w hw => hFr6.box 1 rfl rfl hw) rfl (i24s).symm i24p) rfl ?_
    refine JH.pure rfl (yl_move rfl) rfl ?_
    refine JH.pure rfl (yl_move rfl) rfl ?_
    obtain ⟨x7, hx7, hres⟩ := bind_some hres
    refine JH.must rfl (ef_call (vs := [.agg #[.int .i64 q0.W, .int .i64 q0.H, .slice a_0_2 q0.Breaks.length c_0_2]]) (T := T58 x7) Go.Proofs.Try.func58 rfl (by kernel_rfl) rfl (fun w hC => c58 (q0 := q0) (hFr6.arg g_0_2 hC.1) rfl k_0_2 hx7)) rfl rfl ?_
    rintro _ _ ⟨_, ⟨a8, _, cp9, rfl, rfl, rfl⟩, rfl⟩
    obtain ⟨x11, hx11, hres⟩ := bind_some hres
    refine JH.must rfl (ef_call (vs := [.agg #[.int .i64 q1.X, .int .i64 q1.Y]]) (T := T18 x11) Go.Proofs.Try.func18 rfl (by kernel_rfl) rfl (fun w hC => c18 (q0 := q1) hx11)) rfl rfl ?_
    rintro _ _ ⟨_, ⟨rfl, rfl⟩, rfl⟩
    obtain ⟨x12, hx12, hres⟩ := bind_some hres
    refine JH.must rfl (ef_call (vs := [.agg #[.int .i64 x7.W, .int .i64 x7.H, .slice a8 x7.Breaks.length cp9], .agg #[.int .i64 x11.X, .int .i64 x11.Y], .int .i64 q2, .int .i64 q3]) (T := T61 x12) Go.Proofs.Try.func61 rfl (by kernel_rfl) rfl (fun w hC => c61 (q0 := x7) (q1 := x11) (rd_row hC 0 rfl) rfl (ln_row hC 0 rfl) hx12)) rfl rfl ?_
    rintro _ _ ⟨_, ⟨a13, _, cp14, rfl, rfl, rfl⟩, rfl⟩
    refine JH.pure rfl (yl_move rfl) rfl ?_
    refine JH.pure rfl (yl_extract rfl rfl) rfl ?_
    refine JH.pure rfl (yl_extract rfl rfl) rfl ?_
    refine JH.pure rfl (yl_assign rfl) rfl ?_
    refine JH.pure rfl (yl_assign rfl) rfl ?_
    refine JH.nil ?_
    refine JE.weak (env' := [(2, .int .i64 q2), (3, .int .i64 q3), (4, ptrAt (some ⟨g1, 0, none⟩) 0), (5, ptrAt (some ⟨g3, 0, none⟩) 0), (10, .slice a13 x12.1.length cp14), (11, .int .i64 x12.2)]) (es' := [boxO 70 g1 [.int .i64 q0.W, .int .i64 q0.H, .slice a_0_2 q0.Breaks.length c_0_2], boxO 24 g3 [.int .i64 q1.X, .int .i64 q1.Y], rowT 30 eSPoint a13 x12.1.length cp14 x12.1]) [0, 1, 3] ?_ ⟨rfl, rfl, rfl, rfl, rfl, rfl, trivial⟩ (by decide) rfl
    refine JE.code ?_
    refine JX.seq ?_
    refine JX.region ?_
    refine JL.val (yl_loadn Go.Proofs.Try.underlying70 rfl i70 rfl (fun w hC => rd_box hC 0 rfl) rfl (i70s).symm i70p) rfl ?_
    obtain ⟨x16, hx16, hres⟩ := bind_some hres
    refine JL.eff (ef_call (vs := [.agg #[.int .i64 q0.W, .int .i64 q0.H, .slice a_0_2 q0.Breaks.length c_0_2]]) (T := T58 x16) Go.Proofs.Try.func58 rfl (by kernel_rfl) rfl (fun w hC => c58 (q0 := q0) (rd_arg g_0_2 hC) rfl k_0_2 hx16)) rfl ?_
    rintro _ _ ⟨_, ⟨a17, _, cp18, rfl, rfl, rfl⟩, rfl⟩
    refine JL.eff (ef_alloc i73 i73z rfl) rfl ?_
    rintro _ _ ⟨g20, rfl, rfl⟩
    refine JL.eff (ef_store_box (i := 4) (v := .agg #[.int .i64 x16.W, .int .i64 x16.H, .slice a17 x16.Breaks.length cp18]) i73 rfl rfl rfl (i73s).symm (Nat.le_of_ble_eq_true rfl) (by simp [Value.cells, Value.oneCell'])) rfl ?_
    rintro _ _ rfl
    refine JL.nil ?_
    refine JE.weak (env' := [(2, .int .i64 q2), (3, .int .i64 q3), (4, ptrAt (some ⟨g1, 0, none⟩) 0), (5, ptrAt (some ⟨g3, 0, none⟩) 0), (10, .slice a13 x12.1.length cp14), (11, .int .i64 x12.2), (12, ptrAt (some ⟨g20, 0, none⟩) 0)]) (es' := [boxO 70 g1 [.int .i64 q0.W, .int .i64 q0.H, .slice a_0_2 q0.Breaks.length c_0_2], boxO 24 g3 [.int .i64 q1.X, .int .i64 q1.Y], rowT 30 eSPoint a13 x12.1.length cp14 x12.1, boxO 73 g20 [.int .i64 x16.W, .int .i64 x16.H, .slice a17 x16.Breaks.length cp18], rowT 2 eI64 a17 x16.Breaks.length cp18 x16.Breaks]) [0, 1, 2, 4, 3] ?_ ⟨rfl, rfl, rfl, rfl, rfl, rfl, rfl, trivial⟩ (by decide) rfl
    refine JE.code ?_
    refine JX.seq ?_
    refine JX.drawH [(0, .read), (1, .read), (3, .pure), (4, .pure), (2, .must), (5, .must), (6, .pure), (7, .pure), (8, .pure), (9, .pure), (10, .pure)] [] [] [0, 1, 2, 3, 4] [] [boxO 70 g1 [.int .i64 q0.W, .int .i64 q0.H, .slice a_0_2 q0.Breaks.length c_0_2], boxO 24 g3 [.int .i64 q1.X, .int .i64 q1.Y], rowT 30 eSPoint a13 x12.1.length cp14 x12.1, boxO 73 g20 [.int .i64 x16.W, .int .i64 x16.H, .slice a17 x16.Breaks.length cp18], rowT 2 eI64 a17 x16.Breaks.length cp18 x16.Breaks] mixedP rfl (by kernel_rfl) (by decide) rfl rfl ?_
    intro wrr22 Nr22 hFr22
    refine JH.read rfl (yl_loadn Go.Proofs.Try.underlying73 rfl i73 rfl (fun w hw => hFr22.box 3 rfl rfl hw) rfl (i73s).symm i73p) rfl ?_
    refine JH.read rfl (yl_loadn Go.Proofs.Try.underlying24 rfl i24 rfl (fun w hw => hFr22.box 1 rfl rfl hw) rfl (i24s).symm i24p) rfl ?_
    refine JH.pure rfl (yl_move rfl) rfl ?_
    refine JH.pure rfl (yl_move rfl) rfl ?_
    obtain ⟨x23, hx23, hres⟩ := bind_some hres
    refine JH.must rfl (ef_call (vs := [.agg #[.int .i64 q1.X, .int .i64 q1.Y]]) (T := T18 x23) Go.Proofs.Try.func18 rfl (by kernel_rfl) rfl (fun w hC => c18 (q0 := q1) hx23)) rfl rfl ?_
    rintro _ _ ⟨_, ⟨rfl, rfl⟩, rfl⟩
    obtain ⟨x24, hx24, hres⟩ := bind_some hres
    refine JH.must rfl (ef_call (vs := [.agg #[.int .i64 x16.W, .int .i64 x16.H, .slice a17 x16.Breaks.length cp18], .agg #[.int .i64 x23.X, .int .i64 x23.Y], .int .i64 q2, .int .i64 q3]) (T := T62 x24) Go.Proofs.Try.func62 rfl (by kernel_rfl) rfl (fun w hC => c62 (q0 := x16) (q1 := x23) (hFr22.row 4 rfl rfl hC.1) rfl (ln_row hFr22.cl 4 rfl) hx24)) rfl rfl ?_
    rintro _ _ ⟨_, ⟨a25, _, cp26, rfl, rfl, rfl⟩, rfl⟩
    refine JH.pure rfl (yl_move rfl) rfl ?_
    refine JH.pure rfl (yl_extract rfl rfl) rfl ?_
    refine JH.pure rfl (yl_extract rfl rfl) rfl ?_
    refine JH.pure rfl (yl_assign rfl) rfl ?_
    refine JH.pure rfl (yl_assign rfl) rfl ?_
    refine JH.nil ?_
    refine JE.weak (env' := [(2, .int .i64 q2), (3, .int .i64 q3), (4, ptrAt (some ⟨g1, 0, none⟩) 0), (5, ptrAt (some ⟨g3, 0, none⟩) 0), (10, .slice a13 x12.1.length cp14), (11, .int .i64 x12.2), (12, ptrAt (some ⟨g20, 0, none⟩) 0), (13, .slice a25 x24.1.length cp26), (14, .int .i64 x24.2)]) (es' := [boxO 70 g1 [.int .i64 q0.W, .int .i64 q0.H, .slice a_0_2 q0.Breaks.length c_0_2], boxO 24 g3 [.int .i64 q1.X, .int .i64 q1.Y], rowT 30 eSPoint a13 x12.1.length cp14 x12.1, boxO 73 g20 [.int .i64 x16.W, .int .i64 x16.H, .slice a17 x16.Breaks.length cp18], rowT 2 eI64 a17 x16.Breaks.length cp18 x16.Breaks, rowT 30 eSPoint a25 x24.1.length cp26 x24.1]) [0, 1, 2, 3, 4, 5] ?_ ⟨rfl, rfl, rfl, rfl, rfl, rfl, rfl, rfl, rfl, trivial⟩ (by decide) rfl
    refine JE.code ?_
    refine JX.seq ?_
    refine JX.seq ?_
    refine JX.region ?_
    refine JL.val (yl_move rfl) rfl ?_
    refine JL.val (yl_move rfl) rfl ?_
    obtain ⟨x28, hx28, hres⟩ := bind_some hres
    refine JL.eff (ef_call (T := T20 x28) Go.Proofs.Try.func20 rfl (by kernel_rfl) rfl (fun w hC => c20 (rd_row hC 5 rfl) rfl (ln_row hC 5 rfl) (rd_row hC 2 rfl) rfl (ln_row hC 2 rfl) hx28)) rfl ?_
    rintro _ _ ⟨_, ⟨rfl, rfl⟩, rfl⟩
    refine JL.val (yl_not rfl) rfl ?_
    refine JL.val (yl_move rfl) rfl ?_
    refine JL.cut (K := fun J => J [(2, .int .i64 q2), (3, .int .i64 q3), (4, ptrAt (some ⟨g1, 0, none⟩) 0), (5, ptrAt (some ⟨g3, 0, none⟩) 0), (10, .slice a13 x12.1.length cp14), (11, .int .i64 x12.2), (12, ptrAt (some ⟨g20, 0, none⟩) 0), (13, .slice a25 x24.1.length cp26), (14, .int .i64 x24.2), (54, .bool (!x28 || (x24.2 != x12.2)))] [boxO 70 g1 [.int .i64 q0.W, .int .i64 q0.H, .slice a_0_2 q0.Breaks.length c_0_2], boxO 24 g3 [.int .i64 q1.X, .int .i64 q1.Y], rowT 30 eSPoint a13 x12.1.length cp14 x12.1, boxO 73 g20 [.int .i64 x16.W, .int .i64 x16.H, .slice a17 x16.Breaks.length cp18], rowT 2 eI64 a17 x16.Breaks.length cp18 x16.Breaks, rowT 30 eSPoint a25 x24.1.length cp26 x24.1]) 4 ?_ ?_
    · refine JL.nil ?_
      refine JE.weak (env' := [(2, .int .i64 q2), (3, .int .i64 q3), (4, ptrAt (some ⟨g1, 0, none⟩) 0), (5, ptrAt (some ⟨g3, 0, none⟩) 0), (10, .slice a13 x12.1.length cp14), (11, .int .i64 x12.2), (12, ptrAt (some ⟨g20, 0, none⟩) 0), (13, .slice a25 x24.1.length cp26), (14, .int .i64 x24.2), (54, .bool (!x28 || (x24.2 != x12.2)))]) (es' := [boxO 70 g1 [.int .i64 q0.W, .int .i64 q0.H, .slice a_0_2 q0.Breaks.length c_0_2], boxO 24 g3 [.int .i64 q1.X, .int .i64 q1.Y], rowT 30 eSPoint a13 x12.1.length cp14 x12.1, boxO 73 g20 [.int .i64 x16.W, .int .i64 x16.H, .slice a17 x16.Breaks.length cp18], rowT 2 eI64 a17 x16.Breaks.length cp18 x16.Breaks, rowT 30 eSPoint a25 x24.1.length cp26 x24.1]) [0, 1, 2, 3, 4, 5] ?_ ⟨rfl, rfl, rfl, rfl, rfl, rfl, rfl, rfl, rfl, rfl, trivial⟩ (by decide) rfl
      refine JE.code ?_
      rcases cond_some hres with ⟨hb, hres⟩ | ⟨hb, hres⟩
      · refine JX.condT rfl hb ?_
        refine JX.seq ?_
        refine JX.region ?_
        refine JL.val (yl_assign rfl) rfl ?_
        refine JL.nil ?_
        refine JE.weak (env' := [(8, .bool false)]) (es' := []) [] ?_ ⟨rfl, trivial⟩ (by decide) rfl
        refine JE.code ?_
        refine JX.ret ?_
        obtain rfl := Option.some.inj hres
        refine JE.ret (rs := [.tmp 8]) (vs := [.bool false]) rfl ⟨rfl, trivial⟩ ?_
        exact fun w' hb hs => ⟨_, _, ⟨rfl, rfl⟩, rfl, hb, hs.sel [] _ (by decide) rfl⟩
      · refine JX.condF rfl hb ?_
        refine JX.skip ?_
        refine JE.code ?_
        refine JX.seq ?_
        refine JX.seq ?_
        refine JX.drawH [(0, .read), (1, .read), (2, .must), (3, .must), (4, .pure)] [] [] [0, 1, 2, 3, 4, 5] [] [boxO 70 g1 [.int .i64 q0.W, .int .i64 q0.H, .slice a_0_2 q0.Breaks.length c_0_2], boxO 24 g3 [.int .i64 q1.X, .int .i64 q1.Y], rowT 30 eSPoint a13 x12.1.length cp14 x12.1, boxO 73 g20 [.int .i64 x16.W, .int .i64 x16.H, .slice a17 x16.Breaks.length cp18], rowT 2 eI64 a17 x16.Breaks.length cp18 x16.Breaks, rowT 30 eSPoint a25 x24.1.length cp26 x24.1] mixedP rfl (by kernel_rfl) (by decide) rfl rfl ?_
        intro wrr29 Nr29 hFr29
        refine JH.read rfl (yl_loadn Go.Proofs.Try.underlying73 rfl i73 rfl (fun w hw => hFr29.box 3 rfl rfl hw) rfl (i73s).symm i73p) rfl ?_
        refine JH.read rfl (yl_loadn Go.Proofs.Try.underlying70 rfl i70 rfl (fun w hw => hFr29.box 0 rfl rfl hw) rfl (i70s).symm i70p) rfl ?_
        obtain ⟨x30, hx30, hres⟩ := bind_some hres
        refine JH.must rfl (ef_call (vs := [.agg #[.int .i64 q0.W, .int .i64 q0.H, .slice a_0_2 q0.Breaks.length c_0_2]]) (T := T58 x30) Go.Proofs.Try.func58 rfl (by kernel_rfl) rfl (fun w hC => c58 (q0 := q0) (hFr29.arg g_0_2 hC.1) rfl k_0_2 hx30)) rfl rfl ?_
        rintro _ _ ⟨_, ⟨a31, _, cp32, rfl, rfl, rfl⟩, rfl⟩
        obtain ⟨x34, hx34, hres⟩ := bind_some hres
        refine JH.must rfl (ef_call (vs := [.agg #[.int .i64 x16.W, .int .i64 x16.H, .slice a17 x16.Breaks.length cp18], .agg #[.int .i64 x30.W, .int .i64 x30.H, .slice a31 x30.Breaks.length cp32]]) (T := T60 x34) Go.Proofs.Try.func60 rfl (by kernel_rfl) rfl (fun w hC => c60 (q0 := x16) (q1 := x30) (hFr29.row 4 rfl rfl hC.1) rfl (ln_row hFr29.cl 4 rfl) (rd_row hC 0 rfl) rfl (ln_row hC 0 rfl) hx34)) rfl rfl ?_
        rintro _ _ ⟨_, ⟨rfl, rfl⟩, rfl⟩
        refine JH.pure rfl (yl_not rfl) rfl ?_
        refine JH.nil ?_
        refine JE.weak (env' := [(2, .int .i64 q2), (3, .int .i64 q3), (4, ptrAt (some ⟨g1, 0, none⟩) 0), (5, ptrAt (some ⟨g3, 0, none⟩) 0), (10, .slice a13 x12.1.length cp14), (11, .int .i64 x12.2), (12, ptrAt (some ⟨g20, 0, none⟩) 0), (13, .slice a25 x24.1.length cp26), (14, .int .i64 x24.2), (59, .bool !x34)]) (es' := [boxO 70 g1 [.int .i64 q0.W, .int .i64 q0.H, .slice a_0_2 q0.Breaks.length c_0_2], boxO 24 g3 [.int .i64 q1.X, .int .i64 q1.Y], rowT 30 eSPoint a13 x12.1.length cp14 x12.1, boxO 73 g20 [.int .i64 x16.W, .int .i64 x16.H, .slice a17 x16.Breaks.length cp18], rowT 2 eI64 a17 x16.Breaks.length cp18 x16.Breaks, rowT 30 eSPoint a25 x24.1.length cp26 x24.1]) [0, 1, 2, 3, 4, 5] ?_ ⟨rfl, rfl, rfl, rfl, rfl, rfl, rfl, rfl, rfl, rfl, trivial⟩ (by decide) rfl
        refine JE.code ?_
        rcases cond_some hres with ⟨hb, hres⟩ | ⟨hb, hres⟩
        · refine JX.condT rfl hb ?_
          refine JX.seq ?_
          refine JX.region ?_
          refine JL.val (yl_assign rfl) rfl ?_
          refine JL.nil ?_
          refine JE.weak (env' := [(8, .bool false)]) (es' := []) [] ?_ ⟨rfl, trivial⟩ (by decide) rfl
          refine JE.code ?_
          refine JX.ret ?_
          obtain rfl := Option.some.inj hres
          refine JE.ret (rs := [.tmp 8]) (vs := [.bool false]) rfl ⟨rfl, trivial⟩ ?_
          exact fun w' hb hs => ⟨_, _, ⟨rfl, rfl⟩, rfl, hb, hs.sel [] _ (by decide) rfl⟩
        · refine JX.condF rfl hb ?_
          refine JX.skip ?_
          refine JE.code ?_
          refine JX.seq ?_
          refine JX.region ?_
          refine JL.val (yl_assign rfl) rfl ?_
          refine JL.nil ?_
          refine JE.code ?_
          refine JX.seq ?_
          refine JX.region ?_
          refine JL.val (yl_loadn Go.Proofs.Try.underlying73 rfl i73 rfl (fun w hC => rd_box hC 3 rfl) rfl (i73s).symm i73p) rfl ?_
          refine JL.val (yl_move rfl) rfl ?_
          obtain ⟨x35, hx35, hres⟩ := bind_some hres
          refine JL.eff (ef_callms (caps := []) (vs := [.agg #[.int .i64 x16.W, .int .i64 x16.H, .slice a17 x16.Breaks.length cp18], .int .i64 1]) (T := T63 a17 x16.Breaks.length cp18 x35) [4] [0, 1, 2, 3, 5] [rowT 2 eI64 a17 x16.Breaks.length cp18 x16.Breaks] [boxO 70 g1 [.int .i64 q0.W, .int .i64 q0.H, .slice a_0_2 q0.Breaks.length c_0_2], boxO 24 g3 [.int .i64 q1.X, .int .i64 q1.Y], rowT 30 eSPoint a13 x12.1.length cp14 x12.1, boxO 73 g20 [.int .i64 x16.W, .int .i64 x16.H, .slice a17 x16.Breaks.length cp18], rowT 30 eSPoint a25 x24.1.length cp26 x24.1] rfl Go.Proofs.Try.func63 rfl (by kernel_rfl) rfl (by decide) rfl rfl (fun w N hF hS => c63 (q0 := x16) rfl hS hx35)) rfl ?_
          rintro _ _ ⟨_, _, ⟨l36, rfl, rfl, rfl⟩, rfl⟩
          refine JL.val (yl_assign rfl) rfl ?_
          refine JL.nil ?_
          refine JE.weak (env' := [(2, .int .i64 q2), (3, .int .i64 q3), (4, ptrAt (some ⟨g1, 0, none⟩) 0), (5, ptrAt (some ⟨g3, 0, none⟩) 0), (10, .slice a13 x12.1.length cp14), (11, .int .i64 x12.2), (13, .slice a25 x24.1.length cp26), (14, .int .i64 x24.2), (15, .int .i64 x35.1)]) (es' := [boxO 70 g1 [.int .i64 q0.W, .int .i64 q0.H, .slice a_0_2 q0.Breaks.length c_0_2], boxO 24 g3 [.int .i64 q1.X, .int .i64 q1.Y], rowT 30 eSPoint a13 x12.1.length cp14 x12.1, rowT 30 eSPoint a25 x24.1.length cp26 x24.1]) [0, 1, 2, 4] ?_ ⟨rfl, rfl, rfl, rfl, rfl, rfl, rfl, rfl, rfl, trivial⟩ (by decide) rfl
          refine JE.code ?_
          refine JX.seq ?_
          refine JX.seq ?_
          refine JX.region ?_
          refine JL.val (yl_move rfl) rfl ?_
          refine JL.val (yl_lss rfl rfl) rfl ?_
          refine JL.val (yl_move rfl) rfl ?_
          obtain ⟨c37, hc37, hres⟩ := bind_some hres
          refine JL.cut (K := fun J => J [(2, .int .i64 q2), (3, .int .i64 q3), (4, ptrAt (some ⟨g1, 0, none⟩) 0), (5, ptrAt (some ⟨g3, 0, none⟩) 0), (10, .slice a13 x12.1.length cp14), (11, .int .i64 x12.2), (13, .slice a25 x24.1.length cp26), (14, .int .i64 x24.2), (70, .bool c37)] [boxO 70 g1 [.int .i64 q0.W, .int .i64 q0.H, .slice a_0_2 q0.Breaks.length c_0_2], boxO 24 g3 [.int .i64 q1.X, .int .i64 q1.Y], rowT 30 eSPoint a13 x12.1.length cp14 x12.1, rowT 30 eSPoint a25 x24.1.length cp26 x24.1]) 5 ?_ ?_
          · refine JL.val (yl_move rfl) rfl ?_
            refine JL.cut (K := fun J => J [(2, .int .i64 q2), (3, .int .i64 q3), (4, ptrAt (some ⟨g1, 0, none⟩) 0), (5, ptrAt (some ⟨g3, 0, none⟩) 0), (10, .slice a13 x12.1.length cp14), (11, .int .i64 x12.2), (13, .slice a25 x24.1.length cp26), (75, .bool (c37 || (x24.2 != x12.2)))] [boxO 70 g1 [.int .i64 q0.W, .int .i64 q0.H, .slice a_0_2 q0.Breaks.length c_0_2], boxO 24 g3 [.int .i64 q1.X, .int .i64 q1.Y], rowT 30 eSPoint a13 x12.1.length cp14 x12.1, rowT 30 eSPoint a25 x24.1.length cp26 x24.1]) 4 ?_ ?_
            · refine JL.nil ?_
              refine JE.weak (env' := [(2, .int .i64 q2), (3, .int .i64 q3), (4, ptrAt (some ⟨g1, 0, none⟩) 0), (5, ptrAt (some ⟨g3, 0, none⟩) 0), (10, .slice a13 x12.1.length cp14), (11, .int .i64 x12.2), (13, .slice a25 x24.1.length cp26), (75, .bool (c37 || (x24.2 != x12.2)))]) (es' := [boxO 70 g1 [.int .i64 q0.W, .int .i64 q0.H, .slice a_0_2 q0.Breaks.length c_0_2], boxO 24 g3 [.int .i64 q1.X, .int .i64 q1.Y], rowT 30 eSPoint a13 x12.1.length cp14 x12.1, rowT 30 eSPoint a25 x24.1.length cp26 x24.1]) [0, 1, 2, 3] ?_ ⟨rfl, rfl, rfl, rfl, rfl, rfl, rfl, rfl, trivial⟩ (by decide) rfl
              refine JE.code ?_
              rcases cond_some hres with ⟨hb, hres⟩ | ⟨hb, hres⟩
              · refine JX.condT rfl hb ?_
                refine JX.seq ?_
                refine JX.region ?_
                refine JL.val (yl_assign rfl) rfl ?_
                refine JL.nil ?_
                refine JE.weak (env' := [(8, .bool false)]) (es' := []) [] ?_ ⟨rfl, trivial⟩ (by decide) rfl
                refine JE.code ?_
                refine JX.ret ?_
                obtain rfl := Option.some.inj hres
                refine JE.ret (rs := [.tmp 8]) (vs := [.bool false]) rfl ⟨rfl, trivial⟩ ?_
                exact fun w' hb hs => ⟨_, _, ⟨rfl, rfl⟩, rfl, hb, hs.sel [] _ (by decide) rfl⟩
              · refine JX.condF rfl hb ?_
                refine JX.skip ?_
                refine JE.code ?_
                refine JX.seq ?_
                refine JX.region ?_
                refine JL.val (yl_assign rfl) rfl ?_
                refine JL.nil ?_
                refine JE.code ?_
                refine JX.seq ?_
                refine JX.region ?_
                refine JL.val (yl_move rfl) rfl ?_
                refine JL.val (yl_move rfl) rfl ?_
                obtain ⟨x39, hx39, hres⟩ := bind_some hres
                refine JL.eff (ef_callm (T := T21 a25 x24.1.length cp26 x39) 3 Go.Proofs.Try.func21 rfl (by kernel_rfl) rfl rfl (fun w fp hs => c21 hs rfl hx39)) rfl ?_
                rintro _ _ ⟨_, _, ⟨l40, rfl, rfl, rfl⟩, rfl⟩
                refine JL.val (yl_assign rfl) rfl ?_
                refine JL.nil ?_
                refine JE.weak (env' := [(2, .int .i64 q2), (3, .int .i64 q3), (4, ptrAt (some ⟨g1, 0, none⟩) 0), (5, ptrAt (some ⟨g3, 0, none⟩) 0), (10, .slice a13 x12.1.length cp14), (11, .int .i64 x12.2), (13, .slice a25 x24.1.length cp26), (16, .int .i64 x39.1)]) (es' := [boxO 70 g1 [.int .i64 q0.W, .int .i64 q0.H, .slice a_0_2 q0.Breaks.length c_0_2], boxO 24 g3 [.int .i64 q1.X, .int .i64 q1.Y], rowT 30 eSPoint a13 x12.1.length cp14 x12.1, rowT 30 eSPoint a25 x24.1.length cp26 x39.2]) [0, 1, 2, 3] ?_ ⟨rfl, rfl, rfl, rfl, rfl, rfl, rfl, rfl, trivial⟩ (by decide) rfl
                refine JE.code ?_
                refine JX.seq ?_
                refine JX.region ?_
                refine JL.val (yl_assign rfl) rfl ?_
                refine JL.nil ?_
                refine JE.code ?_
                refine JX.seq ?_
                refine JX.region ?_
                refine JL.val (yl_move rfl) rfl ?_
                refine JL.val (yl_move rfl) rfl ?_
                obtain ⟨x41, hx41, hres⟩ := bind_some hres
                refine JL.eff (ef_call (T := T22 x41) Go.Proofs.Try.func22 rfl (by kernel_rfl) rfl (fun w hC => c22 (rd_row hC 3 rfl) l40 (ln_row hC 3 rfl) hx41)) rfl ?_
                rintro _ _ ⟨_, ⟨rfl, rfl⟩, rfl⟩
                refine JL.val (yl_assign rfl) rfl ?_
                refine JL.nil ?_
                refine JE.weak (env' := [(2, .int .i64 q2), (3, .int .i64 q3), (4, ptrAt (some ⟨g1, 0, none⟩) 0), (5, ptrAt (some ⟨g3, 0, none⟩) 0), (10, .slice a13 x12.1.length cp14), (11, .int .i64 x12.2), (13, .slice a25 x24.1.length cp26), (16, .int .i64 x39.1), (17, .int .i64 x41)]) (es' := [boxO 70 g1 [.int .i64 q0.W, .int .i64 q0.H, .slice a_0_2 q0.Breaks.length c_0_2], boxO 24 g3 [.int .i64 q1.X, .int .i64 q1.Y], rowT 30 eSPoint a13 x12.1.length cp14 x12.1, rowT 30 eSPoint a25 x24.1.length cp26 x39.2]) [0, 1, 2, 3] ?_ ⟨rfl, rfl, rfl, rfl, rfl, rfl, rfl, rfl, rfl, trivial⟩ (by decide) rfl
                refine JE.code ?_
                refine JX.seq ?_
                refine JX.seq ?_
                refine JX.region ?_
                refine JL.val (yl_move rfl) rfl ?_
                refine JL.val (yl_lss rfl rfl) rfl ?_
                refine JL.nil ?_
                refine JE.code ?_
                rcases cond_some hres with ⟨hb, hres⟩ | ⟨hb, hres⟩
                · refine JX.condT rfl hb ?_
                  refine JX.seq ?_
                  refine JX.region ?_
                  refine JL.val (yl_assign rfl) rfl ?_
                  refine JL.nil ?_
                  refine JE.weak (env' := [(8, .bool false)]) (es' := []) [] ?_ ⟨rfl, trivial⟩ (by decide) rfl
                  refine JE.code ?_
                  refine JX.ret ?_
                  obtain rfl := Option.some.inj hres
                  refine JE.ret (rs := [.tmp 8]) (vs := [.bool false]) rfl ⟨rfl, trivial⟩ ?_
                  exact fun w' hb hs => ⟨_, _, ⟨rfl, rfl⟩, rfl, hb, hs.sel [] _ (by decide) rfl⟩
                · refine JX.condF rfl hb ?_
                  refine JX.skip ?_
                  refine JE.code ?_
                  refine JX.seq ?_
                  refine JX.seq ?_
                  refine JX.region ?_
                  refine JL.val (yl_move rfl) rfl ?_
                  refine JL.val (yl_move rfl) rfl ?_
                  refine JL.val (yl_neq rfl rfl) rfl ?_
                  refine JL.nil ?_
                  refine JE.code ?_
                  rcases cond_some hres with ⟨hb, hres⟩ | ⟨hb, hres⟩
                  · refine JX.condT rfl hb ?_
                    refine JX.seq ?_
                    refine JX.region ?_
                    refine JL.val (yl_assign rfl) rfl ?_
                    refine JL.nil ?_
                    refine JE.weak (env' := [(8, .bool false)]) (es' := []) [] ?_ ⟨rfl, trivial⟩ (by decide) rfl
                    refine JE.code ?_
                    refine JX.ret ?_
                    obtain rfl := Option.some.inj hres
                    refine JE.ret (rs := [.tmp 8]) (vs := [.bool false]) rfl ⟨rfl, trivial⟩ ?_
                    exact fun w' hb hs => ⟨_, _, ⟨rfl, rfl⟩, rfl, hb, hs.sel [] _ (by decide) rfl⟩
                  · refine JX.condF rfl hb ?_
                    refine JX.skip ?_
                    refine JE.code ?_
                    refine JX.seq ?_
                    refine JX.drawH [(0, .read), (2, .read), (4, .pure), (5, .pure), (1, .must), (3, .must), (6, .must), (7, .pure), (8, .pure), (9, .pure), (10, .pure), (11, .pure)] [] [] [0, 1, 2, 3] [] [boxO 70 g1 [.int .i64 q0.W, .int .i64 q0.H, .slice a_0_2 q0.Breaks.length c_0_2], boxO 24 g3 [.int .i64 q1.X, .int .i64 q1.Y], rowT 30 eSPoint a13 x12.1.length cp14 x12.1, rowT 30 eSPoint a25 x24.1.length cp26 x39.2] mixedP rfl (by kernel_rfl) (by decide) rfl rfl ?_
                    intro wrr42 Nr42 hFr42
                    refine JH.read rfl (yl_loadn Go.Proofs.Try.underlying70 rfl i70 rfl (fun w hw => hFr42.box 0 rfl rfl hw) rfl (i70s).symm i70p) rfl ?_
                    refine JH.read rfl (yl_loadn Go.Proofs.Try.underlying24 rfl i24 rfl (fun w hw => hFr42.box 1 rfl rfl hw) rfl (i24s).symm i24p) rfl ?_
                    refine JH.pure rfl (yl_move rfl) rfl ?_
                    refine JH.pure rfl (yl_move rfl) rfl ?_
                    obtain ⟨x43, hx43, hres⟩ := bind_some hres
                    refine JH.must rfl (ef_call (vs := [.agg #[.int .i64 q0.W, .int .i64 q0.H, .slice a_0_2 q0.Breaks.length c_0_2]]) (T := T58 x43) Go.Proofs.Try.func58 rfl (by kernel_rfl) rfl (fun w hC => c58 (q0 := q0) (hFr42.arg g_0_2 hC.1) rfl k_0_2 hx43)) rfl rfl ?_
                    rintro _ _ ⟨_, ⟨a44, _, cp45, rfl, rfl, rfl⟩, rfl⟩
                    obtain ⟨x47, hx47, hres⟩ := bind_some hres
                    refine JH.must rfl (ef_call (vs := [.agg #[.int .i64 q1.X, .int .i64 q1.Y]]) (T := T18 x47) Go.Proofs.Try.func18 rfl (by kernel_rfl) rfl (fun w hC => c18 (q0 := q1) hx47)) rfl rfl ?_
                    rintro _ _ ⟨_, ⟨rfl, rfl⟩, rfl⟩
                    obtain ⟨x48, hx48, hres⟩ := bind_some hres
                    refine JH.must rfl (ef_call (vs := [.agg #[.int .i64 x43.W, .int .i64 x43.H, .slice a44 x43.Breaks.length cp45], .agg #[.int .i64 x47.X, .int .i64 x47.Y], .int .i64 q2, .int .i64 q3]) (T := T62 x48) Go.Proofs.Try.func62 rfl (by kernel_rfl) rfl (fun w hC => c62 (q0 := x43) (q1 := x47) (rd_row hC 0 rfl) rfl (ln_row hC 0 rfl) hx48)) rfl rfl ?_
                    rintro _ _ ⟨_, ⟨a49, _, cp50, rfl, rfl, rfl⟩, rfl⟩
                    refine JH.pure rfl (yl_move rfl) rfl ?_
                    refine JH.pure rfl (yl_extract rfl rfl) rfl ?_
                    refine JH.pure rfl (yl_extract rfl rfl) rfl ?_
                    refine JH.pure rfl (yl_assign rfl) rfl ?_
                    refine JH.pure rfl (yl_assign rfl) rfl ?_
                    refine JH.nil ?_
                    refine JE.weak (env' := [(10, .slice a13 x12.1.length cp14), (11, .int .i64 x12.2), (13, .slice a25 x24.1.length cp26), (16, .int .i64 x39.1), (18, .slice a49 x48.1.length cp50), (19, .int .i64 x48.2)]) (es' := [rowT 30 eSPoint a13 x12.1.length cp14 x12.1, rowT 30 eSPoint a25 x24.1.length cp26 x39.2, rowT 30 eSPoint a49 x48.1.length cp50 x48.1]) [2, 3, 5] ?_ ⟨rfl, rfl, rfl, rfl, rfl, rfl, trivial⟩ (by decide) rfl
                    refine JE.code ?_
                    refine JX.seq ?_
                    refine JX.seq ?_
                    refine JX.region ?_
                    refine JL.val (yl_move rfl) rfl ?_
                    refine JL.val (yl_move rfl) rfl ?_
                    obtain ⟨x52, hx52, hres⟩ := bind_some hres
                    refine JL.eff (ef_call (T := T20 x52) Go.Proofs.Try.func20 rfl (by kernel_rfl) rfl (fun w hC => c20 (rd_row hC 2 rfl) rfl (ln_row hC 2 rfl) (rd_row hC 0 rfl) rfl (ln_row hC 0 rfl) hx52)) rfl ?_
                    rintro _ _ ⟨_, ⟨rfl, rfl⟩, rfl⟩
                    refine JL.val (yl_not rfl) rfl ?_
                    refine JL.val (yl_move rfl) rfl ?_
                    refine JL.cut (K := fun J => J [(13, .slice a25 x24.1.length cp26), (16, .int .i64 x39.1), (105, .bool (!x52 || (x48.2 != x12.2)))] [rowT 30 eSPoint a25 x24.1.length cp26 x39.2]) 4 ?_ ?_
                    · refine JL.nil ?_
                      refine JE.weak (env' := [(13, .slice a25 x24.1.length cp26), (16, .int .i64 x39.1), (105, .bool (!x52 || (x48.2 != x12.2)))]) (es' := [rowT 30 eSPoint a25 x24.1.length cp26 x39.2]) [0] ?_ ⟨rfl, rfl, rfl, trivial⟩ (by decide) rfl
                      refine JE.code ?_
                      rcases cond_some hres with ⟨hb, hres⟩ | ⟨hb, hres⟩
                      · refine JX.condT rfl hb ?_
                        refine JX.seq ?_
                        refine JX.region ?_
                        refine JL.val (yl_assign rfl) rfl ?_
                        refine JL.nil ?_
                        refine JE.weak (env' := [(8, .bool false)]) (es' := []) [] ?_ ⟨rfl, trivial⟩ (by decide) rfl
                        refine JE.code ?_
                        refine JX.ret ?_
                        obtain rfl := Option.some.inj hres
                        refine JE.ret (rs := [.tmp 8]) (vs := [.bool false]) rfl ⟨rfl, trivial⟩ ?_
                        exact fun w' hb hs => ⟨_, _, ⟨rfl, rfl⟩, rfl, hb, hs.sel [] _ (by decide) rfl⟩
                      · refine JX.condF rfl hb ?_
                        refine JX.skip ?_
                        refine JE.code ?_
                        refine JX.seq ?_
                        refine JX.region ?_
                        refine JL.val (yl_assign rfl) rfl ?_
                        refine JL.nil ?_
                        refine JE.code ?_
                        refine JX.seq ?_
                        refine JX.region ?_
                        refine JL.val (yl_move rfl) rfl ?_
                        refine JL.val (yl_move rfl) rfl ?_
                        obtain ⟨x53, hx53, hres⟩ := bind_some hres
                        refine JL.eff (ef_call (T := T22 x53) Go.Proofs.Try.func22 rfl (by kernel_rfl) rfl (fun w hC => c22 (rd_row hC 0 rfl) l40 (ln_row hC 0 rfl) hx53)) rfl ?_
                        rintro _ _ ⟨_, ⟨rfl, rfl⟩, rfl⟩
                        refine JL.val (yl_assign rfl) rfl ?_
                        refine JL.nil ?_
                        refine JE.weak (env' := [(16, .int .i64 x39.1), (17, .int .i64 x53)]) (es' := []) [] ?_ ⟨rfl, rfl, trivial⟩ (by decide) rfl
                        refine JE.code ?_
                        refine JX.seq ?_
                        refine JX.seq ?_
                        refine JX.region ?_
                        refine JL.val (yl_move rfl) rfl ?_
                        refine JL.val (yl_lss rfl rfl) rfl ?_
                        refine JL.nil ?_
                        refine JE.code ?_
                        rcases cond_some hres with ⟨hb, hres⟩ | ⟨hb, hres⟩
                        · refine JX.condT rfl hb ?_
                          refine JX.seq ?_
                          refine JX.region ?_
                          refine JL.val (yl_assign rfl) rfl ?_
                          refine JL.nil ?_
                          refine JE.code ?_
                          refine JX.ret ?_
                          obtain rfl := Option.some.inj hres
                          refine JE.ret (rs := [.tmp 8]) (vs := [.bool false]) rfl ⟨rfl, trivial⟩ ?_
                          exact fun w' hb hs => ⟨_, _, ⟨rfl, rfl⟩, rfl, hb, hs.sel [] _ (by decide) rfl⟩
                        · refine JX.condF rfl hb ?_
                          refine JX.skip ?_
                          refine JE.code ?_
                          refine JX.seq ?_
                          refine JX.seq ?_
                          refine JX.region ?_
                          refine JL.val (yl_move rfl) rfl ?_
                          refine JL.val (yl_move rfl) rfl ?_
                          refine JL.val (yl_neq rfl rfl) rfl ?_
                          refine JL.nil ?_
                          refine JE.code ?_
                          rcases cond_some hres with ⟨hb, hres⟩ | ⟨hb, hres⟩
                          · refine JX.condT rfl hb ?_
                            refine JX.seq ?_
                            refine JX.region ?_
                            refine JL.val (yl_assign rfl) rfl ?_
                            refine JL.nil ?_
                            refine JE.code ?_
                            refine JX.ret ?_
                            obtain rfl := Option.some.inj hres
                            refine JE.ret (rs := [.tmp 8]) (vs := [.bool false]) rfl ⟨rfl, trivial⟩ ?_
                            exact fun w' hb hs => ⟨_, _, ⟨rfl, rfl⟩, rfl, hb, hs.sel [] _ (by decide) rfl⟩
                          · refine JX.condF rfl hb ?_
                            refine JX.skip ?_
                            refine JE.code ?_
                            refine JX.seq ?_
                            refine JX.region ?_
                            refine JL.val (yl_assign rfl) rfl ?_
                            refine JL.nil ?_
                            refine JE.code ?_
                            refine JX.ret ?_
                            obtain rfl := Option.some.inj hres
                            refine JE.ret (rs := [.tmp 8]) (vs := [.bool true]) rfl ⟨rfl, trivial⟩ ?_
                            exact fun w' hb hs => ⟨_, _, ⟨rfl, rfl⟩, rfl, hb, hs.sel [] _ (by decide) rfl⟩
                    · intro K
                      rcases Bool.eq_false_or_eq_true (!x52) with hb | hb
                      · refine JL.set (d := 101) (v := .bool true) (congrArg (fun b => some (Value.bool b)) hb) ?_
                        refine JL.gskip rfl rfl rfl rfl ?_
                        refine JL.gskip rfl rfl rfl rfl ?_
                        refine JL.gskip rfl rfl rfl rfl ?_
                        refine JL.val (yl_pick_true rfl rfl) rfl ?_
                        exact JL.weak [1] K ⟨rfl, rfl, (by rw [hb]; rfl), trivial⟩ (by decide) rfl
                      · refine JL.set (d := 101) (v := .bool false) (congrArg (fun b => some (Value.bool b)) hb) ?_
                        refine JL.gval rfl rfl (yl_move rfl) rfl ?_
                        refine JL.gval rfl rfl (yl_move rfl) rfl ?_
                        refine JL.gval rfl rfl (yl_neq rfl rfl) rfl ?_
                        refine JL.val (yl_pick_false rfl rfl) rfl ?_
                        exact JL.weak [1] K ⟨rfl, rfl, (by rw [hb]; rfl), trivial⟩ (by decide) rfl
            · intro K
              rcases Bool.eq_false_or_eq_true (c37) with hb | hb
              · refine JL.set (d := 71) (v := .bool true) (congrArg (fun b => some (Value.bool b)) hb) ?_
                refine JL.gskip rfl rfl rfl rfl ?_
                refine JL.gskip rfl rfl rfl rfl ?_
                refine JL.gskip rfl rfl rfl rfl ?_
                refine JL.val (yl_pick_true rfl rfl) rfl ?_
                exact JL.weak [0, 1, 2, 3] K ⟨rfl, rfl, rfl, rfl, rfl, rfl, rfl, (by rw [hb]; rfl), trivial⟩ (by decide) rfl
              · refine JL.set (d := 71) (v := .bool false) (congrArg (fun b => some (Value.bool b)) hb) ?_
                refine JL.gval rfl rfl (yl_move rfl) rfl ?_
                refine JL.gval rfl rfl (yl_move rfl) rfl ?_
                refine JL.gval rfl rfl (yl_neq rfl rfl) rfl ?_
                refine JL.val (yl_pick_false rfl rfl) rfl ?_
                exact JL.weak [0, 1, 2, 3] K ⟨rfl, rfl, rfl, rfl, rfl, rfl, rfl, (by rw [hb]; rfl), trivial⟩ (by decide) rfl
          · intro K
            rcases cond_some hc37 with ⟨hb, hres⟩ | ⟨hb, hres⟩
            · refine JL.set (d := 65) (v := .bool true) (congrArg (fun b => some (Value.bool b)) hb) ?_
              refine JL.gskip rfl rfl rfl rfl ?_
              refine JL.gskip rfl rfl rfl rfl ?_
              refine JL.gskip rfl rfl rfl rfl ?_
              refine JL.gskip rfl rfl rfl rfl ?_
              refine JL.val (yl_pick_true rfl rfl) rfl ?_
              have he := Option.some.inj hres
              exact JL.weak [0, 1, 2, 3] K ⟨rfl, rfl, rfl, rfl, rfl, rfl, rfl, rfl, (by rw [← he]; rfl), trivial⟩ (by decide) rfl
            · refine JL.set (d := 65) (v := .bool false) (congrArg (fun b => some (Value.bool b)) hb) ?_
              refine JL.gval rfl rfl (yl_move rfl) rfl ?_
              refine JL.gval rfl rfl (yl_move rfl) rfl ?_
              obtain ⟨x38, hx38, hres⟩ := bind_some hres
              refine JL.geff rfl rfl (ef_call (T := T20 x38) Go.Proofs.Try.func20 rfl (by kernel_rfl) rfl (fun w hC => c20 (rd_row hC 3 rfl) rfl (ln_row hC 3 rfl) (rd_row hC 2 rfl) rfl (ln_row hC 2 rfl) hx38)) rfl ?_
              rintro _ _ ⟨_, ⟨rfl, rfl⟩, rfl⟩
              refine JL.gval rfl rfl (yl_not rfl) rfl ?_
              refine JL.val (yl_pick_false rfl rfl) rfl ?_
              have he := Option.some.inj hres
              exact JL.weak [0, 1, 2, 3] K ⟨rfl, rfl, rfl, rfl, rfl, rfl, rfl, rfl, (by rw [← he]; rfl), trivial⟩ (by decide) rfl
    · intro K
      rcases Bool.eq_false_or_eq_true (!x28) with hb | hb
      · refine JL.set (d := 50) (v := .bool true) (congrArg (fun b => some (Value.bool b)) hb) ?_
        refine JL.gskip rfl rfl rfl rfl ?_
        refine JL.gskip rfl rfl rfl rfl ?_
        refine JL.gskip rfl rfl rfl rfl ?_
        refine JL.val (yl_pick_true rfl rfl) rfl ?_
        exact JL.weak [0, 1, 2, 3, 4, 5] K ⟨rfl, rfl, rfl, rfl, rfl, rfl, rfl, rfl, rfl, (by rw [hb]; rfl), trivial⟩ (by decide) rfl
      · refine JL.set (d := 50) (v := .bool false) (congrArg (fun b => some (Value.bool b)) hb) ?_
        refine JL.gval rfl rfl (yl_move rfl) rfl ?_
        refine JL.gval rfl rfl (yl_move rfl) rfl ?_
        refine JL.gval rfl rfl (yl_neq rfl rfl) rfl ?_
        refine JL.val (yl_pick_false rfl rfl) rfl ?_
        exact JL.weak [0, 1, 2, 3, 4, 5] K ⟨rfl, rfl, rfl, rfl, rfl, rfl, rfl, rfl, rfl, (by rw [hb]; rfl), trivial⟩ (by decide) rfl

end Go.Sh
