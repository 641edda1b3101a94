/- Walks through functions that the law reaches, printed by program. -/
import Derived.Test.YthcoacomnljikaaF13W0
set_option linter.unusedVariables false
set_option linter.unusedSimpArgs false
namespace Go.Sh
open Go Go.RowKit
/- laws.eqPanel -/
def sh60 (q0 : SPanel) (q1 : SPanel) : Option (Bool) := bif q0.W != q1.W then (some false) else (bif q0.H != q1.H then (some false) else (Option.bind (sh27 q0.Breaks q1.Breaks) fun x5 => bif !x5 then (some false) else (some true)))
def T60 (r : Bool) (v : Value) (rs : List Own) : Prop := v = rets [.bool r] ∧ rs = []
set_option maxRecDepth 100000 in
theorem c60 {w : World} {q0 : SPanel} {a_0_2 : Option Addr} {n_0_2 c_0_2 : Nat} (g_0_2 : Rd w a_0_2 (eI64.fl q0.Breaks)) (l_0_2 : q0.Breaks.length = n_0_2) (k_0_2 : n_0_2 ≤ c_0_2) {q1 : SPanel} {a_1_2 : Option Addr} {n_1_2 c_1_2 : Nat} (g_1_2 : Rd w a_1_2 (eI64.fl q1.Breaks)) (l_1_2 : q1.Breaks.length = n_1_2) (k_1_2 : n_1_2 ≤ c_1_2) {r : Bool} (hres : sh60 q0 q1 = some r) : Calls Go.Proofs.Try.prog 60 [.agg #[.int .i64 q0.W, .int .i64 q0.H, .slice a_0_2 n_0_2 c_0_2], .agg #[.int .i64 q1.W, .int .i64 q1.H, .slice a_1_2 n_1_2 c_1_2]].toArray w (Ret w (T60 r)) := by
  subst l_0_2
  subst l_1_2
  unfold sh60 at hres
  refine calls_of (n := 21) (M := []) (es := []) Go.Proofs.Try.func60 rfl rfl rfl (Sep.nil _ _ _) ?_
  refine JX.seq ?_
  refine JX.region ?_
  refine JL.eff (ef_box rfl rfl) rfl ?_
  rintro _ _ ⟨g1, rfl, rfl⟩
  refine JL.eff (ef_box rfl rfl) rfl ?_
  rintro _ _ ⟨g3, rfl, rfl⟩
  refine JL.val (yl_assign rfl) rfl ?_
  refine JL.nil ?_
  refine JE.code ?_
  refine JX.seq ?_
  refine JX.seq ?_
  refine JX.region ?_
  refine JL.val (yl_fieldAt (a := some _) Go.Proofs.Try.underlying73 rfl i2 i2n rfl rfl) rfl ?_
  refine JL.val (yl_load1 Go.Proofs.Try.underlying2 rfl rfl (fun w hC => rd_box hC 0 rfl) rfl) rfl ?_
  refine JL.val (yl_fieldAt (a := some _) Go.Proofs.Try.underlying73 rfl i2 i2n rfl rfl) rfl ?_
  refine JL.val (yl_load1 Go.Proofs.Try.underlying2 rfl rfl (fun w hC => rd_box hC 1 rfl) rfl) rfl ?_
  refine JL.val (yl_neq rfl rfl) rfl ?_
  refine JL.nil ?_
  refine JE.weak (env' := [(2, ptrAt (some ⟨g1, 0, none⟩) 0), (3, ptrAt (some ⟨g3, 0, none⟩) 0), (9, .bool (q0.W != q1.W))]) (es' := [boxO 73 g1 [.int .i64 q0.W, .int .i64 q0.H, .slice a_0_2 q0.Breaks.length c_0_2], boxO 73 g3 [.int .i64 q1.W, .int .i64 q1.H, .slice a_1_2 q1.Breaks.length c_1_2]]) [0, 1] ?_ ⟨rfl, rfl, rfl, trivial⟩ (by decide) rfl
  refine JE.code ?_
  rcases cond_some hres with ⟨hb, hres⟩ | ⟨hb, hres⟩
  · refine JX.condT rfl hb ?_
    refine JX.seq ?_
    refine JX.region ?_
    refine JL.val (yl_assign rfl) rfl ?_
    refine JL.nil ?_
    refine JE.weak (env' := [(4, .bool false)]) (es' := []) [] ?_ ⟨rfl, trivial⟩ (by decide) rfl
    refine JE.code ?_
    refine JX.ret ?_
    obtain rfl := Option.some.inj hres
    refine JE.ret (rs := [.tmp 4]) (vs := [.bool false]) rfl ⟨rfl, trivial⟩ ?_
    exact fun w' hb hs => ⟨_, _, ⟨rfl, rfl⟩, rfl, hb, hs.sel [] _ (by decide) rfl⟩
  · refine JX.condF rfl hb ?_
    refine JX.skip ?_
    refine JE.code ?_
    refine JX.seq ?_
    refine JX.seq ?_
    refine JX.region ?_
    refine JL.val (yl_fieldAt (a := some _) Go.Proofs.Try.underlying73 rfl i2 i2n rfl rfl) rfl ?_
    refine JL.val (yl_load1 Go.Proofs.Try.underlying2 rfl rfl (fun w hC => rd_box hC 0 rfl) rfl) rfl ?_
    refine JL.val (yl_fieldAt (a := some _) Go.Proofs.Try.underlying73 rfl i2 i2n rfl rfl) rfl ?_
    refine JL.val (yl_load1 Go.Proofs.Try.underlying2 rfl rfl (fun w hC => rd_box hC 1 rfl) rfl) rfl ?_
    refine JL.val (yl_neq rfl rfl) rfl ?_
    refine JL.nil ?_
    refine JE.weak (env' := [(2, ptrAt (some ⟨g1, 0, none⟩) 0), (3, ptrAt (some ⟨g3, 0, none⟩) 0), (14, .bool (q0.H != q1.H))]) (es' := [boxO 73 g1 [.int .i64 q0.W, .int .i64 q0.H, .slice a_0_2 q0.Breaks.length c_0_2], boxO 73 g3 [.int .i64 q1.W, .int .i64 q1.H, .slice a_1_2 q1.Breaks.length c_1_2]]) [0, 1] ?_ ⟨rfl, rfl, rfl, trivial⟩ (by decide) rfl
    refine JE.code ?_
    rcases cond_some hres with ⟨hb, hres⟩ | ⟨hb, hres⟩
    · refine JX.condT rfl hb ?_
      refine JX.seq ?_
      refine JX.region ?_
      refine JL.val (yl_assign rfl) rfl ?_
      refine JL.nil ?_
      refine JE.weak (env' := [(4, .bool false)]) (es' := []) [] ?_ ⟨rfl, trivial⟩ (by decide) rfl
      refine JE.code ?_
      refine JX.ret ?_
      obtain rfl := Option.some.inj hres
      refine JE.ret (rs := [.tmp 4]) (vs := [.bool false]) rfl ⟨rfl, trivial⟩ ?_
      exact fun w' hb hs => ⟨_, _, ⟨rfl, rfl⟩, rfl, hb, hs.sel [] _ (by decide) rfl⟩
    · refine JX.condF rfl hb ?_
      refine JX.skip ?_
      refine JE.code ?_
      refine JX.seq ?_
      refine JX.seq ?_
      refine JX.region ?_
      refine JL.val (yl_fieldAt (a := some _) Go.Proofs.Try.underlying73 rfl i35 i35n rfl rfl) rfl ?_
      refine JL.val (yl_load1 Go.Proofs.Try.underlying35 rfl rfl (fun w hC => rd_box hC 0 rfl) rfl) rfl ?_
      refine JL.val (yl_fieldAt (a := some _) Go.Proofs.Try.underlying73 rfl i35 i35n rfl rfl) rfl ?_
      refine JL.val (yl_load1 Go.Proofs.Try.underlying35 rfl rfl (fun w hC => rd_box hC 1 rfl) rfl) rfl ?_
      obtain ⟨x5, hx5, hres⟩ := bind_some hres
      refine JL.eff (ef_call (T := T27 x5) Go.Proofs.Try.func27 rfl (by kernel_rfl) rfl (fun w hC => c27 (rd_arg g_0_2 hC) rfl k_0_2 (rd_arg g_1_2 hC) rfl k_1_2 hx5)) rfl ?_
      rintro _ _ ⟨_, ⟨rfl, rfl⟩, rfl⟩
      refine JL.val (yl_not rfl) rfl ?_
      refine JL.nil ?_
      refine JE.weak (env' := [(20, .bool !x5)]) (es' := []) [] ?_ ⟨rfl, trivial⟩ (by decide) rfl
      refine JE.code ?_
      rcases cond_some hres with ⟨hb, hres⟩ | ⟨hb, hres⟩
      · refine JX.condT rfl hb ?_
        refine JX.seq ?_
        refine JX.region ?_
        refine JL.val (yl_assign rfl) rfl ?_
        refine JL.nil ?_
        refine JE.code ?_
        refine JX.ret ?_
        obtain rfl := Option.some.inj hres
        refine JE.ret (rs := [.tmp 4]) (vs := [.bool false]) rfl ⟨rfl, trivial⟩ ?_
        exact fun w' hb hs => ⟨_, _, ⟨rfl, rfl⟩, rfl, hb, hs.sel [] _ (by decide) rfl⟩
      · refine JX.condF rfl hb ?_
        refine JX.skip ?_
        refine JE.code ?_
        refine JX.seq ?_
        refine JX.region ?_
        refine JL.val (yl_assign rfl) rfl ?_
        refine JL.nil ?_
        refine JE.code ?_
        refine JX.ret ?_
        obtain rfl := Option.some.inj hres
        refine JE.ret (rs := [.tmp 4]) (vs := [.bool true]) rfl ⟨rfl, trivial⟩ ?_
        exact fun w' hb hs => ⟨_, _, ⟨rfl, rfl⟩, rfl, hb, hs.sel [] _ (by decide) rfl⟩

/- laws.FnExactCheckMoves -/
def sh13 (q0 : SPanel) (q1 : List SToolMove) (q2 : Int) (q3 : Int) (q4 : Int) : Option (Bool) := Option.bind (sh56 q0 1048576) fun x3 => bif decide (x3 < 0) then (some true) else (Option.bind (sh38 q1 x3) fun x4 => bif decide (x4 < 0) then (some true) else (Option.bind (sh58 q0) fun x5 => Option.bind (sh40 q1) fun x9 => Option.bind (sh57 x5 x9 q2 q3 q4) fun x13 => Option.bind (sh58 q0) fun x14 => Option.bind (sh40 q1) fun x20 => Option.bind (sh59 x14 x20 q2 q3 q4) fun x24 => bif (x24.1 != x13.1) || (x24.2 != x13.2) then (some false) else (Option.bind (sh58 q0) fun x26 => Option.bind (sh60 x14 x26) fun x30 => bif !x30 then (some false) else (Option.bind (sh40 q1) fun x31 => Option.bind (sh42 x20 x31) fun x35 => bif !x35 then (some false) else (some true)))))
def T13 (r : Bool) (v : Value) (rs : List Own) : Prop := v = rets [.bool r] ∧ rs = []
set_option maxRecDepth 100000 in
theorem c13 {w : World} {q0 : SPanel} {a_0_2 : Option Addr} {n_0_2 c_0_2 : Nat} (g_0_2 : Rd w a_0_2 (eI64.fl q0.Breaks)) (l_0_2 : q0.Breaks.length = n_0_2) (k_0_2 : n_0_2 ≤ c_0_2) {q1 : List SToolMove} {a_1 : Option Addr} {n_1 c_1 : Nat} (g_1 : Rd w a_1 (eSToolMove.fl q1)) (l_1 : q1.length = n_1) (k_1 : n_1 ≤ c_1) {q2 : Int} {q3 : Int} {q4 : Int} {r : Bool} (hres : sh13 q0 q1 q2 q3 q4 = some r) : Calls Go.Proofs.Try.prog 13 [.agg #[.int .i64 q0.W, .int .i64 q0.H, .slice a_0_2 n_0_2 c_0_2], .slice a_1 n_1 c_1, .int .i64 q2, .int .i64 q3, .int .i64 q4].toArray w (Ret w (T13 r)) := by
  subst l_0_2
  subst l_1
  unfold sh13 at hres
  refine calls_of (n := 70) (M := []) (es := []) Go.Proofs.Try.func13 rfl rfl rfl (Sep.nil _ _ _) ?_
  refine JX.seq ?_
  refine JX.region ?_
  refine JL.eff (ef_box rfl rfl) rfl ?_
  rintro _ _ ⟨g1, rfl, rfl⟩
  refine JL.val (yl_assign rfl) rfl ?_
  refine JL.nil ?_
  refine JE.code ?_
  refine JX.seq ?_
  refine JX.region ?_
  refine JL.val (yl_assign rfl) rfl ?_
  refine JL.nil ?_
  refine JE.code ?_
  refine JX.seq ?_
  refine JX.region ?_
  refine JL.val (yl_loadn Go.Proofs.Try.underlying70 rfl i70 rfl (fun w hC => rd_box hC 0 rfl) rfl (i70s).symm i70p) rfl ?_
  refine JL.val (yl_move rfl) rfl ?_
  obtain ⟨x3, hx3, hres⟩ := bind_some hres
  refine JL.eff (ef_call (vs := [.agg #[.int .i64 q0.W, .int .i64 q0.H, .slice a_0_2 q0.Breaks.length c_0_2], .int .i64 1048576]) (T := T56 x3) Go.Proofs.Try.func56 rfl (by kernel_rfl) rfl (fun w hC => c56 (q0 := q0) (rd_arg g_0_2 hC) rfl k_0_2 hx3)) rfl ?_
  rintro _ _ ⟨_, ⟨rfl, rfl⟩, rfl⟩
  refine JL.val (yl_assign rfl) rfl ?_
  refine JL.nil ?_
  refine JE.weak (env' := [(1, .slice a_1 q1.length c_1), (2, .int .i64 q2), (3, .int .i64 q3), (4, .int .i64 q4), (5, ptrAt (some ⟨g1, 0, none⟩) 0), (11, .int .i64 x3)]) (es' := [boxO 70 g1 [.int .i64 q0.W, .int .i64 q0.H, .slice a_0_2 q0.Breaks.length c_0_2]]) [0] ?_ ⟨rfl, rfl, rfl, rfl, rfl, rfl, trivial⟩ (by decide) rfl
  refine JE.code ?_
  refine JX.seq ?_
  refine JX.seq ?_
  refine JX.region ?_
  refine JL.val (yl_move rfl) rfl ?_
  refine JL.val (yl_lss rfl rfl) rfl ?_
  refine JL.nil ?_
  refine JE.code ?_
  rcases cond_some hres with ⟨hb, hres⟩ | ⟨hb, hres⟩
  · refine JX.condT rfl hb ?_
    refine JX.seq ?_
    refine JX.region ?_
    refine JL.val (yl_assign rfl) rfl ?_
    refine JL.nil ?_
    refine JE.weak (env' := [(10, .bool true)]) (es' := []) [] ?_ ⟨rfl, trivial⟩ (by decide) rfl
    refine JE.code ?_
    refine JX.ret ?_
    obtain rfl := Option.some.inj hres
    refine JE.ret (rs := [.tmp 10]) (vs := [.bool true]) rfl ⟨rfl, trivial⟩ ?_
    exact fun w' hb hs => ⟨_, _, ⟨rfl, rfl⟩, rfl, hb, hs.sel [] _ (by decide) rfl⟩
  · refine JX.condF rfl hb ?_
    refine JX.skip ?_
    refine JE.code ?_
    refine JX.seq ?_
    refine JX.region ?_
    refine JL.val (yl_move rfl) rfl ?_
    refine JL.val (yl_move rfl) rfl ?_
    obtain ⟨x4, hx4, hres⟩ := bind_some hres
    refine JL.eff (ef_call (T := T38 x4) Go.Proofs.Try.func38 rfl (by kernel_rfl) rfl (fun w hC => c38 (rd_arg g_1 hC) rfl k_1 hx4)) rfl ?_
    rintro _ _ ⟨_, ⟨rfl, rfl⟩, rfl⟩
    refine JL.val (yl_assign rfl) rfl ?_
    refine JL.nil ?_
    refine JE.weak (env' := [(1, .slice a_1 q1.length c_1), (2, .int .i64 q2), (3, .int .i64 q3), (4, .int .i64 q4), (5, ptrAt (some ⟨g1, 0, none⟩) 0), (11, .int .i64 x4)]) (es' := [boxO 70 g1 [.int .i64 q0.W, .int .i64 q0.H, .slice a_0_2 q0.Breaks.length c_0_2]]) [0] ?_ ⟨rfl, rfl, rfl, rfl, rfl, rfl, trivial⟩ (by decide) rfl
    refine JE.code ?_
    refine JX.seq ?_
    refine JX.seq ?_
    refine JX.region ?_
    refine JL.val (yl_move rfl) rfl ?_
    refine JL.val (yl_lss rfl rfl) rfl ?_
    refine JL.nil ?_
    refine JE.code ?_
    rcases cond_some hres with ⟨hb, hres⟩ | ⟨hb, hres⟩
    · refine JX.condT rfl hb ?_
      refine JX.seq ?_
      refine JX.region ?_
      refine JL.val (yl_assign rfl) rfl ?_
      refine JL.nil ?_
      refine JE.weak (env' := [(10, .bool true)]) (es' := []) [] ?_ ⟨rfl, trivial⟩ (by decide) rfl
      refine JE.code ?_
      refine JX.ret ?_
      obtain rfl := Option.some.inj hres
      refine JE.ret (rs := [.tmp 10]) (vs := [.bool true]) rfl ⟨rfl, trivial⟩ ?_
      exact fun w' hb hs => ⟨_, _, ⟨rfl, rfl⟩, rfl, hb, hs.sel [] _ (by decide) rfl⟩
    · refine JX.condF rfl hb ?_
      refine JX.skip ?_
      refine JE.code ?_
      refine JX.seq ?_
      refine JX.region ?_
      refine JL.val (yl_loadn Go.Proofs.Try.underlying70 rfl i70 rfl (fun w hC => rd_box hC 0 rfl) rfl (i70s).symm i70p) rfl ?_
      obtain ⟨x5, hx5, hres⟩ := bind_some hres
      refine JL.eff (ef_call (vs := [.agg #[.int .i64 q0.W, .int .i64 q0.H, .slice a_0_2 q0.Breaks.length c_0_2]]) (T := T58 x5) Go.Proofs.Try.func58 rfl (by kernel_rfl) rfl (fun w hC => c58 (q0 := q0) (rd_arg g_0_2 hC) rfl k_0_2 hx5)) rfl ?_
      rintro _ _ ⟨_, ⟨a6, _, cp7, rfl, rfl, rfl⟩, rfl⟩
      refine JL.val (yl_move rfl) rfl ?_
      obtain ⟨x9, hx9, hres⟩ := bind_some hres
      refine JL.eff (ef_call (T := T40 x9) Go.Proofs.Try.func40 rfl (by kernel_rfl) rfl (fun w hC => c40 (rd_arg g_1 hC) rfl k_1 hx9)) rfl ?_
      rintro _ _ ⟨_, ⟨a10, _, cp11, rfl, rfl, rfl⟩, rfl⟩
      refine JL.val (yl_move rfl) rfl ?_
      refine JL.val (yl_move rfl) rfl ?_
      refine JL.val (yl_move rfl) rfl ?_
      obtain ⟨x13, hx13, hres⟩ := bind_some hres
      refine JL.eff (ef_call (vs := [.agg #[.int .i64 x5.W, .int .i64 x5.H, .slice a6 x5.Breaks.length cp7], .slice a10 x9.length cp11, .int .i64 q2, .int .i64 q3, .int .i64 q4]) (T := T57 x13) Go.Proofs.Try.func57 rfl (by kernel_rfl) rfl (fun w hC => c57 (q0 := x5) (rd_row hC 1 rfl) rfl (ln_row hC 1 rfl) (rd_row hC 2 rfl) rfl (ln_row hC 2 rfl) hx13)) rfl ?_
      rintro _ _ ⟨_, ⟨rfl, rfl⟩, rfl⟩
      refine JL.val (yl_move rfl) rfl ?_
      refine JL.val (yl_extract rfl rfl) rfl ?_
      refine JL.val (yl_extract rfl rfl) rfl ?_
      refine JL.val (yl_assign rfl) rfl ?_
      refine JL.val (yl_assign rfl) rfl ?_
      refine JL.nil ?_
      refine JE.weak (env' := [(1, .slice a_1 q1.length c_1), (2, .int .i64 q2), (3, .int .i64 q3), (4, .int .i64 q4), (5, ptrAt (some ⟨g1, 0, none⟩) 0), (12, .int .i64 x13.1), (13, .int .i64 x13.2)]) (es' := [boxO 70 g1 [.int .i64 q0.W, .int .i64 q0.H, .slice a_0_2 q0.Breaks.length c_0_2]]) [0] ?_ ⟨rfl, rfl, rfl, rfl, rfl, rfl, rfl, trivial⟩ (by decide) rfl
      refine JE.code ?_
      refine JX.seq ?_
      refine JX.region ?_
      refine JL.val (yl_loadn Go.Proofs.Try.underlying70 rfl i70 rfl (fun w hC => rd_box hC 0 rfl) rfl (i70s).symm i70p) rfl ?_
      obtain ⟨x14, hx14, hres⟩ := bind_some hres
      refine JL.eff (ef_call (vs := [.agg #[.int .i64 q0.W, .int .i64 q0.H, .slice a_0_2 q0.Breaks.length c_0_2]]) (T := T58 x14) Go.Proofs.Try.func58 rfl (by kernel_rfl) rfl (fun w hC => c58 (q0 := q0) (rd_arg g_0_2 hC) rfl k_0_2 hx14)) rfl ?_
      rintro _ _ ⟨_, ⟨a15, _, cp16, rfl, rfl, rfl⟩, rfl⟩
      refine JL.eff (ef_alloc i73 i73z rfl) rfl ?_
      rintro _ _ ⟨g18, rfl, rfl⟩
      refine JL.eff (ef_store_box (i := 2) (v := .agg #[.int .i64 x14.W, .int .i64 x14.H, .slice a15 x14.Breaks.length cp16]) i73 rfl rfl rfl (i73s).symm (Nat.le_of_ble_eq_true rfl) (by simp [Value.cells, Value.oneCell'])) rfl ?_
      rintro _ _ rfl
      refine JL.nil ?_
      refine JE.weak (env' := [(1, .slice a_1 q1.length c_1), (2, .int .i64 q2), (3, .int .i64 q3), (4, .int .i64 q4), (5, ptrAt (some ⟨g1, 0, none⟩) 0), (12, .int .i64 x13.1), (13, .int .i64 x13.2), (14, ptrAt (some ⟨g18, 0, none⟩) 0)]) (es' := [boxO 70 g1 [.int .i64 q0.W, .int .i64 q0.H, .slice a_0_2 q0.Breaks.length c_0_2], boxO 73 g18 [.int .i64 x14.W, .int .i64 x14.H, .slice a15 x14.Breaks.length cp16], rowT 2 eI64 a15 x14.Breaks.length cp16 x14.Breaks]) [0, 2, 1] ?_ ⟨rfl, rfl, rfl, rfl, rfl, rfl, rfl, rfl, trivial⟩ (by decide) rfl
      refine JE.code ?_
      refine JX.seq ?_
      refine JX.region ?_
      refine JL.val (yl_move rfl) rfl ?_
      obtain ⟨x20, hx20, hres⟩ := bind_some hres
      refine JL.eff (ef_call (T := T40 x20) Go.Proofs.Try.func40 rfl (by kernel_rfl) rfl (fun w hC => c40 (rd_arg g_1 hC) rfl k_1 hx20)) rfl ?_
      rintro _ _ ⟨_, ⟨a21, _, cp22, rfl, rfl, rfl⟩, rfl⟩
      refine JL.val (yl_assign rfl) rfl ?_
      refine JL.nil ?_
      refine JE.code ?_
      refine JX.seq ?_
      refine JX.region ?_
      refine JL.val (yl_loadn Go.Proofs.Try.underlying73 rfl i73 rfl (fun w hC => rd_box hC 1 rfl) rfl (i73s).symm i73p) rfl ?_
      refine JL.val (yl_move rfl) rfl ?_
      refine JL.val (yl_move rfl) rfl ?_
      refine JL.val (yl_move rfl) rfl ?_
      refine JL.val (yl_move rfl) rfl ?_
      obtain ⟨x24, hx24, hres⟩ := bind_some hres
      refine JL.eff (ef_call (vs := [.agg #[.int .i64 x14.W, .int .i64 x14.H, .slice a15 x14.Breaks.length cp16], .slice a21 x20.length cp22, .int .i64 q2, .int .i64 q3, .int .i64 q4]) (T := T59 x24) Go.Proofs.Try.func59 rfl (by kernel_rfl) rfl (fun w hC => c59 (q0 := x14) (rd_row hC 2 rfl) rfl (ln_row hC 2 rfl) (rd_row hC 3 rfl) rfl (ln_row hC 3 rfl) hx24)) rfl ?_
      rintro _ _ ⟨_, ⟨rfl, rfl⟩, rfl⟩
      refine JL.val (yl_move rfl) rfl ?_
      refine JL.val (yl_extract rfl rfl) rfl ?_
      refine JL.val (yl_extract rfl rfl) rfl ?_
      refine JL.val (yl_assign rfl) rfl ?_
      refine JL.val (yl_assign rfl) rfl ?_
      refine JL.nil ?_
      refine JE.weak (env' := [(1, .slice a_1 q1.length c_1), (5, ptrAt (some ⟨g1, 0, none⟩) 0), (12, .int .i64 x13.1), (13, .int .i64 x13.2), (14, ptrAt (some ⟨g18, 0, none⟩) 0), (15, .slice a21 x20.length cp22), (16, .int .i64 x24.1), (17, .int .i64 x24.2)]) (es' := [boxO 70 g1 [.int .i64 q0.W, .int .i64 q0.H, .slice a_0_2 q0.Breaks.length c_0_2], boxO 73 g18 [.int .i64 x14.W, .int .i64 x14.H, .slice a15 x14.Breaks.length cp16], rowT 2 eI64 a15 x14.Breaks.length cp16 x14.Breaks, rowT 96 eSToolMove a21 x20.length cp22 x20]) [0, 1, 2, 3] ?_ ⟨rfl, rfl, rfl, rfl, rfl, rfl, rfl, rfl, trivial⟩ (by decide) rfl
      refine JE.code ?_
      refine JX.seq ?_
      refine JX.seq ?_
      refine JX.region ?_
      refine JL.val (yl_move rfl) rfl ?_
      refine JL.val (yl_move rfl) rfl ?_
      refine JL.val (yl_neq rfl rfl) rfl ?_
      refine JL.val (yl_move rfl) rfl ?_
      refine JL.cut (K := fun J => J [(1, .slice a_1 q1.length c_1), (5, ptrAt (some ⟨g1, 0, none⟩) 0), (14, ptrAt (some ⟨g18, 0, none⟩) 0), (15, .slice a21 x20.length cp22), (59, .bool ((x24.1 != x13.1) || (x24.2 != x13.2)))] [boxO 70 g1 [.int .i64 q0.W, .int .i64 q0.H, .slice a_0_2 q0.Breaks.length c_0_2], boxO 73 g18 [.int .i64 x14.W, .int .i64 x14.H, .slice a15 x14.Breaks.length cp16], rowT 2 eI64 a15 x14.Breaks.length cp16 x14.Breaks, rowT 96 eSToolMove a21 x20.length cp22 x20]) 4 ?_ ?_
      · refine JL.nil ?_
        refine JE.weak (env' := [(1, .slice a_1 q1.length c_1), (5, ptrAt (some ⟨g1, 0, none⟩) 0), (14, ptrAt (some ⟨g18, 0, none⟩) 0), (15, .slice a21 x20.length cp22), (59, .bool ((x24.1 != x13.1) || (x24.2 != x13.2)))]) (es' := [boxO 70 g1 [.int .i64 q0.W, .int .i64 q0.H, .slice a_0_2 q0.Breaks.length c_0_2], boxO 73 g18 [.int .i64 x14.W, .int .i64 x14.H, .slice a15 x14.Breaks.length cp16], rowT 2 eI64 a15 x14.Breaks.length cp16 x14.Breaks, rowT 96 eSToolMove a21 x20.length cp22 x20]) [0, 1, 2, 3] ?_ ⟨rfl, rfl, rfl, rfl, rfl, trivial⟩ (by decide) rfl
        refine JE.code ?_
        rcases cond_some hres with ⟨hb, hres⟩ | ⟨hb, hres⟩
        · refine JX.condT rfl hb ?_
          refine JX.seq ?_
          refine JX.region ?_
          refine JL.val (yl_assign rfl) rfl ?_
          refine JL.nil ?_
          refine JE.weak (env' := [(10, .bool false)]) (es' := []) [] ?_ ⟨rfl, trivial⟩ (by decide) rfl
          refine JE.code ?_
          refine JX.ret ?_
          obtain rfl := Option.some.inj hres
          refine JE.ret (rs := [.tmp 10]) (vs := [.bool false]) rfl ⟨rfl, trivial⟩ ?_
          exact fun w' hb hs => ⟨_, _, ⟨rfl, rfl⟩, rfl, hb, hs.sel [] _ (by decide) rfl⟩
        · refine JX.condF rfl hb ?_
          refine JX.skip ?_
          refine JE.code ?_
          refine JX.seq ?_
          refine JX.seq ?_
          refine JX.drawH [(0, .read), (1, .read), (2, .must), (3, .must), (4, .pure)] [] [] [0, 1, 2, 3] [] [boxO 70 g1 [.int .i64 q0.W, .int .i64 q0.H, .slice a_0_2 q0.Breaks.length c_0_2], boxO 73 g18 [.int .i64 x14.W, .int .i64 x14.H, .slice a15 x14.Breaks.length cp16], rowT 2 eI64 a15 x14.Breaks.length cp16 x14.Breaks, rowT 96 eSToolMove a21 x20.length cp22 x20] mixedP (by kernel_rfl) (by kernel_rfl) (by decide) rfl rfl ?_
          intro wrr25 Nr25 hFr25
          refine JH.read rfl (yl_loadn Go.Proofs.Try.underlying73 rfl i73 rfl (fun w hw => hFr25.box 1 rfl rfl hw) rfl (i73s).symm i73p) rfl ?_
          refine JH.read rfl (yl_loadn Go.Proofs.Try.underlying70 rfl i70 rfl (fun w hw => hFr25.box 0 rfl rfl hw) rfl (i70s).symm i70p) rfl ?_
          obtain ⟨x26, hx26, hres⟩ := bind_some hres
          refine JH.must rfl (ef_call (vs := [.agg #[.int .i64 q0.W, .int .i64 q0.H, .slice a_0_2 q0.Breaks.length c_0_2]]) (T := T58 x26) Go.Proofs.Try.func58 rfl (by kernel_rfl) rfl (fun w hC => c58 (q0 := q0) (hFr25.arg g_0_2 hC.1) rfl k_0_2 hx26)) rfl rfl ?_
          rintro _ _ ⟨_, ⟨a27, _, cp28, rfl, rfl, rfl⟩, rfl⟩
          obtain ⟨x30, hx30, hres⟩ := bind_some hres
          refine JH.must rfl (ef_call (vs := [.agg #[.int .i64 x14.W, .int .i64 x14.H, .slice a15 x14.Breaks.length cp16], .agg #[.int .i64 x26.W, .int .i64 x26.H, .slice a27 x26.Breaks.length cp28]]) (T := T60 x30) Go.Proofs.Try.func60 rfl (by kernel_rfl) rfl (fun w hC => c60 (q0 := x14) (q1 := x26) (hFr25.row 2 rfl rfl hC.1) rfl (ln_row hFr25.cl 2 rfl) (rd_row hC 0 rfl) rfl (ln_row hC 0 rfl) hx30)) rfl rfl ?_
          rintro _ _ ⟨_, ⟨rfl, rfl⟩, rfl⟩
          refine JH.pure rfl (yl_not rfl) rfl ?_
          refine JH.nil ?_
          refine JE.weak (env' := [(1, .slice a_1 q1.length c_1), (15, .slice a21 x20.length cp22), (64, .bool !x30)]) (es' := [rowT 96 eSToolMove a21 x20.length cp22 x20]) [3] ?_ ⟨rfl, rfl, rfl, trivial⟩ (by decide) rfl
          refine JE.code ?_
          rcases cond_some hres with ⟨hb, hres⟩ | ⟨hb, hres⟩
          · refine JX.condT rfl hb ?_
            refine JX.seq ?_
            refine JX.region ?_
            refine JL.val (yl_assign rfl) rfl ?_
            refine JL.nil ?_
            refine JE.weak (env' := [(10, .bool false)]) (es' := []) [] ?_ ⟨rfl, trivial⟩ (by decide) rfl
            refine JE.code ?_
            refine JX.ret ?_
            obtain rfl := Option.some.inj hres
            refine JE.ret (rs := [.tmp 10]) (vs := [.bool false]) rfl ⟨rfl, trivial⟩ ?_
            exact fun w' hb hs => ⟨_, _, ⟨rfl, rfl⟩, rfl, hb, hs.sel [] _ (by decide) rfl⟩
          · refine JX.condF rfl hb ?_
            refine JX.skip ?_
            refine JE.code ?_
            refine JX.seq ?_
            refine JX.seq ?_
            refine JX.region ?_
            refine JL.val (yl_move rfl) rfl ?_
            refine JL.val (yl_move rfl) rfl ?_
            obtain ⟨x31, hx31, hres⟩ := bind_some hres
            refine JL.eff (ef_call (T := T40 x31) Go.Proofs.Try.func40 rfl (by kernel_rfl) rfl (fun w hC => c40 (rd_arg g_1 hC) rfl k_1 hx31)) rfl ?_
            rintro _ _ ⟨_, ⟨a32, _, cp33, rfl, rfl, rfl⟩, rfl⟩
            obtain ⟨x35, hx35, hres⟩ := bind_some hres
            refine JL.eff (ef_call (T := T42 x35) Go.Proofs.Try.func42 rfl (by kernel_rfl) rfl (fun w hC => c42 (rd_row hC 0 rfl) rfl (ln_row hC 0 rfl) (rd_row hC 1 rfl) rfl (ln_row hC 1 rfl) hx35)) rfl ?_
            rintro _ _ ⟨_, ⟨rfl, rfl⟩, rfl⟩
            refine JL.val (yl_not rfl) rfl ?_
            refine JL.nil ?_
            refine JE.weak (env' := [(69, .bool !x35)]) (es' := []) [] ?_ ⟨rfl, trivial⟩ (by decide) rfl
            refine JE.code ?_
            rcases cond_some hres with ⟨hb, hres⟩ | ⟨hb, hres⟩
            · refine JX.condT rfl hb ?_
              refine JX.seq ?_
              refine JX.region ?_
              refine JL.val (yl_assign rfl) rfl ?_
              refine JL.nil ?_
              refine JE.code ?_
              refine JX.ret ?_
              obtain rfl := Option.some.inj hres
              refine JE.ret (rs := [.tmp 10]) (vs := [.bool false]) rfl ⟨rfl, trivial⟩ ?_
              exact fun w' hb hs => ⟨_, _, ⟨rfl, rfl⟩, rfl, hb, hs.sel [] _ (by decide) rfl⟩
            · refine JX.condF rfl hb ?_
              refine JX.skip ?_
              refine JE.code ?_
              refine JX.seq ?_
              refine JX.region ?_
              refine JL.val (yl_assign rfl) rfl ?_
              refine JL.nil ?_
              refine JE.code ?_
              refine JX.ret ?_
              obtain rfl := Option.some.inj hres
              refine JE.ret (rs := [.tmp 10]) (vs := [.bool true]) rfl ⟨rfl, trivial⟩ ?_
              exact fun w' hb hs => ⟨_, _, ⟨rfl, rfl⟩, rfl, hb, hs.sel [] _ (by decide) rfl⟩
      · intro K
        rcases Bool.eq_false_or_eq_true (x24.1 != x13.1) with hb | hb
        · refine JL.set (d := 55) (v := .bool true) (congrArg (fun b => some (Value.bool b)) hb) ?_
          refine JL.gskip rfl rfl rfl rfl ?_
          refine JL.gskip rfl rfl rfl rfl ?_
          refine JL.gskip rfl rfl rfl rfl ?_
          refine JL.val (yl_pick_true rfl rfl) rfl ?_
          exact JL.weak [0, 1, 2, 3] K ⟨rfl, rfl, rfl, rfl, (by rw [hb]; rfl), trivial⟩ (by decide) rfl
        · refine JL.set (d := 55) (v := .bool false) (congrArg (fun b => some (Value.bool b)) hb) ?_
          refine JL.gval rfl rfl (yl_move rfl) rfl ?_
          refine JL.gval rfl rfl (yl_move rfl) rfl ?_
          refine JL.gval rfl rfl (yl_neq rfl rfl) rfl ?_
          refine JL.val (yl_pick_false rfl rfl) rfl ?_
          exact JL.weak [0, 1, 2, 3] K ⟨rfl, rfl, rfl, rfl, (by rw [hb]; rfl), trivial⟩ (by decide) rfl

end Go.Sh
