/- Walks through functions that the law reaches, printed by program. -/
import Derived.Test.YtinipjijgggjkaaF6W1
set_option linter.unusedVariables false
set_option linter.unusedSimpArgs false
namespace Go.Sh
open Go Go.RowKit
/- laws.FnExactRegionsOf -/
def sh6 (q0 : SPanel) : Option (Bool) := Option.bind (sh15 q0 1048576) fun x3 => bif decide (x3 < 0) then (some true) else (Option.bind (sh17 q0) fun x4 => Option.bind (sh25 x4) fun x8 => Option.bind (sh17 q0) fun x15 => Option.bind (sh26 x15) fun x21 => Option.bind (sh27 x21.1 x8.1) fun x28 => bif !x28 || (x21.2 != x8.2) then (some false) else (Option.bind (sh17 q0) fun x30 => Option.bind (sh19 x15 x30) fun x34 => bif !x34 then (some false) else (Option.bind (sh28 x15 1) fun x35 => Option.bind (bif decide (x35.1 < 0) then (some true) else (Option.bind (sh27 x21.1 x8.1) fun x38 => some !x38)) fun cb37 => (bif cb37 || (x21.2 != x8.2) then (some false) else (Option.bind (sh29 x21.1 1) fun x39 => Option.bind (sh30 x39.2 1) fun x42 => bif decide (x42 < 0) then (some false) else (bif x42 != x39.1 then (some false) else (Option.bind (sh17 q0) fun x43 => Option.bind (sh26 x43) fun x47 => Option.bind (sh27 x47.1 x8.1) fun x54 => bif !x54 || (x47.2 != x8.2) then (some false) else (Option.bind (sh30 x39.2 1) fun x55 => bif decide (x55 < 0) then (some false) else (bif x55 != x39.1 then (some false) else (some true))))))))))
def T6 (r : Bool) (v : Value) (rs : List Own) : Prop := v = rets [.bool r] ∧ rs = []
set_option maxRecDepth 100000 in
set_option maxHeartbeats 1000000 in
theorem c6 {w : World} {q0 : SPanel} {a_0_2 : Option Addr} {n_0_2 c_0_2 : Nat} (g_0_2 : Rd w a_0_2 (eI64.fl q0.Breaks)) (l_0_2 : q0.Breaks.length = n_0_2) (k_0_2 : n_0_2 ≤ c_0_2) {r : Bool} (hres : sh6 q0 = some r) : Calls Go.Proofs.Try.prog 6 [.agg #[.int .i64 q0.W, .int .i64 q0.H, .slice a_0_2 n_0_2 c_0_2]].toArray w (Ret w (T6 r)) := by
  subst l_0_2
  unfold sh6 at hres
  refine calls_of (n := 96) (M := []) (es := []) Go.Proofs.Try.func6 rfl rfl rfl (Sep.nil _ _ _) ?_
  refine JX.seq ?_
  refine JX.region ?_
  refine JL.eff (ef_box rfl rfl) rfl ?_
  rintro _ _ ⟨g1, rfl, rfl⟩
  refine JL.val (yl_assign rfl) rfl ?_
  refine JL.nil ?_
  refine JE.code ?_
  refine JX.seq ?_
  refine JX.region ?_
  refine JL.val (yl_assign rfl) rfl ?_
  refine JL.nil ?_
  refine JE.code ?_
  refine JX.seq ?_
  refine JX.region ?_
  refine JL.val (yl_loadn Go.Proofs.Try.underlying24 rfl i24 rfl (fun w hC => rd_box hC 0 rfl) rfl (i24s).symm i24p) rfl ?_
  refine JL.val (yl_move rfl) rfl ?_
  obtain ⟨x3, hx3, hres⟩ := bind_some hres
  refine JL.eff (ef_call (vs := [.agg #[.int .i64 q0.W, .int .i64 q0.H, .slice a_0_2 q0.Breaks.length c_0_2], .int .i64 1048576]) (T := T15 x3) Go.Proofs.Try.func15 rfl (by kernel_rfl) rfl (fun w hC => c15 (q0 := q0) (rd_arg g_0_2 hC) rfl k_0_2 hx3)) rfl ?_
  rintro _ _ ⟨_, ⟨rfl, rfl⟩, rfl⟩
  refine JL.val (yl_assign rfl) rfl ?_
  refine JL.nil ?_
  refine JE.weak (env' := [(1, ptrAt (some ⟨g1, 0, none⟩) 0), (3, .int .i64 x3)]) (es' := [boxO 24 g1 [.int .i64 q0.W, .int .i64 q0.H, .slice a_0_2 q0.Breaks.length c_0_2]]) [0] ?_ ⟨rfl, rfl, trivial⟩ (by decide) rfl
  refine JE.code ?_
  refine JX.seq ?_
  refine JX.seq ?_
  refine JX.region ?_
  refine JL.val (yl_move rfl) rfl ?_
  refine JL.val (yl_lss rfl rfl) rfl ?_
  refine JL.nil ?_
  refine JE.code ?_
  rcases cond_some hres with ⟨hb, hres⟩ | ⟨hb, hres⟩
  · refine JX.condT rfl hb ?_
    refine JX.seq ?_
    refine JX.region ?_
    refine JL.val (yl_assign rfl) rfl ?_
    refine JL.nil ?_
    refine JE.weak (env' := [(2, .bool true)]) (es' := []) [] ?_ ⟨rfl, trivial⟩ (by decide) rfl
    refine JE.code ?_
    refine JX.ret ?_
    obtain rfl := Option.some.inj hres
    refine JE.ret (rs := [.tmp 2]) (vs := [.bool true]) rfl ⟨rfl, trivial⟩ ?_
    exact fun w' hb hs => ⟨_, _, ⟨rfl, rfl⟩, rfl, hb, hs.sel [] _ (by decide) rfl⟩
  · refine JX.condF rfl hb ?_
    refine JX.skip ?_
    refine JE.code ?_
    refine JX.seq ?_
    refine JX.region ?_
    refine JL.val (yl_loadn Go.Proofs.Try.underlying24 rfl i24 rfl (fun w hC => rd_box hC 0 rfl) rfl (i24s).symm i24p) rfl ?_
    obtain ⟨x4, hx4, hres⟩ := bind_some hres
    refine JL.eff (ef_call (vs := [.agg #[.int .i64 q0.W, .int .i64 q0.H, .slice a_0_2 q0.Breaks.length c_0_2]]) (T := T17 x4) Go.Proofs.Try.func17 rfl (by kernel_rfl) rfl (fun w hC => c17 (q0 := q0) (rd_arg g_0_2 hC) rfl k_0_2 hx4)) rfl ?_
    rintro _ _ ⟨_, ⟨a5, _, cp6, rfl, rfl, rfl⟩, rfl⟩
    obtain ⟨x8, hx8, hres⟩ := bind_some hres
    refine JL.eff (ef_call (vs := [.agg #[.int .i64 x4.W, .int .i64 x4.H, .slice a5 x4.Breaks.length cp6]]) (T := T25 x8) Go.Proofs.Try.func25 rfl (by kernel_rfl) rfl (fun w hC => c25 (q0 := x4) (rd_row hC 1 rfl) rfl (ln_row hC 1 rfl) hx8)) rfl ?_
    rintro _ _ ⟨_, ⟨a9, _, cp10, hs12, rfl, hi13, rfl, rfl⟩, rfl⟩
    refine JL.val (yl_move rfl) rfl ?_
    refine JL.val (yl_extract rfl rfl) rfl ?_
    refine JL.val (yl_extract rfl rfl) rfl ?_
    refine JL.val (yl_assign rfl) rfl ?_
    refine JL.val (yl_assign rfl) rfl ?_
    refine JL.nil ?_
    refine JE.weak (env' := [(1, ptrAt (some ⟨g1, 0, none⟩) 0), (4, .slice a9 x8.1.length cp10), (5, .int .i64 x8.2)]) (es' := [boxO 24 g1 [.int .i64 q0.W, .int .i64 q0.H, .slice a_0_2 q0.Breaks.length c_0_2], rowT 61 eHd a9 x8.1.length cp10 hs12, innO 35 eSPoint none hs12 x8.1]) [0, 2, 3] ?_ ⟨rfl, rfl, rfl, trivial⟩ (by decide) rfl
    refine JE.code ?_
    refine JX.seq ?_
    refine JX.region ?_
    refine JL.val (yl_loadn Go.Proofs.Try.underlying24 rfl i24 rfl (fun w hC => rd_box hC 0 rfl) rfl (i24s).symm i24p) rfl ?_
    obtain ⟨x15, hx15, hres⟩ := bind_some hres
    refine JL.eff (ef_call (vs := [.agg #[.int .i64 q0.W, .int .i64 q0.H, .slice a_0_2 q0.Breaks.length c_0_2]]) (T := T17 x15) Go.Proofs.Try.func17 rfl (by kernel_rfl) rfl (fun w hC => c17 (q0 := q0) (rd_arg g_0_2 hC) rfl k_0_2 hx15)) rfl ?_
    rintro _ _ ⟨_, ⟨a16, _, cp17, rfl, rfl, rfl⟩, rfl⟩
    refine JL.eff (ef_alloc i28 i28z rfl) rfl ?_
    rintro _ _ ⟨g19, rfl, rfl⟩
    refine JL.eff (ef_store_box (i := 4) (v := .agg #[.int .i64 x15.W, .int .i64 x15.H, .slice a16 x15.Breaks.length cp17]) i28 rfl rfl rfl (i28s).symm (Nat.le_of_ble_eq_true rfl) (by simp [Value.cells, Value.oneCell'])) rfl ?_
    rintro _ _ rfl
    refine JL.nil ?_
    refine JE.weak (env' := [(1, ptrAt (some ⟨g1, 0, none⟩) 0), (4, .slice a9 x8.1.length cp10), (5, .int .i64 x8.2), (6, ptrAt (some ⟨g19, 0, none⟩) 0)]) (es' := [boxO 24 g1 [.int .i64 q0.W, .int .i64 q0.H, .slice a_0_2 q0.Breaks.length c_0_2], rowT 61 eHd a9 x8.1.length cp10 hs12, innO 35 eSPoint none hs12 x8.1, boxO 28 g19 [.int .i64 x15.W, .int .i64 x15.H, .slice a16 x15.Breaks.length cp17], rowT 2 eI64 a16 x15.Breaks.length cp17 x15.Breaks]) [0, 1, 2, 4, 3] ?_ ⟨rfl, rfl, rfl, rfl, trivial⟩ (by decide) rfl
    refine JE.code ?_
    refine JX.seq ?_
    refine JX.region ?_
    refine JL.val (yl_loadn Go.Proofs.Try.underlying28 rfl i28 rfl (fun w hC => rd_box hC 3 rfl) rfl (i28s).symm i28p) rfl ?_
    obtain ⟨x21, hx21, hres⟩ := bind_some hres
    refine JL.eff (ef_call (vs := [.agg #[.int .i64 x15.W, .int .i64 x15.H, .slice a16 x15.Breaks.length cp17]]) (T := T26 x21) Go.Proofs.Try.func26 rfl (by kernel_rfl) rfl (fun w hC => c26 (q0 := x15) (rd_row hC 4 rfl) rfl (ln_row hC 4 rfl) hx21)) rfl ?_
    rintro _ _ ⟨_, ⟨a22, _, cp23, hs25, rfl, hi26, rfl, rfl⟩, rfl⟩
    refine JL.val (yl_move rfl) rfl ?_
    refine JL.val (yl_extract rfl rfl) rfl ?_
    refine JL.val (yl_extract rfl rfl) rfl ?_
    refine JL.val (yl_assign rfl) rfl ?_
    refine JL.val (yl_assign rfl) rfl ?_
    refine JL.nil ?_
    refine JE.weak (env' := [(1, ptrAt (some ⟨g1, 0, none⟩) 0), (4, .slice a9 x8.1.length cp10), (5, .int .i64 x8.2), (6, ptrAt (some ⟨g19, 0, none⟩) 0), (7, .slice a22 x21.1.length cp23), (8, .int .i64 x21.2)]) (es' := [boxO 24 g1 [.int .i64 q0.W, .int .i64 q0.H, .slice a_0_2 q0.Breaks.length c_0_2], rowT 61 eHd a9 x8.1.length cp10 hs12, innO 35 eSPoint none hs12 x8.1, boxO 28 g19 [.int .i64 x15.W, .int .i64 x15.H, .slice a16 x15.Breaks.length cp17], rowT 2 eI64 a16 x15.Breaks.length cp17 x15.Breaks, rowT 61 eHd a22 x21.1.length cp23 hs25, innO 35 eSPoint none hs25 x21.1]) [0, 1, 2, 3, 4, 5, 6] ?_ ⟨rfl, rfl, rfl, rfl, rfl, rfl, trivial⟩ (by decide) rfl
    refine JE.code ?_
    refine JX.seq ?_
    refine JX.seq ?_
    refine JX.region ?_
    refine JL.val (yl_move rfl) rfl ?_
    refine JL.val (yl_move rfl) rfl ?_
    obtain ⟨x28, hx28, hres⟩ := bind_some hres
    refine JL.eff (ef_call (T := T27 x28) Go.Proofs.Try.func27 rfl (by kernel_rfl) rfl (fun w hC => c27 (rd_row hC 5 rfl) (rd_inn hC 6 rfl) hi26 rfl (ln_row hC 5 rfl) (rd_row hC 1 rfl) (rd_inn hC 2 rfl) hi13 rfl (ln_row hC 1 rfl) hx28)) rfl ?_
    rintro _ _ ⟨_, ⟨rfl, rfl⟩, rfl⟩
    refine JL.val (yl_not rfl) rfl ?_
    refine JL.val (yl_move rfl) rfl ?_
    refine JL.cut (K := fun J => J [(1, ptrAt (some ⟨g1, 0, none⟩) 0), (4, .slice a9 x8.1.length cp10), (5, .int .i64 x8.2), (6, ptrAt (some ⟨g19, 0, none⟩) 0), (7, .slice a22 x21.1.length cp23), (8, .int .i64 x21.2), (40, .bool (!x28 || (x21.2 != x8.2)))] [boxO 24 g1 [.int .i64 q0.W, .int .i64 q0.H, .slice a_0_2 q0.Breaks.length c_0_2], rowT 61 eHd a9 x8.1.length cp10 hs12, innO 35 eSPoint none hs12 x8.1, boxO 28 g19 [.int .i64 x15.W, .int .i64 x15.H, .slice a16 x15.Breaks.length cp17], rowT 2 eI64 a16 x15.Breaks.length cp17 x15.Breaks, rowT 61 eHd a22 x21.1.length cp23 hs25, innO 35 eSPoint none hs25 x21.1]) 4 ?_ ?_
    · refine JL.nil ?_
      refine JE.weak (env' := [(1, ptrAt (some ⟨g1, 0, none⟩) 0), (4, .slice a9 x8.1.length cp10), (5, .int .i64 x8.2), (6, ptrAt (some ⟨g19, 0, none⟩) 0), (7, .slice a22 x21.1.length cp23), (8, .int .i64 x21.2), (40, .bool (!x28 || (x21.2 != x8.2)))]) (es' := [boxO 24 g1 [.int .i64 q0.W, .int .i64 q0.H, .slice a_0_2 q0.Breaks.length c_0_2], rowT 61 eHd a9 x8.1.length cp10 hs12, innO 35 eSPoint none hs12 x8.1, boxO 28 g19 [.int .i64 x15.W, .int .i64 x15.H, .slice a16 x15.Breaks.length cp17], rowT 2 eI64 a16 x15.Breaks.length cp17 x15.Breaks, rowT 61 eHd a22 x21.1.length cp23 hs25, innO 35 eSPoint none hs25 x21.1]) [0, 1, 2, 3, 4, 5, 6] ?_ ⟨rfl, rfl, rfl, rfl, rfl, rfl, rfl, trivial⟩ (by decide) rfl
      refine JE.code ?_
      rcases cond_some hres with ⟨hb, hres⟩ | ⟨hb, hres⟩
      · refine JX.condT rfl hb ?_
        refine JX.seq ?_
        refine JX.region ?_
        refine JL.val (yl_assign rfl) rfl ?_
        refine JL.nil ?_
        refine JE.weak (env' := [(2, .bool false)]) (es' := []) [] ?_ ⟨rfl, trivial⟩ (by decide) rfl
        refine JE.code ?_
        refine JX.ret ?_
        obtain rfl := Option.some.inj hres
        refine JE.ret (rs := [.tmp 2]) (vs := [.bool false]) rfl ⟨rfl, trivial⟩ ?_
        exact fun w' hb hs => ⟨_, _, ⟨rfl, rfl⟩, rfl, hb, hs.sel [] _ (by decide) rfl⟩
      · refine JX.condF rfl hb ?_
        refine JX.skip ?_
        refine JE.code ?_
        refine JX.seq ?_
        refine JX.seq ?_
        refine JX.drawH [(0, .read), (1, .read), (2, .must), (3, .must), (4, .pure)] [] [] [0, 1, 2, 3, 4, 5, 6] [] [boxO 24 g1 [.int .i64 q0.W, .int .i64 q0.H, .slice a_0_2 q0.Breaks.length c_0_2], rowT 61 eHd a9 x8.1.length cp10 hs12, innO 35 eSPoint none hs12 x8.1, boxO 28 g19 [.int .i64 x15.W, .int .i64 x15.H, .slice a16 x15.Breaks.length cp17], rowT 2 eI64 a16 x15.Breaks.length cp17 x15.Breaks, rowT 61 eHd a22 x21.1.length cp23 hs25, innO 35 eSPoint none hs25 x21.1] mixedP (by kernel_rfl) (by kernel_rfl) (by decide) rfl rfl ?_
        intro wrr29 Nr29 hFr29
        refine JH.read rfl (yl_loadn Go.Proofs.Try.underlying28 rfl i28 rfl (fun w hw => hFr29.box 3 rfl rfl hw) rfl (i28s).symm i28p) rfl ?_
        refine JH.read rfl (yl_loadn Go.Proofs.Try.underlying24 rfl i24 rfl (fun w hw => hFr29.box 0 rfl rfl hw) rfl (i24s).symm i24p) rfl ?_
        obtain ⟨x30, hx30, hres⟩ := bind_some hres
        refine JH.must rfl (ef_call (vs := [.agg #[.int .i64 q0.W, .int .i64 q0.H, .slice a_0_2 q0.Breaks.length c_0_2]]) (T := T17 x30) Go.Proofs.Try.func17 rfl (by kernel_rfl) rfl (fun w hC => c17 (q0 := q0) (hFr29.arg g_0_2 hC.1) rfl k_0_2 hx30)) rfl rfl ?_
        rintro _ _ ⟨_, ⟨a31, _, cp32, rfl, rfl, rfl⟩, rfl⟩
        obtain ⟨x34, hx34, hres⟩ := bind_some hres
        refine JH.must rfl (ef_call (vs := [.agg #[.int .i64 x15.W, .int .i64 x15.H, .slice a16 x15.Breaks.length cp17], .agg #[.int .i64 x30.W, .int .i64 x30.H, .slice a31 x30.Breaks.length cp32]]) (T := T19 x34) Go.Proofs.Try.func19 rfl (by kernel_rfl) rfl (fun w hC => c19 (q0 := x15) (q1 := x30) (hFr29.row 4 rfl rfl hC.1) rfl (ln_row hFr29.cl 4 rfl) (rd_row hC 0 rfl) rfl (ln_row hC 0 rfl) hx34)) rfl rfl ?_
        rintro _ _ ⟨_, ⟨rfl, rfl⟩, rfl⟩
        refine JH.pure rfl (yl_not rfl) rfl ?_
        refine JH.nil ?_
        refine JE.weak (env' := [(1, ptrAt (some ⟨g1, 0, none⟩) 0), (4, .slice a9 x8.1.length cp10), (5, .int .i64 x8.2), (6, ptrAt (some ⟨g19, 0, none⟩) 0), (7, .slice a22 x21.1.length cp23), (8, .int .i64 x21.2), (45, .bool !x34)]) (es' := [boxO 24 g1 [.int .i64 q0.W, .int .i64 q0.H, .slice a_0_2 q0.Breaks.length c_0_2], rowT 61 eHd a9 x8.1.length cp10 hs12, innO 35 eSPoint none hs12 x8.1, boxO 28 g19 [.int .i64 x15.W, .int .i64 x15.H, .slice a16 x15.Breaks.length cp17], rowT 2 eI64 a16 x15.Breaks.length cp17 x15.Breaks, rowT 61 eHd a22 x21.1.length cp23 hs25, innO 35 eSPoint none hs25 x21.1]) [0, 1, 2, 3, 4, 5, 6] ?_ ⟨rfl, rfl, rfl, rfl, rfl, rfl, rfl, trivial⟩ (by decide) rfl
        refine JE.code ?_
        rcases cond_some hres with ⟨hb, hres⟩ | ⟨hb, hres⟩
        · refine JX.condT rfl hb ?_
          refine JX.seq ?_
          refine JX.region ?_
          refine JL.val (yl_assign rfl) rfl ?_
          refine JL.nil ?_
          refine JE.weak (env' := [(2, .bool false)]) (es' := []) [] ?_ ⟨rfl, trivial⟩ (by decide) rfl
          refine JE.code ?_
          refine JX.ret ?_
          obtain rfl := Option.some.inj hres
          refine JE.ret (rs := [.tmp 2]) (vs := [.bool false]) rfl ⟨rfl, trivial⟩ ?_
          exact fun w' hb hs => ⟨_, _, ⟨rfl, rfl⟩, rfl, hb, hs.sel [] _ (by decide) rfl⟩
        · refine JX.condF rfl hb ?_
          refine JX.skip ?_
          refine JE.code ?_
          refine JX.seq ?_
          refine JX.region ?_
          refine JL.val (yl_assign rfl) rfl ?_
          refine JL.nil ?_
          refine JE.code ?_
          refine JX.seq ?_
          refine JX.region ?_
          refine JL.val (yl_loadn Go.Proofs.Try.underlying28 rfl i28 rfl (fun w hC => rd_box hC 3 rfl) rfl (i28s).symm i28p) rfl ?_
          refine JL.val (yl_move rfl) rfl ?_
          obtain ⟨x35, hx35, hres⟩ := bind_some hres
          refine JL.eff (ef_callms (caps := []) (vs := [.agg #[.int .i64 x15.W, .int .i64 x15.H, .slice a16 x15.Breaks.length cp17], .int .i64 1]) (T := T28 a16 x15.Breaks.length cp17 x35) [4] [0, 1, 2, 3, 5, 6] [rowT 2 eI64 a16 x15.Breaks.length cp17 x15.Breaks] [boxO 24 g1 [.int .i64 q0.W, .int .i64 q0.H, .slice a_0_2 q0.Breaks.length c_0_2], rowT 61 eHd a9 x8.1.length cp10 hs12, innO 35 eSPoint none hs12 x8.1, boxO 28 g19 [.int .i64 x15.W, .int .i64 x15.H, .slice a16 x15.Breaks.length cp17], rowT 61 eHd a22 x21.1.length cp23 hs25, innO 35 eSPoint none hs25 x21.1] rfl Go.Proofs.Try.func28 rfl (by kernel_rfl) rfl (by decide) rfl rfl (fun w N hF hS => c28 (q0 := x15) rfl hS hx35)) rfl ?_
          rintro _ _ ⟨_, _, ⟨l36, rfl, rfl, rfl⟩, rfl⟩
          refine JL.val (yl_assign rfl) rfl ?_
          refine JL.nil ?_
          refine JE.weak (env' := [(1, ptrAt (some ⟨g1, 0, none⟩) 0), (4, .slice a9 x8.1.length cp10), (5, .int .i64 x8.2), (7, .slice a22 x21.1.length cp23), (8, .int .i64 x21.2), (9, .int .i64 x35.1)]) (es' := [boxO 24 g1 [.int .i64 q0.W, .int .i64 q0.H, .slice a_0_2 q0.Breaks.length c_0_2], rowT 61 eHd a9 x8.1.length cp10 hs12, innO 35 eSPoint none hs12 x8.1, rowT 61 eHd a22 x21.1.length cp23 hs25, innO 35 eSPoint none hs25 x21.1]) [0, 1, 2, 4, 5] ?_ ⟨rfl, rfl, rfl, rfl, rfl, rfl, trivial⟩ (by decide) rfl
          refine JE.code ?_
          refine JX.seq ?_
          refine JX.seq ?_
          refine JX.region ?_
          refine JL.val (yl_move rfl) rfl ?_
          refine JL.val (yl_lss rfl rfl) rfl ?_
          refine JL.val (yl_move rfl) rfl ?_
          obtain ⟨cb37, hcb37, hres⟩ := bind_some hres
          refine JL.cut (K := fun J => J [(1, ptrAt (some ⟨g1, 0, none⟩) 0), (4, .slice a9 x8.1.length cp10), (5, .int .i64 x8.2), (7, .slice a22 x21.1.length cp23), (8, .int .i64 x21.2), (56, .bool cb37)] [boxO 24 g1 [.int .i64 q0.W, .int .i64 q0.H, .slice a_0_2 q0.Breaks.length c_0_2], rowT 61 eHd a9 x8.1.length cp10 hs12, innO 35 eSPoint none hs12 x8.1, rowT 61 eHd a22 x21.1.length cp23 hs25, innO 35 eSPoint none hs25 x21.1]) 5 ?_ ?_
          · refine JL.val (yl_move rfl) rfl ?_
            refine JL.cut (K := fun J => J [(1, ptrAt (some ⟨g1, 0, none⟩) 0), (4, .slice a9 x8.1.length cp10), (5, .int .i64 x8.2), (7, .slice a22 x21.1.length cp23), (61, .bool (cb37 || (x21.2 != x8.2)))] [boxO 24 g1 [.int .i64 q0.W, .int .i64 q0.H, .slice a_0_2 q0.Breaks.length c_0_2], rowT 61 eHd a9 x8.1.length cp10 hs12, innO 35 eSPoint none hs12 x8.1, rowT 61 eHd a22 x21.1.length cp23 hs25, innO 35 eSPoint none hs25 x21.1]) 4 ?_ ?_
            · refine JL.nil ?_
              refine JE.weak (env' := [(1, ptrAt (some ⟨g1, 0, none⟩) 0), (4, .slice a9 x8.1.length cp10), (5, .int .i64 x8.2), (7, .slice a22 x21.1.length cp23), (61, .bool (cb37 || (x21.2 != x8.2)))]) (es' := [boxO 24 g1 [.int .i64 q0.W, .int .i64 q0.H, .slice a_0_2 q0.Breaks.length c_0_2], rowT 61 eHd a9 x8.1.length cp10 hs12, innO 35 eSPoint none hs12 x8.1, rowT 61 eHd a22 x21.1.length cp23 hs25, innO 35 eSPoint none hs25 x21.1]) [0, 1, 2, 3, 4] ?_ ⟨rfl, rfl, rfl, rfl, rfl, trivial⟩ (by decide) rfl
              refine JE.code ?_
              rcases cond_some hres with ⟨hb, hres⟩ | ⟨hb, hres⟩
              · refine JX.condT rfl hb ?_
                refine JX.seq ?_
                refine JX.region ?_
                refine JL.val (yl_assign rfl) rfl ?_
                refine JL.nil ?_
                refine JE.weak (env' := [(2, .bool false)]) (es' := []) [] ?_ ⟨rfl, trivial⟩ (by decide) rfl
                refine JE.code ?_
                refine JX.ret ?_
                obtain rfl := Option.some.inj hres
                refine JE.ret (rs := [.tmp 2]) (vs := [.bool false]) rfl ⟨rfl, trivial⟩ ?_
                exact fun w' hb hs => ⟨_, _, ⟨rfl, rfl⟩, rfl, hb, hs.sel [] _ (by decide) rfl⟩
              · refine JX.condF rfl hb ?_
                refine JX.skip ?_
                refine JE.code ?_
                refine JX.seq ?_
                refine JX.region ?_
                refine JL.val (yl_assign rfl) rfl ?_
                refine JL.nil ?_
                refine JE.code ?_
                refine JX.seq ?_
                refine JX.region ?_
                refine JL.val (yl_move rfl) rfl ?_
                refine JL.val (yl_move rfl) rfl ?_
                obtain ⟨x39, hx39, hres⟩ := bind_some hres
                refine JL.eff (ef_callms (caps := []) (vs := [.slice a22 x21.1.length cp23, .int .i64 1]) (T := T29 a22 x21.1.length cp23 hs25 x39) [3, 4] [0, 1, 2] [rowT 61 eHd a22 x21.1.length cp23 hs25, innO 35 eSPoint none hs25 x21.1] [boxO 24 g1 [.int .i64 q0.W, .int .i64 q0.H, .slice a_0_2 q0.Breaks.length c_0_2], rowT 61 eHd a9 x8.1.length cp10 hs12, innO 35 eSPoint none hs12 x8.1] rfl Go.Proofs.Try.func29 rfl (by kernel_rfl) rfl (by decide) rfl rfl (fun w N hF hS => c29  hi26 rfl hS hx39)) rfl ?_
                rintro _ _ ⟨_, _, ⟨l40, hi41, rfl, rfl, rfl⟩, rfl⟩
                refine JL.val (yl_assign rfl) rfl ?_
                refine JL.nil ?_
                refine JE.weak (env' := [(1, ptrAt (some ⟨g1, 0, none⟩) 0), (4, .slice a9 x8.1.length cp10), (5, .int .i64 x8.2), (7, .slice a22 x21.1.length cp23), (10, .int .i64 x39.1)]) (es' := [boxO 24 g1 [.int .i64 q0.W, .int .i64 q0.H, .slice a_0_2 q0.Breaks.length c_0_2], rowT 61 eHd a9 x8.1.length cp10 hs12, innO 35 eSPoint none hs12 x8.1, rowT 61 eHd a22 x21.1.length cp23 hs25, innO 35 eSPoint none hs25 x39.2]) [0, 1, 2, 3, 4] ?_ ⟨rfl, rfl, rfl, rfl, rfl, trivial⟩ (by decide) rfl
                refine JE.code ?_
                refine JX.seq ?_
                refine JX.region ?_
                refine JL.val (yl_assign rfl) rfl ?_
                refine JL.nil ?_
                refine JE.code ?_
                refine JX.seq ?_
                refine JX.region ?_
                refine JL.val (yl_move rfl) rfl ?_
                refine JL.val (yl_move rfl) rfl ?_
                obtain ⟨x42, hx42, hres⟩ := bind_some hres
                refine JL.eff (ef_call (T := T30 x42) Go.Proofs.Try.func30 rfl (by kernel_rfl) rfl (fun w hC => c30 (rd_row hC 3 rfl) (rd_inn hC 4 rfl) hi41 ((Inn.len hi41).symm.trans (Inn.len hi26)) (ln_row hC 3 rfl) hx42)) rfl ?_
                rintro _ _ ⟨_, ⟨rfl, rfl⟩, rfl⟩
                refine JL.val (yl_assign rfl) rfl ?_
                refine JL.nil ?_
                refine JE.weak (env' := [(1, ptrAt (some ⟨g1, 0, none⟩) 0), (4, .slice a9 x8.1.length cp10), (5, .int .i64 x8.2), (7, .slice a22 x21.1.length cp23), (10, .int .i64 x39.1), (11, .int .i64 x42)]) (es' := [boxO 24 g1 [.int .i64 q0.W, .int .i64 q0.H, .slice a_0_2 q0.Breaks.length c_0_2], rowT 61 eHd a9 x8.1.length cp10 hs12, innO 35 eSPoint none hs12 x8.1, rowT 61 eHd a22 x21.1.length cp23 hs25, innO 35 eSPoint none hs25 x39.2]) [0, 1, 2, 3, 4] ?_ ⟨rfl, rfl, rfl, rfl, rfl, rfl, trivial⟩ (by decide) rfl
                refine JE.code ?_
                refine JX.seq ?_
                refine JX.seq ?_
                refine JX.region ?_
                refine JL.val (yl_move rfl) rfl ?_
                refine JL.val (yl_lss rfl rfl) rfl ?_
                refine JL.nil ?_
                refine JE.code ?_
                rcases cond_some hres with ⟨hb, hres⟩ | ⟨hb, hres⟩
                · refine JX.condT rfl hb ?_
                  refine JX.seq ?_
                  refine JX.region ?_
                  refine JL.val (yl_assign rfl) rfl ?_
                  refine JL.nil ?_
                  refine JE.weak (env' := [(2, .bool false)]) (es' := []) [] ?_ ⟨rfl, trivial⟩ (by decide) rfl
                  refine JE.code ?_
                  refine JX.ret ?_
                  obtain rfl := Option.some.inj hres
                  refine JE.ret (rs := [.tmp 2]) (vs := [.bool false]) rfl ⟨rfl, trivial⟩ ?_
                  exact fun w' hb hs => ⟨_, _, ⟨rfl, rfl⟩, rfl, hb, hs.sel [] _ (by decide) rfl⟩
                · refine JX.condF rfl hb ?_
                  refine JX.skip ?_
                  refine JE.code ?_
                  refine JX.seq ?_
                  refine JX.seq ?_
                  refine JX.region ?_
                  refine JL.val (yl_move rfl) rfl ?_
                  refine JL.val (yl_move rfl) rfl ?_
                  refine JL.val (yl_neq rfl rfl) rfl ?_
                  refine JL.nil ?_
                  refine JE.code ?_
                  rcases cond_some hres with ⟨hb, hres⟩ | ⟨hb, hres⟩
                  · refine JX.condT rfl hb ?_
                    refine JX.seq ?_
                    refine JX.region ?_
                    refine JL.val (yl_assign rfl) rfl ?_
                    refine JL.nil ?_
                    refine JE.weak (env' := [(2, .bool false)]) (es' := []) [] ?_ ⟨rfl, trivial⟩ (by decide) rfl
                    refine JE.code ?_
                    refine JX.ret ?_
                    obtain rfl := Option.some.inj hres
                    refine JE.ret (rs := [.tmp 2]) (vs := [.bool false]) rfl ⟨rfl, trivial⟩ ?_
                    exact fun w' hb hs => ⟨_, _, ⟨rfl, rfl⟩, rfl, hb, hs.sel [] _ (by decide) rfl⟩
                  · refine JX.condF rfl hb ?_
                    refine JX.skip ?_
                    refine JE.code ?_
                    refine JX.seq ?_
                    refine JX.region ?_
                    refine JL.val (yl_loadn Go.Proofs.Try.underlying24 rfl i24 rfl (fun w hC => rd_box hC 0 rfl) rfl (i24s).symm i24p) rfl ?_
                    obtain ⟨x43, hx43, hres⟩ := bind_some hres
                    refine JL.eff (ef_call (vs := [.agg #[.int .i64 q0.W, .int .i64 q0.H, .slice a_0_2 q0.Breaks.length c_0_2]]) (T := T17 x43) Go.Proofs.Try.func17 rfl (by kernel_rfl) rfl (fun w hC => c17 (q0 := q0) (rd_arg g_0_2 hC) rfl k_0_2 hx43)) rfl ?_
                    rintro _ _ ⟨_, ⟨a44, _, cp45, rfl, rfl, rfl⟩, rfl⟩
                    obtain ⟨x47, hx47, hres⟩ := bind_some hres
                    refine JL.eff (ef_call (vs := [.agg #[.int .i64 x43.W, .int .i64 x43.H, .slice a44 x43.Breaks.length cp45]]) (T := T26 x47) Go.Proofs.Try.func26 rfl (by kernel_rfl) rfl (fun w hC => c26 (q0 := x43) (rd_row hC 5 rfl) rfl (ln_row hC 5 rfl) hx47)) rfl ?_
                    rintro _ _ ⟨_, ⟨a48, _, cp49, hs51, rfl, hi52, rfl, rfl⟩, rfl⟩
                    refine JL.val (yl_move rfl) rfl ?_
                    refine JL.val (yl_extract rfl rfl) rfl ?_
                    refine JL.val (yl_extract rfl rfl) rfl ?_
                    refine JL.val (yl_assign rfl) rfl ?_
                    refine JL.val (yl_assign rfl) rfl ?_
                    refine JL.nil ?_
                    refine JE.weak (env' := [(4, .slice a9 x8.1.length cp10), (5, .int .i64 x8.2), (7, .slice a22 x21.1.length cp23), (10, .int .i64 x39.1), (12, .slice a48 x47.1.length cp49), (13, .int .i64 x47.2)]) (es' := [rowT 61 eHd a9 x8.1.length cp10 hs12, innO 35 eSPoint none hs12 x8.1, rowT 61 eHd a22 x21.1.length cp23 hs25, innO 35 eSPoint none hs25 x39.2, rowT 61 eHd a48 x47.1.length cp49 hs51, innO 35 eSPoint none hs51 x47.1]) [1, 2, 3, 4, 6, 7] ?_ ⟨rfl, rfl, rfl, rfl, rfl, rfl, trivial⟩ (by decide) rfl
                    refine JE.code ?_
                    refine JX.seq ?_
                    refine JX.seq ?_
                    refine JX.region ?_
                    refine JL.val (yl_move rfl) rfl ?_
                    refine JL.val (yl_move rfl) rfl ?_
                    obtain ⟨x54, hx54, hres⟩ := bind_some hres
                    refine JL.eff (ef_call (T := T27 x54) Go.Proofs.Try.func27 rfl (by kernel_rfl) rfl (fun w hC => c27 (rd_row hC 4 rfl) (rd_inn hC 5 rfl) hi52 rfl (ln_row hC 4 rfl) (rd_row hC 0 rfl) (rd_inn hC 1 rfl) hi13 rfl (ln_row hC 0 rfl) hx54)) rfl ?_
                    rintro _ _ ⟨_, ⟨rfl, rfl⟩, rfl⟩
                    refine JL.val (yl_not rfl) rfl ?_
                    refine JL.val (yl_move rfl) rfl ?_
                    refine JL.cut (K := fun J => J [(7, .slice a22 x21.1.length cp23), (10, .int .i64 x39.1), (87, .bool (!x54 || (x47.2 != x8.2)))] [rowT 61 eHd a22 x21.1.length cp23 hs25, innO 35 eSPoint none hs25 x39.2]) 4 ?_ ?_
                    · refine JL.nil ?_
                      refine JE.weak (env' := [(7, .slice a22 x21.1.length cp23), (10, .int .i64 x39.1), (87, .bool (!x54 || (x47.2 != x8.2)))]) (es' := [rowT 61 eHd a22 x21.1.length cp23 hs25, innO 35 eSPoint none hs25 x39.2]) [0, 1] ?_ ⟨rfl, rfl, rfl, trivial⟩ (by decide) rfl
                      refine JE.code ?_
                      rcases cond_some hres with ⟨hb, hres⟩ | ⟨hb, hres⟩
                      · refine JX.condT rfl hb ?_
                        refine JX.seq ?_
                        refine JX.region ?_
                        refine JL.val (yl_assign rfl) rfl ?_
                        refine JL.nil ?_
                        refine JE.weak (env' := [(2, .bool false)]) (es' := []) [] ?_ ⟨rfl, trivial⟩ (by decide) rfl
                        refine JE.code ?_
                        refine JX.ret ?_
                        obtain rfl := Option.some.inj hres
                        refine JE.ret (rs := [.tmp 2]) (vs := [.bool false]) rfl ⟨rfl, trivial⟩ ?_
                        exact fun w' hb hs => ⟨_, _, ⟨rfl, rfl⟩, rfl, hb, hs.sel [] _ (by decide) rfl⟩
                      · refine JX.condF rfl hb ?_
                        refine JX.skip ?_
                        refine JE.code ?_
                        refine JX.seq ?_
                        refine JX.region ?_
                        refine JL.val (yl_assign rfl) rfl ?_
                        refine JL.nil ?_
                        refine JE.code ?_
                        refine JX.seq ?_
                        refine JX.region ?_
                        refine JL.val (yl_move rfl) rfl ?_
                        refine JL.val (yl_move rfl) rfl ?_
                        obtain ⟨x55, hx55, hres⟩ := bind_some hres
                        refine JL.eff (ef_call (T := T30 x55) Go.Proofs.Try.func30 rfl (by kernel_rfl) rfl (fun w hC => c30 (rd_row hC 0 rfl) (rd_inn hC 1 rfl) hi41 ((Inn.len hi41).symm.trans (Inn.len hi26)) (ln_row hC 0 rfl) hx55)) rfl ?_
                        rintro _ _ ⟨_, ⟨rfl, rfl⟩, rfl⟩
                        refine JL.val (yl_assign rfl) rfl ?_
                        refine JL.nil ?_
                        refine JE.weak (env' := [(10, .int .i64 x39.1), (11, .int .i64 x55)]) (es' := []) [] ?_ ⟨rfl, rfl, trivial⟩ (by decide) rfl
                        refine JE.code ?_
                        refine JX.seq ?_
                        refine JX.seq ?_
                        refine JX.region ?_
                        refine JL.val (yl_move rfl) rfl ?_
                        refine JL.val (yl_lss rfl rfl) rfl ?_
                        refine JL.nil ?_
                        refine JE.code ?_
                        rcases cond_some hres with ⟨hb, hres⟩ | ⟨hb, hres⟩
                        · refine JX.condT rfl hb ?_
                          refine JX.seq ?_
                          refine JX.region ?_
                          refine JL.val (yl_assign rfl) rfl ?_
                          refine JL.nil ?_
                          refine JE.code ?_
                          refine JX.ret ?_
                          obtain rfl := Option.some.inj hres
                          refine JE.ret (rs := [.tmp 2]) (vs := [.bool false]) rfl ⟨rfl, trivial⟩ ?_
                          exact fun w' hb hs => ⟨_, _, ⟨rfl, rfl⟩, rfl, hb, hs.sel [] _ (by decide) rfl⟩
                        · refine JX.condF rfl hb ?_
                          refine JX.skip ?_
                          refine JE.code ?_
                          refine JX.seq ?_
                          refine JX.seq ?_
                          refine JX.region ?_
                          refine JL.val (yl_move rfl) rfl ?_
                          refine JL.val (yl_move rfl) rfl ?_
                          refine JL.val (yl_neq rfl rfl) rfl ?_
                          refine JL.nil ?_
                          refine JE.code ?_
                          rcases cond_some hres with ⟨hb, hres⟩ | ⟨hb, hres⟩
                          · refine JX.condT rfl hb ?_
                            refine JX.seq ?_
                            refine JX.region ?_
                            refine JL.val (yl_assign rfl) rfl ?_
                            refine JL.nil ?_
                            refine JE.code ?_
                            refine JX.ret ?_
                            obtain rfl := Option.some.inj hres
                            refine JE.ret (rs := [.tmp 2]) (vs := [.bool false]) rfl ⟨rfl, trivial⟩ ?_
                            exact fun w' hb hs => ⟨_, _, ⟨rfl, rfl⟩, rfl, hb, hs.sel [] _ (by decide) rfl⟩
                          · refine JX.condF rfl hb ?_
                            refine JX.skip ?_
                            refine JE.code ?_
                            refine JX.seq ?_
                            refine JX.region ?_
                            refine JL.val (yl_assign rfl) rfl ?_
                            refine JL.nil ?_
                            refine JE.code ?_
                            refine JX.ret ?_
                            obtain rfl := Option.some.inj hres
                            refine JE.ret (rs := [.tmp 2]) (vs := [.bool true]) rfl ⟨rfl, trivial⟩ ?_
                            exact fun w' hb hs => ⟨_, _, ⟨rfl, rfl⟩, rfl, hb, hs.sel [] _ (by decide) rfl⟩
                    · intro K
                      rcases Bool.eq_false_or_eq_true (!x54) with hb | hb
                      · refine JL.set (d := 83) (v := .bool true) (congrArg (fun b => some (Value.bool b)) hb) ?_
                        refine JL.gskip rfl rfl rfl rfl ?_
                        refine JL.gskip rfl rfl rfl rfl ?_
                        refine JL.gskip rfl rfl rfl rfl ?_
                        refine JL.val (yl_pick_true rfl rfl) rfl ?_
                        exact JL.weak [2, 3] K ⟨rfl, rfl, (by rw [hb]; rfl), trivial⟩ (by decide) rfl
                      · refine JL.set (d := 83) (v := .bool false) (congrArg (fun b => some (Value.bool b)) hb) ?_
                        refine JL.gval rfl rfl (yl_move rfl) rfl ?_
                        refine JL.gval rfl rfl (yl_move rfl) rfl ?_
                        refine JL.gval rfl rfl (yl_neq rfl rfl) rfl ?_
                        refine JL.val (yl_pick_false rfl rfl) rfl ?_
                        exact JL.weak [2, 3] K ⟨rfl, rfl, (by rw [hb]; rfl), trivial⟩ (by decide) rfl
            · intro K
              rcases Bool.eq_false_or_eq_true (cb37) with hb | hb
              · refine JL.set (d := 57) (v := .bool true) (congrArg (fun b => some (Value.bool b)) hb) ?_
                refine JL.gskip rfl rfl rfl rfl ?_
                refine JL.gskip rfl rfl rfl rfl ?_
                refine JL.gskip rfl rfl rfl rfl ?_
                refine JL.val (yl_pick_true rfl rfl) rfl ?_
                exact JL.weak [0, 1, 2, 3, 4] K ⟨rfl, rfl, rfl, rfl, (by rw [hb]; rfl), trivial⟩ (by decide) rfl
              · refine JL.set (d := 57) (v := .bool false) (congrArg (fun b => some (Value.bool b)) hb) ?_
                refine JL.gval rfl rfl (yl_move rfl) rfl ?_
                refine JL.gval rfl rfl (yl_move rfl) rfl ?_
                refine JL.gval rfl rfl (yl_neq rfl rfl) rfl ?_
                refine JL.val (yl_pick_false rfl rfl) rfl ?_
                exact JL.weak [0, 1, 2, 3, 4] K ⟨rfl, rfl, rfl, rfl, (by rw [hb]; rfl), trivial⟩ (by decide) rfl
          · intro K
            rcases cond_some hcb37 with ⟨hb, hres⟩ | ⟨hb, hres⟩
            · refine JL.set (d := 51) (v := .bool true) (congrArg (fun b => some (Value.bool b)) hb) ?_
              refine JL.gskip rfl rfl rfl rfl ?_
              refine JL.gskip rfl rfl rfl rfl ?_
              refine JL.gskip rfl rfl rfl rfl ?_
              refine JL.gskip rfl rfl rfl rfl ?_
              refine JL.val (yl_pick_true rfl rfl) rfl ?_
              have he := Option.some.inj hres
              exact JL.weak [0, 1, 2, 3, 4] K ⟨rfl, rfl, rfl, rfl, rfl, (by rw [← he]; rfl), trivial⟩ (by decide) rfl
            · refine JL.set (d := 51) (v := .bool false) (congrArg (fun b => some (Value.bool b)) hb) ?_
              refine JL.gval rfl rfl (yl_move rfl) rfl ?_
              refine JL.gval rfl rfl (yl_move rfl) rfl ?_
              obtain ⟨x38, hx38, hres⟩ := bind_some hres
              refine JL.geff rfl rfl (ef_call (T := T27 x38) Go.Proofs.Try.func27 rfl (by kernel_rfl) rfl (fun w hC => c27 (rd_row hC 3 rfl) (rd_inn hC 4 rfl) hi26 rfl (ln_row hC 3 rfl) (rd_row hC 1 rfl) (rd_inn hC 2 rfl) hi13 rfl (ln_row hC 1 rfl) hx38)) rfl ?_
              rintro _ _ ⟨_, ⟨rfl, rfl⟩, rfl⟩
              refine JL.gval rfl rfl (yl_not rfl) rfl ?_
              refine JL.val (yl_pick_false rfl rfl) rfl ?_
              have he := Option.some.inj hres
              exact JL.weak [0, 1, 2, 3, 4] K ⟨rfl, rfl, rfl, rfl, rfl, (by rw [← he]; rfl), trivial⟩ (by decide) rfl
    · intro K
      rcases Bool.eq_false_or_eq_true (!x28) with hb | hb
      · refine JL.set (d := 36) (v := .bool true) (congrArg (fun b => some (Value.bool b)) hb) ?_
        refine JL.gskip rfl rfl rfl rfl ?_
        refine JL.gskip rfl rfl rfl rfl ?_
        refine JL.gskip rfl rfl rfl rfl ?_
        refine JL.val (yl_pick_true rfl rfl) rfl ?_
        exact JL.weak [0, 1, 2, 3, 4, 5, 6] K ⟨rfl, rfl, rfl, rfl, rfl, rfl, (by rw [hb]; rfl), trivial⟩ (by decide) rfl
      · refine JL.set (d := 36) (v := .bool false) (congrArg (fun b => some (Value.bool b)) hb) ?_
        refine JL.gval rfl rfl (yl_move rfl) rfl ?_
        refine JL.gval rfl rfl (yl_move rfl) rfl ?_
        refine JL.gval rfl rfl (yl_neq rfl rfl) rfl ?_
        refine JL.val (yl_pick_false rfl rfl) rfl ?_
        exact JL.weak [0, 1, 2, 3, 4, 5, 6] K ⟨rfl, rfl, rfl, rfl, rfl, rfl, (by rw [hb]; rfl), trivial⟩ (by decide) rfl

end Go.Sh
