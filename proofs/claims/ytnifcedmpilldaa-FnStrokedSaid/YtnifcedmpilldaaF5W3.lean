/- Walks through functions that the law reaches, printed by program. -/
import Derived.Test.YtnifcedmpilldaaF5W2
set_option linter.unusedVariables false
set_option linter.unusedSimpArgs false
namespace Go.Sh
open Go Go.RowKit
/- laws.FnStroked -/
def sh5 (q0 : List Int) : Option (Bool) := Option.bind (sh9 q0) fun x1 => bif x1 then (some true) else (Option.bind (sh36 q0) fun x2 => Option.bind (sh37 x2.1 x2.2.1 x2.2.2.1 x2.2.2.2) fun x10 => Option.bind (sh38 x2.1 x2.2.1 x2.2.2.1 x2.2.2.2) fun x14 => Option.bind (sh39 q0) fun x18 => Option.bind (sh40 x18.1 x18.2.1 x18.2.2) fun x27 => Option.bind (sh41 x18.1 x18.2.1 x18.2.2) fun x33 => Option.bind (sh42 q0) fun x39 => Option.bind (sh43 x39.1 x39.2.1 x39.2.2) fun x51 => Option.bind (sh44 x39.1 x39.2.1 x39.2.2) fun x60 => Option.bind (bif x10.2 != x14.2 then (some true) else (Option.bind (sh17 x10.1 x14.1) fun x70 => some !x70)) fun cb69 => (Option.bind (bif cb69 || (x27.2 != x33.2) then (some true) else (Option.bind (sh45 x27.1 x33.1) fun x72 => some !x72)) fun cb71 => (Option.bind (bif cb71 || (x51.2.2 != x60.2.2) then (some true) else (Option.bind (sh45 x51.1 x60.1) fun x74 => some !x74)) fun cb73 => (Option.bind (bif cb73 then (some true) else (Option.bind (sh46 x51.2.1 x60.2.1) fun x76 => some !x76)) fun cb75 => (bif cb75 then (some false) else (Option.bind (bif x10.2 != 0 then (some true) else (Option.bind (sh47 x10.1) fun x78 => some !x78)) fun cb77 => (bif cb77 then (some true) else (Option.bind (sh40 x2.1 x10.1 x2.2.2.2) fun x79 => Option.bind (sh48 x2.1 x2.2.1 x2.2.2.1) fun x85 => bif (x79.2 != 0) || (x85.2 != 0) then (some false) else (Option.bind (sh45 x79.1 x85.1) fun x91 => some x91)))))))))
def T5 (r : Bool) (v : Value) (rs : List Own) : Prop := v = rets [.bool r] ∧ rs = []
set_option maxRecDepth 100000 in
set_option maxHeartbeats 1000000 in
theorem c5 {w : World} {q0 : List Int} {a_0 : Option Addr} {n_0 c_0 : Nat} (g_0 : Rd w a_0 (eU8.fl q0)) (l_0 : q0.length = n_0) (k_0 : n_0 ≤ c_0) {r : Bool} (hres : sh5 q0 = some r) : Calls Go.Proofs.Try.prog 5 [.slice a_0 n_0 c_0].toArray w (Ret w (T5 r)) := by
  subst l_0
  unfold sh5 at hres
  refine calls_of (n := 165) (M := []) (es := []) Go.Proofs.Try.func5 rfl rfl rfl (Sep.nil _ _ _) ?_
  refine JX.seq ?_
  refine JX.region ?_
  refine JL.val (yl_assign rfl) rfl ?_
  refine JL.nil ?_
  refine JE.code ?_
  refine JX.seq ?_
  refine JX.seq ?_
  refine JX.region ?_
  refine JL.val (yl_move rfl) rfl ?_
  obtain ⟨x1, hx1, hres⟩ := bind_some hres
  refine JL.eff (ef_call (T := T9 x1) Go.Proofs.Try.func9 rfl (by kernel_rfl) rfl (fun w hC => c9 (rd_arg g_0 hC) rfl k_0 hx1)) rfl ?_
  rintro _ _ ⟨_, ⟨rfl, rfl⟩, rfl⟩
  refine JL.nil ?_
  refine JE.code ?_
  rcases cond_some hres with ⟨hb, hres⟩ | ⟨hb, hres⟩
  · refine JX.condT rfl hb ?_
    refine JX.seq ?_
    refine JX.region ?_
    refine JL.val (yl_assign rfl) rfl ?_
    refine JL.nil ?_
    refine JE.code ?_
    refine JX.ret ?_
    obtain rfl := Option.some.inj hres
    refine JE.ret (rs := [.tmp 2]) (vs := [.bool true]) rfl ⟨rfl, trivial⟩ ?_
    exact fun w' hb hs => ⟨_, _, ⟨rfl, rfl⟩, rfl, hb, hs.sel [] _ (by decide) rfl⟩
  · refine JX.condF rfl hb ?_
    refine JX.skip ?_
    refine JE.code ?_
    refine JX.seq ?_
    refine JX.region ?_
    refine JL.val (yl_move rfl) rfl ?_
    obtain ⟨x2, hx2, hres⟩ := bind_some hres
    refine JL.eff (ef_call (T := T36 x2) Go.Proofs.Try.func36 rfl (by kernel_rfl) rfl (fun w hC => c36 (rd_arg g_0 hC) rfl k_0 hx2)) rfl ?_
    rintro _ _ ⟨_, ⟨a3, _, cp4, rfl, rfl, rfl⟩, rfl⟩
    refine JL.val (yl_move rfl) rfl ?_
    refine JL.val (yl_extract rfl rfl) rfl ?_
    refine JL.val (yl_extract rfl rfl) rfl ?_
    refine JL.val (yl_extract rfl rfl) rfl ?_
    refine JL.val (yl_extract rfl rfl) rfl ?_
    refine JL.eff (ef_alloc i26 i26z rfl) rfl ?_
    rintro _ _ ⟨g6, rfl, rfl⟩
    refine JL.eff (ef_alloc i42 i42z rfl) rfl ?_
    rintro _ _ ⟨g8, rfl, rfl⟩
    refine JL.eff (ef_store_box (i := 1) (v := .agg #[.int .i64 x2.1.W, .int .i64 x2.1.H, .slice a3 x2.1.Breaks.length cp4]) i26 rfl rfl rfl (i26s).symm (Nat.le_of_ble_eq_true rfl) (by simp [Value.cells, Value.oneCell'])) rfl ?_
    rintro _ _ rfl
    refine JL.eff (ef_store_box (i := 2) (v := .agg #[.int .i64 x2.2.1.X, .int .i64 x2.2.1.Y]) i42 rfl rfl rfl (i42s).symm (Nat.le_of_ble_eq_true rfl) (by simp [Value.cells, Value.oneCell'])) rfl ?_
    rintro _ _ rfl
    refine JL.val (yl_assign rfl) rfl ?_
    refine JL.val (yl_assign rfl) rfl ?_
    refine JL.nil ?_
    refine JE.weak (env' := [(0, .slice a_0 q0.length c_0), (3, ptrAt (some ⟨g6, 0, none⟩) 0), (4, ptrAt (some ⟨g8, 0, none⟩) 0), (5, .int .i64 x2.2.2.1), (6, .int .i64 x2.2.2.2)]) (es' := [boxO 26 g6 [.int .i64 x2.1.W, .int .i64 x2.1.H, .slice a3 x2.1.Breaks.length cp4], rowT 2 eI64 a3 x2.1.Breaks.length cp4 x2.1.Breaks, boxO 42 g8 [.int .i64 x2.2.1.X, .int .i64 x2.2.1.Y]]) [1, 0, 2] ?_ ⟨rfl, rfl, rfl, rfl, rfl, trivial⟩ (by decide) rfl
    refine JE.code ?_
    refine JX.seq ?_
    refine JX.region ?_
    refine JL.val (yl_loadn Go.Proofs.Try.underlying26 rfl i26 rfl (fun w hC => rd_box hC 0 rfl) rfl (i26s).symm i26p) rfl ?_
    refine JL.val (yl_loadn Go.Proofs.Try.underlying42 rfl i42 rfl (fun w hC => rd_box hC 2 rfl) rfl (i42s).symm i42p) rfl ?_
    refine JL.val (yl_move rfl) rfl ?_
    refine JL.val (yl_move rfl) rfl ?_
    obtain ⟨x10, hx10, hres⟩ := bind_some hres
    refine JL.eff (ef_call (vs := [.agg #[.int .i64 x2.1.W, .int .i64 x2.1.H, .slice a3 x2.1.Breaks.length cp4], .agg #[.int .i64 x2.2.1.X, .int .i64 x2.2.1.Y], .int .i64 x2.2.2.1, .int .i64 x2.2.2.2]) (T := T37 x10) Go.Proofs.Try.func37 rfl (by kernel_rfl) rfl (fun w hC => c37 (q0 := x2.1) (q1 := x2.2.1) (rd_row hC 1 rfl) rfl (ln_row hC 1 rfl) hx10)) rfl ?_
    rintro _ _ ⟨_, ⟨a11, _, cp12, rfl, rfl, rfl⟩, rfl⟩
    refine JL.val (yl_move rfl) rfl ?_
    refine JL.val (yl_extract rfl rfl) rfl ?_
    refine JL.val (yl_extract rfl rfl) rfl ?_
    refine JL.val (yl_assign rfl) rfl ?_
    refine JL.val (yl_assign rfl) rfl ?_
    refine JL.nil ?_
    refine JE.weak (env' := [(0, .slice a_0 q0.length c_0), (3, ptrAt (some ⟨g6, 0, none⟩) 0), (4, ptrAt (some ⟨g8, 0, none⟩) 0), (5, .int .i64 x2.2.2.1), (6, .int .i64 x2.2.2.2), (7, .slice a11 x10.1.length cp12), (8, .int .i64 x10.2)]) (es' := [boxO 26 g6 [.int .i64 x2.1.W, .int .i64 x2.1.H, .slice a3 x2.1.Breaks.length cp4], rowT 2 eI64 a3 x2.1.Breaks.length cp4 x2.1.Breaks, boxO 42 g8 [.int .i64 x2.2.1.X, .int .i64 x2.2.1.Y], rowT 42 eSPoint a11 x10.1.length cp12 x10.1]) [0, 1, 2, 3] ?_ ⟨rfl, rfl, rfl, rfl, rfl, rfl, rfl, trivial⟩ (by decide) rfl
    refine JE.code ?_
    refine JX.seq ?_
    refine JX.region ?_
    refine JL.val (yl_loadn Go.Proofs.Try.underlying26 rfl i26 rfl (fun w hC => rd_box hC 0 rfl) rfl (i26s).symm i26p) rfl ?_
    refine JL.val (yl_loadn Go.Proofs.Try.underlying42 rfl i42 rfl (fun w hC => rd_box hC 2 rfl) rfl (i42s).symm i42p) rfl ?_
    refine JL.val (yl_move rfl) rfl ?_
    refine JL.val (yl_move rfl) rfl ?_
    obtain ⟨x14, hx14, hres⟩ := bind_some hres
    refine JL.eff (ef_call (vs := [.agg #[.int .i64 x2.1.W, .int .i64 x2.1.H, .slice a3 x2.1.Breaks.length cp4], .agg #[.int .i64 x2.2.1.X, .int .i64 x2.2.1.Y], .int .i64 x2.2.2.1, .int .i64 x2.2.2.2]) (T := T38 x14) Go.Proofs.Try.func38 rfl (by kernel_rfl) rfl (fun w hC => c38 (q0 := x2.1) (q1 := x2.2.1) (rd_row hC 1 rfl) rfl (ln_row hC 1 rfl) hx14)) rfl ?_
    rintro _ _ ⟨_, ⟨a15, _, cp16, rfl, rfl, rfl⟩, rfl⟩
    refine JL.val (yl_move rfl) rfl ?_
    refine JL.val (yl_extract rfl rfl) rfl ?_
    refine JL.val (yl_extract rfl rfl) rfl ?_
    refine JL.val (yl_assign rfl) rfl ?_
    refine JL.val (yl_assign rfl) rfl ?_
    refine JL.nil ?_
    refine JE.weak (env' := [(0, .slice a_0 q0.length c_0), (3, ptrAt (some ⟨g6, 0, none⟩) 0), (4, ptrAt (some ⟨g8, 0, none⟩) 0), (5, .int .i64 x2.2.2.1), (6, .int .i64 x2.2.2.2), (7, .slice a11 x10.1.length cp12), (8, .int .i64 x10.2), (9, .slice a15 x14.1.length cp16), (10, .int .i64 x14.2)]) (es' := [boxO 26 g6 [.int .i64 x2.1.W, .int .i64 x2.1.H, .slice a3 x2.1.Breaks.length cp4], rowT 2 eI64 a3 x2.1.Breaks.length cp4 x2.1.Breaks, boxO 42 g8 [.int .i64 x2.2.1.X, .int .i64 x2.2.1.Y], rowT 42 eSPoint a11 x10.1.length cp12 x10.1, rowT 42 eSPoint a15 x14.1.length cp16 x14.1]) [0, 1, 2, 3, 4] ?_ ⟨rfl, rfl, rfl, rfl, rfl, rfl, rfl, rfl, rfl, trivial⟩ (by decide) rfl
    refine JE.code ?_
    refine JX.seq ?_
    refine JX.region ?_
    refine JL.val (yl_move rfl) rfl ?_
    obtain ⟨x18, hx18, hres⟩ := bind_some hres
    refine JL.eff (ef_call (T := T39 x18) Go.Proofs.Try.func39 rfl (by kernel_rfl) rfl (fun w hC => c39 (rd_arg g_0 hC) rfl k_0 hx18)) rfl ?_
    rintro _ _ ⟨_, ⟨a19, _, cp20, rfl, a22, _, cp23, rfl, rfl, rfl⟩, rfl⟩
    refine JL.val (yl_move rfl) rfl ?_
    refine JL.val (yl_extract rfl rfl) rfl ?_
    refine JL.val (yl_extract rfl rfl) rfl ?_
    refine JL.val (yl_extract rfl rfl) rfl ?_
    refine JL.eff (ef_alloc i26 i26z rfl) rfl ?_
    rintro _ _ ⟨g25, rfl, rfl⟩
    refine JL.eff (ef_store_box (i := 7) (v := .agg #[.int .i64 x18.1.W, .int .i64 x18.1.H, .slice a19 x18.1.Breaks.length cp20]) i26 rfl rfl rfl (i26s).symm (Nat.le_of_ble_eq_true rfl) (by simp [Value.cells, Value.oneCell'])) rfl ?_
    rintro _ _ rfl
    refine JL.val (yl_assign rfl) rfl ?_
    refine JL.val (yl_assign rfl) rfl ?_
    refine JL.nil ?_
    refine JE.weak (env' := [(0, .slice a_0 q0.length c_0), (3, ptrAt (some ⟨g6, 0, none⟩) 0), (4, ptrAt (some ⟨g8, 0, none⟩) 0), (5, .int .i64 x2.2.2.1), (6, .int .i64 x2.2.2.2), (7, .slice a11 x10.1.length cp12), (8, .int .i64 x10.2), (9, .slice a15 x14.1.length cp16), (10, .int .i64 x14.2), (11, ptrAt (some ⟨g25, 0, none⟩) 0), (12, .slice a22 x18.2.1.length cp23), (13, .int .i64 x18.2.2)]) (es' := [boxO 26 g6 [.int .i64 x2.1.W, .int .i64 x2.1.H, .slice a3 x2.1.Breaks.length cp4], rowT 2 eI64 a3 x2.1.Breaks.length cp4 x2.1.Breaks, boxO 42 g8 [.int .i64 x2.2.1.X, .int .i64 x2.2.1.Y], rowT 42 eSPoint a11 x10.1.length cp12 x10.1, rowT 42 eSPoint a15 x14.1.length cp16 x14.1, boxO 26 g25 [.int .i64 x18.1.W, .int .i64 x18.1.H, .slice a19 x18.1.Breaks.length cp20], rowT 2 eI64 a19 x18.1.Breaks.length cp20 x18.1.Breaks, rowT 42 eSPoint a22 x18.2.1.length cp23 x18.2.1]) [0, 1, 2, 3, 4, 7, 5, 6] ?_ ⟨rfl, rfl, rfl, rfl, rfl, rfl, rfl, rfl, rfl, rfl, rfl, rfl, trivial⟩ (by decide) rfl
    refine JE.code ?_
    refine JX.seq ?_
    refine JX.region ?_
    refine JL.val (yl_loadn Go.Proofs.Try.underlying26 rfl i26 rfl (fun w hC => rd_box hC 5 rfl) rfl (i26s).symm i26p) rfl ?_
    refine JL.val (yl_move rfl) rfl ?_
    refine JL.val (yl_move rfl) rfl ?_
    obtain ⟨x27, hx27, hres⟩ := bind_some hres
    refine JL.eff (ef_call (vs := [.agg #[.int .i64 x18.1.W, .int .i64 x18.1.H, .slice a19 x18.1.Breaks.length cp20], .slice a22 x18.2.1.length cp23, .int .i64 x18.2.2]) (T := T40 x27) Go.Proofs.Try.func40 rfl (by kernel_rfl) rfl (fun w hC => c40 (q0 := x18.1) (rd_row hC 6 rfl) rfl (ln_row hC 6 rfl) (rd_row hC 7 rfl) rfl (ln_row hC 7 rfl) hx27)) rfl ?_
    rintro _ _ ⟨_, ⟨a28, _, cp29, rfl, rfl, rfl⟩, rfl⟩
    refine JL.val (yl_move rfl) rfl ?_
    refine JL.val (yl_extract rfl rfl) rfl ?_
    refine JL.val (yl_extract rfl rfl) rfl ?_
    refine JL.eff (ef_alloc i26 i26z rfl) rfl ?_
    rintro _ _ ⟨g31, rfl, rfl⟩
    refine JL.eff (ef_store_box (i := 9) (v := .agg #[.int .i64 x27.1.W, .int .i64 x27.1.H, .slice a28 x27.1.Breaks.length cp29]) i26 rfl rfl rfl (i26s).symm (Nat.le_of_ble_eq_true rfl) (by simp [Value.cells, Value.oneCell'])) rfl ?_
    rintro _ _ rfl
    refine JL.val (yl_assign rfl) rfl ?_
    refine JL.nil ?_
    refine JE.weak (env' := [(0, .slice a_0 q0.length c_0), (3, ptrAt (some ⟨g6, 0, none⟩) 0), (4, ptrAt (some ⟨g8, 0, none⟩) 0), (5, .int .i64 x2.2.2.1), (6, .int .i64 x2.2.2.2), (7, .slice a11 x10.1.length cp12), (8, .int .i64 x10.2), (9, .slice a15 x14.1.length cp16), (10, .int .i64 x14.2), (11, ptrAt (some ⟨g25, 0, none⟩) 0), (12, .slice a22 x18.2.1.length cp23), (13, .int .i64 x18.2.2), (14, ptrAt (some ⟨g31, 0, none⟩) 0), (15, .int .i64 x27.2)]) (es' := [boxO 26 g6 [.int .i64 x2.1.W, .int .i64 x2.1.H, .slice a3 x2.1.Breaks.length cp4], rowT 2 eI64 a3 x2.1.Breaks.length cp4 x2.1.Breaks, boxO 42 g8 [.int .i64 x2.2.1.X, .int .i64 x2.2.1.Y], rowT 42 eSPoint a11 x10.1.length cp12 x10.1, rowT 42 eSPoint a15 x14.1.length cp16 x14.1, boxO 26 g25 [.int .i64 x18.1.W, .int .i64 x18.1.H, .slice a19 x18.1.Breaks.length cp20], rowT 2 eI64 a19 x18.1.Breaks.length cp20 x18.1.Breaks, rowT 42 eSPoint a22 x18.2.1.length cp23 x18.2.1, boxO 26 g31 [.int .i64 x27.1.W, .int .i64 x27.1.H, .slice a28 x27.1.Breaks.length cp29], rowT 2 eI64 a28 x27.1.Breaks.length cp29 x27.1.Breaks]) [0, 1, 2, 3, 4, 5, 6, 7, 9, 8] ?_ ⟨rfl, rfl, rfl, rfl, rfl, rfl, rfl, rfl, rfl, rfl, rfl, rfl, rfl, rfl, trivial⟩ (by decide) rfl
    refine JE.code ?_
    refine JX.seq ?_
    refine JX.region ?_
    refine JL.val (yl_loadn Go.Proofs.Try.underlying26 rfl i26 rfl (fun w hC => rd_box hC 5 rfl) rfl (i26s).symm i26p) rfl ?_
    refine JL.val (yl_move rfl) rfl ?_
    refine JL.val (yl_move rfl) rfl ?_
    obtain ⟨x33, hx33, hres⟩ := bind_some hres
    refine JL.eff (ef_call (vs := [.agg #[.int .i64 x18.1.W, .int .i64 x18.1.H, .slice a19 x18.1.Breaks.length cp20], .slice a22 x18.2.1.length cp23, .int .i64 x18.2.2]) (T := T41 x33) Go.Proofs.Try.func41 rfl (by kernel_rfl) rfl (fun w hC => c41 (q0 := x18.1) (rd_row hC 6 rfl) rfl (ln_row hC 6 rfl) (rd_row hC 7 rfl) rfl (ln_row hC 7 rfl) hx33)) rfl ?_
    rintro _ _ ⟨_, ⟨a34, _, cp35, rfl, rfl, rfl⟩, rfl⟩
    refine JL.val (yl_move rfl) rfl ?_
    refine JL.val (yl_extract rfl rfl) rfl ?_
    refine JL.val (yl_extract rfl rfl) rfl ?_
    refine JL.eff (ef_alloc i26 i26z rfl) rfl ?_
    rintro _ _ ⟨g37, rfl, rfl⟩
    refine JL.eff (ef_store_box (i := 11) (v := .agg #[.int .i64 x33.1.W, .int .i64 x33.1.H, .slice a34 x33.1.Breaks.length cp35]) i26 rfl rfl rfl (i26s).symm (Nat.le_of_ble_eq_true rfl) (by simp [Value.cells, Value.oneCell'])) rfl ?_
    rintro _ _ rfl
    refine JL.val (yl_assign rfl) rfl ?_
    refine JL.nil ?_
    refine JE.weak (env' := [(0, .slice a_0 q0.length c_0), (3, ptrAt (some ⟨g6, 0, none⟩) 0), (4, ptrAt (some ⟨g8, 0, none⟩) 0), (5, .int .i64 x2.2.2.1), (6, .int .i64 x2.2.2.2), (7, .slice a11 x10.1.length cp12), (8, .int .i64 x10.2), (9, .slice a15 x14.1.length cp16), (10, .int .i64 x14.2), (14, ptrAt (some ⟨g31, 0, none⟩) 0), (15, .int .i64 x27.2), (16, ptrAt (some ⟨g37, 0, none⟩) 0), (17, .int .i64 x33.2)]) (es' := [boxO 26 g6 [.int .i64 x2.1.W, .int .i64 x2.1.H, .slice a3 x2.1.Breaks.length cp4], rowT 2 eI64 a3 x2.1.Breaks.length cp4 x2.1.Breaks, boxO 42 g8 [.int .i64 x2.2.1.X, .int .i64 x2.2.1.Y], rowT 42 eSPoint a11 x10.1.length cp12 x10.1, rowT 42 eSPoint a15 x14.1.length cp16 x14.1, boxO 26 g31 [.int .i64 x27.1.W, .int .i64 x27.1.H, .slice a28 x27.1.Breaks.length cp29], rowT 2 eI64 a28 x27.1.Breaks.length cp29 x27.1.Breaks, boxO 26 g37 [.int .i64 x33.1.W, .int .i64 x33.1.H, .slice a34 x33.1.Breaks.length cp35], rowT 2 eI64 a34 x33.1.Breaks.length cp35 x33.1.Breaks]) [0, 1, 2, 3, 4, 8, 9, 11, 10] ?_ ⟨rfl, rfl, rfl, rfl, rfl, rfl, rfl, rfl, rfl, rfl, rfl, rfl, rfl, trivial⟩ (by decide) rfl
    refine JE.code ?_
    refine JX.seq ?_
    refine JX.region ?_
    refine JL.val (yl_move rfl) rfl ?_
    obtain ⟨x39, hx39, hres⟩ := bind_some hres
    refine JL.eff (ef_call (T := T42 x39) Go.Proofs.Try.func42 rfl (by kernel_rfl) rfl (fun w hC => c42 (rd_arg g_0 hC) rfl k_0 hx39)) rfl ?_
    rintro _ _ ⟨_, ⟨a40, _, cp41, rfl, a43, _, cp44, hs46, rfl, hi47, rfl, rfl⟩, rfl⟩
    refine JL.val (yl_move rfl) rfl ?_
    refine JL.val (yl_extract rfl rfl) rfl ?_
    refine JL.val (yl_extract rfl rfl) rfl ?_
    refine JL.val (yl_extract rfl rfl) rfl ?_
    refine JL.eff (ef_alloc i26 i26z rfl) rfl ?_
    rintro _ _ ⟨g49, rfl, rfl⟩
    refine JL.eff (ef_store_box (i := 12) (v := .agg #[.int .i64 x39.1.W, .int .i64 x39.1.H, .slice a40 x39.1.Breaks.length cp41]) i26 rfl rfl rfl (i26s).symm (Nat.le_of_ble_eq_true rfl) (by simp [Value.cells, Value.oneCell'])) rfl ?_
    rintro _ _ rfl
    refine JL.val (yl_assign rfl) rfl ?_
    refine JL.val (yl_assign rfl) rfl ?_
    refine JL.nil ?_
    refine JE.weak (env' := [(3, ptrAt (some ⟨g6, 0, none⟩) 0), (4, ptrAt (some ⟨g8, 0, none⟩) 0), (5, .int .i64 x2.2.2.1), (6, .int .i64 x2.2.2.2), (7, .slice a11 x10.1.length cp12), (8, .int .i64 x10.2), (9, .slice a15 x14.1.length cp16), (10, .int .i64 x14.2), (14, ptrAt (some ⟨g31, 0, none⟩) 0), (15, .int .i64 x27.2), (16, ptrAt (some ⟨g37, 0, none⟩) 0), (17, .int .i64 x33.2), (18, ptrAt (some ⟨g49, 0, none⟩) 0), (19, .slice a43 x39.2.1.length cp44), (20, .int .i64 x39.2.2)]) (es' := [boxO 26 g6 [.int .i64 x2.1.W, .int .i64 x2.1.H, .slice a3 x2.1.Breaks.length cp4], rowT 2 eI64 a3 x2.1.Breaks.length cp4 x2.1.Breaks, boxO 42 g8 [.int .i64 x2.2.1.X, .int .i64 x2.2.1.Y], rowT 42 eSPoint a11 x10.1.length cp12 x10.1, rowT 42 eSPoint a15 x14.1.length cp16 x14.1, boxO 26 g31 [.int .i64 x27.1.W, .int .i64 x27.1.H, .slice a28 x27.1.Breaks.length cp29], rowT 2 eI64 a28 x27.1.Breaks.length cp29 x27.1.Breaks, boxO 26 g37 [.int .i64 x33.1.W, .int .i64 x33.1.H, .slice a34 x33.1.Breaks.length cp35], rowT 2 eI64 a34 x33.1.Breaks.length cp35 x33.1.Breaks, boxO 26 g49 [.int .i64 x39.1.W, .int .i64 x39.1.H, .slice a40 x39.1.Breaks.length cp41], rowT 2 eI64 a40 x39.1.Breaks.length cp41 x39.1.Breaks, rowT 34 eHd a43 x39.2.1.length cp44 hs46, innO 42 eSPoint none hs46 x39.2.1]) [0, 1, 2, 3, 4, 5, 6, 7, 8, 12, 9, 10, 11] ?_ ⟨rfl, rfl, rfl, rfl, rfl, rfl, rfl, rfl, rfl, rfl, rfl, rfl, rfl, rfl, rfl, trivial⟩ (by decide) rfl
    refine JE.code ?_
    refine JX.seq ?_
    refine JX.region ?_
    refine JL.val (yl_loadn Go.Proofs.Try.underlying26 rfl i26 rfl (fun w hC => rd_box hC 9 rfl) rfl (i26s).symm i26p) rfl ?_
    refine JL.val (yl_move rfl) rfl ?_
    refine JL.val (yl_move rfl) rfl ?_
    obtain ⟨x51, hx51, hres⟩ := bind_some hres
    refine JL.eff (ef_call (vs := [.agg #[.int .i64 x39.1.W, .int .i64 x39.1.H, .slice a40 x39.1.Breaks.length cp41], .slice a43 x39.2.1.length cp44, .int .i64 x39.2.2]) (T := T43 x51) Go.Proofs.Try.func43 rfl (by kernel_rfl) rfl (fun w hC => c43 (q0 := x39.1) (rd_row hC 10 rfl) rfl (ln_row hC 10 rfl) (rd_row hC 11 rfl) (rd_inn hC 12 rfl) hi47 rfl (ln_row hC 11 rfl) hx51)) rfl ?_
    rintro _ _ ⟨_, ⟨a52, _, cp53, rfl, a55, _, cp56, rfl, rfl, rfl⟩, rfl⟩
    refine JL.val (yl_move rfl) rfl ?_
    refine JL.val (yl_extract rfl rfl) rfl ?_
    refine JL.val (yl_extract rfl rfl) rfl ?_
    refine JL.val (yl_extract rfl rfl) rfl ?_
    refine JL.eff (ef_alloc i26 i26z rfl) rfl ?_
    rintro _ _ ⟨g58, rfl, rfl⟩
    refine JL.eff (ef_store_box (i := 15) (v := .agg #[.int .i64 x51.1.W, .int .i64 x51.1.H, .slice a52 x51.1.Breaks.length cp53]) i26 rfl rfl rfl (i26s).symm (Nat.le_of_ble_eq_true rfl) (by simp [Value.cells, Value.oneCell'])) rfl ?_
    rintro _ _ rfl
    refine JL.val (yl_assign rfl) rfl ?_
    refine JL.val (yl_assign rfl) rfl ?_
    refine JL.nil ?_
    refine JE.weak (env' := [(3, ptrAt (some ⟨g6, 0, none⟩) 0), (4, ptrAt (some ⟨g8, 0, none⟩) 0), (5, .int .i64 x2.2.2.1), (6, .int .i64 x2.2.2.2), (7, .slice a11 x10.1.length cp12), (8, .int .i64 x10.2), (9, .slice a15 x14.1.length cp16), (10, .int .i64 x14.2), (14, ptrAt (some ⟨g31, 0, none⟩) 0), (15, .int .i64 x27.2), (16, ptrAt (some ⟨g37, 0, none⟩) 0), (17, .int .i64 x33.2), (18, ptrAt (some ⟨g49, 0, none⟩) 0), (19, .slice a43 x39.2.1.length cp44), (20, .int .i64 x39.2.2), (21, ptrAt (some ⟨g58, 0, none⟩) 0), (22, .slice a55 x51.2.1.length cp56), (23, .int .i64 x51.2.2)]) (es' := [boxO 26 g6 [.int .i64 x2.1.W, .int .i64 x2.1.H, .slice a3 x2.1.Breaks.length cp4], rowT 2 eI64 a3 x2.1.Breaks.length cp4 x2.1.Breaks, boxO 42 g8 [.int .i64 x2.2.1.X, .int .i64 x2.2.1.Y], rowT 42 eSPoint a11 x10.1.length cp12 x10.1, rowT 42 eSPoint a15 x14.1.length cp16 x14.1, boxO 26 g31 [.int .i64 x27.1.W, .int .i64 x27.1.H, .slice a28 x27.1.Breaks.length cp29], rowT 2 eI64 a28 x27.1.Breaks.length cp29 x27.1.Breaks, boxO 26 g37 [.int .i64 x33.1.W, .int .i64 x33.1.H, .slice a34 x33.1.Breaks.length cp35], rowT 2 eI64 a34 x33.1.Breaks.length cp35 x33.1.Breaks, boxO 26 g49 [.int .i64 x39.1.W, .int .i64 x39.1.H, .slice a40 x39.1.Breaks.length cp41], rowT 2 eI64 a40 x39.1.Breaks.length cp41 x39.1.Breaks, rowT 34 eHd a43 x39.2.1.length cp44 hs46, innO 42 eSPoint none hs46 x39.2.1, boxO 26 g58 [.int .i64 x51.1.W, .int .i64 x51.1.H, .slice a52 x51.1.Breaks.length cp53], rowT 2 eI64 a52 x51.1.Breaks.length cp53 x51.1.Breaks, rowT 2 eI64 a55 x51.2.1.length cp56 x51.2.1]) [0, 1, 2, 3, 4, 5, 6, 7, 8, 9, 10, 11, 12, 15, 13, 14] ?_ ⟨rfl, rfl, rfl, rfl, rfl, rfl, rfl, rfl, rfl, rfl, rfl, rfl, rfl, rfl, rfl, rfl, rfl, rfl, trivial⟩ (by decide) rfl
    refine JE.code ?_
    refine JX.seq ?_
    refine JX.region ?_
    refine JL.val (yl_loadn Go.Proofs.Try.underlying26 rfl i26 rfl (fun w hC => rd_box hC 9 rfl) rfl (i26s).symm i26p) rfl ?_
    refine JL.val (yl_move rfl) rfl ?_
    refine JL.val (yl_move rfl) rfl ?_
    obtain ⟨x60, hx60, hres⟩ := bind_some hres
    refine JL.eff (ef_call (vs := [.agg #[.int .i64 x39.1.W, .int .i64 x39.1.H, .slice a40 x39.1.Breaks.length cp41], .slice a43 x39.2.1.length cp44, .int .i64 x39.2.2]) (T := T44 x60) Go.Proofs.Try.func44 rfl (by kernel_rfl) rfl (fun w hC => c44 (q0 := x39.1) (rd_row hC 10 rfl) rfl (ln_row hC 10 rfl) (rd_row hC 11 rfl) (rd_inn hC 12 rfl) hi47 rfl (ln_row hC 11 rfl) hx60)) rfl ?_
    rintro _ _ ⟨_, ⟨a61, _, cp62, rfl, a64, _, cp65, rfl, rfl, rfl⟩, rfl⟩
    refine JL.val (yl_move rfl) rfl ?_
    refine JL.val (yl_extract rfl rfl) rfl ?_
    refine JL.val (yl_extract rfl rfl) rfl ?_
    refine JL.val (yl_extract rfl rfl) rfl ?_
    refine JL.eff (ef_alloc i26 i26z rfl) rfl ?_
    rintro _ _ ⟨g67, rfl, rfl⟩
    refine JL.eff (ef_store_box (i := 18) (v := .agg #[.int .i64 x60.1.W, .int .i64 x60.1.H, .slice a61 x60.1.Breaks.length cp62]) i26 rfl rfl rfl (i26s).symm (Nat.le_of_ble_eq_true rfl) (by simp [Value.cells, Value.oneCell'])) rfl ?_
    rintro _ _ rfl
    refine JL.val (yl_assign rfl) rfl ?_
    refine JL.val (yl_assign rfl) rfl ?_
    refine JL.nil ?_
    refine JE.weak (env' := [(3, ptrAt (some ⟨g6, 0, none⟩) 0), (4, ptrAt (some ⟨g8, 0, none⟩) 0), (5, .int .i64 x2.2.2.1), (6, .int .i64 x2.2.2.2), (7, .slice a11 x10.1.length cp12), (8, .int .i64 x10.2), (9, .slice a15 x14.1.length cp16), (10, .int .i64 x14.2), (14, ptrAt (some ⟨g31, 0, none⟩) 0), (15, .int .i64 x27.2), (16, ptrAt (some ⟨g37, 0, none⟩) 0), (17, .int .i64 x33.2), (21, ptrAt (some ⟨g58, 0, none⟩) 0), (22, .slice a55 x51.2.1.length cp56), (23, .int .i64 x51.2.2), (24, ptrAt (some ⟨g67, 0, none⟩) 0), (25, .slice a64 x60.2.1.length cp65), (26, .int .i64 x60.2.2)]) (es' := [boxO 26 g6 [.int .i64 x2.1.W, .int .i64 x2.1.H, .slice a3 x2.1.Breaks.length cp4], rowT 2 eI64 a3 x2.1.Breaks.length cp4 x2.1.Breaks, boxO 42 g8 [.int .i64 x2.2.1.X, .int .i64 x2.2.1.Y], rowT 42 eSPoint a11 x10.1.length cp12 x10.1, rowT 42 eSPoint a15 x14.1.length cp16 x14.1, boxO 26 g31 [.int .i64 x27.1.W, .int .i64 x27.1.H, .slice a28 x27.1.Breaks.length cp29], rowT 2 eI64 a28 x27.1.Breaks.length cp29 x27.1.Breaks, boxO 26 g37 [.int .i64 x33.1.W, .int .i64 x33.1.H, .slice a34 x33.1.Breaks.length cp35], rowT 2 eI64 a34 x33.1.Breaks.length cp35 x33.1.Breaks, boxO 26 g58 [.int .i64 x51.1.W, .int .i64 x51.1.H, .slice a52 x51.1.Breaks.length cp53], rowT 2 eI64 a52 x51.1.Breaks.length cp53 x51.1.Breaks, rowT 2 eI64 a55 x51.2.1.length cp56 x51.2.1, boxO 26 g67 [.int .i64 x60.1.W, .int .i64 x60.1.H, .slice a61 x60.1.Breaks.length cp62], rowT 2 eI64 a61 x60.1.Breaks.length cp62 x60.1.Breaks, rowT 2 eI64 a64 x60.2.1.length cp65 x60.2.1]) [0, 1, 2, 3, 4, 5, 6, 7, 8, 13, 14, 15, 18, 16, 17] ?_ ⟨rfl, rfl, rfl, rfl, rfl, rfl, rfl, rfl, rfl, rfl, rfl, rfl, rfl, rfl, rfl, rfl, rfl, rfl, trivial⟩ (by decide) rfl
    refine JE.code ?_
    refine JX.seq ?_
    refine JX.seq ?_
    refine JX.region ?_
    refine JL.val (yl_move rfl) rfl ?_
    refine JL.val (yl_move rfl) rfl ?_
    refine JL.val (yl_neq rfl rfl) rfl ?_
    refine JL.val (yl_move rfl) rfl ?_
    obtain ⟨cb69, hcb69, hres⟩ := bind_some hres
    refine JL.cut (K := fun J => J [(3, ptrAt (some ⟨g6, 0, none⟩) 0), (4, ptrAt (some ⟨g8, 0, none⟩) 0), (5, .int .i64 x2.2.2.1), (6, .int .i64 x2.2.2.2), (7, .slice a11 x10.1.length cp12), (8, .int .i64 x10.2), (14, ptrAt (some ⟨g31, 0, none⟩) 0), (15, .int .i64 x27.2), (16, ptrAt (some ⟨g37, 0, none⟩) 0), (17, .int .i64 x33.2), (21, ptrAt (some ⟨g58, 0, none⟩) 0), (22, .slice a55 x51.2.1.length cp56), (23, .int .i64 x51.2.2), (24, ptrAt (some ⟨g67, 0, none⟩) 0), (25, .slice a64 x60.2.1.length cp65), (26, .int .i64 x60.2.2), (106, .bool cb69)] [boxO 26 g6 [.int .i64 x2.1.W, .int .i64 x2.1.H, .slice a3 x2.1.Breaks.length cp4], rowT 2 eI64 a3 x2.1.Breaks.length cp4 x2.1.Breaks, boxO 42 g8 [.int .i64 x2.2.1.X, .int .i64 x2.2.1.Y], rowT 42 eSPoint a11 x10.1.length cp12 x10.1, boxO 26 g31 [.int .i64 x27.1.W, .int .i64 x27.1.H, .slice a28 x27.1.Breaks.length cp29], rowT 2 eI64 a28 x27.1.Breaks.length cp29 x27.1.Breaks, boxO 26 g37 [.int .i64 x33.1.W, .int .i64 x33.1.H, .slice a34 x33.1.Breaks.length cp35], rowT 2 eI64 a34 x33.1.Breaks.length cp35 x33.1.Breaks, boxO 26 g58 [.int .i64 x51.1.W, .int .i64 x51.1.H, .slice a52 x51.1.Breaks.length cp53], rowT 2 eI64 a52 x51.1.Breaks.length cp53 x51.1.Breaks, rowT 2 eI64 a55 x51.2.1.length cp56 x51.2.1, boxO 26 g67 [.int .i64 x60.1.W, .int .i64 x60.1.H, .slice a61 x60.1.Breaks.length cp62], rowT 2 eI64 a61 x60.1.Breaks.length cp62 x60.1.Breaks, rowT 2 eI64 a64 x60.2.1.length cp65 x60.2.1]) 5 ?_ ?_
    · refine JL.val (yl_move rfl) rfl ?_
      refine JL.cut (K := fun J => J [(3, ptrAt (some ⟨g6, 0, none⟩) 0), (4, ptrAt (some ⟨g8, 0, none⟩) 0), (5, .int .i64 x2.2.2.1), (6, .int .i64 x2.2.2.2), (7, .slice a11 x10.1.length cp12), (8, .int .i64 x10.2), (14, ptrAt (some ⟨g31, 0, none⟩) 0), (16, ptrAt (some ⟨g37, 0, none⟩) 0), (21, ptrAt (some ⟨g58, 0, none⟩) 0), (22, .slice a55 x51.2.1.length cp56), (23, .int .i64 x51.2.2), (24, ptrAt (some ⟨g67, 0, none⟩) 0), (25, .slice a64 x60.2.1.length cp65), (26, .int .i64 x60.2.2), (111, .bool (cb69 || (x27.2 != x33.2)))] [boxO 26 g6 [.int .i64 x2.1.W, .int .i64 x2.1.H, .slice a3 x2.1.Breaks.length cp4], rowT 2 eI64 a3 x2.1.Breaks.length cp4 x2.1.Breaks, boxO 42 g8 [.int .i64 x2.2.1.X, .int .i64 x2.2.1.Y], rowT 42 eSPoint a11 x10.1.length cp12 x10.1, boxO 26 g31 [.int .i64 x27.1.W, .int .i64 x27.1.H, .slice a28 x27.1.Breaks.length cp29], rowT 2 eI64 a28 x27.1.Breaks.length cp29 x27.1.Breaks, boxO 26 g37 [.int .i64 x33.1.W, .int .i64 x33.1.H, .slice a34 x33.1.Breaks.length cp35], rowT 2 eI64 a34 x33.1.Breaks.length cp35 x33.1.Breaks, boxO 26 g58 [.int .i64 x51.1.W, .int .i64 x51.1.H, .slice a52 x51.1.Breaks.length cp53], rowT 2 eI64 a52 x51.1.Breaks.length cp53 x51.1.Breaks, rowT 2 eI64 a55 x51.2.1.length cp56 x51.2.1, boxO 26 g67 [.int .i64 x60.1.W, .int .i64 x60.1.H, .slice a61 x60.1.Breaks.length cp62], rowT 2 eI64 a61 x60.1.Breaks.length cp62 x60.1.Breaks, rowT 2 eI64 a64 x60.2.1.length cp65 x60.2.1]) 4 ?_ ?_
      · refine JL.val (yl_move rfl) rfl ?_
        obtain ⟨cb71, hcb71, hres⟩ := bind_some hres
        refine JL.cut (K := fun J => J [(3, ptrAt (some ⟨g6, 0, none⟩) 0), (4, ptrAt (some ⟨g8, 0, none⟩) 0), (5, .int .i64 x2.2.2.1), (6, .int .i64 x2.2.2.2), (7, .slice a11 x10.1.length cp12), (8, .int .i64 x10.2), (21, ptrAt (some ⟨g58, 0, none⟩) 0), (22, .slice a55 x51.2.1.length cp56), (23, .int .i64 x51.2.2), (24, ptrAt (some ⟨g67, 0, none⟩) 0), (25, .slice a64 x60.2.1.length cp65), (26, .int .i64 x60.2.2), (117, .bool cb71)] [boxO 26 g6 [.int .i64 x2.1.W, .int .i64 x2.1.H, .slice a3 x2.1.Breaks.length cp4], rowT 2 eI64 a3 x2.1.Breaks.length cp4 x2.1.Breaks, boxO 42 g8 [.int .i64 x2.2.1.X, .int .i64 x2.2.1.Y], rowT 42 eSPoint a11 x10.1.length cp12 x10.1, boxO 26 g58 [.int .i64 x51.1.W, .int .i64 x51.1.H, .slice a52 x51.1.Breaks.length cp53], rowT 2 eI64 a52 x51.1.Breaks.length cp53 x51.1.Breaks, rowT 2 eI64 a55 x51.2.1.length cp56 x51.2.1, boxO 26 g67 [.int .i64 x60.1.W, .int .i64 x60.1.H, .slice a61 x60.1.Breaks.length cp62], rowT 2 eI64 a61 x60.1.Breaks.length cp62 x60.1.Breaks, rowT 2 eI64 a64 x60.2.1.length cp65 x60.2.1]) 5 ?_ ?_
        · refine JL.val (yl_move rfl) rfl ?_
          refine JL.cut (K := fun J => J [(3, ptrAt (some ⟨g6, 0, none⟩) 0), (4, ptrAt (some ⟨g8, 0, none⟩) 0), (5, .int .i64 x2.2.2.1), (6, .int .i64 x2.2.2.2), (7, .slice a11 x10.1.length cp12), (8, .int .i64 x10.2), (21, ptrAt (some ⟨g58, 0, none⟩) 0), (22, .slice a55 x51.2.1.length cp56), (24, ptrAt (some ⟨g67, 0, none⟩) 0), (25, .slice a64 x60.2.1.length cp65), (122, .bool (cb71 || (x51.2.2 != x60.2.2)))] [boxO 26 g6 [.int .i64 x2.1.W, .int .i64 x2.1.H, .slice a3 x2.1.Breaks.length cp4], rowT 2 eI64 a3 x2.1.Breaks.length cp4 x2.1.Breaks, boxO 42 g8 [.int .i64 x2.2.1.X, .int .i64 x2.2.1.Y], rowT 42 eSPoint a11 x10.1.length cp12 x10.1, boxO 26 g58 [.int .i64 x51.1.W, .int .i64 x51.1.H, .slice a52 x51.1.Breaks.length cp53], rowT 2 eI64 a52 x51.1.Breaks.length cp53 x51.1.Breaks, rowT 2 eI64 a55 x51.2.1.length cp56 x51.2.1, boxO 26 g67 [.int .i64 x60.1.W, .int .i64 x60.1.H, .slice a61 x60.1.Breaks.length cp62], rowT 2 eI64 a61 x60.1.Breaks.length cp62 x60.1.Breaks, rowT 2 eI64 a64 x60.2.1.length cp65 x60.2.1]) 4 ?_ ?_
          · refine JL.val (yl_move rfl) rfl ?_
            obtain ⟨cb73, hcb73, hres⟩ := bind_some hres
            refine JL.cut (K := fun J => J [(3, ptrAt (some ⟨g6, 0, none⟩) 0), (4, ptrAt (some ⟨g8, 0, none⟩) 0), (5, .int .i64 x2.2.2.1), (6, .int .i64 x2.2.2.2), (7, .slice a11 x10.1.length cp12), (8, .int .i64 x10.2), (22, .slice a55 x51.2.1.length cp56), (25, .slice a64 x60.2.1.length cp65), (128, .bool cb73)] [boxO 26 g6 [.int .i64 x2.1.W, .int .i64 x2.1.H, .slice a3 x2.1.Breaks.length cp4], rowT 2 eI64 a3 x2.1.Breaks.length cp4 x2.1.Breaks, boxO 42 g8 [.int .i64 x2.2.1.X, .int .i64 x2.2.1.Y], rowT 42 eSPoint a11 x10.1.length cp12 x10.1, rowT 2 eI64 a55 x51.2.1.length cp56 x51.2.1, rowT 2 eI64 a64 x60.2.1.length cp65 x60.2.1]) 5 ?_ ?_
            · refine JL.val (yl_move rfl) rfl ?_
              obtain ⟨cb75, hcb75, hres⟩ := bind_some hres
              refine JL.cut (K := fun J => J [(3, ptrAt (some ⟨g6, 0, none⟩) 0), (4, ptrAt (some ⟨g8, 0, none⟩) 0), (5, .int .i64 x2.2.2.1), (6, .int .i64 x2.2.2.2), (7, .slice a11 x10.1.length cp12), (8, .int .i64 x10.2), (134, .bool cb75)] [boxO 26 g6 [.int .i64 x2.1.W, .int .i64 x2.1.H, .slice a3 x2.1.Breaks.length cp4], rowT 2 eI64 a3 x2.1.Breaks.length cp4 x2.1.Breaks, boxO 42 g8 [.int .i64 x2.2.1.X, .int .i64 x2.2.1.Y], rowT 42 eSPoint a11 x10.1.length cp12 x10.1]) 5 ?_ ?_
              · refine JL.nil ?_
                refine JE.weak (env' := [(3, ptrAt (some ⟨g6, 0, none⟩) 0), (4, ptrAt (some ⟨g8, 0, none⟩) 0), (5, .int .i64 x2.2.2.1), (6, .int .i64 x2.2.2.2), (7, .slice a11 x10.1.length cp12), (8, .int .i64 x10.2), (134, .bool cb75)]) (es' := [boxO 26 g6 [.int .i64 x2.1.W, .int .i64 x2.1.H, .slice a3 x2.1.Breaks.length cp4], rowT 2 eI64 a3 x2.1.Breaks.length cp4 x2.1.Breaks, boxO 42 g8 [.int .i64 x2.2.1.X, .int .i64 x2.2.1.Y], rowT 42 eSPoint a11 x10.1.length cp12 x10.1]) [0, 1, 2, 3] ?_ ⟨rfl, rfl, rfl, rfl, rfl, rfl, rfl, trivial⟩ (by decide) rfl
                refine JE.code ?_
                rcases cond_some hres with ⟨hb, hres⟩ | ⟨hb, hres⟩
                · refine JX.condT rfl hb ?_
                  refine JX.seq ?_
                  refine JX.region ?_
                  refine JL.val (yl_assign rfl) rfl ?_
                  refine JL.nil ?_
                  refine JE.weak (env' := [(2, .bool false)]) (es' := []) [] ?_ ⟨rfl, trivial⟩ (by decide) rfl
                  refine JE.code ?_
                  refine JX.ret ?_
                  obtain rfl := Option.some.inj hres
                  refine JE.ret (rs := [.tmp 2]) (vs := [.bool false]) rfl ⟨rfl, trivial⟩ ?_
                  exact fun w' hb hs => ⟨_, _, ⟨rfl, rfl⟩, rfl, hb, hs.sel [] _ (by decide) rfl⟩
                · refine JX.condF rfl hb ?_
                  refine JX.skip ?_
                  refine JE.code ?_
                  refine JX.seq ?_
                  refine JX.seq ?_
                  refine JX.region ?_
                  refine JL.val (yl_move rfl) rfl ?_
                  refine JL.val (yl_neq rfl rfl) rfl ?_
                  refine JL.val (yl_move rfl) rfl ?_
                  obtain ⟨cb77, hcb77, hres⟩ := bind_some hres
                  refine JL.cut (K := fun J => J [(3, ptrAt (some ⟨g6, 0, none⟩) 0), (4, ptrAt (some ⟨g8, 0, none⟩) 0), (5, .int .i64 x2.2.2.1), (6, .int .i64 x2.2.2.2), (7, .slice a11 x10.1.length cp12), (141, .bool cb77)] [boxO 26 g6 [.int .i64 x2.1.W, .int .i64 x2.1.H, .slice a3 x2.1.Breaks.length cp4], rowT 2 eI64 a3 x2.1.Breaks.length cp4 x2.1.Breaks, boxO 42 g8 [.int .i64 x2.2.1.X, .int .i64 x2.2.1.Y], rowT 42 eSPoint a11 x10.1.length cp12 x10.1]) 4 ?_ ?_
                  · refine JL.nil ?_
                    refine JE.weak (env' := [(3, ptrAt (some ⟨g6, 0, none⟩) 0), (4, ptrAt (some ⟨g8, 0, none⟩) 0), (5, .int .i64 x2.2.2.1), (6, .int .i64 x2.2.2.2), (7, .slice a11 x10.1.length cp12), (141, .bool cb77)]) (es' := [boxO 26 g6 [.int .i64 x2.1.W, .int .i64 x2.1.H, .slice a3 x2.1.Breaks.length cp4], rowT 2 eI64 a3 x2.1.Breaks.length cp4 x2.1.Breaks, boxO 42 g8 [.int .i64 x2.2.1.X, .int .i64 x2.2.1.Y], rowT 42 eSPoint a11 x10.1.length cp12 x10.1]) [0, 1, 2, 3] ?_ ⟨rfl, rfl, rfl, rfl, rfl, rfl, trivial⟩ (by decide) rfl
                    refine JE.code ?_
                    rcases cond_some hres with ⟨hb, hres⟩ | ⟨hb, hres⟩
                    · refine JX.condT rfl hb ?_
                      refine JX.seq ?_
                      refine JX.region ?_
                      refine JL.val (yl_assign rfl) rfl ?_
                      refine JL.nil ?_
                      refine JE.weak (env' := [(2, .bool true)]) (es' := []) [] ?_ ⟨rfl, trivial⟩ (by decide) rfl
                      refine JE.code ?_
                      refine JX.ret ?_
                      obtain rfl := Option.some.inj hres
                      refine JE.ret (rs := [.tmp 2]) (vs := [.bool true]) rfl ⟨rfl, trivial⟩ ?_
                      exact fun w' hb hs => ⟨_, _, ⟨rfl, rfl⟩, rfl, hb, hs.sel [] _ (by decide) rfl⟩
                    · refine JX.condF rfl hb ?_
                      refine JX.skip ?_
                      refine JE.code ?_
                      refine JX.seq ?_
                      refine JX.region ?_
                      refine JL.val (yl_loadn Go.Proofs.Try.underlying26 rfl i26 rfl (fun w hC => rd_box hC 0 rfl) rfl (i26s).symm i26p) rfl ?_
                      refine JL.val (yl_move rfl) rfl ?_
                      refine JL.val (yl_move rfl) rfl ?_
                      obtain ⟨x79, hx79, hres⟩ := bind_some hres
                      refine JL.eff (ef_call (vs := [.agg #[.int .i64 x2.1.W, .int .i64 x2.1.H, .slice a3 x2.1.Breaks.length cp4], .slice a11 x10.1.length cp12, .int .i64 x2.2.2.2]) (T := T40 x79) Go.Proofs.Try.func40 rfl (by kernel_rfl) rfl (fun w hC => c40 (q0 := x2.1) (rd_row hC 1 rfl) rfl (ln_row hC 1 rfl) (rd_row hC 3 rfl) rfl (ln_row hC 3 rfl) hx79)) rfl ?_
                      rintro _ _ ⟨_, ⟨a80, _, cp81, rfl, rfl, rfl⟩, rfl⟩
                      refine JL.val (yl_move rfl) rfl ?_
                      refine JL.val (yl_extract rfl rfl) rfl ?_
                      refine JL.val (yl_extract rfl rfl) rfl ?_
                      refine JL.eff (ef_alloc i26 i26z rfl) rfl ?_
                      rintro _ _ ⟨g83, rfl, rfl⟩
                      refine JL.eff (ef_store_box (i := 5) (v := .agg #[.int .i64 x79.1.W, .int .i64 x79.1.H, .slice a80 x79.1.Breaks.length cp81]) i26 rfl rfl rfl (i26s).symm (Nat.le_of_ble_eq_true rfl) (by simp [Value.cells, Value.oneCell'])) rfl ?_
                      rintro _ _ rfl
                      refine JL.val (yl_assign rfl) rfl ?_
                      refine JL.nil ?_
                      refine JE.weak (env' := [(3, ptrAt (some ⟨g6, 0, none⟩) 0), (4, ptrAt (some ⟨g8, 0, none⟩) 0), (5, .int .i64 x2.2.2.1), (27, ptrAt (some ⟨g83, 0, none⟩) 0), (28, .int .i64 x79.2)]) (es' := [boxO 26 g6 [.int .i64 x2.1.W, .int .i64 x2.1.H, .slice a3 x2.1.Breaks.length cp4], rowT 2 eI64 a3 x2.1.Breaks.length cp4 x2.1.Breaks, boxO 42 g8 [.int .i64 x2.2.1.X, .int .i64 x2.2.1.Y], boxO 26 g83 [.int .i64 x79.1.W, .int .i64 x79.1.H, .slice a80 x79.1.Breaks.length cp81], rowT 2 eI64 a80 x79.1.Breaks.length cp81 x79.1.Breaks]) [0, 1, 2, 5, 4] ?_ ⟨rfl, rfl, rfl, rfl, rfl, trivial⟩ (by decide) rfl
                      refine JE.code ?_
                      refine JX.seq ?_
                      refine JX.region ?_
                      refine JL.val (yl_loadn Go.Proofs.Try.underlying26 rfl i26 rfl (fun w hC => rd_box hC 0 rfl) rfl (i26s).symm i26p) rfl ?_
                      refine JL.val (yl_loadn Go.Proofs.Try.underlying42 rfl i42 rfl (fun w hC => rd_box hC 2 rfl) rfl (i42s).symm i42p) rfl ?_
                      refine JL.val (yl_move rfl) rfl ?_
                      obtain ⟨x85, hx85, hres⟩ := bind_some hres
                      refine JL.eff (ef_call (vs := [.agg #[.int .i64 x2.1.W, .int .i64 x2.1.H, .slice a3 x2.1.Breaks.length cp4], .agg #[.int .i64 x2.2.1.X, .int .i64 x2.2.1.Y], .int .i64 x2.2.2.1]) (T := T48 x85) Go.Proofs.Try.func48 rfl (by kernel_rfl) rfl (fun w hC => c48 (q0 := x2.1) (q1 := x2.2.1) (rd_row hC 1 rfl) rfl (ln_row hC 1 rfl) hx85)) rfl ?_
                      rintro _ _ ⟨_, ⟨a86, _, cp87, rfl, rfl, rfl⟩, rfl⟩
                      refine JL.val (yl_move rfl) rfl ?_
                      refine JL.val (yl_extract rfl rfl) rfl ?_
                      refine JL.val (yl_extract rfl rfl) rfl ?_
                      refine JL.eff (ef_alloc i26 i26z rfl) rfl ?_
                      rintro _ _ ⟨g89, rfl, rfl⟩
                      refine JL.eff (ef_store_box (i := 6) (v := .agg #[.int .i64 x85.1.W, .int .i64 x85.1.H, .slice a86 x85.1.Breaks.length cp87]) i26 rfl rfl rfl (i26s).symm (Nat.le_of_ble_eq_true rfl) (by simp [Value.cells, Value.oneCell'])) rfl ?_
                      rintro _ _ rfl
                      refine JL.val (yl_assign rfl) rfl ?_
                      refine JL.nil ?_
                      refine JE.weak (env' := [(27, ptrAt (some ⟨g83, 0, none⟩) 0), (28, .int .i64 x79.2), (29, ptrAt (some ⟨g89, 0, none⟩) 0), (30, .int .i64 x85.2)]) (es' := [boxO 26 g83 [.int .i64 x79.1.W, .int .i64 x79.1.H, .slice a80 x79.1.Breaks.length cp81], rowT 2 eI64 a80 x79.1.Breaks.length cp81 x79.1.Breaks, boxO 26 g89 [.int .i64 x85.1.W, .int .i64 x85.1.H, .slice a86 x85.1.Breaks.length cp87], rowT 2 eI64 a86 x85.1.Breaks.length cp87 x85.1.Breaks]) [3, 4, 6, 5] ?_ ⟨rfl, rfl, rfl, rfl, trivial⟩ (by decide) rfl
                      refine JE.code ?_
                      refine JX.seq ?_
                      refine JX.seq ?_
                      refine JX.region ?_
                      refine JL.val (yl_move rfl) rfl ?_
                      refine JL.val (yl_neq rfl rfl) rfl ?_
                      refine JL.val (yl_move rfl) rfl ?_
                      refine JL.cut (K := fun J => J [(27, ptrAt (some ⟨g83, 0, none⟩) 0), (29, ptrAt (some ⟨g89, 0, none⟩) 0), (161, .bool ((x79.2 != 0) || (x85.2 != 0)))] [boxO 26 g83 [.int .i64 x79.1.W, .int .i64 x79.1.H, .slice a80 x79.1.Breaks.length cp81], rowT 2 eI64 a80 x79.1.Breaks.length cp81 x79.1.Breaks, boxO 26 g89 [.int .i64 x85.1.W, .int .i64 x85.1.H, .slice a86 x85.1.Breaks.length cp87], rowT 2 eI64 a86 x85.1.Breaks.length cp87 x85.1.Breaks]) 3 ?_ ?_
                      · refine JL.nil ?_
                        refine JE.weak (env' := [(27, ptrAt (some ⟨g83, 0, none⟩) 0), (29, ptrAt (some ⟨g89, 0, none⟩) 0), (161, .bool ((x79.2 != 0) || (x85.2 != 0)))]) (es' := [boxO 26 g83 [.int .i64 x79.1.W, .int .i64 x79.1.H, .slice a80 x79.1.Breaks.length cp81], rowT 2 eI64 a80 x79.1.Breaks.length cp81 x79.1.Breaks, boxO 26 g89 [.int .i64 x85.1.W, .int .i64 x85.1.H, .slice a86 x85.1.Breaks.length cp87], rowT 2 eI64 a86 x85.1.Breaks.length cp87 x85.1.Breaks]) [0, 1, 2, 3] ?_ ⟨rfl, rfl, rfl, trivial⟩ (by decide) rfl
                        refine JE.code ?_
                        rcases cond_some hres with ⟨hb, hres⟩ | ⟨hb, hres⟩
                        · refine JX.condT rfl hb ?_
                          refine JX.seq ?_
                          refine JX.region ?_
                          refine JL.val (yl_assign rfl) rfl ?_
                          refine JL.nil ?_
                          refine JE.weak (env' := [(2, .bool false)]) (es' := []) [] ?_ ⟨rfl, trivial⟩ (by decide) rfl
                          refine JE.code ?_
                          refine JX.ret ?_
                          obtain rfl := Option.some.inj hres
                          refine JE.ret (rs := [.tmp 2]) (vs := [.bool false]) rfl ⟨rfl, trivial⟩ ?_
                          exact fun w' hb hs => ⟨_, _, ⟨rfl, rfl⟩, rfl, hb, hs.sel [] _ (by decide) rfl⟩
                        · refine JX.condF rfl hb ?_
                          refine JX.skip ?_
                          refine JE.code ?_
                          refine JX.seq ?_
                          refine JX.region ?_
                          refine JL.val (yl_loadn Go.Proofs.Try.underlying26 rfl i26 rfl (fun w hC => rd_box hC 0 rfl) rfl (i26s).symm i26p) rfl ?_
                          refine JL.val (yl_loadn Go.Proofs.Try.underlying26 rfl i26 rfl (fun w hC => rd_box hC 2 rfl) rfl (i26s).symm i26p) rfl ?_
                          obtain ⟨x91, hx91, hres⟩ := bind_some hres
                          refine JL.eff (ef_call (vs := [.agg #[.int .i64 x79.1.W, .int .i64 x79.1.H, .slice a80 x79.1.Breaks.length cp81], .agg #[.int .i64 x85.1.W, .int .i64 x85.1.H, .slice a86 x85.1.Breaks.length cp87]]) (T := T45 x91) Go.Proofs.Try.func45 rfl (by kernel_rfl) rfl (fun w hC => c45 (q0 := x79.1) (q1 := x85.1) (rd_row hC 1 rfl) rfl (ln_row hC 1 rfl) (rd_row hC 3 rfl) rfl (ln_row hC 3 rfl) hx91)) rfl ?_
                          rintro _ _ ⟨_, ⟨rfl, rfl⟩, rfl⟩
                          refine JL.val (yl_assign rfl) rfl ?_
                          refine JL.nil ?_
                          refine JE.weak (env' := [(2, .bool x91)]) (es' := []) [] ?_ ⟨rfl, trivial⟩ (by decide) rfl
                          refine JE.code ?_
                          refine JX.ret ?_
                          obtain rfl := Option.some.inj hres
                          refine JE.ret (rs := [.tmp 2]) (vs := [.bool x91]) rfl ⟨rfl, trivial⟩ ?_
                          exact fun w' hb hs => ⟨_, _, ⟨rfl, rfl⟩, rfl, hb, hs.sel [] _ (by decide) rfl⟩
                      · intro K
                        rcases Bool.eq_false_or_eq_true (x79.2 != 0) with hb | hb
                        · refine JL.set (d := 158) (v := .bool true) (congrArg (fun b => some (Value.bool b)) hb) ?_
                          refine JL.gskip rfl rfl rfl rfl ?_
                          refine JL.gskip rfl rfl rfl rfl ?_
                          refine JL.val (yl_pick_true rfl rfl) rfl ?_
                          exact JL.weak [0, 1, 2, 3] K ⟨rfl, rfl, (by rw [hb]; rfl), trivial⟩ (by decide) rfl
                        · refine JL.set (d := 158) (v := .bool false) (congrArg (fun b => some (Value.bool b)) hb) ?_
                          refine JL.gval rfl rfl (yl_move rfl) rfl ?_
                          refine JL.gval rfl rfl (yl_neq rfl rfl) rfl ?_
                          refine JL.val (yl_pick_false rfl rfl) rfl ?_
                          exact JL.weak [0, 1, 2, 3] K ⟨rfl, rfl, (by rw [hb]; rfl), trivial⟩ (by decide) rfl
                  · intro K
                    rcases cond_some hcb77 with ⟨hb, hres⟩ | ⟨hb, hres⟩
                    · refine JL.set (d := 137) (v := .bool true) (congrArg (fun b => some (Value.bool b)) hb) ?_
                      refine JL.gskip rfl rfl rfl rfl ?_
                      refine JL.gskip rfl rfl rfl rfl ?_
                      refine JL.gskip rfl rfl rfl rfl ?_
                      refine JL.val (yl_pick_true rfl rfl) rfl ?_
                      have he := Option.some.inj hres
                      exact JL.weak [0, 1, 2, 3] K ⟨rfl, rfl, rfl, rfl, rfl, (by rw [← he]; rfl), trivial⟩ (by decide) rfl
                    · refine JL.set (d := 137) (v := .bool false) (congrArg (fun b => some (Value.bool b)) hb) ?_
                      refine JL.gval rfl rfl (yl_move rfl) rfl ?_
                      obtain ⟨x78, hx78, hres⟩ := bind_some hres
                      refine JL.geff rfl rfl (ef_call (T := T47 x78) Go.Proofs.Try.func47 rfl (by kernel_rfl) rfl (fun w hC => c47 (rd_row hC 3 rfl) rfl (ln_row hC 3 rfl) hx78)) rfl ?_
                      rintro _ _ ⟨_, ⟨rfl, rfl⟩, rfl⟩
                      refine JL.gval rfl rfl (yl_not rfl) rfl ?_
                      refine JL.val (yl_pick_false rfl rfl) rfl ?_
                      have he := Option.some.inj hres
                      exact JL.weak [0, 1, 2, 3] K ⟨rfl, rfl, rfl, rfl, rfl, (by rw [← he]; rfl), trivial⟩ (by decide) rfl
              · intro K
                rcases cond_some hcb75 with ⟨hb, hres⟩ | ⟨hb, hres⟩
                · refine JL.set (d := 129) (v := .bool true) (congrArg (fun b => some (Value.bool b)) hb) ?_
                  refine JL.gskip rfl rfl rfl rfl ?_
                  refine JL.gskip rfl rfl rfl rfl ?_
                  refine JL.gskip rfl rfl rfl rfl ?_
                  refine JL.gskip rfl rfl rfl rfl ?_
                  refine JL.val (yl_pick_true rfl rfl) rfl ?_
                  have he := Option.some.inj hres
                  exact JL.weak [0, 1, 2, 3] K ⟨rfl, rfl, rfl, rfl, rfl, rfl, (by rw [← he]; rfl), trivial⟩ (by decide) rfl
                · refine JL.set (d := 129) (v := .bool false) (congrArg (fun b => some (Value.bool b)) hb) ?_
                  refine JL.gval rfl rfl (yl_move rfl) rfl ?_
                  refine JL.gval rfl rfl (yl_move rfl) rfl ?_
                  obtain ⟨x76, hx76, hres⟩ := bind_some hres
                  refine JL.geff rfl rfl (ef_call (T := T46 x76) Go.Proofs.Try.func46 rfl (by kernel_rfl) rfl (fun w hC => c46 (rd_row hC 4 rfl) rfl (ln_row hC 4 rfl) (rd_row hC 5 rfl) rfl (ln_row hC 5 rfl) hx76)) rfl ?_
                  rintro _ _ ⟨_, ⟨rfl, rfl⟩, rfl⟩
                  refine JL.gval rfl rfl (yl_not rfl) rfl ?_
                  refine JL.val (yl_pick_false rfl rfl) rfl ?_
                  have he := Option.some.inj hres
                  exact JL.weak [0, 1, 2, 3] K ⟨rfl, rfl, rfl, rfl, rfl, rfl, (by rw [← he]; rfl), trivial⟩ (by decide) rfl
            · intro K
              rcases cond_some hcb73 with ⟨hb, hres⟩ | ⟨hb, hres⟩
              · refine JL.set (d := 123) (v := .bool true) (congrArg (fun b => some (Value.bool b)) hb) ?_
                refine JL.gskip rfl rfl rfl rfl ?_
                refine JL.gskip rfl rfl rfl rfl ?_
                refine JL.gskip rfl rfl rfl rfl ?_
                refine JL.gskip rfl rfl rfl rfl ?_
                refine JL.val (yl_pick_true rfl rfl) rfl ?_
                have he := Option.some.inj hres
                exact JL.weak [0, 1, 2, 3, 6, 9] K ⟨rfl, rfl, rfl, rfl, rfl, rfl, rfl, rfl, (by rw [← he]; rfl), trivial⟩ (by decide) rfl
              · refine JL.set (d := 123) (v := .bool false) (congrArg (fun b => some (Value.bool b)) hb) ?_
                refine JL.gval rfl rfl (yl_loadn Go.Proofs.Try.underlying26 rfl i26 rfl (fun w hC => rd_box hC 4 rfl) rfl (i26s).symm i26p) rfl ?_
                refine JL.gval rfl rfl (yl_loadn Go.Proofs.Try.underlying26 rfl i26 rfl (fun w hC => rd_box hC 7 rfl) rfl (i26s).symm i26p) rfl ?_
                obtain ⟨x74, hx74, hres⟩ := bind_some hres
                refine JL.geff rfl rfl (ef_call (vs := [.agg #[.int .i64 x51.1.W, .int .i64 x51.1.H, .slice a52 x51.1.Breaks.length cp53], .agg #[.int .i64 x60.1.W, .int .i64 x60.1.H, .slice a61 x60.1.Breaks.length cp62]]) (T := T45 x74) Go.Proofs.Try.func45 rfl (by kernel_rfl) rfl (fun w hC => c45 (q0 := x51.1) (q1 := x60.1) (rd_row hC 5 rfl) rfl (ln_row hC 5 rfl) (rd_row hC 8 rfl) rfl (ln_row hC 8 rfl) hx74)) rfl ?_
                rintro _ _ ⟨_, ⟨rfl, rfl⟩, rfl⟩
                refine JL.gval rfl rfl (yl_not rfl) rfl ?_
                refine JL.val (yl_pick_false rfl rfl) rfl ?_
                have he := Option.some.inj hres
                exact JL.weak [0, 1, 2, 3, 6, 9] K ⟨rfl, rfl, rfl, rfl, rfl, rfl, rfl, rfl, (by rw [← he]; rfl), trivial⟩ (by decide) rfl
          · intro K
            rcases Bool.eq_false_or_eq_true (cb71) with hb | hb
            · refine JL.set (d := 118) (v := .bool true) (congrArg (fun b => some (Value.bool b)) hb) ?_
              refine JL.gskip rfl rfl rfl rfl ?_
              refine JL.gskip rfl rfl rfl rfl ?_
              refine JL.gskip rfl rfl rfl rfl ?_
              refine JL.val (yl_pick_true rfl rfl) rfl ?_
              exact JL.weak [0, 1, 2, 3, 4, 5, 6, 7, 8, 9] K ⟨rfl, rfl, rfl, rfl, rfl, rfl, rfl, rfl, rfl, rfl, (by rw [hb]; rfl), trivial⟩ (by decide) rfl
            · refine JL.set (d := 118) (v := .bool false) (congrArg (fun b => some (Value.bool b)) hb) ?_
              refine JL.gval rfl rfl (yl_move rfl) rfl ?_
              refine JL.gval rfl rfl (yl_move rfl) rfl ?_
              refine JL.gval rfl rfl (yl_neq rfl rfl) rfl ?_
              refine JL.val (yl_pick_false rfl rfl) rfl ?_
              exact JL.weak [0, 1, 2, 3, 4, 5, 6, 7, 8, 9] K ⟨rfl, rfl, rfl, rfl, rfl, rfl, rfl, rfl, rfl, rfl, (by rw [hb]; rfl), trivial⟩ (by decide) rfl
        · intro K
          rcases cond_some hcb71 with ⟨hb, hres⟩ | ⟨hb, hres⟩
          · refine JL.set (d := 112) (v := .bool true) (congrArg (fun b => some (Value.bool b)) hb) ?_
            refine JL.gskip rfl rfl rfl rfl ?_
            refine JL.gskip rfl rfl rfl rfl ?_
            refine JL.gskip rfl rfl rfl rfl ?_
            refine JL.gskip rfl rfl rfl rfl ?_
            refine JL.val (yl_pick_true rfl rfl) rfl ?_
            have he := Option.some.inj hres
            exact JL.weak [0, 1, 2, 3, 8, 9, 10, 11, 12, 13] K ⟨rfl, rfl, rfl, rfl, rfl, rfl, rfl, rfl, rfl, rfl, rfl, rfl, (by rw [← he]; rfl), trivial⟩ (by decide) rfl
          · refine JL.set (d := 112) (v := .bool false) (congrArg (fun b => some (Value.bool b)) hb) ?_
            refine JL.gval rfl rfl (yl_loadn Go.Proofs.Try.underlying26 rfl i26 rfl (fun w hC => rd_box hC 4 rfl) rfl (i26s).symm i26p) rfl ?_
            refine JL.gval rfl rfl (yl_loadn Go.Proofs.Try.underlying26 rfl i26 rfl (fun w hC => rd_box hC 6 rfl) rfl (i26s).symm i26p) rfl ?_
            obtain ⟨x72, hx72, hres⟩ := bind_some hres
            refine JL.geff rfl rfl (ef_call (vs := [.agg #[.int .i64 x27.1.W, .int .i64 x27.1.H, .slice a28 x27.1.Breaks.length cp29], .agg #[.int .i64 x33.1.W, .int .i64 x33.1.H, .slice a34 x33.1.Breaks.length cp35]]) (T := T45 x72) Go.Proofs.Try.func45 rfl (by kernel_rfl) rfl (fun w hC => c45 (q0 := x27.1) (q1 := x33.1) (rd_row hC 5 rfl) rfl (ln_row hC 5 rfl) (rd_row hC 7 rfl) rfl (ln_row hC 7 rfl) hx72)) rfl ?_
            rintro _ _ ⟨_, ⟨rfl, rfl⟩, rfl⟩
            refine JL.gval rfl rfl (yl_not rfl) rfl ?_
            refine JL.val (yl_pick_false rfl rfl) rfl ?_
            have he := Option.some.inj hres
            exact JL.weak [0, 1, 2, 3, 8, 9, 10, 11, 12, 13] K ⟨rfl, rfl, rfl, rfl, rfl, rfl, rfl, rfl, rfl, rfl, rfl, rfl, (by rw [← he]; rfl), trivial⟩ (by decide) rfl
      · intro K
        rcases Bool.eq_false_or_eq_true (cb69) with hb | hb
        · refine JL.set (d := 107) (v := .bool true) (congrArg (fun b => some (Value.bool b)) hb) ?_
          refine JL.gskip rfl rfl rfl rfl ?_
          refine JL.gskip rfl rfl rfl rfl ?_
          refine JL.gskip rfl rfl rfl rfl ?_
          refine JL.val (yl_pick_true rfl rfl) rfl ?_
          exact JL.weak [0, 1, 2, 3, 4, 5, 6, 7, 8, 9, 10, 11, 12, 13] K ⟨rfl, rfl, rfl, rfl, rfl, rfl, rfl, rfl, rfl, rfl, rfl, rfl, rfl, rfl, (by rw [hb]; rfl), trivial⟩ (by decide) rfl
        · refine JL.set (d := 107) (v := .bool false) (congrArg (fun b => some (Value.bool b)) hb) ?_
          refine JL.gval rfl rfl (yl_move rfl) rfl ?_
          refine JL.gval rfl rfl (yl_move rfl) rfl ?_
          refine JL.gval rfl rfl (yl_neq rfl rfl) rfl ?_
          refine JL.val (yl_pick_false rfl rfl) rfl ?_
          exact JL.weak [0, 1, 2, 3, 4, 5, 6, 7, 8, 9, 10, 11, 12, 13] K ⟨rfl, rfl, rfl, rfl, rfl, rfl, rfl, rfl, rfl, rfl, rfl, rfl, rfl, rfl, (by rw [hb]; rfl), trivial⟩ (by decide) rfl
    · intro K
      rcases cond_some hcb69 with ⟨hb, hres⟩ | ⟨hb, hres⟩
      · refine JL.set (d := 101) (v := .bool true) (congrArg (fun b => some (Value.bool b)) hb) ?_
        refine JL.gskip rfl rfl rfl rfl ?_
        refine JL.gskip rfl rfl rfl rfl ?_
        refine JL.gskip rfl rfl rfl rfl ?_
        refine JL.gskip rfl rfl rfl rfl ?_
        refine JL.val (yl_pick_true rfl rfl) rfl ?_
        have he := Option.some.inj hres
        exact JL.weak [0, 1, 2, 3, 5, 6, 7, 8, 9, 10, 11, 12, 13, 14] K ⟨rfl, rfl, rfl, rfl, rfl, rfl, rfl, rfl, rfl, rfl, rfl, rfl, rfl, rfl, rfl, rfl, (by rw [← he]; rfl), trivial⟩ (by decide) rfl
      · refine JL.set (d := 101) (v := .bool false) (congrArg (fun b => some (Value.bool b)) hb) ?_
        refine JL.gval rfl rfl (yl_move rfl) rfl ?_
        refine JL.gval rfl rfl (yl_move rfl) rfl ?_
        obtain ⟨x70, hx70, hres⟩ := bind_some hres
        refine JL.geff rfl rfl (ef_call (T := T17 x70) Go.Proofs.Try.func17 rfl (by kernel_rfl) rfl (fun w hC => c17 (rd_row hC 3 rfl) rfl (ln_row hC 3 rfl) (rd_row hC 4 rfl) rfl (ln_row hC 4 rfl) hx70)) rfl ?_
        rintro _ _ ⟨_, ⟨rfl, rfl⟩, rfl⟩
        refine JL.gval rfl rfl (yl_not rfl) rfl ?_
        refine JL.val (yl_pick_false rfl rfl) rfl ?_
        have he := Option.some.inj hres
        exact JL.weak [0, 1, 2, 3, 5, 6, 7, 8, 9, 10, 11, 12, 13, 14] K ⟨rfl, rfl, rfl, rfl, rfl, rfl, rfl, rfl, rfl, rfl, rfl, rfl, rfl, rfl, rfl, rfl, (by rw [← he]; rfl), trivial⟩ (by decide) rfl

end Go.Sh
