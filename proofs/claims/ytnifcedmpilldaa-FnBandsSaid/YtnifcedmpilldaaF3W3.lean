/- Walks through functions that the law reaches, printed by program. -/
import Derived.Test.YtnifcedmpilldaaF3W2
set_option linter.unusedVariables false
set_option linter.unusedSimpArgs false
namespace Go.Sh
open Go Go.RowKit
/- laws.FnBands -/
def sh3_1 (x2 : SPanel × Int × Int × Int) (x8 : List (List SPoint) × Int) (x15 : List (List SPoint) × Int) (x40 : List SPoint × Int) : Int → Option (Int ⊕ (Unit ⊕ Bool))
  | x44 => bif decide (x44 < ((x8.1.length : Nat) : Int)) then (Option.bind (getI x8.1 x44) fun x45 => Option.bind (sh18 x45) fun x49 => Option.bind (getI x40.1 x44) fun x50 => Option.bind (bif (x49.2 != 0) || (x49.1 != (w64 ((w64 (8 * x2.2.2.1)) * x2.2.2.2))) then (some true) else (Option.bind (getI x8.1 x44) fun x55 => Option.bind (sh19 x55) fun x59 => some !x59)) fun cb54 => (Option.bind (bif cb54 then (some true) else (Option.bind (getI x15.1 x44) fun x61 => Option.bind (getI x61 (0 : Int)) fun x65 => Option.bind (getI x15.1 x44) fun x66 => Option.bind (getI x66 (3 : Int)) fun x70 => some ((w64 (x65.X + x70.X)) != (w64 (2 * x50.X))))) fun cb60 => (Option.bind (bif cb60 then (some true) else (Option.bind (getI x15.1 x44) fun x72 => Option.bind (getI x72 (0 : Int)) fun x76 => Option.bind (getI x15.1 x44) fun x77 => Option.bind (getI x77 (3 : Int)) fun x81 => some ((w64 (x76.Y + x81.Y)) != (w64 (2 * x50.Y))))) fun cb71 => (bif cb71 then (some (.inr (.inr false))) else (Option.bind (getI x8.1 x44) fun x83 => Option.bind (sh20 x83 x50) fun x87 => bif (x87.2 != 0) || (x87.1 != 1) then (some (.inr (.inr false))) else (some (.inl (w64 (x44 + 1))))))))) else (some (.inr (.inl ())))
def sh3 (q0 : List Int) : Option (Bool) := Option.bind (sh9 q0) fun x1 => bif x1 then (some true) else (Option.bind (sh10 q0) fun x2 => Option.bind (sh11 x2.1 x2.2.1 x2.2.2.1 x2.2.2.2) fun x8 => Option.bind (sh12 x2.1 x2.2.1 x2.2.2.1 x2.2.2.2) fun x15 => Option.bind (sh13 q0) fun x22 => Option.bind (sh14 x22.1 x22.2.1 x22.2.2) fun x28 => Option.bind (sh15 x22.1 x22.2.1 x22.2.2) fun x32 => Option.bind (bif x8.2 != x15.2 then (some true) else (Option.bind (sh16 x8.1 x15.1) fun x37 => some !x37)) fun cb36 => (Option.bind (bif cb36 || (x28.2 != x32.2) then (some true) else (Option.bind (sh17 x28.1 x32.1) fun x39 => some !x39)) fun cb38 => (bif cb38 then (some false) else (bif x8.2 != 0 then (some true) else (Option.bind (sh14 x2.1 x2.2.1 x2.2.2.1) fun x40 => bif (x40.2 != 0) || ((x40.1.length : Int) != ((x8.1.length : Nat) : Int)) then (some false) else (Option.bind (iter (sh3_1 x2 x8 x15 x40) 0) fun y1 => elimS y1 (fun r => some r) fun b1 => (some true)))))))
def T3 (r : Bool) (v : Value) (rs : List Own) : Prop := v = rets [.bool r] ∧ rs = []
set_option maxRecDepth 100000 in
set_option maxHeartbeats 1000000 in
theorem c3 {w : World} {q0 : List Int} {a_0 : Option Addr} {n_0 c_0 : Nat} (g_0 : Rd w a_0 (eU8.fl q0)) (l_0 : q0.length = n_0) (k_0 : n_0 ≤ c_0) {r : Bool} (hres : sh3 q0 = some r) : Calls Go.Proofs.Try.prog 3 [.slice a_0 n_0 c_0].toArray w (Ret w (T3 r)) := by
  subst l_0
  unfold sh3 at hres
  refine calls_of (n := 202) (M := []) (es := []) Go.Proofs.Try.func3 rfl rfl rfl (Sep.nil _ _ _) ?_
  refine JX.seq ?_
  refine JX.region ?_
  refine JL.val (yl_assign rfl) rfl ?_
  refine JL.nil ?_
  refine JE.code ?_
  refine JX.seq ?_
  refine JX.seq ?_
  refine JX.region ?_
  refine JL.val (yl_move rfl) rfl ?_
  obtain ⟨x1, hx1, hres⟩ := bind_some hres
  refine JL.eff (ef_call (T := T9 x1) Go.Proofs.Try.func9 rfl (by kernel_rfl) rfl (fun w hC => c9 (rd_arg g_0 hC) rfl k_0 hx1)) rfl ?_
  rintro _ _ ⟨_, ⟨rfl, rfl⟩, rfl⟩
  refine JL.nil ?_
  refine JE.code ?_
  rcases cond_some hres with ⟨hb, hres⟩ | ⟨hb, hres⟩
  · refine JX.condT rfl hb ?_
    refine JX.seq ?_
    refine JX.region ?_
    refine JL.val (yl_assign rfl) rfl ?_
    refine JL.nil ?_
    refine JE.code ?_
    refine JX.ret ?_
    obtain rfl := Option.some.inj hres
    refine JE.ret (rs := [.tmp 2]) (vs := [.bool true]) rfl ⟨rfl, trivial⟩ ?_
    exact fun w' hb hs => ⟨_, _, ⟨rfl, rfl⟩, rfl, hb, hs.sel [] _ (by decide) rfl⟩
  · refine JX.condF rfl hb ?_
    refine JX.skip ?_
    refine JE.code ?_
    refine JX.seq ?_
    refine JX.region ?_
    refine JL.val (yl_move rfl) rfl ?_
    obtain ⟨x2, hx2, hres⟩ := bind_some hres
    refine JL.eff (ef_call (T := T10 x2) Go.Proofs.Try.func10 rfl (by kernel_rfl) rfl (fun w hC => c10 (rd_arg g_0 hC) rfl k_0 hx2)) rfl ?_
    rintro _ _ ⟨_, ⟨a3, _, cp4, rfl, rfl, rfl⟩, rfl⟩
    refine JL.val (yl_move rfl) rfl ?_
    refine JL.val (yl_extract rfl rfl) rfl ?_
    refine JL.val (yl_extract rfl rfl) rfl ?_
    refine JL.val (yl_extract rfl rfl) rfl ?_
    refine JL.val (yl_extract rfl rfl) rfl ?_
    refine JL.eff (ef_alloc i26 i26z rfl) rfl ?_
    rintro _ _ ⟨g6, rfl, rfl⟩
    refine JL.eff (ef_store_box (i := 1) (v := .agg #[.int .i64 x2.1.W, .int .i64 x2.1.H, .slice a3 x2.1.Breaks.length cp4]) i26 rfl rfl rfl (i26s).symm (Nat.le_of_ble_eq_true rfl) (by simp [Value.cells, Value.oneCell'])) rfl ?_
    rintro _ _ rfl
    refine JL.val (yl_assign rfl) rfl ?_
    refine JL.val (yl_assign rfl) rfl ?_
    refine JL.val (yl_assign rfl) rfl ?_
    refine JL.nil ?_
    refine JE.weak (env' := [(0, .slice a_0 q0.length c_0), (3, ptrAt (some ⟨g6, 0, none⟩) 0), (4, .int .i64 x2.2.1), (5, .int .i64 x2.2.2.1), (6, .int .i64 x2.2.2.2)]) (es' := [boxO 26 g6 [.int .i64 x2.1.W, .int .i64 x2.1.H, .slice a3 x2.1.Breaks.length cp4], rowT 2 eI64 a3 x2.1.Breaks.length cp4 x2.1.Breaks]) [1, 0] ?_ ⟨rfl, rfl, rfl, rfl, rfl, trivial⟩ (by decide) rfl
    refine JE.code ?_
    refine JX.seq ?_
    refine JX.region ?_
    refine JL.val (yl_loadn Go.Proofs.Try.underlying26 rfl i26 rfl (fun w hC => rd_box hC 0 rfl) rfl (i26s).symm i26p) rfl ?_
    refine JL.val (yl_move rfl) rfl ?_
    refine JL.val (yl_move rfl) rfl ?_
    refine JL.val (yl_move rfl) rfl ?_
    obtain ⟨x8, hx8, hres⟩ := bind_some hres
    refine JL.eff (ef_call (vs := [.agg #[.int .i64 x2.1.W, .int .i64 x2.1.H, .slice a3 x2.1.Breaks.length cp4], .int .i64 x2.2.1, .int .i64 x2.2.2.1, .int .i64 x2.2.2.2]) (T := T11 x8) Go.Proofs.Try.func11 rfl (by kernel_rfl) rfl (fun w hC => c11 (q0 := x2.1) (rd_row hC 1 rfl) rfl (ln_row hC 1 rfl) hx8)) rfl ?_
    rintro _ _ ⟨_, ⟨a9, _, cp10, hs12, rfl, hi13, rfl, rfl⟩, rfl⟩
    refine JL.val (yl_move rfl) rfl ?_
    refine JL.val (yl_extract rfl rfl) rfl ?_
    refine JL.val (yl_extract rfl rfl) rfl ?_
    refine JL.val (yl_assign rfl) rfl ?_
    refine JL.val (yl_assign rfl) rfl ?_
    refine JL.nil ?_
    refine JE.weak (env' := [(0, .slice a_0 q0.length c_0), (3, ptrAt (some ⟨g6, 0, none⟩) 0), (4, .int .i64 x2.2.1), (5, .int .i64 x2.2.2.1), (6, .int .i64 x2.2.2.2), (7, .slice a9 x8.1.length cp10), (8, .int .i64 x8.2)]) (es' := [boxO 26 g6 [.int .i64 x2.1.W, .int .i64 x2.1.H, .slice a3 x2.1.Breaks.length cp4], rowT 2 eI64 a3 x2.1.Breaks.length cp4 x2.1.Breaks, rowT 34 eHd a9 x8.1.length cp10 hs12, innO 42 eSPoint none hs12 x8.1]) [0, 1, 2, 3] ?_ ⟨rfl, rfl, rfl, rfl, rfl, rfl, rfl, trivial⟩ (by decide) rfl
    refine JE.code ?_
    refine JX.seq ?_
    refine JX.region ?_
    refine JL.val (yl_loadn Go.Proofs.Try.underlying26 rfl i26 rfl (fun w hC => rd_box hC 0 rfl) rfl (i26s).symm i26p) rfl ?_
    refine JL.val (yl_move rfl) rfl ?_
    refine JL.val (yl_move rfl) rfl ?_
    refine JL.val (yl_move rfl) rfl ?_
    obtain ⟨x15, hx15, hres⟩ := bind_some hres
    refine JL.eff (ef_call (vs := [.agg #[.int .i64 x2.1.W, .int .i64 x2.1.H, .slice a3 x2.1.Breaks.length cp4], .int .i64 x2.2.1, .int .i64 x2.2.2.1, .int .i64 x2.2.2.2]) (T := T12 x15) Go.Proofs.Try.func12 rfl (by kernel_rfl) rfl (fun w hC => c12 (q0 := x2.1) (rd_row hC 1 rfl) rfl (ln_row hC 1 rfl) hx15)) rfl ?_
    rintro _ _ ⟨_, ⟨a16, _, cp17, hs19, rfl, hi20, rfl, rfl⟩, rfl⟩
    refine JL.val (yl_move rfl) rfl ?_
    refine JL.val (yl_extract rfl rfl) rfl ?_
    refine JL.val (yl_extract rfl rfl) rfl ?_
    refine JL.val (yl_assign rfl) rfl ?_
    refine JL.val (yl_assign rfl) rfl ?_
    refine JL.nil ?_
    refine JE.weak (env' := [(0, .slice a_0 q0.length c_0), (3, ptrAt (some ⟨g6, 0, none⟩) 0), (4, .int .i64 x2.2.1), (5, .int .i64 x2.2.2.1), (6, .int .i64 x2.2.2.2), (7, .slice a9 x8.1.length cp10), (8, .int .i64 x8.2), (9, .slice a16 x15.1.length cp17), (10, .int .i64 x15.2)]) (es' := [boxO 26 g6 [.int .i64 x2.1.W, .int .i64 x2.1.H, .slice a3 x2.1.Breaks.length cp4], rowT 2 eI64 a3 x2.1.Breaks.length cp4 x2.1.Breaks, rowT 34 eHd a9 x8.1.length cp10 hs12, innO 42 eSPoint none hs12 x8.1, rowT 34 eHd a16 x15.1.length cp17 hs19, innO 42 eSPoint none hs19 x15.1]) [0, 1, 2, 3, 4, 5] ?_ ⟨rfl, rfl, rfl, rfl, rfl, rfl, rfl, rfl, rfl, trivial⟩ (by decide) rfl
    refine JE.code ?_
    refine JX.seq ?_
    refine JX.region ?_
    refine JL.val (yl_move rfl) rfl ?_
    obtain ⟨x22, hx22, hres⟩ := bind_some hres
    refine JL.eff (ef_call (T := T13 x22) Go.Proofs.Try.func13 rfl (by kernel_rfl) rfl (fun w hC => c13 (rd_arg g_0 hC) rfl k_0 hx22)) rfl ?_
    rintro _ _ ⟨_, ⟨a23, _, cp24, rfl, rfl, rfl⟩, rfl⟩
    refine JL.val (yl_move rfl) rfl ?_
    refine JL.val (yl_extract rfl rfl) rfl ?_
    refine JL.val (yl_extract rfl rfl) rfl ?_
    refine JL.val (yl_extract rfl rfl) rfl ?_
    refine JL.eff (ef_alloc i26 i26z rfl) rfl ?_
    rintro _ _ ⟨g26, rfl, rfl⟩
    refine JL.eff (ef_store_box (i := 7) (v := .agg #[.int .i64 x22.1.W, .int .i64 x22.1.H, .slice a23 x22.1.Breaks.length cp24]) i26 rfl rfl rfl (i26s).symm (Nat.le_of_ble_eq_true rfl) (by simp [Value.cells, Value.oneCell'])) rfl ?_
    rintro _ _ rfl
    refine JL.val (yl_assign rfl) rfl ?_
    refine JL.val (yl_assign rfl) rfl ?_
    refine JL.nil ?_
    refine JE.weak (env' := [(3, ptrAt (some ⟨g6, 0, none⟩) 0), (4, .int .i64 x2.2.1), (5, .int .i64 x2.2.2.1), (6, .int .i64 x2.2.2.2), (7, .slice a9 x8.1.length cp10), (8, .int .i64 x8.2), (9, .slice a16 x15.1.length cp17), (10, .int .i64 x15.2), (11, ptrAt (some ⟨g26, 0, none⟩) 0), (12, .int .i64 x22.2.1), (13, .int .i64 x22.2.2)]) (es' := [boxO 26 g6 [.int .i64 x2.1.W, .int .i64 x2.1.H, .slice a3 x2.1.Breaks.length cp4], rowT 2 eI64 a3 x2.1.Breaks.length cp4 x2.1.Breaks, rowT 34 eHd a9 x8.1.length cp10 hs12, innO 42 eSPoint none hs12 x8.1, rowT 34 eHd a16 x15.1.length cp17 hs19, innO 42 eSPoint none hs19 x15.1, boxO 26 g26 [.int .i64 x22.1.W, .int .i64 x22.1.H, .slice a23 x22.1.Breaks.length cp24], rowT 2 eI64 a23 x22.1.Breaks.length cp24 x22.1.Breaks]) [0, 1, 2, 3, 4, 5, 7, 6] ?_ ⟨rfl, rfl, rfl, rfl, rfl, rfl, rfl, rfl, rfl, rfl, rfl, trivial⟩ (by decide) rfl
    refine JE.code ?_
    refine JX.seq ?_
    refine JX.region ?_
    refine JL.val (yl_loadn Go.Proofs.Try.underlying26 rfl i26 rfl (fun w hC => rd_box hC 6 rfl) rfl (i26s).symm i26p) rfl ?_
    refine JL.val (yl_move rfl) rfl ?_
    refine JL.val (yl_move rfl) rfl ?_
    obtain ⟨x28, hx28, hres⟩ := bind_some hres
    refine JL.eff (ef_call (vs := [.agg #[.int .i64 x22.1.W, .int .i64 x22.1.H, .slice a23 x22.1.Breaks.length cp24], .int .i64 x22.2.1, .int .i64 x22.2.2]) (T := T14 x28) Go.Proofs.Try.func14 rfl (by kernel_rfl) rfl (fun w hC => c14 (q0 := x22.1) (rd_row hC 7 rfl) rfl (ln_row hC 7 rfl) hx28)) rfl ?_
    rintro _ _ ⟨_, ⟨a29, _, cp30, rfl, rfl, rfl⟩, rfl⟩
    refine JL.val (yl_move rfl) rfl ?_
    refine JL.val (yl_extract rfl rfl) rfl ?_
    refine JL.val (yl_extract rfl rfl) rfl ?_
    refine JL.val (yl_assign rfl) rfl ?_
    refine JL.val (yl_assign rfl) rfl ?_
    refine JL.nil ?_
    refine JE.weak (env' := [(3, ptrAt (some ⟨g6, 0, none⟩) 0), (4, .int .i64 x2.2.1), (5, .int .i64 x2.2.2.1), (6, .int .i64 x2.2.2.2), (7, .slice a9 x8.1.length cp10), (8, .int .i64 x8.2), (9, .slice a16 x15.1.length cp17), (10, .int .i64 x15.2), (11, ptrAt (some ⟨g26, 0, none⟩) 0), (12, .int .i64 x22.2.1), (13, .int .i64 x22.2.2), (14, .slice a29 x28.1.length cp30), (15, .int .i64 x28.2)]) (es' := [boxO 26 g6 [.int .i64 x2.1.W, .int .i64 x2.1.H, .slice a3 x2.1.Breaks.length cp4], rowT 2 eI64 a3 x2.1.Breaks.length cp4 x2.1.Breaks, rowT 34 eHd a9 x8.1.length cp10 hs12, innO 42 eSPoint none hs12 x8.1, rowT 34 eHd a16 x15.1.length cp17 hs19, innO 42 eSPoint none hs19 x15.1, boxO 26 g26 [.int .i64 x22.1.W, .int .i64 x22.1.H, .slice a23 x22.1.Breaks.length cp24], rowT 2 eI64 a23 x22.1.Breaks.length cp24 x22.1.Breaks, rowT 42 eSPoint a29 x28.1.length cp30 x28.1]) [0, 1, 2, 3, 4, 5, 6, 7, 8] ?_ ⟨rfl, rfl, rfl, rfl, rfl, rfl, rfl, rfl, rfl, rfl, rfl, rfl, rfl, trivial⟩ (by decide) rfl
    refine JE.code ?_
    refine JX.seq ?_
    refine JX.region ?_
    refine JL.val (yl_loadn Go.Proofs.Try.underlying26 rfl i26 rfl (fun w hC => rd_box hC 6 rfl) rfl (i26s).symm i26p) rfl ?_
    refine JL.val (yl_move rfl) rfl ?_
    refine JL.val (yl_move rfl) rfl ?_
    obtain ⟨x32, hx32, hres⟩ := bind_some hres
    refine JL.eff (ef_call (vs := [.agg #[.int .i64 x22.1.W, .int .i64 x22.1.H, .slice a23 x22.1.Breaks.length cp24], .int .i64 x22.2.1, .int .i64 x22.2.2]) (T := T15 x32) Go.Proofs.Try.func15 rfl (by kernel_rfl) rfl (fun w hC => c15 (q0 := x22.1) (rd_row hC 7 rfl) rfl (ln_row hC 7 rfl) hx32)) rfl ?_
    rintro _ _ ⟨_, ⟨a33, _, cp34, rfl, rfl, rfl⟩, rfl⟩
    refine JL.val (yl_move rfl) rfl ?_
    refine JL.val (yl_extract rfl rfl) rfl ?_
    refine JL.val (yl_extract rfl rfl) rfl ?_
    refine JL.val (yl_assign rfl) rfl ?_
    refine JL.val (yl_assign rfl) rfl ?_
    refine JL.nil ?_
    refine JE.weak (env' := [(3, ptrAt (some ⟨g6, 0, none⟩) 0), (4, .int .i64 x2.2.1), (5, .int .i64 x2.2.2.1), (6, .int .i64 x2.2.2.2), (7, .slice a9 x8.1.length cp10), (8, .int .i64 x8.2), (9, .slice a16 x15.1.length cp17), (10, .int .i64 x15.2), (14, .slice a29 x28.1.length cp30), (15, .int .i64 x28.2), (16, .slice a33 x32.1.length cp34), (17, .int .i64 x32.2)]) (es' := [boxO 26 g6 [.int .i64 x2.1.W, .int .i64 x2.1.H, .slice a3 x2.1.Breaks.length cp4], rowT 2 eI64 a3 x2.1.Breaks.length cp4 x2.1.Breaks, rowT 34 eHd a9 x8.1.length cp10 hs12, innO 42 eSPoint none hs12 x8.1, rowT 34 eHd a16 x15.1.length cp17 hs19, innO 42 eSPoint none hs19 x15.1, rowT 42 eSPoint a29 x28.1.length cp30 x28.1, rowT 42 eSPoint a33 x32.1.length cp34 x32.1]) [0, 1, 2, 3, 4, 5, 8, 9] ?_ ⟨rfl, rfl, rfl, rfl, rfl, rfl, rfl, rfl, rfl, rfl, rfl, rfl, trivial⟩ (by decide) rfl
    refine JE.code ?_
    refine JX.seq ?_
    refine JX.seq ?_
    refine JX.region ?_
    refine JL.val (yl_move rfl) rfl ?_
    refine JL.val (yl_move rfl) rfl ?_
    refine JL.val (yl_neq rfl rfl) rfl ?_
    refine JL.val (yl_move rfl) rfl ?_
    obtain ⟨cb36, hcb36, hres⟩ := bind_some hres
    refine JL.cut (K := fun J => J [(3, ptrAt (some ⟨g6, 0, none⟩) 0), (4, .int .i64 x2.2.1), (5, .int .i64 x2.2.2.1), (6, .int .i64 x2.2.2.2), (7, .slice a9 x8.1.length cp10), (8, .int .i64 x8.2), (9, .slice a16 x15.1.length cp17), (14, .slice a29 x28.1.length cp30), (15, .int .i64 x28.2), (16, .slice a33 x32.1.length cp34), (17, .int .i64 x32.2), (79, .bool cb36)] [boxO 26 g6 [.int .i64 x2.1.W, .int .i64 x2.1.H, .slice a3 x2.1.Breaks.length cp4], rowT 2 eI64 a3 x2.1.Breaks.length cp4 x2.1.Breaks, rowT 34 eHd a9 x8.1.length cp10 hs12, innO 42 eSPoint none hs12 x8.1, rowT 34 eHd a16 x15.1.length cp17 hs19, innO 42 eSPoint none hs19 x15.1, rowT 42 eSPoint a29 x28.1.length cp30 x28.1, rowT 42 eSPoint a33 x32.1.length cp34 x32.1]) 5 ?_ ?_
    · refine JL.val (yl_move rfl) rfl ?_
      refine JL.cut (K := fun J => J [(3, ptrAt (some ⟨g6, 0, none⟩) 0), (4, .int .i64 x2.2.1), (5, .int .i64 x2.2.2.1), (6, .int .i64 x2.2.2.2), (7, .slice a9 x8.1.length cp10), (8, .int .i64 x8.2), (9, .slice a16 x15.1.length cp17), (14, .slice a29 x28.1.length cp30), (16, .slice a33 x32.1.length cp34), (84, .bool (cb36 || (x28.2 != x32.2)))] [boxO 26 g6 [.int .i64 x2.1.W, .int .i64 x2.1.H, .slice a3 x2.1.Breaks.length cp4], rowT 2 eI64 a3 x2.1.Breaks.length cp4 x2.1.Breaks, rowT 34 eHd a9 x8.1.length cp10 hs12, innO 42 eSPoint none hs12 x8.1, rowT 34 eHd a16 x15.1.length cp17 hs19, innO 42 eSPoint none hs19 x15.1, rowT 42 eSPoint a29 x28.1.length cp30 x28.1, rowT 42 eSPoint a33 x32.1.length cp34 x32.1]) 4 ?_ ?_
      · refine JL.val (yl_move rfl) rfl ?_
        obtain ⟨cb38, hcb38, hres⟩ := bind_some hres
        refine JL.cut (K := fun J => J [(3, ptrAt (some ⟨g6, 0, none⟩) 0), (4, .int .i64 x2.2.1), (5, .int .i64 x2.2.2.1), (6, .int .i64 x2.2.2.2), (7, .slice a9 x8.1.length cp10), (8, .int .i64 x8.2), (9, .slice a16 x15.1.length cp17), (90, .bool cb38)] [boxO 26 g6 [.int .i64 x2.1.W, .int .i64 x2.1.H, .slice a3 x2.1.Breaks.length cp4], rowT 2 eI64 a3 x2.1.Breaks.length cp4 x2.1.Breaks, rowT 34 eHd a9 x8.1.length cp10 hs12, innO 42 eSPoint none hs12 x8.1, rowT 34 eHd a16 x15.1.length cp17 hs19, innO 42 eSPoint none hs19 x15.1]) 5 ?_ ?_
        · refine JL.nil ?_
          refine JE.weak (env' := [(3, ptrAt (some ⟨g6, 0, none⟩) 0), (4, .int .i64 x2.2.1), (5, .int .i64 x2.2.2.1), (6, .int .i64 x2.2.2.2), (7, .slice a9 x8.1.length cp10), (8, .int .i64 x8.2), (9, .slice a16 x15.1.length cp17), (90, .bool cb38)]) (es' := [boxO 26 g6 [.int .i64 x2.1.W, .int .i64 x2.1.H, .slice a3 x2.1.Breaks.length cp4], rowT 2 eI64 a3 x2.1.Breaks.length cp4 x2.1.Breaks, rowT 34 eHd a9 x8.1.length cp10 hs12, innO 42 eSPoint none hs12 x8.1, rowT 34 eHd a16 x15.1.length cp17 hs19, innO 42 eSPoint none hs19 x15.1]) [0, 1, 2, 3, 4, 5] ?_ ⟨rfl, rfl, rfl, rfl, rfl, rfl, rfl, rfl, trivial⟩ (by decide) rfl
          refine JE.code ?_
          rcases cond_some hres with ⟨hb, hres⟩ | ⟨hb, hres⟩
          · refine JX.condT rfl hb ?_
            refine JX.seq ?_
            refine JX.region ?_
            refine JL.val (yl_assign rfl) rfl ?_
            refine JL.nil ?_
            refine JE.weak (env' := [(2, .bool false)]) (es' := []) [] ?_ ⟨rfl, trivial⟩ (by decide) rfl
            refine JE.code ?_
            refine JX.ret ?_
            obtain rfl := Option.some.inj hres
            refine JE.ret (rs := [.tmp 2]) (vs := [.bool false]) rfl ⟨rfl, trivial⟩ ?_
            exact fun w' hb hs => ⟨_, _, ⟨rfl, rfl⟩, rfl, hb, hs.sel [] _ (by decide) rfl⟩
          · refine JX.condF rfl hb ?_
            refine JX.skip ?_
            refine JE.code ?_
            refine JX.seq ?_
            refine JX.seq ?_
            refine JX.region ?_
            refine JL.val (yl_move rfl) rfl ?_
            refine JL.val (yl_neq rfl rfl) rfl ?_
            refine JL.nil ?_
            refine JE.code ?_
            rcases cond_some hres with ⟨hb, hres⟩ | ⟨hb, hres⟩
            · refine JX.condT rfl hb ?_
              refine JX.seq ?_
              refine JX.region ?_
              refine JL.val (yl_assign rfl) rfl ?_
              refine JL.nil ?_
              refine JE.weak (env' := [(2, .bool true)]) (es' := []) [] ?_ ⟨rfl, trivial⟩ (by decide) rfl
              refine JE.code ?_
              refine JX.ret ?_
              obtain rfl := Option.some.inj hres
              refine JE.ret (rs := [.tmp 2]) (vs := [.bool true]) rfl ⟨rfl, trivial⟩ ?_
              exact fun w' hb hs => ⟨_, _, ⟨rfl, rfl⟩, rfl, hb, hs.sel [] _ (by decide) rfl⟩
            · refine JX.condF rfl hb ?_
              refine JX.skip ?_
              refine JE.code ?_
              refine JX.seq ?_
              refine JX.region ?_
              refine JL.val (yl_loadn Go.Proofs.Try.underlying26 rfl i26 rfl (fun w hC => rd_box hC 0 rfl) rfl (i26s).symm i26p) rfl ?_
              refine JL.val (yl_move rfl) rfl ?_
              refine JL.val (yl_move rfl) rfl ?_
              obtain ⟨x40, hx40, hres⟩ := bind_some hres
              refine JL.eff (ef_call (vs := [.agg #[.int .i64 x2.1.W, .int .i64 x2.1.H, .slice a3 x2.1.Breaks.length cp4], .int .i64 x2.2.1, .int .i64 x2.2.2.1]) (T := T14 x40) Go.Proofs.Try.func14 rfl (by kernel_rfl) rfl (fun w hC => c14 (q0 := x2.1) (rd_row hC 1 rfl) rfl (ln_row hC 1 rfl) hx40)) rfl ?_
              rintro _ _ ⟨_, ⟨a41, _, cp42, rfl, rfl, rfl⟩, rfl⟩
              refine JL.val (yl_move rfl) rfl ?_
              refine JL.val (yl_extract rfl rfl) rfl ?_
              refine JL.val (yl_extract rfl rfl) rfl ?_
              refine JL.val (yl_assign rfl) rfl ?_
              refine JL.val (yl_assign rfl) rfl ?_
              refine JL.nil ?_
              refine JE.weak (env' := [(5, .int .i64 x2.2.2.1), (6, .int .i64 x2.2.2.2), (7, .slice a9 x8.1.length cp10), (9, .slice a16 x15.1.length cp17), (18, .slice a41 x40.1.length cp42), (19, .int .i64 x40.2)]) (es' := [rowT 34 eHd a9 x8.1.length cp10 hs12, innO 42 eSPoint none hs12 x8.1, rowT 34 eHd a16 x15.1.length cp17 hs19, innO 42 eSPoint none hs19 x15.1, rowT 42 eSPoint a41 x40.1.length cp42 x40.1]) [2, 3, 4, 5, 6] ?_ ⟨rfl, rfl, rfl, rfl, rfl, rfl, trivial⟩ (by decide) rfl
              refine JE.code ?_
              refine JX.seq ?_
              refine JX.seq ?_
              refine JX.region ?_
              refine JL.val (yl_move rfl) rfl ?_
              refine JL.val (yl_neq rfl rfl) rfl ?_
              refine JL.val (yl_move rfl) rfl ?_
              refine JL.cut (K := fun J => J [(5, .int .i64 x2.2.2.1), (6, .int .i64 x2.2.2.2), (7, .slice a9 x8.1.length cp10), (9, .slice a16 x15.1.length cp17), (18, .slice a41 x40.1.length cp42), (108, .bool ((x40.2 != 0) || ((x40.1.length : Int) != ((x8.1.length : Nat) : Int))))] [rowT 34 eHd a9 x8.1.length cp10 hs12, innO 42 eSPoint none hs12 x8.1, rowT 34 eHd a16 x15.1.length cp17 hs19, innO 42 eSPoint none hs19 x15.1, rowT 42 eSPoint a41 x40.1.length cp42 x40.1]) 6 ?_ ?_
              · refine JL.nil ?_
                refine JE.weak (env' := [(5, .int .i64 x2.2.2.1), (6, .int .i64 x2.2.2.2), (7, .slice a9 x8.1.length cp10), (9, .slice a16 x15.1.length cp17), (18, .slice a41 x40.1.length cp42), (108, .bool ((x40.2 != 0) || ((x40.1.length : Int) != ((x8.1.length : Nat) : Int))))]) (es' := [rowT 34 eHd a9 x8.1.length cp10 hs12, innO 42 eSPoint none hs12 x8.1, rowT 34 eHd a16 x15.1.length cp17 hs19, innO 42 eSPoint none hs19 x15.1, rowT 42 eSPoint a41 x40.1.length cp42 x40.1]) [0, 1, 2, 3, 4] ?_ ⟨rfl, rfl, rfl, rfl, rfl, rfl, trivial⟩ (by decide) rfl
                refine JE.code ?_
                rcases cond_some hres with ⟨hb, hres⟩ | ⟨hb, hres⟩
                · refine JX.condT rfl hb ?_
                  refine JX.seq ?_
                  refine JX.region ?_
                  refine JL.val (yl_assign rfl) rfl ?_
                  refine JL.nil ?_
                  refine JE.weak (env' := [(2, .bool false)]) (es' := []) [] ?_ ⟨rfl, trivial⟩ (by decide) rfl
                  refine JE.code ?_
                  refine JX.ret ?_
                  obtain rfl := Option.some.inj hres
                  refine JE.ret (rs := [.tmp 2]) (vs := [.bool false]) rfl ⟨rfl, trivial⟩ ?_
                  exact fun w' hb hs => ⟨_, _, ⟨rfl, rfl⟩, rfl, hb, hs.sel [] _ (by decide) rfl⟩
                · refine JX.condF rfl hb ?_
                  refine JX.skip ?_
                  refine JE.code ?_
                  refine JX.seq ?_
                  refine JX.seq ?_
                  refine JX.region ?_
                  refine JL.val (yl_assign rfl) rfl ?_
                  refine JL.nil ?_
                  refine JE.code ?_
                  refine JX.block ?_
                  obtain ⟨y1, hy1, hresO1⟩ := bind_some hres
                  refine JX.loop (I := fun (s1 : Int) aa ww => St w [] 202 [(5, .int .i64 x2.2.2.1), (6, .int .i64 x2.2.2.2), (7, .slice a9 x8.1.length cp10), (9, .slice a16 x15.1.length cp17), (18, .slice a41 x40.1.length cp42), (20, .int .i64 s1)] [rowT 34 eHd a9 x8.1.length cp10 hs12, innO 42 eSPoint none hs12 x8.1, rowT 34 eHd a16 x15.1.length cp17 hs19, innO 42 eSPoint none hs19 x15.1, rowT 42 eSPoint a41 x40.1.length cp42 x40.1] aa ww) (sh3_1 x2 x8 x15 x40) hy1 (fun a w h => h.weak ⟨rfl, rfl, rfl, rfl, rfl, rfl, trivial⟩ [0, 1, 2, 3, 4] (by decide) rfl) ?_
                  rintro x44 o1 hres hox1 aa ww hS
                  refine (?_ : JX Go.Proofs.Try.prog w [] 202 _ _ [(5, .int .i64 x2.2.2.1), (6, .int .i64 x2.2.2.2), (7, .slice a9 x8.1.length cp10), (9, .slice a16 x15.1.length cp17), (18, .slice a41 x40.1.length cp42), (20, .int .i64 x44)] [rowT 34 eHd a9 x8.1.length cp10 hs12, innO 42 eSPoint none hs12 x8.1, rowT 34 eHd a16 x15.1.length cp17 hs19, innO 42 eSPoint none hs19 x15.1, rowT 42 eSPoint a41 x40.1.length cp42 x40.1] _) aa ww hS
                  clear hS
                  unfold sh3_1 at hres
                  refine JX.seq ?_
                  refine JX.seq ?_
                  refine JX.region ?_
                  refine JL.val (yl_move rfl) rfl ?_
                  refine JL.val (yl_move rfl) rfl ?_
                  refine JL.val (yl_len_slice Go.Proofs.Try.underlying29 rfl) rfl ?_
                  refine JL.val (yl_lss rfl rfl) rfl ?_
                  refine JL.nil ?_
                  refine JE.weak (env' := [(5, .int .i64 x2.2.2.1), (6, .int .i64 x2.2.2.2), (7, .slice a9 x8.1.length cp10), (9, .slice a16 x15.1.length cp17), (18, .slice a41 x40.1.length cp42), (20, .int .i64 x44), (112, .bool (decide (x44 < ((x8.1.length : Nat) : Int))))]) (es' := [rowT 34 eHd a9 x8.1.length cp10 hs12, innO 42 eSPoint none hs12 x8.1, rowT 34 eHd a16 x15.1.length cp17 hs19, innO 42 eSPoint none hs19 x15.1, rowT 42 eSPoint a41 x40.1.length cp42 x40.1]) [0, 1, 2, 3, 4] ?_ ⟨rfl, rfl, rfl, rfl, rfl, rfl, rfl, trivial⟩ (by decide) rfl
                  refine JE.code ?_
                  rcases cond_some hres with ⟨hb, hres⟩ | ⟨hb, hres⟩
                  · refine JX.condT rfl hb ?_
                    refine JX.skip ?_
                    refine JE.code ?_
                    refine JX.seq ?_
                    refine JX.block ?_
                    refine JX.seq ?_
                    refine JX.region ?_
                    refine JL.val (yl_move rfl) rfl ?_
                    refine JL.val (yl_move rfl) rfl ?_
                    obtain ⟨x45, hx45, hres⟩ := bind_some hres
                    obtain ⟨ha46, hc47, hhx45⟩ := Inn.sub hi13 hx45
                    refine JL.val (yl_idxT Go.Proofs.Try.underlying29 i34 i34s rfl rfl hhx45 (Inn.len hi13) (fun w hC => rd_row hC 0 rfl)) rfl ?_
                    refine JL.val (yl_loadT0 (z := ⟨ha46, x45.length, hc47⟩) Go.Proofs.Try.underlying34 rfl rfl hhx45 (fun w hC => rd_row hC 0 rfl) rfl) rfl ?_
                    obtain ⟨x49, hx49, hres⟩ := bind_some hres
                    refine JL.eff (ef_call (T := T18 x49) Go.Proofs.Try.func18 rfl (by kernel_rfl) rfl (fun w hC => c18 ((RdI.sub (rd_inn hC 1 rfl) hx45 hhx45)) rfl (RdI.ln (rd_inn hC 1 rfl) hx45 hhx45) hx49)) rfl ?_
                    rintro _ _ ⟨_, ⟨rfl, rfl⟩, rfl⟩
                    refine JL.val (yl_move rfl) rfl ?_
                    refine JL.val (yl_extract rfl rfl) rfl ?_
                    refine JL.val (yl_extract rfl rfl) rfl ?_
                    refine JL.val (yl_assign rfl) rfl ?_
                    refine JL.val (yl_assign rfl) rfl ?_
                    refine JL.nil ?_
                    refine JE.weak (env' := [(5, .int .i64 x2.2.2.1), (6, .int .i64 x2.2.2.2), (7, .slice a9 x8.1.length cp10), (9, .slice a16 x15.1.length cp17), (18, .slice a41 x40.1.length cp42), (20, .int .i64 x44), (21, .int .i64 x49.1), (22, .int .i64 x49.2)]) (es' := [rowT 34 eHd a9 x8.1.length cp10 hs12, innO 42 eSPoint none hs12 x8.1, rowT 34 eHd a16 x15.1.length cp17 hs19, innO 42 eSPoint none hs19 x15.1, rowT 42 eSPoint a41 x40.1.length cp42 x40.1]) [0, 1, 2, 3, 4] ?_ ⟨rfl, rfl, rfl, rfl, rfl, rfl, rfl, rfl, trivial⟩ (by decide) rfl
                    refine JE.code ?_
                    refine JX.seq ?_
                    refine JX.region ?_
                    refine JL.val (yl_move rfl) rfl ?_
                    refine JL.val (yl_move rfl) rfl ?_
                    obtain ⟨x50, hx50, hres⟩ := bind_some hres
                    refine JL.val (yl_idxT Go.Proofs.Try.underlying34 i42 i42s rfl rfl hx50 rfl (fun w hC => rd_row hC 4 rfl)) rfl ?_
                    refine JL.val (yl_loadTn Go.Proofs.Try.underlying42 rfl i42 i42s rfl hx50 (fun w hC => rd_row hC 4 rfl)) rfl ?_
                    refine JL.eff (ef_alloc i42 i42z rfl) rfl ?_
                    rintro _ _ ⟨g51, rfl, rfl⟩
                    refine JL.eff (ef_store_box (i := 5) (v := .agg #[.int .i64 x50.X, .int .i64 x50.Y]) i42 rfl rfl rfl (i42s).symm (Nat.le_of_ble_eq_true rfl) (by simp [Value.cells, Value.oneCell'])) rfl ?_
                    rintro _ _ rfl
                    refine JL.nil ?_
                    refine JE.weak (env' := [(5, .int .i64 x2.2.2.1), (6, .int .i64 x2.2.2.2), (7, .slice a9 x8.1.length cp10), (9, .slice a16 x15.1.length cp17), (18, .slice a41 x40.1.length cp42), (20, .int .i64 x44), (21, .int .i64 x49.1), (22, .int .i64 x49.2), (23, ptrAt (some ⟨g51, 0, none⟩) 0)]) (es' := [rowT 34 eHd a9 x8.1.length cp10 hs12, innO 42 eSPoint none hs12 x8.1, rowT 34 eHd a16 x15.1.length cp17 hs19, innO 42 eSPoint none hs19 x15.1, rowT 42 eSPoint a41 x40.1.length cp42 x40.1, boxO 42 g51 [.int .i64 x50.X, .int .i64 x50.Y]]) [0, 1, 2, 3, 4, 5] ?_ ⟨rfl, rfl, rfl, rfl, rfl, rfl, rfl, rfl, rfl, trivial⟩ (by decide) rfl
                    refine JE.code ?_
                    refine JX.seq ?_
                    refine JX.seq ?_
                    refine JX.drawH [(0, .pure), (1, .pure), (2, .pure), (3, .pure), (4, .pure), (5, .pure), (6, .pure), (7, .pure), (8, .pure), (9, .pure), (10, .pure), (11, .pure), (12, .pure), (13, .pure), (14, .read), (15, .must), (16, .pure), (17, .pure), (18, .pure), (19, .pure), (20, .pure), (21, .pure), (22, .read), (23, .pure), (24, .pure), (25, .read), (26, .pure), (27, .pure), (28, .pure), (29, .read), (30, .pure), (31, .pure), (32, .read), (33, .pure), (34, .pure), (35, .read), (36, .pure), (37, .pure), (38, .pure), (39, .pure), (40, .pure), (41, .pure), (42, .pure), (43, .read), (44, .pure), (45, .pure), (46, .read), (47, .pure), (48, .pure), (49, .pure), (50, .read), (51, .pure), (52, .pure), (53, .read), (54, .pure), (55, .pure), (56, .read), (57, .pure), (58, .pure), (59, .pure)] [] [] [0, 1, 2, 3, 4, 5] [] [rowT 34 eHd a9 x8.1.length cp10 hs12, innO 42 eSPoint none hs12 x8.1, rowT 34 eHd a16 x15.1.length cp17 hs19, innO 42 eSPoint none hs19 x15.1, rowT 42 eSPoint a41 x40.1.length cp42 x40.1, boxO 42 g51 [.int .i64 x50.X, .int .i64 x50.Y]] mixedP (by kernel_rfl) (by kernel_rfl) (by decide) rfl rfl ?_
                    intro wrr53 Nr53 hFr53
                    refine JH.pure rfl (yl_move rfl) rfl ?_
                    refine JH.pure rfl (yl_neq rfl rfl) rfl ?_
                    refine JH.pure rfl (yl_move rfl) rfl ?_
                    refine JH.cut (K := fun J => J [(5, .int .i64 x2.2.2.1), (6, .int .i64 x2.2.2.2), (7, .slice a9 x8.1.length cp10), (9, .slice a16 x15.1.length cp17), (18, .slice a41 x40.1.length cp42), (20, .int .i64 x44), (23, ptrAt (some ⟨g51, 0, none⟩) 0), (136, .bool ((x49.2 != 0) || (x49.1 != (w64 ((w64 (8 * x2.2.2.1)) * x2.2.2.2)))))] []) 7 ?_ ?_
                    · refine JH.pure rfl (yl_move rfl) rfl ?_
                      obtain ⟨cb54, hcb54, hres⟩ := bind_some hres
                      refine JH.cut (K := fun J => J [(5, .int .i64 x2.2.2.1), (6, .int .i64 x2.2.2.2), (7, .slice a9 x8.1.length cp10), (9, .slice a16 x15.1.length cp17), (18, .slice a41 x40.1.length cp42), (20, .int .i64 x44), (23, ptrAt (some ⟨g51, 0, none⟩) 0), (144, .bool cb54)] []) 7 ?_ ?_
                      · refine JH.pure rfl (yl_move rfl) rfl ?_
                        obtain ⟨cb60, hcb60, hres⟩ := bind_some hres
                        refine JH.cut (K := fun J => J [(5, .int .i64 x2.2.2.1), (6, .int .i64 x2.2.2.2), (7, .slice a9 x8.1.length cp10), (9, .slice a16 x15.1.length cp17), (18, .slice a41 x40.1.length cp42), (20, .int .i64 x44), (23, ptrAt (some ⟨g51, 0, none⟩) 0), (165, .bool cb60)] []) 20 ?_ ?_
                        · refine JH.pure rfl (yl_move rfl) rfl ?_
                          obtain ⟨cb71, hcb71, hres⟩ := bind_some hres
                          refine JH.cut (K := fun J => J [(5, .int .i64 x2.2.2.1), (6, .int .i64 x2.2.2.2), (7, .slice a9 x8.1.length cp10), (9, .slice a16 x15.1.length cp17), (18, .slice a41 x40.1.length cp42), (20, .int .i64 x44), (23, ptrAt (some ⟨g51, 0, none⟩) 0), (186, .bool cb71)] []) 20 ?_ ?_
                          · refine JH.nil ?_
                            refine JE.weak (env' := [(5, .int .i64 x2.2.2.1), (6, .int .i64 x2.2.2.2), (7, .slice a9 x8.1.length cp10), (9, .slice a16 x15.1.length cp17), (18, .slice a41 x40.1.length cp42), (20, .int .i64 x44), (23, ptrAt (some ⟨g51, 0, none⟩) 0), (186, .bool cb71)]) (es' := [rowT 34 eHd a9 x8.1.length cp10 hs12, innO 42 eSPoint none hs12 x8.1, rowT 34 eHd a16 x15.1.length cp17 hs19, innO 42 eSPoint none hs19 x15.1, rowT 42 eSPoint a41 x40.1.length cp42 x40.1, boxO 42 g51 [.int .i64 x50.X, .int .i64 x50.Y]]) [0, 1, 2, 3, 4, 5] ?_ ⟨rfl, rfl, rfl, rfl, rfl, rfl, rfl, rfl, trivial⟩ (by decide) rfl
                            refine JE.code ?_
                            rcases cond_some hres with ⟨hb, hres⟩ | ⟨hb, hres⟩
                            · refine JX.condT rfl hb ?_
                              refine JX.seq ?_
                              refine JX.region ?_
                              refine JL.val (yl_assign rfl) rfl ?_
                              refine JL.nil ?_
                              refine JE.weak (env' := [(2, .bool false)]) (es' := []) [] ?_ ⟨rfl, trivial⟩ (by decide) rfl
                              refine JE.code ?_
                              refine JX.ret ?_
                              refine JE.qbr ?_
                              refine JE.qbr ?_
                              have hres := elimS_inr hresO1 (hox1 _ (Option.some.inj hres).symm)
                              obtain rfl := Option.some.inj hres
                              refine JE.ret (rs := [.tmp 2]) (vs := [.bool false]) rfl ⟨rfl, trivial⟩ ?_
                              exact fun w' hb hs => ⟨_, _, ⟨rfl, rfl⟩, rfl, hb, hs.sel [] _ (by decide) rfl⟩
                            · refine JX.condF rfl hb ?_
                              refine JX.skip ?_
                              refine JE.code ?_
                              refine JX.seq ?_
                              refine JX.drawH [(0, .pure), (1, .pure), (2, .pure), (3, .read), (4, .read), (5, .must), (6, .pure), (7, .pure), (8, .pure), (9, .pure), (10, .pure)] [] [] [0, 1, 2, 3, 4, 5] [] [rowT 34 eHd a9 x8.1.length cp10 hs12, innO 42 eSPoint none hs12 x8.1, rowT 34 eHd a16 x15.1.length cp17 hs19, innO 42 eSPoint none hs19 x15.1, rowT 42 eSPoint a41 x40.1.length cp42 x40.1, boxO 42 g51 [.int .i64 x50.X, .int .i64 x50.Y]] mixedP (by kernel_rfl) (by kernel_rfl) (by decide) rfl rfl ?_
                              intro wrr82 Nr82 hFr82
                              refine JH.pure rfl (yl_move rfl) rfl ?_
                              refine JH.pure rfl (yl_move rfl) rfl ?_
                              obtain ⟨x83, hx83, hres⟩ := bind_some hres
                              obtain ⟨ha84, hc85, hhx83⟩ := Inn.sub hi13 hx83
                              refine JH.pure rfl (yl_idxQ Go.Proofs.Try.underlying29 i34 i34s rfl rfl hhx83 (Inn.len hi13) (rd_row hFr82.cl 0 rfl) (Inn.len hi13)) rfl ?_
                              refine JH.read rfl (yl_loadT0 (z := ⟨ha84, x83.length, hc85⟩) Go.Proofs.Try.underlying34 rfl rfl hhx83 (fun w hw => hFr82.row 0 rfl rfl hw) rfl) rfl ?_
                              refine JH.read rfl (yl_loadn Go.Proofs.Try.underlying42 rfl i42 rfl (fun w hw => hFr82.box 5 rfl rfl hw) rfl (i42s).symm i42p) rfl ?_
                              obtain ⟨x87, hx87, hres⟩ := bind_some hres
                              refine JH.must rfl (ef_call (vs := [.slice ha84 x83.length hc85, .agg #[.int .i64 x50.X, .int .i64 x50.Y]]) (T := T20 x87) Go.Proofs.Try.func20 rfl (by kernel_rfl) rfl (fun w hC => c20 (q1 := x50) ((RdI.sub (hFr82.inn 1 rfl rfl hC.1) hx83 hhx83)) rfl (RdI.ln (hFr82.inn 1 rfl rfl hC.1) hx83 hhx83) hx87)) rfl rfl ?_
                              rintro _ _ ⟨_, ⟨rfl, rfl⟩, rfl⟩
                              refine JH.pure rfl (yl_move rfl) rfl ?_
                              refine JH.pure rfl (yl_extract rfl rfl) rfl ?_
                              refine JH.pure rfl (yl_extract rfl rfl) rfl ?_
                              refine JH.pure rfl (yl_assign rfl) rfl ?_
                              refine JH.pure rfl (yl_assign rfl) rfl ?_
                              refine JH.nil ?_
                              refine JE.weak (env' := [(5, .int .i64 x2.2.2.1), (6, .int .i64 x2.2.2.2), (7, .slice a9 x8.1.length cp10), (9, .slice a16 x15.1.length cp17), (18, .slice a41 x40.1.length cp42), (20, .int .i64 x44), (24, .int .i64 x87.1), (25, .int .i64 x87.2)]) (es' := [rowT 34 eHd a9 x8.1.length cp10 hs12, innO 42 eSPoint none hs12 x8.1, rowT 34 eHd a16 x15.1.length cp17 hs19, innO 42 eSPoint none hs19 x15.1, rowT 42 eSPoint a41 x40.1.length cp42 x40.1]) [0, 1, 2, 3, 4] ?_ ⟨rfl, rfl, rfl, rfl, rfl, rfl, rfl, rfl, trivial⟩ (by decide) rfl
                              refine JE.code ?_
                              refine JX.seq ?_
                              refine JX.region ?_
                              refine JL.val (yl_move rfl) rfl ?_
                              refine JL.val (yl_neq rfl rfl) rfl ?_
                              refine JL.val (yl_move rfl) rfl ?_
                              refine JL.cut (K := fun J => J [(5, .int .i64 x2.2.2.1), (6, .int .i64 x2.2.2.2), (7, .slice a9 x8.1.length cp10), (9, .slice a16 x15.1.length cp17), (18, .slice a41 x40.1.length cp42), (20, .int .i64 x44), (201, .bool ((x87.2 != 0) || (x87.1 != 1)))] [rowT 34 eHd a9 x8.1.length cp10 hs12, innO 42 eSPoint none hs12 x8.1, rowT 34 eHd a16 x15.1.length cp17 hs19, innO 42 eSPoint none hs19 x15.1, rowT 42 eSPoint a41 x40.1.length cp42 x40.1]) 3 ?_ ?_
                              · refine JL.nil ?_
                                refine JE.weak (env' := [(5, .int .i64 x2.2.2.1), (6, .int .i64 x2.2.2.2), (7, .slice a9 x8.1.length cp10), (9, .slice a16 x15.1.length cp17), (18, .slice a41 x40.1.length cp42), (20, .int .i64 x44), (201, .bool ((x87.2 != 0) || (x87.1 != 1)))]) (es' := [rowT 34 eHd a9 x8.1.length cp10 hs12, innO 42 eSPoint none hs12 x8.1, rowT 34 eHd a16 x15.1.length cp17 hs19, innO 42 eSPoint none hs19 x15.1, rowT 42 eSPoint a41 x40.1.length cp42 x40.1]) [0, 1, 2, 3, 4] ?_ ⟨rfl, rfl, rfl, rfl, rfl, rfl, rfl, trivial⟩ (by decide) rfl
                                refine JE.code ?_
                                rcases cond_some hres with ⟨hb, hres⟩ | ⟨hb, hres⟩
                                · refine JX.condT rfl hb ?_
                                  refine JX.seq ?_
                                  refine JX.region ?_
                                  refine JL.val (yl_assign rfl) rfl ?_
                                  refine JL.nil ?_
                                  refine JE.weak (env' := [(2, .bool false)]) (es' := []) [] ?_ ⟨rfl, trivial⟩ (by decide) rfl
                                  refine JE.code ?_
                                  refine JX.ret ?_
                                  refine JE.qbr ?_
                                  refine JE.qbr ?_
                                  have hres := elimS_inr hresO1 (hox1 _ (Option.some.inj hres).symm)
                                  obtain rfl := Option.some.inj hres
                                  refine JE.ret (rs := [.tmp 2]) (vs := [.bool false]) rfl ⟨rfl, trivial⟩ ?_
                                  exact fun w' hb hs => ⟨_, _, ⟨rfl, rfl⟩, rfl, hb, hs.sel [] _ (by decide) rfl⟩
                                · refine JX.condF rfl hb ?_
                                  refine JX.skip ?_
                                  refine JE.code ?_
                                  refine JX.region ?_
                                  refine JL.val (yl_move rfl) rfl ?_
                                  refine JL.val (yl_add rfl rfl) rfl ?_
                                  refine JL.val (yl_assign rfl) rfl ?_
                                  refine JL.nil ?_
                                  refine JE.cont hres ?_
                                  exact fun a w h => h.weak ⟨rfl, rfl, rfl, rfl, rfl, rfl, trivial⟩ [0, 1, 2, 3, 4] (by decide) rfl
                              · intro K
                                rcases Bool.eq_false_or_eq_true (x87.2 != 0) with hb | hb
                                · refine JL.set (d := 198) (v := .bool true) (congrArg (fun b => some (Value.bool b)) hb) ?_
                                  refine JL.gskip rfl rfl rfl rfl ?_
                                  refine JL.gskip rfl rfl rfl rfl ?_
                                  refine JL.val (yl_pick_true rfl rfl) rfl ?_
                                  exact JL.weak [0, 1, 2, 3, 4] K ⟨rfl, rfl, rfl, rfl, rfl, rfl, (by rw [hb]; rfl), trivial⟩ (by decide) rfl
                                · refine JL.set (d := 198) (v := .bool false) (congrArg (fun b => some (Value.bool b)) hb) ?_
                                  refine JL.gval rfl rfl (yl_move rfl) rfl ?_
                                  refine JL.gval rfl rfl (yl_neq rfl rfl) rfl ?_
                                  refine JL.val (yl_pick_false rfl rfl) rfl ?_
                                  exact JL.weak [0, 1, 2, 3, 4] K ⟨rfl, rfl, rfl, rfl, rfl, rfl, (by rw [hb]; rfl), trivial⟩ (by decide) rfl
                          · intro K
                            rcases cond_some hcb71 with ⟨hb, hres⟩ | ⟨hb, hres⟩
                            · refine JH.set (d := 166) (v := .bool true) (congrArg (fun b => some (Value.bool b)) hb) ?_
                              refine JH.gskip rfl rfl rfl rfl rfl rfl ?_
                              refine JH.gskip rfl rfl rfl rfl rfl rfl ?_
                              refine JH.gskip rfl rfl rfl rfl rfl rfl ?_
                              refine JH.gskip rfl rfl rfl rfl rfl rfl ?_
                              refine JH.gskip rfl rfl rfl rfl rfl rfl ?_
                              refine JH.gskip rfl rfl rfl rfl rfl rfl ?_
                              refine JH.gskip rfl rfl rfl rfl rfl rfl ?_
                              refine JH.gskip rfl rfl rfl rfl rfl rfl ?_
                              refine JH.gskip rfl rfl rfl rfl rfl rfl ?_
                              refine JH.gskip rfl rfl rfl rfl rfl rfl ?_
                              refine JH.gskip rfl rfl rfl rfl rfl rfl ?_
                              refine JH.gskip rfl rfl rfl rfl rfl rfl ?_
                              refine JH.gskip rfl rfl rfl rfl rfl rfl ?_
                              refine JH.gskip rfl rfl rfl rfl rfl rfl ?_
                              refine JH.gskip rfl rfl rfl rfl rfl rfl ?_
                              refine JH.gskip rfl rfl rfl rfl rfl rfl ?_
                              refine JH.gskip rfl rfl rfl rfl rfl rfl ?_
                              refine JH.gskip rfl rfl rfl rfl rfl rfl ?_
                              refine JH.gskip rfl rfl rfl rfl rfl rfl ?_
                              refine JH.pure rfl (yl_pick_true rfl rfl) rfl ?_
                              have he := Option.some.inj hres
                              exact JH.weak [] K ⟨rfl, rfl, rfl, rfl, rfl, rfl, rfl, (by rw [← he]; rfl), trivial⟩ (by decide) rfl
                            · refine JH.set (d := 166) (v := .bool false) (congrArg (fun b => some (Value.bool b)) hb) ?_
                              refine JH.gpure rfl rfl rfl (yl_move rfl) rfl ?_
                              refine JH.gpure rfl rfl rfl (yl_move rfl) rfl ?_
                              obtain ⟨x72, hx72, hres⟩ := bind_some hres
                              obtain ⟨ha73, hc74, hhx72⟩ := Inn.sub hi20 hx72
                              refine JH.gpure rfl rfl rfl (yl_idxQ Go.Proofs.Try.underlying29 i34 i34s rfl rfl hhx72 (Inn.len hi20) (rd_row hFr53.cl 2 rfl) (Inn.len hi20)) rfl ?_
                              refine JH.gread rfl rfl rfl (yl_loadT0 (z := ⟨ha73, x72.length, hc74⟩) Go.Proofs.Try.underlying34 rfl rfl hhx72 (fun w hw => hFr53.row 2 rfl rfl hw) rfl) rfl ?_
                              obtain ⟨x76, hx76, hres⟩ := bind_some hres
                              refine JH.gpure rfl rfl rfl (yl_idxQ Go.Proofs.Try.underlying34 i42 i42s rfl rfl hx76 rfl (RdI.sub (rd_inn hFr53.cl 3 rfl) hx72 hhx72) rfl) rfl ?_
                              refine JH.gpure rfl rfl rfl (yl_fieldAt Go.Proofs.Try.underlying42 rfl i2 i2n rfl (RdT.someQ (RdI.sub (rd_inn hFr53.cl 3 rfl) hx72 hhx72) hx76 rfl rfl)) rfl ?_
                              refine JH.gread rfl rfl rfl (yl_loadT1 Go.Proofs.Try.underlying2 rfl rfl hx76 (fun w hw => RdI.sub (hFr53.inn 3 rfl rfl hw) hx72 hhx72) rfl) rfl ?_
                              refine JH.gpure rfl rfl rfl (yl_move rfl) rfl ?_
                              refine JH.gpure rfl rfl rfl (yl_move rfl) rfl ?_
                              obtain ⟨x77, hx77, hres⟩ := bind_some hres
                              obtain ⟨ha78, hc79, hhx77⟩ := Inn.sub hi20 hx77
                              refine JH.gpure rfl rfl rfl (yl_idxQ Go.Proofs.Try.underlying29 i34 i34s rfl rfl hhx77 (Inn.len hi20) (rd_row hFr53.cl 2 rfl) (Inn.len hi20)) rfl ?_
                              refine JH.gread rfl rfl rfl (yl_loadT0 (z := ⟨ha78, x77.length, hc79⟩) Go.Proofs.Try.underlying34 rfl rfl hhx77 (fun w hw => hFr53.row 2 rfl rfl hw) rfl) rfl ?_
                              obtain ⟨x81, hx81, hres⟩ := bind_some hres
                              refine JH.gpure rfl rfl rfl (yl_idxQ Go.Proofs.Try.underlying34 i42 i42s rfl rfl hx81 rfl (RdI.sub (rd_inn hFr53.cl 3 rfl) hx77 hhx77) rfl) rfl ?_
                              refine JH.gpure rfl rfl rfl (yl_fieldAt Go.Proofs.Try.underlying42 rfl i2 i2n rfl (RdT.someQ (RdI.sub (rd_inn hFr53.cl 3 rfl) hx77 hhx77) hx81 rfl rfl)) rfl ?_
                              refine JH.gread rfl rfl rfl (yl_loadT1 Go.Proofs.Try.underlying2 rfl rfl hx81 (fun w hw => RdI.sub (hFr53.inn 3 rfl rfl hw) hx77 hhx77) rfl) rfl ?_
                              refine JH.gpure rfl rfl rfl (yl_add rfl rfl) rfl ?_
                              refine JH.gpure rfl rfl rfl (yl_fieldAt (a := some _) Go.Proofs.Try.underlying42 rfl i2 i2n rfl rfl) rfl ?_
                              refine JH.gread rfl rfl rfl (yl_load1 Go.Proofs.Try.underlying2 rfl rfl (fun w hw => hFr53.box 5 rfl rfl hw) rfl) rfl ?_
                              refine JH.gpure rfl rfl rfl (yl_mul rfl rfl) rfl ?_
                              refine JH.gpure rfl rfl rfl (yl_neq rfl rfl) rfl ?_
                              refine JH.pure rfl (yl_pick_false rfl rfl) rfl ?_
                              have he := Option.some.inj hres
                              exact JH.weak [] K ⟨rfl, rfl, rfl, rfl, rfl, rfl, rfl, (by rw [← he]; rfl), trivial⟩ (by decide) rfl
                        · intro K
                          rcases cond_some hcb60 with ⟨hb, hres⟩ | ⟨hb, hres⟩
                          · refine JH.set (d := 145) (v := .bool true) (congrArg (fun b => some (Value.bool b)) hb) ?_
                            refine JH.gskip rfl rfl rfl rfl rfl rfl ?_
                            refine JH.gskip rfl rfl rfl rfl rfl rfl ?_
                            refine JH.gskip rfl rfl rfl rfl rfl rfl ?_
                            refine JH.gskip rfl rfl rfl rfl rfl rfl ?_
                            refine JH.gskip rfl rfl rfl rfl rfl rfl ?_
                            refine JH.gskip rfl rfl rfl rfl rfl rfl ?_
                            refine JH.gskip rfl rfl rfl rfl rfl rfl ?_
                            refine JH.gskip rfl rfl rfl rfl rfl rfl ?_
                            refine JH.gskip rfl rfl rfl rfl rfl rfl ?_
                            refine JH.gskip rfl rfl rfl rfl rfl rfl ?_
                            refine JH.gskip rfl rfl rfl rfl rfl rfl ?_
                            refine JH.gskip rfl rfl rfl rfl rfl rfl ?_
                            refine JH.gskip rfl rfl rfl rfl rfl rfl ?_
                            refine JH.gskip rfl rfl rfl rfl rfl rfl ?_
                            refine JH.gskip rfl rfl rfl rfl rfl rfl ?_
                            refine JH.gskip rfl rfl rfl rfl rfl rfl ?_
                            refine JH.gskip rfl rfl rfl rfl rfl rfl ?_
                            refine JH.gskip rfl rfl rfl rfl rfl rfl ?_
                            refine JH.gskip rfl rfl rfl rfl rfl rfl ?_
                            refine JH.pure rfl (yl_pick_true rfl rfl) rfl ?_
                            have he := Option.some.inj hres
                            exact JH.weak [] K ⟨rfl, rfl, rfl, rfl, rfl, rfl, rfl, (by rw [← he]; rfl), trivial⟩ (by decide) rfl
                          · refine JH.set (d := 145) (v := .bool false) (congrArg (fun b => some (Value.bool b)) hb) ?_
                            refine JH.gpure rfl rfl rfl (yl_move rfl) rfl ?_
                            refine JH.gpure rfl rfl rfl (yl_move rfl) rfl ?_
                            obtain ⟨x61, hx61, hres⟩ := bind_some hres
                            obtain ⟨ha62, hc63, hhx61⟩ := Inn.sub hi20 hx61
                            refine JH.gpure rfl rfl rfl (yl_idxQ Go.Proofs.Try.underlying29 i34 i34s rfl rfl hhx61 (Inn.len hi20) (rd_row hFr53.cl 2 rfl) (Inn.len hi20)) rfl ?_
                            refine JH.gread rfl rfl rfl (yl_loadT0 (z := ⟨ha62, x61.length, hc63⟩) Go.Proofs.Try.underlying34 rfl rfl hhx61 (fun w hw => hFr53.row 2 rfl rfl hw) rfl) rfl ?_
                            obtain ⟨x65, hx65, hres⟩ := bind_some hres
                            refine JH.gpure rfl rfl rfl (yl_idxQ Go.Proofs.Try.underlying34 i42 i42s rfl rfl hx65 rfl (RdI.sub (rd_inn hFr53.cl 3 rfl) hx61 hhx61) rfl) rfl ?_
                            refine JH.gpure rfl rfl rfl (yl_fieldAt Go.Proofs.Try.underlying42 rfl i2 i2n rfl (RdT.someQ (RdI.sub (rd_inn hFr53.cl 3 rfl) hx61 hhx61) hx65 rfl rfl)) rfl ?_
                            refine JH.gread rfl rfl rfl (yl_loadT1 Go.Proofs.Try.underlying2 rfl rfl hx65 (fun w hw => RdI.sub (hFr53.inn 3 rfl rfl hw) hx61 hhx61) rfl) rfl ?_
                            refine JH.gpure rfl rfl rfl (yl_move rfl) rfl ?_
                            refine JH.gpure rfl rfl rfl (yl_move rfl) rfl ?_
                            obtain ⟨x66, hx66, hres⟩ := bind_some hres
                            obtain ⟨ha67, hc68, hhx66⟩ := Inn.sub hi20 hx66
                            refine JH.gpure rfl rfl rfl (yl_idxQ Go.Proofs.Try.underlying29 i34 i34s rfl rfl hhx66 (Inn.len hi20) (rd_row hFr53.cl 2 rfl) (Inn.len hi20)) rfl ?_
                            refine JH.gread rfl rfl rfl (yl_loadT0 (z := ⟨ha67, x66.length, hc68⟩) Go.Proofs.Try.underlying34 rfl rfl hhx66 (fun w hw => hFr53.row 2 rfl rfl hw) rfl) rfl ?_
                            obtain ⟨x70, hx70, hres⟩ := bind_some hres
                            refine JH.gpure rfl rfl rfl (yl_idxQ Go.Proofs.Try.underlying34 i42 i42s rfl rfl hx70 rfl (RdI.sub (rd_inn hFr53.cl 3 rfl) hx66 hhx66) rfl) rfl ?_
                            refine JH.gpure rfl rfl rfl (yl_fieldAt Go.Proofs.Try.underlying42 rfl i2 i2n rfl (RdT.someQ (RdI.sub (rd_inn hFr53.cl 3 rfl) hx66 hhx66) hx70 rfl rfl)) rfl ?_
                            refine JH.gread rfl rfl rfl (yl_loadT1 Go.Proofs.Try.underlying2 rfl rfl hx70 (fun w hw => RdI.sub (hFr53.inn 3 rfl rfl hw) hx66 hhx66) rfl) rfl ?_
                            refine JH.gpure rfl rfl rfl (yl_add rfl rfl) rfl ?_
                            refine JH.gpure rfl rfl rfl (yl_fieldAt (a := some _) Go.Proofs.Try.underlying42 rfl i2 i2n rfl rfl) rfl ?_
                            refine JH.gread rfl rfl rfl (yl_load1 Go.Proofs.Try.underlying2 rfl rfl (fun w hw => hFr53.box 5 rfl rfl hw) rfl) rfl ?_
                            refine JH.gpure rfl rfl rfl (yl_mul rfl rfl) rfl ?_
                            refine JH.gpure rfl rfl rfl (yl_neq rfl rfl) rfl ?_
                            refine JH.pure rfl (yl_pick_false rfl rfl) rfl ?_
                            have he := Option.some.inj hres
                            exact JH.weak [] K ⟨rfl, rfl, rfl, rfl, rfl, rfl, rfl, (by rw [← he]; rfl), trivial⟩ (by decide) rfl
                      · intro K
                        rcases cond_some hcb54 with ⟨hb, hres⟩ | ⟨hb, hres⟩
                        · refine JH.set (d := 137) (v := .bool true) (congrArg (fun b => some (Value.bool b)) hb) ?_
                          refine JH.gskip rfl rfl rfl rfl rfl rfl ?_
                          refine JH.gskip rfl rfl rfl rfl rfl rfl ?_
                          refine JH.gskip rfl rfl rfl rfl rfl rfl ?_
                          refine JH.gskip rfl rfl rfl rfl rfl rfl ?_
                          refine JH.gskip rfl rfl rfl rfl rfl rfl ?_
                          refine JH.gskip rfl rfl rfl rfl rfl rfl ?_
                          refine JH.pure rfl (yl_pick_true rfl rfl) rfl ?_
                          have he := Option.some.inj hres
                          exact JH.weak [] K ⟨rfl, rfl, rfl, rfl, rfl, rfl, rfl, (by rw [← he]; rfl), trivial⟩ (by decide) rfl
                        · refine JH.set (d := 137) (v := .bool false) (congrArg (fun b => some (Value.bool b)) hb) ?_
                          refine JH.gpure rfl rfl rfl (yl_move rfl) rfl ?_
                          refine JH.gpure rfl rfl rfl (yl_move rfl) rfl ?_
                          obtain ⟨x55, hx55, hres⟩ := bind_some hres
                          obtain ⟨ha56, hc57, hhx55⟩ := Inn.sub hi13 hx55
                          refine JH.gpure rfl rfl rfl (yl_idxQ Go.Proofs.Try.underlying29 i34 i34s rfl rfl hhx55 (Inn.len hi13) (rd_row hFr53.cl 0 rfl) (Inn.len hi13)) rfl ?_
                          refine JH.gread rfl rfl rfl (yl_loadT0 (z := ⟨ha56, x55.length, hc57⟩) Go.Proofs.Try.underlying34 rfl rfl hhx55 (fun w hw => hFr53.row 0 rfl rfl hw) rfl) rfl ?_
                          obtain ⟨x59, hx59, hres⟩ := bind_some hres
                          refine JH.gmust rfl rfl rfl (ef_call (T := T19 x59) Go.Proofs.Try.func19 rfl (by kernel_rfl) rfl (fun w hC => c19 ((RdI.sub (hFr53.inn 1 rfl rfl hC.1) hx55 hhx55)) rfl (RdI.ln (hFr53.inn 1 rfl rfl hC.1) hx55 hhx55) hx59)) rfl rfl ?_
                          rintro _ _ ⟨_, ⟨rfl, rfl⟩, rfl⟩
                          refine JH.gpure rfl rfl rfl (yl_not rfl) rfl ?_
                          refine JH.pure rfl (yl_pick_false rfl rfl) rfl ?_
                          have he := Option.some.inj hres
                          exact JH.weak [] K ⟨rfl, rfl, rfl, rfl, rfl, rfl, rfl, (by rw [← he]; rfl), trivial⟩ (by decide) rfl
                    · intro K
                      rcases Bool.eq_false_or_eq_true (x49.2 != 0) with hb | hb
                      · refine JH.set (d := 129) (v := .bool true) (congrArg (fun b => some (Value.bool b)) hb) ?_
                        refine JH.gskip rfl rfl rfl rfl rfl rfl ?_
                        refine JH.gskip rfl rfl rfl rfl rfl rfl ?_
                        refine JH.gskip rfl rfl rfl rfl rfl rfl ?_
                        refine JH.gskip rfl rfl rfl rfl rfl rfl ?_
                        refine JH.gskip rfl rfl rfl rfl rfl rfl ?_
                        refine JH.gskip rfl rfl rfl rfl rfl rfl ?_
                        refine JH.pure rfl (yl_pick_true rfl rfl) rfl ?_
                        exact JH.weak [] K ⟨rfl, rfl, rfl, rfl, rfl, rfl, rfl, (by rw [hb]; rfl), trivial⟩ (by decide) rfl
                      · refine JH.set (d := 129) (v := .bool false) (congrArg (fun b => some (Value.bool b)) hb) ?_
                        refine JH.gpure rfl rfl rfl (yl_move rfl) rfl ?_
                        refine JH.gpure rfl rfl rfl (yl_move rfl) rfl ?_
                        refine JH.gpure rfl rfl rfl (yl_mul rfl rfl) rfl ?_
                        refine JH.gpure rfl rfl rfl (yl_move rfl) rfl ?_
                        refine JH.gpure rfl rfl rfl (yl_mul rfl rfl) rfl ?_
                        refine JH.gpure rfl rfl rfl (yl_neq rfl rfl) rfl ?_
                        refine JH.pure rfl (yl_pick_false rfl rfl) rfl ?_
                        exact JH.weak [] K ⟨rfl, rfl, rfl, rfl, rfl, rfl, rfl, (by rw [hb]; rfl), trivial⟩ (by decide) rfl
                  · refine JX.condF rfl hb ?_
                    refine JX.exit ?_
                    refine JE.qb rfl ?_
                    obtain ⟨b1, hb1⟩ : ∃ b : Unit, b = () := ⟨_, rfl⟩
                    have hy1 : Sum.inl b1 = y1 := by rw [hb1]; exact hox1 _ (Option.some.inj hres).symm
                    have hres := elimS_inl hresO1 hy1
                    refine JE.weak (env' := []) (es' := []) [] ?_ trivial (by decide) (by subst hb1; rfl)
                    refine JE.code ?_
                    refine JX.seq ?_
                    refine JX.region ?_
                    refine JL.val (yl_assign rfl) rfl ?_
                    refine JL.nil ?_
                    refine JE.code ?_
                    refine JX.ret ?_
                    obtain rfl := Option.some.inj hres
                    refine JE.ret (rs := [.tmp 2]) (vs := [.bool true]) rfl ⟨rfl, trivial⟩ ?_
                    exact fun w' hb hs => ⟨_, _, ⟨rfl, rfl⟩, rfl, hb, hs.sel [] _ (by decide) rfl⟩
              · intro K
                rcases Bool.eq_false_or_eq_true (x40.2 != 0) with hb | hb
                · refine JL.set (d := 102) (v := .bool true) (congrArg (fun b => some (Value.bool b)) hb) ?_
                  refine JL.gskip rfl rfl rfl rfl ?_
                  refine JL.gskip rfl rfl rfl rfl ?_
                  refine JL.gskip rfl rfl rfl rfl ?_
                  refine JL.gskip rfl rfl rfl rfl ?_
                  refine JL.gskip rfl rfl rfl rfl ?_
                  refine JL.val (yl_pick_true rfl rfl) rfl ?_
                  exact JL.weak [0, 1, 2, 3, 4] K ⟨rfl, rfl, rfl, rfl, rfl, (by rw [hb]; rfl), trivial⟩ (by decide) rfl
                · refine JL.set (d := 102) (v := .bool false) (congrArg (fun b => some (Value.bool b)) hb) ?_
                  refine JL.gval rfl rfl (yl_move rfl) rfl ?_
                  refine JL.gval rfl rfl (yl_len_slice Go.Proofs.Try.underlying34 rfl) rfl ?_
                  refine JL.gval rfl rfl (yl_move rfl) rfl ?_
                  refine JL.gval rfl rfl (yl_len_slice Go.Proofs.Try.underlying29 rfl) rfl ?_
                  refine JL.gval rfl rfl (yl_neq rfl rfl) rfl ?_
                  refine JL.val (yl_pick_false rfl rfl) rfl ?_
                  exact JL.weak [0, 1, 2, 3, 4] K ⟨rfl, rfl, rfl, rfl, rfl, (by rw [hb]; rfl), trivial⟩ (by decide) rfl
        · intro K
          rcases cond_some hcb38 with ⟨hb, hres⟩ | ⟨hb, hres⟩
          · refine JL.set (d := 85) (v := .bool true) (congrArg (fun b => some (Value.bool b)) hb) ?_
            refine JL.gskip rfl rfl rfl rfl ?_
            refine JL.gskip rfl rfl rfl rfl ?_
            refine JL.gskip rfl rfl rfl rfl ?_
            refine JL.gskip rfl rfl rfl rfl ?_
            refine JL.val (yl_pick_true rfl rfl) rfl ?_
            have he := Option.some.inj hres
            exact JL.weak [0, 1, 2, 3, 4, 5] K ⟨rfl, rfl, rfl, rfl, rfl, rfl, rfl, (by rw [← he]; rfl), trivial⟩ (by decide) rfl
          · refine JL.set (d := 85) (v := .bool false) (congrArg (fun b => some (Value.bool b)) hb) ?_
            refine JL.gval rfl rfl (yl_move rfl) rfl ?_
            refine JL.gval rfl rfl (yl_move rfl) rfl ?_
            obtain ⟨x39, hx39, hres⟩ := bind_some hres
            refine JL.geff rfl rfl (ef_call (T := T17 x39) Go.Proofs.Try.func17 rfl (by kernel_rfl) rfl (fun w hC => c17 (rd_row hC 6 rfl) rfl (ln_row hC 6 rfl) (rd_row hC 7 rfl) rfl (ln_row hC 7 rfl) hx39)) rfl ?_
            rintro _ _ ⟨_, ⟨rfl, rfl⟩, rfl⟩
            refine JL.gval rfl rfl (yl_not rfl) rfl ?_
            refine JL.val (yl_pick_false rfl rfl) rfl ?_
            have he := Option.some.inj hres
            exact JL.weak [0, 1, 2, 3, 4, 5] K ⟨rfl, rfl, rfl, rfl, rfl, rfl, rfl, (by rw [← he]; rfl), trivial⟩ (by decide) rfl
      · intro K
        rcases Bool.eq_false_or_eq_true (cb36) with hb | hb
        · refine JL.set (d := 80) (v := .bool true) (congrArg (fun b => some (Value.bool b)) hb) ?_
          refine JL.gskip rfl rfl rfl rfl ?_
          refine JL.gskip rfl rfl rfl rfl ?_
          refine JL.gskip rfl rfl rfl rfl ?_
          refine JL.val (yl_pick_true rfl rfl) rfl ?_
          exact JL.weak [0, 1, 2, 3, 4, 5, 6, 7] K ⟨rfl, rfl, rfl, rfl, rfl, rfl, rfl, rfl, rfl, (by rw [hb]; rfl), trivial⟩ (by decide) rfl
        · refine JL.set (d := 80) (v := .bool false) (congrArg (fun b => some (Value.bool b)) hb) ?_
          refine JL.gval rfl rfl (yl_move rfl) rfl ?_
          refine JL.gval rfl rfl (yl_move rfl) rfl ?_
          refine JL.gval rfl rfl (yl_neq rfl rfl) rfl ?_
          refine JL.val (yl_pick_false rfl rfl) rfl ?_
          exact JL.weak [0, 1, 2, 3, 4, 5, 6, 7] K ⟨rfl, rfl, rfl, rfl, rfl, rfl, rfl, rfl, rfl, (by rw [hb]; rfl), trivial⟩ (by decide) rfl
    · intro K
      rcases cond_some hcb36 with ⟨hb, hres⟩ | ⟨hb, hres⟩
      · refine JL.set (d := 74) (v := .bool true) (congrArg (fun b => some (Value.bool b)) hb) ?_
        refine JL.gskip rfl rfl rfl rfl ?_
        refine JL.gskip rfl rfl rfl rfl ?_
        refine JL.gskip rfl rfl rfl rfl ?_
        refine JL.gskip rfl rfl rfl rfl ?_
        refine JL.val (yl_pick_true rfl rfl) rfl ?_
        have he := Option.some.inj hres
        exact JL.weak [0, 1, 2, 3, 4, 5, 6, 7] K ⟨rfl, rfl, rfl, rfl, rfl, rfl, rfl, rfl, rfl, rfl, rfl, (by rw [← he]; rfl), trivial⟩ (by decide) rfl
      · refine JL.set (d := 74) (v := .bool false) (congrArg (fun b => some (Value.bool b)) hb) ?_
        refine JL.gval rfl rfl (yl_move rfl) rfl ?_
        refine JL.gval rfl rfl (yl_move rfl) rfl ?_
        obtain ⟨x37, hx37, hres⟩ := bind_some hres
        refine JL.geff rfl rfl (ef_call (T := T16 x37) Go.Proofs.Try.func16 rfl (by kernel_rfl) rfl (fun w hC => c16 (rd_row hC 2 rfl) (rd_inn hC 3 rfl) hi13 rfl (ln_row hC 2 rfl) (rd_row hC 4 rfl) (rd_inn hC 5 rfl) hi20 rfl (ln_row hC 4 rfl) hx37)) rfl ?_
        rintro _ _ ⟨_, ⟨rfl, rfl⟩, rfl⟩
        refine JL.gval rfl rfl (yl_not rfl) rfl ?_
        refine JL.val (yl_pick_false rfl rfl) rfl ?_
        have he := Option.some.inj hres
        exact JL.weak [0, 1, 2, 3, 4, 5, 6, 7] K ⟨rfl, rfl, rfl, rfl, rfl, rfl, rfl, rfl, rfl, rfl, rfl, (by rw [← he]; rfl), trivial⟩ (by decide) rfl

end Go.Sh
