/- Walks through functions that the law reaches, printed by program. -/
import Derived.Test.YtinipjijgggjkaaF12W2
set_option linter.unusedVariables false
set_option linter.unusedSimpArgs false
namespace Go.Sh
open Go Go.RowKit
/- laws.FnRegions -/
def sh12_2 (x32 : SPanel × Int) (x66 : List Int × Int) : (Bool × Int) → Option ((Bool × Int) ⊕ (Bool))
  | (x70, x71) => bif decide (x71 < (x66.1.length : Int)) then (Option.bind (bif x70 then (some true) else (Option.bind (getI x66.1 x71) fun x73 => some (x73 == x32.2))) fun cb72 => (some (.inl (cb72, w64 (x71 + 1))))) else (some (.inr x70))
def sh12_4 (x2 : SPanel) : (Int × Int) → Option ((Int × Int) ⊕ (Int))
  | (x80, x81) => bif decide (x81 < (x2.Breaks.length : Int)) then (Option.bind (getI x2.Breaks x81) fun x82 => Option.bind (bif x82 != 0 then (some (w64 (x80 + 1))) else (some x80)) fun j83 => (some (.inl (j83, w64 (x81 + 1))))) else (some (.inr x80))
def sh12_3 (x8 : List (List SPoint) × Int) : (Int × Int) → Option ((Int × Int) ⊕ (Int))
  | (x74, x75) => bif decide (x75 < ((x8.1.length : Nat) : Int)) then (Option.bind (getI x8.1 x75) fun x76 => some (.inl (w64 (x74 + (x76.length : Int)), w64 (x75 + 1)))) else (some (.inr x74))
def sh12_1 (x32 : SPanel × Int) (x38 : List Int × Int) (x42 : List Int × Int) (x46 : Int × Int) : Int → Option (Int ⊕ (Unit ⊕ Bool))
  | x60 => bif decide (x60 < (x38.1.length : Int)) then (Option.bind (getI x42.1 x60) fun x62 => Option.bind (sh24 x32.1 x62) fun x63 => Option.bind (getI x42.1 x60) fun x65 => Option.bind (sh44 x32.1 x65) fun x66 => Option.bind (iter (sh12_2 x32 x66) (false, 0)) fun b2 => (bif (((x63.2 != 0) || (x63.1 != (w64 (1 - x46.1)))) || (x66.2 != 0)) || !b2 then (some (.inr (.inr false))) else (some (.inl (w64 (x60 + 1)))))) else (some (.inr (.inl ())))
def sh12_6 (x2 : SPanel) : (Int × Int) → Option ((Int × Int) ⊕ (Int))
  | (x90, x91) => bif decide (x91 < (x2.Breaks.length : Int)) then (Option.bind (getI x2.Breaks x91) fun x92 => Option.bind (bif x92 != 0 then (some (w64 (x90 + 1))) else (some x90)) fun j93 => (some (.inl (j93, w64 (x91 + 1))))) else (some (.inr x90))
def sh12_5 (x8 : List (List SPoint) × Int) : (Int × Int) → Option ((Int × Int) ⊕ (Int))
  | (x84, x85) => bif decide (x85 < ((x8.1.length : Nat) : Int)) then (Option.bind (getI x8.1 x85) fun x86 => some (.inl (w64 (x84 + (x86.length : Int)), w64 (x85 + 1)))) else (some (.inr x84))
def sh12 (q0 : List Int) : Option (Bool) := Option.bind (sh45 q0) fun x1 => bif x1 then (some true) else (Option.bind (sh46 q0) fun x2 => Option.bind (sh26 x2) fun x8 => Option.bind (sh25 x2) fun x15 => Option.bind (sh47 q0) fun x22 => Option.bind (sh22 x22.1 x22.2) fun x30 => Option.bind (sh20 x22.1 x22.2) fun x31 => Option.bind (sh48 q0) fun x32 => Option.bind (sh44 x32.1 x32.2) fun x38 => Option.bind (sh43 x32.1 x32.2) fun x42 => Option.bind (sh24 x32.1 x32.2) fun x46 => Option.bind (sh23 x32.1 x32.2) fun x47 => Option.bind (sh49 q0) fun x48 => Option.bind (sh18 x48) fun x54 => Option.bind (sh16 x48) fun x55 => Option.bind (bif x8.2 != x15.2 then (some true) else (Option.bind (sh50 x8.1 x15.1) fun x57 => some !x57)) fun cb56 => (Option.bind (bif ((cb56 || (x30.2 != x31.2)) || (x30.1 != x31.1)) || (x38.2 != x42.2) then (some true) else (Option.bind (sh51 x38.1 x42.1) fun x59 => some !x59)) fun cb58 => (bif (((cb58 || (x46.2 != x47.2)) || (x46.1 != x47.1)) || (x54.2 != x55.2)) || (x54.1 != x55.1) then (some false) else (bif x38.2 == 0 then (Option.bind (iter (sh12_1 x32 x38 x42 x46) 0) fun y1 => elimS y1 (fun r => some r) fun b1 => (bif x8.2 != 0 then (some true) else (Option.bind (iter (sh12_3 x8) (0, 0)) fun b3 => (Option.bind (iter (sh12_4 x2) (0, 0)) fun b4 => (some (((b3 == (w64 ((w64 ((w64 ((w64 ((w64 (2 * x2.W)) + 1)) * (w64 ((w64 (2 * x2.H)) + 1)))) + 1)).tdiv 2))) && (decide ((w64 ((w64 ((w64 ((w64 ((w64 ((w64 (2 * x2.W)) + 1)) * (w64 ((w64 (2 * x2.H)) + 1)))) + 1)).tdiv 2)) - b4)) ≤ ((x8.1.length : Nat) : Int)))) && ((decide (0 < b4)) || (((x8.1.length : Nat) : Int) == (w64 ((w64 ((w64 ((w64 ((w64 (2 * x2.W)) + 1)) * (w64 ((w64 (2 * x2.H)) + 1)))) + 1)).tdiv 2)))))))))) else (bif x8.2 != 0 then (some true) else (Option.bind (iter (sh12_5 x8) (0, 0)) fun b5 => (Option.bind (iter (sh12_6 x2) (0, 0)) fun b6 => (some (((b5 == (w64 ((w64 ((w64 ((w64 ((w64 (2 * x2.W)) + 1)) * (w64 ((w64 (2 * x2.H)) + 1)))) + 1)).tdiv 2))) && (decide ((w64 ((w64 ((w64 ((w64 ((w64 ((w64 (2 * x2.W)) + 1)) * (w64 ((w64 (2 * x2.H)) + 1)))) + 1)).tdiv 2)) - b6)) ≤ ((x8.1.length : Nat) : Int)))) && ((decide (0 < b6)) || (((x8.1.length : Nat) : Int) == (w64 ((w64 ((w64 ((w64 ((w64 (2 * x2.W)) + 1)) * (w64 ((w64 (2 * x2.H)) + 1)))) + 1)).tdiv 2)))))))))))))
def T12 (r : Bool) (v : Value) (rs : List Own) : Prop := v = rets [.bool r] ∧ rs = []
set_option maxRecDepth 100000 in
set_option maxHeartbeats 1000000 in
theorem c12 {w : World} {q0 : List Int} {a_0 : Option Addr} {n_0 c_0 : Nat} (g_0 : Rd w a_0 (eU8.fl q0)) (l_0 : q0.length = n_0) (k_0 : n_0 ≤ c_0) {r : Bool} (hres : sh12 q0 = some r) : Calls Go.Proofs.Try.prog 12 [.slice a_0 n_0 c_0].toArray w (Ret w (T12 r)) := by
  subst l_0
  unfold sh12 at hres
  refine calls_of (n := 282) (M := []) (es := []) Go.Proofs.Try.func12 rfl rfl rfl (Sep.nil _ _ _) ?_
  refine JX.seq ?_
  refine JX.region ?_
  refine JL.val (yl_assign rfl) rfl ?_
  refine JL.nil ?_
  refine JE.code ?_
  refine JX.seq ?_
  refine JX.seq ?_
  refine JX.region ?_
  refine JL.val (yl_move rfl) rfl ?_
  obtain ⟨x1, hx1, hres⟩ := bind_some hres
  refine JL.eff (ef_call (T := T45 x1) Go.Proofs.Try.func45 rfl (by kernel_rfl) rfl (fun w hC => c45 (rd_arg g_0 hC) rfl k_0 hx1)) rfl ?_
  rintro _ _ ⟨_, ⟨rfl, rfl⟩, rfl⟩
  refine JL.nil ?_
  refine JE.code ?_
  rcases cond_some hres with ⟨hb, hres⟩ | ⟨hb, hres⟩
  · refine JX.condT rfl hb ?_
    refine JX.seq ?_
    refine JX.region ?_
    refine JL.val (yl_assign rfl) rfl ?_
    refine JL.nil ?_
    refine JE.code ?_
    refine JX.ret ?_
    obtain rfl := Option.some.inj hres
    refine JE.ret (rs := [.tmp 2]) (vs := [.bool true]) rfl ⟨rfl, trivial⟩ ?_
    exact fun w' hb hs => ⟨_, _, ⟨rfl, rfl⟩, rfl, hb, hs.sel [] _ (by decide) rfl⟩
  · refine JX.condF rfl hb ?_
    refine JX.skip ?_
    refine JE.code ?_
    refine JX.seq ?_
    refine JX.region ?_
    refine JL.val (yl_move rfl) rfl ?_
    obtain ⟨x2, hx2, hres⟩ := bind_some hres
    refine JL.eff (ef_call (T := T46 x2) Go.Proofs.Try.func46 rfl (by kernel_rfl) rfl (fun w hC => c46 (rd_arg g_0 hC) rfl k_0 hx2)) rfl ?_
    rintro _ _ ⟨_, ⟨a3, _, cp4, rfl, rfl, rfl⟩, rfl⟩
    refine JL.eff (ef_alloc i28 i28z rfl) rfl ?_
    rintro _ _ ⟨g6, rfl, rfl⟩
    refine JL.eff (ef_store_box (i := 1) (v := .agg #[.int .i64 x2.W, .int .i64 x2.H, .slice a3 x2.Breaks.length cp4]) i28 rfl rfl rfl (i28s).symm (Nat.le_of_ble_eq_true rfl) (by simp [Value.cells, Value.oneCell'])) rfl ?_
    rintro _ _ rfl
    refine JL.nil ?_
    refine JE.weak (env' := [(0, .slice a_0 q0.length c_0), (3, ptrAt (some ⟨g6, 0, none⟩) 0)]) (es' := [boxO 28 g6 [.int .i64 x2.W, .int .i64 x2.H, .slice a3 x2.Breaks.length cp4], rowT 2 eI64 a3 x2.Breaks.length cp4 x2.Breaks]) [1, 0] ?_ ⟨rfl, rfl, trivial⟩ (by decide) rfl
    refine JE.code ?_
    refine JX.seq ?_
    refine JX.region ?_
    refine JL.val (yl_loadn Go.Proofs.Try.underlying28 rfl i28 rfl (fun w hC => rd_box hC 0 rfl) rfl (i28s).symm i28p) rfl ?_
    obtain ⟨x8, hx8, hres⟩ := bind_some hres
    refine JL.eff (ef_call (vs := [.agg #[.int .i64 x2.W, .int .i64 x2.H, .slice a3 x2.Breaks.length cp4]]) (T := T26 x8) Go.Proofs.Try.func26 rfl (by kernel_rfl) rfl (fun w hC => c26 (q0 := x2) (rd_row hC 1 rfl) rfl (ln_row hC 1 rfl) hx8)) rfl ?_
    rintro _ _ ⟨_, ⟨a9, _, cp10, hs12, rfl, hi13, rfl, rfl⟩, rfl⟩
    refine JL.val (yl_move rfl) rfl ?_
    refine JL.val (yl_extract rfl rfl) rfl ?_
    refine JL.val (yl_extract rfl rfl) rfl ?_
    refine JL.val (yl_assign rfl) rfl ?_
    refine JL.val (yl_assign rfl) rfl ?_
    refine JL.nil ?_
    refine JE.weak (env' := [(0, .slice a_0 q0.length c_0), (3, ptrAt (some ⟨g6, 0, none⟩) 0), (4, .slice a9 x8.1.length cp10), (5, .int .i64 x8.2)]) (es' := [boxO 28 g6 [.int .i64 x2.W, .int .i64 x2.H, .slice a3 x2.Breaks.length cp4], rowT 2 eI64 a3 x2.Breaks.length cp4 x2.Breaks, rowT 61 eHd a9 x8.1.length cp10 hs12, innO 35 eSPoint none hs12 x8.1]) [0, 1, 2, 3] ?_ ⟨rfl, rfl, rfl, rfl, trivial⟩ (by decide) rfl
    refine JE.code ?_
    refine JX.seq ?_
    refine JX.region ?_
    refine JL.val (yl_loadn Go.Proofs.Try.underlying28 rfl i28 rfl (fun w hC => rd_box hC 0 rfl) rfl (i28s).symm i28p) rfl ?_
    obtain ⟨x15, hx15, hres⟩ := bind_some hres
    refine JL.eff (ef_call (vs := [.agg #[.int .i64 x2.W, .int .i64 x2.H, .slice a3 x2.Breaks.length cp4]]) (T := T25 x15) Go.Proofs.Try.func25 rfl (by kernel_rfl) rfl (fun w hC => c25 (q0 := x2) (rd_row hC 1 rfl) rfl (ln_row hC 1 rfl) hx15)) rfl ?_
    rintro _ _ ⟨_, ⟨a16, _, cp17, hs19, rfl, hi20, rfl, rfl⟩, rfl⟩
    refine JL.val (yl_move rfl) rfl ?_
    refine JL.val (yl_extract rfl rfl) rfl ?_
    refine JL.val (yl_extract rfl rfl) rfl ?_
    refine JL.val (yl_assign rfl) rfl ?_
    refine JL.val (yl_assign rfl) rfl ?_
    refine JL.nil ?_
    refine JE.weak (env' := [(0, .slice a_0 q0.length c_0), (3, ptrAt (some ⟨g6, 0, none⟩) 0), (4, .slice a9 x8.1.length cp10), (5, .int .i64 x8.2), (6, .slice a16 x15.1.length cp17), (7, .int .i64 x15.2)]) (es' := [boxO 28 g6 [.int .i64 x2.W, .int .i64 x2.H, .slice a3 x2.Breaks.length cp4], rowT 2 eI64 a3 x2.Breaks.length cp4 x2.Breaks, rowT 61 eHd a9 x8.1.length cp10 hs12, innO 35 eSPoint none hs12 x8.1, rowT 61 eHd a16 x15.1.length cp17 hs19, innO 35 eSPoint none hs19 x15.1]) [0, 1, 2, 3, 4, 5] ?_ ⟨rfl, rfl, rfl, rfl, rfl, rfl, trivial⟩ (by decide) rfl
    refine JE.code ?_
    refine JX.seq ?_
    refine JX.region ?_
    refine JL.val (yl_move rfl) rfl ?_
    obtain ⟨x22, hx22, hres⟩ := bind_some hres
    refine JL.eff (ef_call (T := T47 x22) Go.Proofs.Try.func47 rfl (by kernel_rfl) rfl (fun w hC => c47 (rd_arg g_0 hC) rfl k_0 hx22)) rfl ?_
    rintro _ _ ⟨_, ⟨a23, _, cp24, rfl, rfl, rfl⟩, rfl⟩
    refine JL.val (yl_move rfl) rfl ?_
    refine JL.val (yl_extract rfl rfl) rfl ?_
    refine JL.val (yl_extract rfl rfl) rfl ?_
    refine JL.eff (ef_alloc i28 i28z rfl) rfl ?_
    rintro _ _ ⟨g26, rfl, rfl⟩
    refine JL.eff (ef_alloc i35 i35z rfl) rfl ?_
    rintro _ _ ⟨g28, rfl, rfl⟩
    refine JL.eff (ef_store_box (i := 7) (v := .agg #[.int .i64 x22.1.W, .int .i64 x22.1.H, .slice a23 x22.1.Breaks.length cp24]) i28 rfl rfl rfl (i28s).symm (Nat.le_of_ble_eq_true rfl) (by simp [Value.cells, Value.oneCell'])) rfl ?_
    rintro _ _ rfl
    refine JL.eff (ef_store_box (i := 8) (v := .agg #[.int .i64 x22.2.X, .int .i64 x22.2.Y]) i35 rfl rfl rfl (i35s).symm (Nat.le_of_ble_eq_true rfl) (by simp [Value.cells, Value.oneCell'])) rfl ?_
    rintro _ _ rfl
    refine JL.nil ?_
    refine JE.weak (env' := [(0, .slice a_0 q0.length c_0), (3, ptrAt (some ⟨g6, 0, none⟩) 0), (4, .slice a9 x8.1.length cp10), (5, .int .i64 x8.2), (6, .slice a16 x15.1.length cp17), (7, .int .i64 x15.2), (8, ptrAt (some ⟨g26, 0, none⟩) 0), (9, ptrAt (some ⟨g28, 0, none⟩) 0)]) (es' := [boxO 28 g6 [.int .i64 x2.W, .int .i64 x2.H, .slice a3 x2.Breaks.length cp4], rowT 2 eI64 a3 x2.Breaks.length cp4 x2.Breaks, rowT 61 eHd a9 x8.1.length cp10 hs12, innO 35 eSPoint none hs12 x8.1, rowT 61 eHd a16 x15.1.length cp17 hs19, innO 35 eSPoint none hs19 x15.1, boxO 28 g26 [.int .i64 x22.1.W, .int .i64 x22.1.H, .slice a23 x22.1.Breaks.length cp24], rowT 2 eI64 a23 x22.1.Breaks.length cp24 x22.1.Breaks, boxO 35 g28 [.int .i64 x22.2.X, .int .i64 x22.2.Y]]) [0, 1, 2, 3, 4, 5, 7, 6, 8] ?_ ⟨rfl, rfl, rfl, rfl, rfl, rfl, rfl, rfl, trivial⟩ (by decide) rfl
    refine JE.code ?_
    refine JX.seq ?_
    refine JX.region ?_
    refine JL.val (yl_loadn Go.Proofs.Try.underlying28 rfl i28 rfl (fun w hC => rd_box hC 6 rfl) rfl (i28s).symm i28p) rfl ?_
    refine JL.val (yl_loadn Go.Proofs.Try.underlying35 rfl i35 rfl (fun w hC => rd_box hC 8 rfl) rfl (i35s).symm i35p) rfl ?_
    obtain ⟨x30, hx30, hres⟩ := bind_some hres
    refine JL.eff (ef_call (vs := [.agg #[.int .i64 x22.1.W, .int .i64 x22.1.H, .slice a23 x22.1.Breaks.length cp24], .agg #[.int .i64 x22.2.X, .int .i64 x22.2.Y]]) (T := T22 x30) Go.Proofs.Try.func22 rfl (by kernel_rfl) rfl (fun w hC => c22 (q0 := x22.1) (q1 := x22.2) (rd_row hC 7 rfl) rfl (ln_row hC 7 rfl) hx30)) rfl ?_
    rintro _ _ ⟨_, ⟨rfl, rfl⟩, rfl⟩
    refine JL.val (yl_move rfl) rfl ?_
    refine JL.val (yl_extract rfl rfl) rfl ?_
    refine JL.val (yl_extract rfl rfl) rfl ?_
    refine JL.val (yl_assign rfl) rfl ?_
    refine JL.val (yl_assign rfl) rfl ?_
    refine JL.nil ?_
    refine JE.weak (env' := [(0, .slice a_0 q0.length c_0), (3, ptrAt (some ⟨g6, 0, none⟩) 0), (4, .slice a9 x8.1.length cp10), (5, .int .i64 x8.2), (6, .slice a16 x15.1.length cp17), (7, .int .i64 x15.2), (8, ptrAt (some ⟨g26, 0, none⟩) 0), (9, ptrAt (some ⟨g28, 0, none⟩) 0), (10, .int .i64 x30.1), (11, .int .i64 x30.2)]) (es' := [boxO 28 g6 [.int .i64 x2.W, .int .i64 x2.H, .slice a3 x2.Breaks.length cp4], rowT 2 eI64 a3 x2.Breaks.length cp4 x2.Breaks, rowT 61 eHd a9 x8.1.length cp10 hs12, innO 35 eSPoint none hs12 x8.1, rowT 61 eHd a16 x15.1.length cp17 hs19, innO 35 eSPoint none hs19 x15.1, boxO 28 g26 [.int .i64 x22.1.W, .int .i64 x22.1.H, .slice a23 x22.1.Breaks.length cp24], rowT 2 eI64 a23 x22.1.Breaks.length cp24 x22.1.Breaks, boxO 35 g28 [.int .i64 x22.2.X, .int .i64 x22.2.Y]]) [0, 1, 2, 3, 4, 5, 6, 7, 8] ?_ ⟨rfl, rfl, rfl, rfl, rfl, rfl, rfl, rfl, rfl, rfl, trivial⟩ (by decide) rfl
    refine JE.code ?_
    refine JX.seq ?_
    refine JX.region ?_
    refine JL.val (yl_loadn Go.Proofs.Try.underlying28 rfl i28 rfl (fun w hC => rd_box hC 6 rfl) rfl (i28s).symm i28p) rfl ?_
    refine JL.val (yl_loadn Go.Proofs.Try.underlying35 rfl i35 rfl (fun w hC => rd_box hC 8 rfl) rfl (i35s).symm i35p) rfl ?_
    obtain ⟨x31, hx31, hres⟩ := bind_some hres
    refine JL.eff (ef_call (vs := [.agg #[.int .i64 x22.1.W, .int .i64 x22.1.H, .slice a23 x22.1.Breaks.length cp24], .agg #[.int .i64 x22.2.X, .int .i64 x22.2.Y]]) (T := T20 x31) Go.Proofs.Try.func20 rfl (by kernel_rfl) rfl (fun w hC => c20 (q0 := x22.1) (q1 := x22.2) (rd_row hC 7 rfl) rfl (ln_row hC 7 rfl) hx31)) rfl ?_
    rintro _ _ ⟨_, ⟨rfl, rfl⟩, rfl⟩
    refine JL.val (yl_move rfl) rfl ?_
    refine JL.val (yl_extract rfl rfl) rfl ?_
    refine JL.val (yl_extract rfl rfl) rfl ?_
    refine JL.val (yl_assign rfl) rfl ?_
    refine JL.val (yl_assign rfl) rfl ?_
    refine JL.nil ?_
    refine JE.weak (env' := [(0, .slice a_0 q0.length c_0), (3, ptrAt (some ⟨g6, 0, none⟩) 0), (4, .slice a9 x8.1.length cp10), (5, .int .i64 x8.2), (6, .slice a16 x15.1.length cp17), (7, .int .i64 x15.2), (10, .int .i64 x30.1), (11, .int .i64 x30.2), (12, .int .i64 x31.1), (13, .int .i64 x31.2)]) (es' := [boxO 28 g6 [.int .i64 x2.W, .int .i64 x2.H, .slice a3 x2.Breaks.length cp4], rowT 2 eI64 a3 x2.Breaks.length cp4 x2.Breaks, rowT 61 eHd a9 x8.1.length cp10 hs12, innO 35 eSPoint none hs12 x8.1, rowT 61 eHd a16 x15.1.length cp17 hs19, innO 35 eSPoint none hs19 x15.1]) [0, 1, 2, 3, 4, 5] ?_ ⟨rfl, rfl, rfl, rfl, rfl, rfl, rfl, rfl, rfl, rfl, trivial⟩ (by decide) rfl
    refine JE.code ?_
    refine JX.seq ?_
    refine JX.region ?_
    refine JL.val (yl_move rfl) rfl ?_
    obtain ⟨x32, hx32, hres⟩ := bind_some hres
    refine JL.eff (ef_call (T := T48 x32) Go.Proofs.Try.func48 rfl (by kernel_rfl) rfl (fun w hC => c48 (rd_arg g_0 hC) rfl k_0 hx32)) rfl ?_
    rintro _ _ ⟨_, ⟨a33, _, cp34, rfl, rfl, rfl⟩, rfl⟩
    refine JL.val (yl_move rfl) rfl ?_
    refine JL.val (yl_extract rfl rfl) rfl ?_
    refine JL.val (yl_extract rfl rfl) rfl ?_
    refine JL.eff (ef_alloc i28 i28z rfl) rfl ?_
    rintro _ _ ⟨g36, rfl, rfl⟩
    refine JL.eff (ef_store_box (i := 7) (v := .agg #[.int .i64 x32.1.W, .int .i64 x32.1.H, .slice a33 x32.1.Breaks.length cp34]) i28 rfl rfl rfl (i28s).symm (Nat.le_of_ble_eq_true rfl) (by simp [Value.cells, Value.oneCell'])) rfl ?_
    rintro _ _ rfl
    refine JL.val (yl_assign rfl) rfl ?_
    refine JL.nil ?_
    refine JE.weak (env' := [(0, .slice a_0 q0.length c_0), (3, ptrAt (some ⟨g6, 0, none⟩) 0), (4, .slice a9 x8.1.length cp10), (5, .int .i64 x8.2), (6, .slice a16 x15.1.length cp17), (7, .int .i64 x15.2), (10, .int .i64 x30.1), (11, .int .i64 x30.2), (12, .int .i64 x31.1), (13, .int .i64 x31.2), (14, ptrAt (some ⟨g36, 0, none⟩) 0), (15, .int .i64 x32.2)]) (es' := [boxO 28 g6 [.int .i64 x2.W, .int .i64 x2.H, .slice a3 x2.Breaks.length cp4], rowT 2 eI64 a3 x2.Breaks.length cp4 x2.Breaks, rowT 61 eHd a9 x8.1.length cp10 hs12, innO 35 eSPoint none hs12 x8.1, rowT 61 eHd a16 x15.1.length cp17 hs19, innO 35 eSPoint none hs19 x15.1, boxO 28 g36 [.int .i64 x32.1.W, .int .i64 x32.1.H, .slice a33 x32.1.Breaks.length cp34], rowT 2 eI64 a33 x32.1.Breaks.length cp34 x32.1.Breaks]) [0, 1, 2, 3, 4, 5, 7, 6] ?_ ⟨rfl, rfl, rfl, rfl, rfl, rfl, rfl, rfl, rfl, rfl, rfl, rfl, trivial⟩ (by decide) rfl
    refine JE.code ?_
    refine JX.seq ?_
    refine JX.region ?_
    refine JL.val (yl_loadn Go.Proofs.Try.underlying28 rfl i28 rfl (fun w hC => rd_box hC 6 rfl) rfl (i28s).symm i28p) rfl ?_
    refine JL.val (yl_move rfl) rfl ?_
    obtain ⟨x38, hx38, hres⟩ := bind_some hres
    refine JL.eff (ef_call (vs := [.agg #[.int .i64 x32.1.W, .int .i64 x32.1.H, .slice a33 x32.1.Breaks.length cp34], .int .i64 x32.2]) (T := T44 x38) Go.Proofs.Try.func44 rfl (by kernel_rfl) rfl (fun w hC => c44 (q0 := x32.1) (rd_row hC 7 rfl) rfl (ln_row hC 7 rfl) hx38)) rfl ?_
    rintro _ _ ⟨_, ⟨a39, _, cp40, rfl, rfl, rfl⟩, rfl⟩
    refine JL.val (yl_move rfl) rfl ?_
    refine JL.val (yl_extract rfl rfl) rfl ?_
    refine JL.val (yl_extract rfl rfl) rfl ?_
    refine JL.val (yl_assign rfl) rfl ?_
    refine JL.val (yl_assign rfl) rfl ?_
    refine JL.nil ?_
    refine JE.weak (env' := [(0, .slice a_0 q0.length c_0), (3, ptrAt (some ⟨g6, 0, none⟩) 0), (4, .slice a9 x8.1.length cp10), (5, .int .i64 x8.2), (6, .slice a16 x15.1.length cp17), (7, .int .i64 x15.2), (10, .int .i64 x30.1), (11, .int .i64 x30.2), (12, .int .i64 x31.1), (13, .int .i64 x31.2), (14, ptrAt (some ⟨g36, 0, none⟩) 0), (15, .int .i64 x32.2), (16, .slice a39 x38.1.length cp40), (17, .int .i64 x38.2)]) (es' := [boxO 28 g6 [.int .i64 x2.W, .int .i64 x2.H, .slice a3 x2.Breaks.length cp4], rowT 2 eI64 a3 x2.Breaks.length cp4 x2.Breaks, rowT 61 eHd a9 x8.1.length cp10 hs12, innO 35 eSPoint none hs12 x8.1, rowT 61 eHd a16 x15.1.length cp17 hs19, innO 35 eSPoint none hs19 x15.1, boxO 28 g36 [.int .i64 x32.1.W, .int .i64 x32.1.H, .slice a33 x32.1.Breaks.length cp34], rowT 2 eI64 a33 x32.1.Breaks.length cp34 x32.1.Breaks, rowT 2 eI64 a39 x38.1.length cp40 x38.1]) [0, 1, 2, 3, 4, 5, 6, 7, 8] ?_ ⟨rfl, rfl, rfl, rfl, rfl, rfl, rfl, rfl, rfl, rfl, rfl, rfl, rfl, rfl, trivial⟩ (by decide) rfl
    refine JE.code ?_
    refine JX.seq ?_
    refine JX.region ?_
    refine JL.val (yl_loadn Go.Proofs.Try.underlying28 rfl i28 rfl (fun w hC => rd_box hC 6 rfl) rfl (i28s).symm i28p) rfl ?_
    refine JL.val (yl_move rfl) rfl ?_
    obtain ⟨x42, hx42, hres⟩ := bind_some hres
    refine JL.eff (ef_call (vs := [.agg #[.int .i64 x32.1.W, .int .i64 x32.1.H, .slice a33 x32.1.Breaks.length cp34], .int .i64 x32.2]) (T := T43 x42) Go.Proofs.Try.func43 rfl (by kernel_rfl) rfl (fun w hC => c43 (q0 := x32.1) (rd_row hC 7 rfl) rfl (ln_row hC 7 rfl) hx42)) rfl ?_
    rintro _ _ ⟨_, ⟨a43, _, cp44, rfl, rfl, rfl⟩, rfl⟩
    refine JL.val (yl_move rfl) rfl ?_
    refine JL.val (yl_extract rfl rfl) rfl ?_
    refine JL.val (yl_extract rfl rfl) rfl ?_
    refine JL.val (yl_assign rfl) rfl ?_
    refine JL.val (yl_assign rfl) rfl ?_
    refine JL.nil ?_
    refine JE.weak (env' := [(0, .slice a_0 q0.length c_0), (3, ptrAt (some ⟨g6, 0, none⟩) 0), (4, .slice a9 x8.1.length cp10), (5, .int .i64 x8.2), (6, .slice a16 x15.1.length cp17), (7, .int .i64 x15.2), (10, .int .i64 x30.1), (11, .int .i64 x30.2), (12, .int .i64 x31.1), (13, .int .i64 x31.2), (14, ptrAt (some ⟨g36, 0, none⟩) 0), (15, .int .i64 x32.2), (16, .slice a39 x38.1.length cp40), (17, .int .i64 x38.2), (18, .slice a43 x42.1.length cp44), (19, .int .i64 x42.2)]) (es' := [boxO 28 g6 [.int .i64 x2.W, .int .i64 x2.H, .slice a3 x2.Breaks.length cp4], rowT 2 eI64 a3 x2.Breaks.length cp4 x2.Breaks, rowT 61 eHd a9 x8.1.length cp10 hs12, innO 35 eSPoint none hs12 x8.1, rowT 61 eHd a16 x15.1.length cp17 hs19, innO 35 eSPoint none hs19 x15.1, boxO 28 g36 [.int .i64 x32.1.W, .int .i64 x32.1.H, .slice a33 x32.1.Breaks.length cp34], rowT 2 eI64 a33 x32.1.Breaks.length cp34 x32.1.Breaks, rowT 2 eI64 a39 x38.1.length cp40 x38.1, rowT 2 eI64 a43 x42.1.length cp44 x42.1]) [0, 1, 2, 3, 4, 5, 6, 7, 8, 9] ?_ ⟨rfl, rfl, rfl, rfl, rfl, rfl, rfl, rfl, rfl, rfl, rfl, rfl, rfl, rfl, rfl, rfl, trivial⟩ (by decide) rfl
    refine JE.code ?_
    refine JX.seq ?_
    refine JX.region ?_
    refine JL.val (yl_loadn Go.Proofs.Try.underlying28 rfl i28 rfl (fun w hC => rd_box hC 6 rfl) rfl (i28s).symm i28p) rfl ?_
    refine JL.val (yl_move rfl) rfl ?_
    obtain ⟨x46, hx46, hres⟩ := bind_some hres
    refine JL.eff (ef_call (vs := [.agg #[.int .i64 x32.1.W, .int .i64 x32.1.H, .slice a33 x32.1.Breaks.length cp34], .int .i64 x32.2]) (T := T24 x46) Go.Proofs.Try.func24 rfl (by kernel_rfl) rfl (fun w hC => c24 (q0 := x32.1) (rd_row hC 7 rfl) rfl (ln_row hC 7 rfl) hx46)) rfl ?_
    rintro _ _ ⟨_, ⟨rfl, rfl⟩, rfl⟩
    refine JL.val (yl_move rfl) rfl ?_
    refine JL.val (yl_extract rfl rfl) rfl ?_
    refine JL.val (yl_extract rfl rfl) rfl ?_
    refine JL.val (yl_assign rfl) rfl ?_
    refine JL.val (yl_assign rfl) rfl ?_
    refine JL.nil ?_
    refine JE.weak (env' := [(0, .slice a_0 q0.length c_0), (3, ptrAt (some ⟨g6, 0, none⟩) 0), (4, .slice a9 x8.1.length cp10), (5, .int .i64 x8.2), (6, .slice a16 x15.1.length cp17), (7, .int .i64 x15.2), (10, .int .i64 x30.1), (11, .int .i64 x30.2), (12, .int .i64 x31.1), (13, .int .i64 x31.2), (14, ptrAt (some ⟨g36, 0, none⟩) 0), (15, .int .i64 x32.2), (16, .slice a39 x38.1.length cp40), (17, .int .i64 x38.2), (18, .slice a43 x42.1.length cp44), (19, .int .i64 x42.2), (20, .int .i64 x46.1), (21, .int .i64 x46.2)]) (es' := [boxO 28 g6 [.int .i64 x2.W, .int .i64 x2.H, .slice a3 x2.Breaks.length cp4], rowT 2 eI64 a3 x2.Breaks.length cp4 x2.Breaks, rowT 61 eHd a9 x8.1.length cp10 hs12, innO 35 eSPoint none hs12 x8.1, rowT 61 eHd a16 x15.1.length cp17 hs19, innO 35 eSPoint none hs19 x15.1, boxO 28 g36 [.int .i64 x32.1.W, .int .i64 x32.1.H, .slice a33 x32.1.Breaks.length cp34], rowT 2 eI64 a33 x32.1.Breaks.length cp34 x32.1.Breaks, rowT 2 eI64 a39 x38.1.length cp40 x38.1, rowT 2 eI64 a43 x42.1.length cp44 x42.1]) [0, 1, 2, 3, 4, 5, 6, 7, 8, 9] ?_ ⟨rfl, rfl, rfl, rfl, rfl, rfl, rfl, rfl, rfl, rfl, rfl, rfl, rfl, rfl, rfl, rfl, rfl, rfl, trivial⟩ (by decide) rfl
    refine JE.code ?_
    refine JX.seq ?_
    refine JX.region ?_
    refine JL.val (yl_loadn Go.Proofs.Try.underlying28 rfl i28 rfl (fun w hC => rd_box hC 6 rfl) rfl (i28s).symm i28p) rfl ?_
    refine JL.val (yl_move rfl) rfl ?_
    obtain ⟨x47, hx47, hres⟩ := bind_some hres
    refine JL.eff (ef_call (vs := [.agg #[.int .i64 x32.1.W, .int .i64 x32.1.H, .slice a33 x32.1.Breaks.length cp34], .int .i64 x32.2]) (T := T23 x47) Go.Proofs.Try.func23 rfl (by kernel_rfl) rfl (fun w hC => c23 (q0 := x32.1) (rd_row hC 7 rfl) rfl (ln_row hC 7 rfl) hx47)) rfl ?_
    rintro _ _ ⟨_, ⟨rfl, rfl⟩, rfl⟩
    refine JL.val (yl_move rfl) rfl ?_
    refine JL.val (yl_extract rfl rfl) rfl ?_
    refine JL.val (yl_extract rfl rfl) rfl ?_
    refine JL.val (yl_assign rfl) rfl ?_
    refine JL.val (yl_assign rfl) rfl ?_
    refine JL.nil ?_
    refine JE.weak (env' := [(0, .slice a_0 q0.length c_0), (3, ptrAt (some ⟨g6, 0, none⟩) 0), (4, .slice a9 x8.1.length cp10), (5, .int .i64 x8.2), (6, .slice a16 x15.1.length cp17), (7, .int .i64 x15.2), (10, .int .i64 x30.1), (11, .int .i64 x30.2), (12, .int .i64 x31.1), (13, .int .i64 x31.2), (14, ptrAt (some ⟨g36, 0, none⟩) 0), (15, .int .i64 x32.2), (16, .slice a39 x38.1.length cp40), (17, .int .i64 x38.2), (18, .slice a43 x42.1.length cp44), (19, .int .i64 x42.2), (20, .int .i64 x46.1), (21, .int .i64 x46.2), (22, .int .i64 x47.1), (23, .int .i64 x47.2)]) (es' := [boxO 28 g6 [.int .i64 x2.W, .int .i64 x2.H, .slice a3 x2.Breaks.length cp4], rowT 2 eI64 a3 x2.Breaks.length cp4 x2.Breaks, rowT 61 eHd a9 x8.1.length cp10 hs12, innO 35 eSPoint none hs12 x8.1, rowT 61 eHd a16 x15.1.length cp17 hs19, innO 35 eSPoint none hs19 x15.1, boxO 28 g36 [.int .i64 x32.1.W, .int .i64 x32.1.H, .slice a33 x32.1.Breaks.length cp34], rowT 2 eI64 a33 x32.1.Breaks.length cp34 x32.1.Breaks, rowT 2 eI64 a39 x38.1.length cp40 x38.1, rowT 2 eI64 a43 x42.1.length cp44 x42.1]) [0, 1, 2, 3, 4, 5, 6, 7, 8, 9] ?_ ⟨rfl, rfl, rfl, rfl, rfl, rfl, rfl, rfl, rfl, rfl, rfl, rfl, rfl, rfl, rfl, rfl, rfl, rfl, rfl, rfl, trivial⟩ (by decide) rfl
    refine JE.code ?_
    refine JX.seq ?_
    refine JX.region ?_
    refine JL.val (yl_move rfl) rfl ?_
    obtain ⟨x48, hx48, hres⟩ := bind_some hres
    refine JL.eff (ef_call (T := T49 x48) Go.Proofs.Try.func49 rfl (by kernel_rfl) rfl (fun w hC => c49 (rd_arg g_0 hC) rfl k_0 hx48)) rfl ?_
    rintro _ _ ⟨_, ⟨a49, _, cp50, rfl, rfl, rfl⟩, rfl⟩
    refine JL.eff (ef_alloc i28 i28z rfl) rfl ?_
    rintro _ _ ⟨g52, rfl, rfl⟩
    refine JL.eff (ef_store_box (i := 11) (v := .agg #[.int .i64 x48.W, .int .i64 x48.H, .slice a49 x48.Breaks.length cp50]) i28 rfl rfl rfl (i28s).symm (Nat.le_of_ble_eq_true rfl) (by simp [Value.cells, Value.oneCell'])) rfl ?_
    rintro _ _ rfl
    refine JL.nil ?_
    refine JE.weak (env' := [(3, ptrAt (some ⟨g6, 0, none⟩) 0), (4, .slice a9 x8.1.length cp10), (5, .int .i64 x8.2), (6, .slice a16 x15.1.length cp17), (7, .int .i64 x15.2), (10, .int .i64 x30.1), (11, .int .i64 x30.2), (12, .int .i64 x31.1), (13, .int .i64 x31.2), (14, ptrAt (some ⟨g36, 0, none⟩) 0), (15, .int .i64 x32.2), (16, .slice a39 x38.1.length cp40), (17, .int .i64 x38.2), (18, .slice a43 x42.1.length cp44), (19, .int .i64 x42.2), (20, .int .i64 x46.1), (21, .int .i64 x46.2), (22, .int .i64 x47.1), (23, .int .i64 x47.2), (24, ptrAt (some ⟨g52, 0, none⟩) 0)]) (es' := [boxO 28 g6 [.int .i64 x2.W, .int .i64 x2.H, .slice a3 x2.Breaks.length cp4], rowT 2 eI64 a3 x2.Breaks.length cp4 x2.Breaks, rowT 61 eHd a9 x8.1.length cp10 hs12, innO 35 eSPoint none hs12 x8.1, rowT 61 eHd a16 x15.1.length cp17 hs19, innO 35 eSPoint none hs19 x15.1, boxO 28 g36 [.int .i64 x32.1.W, .int .i64 x32.1.H, .slice a33 x32.1.Breaks.length cp34], rowT 2 eI64 a33 x32.1.Breaks.length cp34 x32.1.Breaks, rowT 2 eI64 a39 x38.1.length cp40 x38.1, rowT 2 eI64 a43 x42.1.length cp44 x42.1, boxO 28 g52 [.int .i64 x48.W, .int .i64 x48.H, .slice a49 x48.Breaks.length cp50], rowT 2 eI64 a49 x48.Breaks.length cp50 x48.Breaks]) [0, 1, 2, 3, 4, 5, 6, 7, 8, 9, 11, 10] ?_ ⟨rfl, rfl, rfl, rfl, rfl, rfl, rfl, rfl, rfl, rfl, rfl, rfl, rfl, rfl, rfl, rfl, rfl, rfl, rfl, rfl, trivial⟩ (by decide) rfl
    refine JE.code ?_
    refine JX.seq ?_
    refine JX.region ?_
    refine JL.val (yl_loadn Go.Proofs.Try.underlying28 rfl i28 rfl (fun w hC => rd_box hC 10 rfl) rfl (i28s).symm i28p) rfl ?_
    obtain ⟨x54, hx54, hres⟩ := bind_some hres
    refine JL.eff (ef_call (vs := [.agg #[.int .i64 x48.W, .int .i64 x48.H, .slice a49 x48.Breaks.length cp50]]) (T := T18 x54) Go.Proofs.Try.func18 rfl (by kernel_rfl) rfl (fun w hC => c18 (q0 := x48) (rd_row hC 11 rfl) rfl (ln_row hC 11 rfl) hx54)) rfl ?_
    rintro _ _ ⟨_, ⟨rfl, rfl⟩, rfl⟩
    refine JL.val (yl_move rfl) rfl ?_
    refine JL.val (yl_extract rfl rfl) rfl ?_
    refine JL.val (yl_extract rfl rfl) rfl ?_
    refine JL.val (yl_assign rfl) rfl ?_
    refine JL.val (yl_assign rfl) rfl ?_
    refine JL.nil ?_
    refine JE.weak (env' := [(3, ptrAt (some ⟨g6, 0, none⟩) 0), (4, .slice a9 x8.1.length cp10), (5, .int .i64 x8.2), (6, .slice a16 x15.1.length cp17), (7, .int .i64 x15.2), (10, .int .i64 x30.1), (11, .int .i64 x30.2), (12, .int .i64 x31.1), (13, .int .i64 x31.2), (14, ptrAt (some ⟨g36, 0, none⟩) 0), (15, .int .i64 x32.2), (16, .slice a39 x38.1.length cp40), (17, .int .i64 x38.2), (18, .slice a43 x42.1.length cp44), (19, .int .i64 x42.2), (20, .int .i64 x46.1), (21, .int .i64 x46.2), (22, .int .i64 x47.1), (23, .int .i64 x47.2), (24, ptrAt (some ⟨g52, 0, none⟩) 0), (25, .int .i64 x54.1), (26, .int .i64 x54.2)]) (es' := [boxO 28 g6 [.int .i64 x2.W, .int .i64 x2.H, .slice a3 x2.Breaks.length cp4], rowT 2 eI64 a3 x2.Breaks.length cp4 x2.Breaks, rowT 61 eHd a9 x8.1.length cp10 hs12, innO 35 eSPoint none hs12 x8.1, rowT 61 eHd a16 x15.1.length cp17 hs19, innO 35 eSPoint none hs19 x15.1, boxO 28 g36 [.int .i64 x32.1.W, .int .i64 x32.1.H, .slice a33 x32.1.Breaks.length cp34], rowT 2 eI64 a33 x32.1.Breaks.length cp34 x32.1.Breaks, rowT 2 eI64 a39 x38.1.length cp40 x38.1, rowT 2 eI64 a43 x42.1.length cp44 x42.1, boxO 28 g52 [.int .i64 x48.W, .int .i64 x48.H, .slice a49 x48.Breaks.length cp50], rowT 2 eI64 a49 x48.Breaks.length cp50 x48.Breaks]) [0, 1, 2, 3, 4, 5, 6, 7, 8, 9, 10, 11] ?_ ⟨rfl, rfl, rfl, rfl, rfl, rfl, rfl, rfl, rfl, rfl, rfl, rfl, rfl, rfl, rfl, rfl, rfl, rfl, rfl, rfl, rfl, rfl, trivial⟩ (by decide) rfl
    refine JE.code ?_
    refine JX.seq ?_
    refine JX.region ?_
    refine JL.val (yl_loadn Go.Proofs.Try.underlying28 rfl i28 rfl (fun w hC => rd_box hC 10 rfl) rfl (i28s).symm i28p) rfl ?_
    obtain ⟨x55, hx55, hres⟩ := bind_some hres
    refine JL.eff (ef_call (vs := [.agg #[.int .i64 x48.W, .int .i64 x48.H, .slice a49 x48.Breaks.length cp50]]) (T := T16 x55) Go.Proofs.Try.func16 rfl (by kernel_rfl) rfl (fun w hC => c16 (q0 := x48) (rd_row hC 11 rfl) rfl (ln_row hC 11 rfl) hx55)) rfl ?_
    rintro _ _ ⟨_, ⟨rfl, rfl⟩, rfl⟩
    refine JL.val (yl_move rfl) rfl ?_
    refine JL.val (yl_extract rfl rfl) rfl ?_
    refine JL.val (yl_extract rfl rfl) rfl ?_
    refine JL.val (yl_assign rfl) rfl ?_
    refine JL.val (yl_assign rfl) rfl ?_
    refine JL.nil ?_
    refine JE.weak (env' := [(3, ptrAt (some ⟨g6, 0, none⟩) 0), (4, .slice a9 x8.1.length cp10), (5, .int .i64 x8.2), (6, .slice a16 x15.1.length cp17), (7, .int .i64 x15.2), (10, .int .i64 x30.1), (11, .int .i64 x30.2), (12, .int .i64 x31.1), (13, .int .i64 x31.2), (14, ptrAt (some ⟨g36, 0, none⟩) 0), (15, .int .i64 x32.2), (16, .slice a39 x38.1.length cp40), (17, .int .i64 x38.2), (18, .slice a43 x42.1.length cp44), (19, .int .i64 x42.2), (20, .int .i64 x46.1), (21, .int .i64 x46.2), (22, .int .i64 x47.1), (23, .int .i64 x47.2), (25, .int .i64 x54.1), (26, .int .i64 x54.2), (27, .int .i64 x55.1), (28, .int .i64 x55.2)]) (es' := [boxO 28 g6 [.int .i64 x2.W, .int .i64 x2.H, .slice a3 x2.Breaks.length cp4], rowT 2 eI64 a3 x2.Breaks.length cp4 x2.Breaks, rowT 61 eHd a9 x8.1.length cp10 hs12, innO 35 eSPoint none hs12 x8.1, rowT 61 eHd a16 x15.1.length cp17 hs19, innO 35 eSPoint none hs19 x15.1, boxO 28 g36 [.int .i64 x32.1.W, .int .i64 x32.1.H, .slice a33 x32.1.Breaks.length cp34], rowT 2 eI64 a33 x32.1.Breaks.length cp34 x32.1.Breaks, rowT 2 eI64 a39 x38.1.length cp40 x38.1, rowT 2 eI64 a43 x42.1.length cp44 x42.1]) [0, 1, 2, 3, 4, 5, 6, 7, 8, 9] ?_ ⟨rfl, rfl, rfl, rfl, rfl, rfl, rfl, rfl, rfl, rfl, rfl, rfl, rfl, rfl, rfl, rfl, rfl, rfl, rfl, rfl, rfl, rfl, rfl, trivial⟩ (by decide) rfl
    refine JE.code ?_
    refine JX.seq ?_
    refine JX.seq ?_
    refine JX.region ?_
    refine JL.val (yl_move rfl) rfl ?_
    refine JL.val (yl_move rfl) rfl ?_
    refine JL.val (yl_neq rfl rfl) rfl ?_
    refine JL.val (yl_move rfl) rfl ?_
    obtain ⟨cb56, hcb56, hres⟩ := bind_some hres
    refine JL.cut (K := fun J => J [(3, ptrAt (some ⟨g6, 0, none⟩) 0), (4, .slice a9 x8.1.length cp10), (5, .int .i64 x8.2), (10, .int .i64 x30.1), (11, .int .i64 x30.2), (12, .int .i64 x31.1), (13, .int .i64 x31.2), (14, ptrAt (some ⟨g36, 0, none⟩) 0), (15, .int .i64 x32.2), (16, .slice a39 x38.1.length cp40), (17, .int .i64 x38.2), (18, .slice a43 x42.1.length cp44), (19, .int .i64 x42.2), (20, .int .i64 x46.1), (21, .int .i64 x46.2), (22, .int .i64 x47.1), (23, .int .i64 x47.2), (25, .int .i64 x54.1), (26, .int .i64 x54.2), (27, .int .i64 x55.1), (28, .int .i64 x55.2), (121, .bool cb56)] [boxO 28 g6 [.int .i64 x2.W, .int .i64 x2.H, .slice a3 x2.Breaks.length cp4], rowT 2 eI64 a3 x2.Breaks.length cp4 x2.Breaks, rowT 61 eHd a9 x8.1.length cp10 hs12, innO 35 eSPoint none hs12 x8.1, boxO 28 g36 [.int .i64 x32.1.W, .int .i64 x32.1.H, .slice a33 x32.1.Breaks.length cp34], rowT 2 eI64 a33 x32.1.Breaks.length cp34 x32.1.Breaks, rowT 2 eI64 a39 x38.1.length cp40 x38.1, rowT 2 eI64 a43 x42.1.length cp44 x42.1]) 5 ?_ ?_
    · refine JL.val (yl_move rfl) rfl ?_
      refine JL.cut (K := fun J => J [(3, ptrAt (some ⟨g6, 0, none⟩) 0), (4, .slice a9 x8.1.length cp10), (5, .int .i64 x8.2), (10, .int .i64 x30.1), (12, .int .i64 x31.1), (14, ptrAt (some ⟨g36, 0, none⟩) 0), (15, .int .i64 x32.2), (16, .slice a39 x38.1.length cp40), (17, .int .i64 x38.2), (18, .slice a43 x42.1.length cp44), (19, .int .i64 x42.2), (20, .int .i64 x46.1), (21, .int .i64 x46.2), (22, .int .i64 x47.1), (23, .int .i64 x47.2), (25, .int .i64 x54.1), (26, .int .i64 x54.2), (27, .int .i64 x55.1), (28, .int .i64 x55.2), (126, .bool (cb56 || (x30.2 != x31.2)))] [boxO 28 g6 [.int .i64 x2.W, .int .i64 x2.H, .slice a3 x2.Breaks.length cp4], rowT 2 eI64 a3 x2.Breaks.length cp4 x2.Breaks, rowT 61 eHd a9 x8.1.length cp10 hs12, innO 35 eSPoint none hs12 x8.1, boxO 28 g36 [.int .i64 x32.1.W, .int .i64 x32.1.H, .slice a33 x32.1.Breaks.length cp34], rowT 2 eI64 a33 x32.1.Breaks.length cp34 x32.1.Breaks, rowT 2 eI64 a39 x38.1.length cp40 x38.1, rowT 2 eI64 a43 x42.1.length cp44 x42.1]) 4 ?_ ?_
      · refine JL.val (yl_move rfl) rfl ?_
        refine JL.cut (K := fun J => J [(3, ptrAt (some ⟨g6, 0, none⟩) 0), (4, .slice a9 x8.1.length cp10), (5, .int .i64 x8.2), (14, ptrAt (some ⟨g36, 0, none⟩) 0), (15, .int .i64 x32.2), (16, .slice a39 x38.1.length cp40), (17, .int .i64 x38.2), (18, .slice a43 x42.1.length cp44), (19, .int .i64 x42.2), (20, .int .i64 x46.1), (21, .int .i64 x46.2), (22, .int .i64 x47.1), (23, .int .i64 x47.2), (25, .int .i64 x54.1), (26, .int .i64 x54.2), (27, .int .i64 x55.1), (28, .int .i64 x55.2), (131, .bool ((cb56 || (x30.2 != x31.2)) || (x30.1 != x31.1)))] [boxO 28 g6 [.int .i64 x2.W, .int .i64 x2.H, .slice a3 x2.Breaks.length cp4], rowT 2 eI64 a3 x2.Breaks.length cp4 x2.Breaks, rowT 61 eHd a9 x8.1.length cp10 hs12, innO 35 eSPoint none hs12 x8.1, boxO 28 g36 [.int .i64 x32.1.W, .int .i64 x32.1.H, .slice a33 x32.1.Breaks.length cp34], rowT 2 eI64 a33 x32.1.Breaks.length cp34 x32.1.Breaks, rowT 2 eI64 a39 x38.1.length cp40 x38.1, rowT 2 eI64 a43 x42.1.length cp44 x42.1]) 4 ?_ ?_
        · refine JL.val (yl_move rfl) rfl ?_
          refine JL.cut (K := fun J => J [(3, ptrAt (some ⟨g6, 0, none⟩) 0), (4, .slice a9 x8.1.length cp10), (5, .int .i64 x8.2), (14, ptrAt (some ⟨g36, 0, none⟩) 0), (15, .int .i64 x32.2), (16, .slice a39 x38.1.length cp40), (17, .int .i64 x38.2), (18, .slice a43 x42.1.length cp44), (20, .int .i64 x46.1), (21, .int .i64 x46.2), (22, .int .i64 x47.1), (23, .int .i64 x47.2), (25, .int .i64 x54.1), (26, .int .i64 x54.2), (27, .int .i64 x55.1), (28, .int .i64 x55.2), (136, .bool (((cb56 || (x30.2 != x31.2)) || (x30.1 != x31.1)) || (x38.2 != x42.2)))] [boxO 28 g6 [.int .i64 x2.W, .int .i64 x2.H, .slice a3 x2.Breaks.length cp4], rowT 2 eI64 a3 x2.Breaks.length cp4 x2.Breaks, rowT 61 eHd a9 x8.1.length cp10 hs12, innO 35 eSPoint none hs12 x8.1, boxO 28 g36 [.int .i64 x32.1.W, .int .i64 x32.1.H, .slice a33 x32.1.Breaks.length cp34], rowT 2 eI64 a33 x32.1.Breaks.length cp34 x32.1.Breaks, rowT 2 eI64 a39 x38.1.length cp40 x38.1, rowT 2 eI64 a43 x42.1.length cp44 x42.1]) 4 ?_ ?_
          · refine JL.val (yl_move rfl) rfl ?_
            obtain ⟨cb58, hcb58, hres⟩ := bind_some hres
            refine JL.cut (K := fun J => J [(3, ptrAt (some ⟨g6, 0, none⟩) 0), (4, .slice a9 x8.1.length cp10), (5, .int .i64 x8.2), (14, ptrAt (some ⟨g36, 0, none⟩) 0), (15, .int .i64 x32.2), (16, .slice a39 x38.1.length cp40), (17, .int .i64 x38.2), (18, .slice a43 x42.1.length cp44), (20, .int .i64 x46.1), (21, .int .i64 x46.2), (22, .int .i64 x47.1), (23, .int .i64 x47.2), (25, .int .i64 x54.1), (26, .int .i64 x54.2), (27, .int .i64 x55.1), (28, .int .i64 x55.2), (142, .bool cb58)] [boxO 28 g6 [.int .i64 x2.W, .int .i64 x2.H, .slice a3 x2.Breaks.length cp4], rowT 2 eI64 a3 x2.Breaks.length cp4 x2.Breaks, rowT 61 eHd a9 x8.1.length cp10 hs12, innO 35 eSPoint none hs12 x8.1, boxO 28 g36 [.int .i64 x32.1.W, .int .i64 x32.1.H, .slice a33 x32.1.Breaks.length cp34], rowT 2 eI64 a33 x32.1.Breaks.length cp34 x32.1.Breaks, rowT 2 eI64 a39 x38.1.length cp40 x38.1, rowT 2 eI64 a43 x42.1.length cp44 x42.1]) 5 ?_ ?_
            · refine JL.val (yl_move rfl) rfl ?_
              refine JL.cut (K := fun J => J [(3, ptrAt (some ⟨g6, 0, none⟩) 0), (4, .slice a9 x8.1.length cp10), (5, .int .i64 x8.2), (14, ptrAt (some ⟨g36, 0, none⟩) 0), (15, .int .i64 x32.2), (16, .slice a39 x38.1.length cp40), (17, .int .i64 x38.2), (18, .slice a43 x42.1.length cp44), (20, .int .i64 x46.1), (22, .int .i64 x47.1), (25, .int .i64 x54.1), (26, .int .i64 x54.2), (27, .int .i64 x55.1), (28, .int .i64 x55.2), (147, .bool (cb58 || (x46.2 != x47.2)))] [boxO 28 g6 [.int .i64 x2.W, .int .i64 x2.H, .slice a3 x2.Breaks.length cp4], rowT 2 eI64 a3 x2.Breaks.length cp4 x2.Breaks, rowT 61 eHd a9 x8.1.length cp10 hs12, innO 35 eSPoint none hs12 x8.1, boxO 28 g36 [.int .i64 x32.1.W, .int .i64 x32.1.H, .slice a33 x32.1.Breaks.length cp34], rowT 2 eI64 a33 x32.1.Breaks.length cp34 x32.1.Breaks, rowT 2 eI64 a39 x38.1.length cp40 x38.1, rowT 2 eI64 a43 x42.1.length cp44 x42.1]) 4 ?_ ?_
              · refine JL.val (yl_move rfl) rfl ?_
                refine JL.cut (K := fun J => J [(3, ptrAt (some ⟨g6, 0, none⟩) 0), (4, .slice a9 x8.1.length cp10), (5, .int .i64 x8.2), (14, ptrAt (some ⟨g36, 0, none⟩) 0), (15, .int .i64 x32.2), (16, .slice a39 x38.1.length cp40), (17, .int .i64 x38.2), (18, .slice a43 x42.1.length cp44), (20, .int .i64 x46.1), (25, .int .i64 x54.1), (26, .int .i64 x54.2), (27, .int .i64 x55.1), (28, .int .i64 x55.2), (152, .bool ((cb58 || (x46.2 != x47.2)) || (x46.1 != x47.1)))] [boxO 28 g6 [.int .i64 x2.W, .int .i64 x2.H, .slice a3 x2.Breaks.length cp4], rowT 2 eI64 a3 x2.Breaks.length cp4 x2.Breaks, rowT 61 eHd a9 x8.1.length cp10 hs12, innO 35 eSPoint none hs12 x8.1, boxO 28 g36 [.int .i64 x32.1.W, .int .i64 x32.1.H, .slice a33 x32.1.Breaks.length cp34], rowT 2 eI64 a33 x32.1.Breaks.length cp34 x32.1.Breaks, rowT 2 eI64 a39 x38.1.length cp40 x38.1, rowT 2 eI64 a43 x42.1.length cp44 x42.1]) 4 ?_ ?_
                · refine JL.val (yl_move rfl) rfl ?_
                  refine JL.cut (K := fun J => J [(3, ptrAt (some ⟨g6, 0, none⟩) 0), (4, .slice a9 x8.1.length cp10), (5, .int .i64 x8.2), (14, ptrAt (some ⟨g36, 0, none⟩) 0), (15, .int .i64 x32.2), (16, .slice a39 x38.1.length cp40), (17, .int .i64 x38.2), (18, .slice a43 x42.1.length cp44), (20, .int .i64 x46.1), (25, .int .i64 x54.1), (27, .int .i64 x55.1), (157, .bool (((cb58 || (x46.2 != x47.2)) || (x46.1 != x47.1)) || (x54.2 != x55.2)))] [boxO 28 g6 [.int .i64 x2.W, .int .i64 x2.H, .slice a3 x2.Breaks.length cp4], rowT 2 eI64 a3 x2.Breaks.length cp4 x2.Breaks, rowT 61 eHd a9 x8.1.length cp10 hs12, innO 35 eSPoint none hs12 x8.1, boxO 28 g36 [.int .i64 x32.1.W, .int .i64 x32.1.H, .slice a33 x32.1.Breaks.length cp34], rowT 2 eI64 a33 x32.1.Breaks.length cp34 x32.1.Breaks, rowT 2 eI64 a39 x38.1.length cp40 x38.1, rowT 2 eI64 a43 x42.1.length cp44 x42.1]) 4 ?_ ?_
                  · refine JL.val (yl_move rfl) rfl ?_
                    refine JL.cut (K := fun J => J [(3, ptrAt (some ⟨g6, 0, none⟩) 0), (4, .slice a9 x8.1.length cp10), (5, .int .i64 x8.2), (14, ptrAt (some ⟨g36, 0, none⟩) 0), (15, .int .i64 x32.2), (16, .slice a39 x38.1.length cp40), (17, .int .i64 x38.2), (18, .slice a43 x42.1.length cp44), (20, .int .i64 x46.1), (162, .bool ((((cb58 || (x46.2 != x47.2)) || (x46.1 != x47.1)) || (x54.2 != x55.2)) || (x54.1 != x55.1)))] [boxO 28 g6 [.int .i64 x2.W, .int .i64 x2.H, .slice a3 x2.Breaks.length cp4], rowT 2 eI64 a3 x2.Breaks.length cp4 x2.Breaks, rowT 61 eHd a9 x8.1.length cp10 hs12, innO 35 eSPoint none hs12 x8.1, boxO 28 g36 [.int .i64 x32.1.W, .int .i64 x32.1.H, .slice a33 x32.1.Breaks.length cp34], rowT 2 eI64 a33 x32.1.Breaks.length cp34 x32.1.Breaks, rowT 2 eI64 a39 x38.1.length cp40 x38.1, rowT 2 eI64 a43 x42.1.length cp44 x42.1]) 4 ?_ ?_
                    · refine JL.nil ?_
                      refine JE.weak (env' := [(3, ptrAt (some ⟨g6, 0, none⟩) 0), (4, .slice a9 x8.1.length cp10), (5, .int .i64 x8.2), (14, ptrAt (some ⟨g36, 0, none⟩) 0), (15, .int .i64 x32.2), (16, .slice a39 x38.1.length cp40), (17, .int .i64 x38.2), (18, .slice a43 x42.1.length cp44), (20, .int .i64 x46.1), (162, .bool ((((cb58 || (x46.2 != x47.2)) || (x46.1 != x47.1)) || (x54.2 != x55.2)) || (x54.1 != x55.1)))]) (es' := [boxO 28 g6 [.int .i64 x2.W, .int .i64 x2.H, .slice a3 x2.Breaks.length cp4], rowT 2 eI64 a3 x2.Breaks.length cp4 x2.Breaks, rowT 61 eHd a9 x8.1.length cp10 hs12, innO 35 eSPoint none hs12 x8.1, boxO 28 g36 [.int .i64 x32.1.W, .int .i64 x32.1.H, .slice a33 x32.1.Breaks.length cp34], rowT 2 eI64 a33 x32.1.Breaks.length cp34 x32.1.Breaks, rowT 2 eI64 a39 x38.1.length cp40 x38.1, rowT 2 eI64 a43 x42.1.length cp44 x42.1]) [0, 1, 2, 3, 4, 5, 6, 7] ?_ ⟨rfl, rfl, rfl, rfl, rfl, rfl, rfl, rfl, rfl, rfl, trivial⟩ (by decide) rfl
                      refine JE.code ?_
                      rcases cond_some hres with ⟨hb, hres⟩ | ⟨hb, hres⟩
                      · refine JX.condT rfl hb ?_
                        refine JX.seq ?_
                        refine JX.region ?_
                        refine JL.val (yl_assign rfl) rfl ?_
                        refine JL.nil ?_
                        refine JE.weak (env' := [(2, .bool false)]) (es' := []) [] ?_ ⟨rfl, trivial⟩ (by decide) rfl
                        refine JE.code ?_
                        refine JX.ret ?_
                        obtain rfl := Option.some.inj hres
                        refine JE.ret (rs := [.tmp 2]) (vs := [.bool false]) rfl ⟨rfl, trivial⟩ ?_
                        exact fun w' hb hs => ⟨_, _, ⟨rfl, rfl⟩, rfl, hb, hs.sel [] _ (by decide) rfl⟩
                      · refine JX.condF rfl hb ?_
                        refine JX.skip ?_
                        refine JE.code ?_
                        refine JX.seq ?_
                        refine JX.seq ?_
                        refine JX.region ?_
                        refine JL.val (yl_move rfl) rfl ?_
                        refine JL.val (yl_eql rfl rfl) rfl ?_
                        refine JL.nil ?_
                        refine JE.code ?_
                        rcases cond_some hres with ⟨hb, hres⟩ | ⟨hb, hres⟩
                        · refine JX.condT rfl hb ?_
                          refine JX.seq ?_
                          refine JX.region ?_
                          refine JL.val (yl_assign rfl) rfl ?_
                          refine JL.nil ?_
                          refine JE.code ?_
                          refine JX.block ?_
                          obtain ⟨y1, hy1, hresO1⟩ := bind_some hres
                          refine JX.loop (I := fun (s1 : Int) aa ww => St w [] 282 [(3, ptrAt (some ⟨g6, 0, none⟩) 0), (4, .slice a9 x8.1.length cp10), (5, .int .i64 x8.2), (14, ptrAt (some ⟨g36, 0, none⟩) 0), (15, .int .i64 x32.2), (16, .slice a39 x38.1.length cp40), (18, .slice a43 x42.1.length cp44), (20, .int .i64 x46.1), (29, .int .i64 s1)] [boxO 28 g6 [.int .i64 x2.W, .int .i64 x2.H, .slice a3 x2.Breaks.length cp4], rowT 2 eI64 a3 x2.Breaks.length cp4 x2.Breaks, rowT 61 eHd a9 x8.1.length cp10 hs12, innO 35 eSPoint none hs12 x8.1, boxO 28 g36 [.int .i64 x32.1.W, .int .i64 x32.1.H, .slice a33 x32.1.Breaks.length cp34], rowT 2 eI64 a33 x32.1.Breaks.length cp34 x32.1.Breaks, rowT 2 eI64 a39 x38.1.length cp40 x38.1, rowT 2 eI64 a43 x42.1.length cp44 x42.1] aa ww) (sh12_1 x32 x38 x42 x46) hy1 (fun a w h => h.weak ⟨rfl, rfl, rfl, rfl, rfl, rfl, rfl, rfl, rfl, trivial⟩ [0, 1, 2, 3, 4, 5, 6, 7] (by decide) rfl) ?_
                          rintro x60 o1 hres hox1 aa ww hS
                          refine (?_ : JX Go.Proofs.Try.prog w [] 282 _ _ [(3, ptrAt (some ⟨g6, 0, none⟩) 0), (4, .slice a9 x8.1.length cp10), (5, .int .i64 x8.2), (14, ptrAt (some ⟨g36, 0, none⟩) 0), (15, .int .i64 x32.2), (16, .slice a39 x38.1.length cp40), (18, .slice a43 x42.1.length cp44), (20, .int .i64 x46.1), (29, .int .i64 x60)] [boxO 28 g6 [.int .i64 x2.W, .int .i64 x2.H, .slice a3 x2.Breaks.length cp4], rowT 2 eI64 a3 x2.Breaks.length cp4 x2.Breaks, rowT 61 eHd a9 x8.1.length cp10 hs12, innO 35 eSPoint none hs12 x8.1, boxO 28 g36 [.int .i64 x32.1.W, .int .i64 x32.1.H, .slice a33 x32.1.Breaks.length cp34], rowT 2 eI64 a33 x32.1.Breaks.length cp34 x32.1.Breaks, rowT 2 eI64 a39 x38.1.length cp40 x38.1, rowT 2 eI64 a43 x42.1.length cp44 x42.1] _) aa ww hS
                          clear hS
                          unfold sh12_1 at hres
                          refine JX.seq ?_
                          refine JX.seq ?_
                          refine JX.region ?_
                          refine JL.val (yl_move rfl) rfl ?_
                          refine JL.val (yl_move rfl) rfl ?_
                          refine JL.val (yl_len_slice Go.Proofs.Try.underlying22 rfl) rfl ?_
                          refine JL.val (yl_lss rfl rfl) rfl ?_
                          refine JL.nil ?_
                          refine JE.weak (env' := [(3, ptrAt (some ⟨g6, 0, none⟩) 0), (4, .slice a9 x8.1.length cp10), (5, .int .i64 x8.2), (14, ptrAt (some ⟨g36, 0, none⟩) 0), (15, .int .i64 x32.2), (16, .slice a39 x38.1.length cp40), (18, .slice a43 x42.1.length cp44), (20, .int .i64 x46.1), (29, .int .i64 x60), (168, .bool (decide (x60 < (x38.1.length : Int))))]) (es' := [boxO 28 g6 [.int .i64 x2.W, .int .i64 x2.H, .slice a3 x2.Breaks.length cp4], rowT 2 eI64 a3 x2.Breaks.length cp4 x2.Breaks, rowT 61 eHd a9 x8.1.length cp10 hs12, innO 35 eSPoint none hs12 x8.1, boxO 28 g36 [.int .i64 x32.1.W, .int .i64 x32.1.H, .slice a33 x32.1.Breaks.length cp34], rowT 2 eI64 a33 x32.1.Breaks.length cp34 x32.1.Breaks, rowT 2 eI64 a39 x38.1.length cp40 x38.1, rowT 2 eI64 a43 x42.1.length cp44 x42.1]) [0, 1, 2, 3, 4, 5, 6, 7] ?_ ⟨rfl, rfl, rfl, rfl, rfl, rfl, rfl, rfl, rfl, rfl, trivial⟩ (by decide) rfl
                          refine JE.code ?_
                          rcases cond_some hres with ⟨hb, hres⟩ | ⟨hb, hres⟩
                          · refine JX.condT rfl hb ?_
                            refine JX.skip ?_
                            refine JE.code ?_
                            refine JX.seq ?_
                            refine JX.block ?_
                            refine JX.seq ?_
                            refine JX.drawH [(0, .read), (1, .pure), (2, .pure), (3, .pure), (4, .read), (5, .must), (6, .pure), (7, .pure), (8, .pure), (9, .pure), (10, .pure)] [] [] [0, 1, 2, 3, 4, 5, 6, 7] [] [boxO 28 g6 [.int .i64 x2.W, .int .i64 x2.H, .slice a3 x2.Breaks.length cp4], rowT 2 eI64 a3 x2.Breaks.length cp4 x2.Breaks, rowT 61 eHd a9 x8.1.length cp10 hs12, innO 35 eSPoint none hs12 x8.1, boxO 28 g36 [.int .i64 x32.1.W, .int .i64 x32.1.H, .slice a33 x32.1.Breaks.length cp34], rowT 2 eI64 a33 x32.1.Breaks.length cp34 x32.1.Breaks, rowT 2 eI64 a39 x38.1.length cp40 x38.1, rowT 2 eI64 a43 x42.1.length cp44 x42.1] mixedP (by kernel_rfl) (by kernel_rfl) (by decide) rfl rfl ?_
                            intro wrr61 Nr61 hFr61
                            refine JH.read rfl (yl_loadn Go.Proofs.Try.underlying28 rfl i28 rfl (fun w hw => hFr61.box 4 rfl rfl hw) rfl (i28s).symm i28p) rfl ?_
                            refine JH.pure rfl (yl_move rfl) rfl ?_
                            refine JH.pure rfl (yl_move rfl) rfl ?_
                            obtain ⟨x62, hx62, hres⟩ := bind_some hres
                            refine JH.pure rfl (yl_idxQ Go.Proofs.Try.underlying22 i2 i2s rfl rfl hx62 rfl (rd_row hFr61.cl 7 rfl) rfl) rfl ?_
                            refine JH.read rfl (yl_loadT0 Go.Proofs.Try.underlying2 rfl rfl hx62 (fun w hw => hFr61.row 7 rfl rfl hw) rfl) rfl ?_
                            obtain ⟨x63, hx63, hres⟩ := bind_some hres
                            refine JH.must rfl (ef_call (vs := [.agg #[.int .i64 x32.1.W, .int .i64 x32.1.H, .slice a33 x32.1.Breaks.length cp34], .int .i64 x62]) (T := T24 x63) Go.Proofs.Try.func24 rfl (by kernel_rfl) rfl (fun w hC => c24 (q0 := x32.1) (hFr61.row 5 rfl rfl hC.1) rfl (ln_row hFr61.cl 5 rfl) hx63)) rfl rfl ?_
                            rintro _ _ ⟨_, ⟨rfl, rfl⟩, rfl⟩
                            refine JH.pure rfl (yl_move rfl) rfl ?_
                            refine JH.pure rfl (yl_extract rfl rfl) rfl ?_
                            refine JH.pure rfl (yl_extract rfl rfl) rfl ?_
                            refine JH.pure rfl (yl_assign rfl) rfl ?_
                            refine JH.pure rfl (yl_assign rfl) rfl ?_
                            refine JH.nil ?_
                            refine JE.weak (env' := [(3, ptrAt (some ⟨g6, 0, none⟩) 0), (4, .slice a9 x8.1.length cp10), (5, .int .i64 x8.2), (14, ptrAt (some ⟨g36, 0, none⟩) 0), (15, .int .i64 x32.2), (16, .slice a39 x38.1.length cp40), (18, .slice a43 x42.1.length cp44), (20, .int .i64 x46.1), (29, .int .i64 x60), (30, .int .i64 x63.1), (31, .int .i64 x63.2)]) (es' := [boxO 28 g6 [.int .i64 x2.W, .int .i64 x2.H, .slice a3 x2.Breaks.length cp4], rowT 2 eI64 a3 x2.Breaks.length cp4 x2.Breaks, rowT 61 eHd a9 x8.1.length cp10 hs12, innO 35 eSPoint none hs12 x8.1, boxO 28 g36 [.int .i64 x32.1.W, .int .i64 x32.1.H, .slice a33 x32.1.Breaks.length cp34], rowT 2 eI64 a33 x32.1.Breaks.length cp34 x32.1.Breaks, rowT 2 eI64 a39 x38.1.length cp40 x38.1, rowT 2 eI64 a43 x42.1.length cp44 x42.1]) [0, 1, 2, 3, 4, 5, 6, 7] ?_ ⟨rfl, rfl, rfl, rfl, rfl, rfl, rfl, rfl, rfl, rfl, rfl, trivial⟩ (by decide) rfl
                            refine JE.code ?_
                            refine JX.seq ?_
                            refine JX.drawH [(0, .read), (1, .pure), (2, .pure), (3, .pure), (4, .read), (5, .must), (6, .pure), (7, .pure), (8, .pure), (9, .pure), (10, .pure)] [] [] [0, 1, 2, 3, 4, 5, 6, 7] [] [boxO 28 g6 [.int .i64 x2.W, .int .i64 x2.H, .slice a3 x2.Breaks.length cp4], rowT 2 eI64 a3 x2.Breaks.length cp4 x2.Breaks, rowT 61 eHd a9 x8.1.length cp10 hs12, innO 35 eSPoint none hs12 x8.1, boxO 28 g36 [.int .i64 x32.1.W, .int .i64 x32.1.H, .slice a33 x32.1.Breaks.length cp34], rowT 2 eI64 a33 x32.1.Breaks.length cp34 x32.1.Breaks, rowT 2 eI64 a39 x38.1.length cp40 x38.1, rowT 2 eI64 a43 x42.1.length cp44 x42.1] mixedP (by kernel_rfl) (by kernel_rfl) (by decide) rfl rfl ?_
                            intro wrr64 Nr64 hFr64
                            refine JH.read rfl (yl_loadn Go.Proofs.Try.underlying28 rfl i28 rfl (fun w hw => hFr64.box 4 rfl rfl hw) rfl (i28s).symm i28p) rfl ?_
                            refine JH.pure rfl (yl_move rfl) rfl ?_
                            refine JH.pure rfl (yl_move rfl) rfl ?_
                            obtain ⟨x65, hx65, hres⟩ := bind_some hres
                            refine JH.pure rfl (yl_idxQ Go.Proofs.Try.underlying22 i2 i2s rfl rfl hx65 rfl (rd_row hFr64.cl 7 rfl) rfl) rfl ?_
                            refine JH.read rfl (yl_loadT0 Go.Proofs.Try.underlying2 rfl rfl hx65 (fun w hw => hFr64.row 7 rfl rfl hw) rfl) rfl ?_
                            obtain ⟨x66, hx66, hres⟩ := bind_some hres
                            refine JH.must rfl (ef_call (vs := [.agg #[.int .i64 x32.1.W, .int .i64 x32.1.H, .slice a33 x32.1.Breaks.length cp34], .int .i64 x65]) (T := T44 x66) Go.Proofs.Try.func44 rfl (by kernel_rfl) rfl (fun w hC => c44 (q0 := x32.1) (hFr64.row 5 rfl rfl hC.1) rfl (ln_row hFr64.cl 5 rfl) hx66)) rfl rfl ?_
                            rintro _ _ ⟨_, ⟨a67, _, cp68, rfl, rfl, rfl⟩, rfl⟩
                            refine JH.pure rfl (yl_move rfl) rfl ?_
                            refine JH.pure rfl (yl_extract rfl rfl) rfl ?_
                            refine JH.pure rfl (yl_extract rfl rfl) rfl ?_
                            refine JH.pure rfl (yl_assign rfl) rfl ?_
                            refine JH.pure rfl (yl_assign rfl) rfl ?_
                            refine JH.nil ?_
                            refine JE.weak (env' := [(3, ptrAt (some ⟨g6, 0, none⟩) 0), (4, .slice a9 x8.1.length cp10), (5, .int .i64 x8.2), (14, ptrAt (some ⟨g36, 0, none⟩) 0), (15, .int .i64 x32.2), (16, .slice a39 x38.1.length cp40), (18, .slice a43 x42.1.length cp44), (20, .int .i64 x46.1), (29, .int .i64 x60), (30, .int .i64 x63.1), (31, .int .i64 x63.2), (32, .slice a67 x66.1.length cp68), (33, .int .i64 x66.2)]) (es' := [boxO 28 g6 [.int .i64 x2.W, .int .i64 x2.H, .slice a3 x2.Breaks.length cp4], rowT 2 eI64 a3 x2.Breaks.length cp4 x2.Breaks, rowT 61 eHd a9 x8.1.length cp10 hs12, innO 35 eSPoint none hs12 x8.1, boxO 28 g36 [.int .i64 x32.1.W, .int .i64 x32.1.H, .slice a33 x32.1.Breaks.length cp34], rowT 2 eI64 a33 x32.1.Breaks.length cp34 x32.1.Breaks, rowT 2 eI64 a39 x38.1.length cp40 x38.1, rowT 2 eI64 a43 x42.1.length cp44 x42.1, rowT 2 eI64 a67 x66.1.length cp68 x66.1]) [0, 1, 2, 3, 4, 5, 6, 7, 8] ?_ ⟨rfl, rfl, rfl, rfl, rfl, rfl, rfl, rfl, rfl, rfl, rfl, rfl, rfl, trivial⟩ (by decide) rfl
                            refine JE.code ?_
                            refine JX.seq ?_
                            refine JX.region ?_
                            refine JL.val (yl_assign rfl) rfl ?_
                            refine JL.nil ?_
                            refine JE.code ?_
                            refine JX.seq ?_
                            refine JX.seq ?_
                            refine JX.region ?_
                            refine JL.val (yl_assign rfl) rfl ?_
                            refine JL.nil ?_
                            refine JE.code ?_
                            refine JX.block ?_
                            obtain ⟨y2, hy2, hresO2⟩ := bind_some hres
                            refine JX.loop (I := fun (s2 : Bool × Int) aa ww => St w [] 282 [(3, ptrAt (some ⟨g6, 0, none⟩) 0), (4, .slice a9 x8.1.length cp10), (5, .int .i64 x8.2), (14, ptrAt (some ⟨g36, 0, none⟩) 0), (15, .int .i64 x32.2), (16, .slice a39 x38.1.length cp40), (18, .slice a43 x42.1.length cp44), (20, .int .i64 x46.1), (29, .int .i64 x60), (30, .int .i64 x63.1), (31, .int .i64 x63.2), (32, .slice a67 x66.1.length cp68), (33, .int .i64 x66.2), (34, .bool s2.1), (35, .int .i64 s2.2)] [boxO 28 g6 [.int .i64 x2.W, .int .i64 x2.H, .slice a3 x2.Breaks.length cp4], rowT 2 eI64 a3 x2.Breaks.length cp4 x2.Breaks, rowT 61 eHd a9 x8.1.length cp10 hs12, innO 35 eSPoint none hs12 x8.1, boxO 28 g36 [.int .i64 x32.1.W, .int .i64 x32.1.H, .slice a33 x32.1.Breaks.length cp34], rowT 2 eI64 a33 x32.1.Breaks.length cp34 x32.1.Breaks, rowT 2 eI64 a39 x38.1.length cp40 x38.1, rowT 2 eI64 a43 x42.1.length cp44 x42.1, rowT 2 eI64 a67 x66.1.length cp68 x66.1] aa ww) (sh12_2 x32 x66) hy2 (fun a w h => h.weak ⟨rfl, rfl, rfl, rfl, rfl, rfl, rfl, rfl, rfl, rfl, rfl, rfl, rfl, rfl, rfl, trivial⟩ [0, 1, 2, 3, 4, 5, 6, 7, 8] (by decide) rfl) ?_
                            rintro ⟨x70, x71⟩ o2 hres hox2 aa ww hS
                            refine (?_ : JX Go.Proofs.Try.prog w [] 282 _ _ [(3, ptrAt (some ⟨g6, 0, none⟩) 0), (4, .slice a9 x8.1.length cp10), (5, .int .i64 x8.2), (14, ptrAt (some ⟨g36, 0, none⟩) 0), (15, .int .i64 x32.2), (16, .slice a39 x38.1.length cp40), (18, .slice a43 x42.1.length cp44), (20, .int .i64 x46.1), (29, .int .i64 x60), (30, .int .i64 x63.1), (31, .int .i64 x63.2), (32, .slice a67 x66.1.length cp68), (33, .int .i64 x66.2), (34, .bool x70), (35, .int .i64 x71)] [boxO 28 g6 [.int .i64 x2.W, .int .i64 x2.H, .slice a3 x2.Breaks.length cp4], rowT 2 eI64 a3 x2.Breaks.length cp4 x2.Breaks, rowT 61 eHd a9 x8.1.length cp10 hs12, innO 35 eSPoint none hs12 x8.1, boxO 28 g36 [.int .i64 x32.1.W, .int .i64 x32.1.H, .slice a33 x32.1.Breaks.length cp34], rowT 2 eI64 a33 x32.1.Breaks.length cp34 x32.1.Breaks, rowT 2 eI64 a39 x38.1.length cp40 x38.1, rowT 2 eI64 a43 x42.1.length cp44 x42.1, rowT 2 eI64 a67 x66.1.length cp68 x66.1] _) aa ww hS
                            clear hS
                            simp only [sh12_2] at hres
                            refine JX.seq ?_
                            refine JX.seq ?_
                            refine JX.region ?_
                            refine JL.val (yl_move rfl) rfl ?_
                            refine JL.val (yl_move rfl) rfl ?_
                            refine JL.val (yl_len_slice Go.Proofs.Try.underlying22 rfl) rfl ?_
                            refine JL.val (yl_lss rfl rfl) rfl ?_
                            refine JL.nil ?_
                            refine JE.weak (env' := [(3, ptrAt (some ⟨g6, 0, none⟩) 0), (4, .slice a9 x8.1.length cp10), (5, .int .i64 x8.2), (14, ptrAt (some ⟨g36, 0, none⟩) 0), (15, .int .i64 x32.2), (16, .slice a39 x38.1.length cp40), (18, .slice a43 x42.1.length cp44), (20, .int .i64 x46.1), (29, .int .i64 x60), (30, .int .i64 x63.1), (31, .int .i64 x63.2), (32, .slice a67 x66.1.length cp68), (33, .int .i64 x66.2), (34, .bool x70), (35, .int .i64 x71), (192, .bool (decide (x71 < (x66.1.length : Int))))]) (es' := [boxO 28 g6 [.int .i64 x2.W, .int .i64 x2.H, .slice a3 x2.Breaks.length cp4], rowT 2 eI64 a3 x2.Breaks.length cp4 x2.Breaks, rowT 61 eHd a9 x8.1.length cp10 hs12, innO 35 eSPoint none hs12 x8.1, boxO 28 g36 [.int .i64 x32.1.W, .int .i64 x32.1.H, .slice a33 x32.1.Breaks.length cp34], rowT 2 eI64 a33 x32.1.Breaks.length cp34 x32.1.Breaks, rowT 2 eI64 a39 x38.1.length cp40 x38.1, rowT 2 eI64 a43 x42.1.length cp44 x42.1, rowT 2 eI64 a67 x66.1.length cp68 x66.1]) [0, 1, 2, 3, 4, 5, 6, 7, 8] ?_ ⟨rfl, rfl, rfl, rfl, rfl, rfl, rfl, rfl, rfl, rfl, rfl, rfl, rfl, rfl, rfl, rfl, trivial⟩ (by decide) rfl
                            refine JE.code ?_
                            rcases cond_some hres with ⟨hb, hres⟩ | ⟨hb, hres⟩
                            · refine JX.condT rfl hb ?_
                              refine JX.skip ?_
                              refine JE.code ?_
                              refine JX.seq ?_
                              refine JX.block ?_
                              refine JX.region ?_
                              refine JL.val (yl_move rfl) rfl ?_
                              refine JL.val (yl_move rfl) rfl ?_
                              obtain ⟨cb72, hcb72, hres⟩ := bind_some hres
                              refine JL.cut (K := fun J => J [(3, ptrAt (some ⟨g6, 0, none⟩) 0), (4, .slice a9 x8.1.length cp10), (5, .int .i64 x8.2), (14, ptrAt (some ⟨g36, 0, none⟩) 0), (15, .int .i64 x32.2), (16, .slice a39 x38.1.length cp40), (18, .slice a43 x42.1.length cp44), (20, .int .i64 x46.1), (29, .int .i64 x60), (30, .int .i64 x63.1), (31, .int .i64 x63.2), (32, .slice a67 x66.1.length cp68), (33, .int .i64 x66.2), (35, .int .i64 x71), (203, .bool cb72)] [boxO 28 g6 [.int .i64 x2.W, .int .i64 x2.H, .slice a3 x2.Breaks.length cp4], rowT 2 eI64 a3 x2.Breaks.length cp4 x2.Breaks, rowT 61 eHd a9 x8.1.length cp10 hs12, innO 35 eSPoint none hs12 x8.1, boxO 28 g36 [.int .i64 x32.1.W, .int .i64 x32.1.H, .slice a33 x32.1.Breaks.length cp34], rowT 2 eI64 a33 x32.1.Breaks.length cp34 x32.1.Breaks, rowT 2 eI64 a39 x38.1.length cp40 x38.1, rowT 2 eI64 a43 x42.1.length cp44 x42.1, rowT 2 eI64 a67 x66.1.length cp68 x66.1]) 7 ?_ ?_
                              · refine JL.val (yl_assign rfl) rfl ?_
                                refine JL.nil ?_
                                refine JE.weak (env' := [(3, ptrAt (some ⟨g6, 0, none⟩) 0), (4, .slice a9 x8.1.length cp10), (5, .int .i64 x8.2), (14, ptrAt (some ⟨g36, 0, none⟩) 0), (15, .int .i64 x32.2), (16, .slice a39 x38.1.length cp40), (18, .slice a43 x42.1.length cp44), (20, .int .i64 x46.1), (29, .int .i64 x60), (30, .int .i64 x63.1), (31, .int .i64 x63.2), (32, .slice a67 x66.1.length cp68), (33, .int .i64 x66.2), (34, .bool cb72), (35, .int .i64 x71)]) (es' := [boxO 28 g6 [.int .i64 x2.W, .int .i64 x2.H, .slice a3 x2.Breaks.length cp4], rowT 2 eI64 a3 x2.Breaks.length cp4 x2.Breaks, rowT 61 eHd a9 x8.1.length cp10 hs12, innO 35 eSPoint none hs12 x8.1, boxO 28 g36 [.int .i64 x32.1.W, .int .i64 x32.1.H, .slice a33 x32.1.Breaks.length cp34], rowT 2 eI64 a33 x32.1.Breaks.length cp34 x32.1.Breaks, rowT 2 eI64 a39 x38.1.length cp40 x38.1, rowT 2 eI64 a43 x42.1.length cp44 x42.1, rowT 2 eI64 a67 x66.1.length cp68 x66.1]) [0, 1, 2, 3, 4, 5, 6, 7, 8] ?_ ⟨rfl, rfl, rfl, rfl, rfl, rfl, rfl, rfl, rfl, rfl, rfl, rfl, rfl, rfl, rfl, trivial⟩ (by decide) rfl
                                refine JE.code ?_
                                refine JX.region ?_
                                refine JL.val (yl_move rfl) rfl ?_
                                refine JL.val (yl_add rfl rfl) rfl ?_
                                refine JL.val (yl_assign rfl) rfl ?_
                                refine JL.nil ?_
                                refine JE.cont hres ?_
                                exact fun a w h => h.weak ⟨rfl, rfl, rfl, rfl, rfl, rfl, rfl, rfl, rfl, rfl, rfl, rfl, rfl, rfl, rfl, trivial⟩ [0, 1, 2, 3, 4, 5, 6, 7, 8] (by decide) rfl
                              · intro K
                                rcases cond_some hcb72 with ⟨hb, hres⟩ | ⟨hb, hres⟩
                                · refine JL.set (d := 196) (v := .bool true) (congrArg (fun b => some (Value.bool b)) hb) ?_
                                  refine JL.gskip rfl rfl rfl rfl ?_
                                  refine JL.gskip rfl rfl rfl rfl ?_
                                  refine JL.gskip rfl rfl rfl rfl ?_
                                  refine JL.gskip rfl rfl rfl rfl ?_
                                  refine JL.gskip rfl rfl rfl rfl ?_
                                  refine JL.gskip rfl rfl rfl rfl ?_
                                  refine JL.val (yl_pick_true rfl rfl) rfl ?_
                                  have he := Option.some.inj hres
                                  exact JL.weak [0, 1, 2, 3, 4, 5, 6, 7, 8] K ⟨rfl, rfl, rfl, rfl, rfl, rfl, rfl, rfl, rfl, rfl, rfl, rfl, rfl, rfl, (by rw [← he]; rfl), trivial⟩ (by decide) rfl
                                · refine JL.set (d := 196) (v := .bool false) (congrArg (fun b => some (Value.bool b)) hb) ?_
                                  refine JL.gval rfl rfl (yl_move rfl) rfl ?_
                                  refine JL.gval rfl rfl (yl_move rfl) rfl ?_
                                  obtain ⟨x73, hx73, hres⟩ := bind_some hres
                                  refine JL.gval rfl rfl (yl_idxT Go.Proofs.Try.underlying22 i2 i2s rfl rfl hx73 rfl (fun w hC => rd_row hC 8 rfl)) rfl ?_
                                  refine JL.gval rfl rfl (yl_loadT0 Go.Proofs.Try.underlying2 rfl rfl hx73 (fun w hC => rd_row hC 8 rfl) rfl) rfl ?_
                                  refine JL.gval rfl rfl (yl_move rfl) rfl ?_
                                  refine JL.gval rfl rfl (yl_eql rfl rfl) rfl ?_
                                  refine JL.val (yl_pick_false rfl rfl) rfl ?_
                                  have he := Option.some.inj hres
                                  exact JL.weak [0, 1, 2, 3, 4, 5, 6, 7, 8] K ⟨rfl, rfl, rfl, rfl, rfl, rfl, rfl, rfl, rfl, rfl, rfl, rfl, rfl, rfl, (by rw [← he]; rfl), trivial⟩ (by decide) rfl
                            · refine JX.condF rfl hb ?_
                              refine JX.exit ?_
                              refine JE.qb rfl ?_
                              obtain ⟨b2, hb2⟩ : ∃ b : Bool, b = x70 := ⟨_, rfl⟩
                              have hy2 : b2 = y2 := by rw [hb2]; exact hox2 _ (Option.some.inj hres).symm
                              have hres := hresO2
                              rw [← hy2] at hres
                              refine JE.weak (env' := [(3, ptrAt (some ⟨g6, 0, none⟩) 0), (4, .slice a9 x8.1.length cp10), (5, .int .i64 x8.2), (14, ptrAt (some ⟨g36, 0, none⟩) 0), (15, .int .i64 x32.2), (16, .slice a39 x38.1.length cp40), (18, .slice a43 x42.1.length cp44), (20, .int .i64 x46.1), (29, .int .i64 x60), (30, .int .i64 x63.1), (31, .int .i64 x63.2), (33, .int .i64 x66.2), (34, .bool b2)]) (es' := [boxO 28 g6 [.int .i64 x2.W, .int .i64 x2.H, .slice a3 x2.Breaks.length cp4], rowT 2 eI64 a3 x2.Breaks.length cp4 x2.Breaks, rowT 61 eHd a9 x8.1.length cp10 hs12, innO 35 eSPoint none hs12 x8.1, boxO 28 g36 [.int .i64 x32.1.W, .int .i64 x32.1.H, .slice a33 x32.1.Breaks.length cp34], rowT 2 eI64 a33 x32.1.Breaks.length cp34 x32.1.Breaks, rowT 2 eI64 a39 x38.1.length cp40 x38.1, rowT 2 eI64 a43 x42.1.length cp44 x42.1]) [0, 1, 2, 3, 4, 5, 6, 7] ?_ ⟨(by subst hb2; rfl), (by subst hb2; rfl), (by subst hb2; rfl), (by subst hb2; rfl), (by subst hb2; rfl), (by subst hb2; rfl), (by subst hb2; rfl), (by subst hb2; rfl), (by subst hb2; rfl), (by subst hb2; rfl), (by subst hb2; rfl), (by subst hb2; rfl), (by subst hb2; rfl), trivial⟩ (by decide) (by subst hb2; rfl)
                              refine JE.code ?_
                              refine JX.seq ?_
                              refine JX.region ?_
                              refine JL.val (yl_move rfl) rfl ?_
                              refine JL.val (yl_neq rfl rfl) rfl ?_
                              refine JL.val (yl_move rfl) rfl ?_
                              refine JL.cut (K := fun J => J [(3, ptrAt (some ⟨g6, 0, none⟩) 0), (4, .slice a9 x8.1.length cp10), (5, .int .i64 x8.2), (14, ptrAt (some ⟨g36, 0, none⟩) 0), (15, .int .i64 x32.2), (16, .slice a39 x38.1.length cp40), (18, .slice a43 x42.1.length cp44), (20, .int .i64 x46.1), (29, .int .i64 x60), (33, .int .i64 x66.2), (34, .bool b2), (211, .bool ((x63.2 != 0) || (x63.1 != (w64 (1 - x46.1)))))] [boxO 28 g6 [.int .i64 x2.W, .int .i64 x2.H, .slice a3 x2.Breaks.length cp4], rowT 2 eI64 a3 x2.Breaks.length cp4 x2.Breaks, rowT 61 eHd a9 x8.1.length cp10 hs12, innO 35 eSPoint none hs12 x8.1, boxO 28 g36 [.int .i64 x32.1.W, .int .i64 x32.1.H, .slice a33 x32.1.Breaks.length cp34], rowT 2 eI64 a33 x32.1.Breaks.length cp34 x32.1.Breaks, rowT 2 eI64 a39 x38.1.length cp40 x38.1, rowT 2 eI64 a43 x42.1.length cp44 x42.1]) 5 ?_ ?_
                              · refine JL.val (yl_move rfl) rfl ?_
                                refine JL.cut (K := fun J => J [(3, ptrAt (some ⟨g6, 0, none⟩) 0), (4, .slice a9 x8.1.length cp10), (5, .int .i64 x8.2), (14, ptrAt (some ⟨g36, 0, none⟩) 0), (15, .int .i64 x32.2), (16, .slice a39 x38.1.length cp40), (18, .slice a43 x42.1.length cp44), (20, .int .i64 x46.1), (29, .int .i64 x60), (34, .bool b2), (215, .bool (((x63.2 != 0) || (x63.1 != (w64 (1 - x46.1)))) || (x66.2 != 0)))] [boxO 28 g6 [.int .i64 x2.W, .int .i64 x2.H, .slice a3 x2.Breaks.length cp4], rowT 2 eI64 a3 x2.Breaks.length cp4 x2.Breaks, rowT 61 eHd a9 x8.1.length cp10 hs12, innO 35 eSPoint none hs12 x8.1, boxO 28 g36 [.int .i64 x32.1.W, .int .i64 x32.1.H, .slice a33 x32.1.Breaks.length cp34], rowT 2 eI64 a33 x32.1.Breaks.length cp34 x32.1.Breaks, rowT 2 eI64 a39 x38.1.length cp40 x38.1, rowT 2 eI64 a43 x42.1.length cp44 x42.1]) 3 ?_ ?_
                                · refine JL.val (yl_move rfl) rfl ?_
                                  refine JL.cut (K := fun J => J [(3, ptrAt (some ⟨g6, 0, none⟩) 0), (4, .slice a9 x8.1.length cp10), (5, .int .i64 x8.2), (14, ptrAt (some ⟨g36, 0, none⟩) 0), (15, .int .i64 x32.2), (16, .slice a39 x38.1.length cp40), (18, .slice a43 x42.1.length cp44), (20, .int .i64 x46.1), (29, .int .i64 x60), (219, .bool ((((x63.2 != 0) || (x63.1 != (w64 (1 - x46.1)))) || (x66.2 != 0)) || !b2))] [boxO 28 g6 [.int .i64 x2.W, .int .i64 x2.H, .slice a3 x2.Breaks.length cp4], rowT 2 eI64 a3 x2.Breaks.length cp4 x2.Breaks, rowT 61 eHd a9 x8.1.length cp10 hs12, innO 35 eSPoint none hs12 x8.1, boxO 28 g36 [.int .i64 x32.1.W, .int .i64 x32.1.H, .slice a33 x32.1.Breaks.length cp34], rowT 2 eI64 a33 x32.1.Breaks.length cp34 x32.1.Breaks, rowT 2 eI64 a39 x38.1.length cp40 x38.1, rowT 2 eI64 a43 x42.1.length cp44 x42.1]) 3 ?_ ?_
                                  · refine JL.nil ?_
                                    refine JE.weak (env' := [(3, ptrAt (some ⟨g6, 0, none⟩) 0), (4, .slice a9 x8.1.length cp10), (5, .int .i64 x8.2), (14, ptrAt (some ⟨g36, 0, none⟩) 0), (15, .int .i64 x32.2), (16, .slice a39 x38.1.length cp40), (18, .slice a43 x42.1.length cp44), (20, .int .i64 x46.1), (29, .int .i64 x60), (219, .bool ((((x63.2 != 0) || (x63.1 != (w64 (1 - x46.1)))) || (x66.2 != 0)) || !b2))]) (es' := [boxO 28 g6 [.int .i64 x2.W, .int .i64 x2.H, .slice a3 x2.Breaks.length cp4], rowT 2 eI64 a3 x2.Breaks.length cp4 x2.Breaks, rowT 61 eHd a9 x8.1.length cp10 hs12, innO 35 eSPoint none hs12 x8.1, boxO 28 g36 [.int .i64 x32.1.W, .int .i64 x32.1.H, .slice a33 x32.1.Breaks.length cp34], rowT 2 eI64 a33 x32.1.Breaks.length cp34 x32.1.Breaks, rowT 2 eI64 a39 x38.1.length cp40 x38.1, rowT 2 eI64 a43 x42.1.length cp44 x42.1]) [0, 1, 2, 3, 4, 5, 6, 7] ?_ ⟨rfl, rfl, rfl, rfl, rfl, rfl, rfl, rfl, rfl, rfl, trivial⟩ (by decide) rfl
                                    refine JE.code ?_
                                    rcases cond_some hres with ⟨hb, hres⟩ | ⟨hb, hres⟩
                                    · refine JX.condT rfl hb ?_
                                      refine JX.seq ?_
                                      refine JX.region ?_
                                      refine JL.val (yl_assign rfl) rfl ?_
                                      refine JL.nil ?_
                                      refine JE.weak (env' := [(2, .bool false)]) (es' := []) [] ?_ ⟨rfl, trivial⟩ (by decide) rfl
                                      refine JE.code ?_
                                      refine JX.ret ?_
                                      refine JE.qbr ?_
                                      refine JE.qbr ?_
                                      have hres := elimS_inr hresO1 (hox1 _ (Option.some.inj hres).symm)
                                      obtain rfl := Option.some.inj hres
                                      refine JE.ret (rs := [.tmp 2]) (vs := [.bool false]) rfl ⟨rfl, trivial⟩ ?_
                                      exact fun w' hb hs => ⟨_, _, ⟨rfl, rfl⟩, rfl, hb, hs.sel [] _ (by decide) rfl⟩
                                    · refine JX.condF rfl hb ?_
                                      refine JX.skip ?_
                                      refine JE.code ?_
                                      refine JX.region ?_
                                      refine JL.val (yl_move rfl) rfl ?_
                                      refine JL.val (yl_add rfl rfl) rfl ?_
                                      refine JL.val (yl_assign rfl) rfl ?_
                                      refine JL.nil ?_
                                      refine JE.cont hres ?_
                                      exact fun a w h => h.weak ⟨rfl, rfl, rfl, rfl, rfl, rfl, rfl, rfl, rfl, trivial⟩ [0, 1, 2, 3, 4, 5, 6, 7] (by decide) rfl
                                  · intro K
                                    rcases Bool.eq_false_or_eq_true (((x63.2 != 0) || (x63.1 != (w64 (1 - x46.1)))) || (x66.2 != 0)) with hb | hb
                                    · refine JL.set (d := 216) (v := .bool true) (congrArg (fun b => some (Value.bool b)) hb) ?_
                                      refine JL.gskip rfl rfl rfl rfl ?_
                                      refine JL.gskip rfl rfl rfl rfl ?_
                                      refine JL.val (yl_pick_true rfl rfl) rfl ?_
                                      exact JL.weak [0, 1, 2, 3, 4, 5, 6, 7] K ⟨rfl, rfl, rfl, rfl, rfl, rfl, rfl, rfl, rfl, (by rw [hb]; rfl), trivial⟩ (by decide) rfl
                                    · refine JL.set (d := 216) (v := .bool false) (congrArg (fun b => some (Value.bool b)) hb) ?_
                                      refine JL.gval rfl rfl (yl_move rfl) rfl ?_
                                      refine JL.gval rfl rfl (yl_not rfl) rfl ?_
                                      refine JL.val (yl_pick_false rfl rfl) rfl ?_
                                      exact JL.weak [0, 1, 2, 3, 4, 5, 6, 7] K ⟨rfl, rfl, rfl, rfl, rfl, rfl, rfl, rfl, rfl, (by rw [hb]; rfl), trivial⟩ (by decide) rfl
                                · intro K
                                  rcases Bool.eq_false_or_eq_true ((x63.2 != 0) || (x63.1 != (w64 (1 - x46.1)))) with hb | hb
                                  · refine JL.set (d := 212) (v := .bool true) (congrArg (fun b => some (Value.bool b)) hb) ?_
                                    refine JL.gskip rfl rfl rfl rfl ?_
                                    refine JL.gskip rfl rfl rfl rfl ?_
                                    refine JL.val (yl_pick_true rfl rfl) rfl ?_
                                    exact JL.weak [0, 1, 2, 3, 4, 5, 6, 7] K ⟨rfl, rfl, rfl, rfl, rfl, rfl, rfl, rfl, rfl, rfl, (by rw [hb]; rfl), trivial⟩ (by decide) rfl
                                  · refine JL.set (d := 212) (v := .bool false) (congrArg (fun b => some (Value.bool b)) hb) ?_
                                    refine JL.gval rfl rfl (yl_move rfl) rfl ?_
                                    refine JL.gval rfl rfl (yl_neq rfl rfl) rfl ?_
                                    refine JL.val (yl_pick_false rfl rfl) rfl ?_
                                    exact JL.weak [0, 1, 2, 3, 4, 5, 6, 7] K ⟨rfl, rfl, rfl, rfl, rfl, rfl, rfl, rfl, rfl, rfl, (by rw [hb]; rfl), trivial⟩ (by decide) rfl
                              · intro K
                                rcases Bool.eq_false_or_eq_true (x63.2 != 0) with hb | hb
                                · refine JL.set (d := 206) (v := .bool true) (congrArg (fun b => some (Value.bool b)) hb) ?_
                                  refine JL.gskip rfl rfl rfl rfl ?_
                                  refine JL.gskip rfl rfl rfl rfl ?_
                                  refine JL.gskip rfl rfl rfl rfl ?_
                                  refine JL.gskip rfl rfl rfl rfl ?_
                                  refine JL.val (yl_pick_true rfl rfl) rfl ?_
                                  exact JL.weak [0, 1, 2, 3, 4, 5, 6, 7] K ⟨rfl, rfl, rfl, rfl, rfl, rfl, rfl, rfl, rfl, rfl, rfl, (by rw [hb]; rfl), trivial⟩ (by decide) rfl
                                · refine JL.set (d := 206) (v := .bool false) (congrArg (fun b => some (Value.bool b)) hb) ?_
                                  refine JL.gval rfl rfl (yl_move rfl) rfl ?_
                                  refine JL.gval rfl rfl (yl_move rfl) rfl ?_
                                  refine JL.gval rfl rfl (yl_sub rfl rfl) rfl ?_
                                  refine JL.gval rfl rfl (yl_neq rfl rfl) rfl ?_
                                  refine JL.val (yl_pick_false rfl rfl) rfl ?_
                                  exact JL.weak [0, 1, 2, 3, 4, 5, 6, 7] K ⟨rfl, rfl, rfl, rfl, rfl, rfl, rfl, rfl, rfl, rfl, rfl, (by rw [hb]; rfl), trivial⟩ (by decide) rfl
                          · refine JX.condF rfl hb ?_
                            refine JX.exit ?_
                            refine JE.qb rfl ?_
                            obtain ⟨b1, hb1⟩ : ∃ b : Unit, b = () := ⟨_, rfl⟩
                            have hy1 : Sum.inl b1 = y1 := by rw [hb1]; exact hox1 _ (Option.some.inj hres).symm
                            have hres := elimS_inl hresO1 hy1
                            refine JE.weak (env' := [(3, ptrAt (some ⟨g6, 0, none⟩) 0), (4, .slice a9 x8.1.length cp10), (5, .int .i64 x8.2)]) (es' := [boxO 28 g6 [.int .i64 x2.W, .int .i64 x2.H, .slice a3 x2.Breaks.length cp4], rowT 2 eI64 a3 x2.Breaks.length cp4 x2.Breaks, rowT 61 eHd a9 x8.1.length cp10 hs12, innO 35 eSPoint none hs12 x8.1]) [0, 1, 2, 3] ?_ ⟨(by subst hb1; rfl), (by subst hb1; rfl), (by subst hb1; rfl), trivial⟩ (by decide) (by subst hb1; rfl)
                            refine JE.code ?_
                            refine JX.seq ?_
                            refine JX.seq ?_
                            refine JX.region ?_
                            refine JL.val (yl_move rfl) rfl ?_
                            refine JL.val (yl_neq rfl rfl) rfl ?_
                            refine JL.nil ?_
                            refine JE.code ?_
                            rcases cond_some hres with ⟨hb, hres⟩ | ⟨hb, hres⟩
                            · refine JX.condT rfl hb ?_
                              refine JX.seq ?_
                              refine JX.region ?_
                              refine JL.val (yl_assign rfl) rfl ?_
                              refine JL.nil ?_
                              refine JE.weak (env' := [(2, .bool true)]) (es' := []) [] ?_ ⟨rfl, trivial⟩ (by decide) rfl
                              refine JE.code ?_
                              refine JX.ret ?_
                              obtain rfl := Option.some.inj hres
                              refine JE.ret (rs := [.tmp 2]) (vs := [.bool true]) rfl ⟨rfl, trivial⟩ ?_
                              exact fun w' hb hs => ⟨_, _, ⟨rfl, rfl⟩, rfl, hb, hs.sel [] _ (by decide) rfl⟩
                            · refine JX.condF rfl hb ?_
                              refine JX.skip ?_
                              refine JE.code ?_
                              refine JX.seq ?_
                              refine JX.region ?_
                              refine JL.val (yl_assign rfl) rfl ?_
                              refine JL.nil ?_
                              refine JE.code ?_
                              refine JX.seq ?_
                              refine JX.seq ?_
                              refine JX.region ?_
                              refine JL.val (yl_assign rfl) rfl ?_
                              refine JL.nil ?_
                              refine JE.code ?_
                              refine JX.block ?_
                              obtain ⟨y3, hy3, hresO3⟩ := bind_some hres
                              refine JX.loop (I := fun (s3 : Int × Int) aa ww => St w [] 282 [(3, ptrAt (some ⟨g6, 0, none⟩) 0), (4, .slice a9 x8.1.length cp10), (36, .int .i64 s3.1), (37, .int .i64 s3.2)] [boxO 28 g6 [.int .i64 x2.W, .int .i64 x2.H, .slice a3 x2.Breaks.length cp4], rowT 2 eI64 a3 x2.Breaks.length cp4 x2.Breaks, rowT 61 eHd a9 x8.1.length cp10 hs12, innO 35 eSPoint none hs12 x8.1] aa ww) (sh12_3 x8) hy3 (fun a w h => h.weak ⟨rfl, rfl, rfl, rfl, trivial⟩ [0, 1, 2, 3] (by decide) rfl) ?_
                              rintro ⟨x74, x75⟩ o3 hres hox3 aa ww hS
                              refine (?_ : JX Go.Proofs.Try.prog w [] 282 _ _ [(3, ptrAt (some ⟨g6, 0, none⟩) 0), (4, .slice a9 x8.1.length cp10), (36, .int .i64 x74), (37, .int .i64 x75)] [boxO 28 g6 [.int .i64 x2.W, .int .i64 x2.H, .slice a3 x2.Breaks.length cp4], rowT 2 eI64 a3 x2.Breaks.length cp4 x2.Breaks, rowT 61 eHd a9 x8.1.length cp10 hs12, innO 35 eSPoint none hs12 x8.1] _) aa ww hS
                              clear hS
                              simp only [sh12_3] at hres
                              refine JX.seq ?_
                              refine JX.seq ?_
                              refine JX.region ?_
                              refine JL.val (yl_move rfl) rfl ?_
                              refine JL.val (yl_move rfl) rfl ?_
                              refine JL.val (yl_len_slice Go.Proofs.Try.underlying40 rfl) rfl ?_
                              refine JL.val (yl_lss rfl rfl) rfl ?_
                              refine JL.nil ?_
                              refine JE.weak (env' := [(3, ptrAt (some ⟨g6, 0, none⟩) 0), (4, .slice a9 x8.1.length cp10), (36, .int .i64 x74), (37, .int .i64 x75), (225, .bool (decide (x75 < ((x8.1.length : Nat) : Int))))]) (es' := [boxO 28 g6 [.int .i64 x2.W, .int .i64 x2.H, .slice a3 x2.Breaks.length cp4], rowT 2 eI64 a3 x2.Breaks.length cp4 x2.Breaks, rowT 61 eHd a9 x8.1.length cp10 hs12, innO 35 eSPoint none hs12 x8.1]) [0, 1, 2, 3] ?_ ⟨rfl, rfl, rfl, rfl, rfl, trivial⟩ (by decide) rfl
                              refine JE.code ?_
                              rcases cond_some hres with ⟨hb, hres⟩ | ⟨hb, hres⟩
                              · refine JX.condT rfl hb ?_
                                refine JX.skip ?_
                                refine JE.code ?_
                                refine JX.seq ?_
                                refine JX.block ?_
                                refine JX.region ?_
                                refine JL.val (yl_move rfl) rfl ?_
                                refine JL.val (yl_move rfl) rfl ?_
                                refine JL.val (yl_move rfl) rfl ?_
                                obtain ⟨x76, hx76, hres⟩ := bind_some hres
                                obtain ⟨ha77, hc78, hhx76⟩ := Inn.sub hi13 hx76
                                refine JL.val (yl_idxT Go.Proofs.Try.underlying40 i61 i61s rfl rfl hhx76 (Inn.len hi13) (fun w hC => rd_row hC 2 rfl)) rfl ?_
                                refine JL.val (yl_loadT0 (z := ⟨ha77, x76.length, hc78⟩) Go.Proofs.Try.underlying61 rfl rfl hhx76 (fun w hC => rd_row hC 2 rfl) rfl) rfl ?_
                                refine JL.val (yl_len_slice Go.Proofs.Try.underlying61 rfl) rfl ?_
                                refine JL.val (yl_add rfl rfl) rfl ?_
                                refine JL.val (yl_assign rfl) rfl ?_
                                refine JL.nil ?_
                                refine JE.weak (env' := [(3, ptrAt (some ⟨g6, 0, none⟩) 0), (4, .slice a9 x8.1.length cp10), (36, .int .i64 (w64 (x74 + (x76.length : Int)))), (37, .int .i64 x75)]) (es' := [boxO 28 g6 [.int .i64 x2.W, .int .i64 x2.H, .slice a3 x2.Breaks.length cp4], rowT 2 eI64 a3 x2.Breaks.length cp4 x2.Breaks, rowT 61 eHd a9 x8.1.length cp10 hs12, innO 35 eSPoint none hs12 x8.1]) [0, 1, 2, 3] ?_ ⟨rfl, rfl, rfl, rfl, trivial⟩ (by decide) rfl
                                refine JE.code ?_
                                refine JX.region ?_
                                refine JL.val (yl_move rfl) rfl ?_
                                refine JL.val (yl_add rfl rfl) rfl ?_
                                refine JL.val (yl_assign rfl) rfl ?_
                                refine JL.nil ?_
                                refine JE.cont hres ?_
                                exact fun a w h => h.weak ⟨rfl, rfl, rfl, rfl, trivial⟩ [0, 1, 2, 3] (by decide) rfl
                              · refine JX.condF rfl hb ?_
                                refine JX.exit ?_
                                refine JE.qb rfl ?_
                                obtain ⟨b3, hb3⟩ : ∃ b : Int, b = x74 := ⟨_, rfl⟩
                                have hy3 : b3 = y3 := by rw [hb3]; exact hox3 _ (Option.some.inj hres).symm
                                have hres := hresO3
                                rw [← hy3] at hres
                                refine JE.weak (env' := [(3, ptrAt (some ⟨g6, 0, none⟩) 0), (4, .slice a9 x8.1.length cp10), (36, .int .i64 b3)]) (es' := [boxO 28 g6 [.int .i64 x2.W, .int .i64 x2.H, .slice a3 x2.Breaks.length cp4], rowT 2 eI64 a3 x2.Breaks.length cp4 x2.Breaks, rowT 61 eHd a9 x8.1.length cp10 hs12, innO 35 eSPoint none hs12 x8.1]) [0, 1, 2, 3] ?_ ⟨(by subst hb3; rfl), (by subst hb3; rfl), (by subst hb3; rfl), trivial⟩ (by decide) (by subst hb3; rfl)
                                refine JE.code ?_
                                refine JX.seq ?_
                                refine JX.region ?_
                                refine JL.val (yl_assign rfl) rfl ?_
                                refine JL.nil ?_
                                refine JE.code ?_
                                refine JX.seq ?_
                                refine JX.seq ?_
                                refine JX.region ?_
                                refine JL.val (yl_assign rfl) rfl ?_
                                refine JL.nil ?_
                                refine JE.code ?_
                                refine JX.block ?_
                                obtain ⟨y4, hy4, hresO4⟩ := bind_some hres
                                refine JX.loop (I := fun (s4 : Int × Int) aa ww => St w [] 282 [(3, ptrAt (some ⟨g6, 0, none⟩) 0), (4, .slice a9 x8.1.length cp10), (36, .int .i64 b3), (38, .int .i64 s4.1), (39, .int .i64 s4.2)] [boxO 28 g6 [.int .i64 x2.W, .int .i64 x2.H, .slice a3 x2.Breaks.length cp4], rowT 2 eI64 a3 x2.Breaks.length cp4 x2.Breaks, rowT 61 eHd a9 x8.1.length cp10 hs12, innO 35 eSPoint none hs12 x8.1] aa ww) (sh12_4 x2) hy4 (fun a w h => h.weak ⟨rfl, rfl, rfl, rfl, rfl, trivial⟩ [0, 1, 2, 3] (by decide) rfl) ?_
                                rintro ⟨x80, x81⟩ o4 hres hox4 aa ww hS
                                refine (?_ : JX Go.Proofs.Try.prog w [] 282 _ _ [(3, ptrAt (some ⟨g6, 0, none⟩) 0), (4, .slice a9 x8.1.length cp10), (36, .int .i64 b3), (38, .int .i64 x80), (39, .int .i64 x81)] [boxO 28 g6 [.int .i64 x2.W, .int .i64 x2.H, .slice a3 x2.Breaks.length cp4], rowT 2 eI64 a3 x2.Breaks.length cp4 x2.Breaks, rowT 61 eHd a9 x8.1.length cp10 hs12, innO 35 eSPoint none hs12 x8.1] _) aa ww hS
                                clear hS
                                simp only [sh12_4] at hres
                                refine JX.seq ?_
                                refine JX.seq ?_
                                refine JX.region ?_
                                refine JL.val (yl_move rfl) rfl ?_
                                refine JL.val (yl_fieldAt (a := some _) Go.Proofs.Try.underlying28 rfl i22 i22n rfl rfl) rfl ?_
                                refine JL.val (yl_load1 Go.Proofs.Try.underlying22 rfl rfl (fun w hC => rd_box hC 0 rfl) rfl) rfl ?_
                                refine JL.val (yl_len_slice Go.Proofs.Try.underlying22 rfl) rfl ?_
                                refine JL.val (yl_lss rfl rfl) rfl ?_
                                refine JL.nil ?_
                                refine JE.weak (env' := [(3, ptrAt (some ⟨g6, 0, none⟩) 0), (4, .slice a9 x8.1.length cp10), (36, .int .i64 b3), (38, .int .i64 x80), (39, .int .i64 x81), (239, .bool (decide (x81 < (x2.Breaks.length : Int))))]) (es' := [boxO 28 g6 [.int .i64 x2.W, .int .i64 x2.H, .slice a3 x2.Breaks.length cp4], rowT 2 eI64 a3 x2.Breaks.length cp4 x2.Breaks, rowT 61 eHd a9 x8.1.length cp10 hs12, innO 35 eSPoint none hs12 x8.1]) [0, 1, 2, 3] ?_ ⟨rfl, rfl, rfl, rfl, rfl, rfl, trivial⟩ (by decide) rfl
                                refine JE.code ?_
                                rcases cond_some hres with ⟨hb, hres⟩ | ⟨hb, hres⟩
                                · refine JX.condT rfl hb ?_
                                  refine JX.skip ?_
                                  refine JE.code ?_
                                  refine JX.seq ?_
                                  refine JX.block ?_
                                  refine JX.seq ?_
                                  refine JX.region ?_
                                  refine JL.val (yl_fieldAt (a := some _) Go.Proofs.Try.underlying28 rfl i22 i22n rfl rfl) rfl ?_
                                  refine JL.val (yl_load1 Go.Proofs.Try.underlying22 rfl rfl (fun w hC => rd_box hC 0 rfl) rfl) rfl ?_
                                  refine JL.val (yl_move rfl) rfl ?_
                                  obtain ⟨x82, hx82, hres⟩ := bind_some hres
                                  refine JL.val (yl_idxT Go.Proofs.Try.underlying22 i2 i2s rfl rfl hx82 rfl (fun w hC => rd_row hC 1 rfl)) rfl ?_
                                  refine JL.val (yl_loadT0 Go.Proofs.Try.underlying2 rfl rfl hx82 (fun w hC => rd_row hC 1 rfl) rfl) rfl ?_
                                  refine JL.val (yl_neq rfl rfl) rfl ?_
                                  refine JL.nil ?_
                                  refine JE.weak (env' := [(3, ptrAt (some ⟨g6, 0, none⟩) 0), (4, .slice a9 x8.1.length cp10), (36, .int .i64 b3), (38, .int .i64 x80), (39, .int .i64 x81), (247, .bool (x82 != 0))]) (es' := [boxO 28 g6 [.int .i64 x2.W, .int .i64 x2.H, .slice a3 x2.Breaks.length cp4], rowT 2 eI64 a3 x2.Breaks.length cp4 x2.Breaks, rowT 61 eHd a9 x8.1.length cp10 hs12, innO 35 eSPoint none hs12 x8.1]) [0, 1, 2, 3] ?_ ⟨rfl, rfl, rfl, rfl, rfl, rfl, trivial⟩ (by decide) rfl
                                  refine JE.code ?_
                                  obtain ⟨j83, hj83, hresj83⟩ := bind_some hres
                                  refine JX.cut (K := fun J => J [(3, ptrAt (some ⟨g6, 0, none⟩) 0), (4, .slice a9 x8.1.length cp10), (36, .int .i64 b3), (38, .int .i64 j83), (39, .int .i64 x81)] [boxO 28 g6 [.int .i64 x2.W, .int .i64 x2.H, .slice a3 x2.Breaks.length cp4], rowT 2 eI64 a3 x2.Breaks.length cp4 x2.Breaks, rowT 61 eHd a9 x8.1.length cp10 hs12, innO 35 eSPoint none hs12 x8.1]) ?_ ?_
                                  · have hres := hresj83
                                    refine JE.code ?_
                                    refine JX.region ?_
                                    refine JL.val (yl_move rfl) rfl ?_
                                    refine JL.val (yl_add rfl rfl) rfl ?_
                                    refine JL.val (yl_assign rfl) rfl ?_
                                    refine JL.nil ?_
                                    refine JE.cont hres ?_
                                    exact fun a w h => h.weak ⟨rfl, rfl, rfl, rfl, rfl, trivial⟩ [0, 1, 2, 3] (by decide) rfl
                                  · intro K
                                    rcases cond_some hj83 with ⟨hb, hres⟩ | ⟨hb, hres⟩
                                    · refine JX.condT rfl hb ?_
                                      refine JX.region ?_
                                      refine JL.val (yl_move rfl) rfl ?_
                                      refine JL.val (yl_add rfl rfl) rfl ?_
                                      refine JL.val (yl_assign rfl) rfl ?_
                                      refine JL.nil ?_
                                      have hj := Option.some.inj hres
                                      exact JE.weak [0, 1, 2, 3] (K) ⟨(by subst hj; rfl), (by subst hj; rfl), (by subst hj; rfl), (by subst hj; rfl), (by subst hj; rfl), trivial⟩ (by decide) (by subst hj; rfl)
                                    · refine JX.condF rfl hb ?_
                                      refine JX.skip ?_
                                      have hj := Option.some.inj hres
                                      exact JE.weak [0, 1, 2, 3] (K) ⟨(by subst hj; rfl), (by subst hj; rfl), (by subst hj; rfl), (by subst hj; rfl), (by subst hj; rfl), trivial⟩ (by decide) (by subst hj; rfl)
                                · refine JX.condF rfl hb ?_
                                  refine JX.exit ?_
                                  refine JE.qb rfl ?_
                                  obtain ⟨b4, hb4⟩ : ∃ b : Int, b = x80 := ⟨_, rfl⟩
                                  have hy4 : b4 = y4 := by rw [hb4]; exact hox4 _ (Option.some.inj hres).symm
                                  have hres := hresO4
                                  rw [← hy4] at hres
                                  refine JE.weak (env' := [(3, ptrAt (some ⟨g6, 0, none⟩) 0), (4, .slice a9 x8.1.length cp10), (36, .int .i64 b3), (38, .int .i64 b4)]) (es' := [boxO 28 g6 [.int .i64 x2.W, .int .i64 x2.H, .slice a3 x2.Breaks.length cp4], rowT 2 eI64 a3 x2.Breaks.length cp4 x2.Breaks, rowT 61 eHd a9 x8.1.length cp10 hs12, innO 35 eSPoint none hs12 x8.1]) [0, 1, 2, 3] ?_ ⟨(by subst hb4; rfl), (by subst hb4; rfl), (by subst hb4; rfl), (by subst hb4; rfl), trivial⟩ (by decide) (by subst hb4; rfl)
                                  refine JE.code ?_
                                  refine JX.seq ?_
                                  refine JX.region ?_
                                  refine JL.val (yl_fieldAt (a := some _) Go.Proofs.Try.underlying28 rfl i2 i2n rfl rfl) rfl ?_
                                  refine JL.val (yl_load1 Go.Proofs.Try.underlying2 rfl rfl (fun w hC => rd_box hC 0 rfl) rfl) rfl ?_
                                  refine JL.val (yl_mul rfl rfl) rfl ?_
                                  refine JL.val (yl_add rfl rfl) rfl ?_
                                  refine JL.val (yl_fieldAt (a := some _) Go.Proofs.Try.underlying28 rfl i2 i2n rfl rfl) rfl ?_
                                  refine JL.val (yl_load1 Go.Proofs.Try.underlying2 rfl rfl (fun w hC => rd_box hC 0 rfl) rfl) rfl ?_
                                  refine JL.val (yl_mul rfl rfl) rfl ?_
                                  refine JL.val (yl_add rfl rfl) rfl ?_
                                  refine JL.val (yl_mul rfl rfl) rfl ?_
                                  refine JL.val (yl_add rfl rfl) rfl ?_
                                  refine JL.val (yl_quo rfl rfl (by decide)) rfl ?_
                                  refine JL.val (yl_assign rfl) rfl ?_
                                  refine JL.nil ?_
                                  refine JE.weak (env' := [(4, .slice a9 x8.1.length cp10), (36, .int .i64 b3), (38, .int .i64 b4), (40, .int .i64 (w64 ((w64 ((w64 ((w64 ((w64 (2 * x2.W)) + 1)) * (w64 ((w64 (2 * x2.H)) + 1)))) + 1)).tdiv 2)))]) (es' := [rowT 61 eHd a9 x8.1.length cp10 hs12, innO 35 eSPoint none hs12 x8.1]) [2, 3] ?_ ⟨rfl, rfl, rfl, rfl, trivial⟩ (by decide) rfl
                                  refine JE.code ?_
                                  refine JX.seq ?_
                                  refine JX.region ?_
                                  refine JL.val (yl_move rfl) rfl ?_
                                  refine JL.val (yl_move rfl) rfl ?_
                                  refine JL.val (yl_eql rfl rfl) rfl ?_
                                  refine JL.val (yl_move rfl) rfl ?_
                                  refine JL.cut (K := fun J => J [(4, .slice a9 x8.1.length cp10), (38, .int .i64 b4), (40, .int .i64 (w64 ((w64 ((w64 ((w64 ((w64 (2 * x2.W)) + 1)) * (w64 ((w64 (2 * x2.H)) + 1)))) + 1)).tdiv 2))), (271, .bool ((b3 == (w64 ((w64 ((w64 ((w64 ((w64 (2 * x2.W)) + 1)) * (w64 ((w64 (2 * x2.H)) + 1)))) + 1)).tdiv 2))) && (decide ((w64 ((w64 ((w64 ((w64 ((w64 ((w64 (2 * x2.W)) + 1)) * (w64 ((w64 (2 * x2.H)) + 1)))) + 1)).tdiv 2)) - b4)) ≤ ((x8.1.length : Nat) : Int)))))] [rowT 61 eHd a9 x8.1.length cp10 hs12, innO 35 eSPoint none hs12 x8.1]) 7 ?_ ?_
                                  · refine JL.val (yl_move rfl) rfl ?_
                                    refine JL.cut (K := fun J => J [(281, .bool (((b3 == (w64 ((w64 ((w64 ((w64 ((w64 (2 * x2.W)) + 1)) * (w64 ((w64 (2 * x2.H)) + 1)))) + 1)).tdiv 2))) && (decide ((w64 ((w64 ((w64 ((w64 ((w64 ((w64 (2 * x2.W)) + 1)) * (w64 ((w64 (2 * x2.H)) + 1)))) + 1)).tdiv 2)) - b4)) ≤ ((x8.1.length : Nat) : Int)))) && ((decide (0 < b4)) || (((x8.1.length : Nat) : Int) == (w64 ((w64 ((w64 ((w64 ((w64 (2 * x2.W)) + 1)) * (w64 ((w64 (2 * x2.H)) + 1)))) + 1)).tdiv 2))))))] []) 9 ?_ ?_
                                    · refine JL.val (yl_assign rfl) rfl ?_
                                      refine JL.nil ?_
                                      refine JE.weak (env' := [(2, .bool (((b3 == (w64 ((w64 ((w64 ((w64 ((w64 (2 * x2.W)) + 1)) * (w64 ((w64 (2 * x2.H)) + 1)))) + 1)).tdiv 2))) && (decide ((w64 ((w64 ((w64 ((w64 ((w64 ((w64 (2 * x2.W)) + 1)) * (w64 ((w64 (2 * x2.H)) + 1)))) + 1)).tdiv 2)) - b4)) ≤ ((x8.1.length : Nat) : Int)))) && ((decide (0 < b4)) || (((x8.1.length : Nat) : Int) == (w64 ((w64 ((w64 ((w64 ((w64 (2 * x2.W)) + 1)) * (w64 ((w64 (2 * x2.H)) + 1)))) + 1)).tdiv 2))))))]) (es' := []) [] ?_ ⟨rfl, trivial⟩ (by decide) rfl
                                      refine JE.code ?_
                                      refine JX.ret ?_
                                      obtain rfl := Option.some.inj hres
                                      refine JE.ret (rs := [.tmp 2]) (vs := [.bool (((b3 == (w64 ((w64 ((w64 ((w64 ((w64 (2 * x2.W)) + 1)) * (w64 ((w64 (2 * x2.H)) + 1)))) + 1)).tdiv 2))) && (decide ((w64 ((w64 ((w64 ((w64 ((w64 ((w64 (2 * x2.W)) + 1)) * (w64 ((w64 (2 * x2.H)) + 1)))) + 1)).tdiv 2)) - b4)) ≤ ((x8.1.length : Nat) : Int)))) && ((decide (0 < b4)) || (((x8.1.length : Nat) : Int) == (w64 ((w64 ((w64 ((w64 ((w64 (2 * x2.W)) + 1)) * (w64 ((w64 (2 * x2.H)) + 1)))) + 1)).tdiv 2)))))]) rfl ⟨rfl, trivial⟩ ?_
                                      exact fun w' hb hs => ⟨_, _, ⟨rfl, rfl⟩, rfl, hb, hs.sel [] _ (by decide) rfl⟩
                                    · intro K
                                      rcases Bool.eq_false_or_eq_true ((b3 == (w64 ((w64 ((w64 ((w64 ((w64 (2 * x2.W)) + 1)) * (w64 ((w64 (2 * x2.H)) + 1)))) + 1)).tdiv 2))) && (decide ((w64 ((w64 ((w64 ((w64 ((w64 ((w64 (2 * x2.W)) + 1)) * (w64 ((w64 (2 * x2.H)) + 1)))) + 1)).tdiv 2)) - b4)) ≤ ((x8.1.length : Nat) : Int)))) with hb | hb
                                      · refine JL.set (d := 272) (v := .bool true) (congrArg (fun b => some (Value.bool b)) hb) ?_
                                        refine JL.gval rfl rfl (yl_move rfl) rfl ?_
                                        refine JL.gval rfl rfl (yl_gtr rfl rfl) rfl ?_
                                        refine JL.gval rfl rfl (yl_move rfl) rfl ?_
                                        refine JL.cut (K := fun J => J [(272, .bool true), (280, .bool ((decide (0 < b4)) || (((x8.1.length : Nat) : Int) == (w64 ((w64 ((w64 ((w64 ((w64 (2 * x2.W)) + 1)) * (w64 ((w64 (2 * x2.H)) + 1)))) + 1)).tdiv 2)))))] []) 5 ?_ ?_
                                        · refine JL.val (yl_pick_true rfl rfl) rfl ?_
                                          exact JL.weak [] K ⟨(by rw [hb]; rfl), trivial⟩ (by decide) rfl
                                        · intro K
                                          rcases Bool.eq_false_or_eq_true (decide (0 < b4)) with hb | hb
                                          · refine JL.set (d := 275) (v := .bool true) (congrArg (fun b => some (Value.bool b)) hb) ?_
                                            refine JL.gskip rfl rfl rfl rfl ?_
                                            refine JL.gskip rfl rfl rfl rfl ?_
                                            refine JL.gskip rfl rfl rfl rfl ?_
                                            refine JL.gskip rfl rfl rfl rfl ?_
                                            refine JL.gval rfl rfl (yl_pick_true rfl rfl) rfl ?_
                                            exact JL.weak [] K ⟨rfl, (by rw [hb]; rfl), trivial⟩ (by decide) rfl
                                          · refine JL.set (d := 275) (v := .bool false) (congrArg (fun b => some (Value.bool b)) hb) ?_
                                            refine JL.gval rfl rfl (yl_move rfl) rfl ?_
                                            refine JL.gval rfl rfl (yl_len_slice Go.Proofs.Try.underlying40 rfl) rfl ?_
                                            refine JL.gval rfl rfl (yl_move rfl) rfl ?_
                                            refine JL.gval rfl rfl (yl_eql rfl rfl) rfl ?_
                                            refine JL.gval rfl rfl (yl_pick_false rfl rfl) rfl ?_
                                            exact JL.weak [] K ⟨rfl, (by rw [hb]; rfl), trivial⟩ (by decide) rfl
                                      · refine JL.set (d := 272) (v := .bool false) (congrArg (fun b => some (Value.bool b)) hb) ?_
                                        refine JL.gskip rfl rfl rfl rfl ?_
                                        refine JL.gskip rfl rfl rfl rfl ?_
                                        refine JL.gskip rfl rfl rfl rfl ?_
                                        refine JL.gnone rfl rfl rfl ?_
                                        refine JL.gnone rfl rfl rfl ?_
                                        refine JL.gnone rfl rfl rfl ?_
                                        refine JL.gnone rfl rfl rfl ?_
                                        refine JL.gskip rfl rfl rfl rfl ?_
                                        refine JL.val (yl_pick_false rfl rfl) rfl ?_
                                        exact JL.weak [] K ⟨(by rw [hb]; rfl), trivial⟩ (by decide) rfl
                                  · intro K
                                    rcases Bool.eq_false_or_eq_true (b3 == (w64 ((w64 ((w64 ((w64 ((w64 (2 * x2.W)) + 1)) * (w64 ((w64 (2 * x2.H)) + 1)))) + 1)).tdiv 2))) with hb | hb
                                    · refine JL.set (d := 264) (v := .bool true) (congrArg (fun b => some (Value.bool b)) hb) ?_
                                      refine JL.gval rfl rfl (yl_move rfl) rfl ?_
                                      refine JL.gval rfl rfl (yl_len_slice Go.Proofs.Try.underlying40 rfl) rfl ?_
                                      refine JL.gval rfl rfl (yl_move rfl) rfl ?_
                                      refine JL.gval rfl rfl (yl_move rfl) rfl ?_
                                      refine JL.gval rfl rfl (yl_sub rfl rfl) rfl ?_
                                      refine JL.gval rfl rfl (yl_geq rfl rfl) rfl ?_
                                      refine JL.val (yl_pick_true rfl rfl) rfl ?_
                                      exact JL.weak [0, 1] K ⟨rfl, rfl, rfl, (by rw [hb]; rfl), trivial⟩ (by decide) rfl
                                    · refine JL.set (d := 264) (v := .bool false) (congrArg (fun b => some (Value.bool b)) hb) ?_
                                      refine JL.gskip rfl rfl rfl rfl ?_
                                      refine JL.gskip rfl rfl rfl rfl ?_
                                      refine JL.gskip rfl rfl rfl rfl ?_
                                      refine JL.gskip rfl rfl rfl rfl ?_
                                      refine JL.gskip rfl rfl rfl rfl ?_
                                      refine JL.gskip rfl rfl rfl rfl ?_
                                      refine JL.val (yl_pick_false rfl rfl) rfl ?_
                                      exact JL.weak [0, 1] K ⟨rfl, rfl, rfl, (by rw [hb]; rfl), trivial⟩ (by decide) rfl
                        · refine JX.condF rfl hb ?_
                          refine JX.skip ?_
                          refine JE.code ?_
                          refine JX.seq ?_
                          refine JX.seq ?_
                          refine JX.region ?_
                          refine JL.val (yl_move rfl) rfl ?_
                          refine JL.val (yl_neq rfl rfl) rfl ?_
                          refine JL.nil ?_
                          refine JE.weak (env' := [(3, ptrAt (some ⟨g6, 0, none⟩) 0), (4, .slice a9 x8.1.length cp10), (221, .bool (x8.2 != 0))]) (es' := [boxO 28 g6 [.int .i64 x2.W, .int .i64 x2.H, .slice a3 x2.Breaks.length cp4], rowT 2 eI64 a3 x2.Breaks.length cp4 x2.Breaks, rowT 61 eHd a9 x8.1.length cp10 hs12, innO 35 eSPoint none hs12 x8.1]) [0, 1, 2, 3] ?_ ⟨rfl, rfl, rfl, trivial⟩ (by decide) rfl
                          refine JE.code ?_
                          rcases cond_some hres with ⟨hb, hres⟩ | ⟨hb, hres⟩
                          · refine JX.condT rfl hb ?_
                            refine JX.seq ?_
                            refine JX.region ?_
                            refine JL.val (yl_assign rfl) rfl ?_
                            refine JL.nil ?_
                            refine JE.weak (env' := [(2, .bool true)]) (es' := []) [] ?_ ⟨rfl, trivial⟩ (by decide) rfl
                            refine JE.code ?_
                            refine JX.ret ?_
                            obtain rfl := Option.some.inj hres
                            refine JE.ret (rs := [.tmp 2]) (vs := [.bool true]) rfl ⟨rfl, trivial⟩ ?_
                            exact fun w' hb hs => ⟨_, _, ⟨rfl, rfl⟩, rfl, hb, hs.sel [] _ (by decide) rfl⟩
                          · refine JX.condF rfl hb ?_
                            refine JX.skip ?_
                            refine JE.code ?_
                            refine JX.seq ?_
                            refine JX.region ?_
                            refine JL.val (yl_assign rfl) rfl ?_
                            refine JL.nil ?_
                            refine JE.code ?_
                            refine JX.seq ?_
                            refine JX.seq ?_
                            refine JX.region ?_
                            refine JL.val (yl_assign rfl) rfl ?_
                            refine JL.nil ?_
                            refine JE.code ?_
                            refine JX.block ?_
                            obtain ⟨y5, hy5, hresO5⟩ := bind_some hres
                            refine JX.loop (I := fun (s5 : Int × Int) aa ww => St w [] 282 [(3, ptrAt (some ⟨g6, 0, none⟩) 0), (4, .slice a9 x8.1.length cp10), (36, .int .i64 s5.1), (37, .int .i64 s5.2)] [boxO 28 g6 [.int .i64 x2.W, .int .i64 x2.H, .slice a3 x2.Breaks.length cp4], rowT 2 eI64 a3 x2.Breaks.length cp4 x2.Breaks, rowT 61 eHd a9 x8.1.length cp10 hs12, innO 35 eSPoint none hs12 x8.1] aa ww) (sh12_5 x8) hy5 (fun a w h => h.weak ⟨rfl, rfl, rfl, rfl, trivial⟩ [0, 1, 2, 3] (by decide) rfl) ?_
                            rintro ⟨x84, x85⟩ o5 hres hox5 aa ww hS
                            refine (?_ : JX Go.Proofs.Try.prog w [] 282 _ _ [(3, ptrAt (some ⟨g6, 0, none⟩) 0), (4, .slice a9 x8.1.length cp10), (36, .int .i64 x84), (37, .int .i64 x85)] [boxO 28 g6 [.int .i64 x2.W, .int .i64 x2.H, .slice a3 x2.Breaks.length cp4], rowT 2 eI64 a3 x2.Breaks.length cp4 x2.Breaks, rowT 61 eHd a9 x8.1.length cp10 hs12, innO 35 eSPoint none hs12 x8.1] _) aa ww hS
                            clear hS
                            simp only [sh12_5] at hres
                            refine JX.seq ?_
                            refine JX.seq ?_
                            refine JX.region ?_
                            refine JL.val (yl_move rfl) rfl ?_
                            refine JL.val (yl_move rfl) rfl ?_
                            refine JL.val (yl_len_slice Go.Proofs.Try.underlying40 rfl) rfl ?_
                            refine JL.val (yl_lss rfl rfl) rfl ?_
                            refine JL.nil ?_
                            refine JE.weak (env' := [(3, ptrAt (some ⟨g6, 0, none⟩) 0), (4, .slice a9 x8.1.length cp10), (36, .int .i64 x84), (37, .int .i64 x85), (225, .bool (decide (x85 < ((x8.1.length : Nat) : Int))))]) (es' := [boxO 28 g6 [.int .i64 x2.W, .int .i64 x2.H, .slice a3 x2.Breaks.length cp4], rowT 2 eI64 a3 x2.Breaks.length cp4 x2.Breaks, rowT 61 eHd a9 x8.1.length cp10 hs12, innO 35 eSPoint none hs12 x8.1]) [0, 1, 2, 3] ?_ ⟨rfl, rfl, rfl, rfl, rfl, trivial⟩ (by decide) rfl
                            refine JE.code ?_
                            rcases cond_some hres with ⟨hb, hres⟩ | ⟨hb, hres⟩
                            · refine JX.condT rfl hb ?_
                              refine JX.skip ?_
                              refine JE.code ?_
                              refine JX.seq ?_
                              refine JX.block ?_
                              refine JX.region ?_
                              refine JL.val (yl_move rfl) rfl ?_
                              refine JL.val (yl_move rfl) rfl ?_
                              refine JL.val (yl_move rfl) rfl ?_
                              obtain ⟨x86, hx86, hres⟩ := bind_some hres
                              obtain ⟨ha87, hc88, hhx86⟩ := Inn.sub hi13 hx86
                              refine JL.val (yl_idxT Go.Proofs.Try.underlying40 i61 i61s rfl rfl hhx86 (Inn.len hi13) (fun w hC => rd_row hC 2 rfl)) rfl ?_
                              refine JL.val (yl_loadT0 (z := ⟨ha87, x86.length, hc88⟩) Go.Proofs.Try.underlying61 rfl rfl hhx86 (fun w hC => rd_row hC 2 rfl) rfl) rfl ?_
                              refine JL.val (yl_len_slice Go.Proofs.Try.underlying61 rfl) rfl ?_
                              refine JL.val (yl_add rfl rfl) rfl ?_
                              refine JL.val (yl_assign rfl) rfl ?_
                              refine JL.nil ?_
                              refine JE.weak (env' := [(3, ptrAt (some ⟨g6, 0, none⟩) 0), (4, .slice a9 x8.1.length cp10), (36, .int .i64 (w64 (x84 + (x86.length : Int)))), (37, .int .i64 x85)]) (es' := [boxO 28 g6 [.int .i64 x2.W, .int .i64 x2.H, .slice a3 x2.Breaks.length cp4], rowT 2 eI64 a3 x2.Breaks.length cp4 x2.Breaks, rowT 61 eHd a9 x8.1.length cp10 hs12, innO 35 eSPoint none hs12 x8.1]) [0, 1, 2, 3] ?_ ⟨rfl, rfl, rfl, rfl, trivial⟩ (by decide) rfl
                              refine JE.code ?_
                              refine JX.region ?_
                              refine JL.val (yl_move rfl) rfl ?_
                              refine JL.val (yl_add rfl rfl) rfl ?_
                              refine JL.val (yl_assign rfl) rfl ?_
                              refine JL.nil ?_
                              refine JE.cont hres ?_
                              exact fun a w h => h.weak ⟨rfl, rfl, rfl, rfl, trivial⟩ [0, 1, 2, 3] (by decide) rfl
                            · refine JX.condF rfl hb ?_
                              refine JX.exit ?_
                              refine JE.qb rfl ?_
                              obtain ⟨b5, hb5⟩ : ∃ b : Int, b = x84 := ⟨_, rfl⟩
                              have hy5 : b5 = y5 := by rw [hb5]; exact hox5 _ (Option.some.inj hres).symm
                              have hres := hresO5
                              rw [← hy5] at hres
                              refine JE.weak (env' := [(3, ptrAt (some ⟨g6, 0, none⟩) 0), (4, .slice a9 x8.1.length cp10), (36, .int .i64 b5)]) (es' := [boxO 28 g6 [.int .i64 x2.W, .int .i64 x2.H, .slice a3 x2.Breaks.length cp4], rowT 2 eI64 a3 x2.Breaks.length cp4 x2.Breaks, rowT 61 eHd a9 x8.1.length cp10 hs12, innO 35 eSPoint none hs12 x8.1]) [0, 1, 2, 3] ?_ ⟨(by subst hb5; rfl), (by subst hb5; rfl), (by subst hb5; rfl), trivial⟩ (by decide) (by subst hb5; rfl)
                              refine JE.code ?_
                              refine JX.seq ?_
                              refine JX.region ?_
                              refine JL.val (yl_assign rfl) rfl ?_
                              refine JL.nil ?_
                              refine JE.code ?_
                              refine JX.seq ?_
                              refine JX.seq ?_
                              refine JX.region ?_
                              refine JL.val (yl_assign rfl) rfl ?_
                              refine JL.nil ?_
                              refine JE.code ?_
                              refine JX.block ?_
                              obtain ⟨y6, hy6, hresO6⟩ := bind_some hres
                              refine JX.loop (I := fun (s6 : Int × Int) aa ww => St w [] 282 [(3, ptrAt (some ⟨g6, 0, none⟩) 0), (4, .slice a9 x8.1.length cp10), (36, .int .i64 b5), (38, .int .i64 s6.1), (39, .int .i64 s6.2)] [boxO 28 g6 [.int .i64 x2.W, .int .i64 x2.H, .slice a3 x2.Breaks.length cp4], rowT 2 eI64 a3 x2.Breaks.length cp4 x2.Breaks, rowT 61 eHd a9 x8.1.length cp10 hs12, innO 35 eSPoint none hs12 x8.1] aa ww) (sh12_6 x2) hy6 (fun a w h => h.weak ⟨rfl, rfl, rfl, rfl, rfl, trivial⟩ [0, 1, 2, 3] (by decide) rfl) ?_
                              rintro ⟨x90, x91⟩ o6 hres hox6 aa ww hS
                              refine (?_ : JX Go.Proofs.Try.prog w [] 282 _ _ [(3, ptrAt (some ⟨g6, 0, none⟩) 0), (4, .slice a9 x8.1.length cp10), (36, .int .i64 b5), (38, .int .i64 x90), (39, .int .i64 x91)] [boxO 28 g6 [.int .i64 x2.W, .int .i64 x2.H, .slice a3 x2.Breaks.length cp4], rowT 2 eI64 a3 x2.Breaks.length cp4 x2.Breaks, rowT 61 eHd a9 x8.1.length cp10 hs12, innO 35 eSPoint none hs12 x8.1] _) aa ww hS
                              clear hS
                              simp only [sh12_6] at hres
                              refine JX.seq ?_
                              refine JX.seq ?_
                              refine JX.region ?_
                              refine JL.val (yl_move rfl) rfl ?_
                              refine JL.val (yl_fieldAt (a := some _) Go.Proofs.Try.underlying28 rfl i22 i22n rfl rfl) rfl ?_
                              refine JL.val (yl_load1 Go.Proofs.Try.underlying22 rfl rfl (fun w hC => rd_box hC 0 rfl) rfl) rfl ?_
                              refine JL.val (yl_len_slice Go.Proofs.Try.underlying22 rfl) rfl ?_
                              refine JL.val (yl_lss rfl rfl) rfl ?_
                              refine JL.nil ?_
                              refine JE.weak (env' := [(3, ptrAt (some ⟨g6, 0, none⟩) 0), (4, .slice a9 x8.1.length cp10), (36, .int .i64 b5), (38, .int .i64 x90), (39, .int .i64 x91), (239, .bool (decide (x91 < (x2.Breaks.length : Int))))]) (es' := [boxO 28 g6 [.int .i64 x2.W, .int .i64 x2.H, .slice a3 x2.Breaks.length cp4], rowT 2 eI64 a3 x2.Breaks.length cp4 x2.Breaks, rowT 61 eHd a9 x8.1.length cp10 hs12, innO 35 eSPoint none hs12 x8.1]) [0, 1, 2, 3] ?_ ⟨rfl, rfl, rfl, rfl, rfl, rfl, trivial⟩ (by decide) rfl
                              refine JE.code ?_
                              rcases cond_some hres with ⟨hb, hres⟩ | ⟨hb, hres⟩
                              · refine JX.condT rfl hb ?_
                                refine JX.skip ?_
                                refine JE.code ?_
                                refine JX.seq ?_
                                refine JX.block ?_
                                refine JX.seq ?_
                                refine JX.region ?_
                                refine JL.val (yl_fieldAt (a := some _) Go.Proofs.Try.underlying28 rfl i22 i22n rfl rfl) rfl ?_
                                refine JL.val (yl_load1 Go.Proofs.Try.underlying22 rfl rfl (fun w hC => rd_box hC 0 rfl) rfl) rfl ?_
                                refine JL.val (yl_move rfl) rfl ?_
                                obtain ⟨x92, hx92, hres⟩ := bind_some hres
                                refine JL.val (yl_idxT Go.Proofs.Try.underlying22 i2 i2s rfl rfl hx92 rfl (fun w hC => rd_row hC 1 rfl)) rfl ?_
                                refine JL.val (yl_loadT0 Go.Proofs.Try.underlying2 rfl rfl hx92 (fun w hC => rd_row hC 1 rfl) rfl) rfl ?_
                                refine JL.val (yl_neq rfl rfl) rfl ?_
                                refine JL.nil ?_
                                refine JE.weak (env' := [(3, ptrAt (some ⟨g6, 0, none⟩) 0), (4, .slice a9 x8.1.length cp10), (36, .int .i64 b5), (38, .int .i64 x90), (39, .int .i64 x91), (247, .bool (x92 != 0))]) (es' := [boxO 28 g6 [.int .i64 x2.W, .int .i64 x2.H, .slice a3 x2.Breaks.length cp4], rowT 2 eI64 a3 x2.Breaks.length cp4 x2.Breaks, rowT 61 eHd a9 x8.1.length cp10 hs12, innO 35 eSPoint none hs12 x8.1]) [0, 1, 2, 3] ?_ ⟨rfl, rfl, rfl, rfl, rfl, rfl, trivial⟩ (by decide) rfl
                                refine JE.code ?_
                                obtain ⟨j93, hj93, hresj93⟩ := bind_some hres
                                refine JX.cut (K := fun J => J [(3, ptrAt (some ⟨g6, 0, none⟩) 0), (4, .slice a9 x8.1.length cp10), (36, .int .i64 b5), (38, .int .i64 j93), (39, .int .i64 x91)] [boxO 28 g6 [.int .i64 x2.W, .int .i64 x2.H, .slice a3 x2.Breaks.length cp4], rowT 2 eI64 a3 x2.Breaks.length cp4 x2.Breaks, rowT 61 eHd a9 x8.1.length cp10 hs12, innO 35 eSPoint none hs12 x8.1]) ?_ ?_
                                · have hres := hresj93
                                  refine JE.code ?_
                                  refine JX.region ?_
                                  refine JL.val (yl_move rfl) rfl ?_
                                  refine JL.val (yl_add rfl rfl) rfl ?_
                                  refine JL.val (yl_assign rfl) rfl ?_
                                  refine JL.nil ?_
                                  refine JE.cont hres ?_
                                  exact fun a w h => h.weak ⟨rfl, rfl, rfl, rfl, rfl, trivial⟩ [0, 1, 2, 3] (by decide) rfl
                                · intro K
                                  rcases cond_some hj93 with ⟨hb, hres⟩ | ⟨hb, hres⟩
                                  · refine JX.condT rfl hb ?_
                                    refine JX.region ?_
                                    refine JL.val (yl_move rfl) rfl ?_
                                    refine JL.val (yl_add rfl rfl) rfl ?_
                                    refine JL.val (yl_assign rfl) rfl ?_
                                    refine JL.nil ?_
                                    have hj := Option.some.inj hres
                                    exact JE.weak [0, 1, 2, 3] (K) ⟨(by subst hj; rfl), (by subst hj; rfl), (by subst hj; rfl), (by subst hj; rfl), (by subst hj; rfl), trivial⟩ (by decide) (by subst hj; rfl)
                                  · refine JX.condF rfl hb ?_
                                    refine JX.skip ?_
                                    have hj := Option.some.inj hres
                                    exact JE.weak [0, 1, 2, 3] (K) ⟨(by subst hj; rfl), (by subst hj; rfl), (by subst hj; rfl), (by subst hj; rfl), (by subst hj; rfl), trivial⟩ (by decide) (by subst hj; rfl)
                              · refine JX.condF rfl hb ?_
                                refine JX.exit ?_
                                refine JE.qb rfl ?_
                                obtain ⟨b6, hb6⟩ : ∃ b : Int, b = x90 := ⟨_, rfl⟩
                                have hy6 : b6 = y6 := by rw [hb6]; exact hox6 _ (Option.some.inj hres).symm
                                have hres := hresO6
                                rw [← hy6] at hres
                                refine JE.weak (env' := [(3, ptrAt (some ⟨g6, 0, none⟩) 0), (4, .slice a9 x8.1.length cp10), (36, .int .i64 b5), (38, .int .i64 b6)]) (es' := [boxO 28 g6 [.int .i64 x2.W, .int .i64 x2.H, .slice a3 x2.Breaks.length cp4], rowT 2 eI64 a3 x2.Breaks.length cp4 x2.Breaks, rowT 61 eHd a9 x8.1.length cp10 hs12, innO 35 eSPoint none hs12 x8.1]) [0, 1, 2, 3] ?_ ⟨(by subst hb6; rfl), (by subst hb6; rfl), (by subst hb6; rfl), (by subst hb6; rfl), trivial⟩ (by decide) (by subst hb6; rfl)
                                refine JE.code ?_
                                refine JX.seq ?_
                                refine JX.region ?_
                                refine JL.val (yl_fieldAt (a := some _) Go.Proofs.Try.underlying28 rfl i2 i2n rfl rfl) rfl ?_
                                refine JL.val (yl_load1 Go.Proofs.Try.underlying2 rfl rfl (fun w hC => rd_box hC 0 rfl) rfl) rfl ?_
                                refine JL.val (yl_mul rfl rfl) rfl ?_
                                refine JL.val (yl_add rfl rfl) rfl ?_
                                refine JL.val (yl_fieldAt (a := some _) Go.Proofs.Try.underlying28 rfl i2 i2n rfl rfl) rfl ?_
                                refine JL.val (yl_load1 Go.Proofs.Try.underlying2 rfl rfl (fun w hC => rd_box hC 0 rfl) rfl) rfl ?_
                                refine JL.val (yl_mul rfl rfl) rfl ?_
                                refine JL.val (yl_add rfl rfl) rfl ?_
                                refine JL.val (yl_mul rfl rfl) rfl ?_
                                refine JL.val (yl_add rfl rfl) rfl ?_
                                refine JL.val (yl_quo rfl rfl (by decide)) rfl ?_
                                refine JL.val (yl_assign rfl) rfl ?_
                                refine JL.nil ?_
                                refine JE.weak (env' := [(4, .slice a9 x8.1.length cp10), (36, .int .i64 b5), (38, .int .i64 b6), (40, .int .i64 (w64 ((w64 ((w64 ((w64 ((w64 (2 * x2.W)) + 1)) * (w64 ((w64 (2 * x2.H)) + 1)))) + 1)).tdiv 2)))]) (es' := [rowT 61 eHd a9 x8.1.length cp10 hs12, innO 35 eSPoint none hs12 x8.1]) [2, 3] ?_ ⟨rfl, rfl, rfl, rfl, trivial⟩ (by decide) rfl
                                refine JE.code ?_
                                refine JX.seq ?_
                                refine JX.region ?_
                                refine JL.val (yl_move rfl) rfl ?_
                                refine JL.val (yl_move rfl) rfl ?_
                                refine JL.val (yl_eql rfl rfl) rfl ?_
                                refine JL.val (yl_move rfl) rfl ?_
                                refine JL.cut (K := fun J => J [(4, .slice a9 x8.1.length cp10), (38, .int .i64 b6), (40, .int .i64 (w64 ((w64 ((w64 ((w64 ((w64 (2 * x2.W)) + 1)) * (w64 ((w64 (2 * x2.H)) + 1)))) + 1)).tdiv 2))), (271, .bool ((b5 == (w64 ((w64 ((w64 ((w64 ((w64 (2 * x2.W)) + 1)) * (w64 ((w64 (2 * x2.H)) + 1)))) + 1)).tdiv 2))) && (decide ((w64 ((w64 ((w64 ((w64 ((w64 ((w64 (2 * x2.W)) + 1)) * (w64 ((w64 (2 * x2.H)) + 1)))) + 1)).tdiv 2)) - b6)) ≤ ((x8.1.length : Nat) : Int)))))] [rowT 61 eHd a9 x8.1.length cp10 hs12, innO 35 eSPoint none hs12 x8.1]) 7 ?_ ?_
                                · refine JL.val (yl_move rfl) rfl ?_
                                  refine JL.cut (K := fun J => J [(281, .bool (((b5 == (w64 ((w64 ((w64 ((w64 ((w64 (2 * x2.W)) + 1)) * (w64 ((w64 (2 * x2.H)) + 1)))) + 1)).tdiv 2))) && (decide ((w64 ((w64 ((w64 ((w64 ((w64 ((w64 (2 * x2.W)) + 1)) * (w64 ((w64 (2 * x2.H)) + 1)))) + 1)).tdiv 2)) - b6)) ≤ ((x8.1.length : Nat) : Int)))) && ((decide (0 < b6)) || (((x8.1.length : Nat) : Int) == (w64 ((w64 ((w64 ((w64 ((w64 (2 * x2.W)) + 1)) * (w64 ((w64 (2 * x2.H)) + 1)))) + 1)).tdiv 2))))))] []) 9 ?_ ?_
                                  · refine JL.val (yl_assign rfl) rfl ?_
                                    refine JL.nil ?_
                                    refine JE.weak (env' := [(2, .bool (((b5 == (w64 ((w64 ((w64 ((w64 ((w64 (2 * x2.W)) + 1)) * (w64 ((w64 (2 * x2.H)) + 1)))) + 1)).tdiv 2))) && (decide ((w64 ((w64 ((w64 ((w64 ((w64 ((w64 (2 * x2.W)) + 1)) * (w64 ((w64 (2 * x2.H)) + 1)))) + 1)).tdiv 2)) - b6)) ≤ ((x8.1.length : Nat) : Int)))) && ((decide (0 < b6)) || (((x8.1.length : Nat) : Int) == (w64 ((w64 ((w64 ((w64 ((w64 (2 * x2.W)) + 1)) * (w64 ((w64 (2 * x2.H)) + 1)))) + 1)).tdiv 2))))))]) (es' := []) [] ?_ ⟨rfl, trivial⟩ (by decide) rfl
                                    refine JE.code ?_
                                    refine JX.ret ?_
                                    obtain rfl := Option.some.inj hres
                                    refine JE.ret (rs := [.tmp 2]) (vs := [.bool (((b5 == (w64 ((w64 ((w64 ((w64 ((w64 (2 * x2.W)) + 1)) * (w64 ((w64 (2 * x2.H)) + 1)))) + 1)).tdiv 2))) && (decide ((w64 ((w64 ((w64 ((w64 ((w64 ((w64 (2 * x2.W)) + 1)) * (w64 ((w64 (2 * x2.H)) + 1)))) + 1)).tdiv 2)) - b6)) ≤ ((x8.1.length : Nat) : Int)))) && ((decide (0 < b6)) || (((x8.1.length : Nat) : Int) == (w64 ((w64 ((w64 ((w64 ((w64 (2 * x2.W)) + 1)) * (w64 ((w64 (2 * x2.H)) + 1)))) + 1)).tdiv 2)))))]) rfl ⟨rfl, trivial⟩ ?_
                                    exact fun w' hb hs => ⟨_, _, ⟨rfl, rfl⟩, rfl, hb, hs.sel [] _ (by decide) rfl⟩
                                  · intro K
                                    rcases Bool.eq_false_or_eq_true ((b5 == (w64 ((w64 ((w64 ((w64 ((w64 (2 * x2.W)) + 1)) * (w64 ((w64 (2 * x2.H)) + 1)))) + 1)).tdiv 2))) && (decide ((w64 ((w64 ((w64 ((w64 ((w64 ((w64 (2 * x2.W)) + 1)) * (w64 ((w64 (2 * x2.H)) + 1)))) + 1)).tdiv 2)) - b6)) ≤ ((x8.1.length : Nat) : Int)))) with hb | hb
                                    · refine JL.set (d := 272) (v := .bool true) (congrArg (fun b => some (Value.bool b)) hb) ?_
                                      refine JL.gval rfl rfl (yl_move rfl) rfl ?_
                                      refine JL.gval rfl rfl (yl_gtr rfl rfl) rfl ?_
                                      refine JL.gval rfl rfl (yl_move rfl) rfl ?_
                                      refine JL.cut (K := fun J => J [(272, .bool true), (280, .bool ((decide (0 < b6)) || (((x8.1.length : Nat) : Int) == (w64 ((w64 ((w64 ((w64 ((w64 (2 * x2.W)) + 1)) * (w64 ((w64 (2 * x2.H)) + 1)))) + 1)).tdiv 2)))))] []) 5 ?_ ?_
                                      · refine JL.val (yl_pick_true rfl rfl) rfl ?_
                                        exact JL.weak [] K ⟨(by rw [hb]; rfl), trivial⟩ (by decide) rfl
                                      · intro K
                                        rcases Bool.eq_false_or_eq_true (decide (0 < b6)) with hb | hb
                                        · refine JL.set (d := 275) (v := .bool true) (congrArg (fun b => some (Value.bool b)) hb) ?_
                                          refine JL.gskip rfl rfl rfl rfl ?_
                                          refine JL.gskip rfl rfl rfl rfl ?_
                                          refine JL.gskip rfl rfl rfl rfl ?_
                                          refine JL.gskip rfl rfl rfl rfl ?_
                                          refine JL.gval rfl rfl (yl_pick_true rfl rfl) rfl ?_
                                          exact JL.weak [] K ⟨rfl, (by rw [hb]; rfl), trivial⟩ (by decide) rfl
                                        · refine JL.set (d := 275) (v := .bool false) (congrArg (fun b => some (Value.bool b)) hb) ?_
                                          refine JL.gval rfl rfl (yl_move rfl) rfl ?_
                                          refine JL.gval rfl rfl (yl_len_slice Go.Proofs.Try.underlying40 rfl) rfl ?_
                                          refine JL.gval rfl rfl (yl_move rfl) rfl ?_
                                          refine JL.gval rfl rfl (yl_eql rfl rfl) rfl ?_
                                          refine JL.gval rfl rfl (yl_pick_false rfl rfl) rfl ?_
                                          exact JL.weak [] K ⟨rfl, (by rw [hb]; rfl), trivial⟩ (by decide) rfl
                                    · refine JL.set (d := 272) (v := .bool false) (congrArg (fun b => some (Value.bool b)) hb) ?_
                                      refine JL.gskip rfl rfl rfl rfl ?_
                                      refine JL.gskip rfl rfl rfl rfl ?_
                                      refine JL.gskip rfl rfl rfl rfl ?_
                                      refine JL.gnone rfl rfl rfl ?_
                                      refine JL.gnone rfl rfl rfl ?_
                                      refine JL.gnone rfl rfl rfl ?_
                                      refine JL.gnone rfl rfl rfl ?_
                                      refine JL.gskip rfl rfl rfl rfl ?_
                                      refine JL.val (yl_pick_false rfl rfl) rfl ?_
                                      exact JL.weak [] K ⟨(by rw [hb]; rfl), trivial⟩ (by decide) rfl
                                · intro K
                                  rcases Bool.eq_false_or_eq_true (b5 == (w64 ((w64 ((w64 ((w64 ((w64 (2 * x2.W)) + 1)) * (w64 ((w64 (2 * x2.H)) + 1)))) + 1)).tdiv 2))) with hb | hb
                                  · refine JL.set (d := 264) (v := .bool true) (congrArg (fun b => some (Value.bool b)) hb) ?_
                                    refine JL.gval rfl rfl (yl_move rfl) rfl ?_
                                    refine JL.gval rfl rfl (yl_len_slice Go.Proofs.Try.underlying40 rfl) rfl ?_
                                    refine JL.gval rfl rfl (yl_move rfl) rfl ?_
                                    refine JL.gval rfl rfl (yl_move rfl) rfl ?_
                                    refine JL.gval rfl rfl (yl_sub rfl rfl) rfl ?_
                                    refine JL.gval rfl rfl (yl_geq rfl rfl) rfl ?_
                                    refine JL.val (yl_pick_true rfl rfl) rfl ?_
                                    exact JL.weak [0, 1] K ⟨rfl, rfl, rfl, (by rw [hb]; rfl), trivial⟩ (by decide) rfl
                                  · refine JL.set (d := 264) (v := .bool false) (congrArg (fun b => some (Value.bool b)) hb) ?_
                                    refine JL.gskip rfl rfl rfl rfl ?_
                                    refine JL.gskip rfl rfl rfl rfl ?_
                                    refine JL.gskip rfl rfl rfl rfl ?_
                                    refine JL.gskip rfl rfl rfl rfl ?_
                                    refine JL.gskip rfl rfl rfl rfl ?_
                                    refine JL.gskip rfl rfl rfl rfl ?_
                                    refine JL.val (yl_pick_false rfl rfl) rfl ?_
                                    exact JL.weak [0, 1] K ⟨rfl, rfl, rfl, (by rw [hb]; rfl), trivial⟩ (by decide) rfl
                    · intro K
                      rcases Bool.eq_false_or_eq_true (((cb58 || (x46.2 != x47.2)) || (x46.1 != x47.1)) || (x54.2 != x55.2)) with hb | hb
                      · refine JL.set (d := 158) (v := .bool true) (congrArg (fun b => some (Value.bool b)) hb) ?_
                        refine JL.gskip rfl rfl rfl rfl ?_
                        refine JL.gskip rfl rfl rfl rfl ?_
                        refine JL.gskip rfl rfl rfl rfl ?_
                        refine JL.val (yl_pick_true rfl rfl) rfl ?_
                        exact JL.weak [0, 1, 2, 3, 4, 5, 6, 7] K ⟨rfl, rfl, rfl, rfl, rfl, rfl, rfl, rfl, rfl, (by rw [hb]; rfl), trivial⟩ (by decide) rfl
                      · refine JL.set (d := 158) (v := .bool false) (congrArg (fun b => some (Value.bool b)) hb) ?_
                        refine JL.gval rfl rfl (yl_move rfl) rfl ?_
                        refine JL.gval rfl rfl (yl_move rfl) rfl ?_
                        refine JL.gval rfl rfl (yl_neq rfl rfl) rfl ?_
                        refine JL.val (yl_pick_false rfl rfl) rfl ?_
                        exact JL.weak [0, 1, 2, 3, 4, 5, 6, 7] K ⟨rfl, rfl, rfl, rfl, rfl, rfl, rfl, rfl, rfl, (by rw [hb]; rfl), trivial⟩ (by decide) rfl
                  · intro K
                    rcases Bool.eq_false_or_eq_true ((cb58 || (x46.2 != x47.2)) || (x46.1 != x47.1)) with hb | hb
                    · refine JL.set (d := 153) (v := .bool true) (congrArg (fun b => some (Value.bool b)) hb) ?_
                      refine JL.gskip rfl rfl rfl rfl ?_
                      refine JL.gskip rfl rfl rfl rfl ?_
                      refine JL.gskip rfl rfl rfl rfl ?_
                      refine JL.val (yl_pick_true rfl rfl) rfl ?_
                      exact JL.weak [0, 1, 2, 3, 4, 5, 6, 7] K ⟨rfl, rfl, rfl, rfl, rfl, rfl, rfl, rfl, rfl, rfl, rfl, (by rw [hb]; rfl), trivial⟩ (by decide) rfl
                    · refine JL.set (d := 153) (v := .bool false) (congrArg (fun b => some (Value.bool b)) hb) ?_
                      refine JL.gval rfl rfl (yl_move rfl) rfl ?_
                      refine JL.gval rfl rfl (yl_move rfl) rfl ?_
                      refine JL.gval rfl rfl (yl_neq rfl rfl) rfl ?_
                      refine JL.val (yl_pick_false rfl rfl) rfl ?_
                      exact JL.weak [0, 1, 2, 3, 4, 5, 6, 7] K ⟨rfl, rfl, rfl, rfl, rfl, rfl, rfl, rfl, rfl, rfl, rfl, (by rw [hb]; rfl), trivial⟩ (by decide) rfl
                · intro K
                  rcases Bool.eq_false_or_eq_true (cb58 || (x46.2 != x47.2)) with hb | hb
                  · refine JL.set (d := 148) (v := .bool true) (congrArg (fun b => some (Value.bool b)) hb) ?_
                    refine JL.gskip rfl rfl rfl rfl ?_
                    refine JL.gskip rfl rfl rfl rfl ?_
                    refine JL.gskip rfl rfl rfl rfl ?_
                    refine JL.val (yl_pick_true rfl rfl) rfl ?_
                    exact JL.weak [0, 1, 2, 3, 4, 5, 6, 7] K ⟨rfl, rfl, rfl, rfl, rfl, rfl, rfl, rfl, rfl, rfl, rfl, rfl, rfl, (by rw [hb]; rfl), trivial⟩ (by decide) rfl
                  · refine JL.set (d := 148) (v := .bool false) (congrArg (fun b => some (Value.bool b)) hb) ?_
                    refine JL.gval rfl rfl (yl_move rfl) rfl ?_
                    refine JL.gval rfl rfl (yl_move rfl) rfl ?_
                    refine JL.gval rfl rfl (yl_neq rfl rfl) rfl ?_
                    refine JL.val (yl_pick_false rfl rfl) rfl ?_
                    exact JL.weak [0, 1, 2, 3, 4, 5, 6, 7] K ⟨rfl, rfl, rfl, rfl, rfl, rfl, rfl, rfl, rfl, rfl, rfl, rfl, rfl, (by rw [hb]; rfl), trivial⟩ (by decide) rfl
              · intro K
                rcases Bool.eq_false_or_eq_true (cb58) with hb | hb
                · refine JL.set (d := 143) (v := .bool true) (congrArg (fun b => some (Value.bool b)) hb) ?_
                  refine JL.gskip rfl rfl rfl rfl ?_
                  refine JL.gskip rfl rfl rfl rfl ?_
                  refine JL.gskip rfl rfl rfl rfl ?_
                  refine JL.val (yl_pick_true rfl rfl) rfl ?_
                  exact JL.weak [0, 1, 2, 3, 4, 5, 6, 7] K ⟨rfl, rfl, rfl, rfl, rfl, rfl, rfl, rfl, rfl, rfl, rfl, rfl, rfl, rfl, (by rw [hb]; rfl), trivial⟩ (by decide) rfl
                · refine JL.set (d := 143) (v := .bool false) (congrArg (fun b => some (Value.bool b)) hb) ?_
                  refine JL.gval rfl rfl (yl_move rfl) rfl ?_
                  refine JL.gval rfl rfl (yl_move rfl) rfl ?_
                  refine JL.gval rfl rfl (yl_neq rfl rfl) rfl ?_
                  refine JL.val (yl_pick_false rfl rfl) rfl ?_
                  exact JL.weak [0, 1, 2, 3, 4, 5, 6, 7] K ⟨rfl, rfl, rfl, rfl, rfl, rfl, rfl, rfl, rfl, rfl, rfl, rfl, rfl, rfl, (by rw [hb]; rfl), trivial⟩ (by decide) rfl
            · intro K
              rcases cond_some hcb58 with ⟨hb, hres⟩ | ⟨hb, hres⟩
              · refine JL.set (d := 137) (v := .bool true) (congrArg (fun b => some (Value.bool b)) hb) ?_
                refine JL.gskip rfl rfl rfl rfl ?_
                refine JL.gskip rfl rfl rfl rfl ?_
                refine JL.gskip rfl rfl rfl rfl ?_
                refine JL.gskip rfl rfl rfl rfl ?_
                refine JL.val (yl_pick_true rfl rfl) rfl ?_
                have he := Option.some.inj hres
                exact JL.weak [0, 1, 2, 3, 4, 5, 6, 7] K ⟨rfl, rfl, rfl, rfl, rfl, rfl, rfl, rfl, rfl, rfl, rfl, rfl, rfl, rfl, rfl, rfl, (by rw [← he]; rfl), trivial⟩ (by decide) rfl
              · refine JL.set (d := 137) (v := .bool false) (congrArg (fun b => some (Value.bool b)) hb) ?_
                refine JL.gval rfl rfl (yl_move rfl) rfl ?_
                refine JL.gval rfl rfl (yl_move rfl) rfl ?_
                obtain ⟨x59, hx59, hres⟩ := bind_some hres
                refine JL.geff rfl rfl (ef_call (T := T51 x59) Go.Proofs.Try.func51 rfl (by kernel_rfl) rfl (fun w hC => c51 (rd_row hC 6 rfl) rfl (ln_row hC 6 rfl) (rd_row hC 7 rfl) rfl (ln_row hC 7 rfl) hx59)) rfl ?_
                rintro _ _ ⟨_, ⟨rfl, rfl⟩, rfl⟩
                refine JL.gval rfl rfl (yl_not rfl) rfl ?_
                refine JL.val (yl_pick_false rfl rfl) rfl ?_
                have he := Option.some.inj hres
                exact JL.weak [0, 1, 2, 3, 4, 5, 6, 7] K ⟨rfl, rfl, rfl, rfl, rfl, rfl, rfl, rfl, rfl, rfl, rfl, rfl, rfl, rfl, rfl, rfl, (by rw [← he]; rfl), trivial⟩ (by decide) rfl
          · intro K
            rcases Bool.eq_false_or_eq_true ((cb56 || (x30.2 != x31.2)) || (x30.1 != x31.1)) with hb | hb
            · refine JL.set (d := 132) (v := .bool true) (congrArg (fun b => some (Value.bool b)) hb) ?_
              refine JL.gskip rfl rfl rfl rfl ?_
              refine JL.gskip rfl rfl rfl rfl ?_
              refine JL.gskip rfl rfl rfl rfl ?_
              refine JL.val (yl_pick_true rfl rfl) rfl ?_
              exact JL.weak [0, 1, 2, 3, 4, 5, 6, 7] K ⟨rfl, rfl, rfl, rfl, rfl, rfl, rfl, rfl, rfl, rfl, rfl, rfl, rfl, rfl, rfl, rfl, (by rw [hb]; rfl), trivial⟩ (by decide) rfl
            · refine JL.set (d := 132) (v := .bool false) (congrArg (fun b => some (Value.bool b)) hb) ?_
              refine JL.gval rfl rfl (yl_move rfl) rfl ?_
              refine JL.gval rfl rfl (yl_move rfl) rfl ?_
              refine JL.gval rfl rfl (yl_neq rfl rfl) rfl ?_
              refine JL.val (yl_pick_false rfl rfl) rfl ?_
              exact JL.weak [0, 1, 2, 3, 4, 5, 6, 7] K ⟨rfl, rfl, rfl, rfl, rfl, rfl, rfl, rfl, rfl, rfl, rfl, rfl, rfl, rfl, rfl, rfl, (by rw [hb]; rfl), trivial⟩ (by decide) rfl
        · intro K
          rcases Bool.eq_false_or_eq_true (cb56 || (x30.2 != x31.2)) with hb | hb
          · refine JL.set (d := 127) (v := .bool true) (congrArg (fun b => some (Value.bool b)) hb) ?_
            refine JL.gskip rfl rfl rfl rfl ?_
            refine JL.gskip rfl rfl rfl rfl ?_
            refine JL.gskip rfl rfl rfl rfl ?_
            refine JL.val (yl_pick_true rfl rfl) rfl ?_
            exact JL.weak [0, 1, 2, 3, 4, 5, 6, 7] K ⟨rfl, rfl, rfl, rfl, rfl, rfl, rfl, rfl, rfl, rfl, rfl, rfl, rfl, rfl, rfl, rfl, rfl, (by rw [hb]; rfl), trivial⟩ (by decide) rfl
          · refine JL.set (d := 127) (v := .bool false) (congrArg (fun b => some (Value.bool b)) hb) ?_
            refine JL.gval rfl rfl (yl_move rfl) rfl ?_
            refine JL.gval rfl rfl (yl_move rfl) rfl ?_
            refine JL.gval rfl rfl (yl_neq rfl rfl) rfl ?_
            refine JL.val (yl_pick_false rfl rfl) rfl ?_
            exact JL.weak [0, 1, 2, 3, 4, 5, 6, 7] K ⟨rfl, rfl, rfl, rfl, rfl, rfl, rfl, rfl, rfl, rfl, rfl, rfl, rfl, rfl, rfl, rfl, rfl, (by rw [hb]; rfl), trivial⟩ (by decide) rfl
      · intro K
        rcases Bool.eq_false_or_eq_true (cb56) with hb | hb
        · refine JL.set (d := 122) (v := .bool true) (congrArg (fun b => some (Value.bool b)) hb) ?_
          refine JL.gskip rfl rfl rfl rfl ?_
          refine JL.gskip rfl rfl rfl rfl ?_
          refine JL.gskip rfl rfl rfl rfl ?_
          refine JL.val (yl_pick_true rfl rfl) rfl ?_
          exact JL.weak [0, 1, 2, 3, 4, 5, 6, 7] K ⟨rfl, rfl, rfl, rfl, rfl, rfl, rfl, rfl, rfl, rfl, rfl, rfl, rfl, rfl, rfl, rfl, rfl, rfl, rfl, (by rw [hb]; rfl), trivial⟩ (by decide) rfl
        · refine JL.set (d := 122) (v := .bool false) (congrArg (fun b => some (Value.bool b)) hb) ?_
          refine JL.gval rfl rfl (yl_move rfl) rfl ?_
          refine JL.gval rfl rfl (yl_move rfl) rfl ?_
          refine JL.gval rfl rfl (yl_neq rfl rfl) rfl ?_
          refine JL.val (yl_pick_false rfl rfl) rfl ?_
          exact JL.weak [0, 1, 2, 3, 4, 5, 6, 7] K ⟨rfl, rfl, rfl, rfl, rfl, rfl, rfl, rfl, rfl, rfl, rfl, rfl, rfl, rfl, rfl, rfl, rfl, rfl, rfl, (by rw [hb]; rfl), trivial⟩ (by decide) rfl
    · intro K
      rcases cond_some hcb56 with ⟨hb, hres⟩ | ⟨hb, hres⟩
      · refine JL.set (d := 116) (v := .bool true) (congrArg (fun b => some (Value.bool b)) hb) ?_
        refine JL.gskip rfl rfl rfl rfl ?_
        refine JL.gskip rfl rfl rfl rfl ?_
        refine JL.gskip rfl rfl rfl rfl ?_
        refine JL.gskip rfl rfl rfl rfl ?_
        refine JL.val (yl_pick_true rfl rfl) rfl ?_
        have he := Option.some.inj hres
        exact JL.weak [0, 1, 2, 3, 6, 7, 8, 9] K ⟨rfl, rfl, rfl, rfl, rfl, rfl, rfl, rfl, rfl, rfl, rfl, rfl, rfl, rfl, rfl, rfl, rfl, rfl, rfl, rfl, rfl, (by rw [← he]; rfl), trivial⟩ (by decide) rfl
      · refine JL.set (d := 116) (v := .bool false) (congrArg (fun b => some (Value.bool b)) hb) ?_
        refine JL.gval rfl rfl (yl_move rfl) rfl ?_
        refine JL.gval rfl rfl (yl_move rfl) rfl ?_
        obtain ⟨x57, hx57, hres⟩ := bind_some hres
        refine JL.geff rfl rfl (ef_call (T := T50 x57) Go.Proofs.Try.func50 rfl (by kernel_rfl) rfl (fun w hC => c50 (rd_row hC 2 rfl) (rd_inn hC 3 rfl) hi13 rfl (ln_row hC 2 rfl) (rd_row hC 4 rfl) (rd_inn hC 5 rfl) hi20 rfl (ln_row hC 4 rfl) hx57)) rfl ?_
        rintro _ _ ⟨_, ⟨rfl, rfl⟩, rfl⟩
        refine JL.gval rfl rfl (yl_not rfl) rfl ?_
        refine JL.val (yl_pick_false rfl rfl) rfl ?_
        have he := Option.some.inj hres
        exact JL.weak [0, 1, 2, 3, 6, 7, 8, 9] K ⟨rfl, rfl, rfl, rfl, rfl, rfl, rfl, rfl, rfl, rfl, rfl, rfl, rfl, rfl, rfl, rfl, rfl, rfl, rfl, rfl, rfl, (by rw [← he]; rfl), trivial⟩ (by decide) rfl

end Go.Sh
