/- Walks through functions that the law reaches, printed by program. -/
import Derived.Test.YtinipjijgggjkaaF10W1
set_option linter.unusedVariables false
set_option linter.unusedSimpArgs false
namespace Go.Sh
open Go Go.RowKit
/- (impl.Panel).crossed -/
def sh98_2 (q0 : SPanel) (x29 : List (List SWalker) × List Int) (x39 : List SPoint) : (Int × List (List Bool)) → Option ((Int × List (List Bool)) ⊕ (List (List Bool)))
  | (x44, x45) => bif decide (x44 < (x39.length : Int)) then (Option.bind (getI x39 x44) fun x47 => Option.bind (sh157 q0 x29.2 x47) fun x50 => Option.bind (bif (x50.length : Int) == 2 then (Option.bind (getI x50 (0 : Int)) fun x57 => Option.bind (getI x45 x57) fun x58 => Option.bind (getI x50 (1 : Int)) fun x62 => Option.bind (getI x50 (1 : Int)) fun x63 => Option.bind (getI x45 x63) fun x64 => Option.bind (getI x50 (0 : Int)) fun x68 => Option.bind (getI x58 x62) fun x69 => Option.bind (getI (x45.set (x57).toNat (x58.set (x62).toNat true)) x63) fun x71 => Option.bind (getI x71 x68) fun x72 => some ((x45.set (x57).toNat (x58.set (x62).toNat true)).set (x63).toNat (x71.set (x68).toNat true))) else (some x45)) fun j54 => (some (.inl (w64 (x44 + 1), j54)))) else (some (.inr x45))
def sh98_1 (x6 : Int) : (Int × List (List Bool)) → Option ((Int × List (List Bool)) ⊕ (List (List Bool)))
  | (x11, x12) => bif decide (x11 < x6) then (Option.bind (mkL x6 false) fun x17 => Option.bind (appL x12 [x17]) fun x22 => some (.inl (w64 (x11 + 1), x22))) else (some (.inr x12))
def sh98 (q0 : SPanel) : Option (List (List Bool)) := Option.bind (sh118 q0) fun x6 => Option.bind (iter (sh98_1 x6) (0, ([] : List (List Bool)))) fun b1 => (Option.bind (sh114 q0) fun x29 => Option.bind (sh156 q0) fun x39 => Option.bind (iter (sh98_2 q0 x29 x39) (0, b1)) fun b2 => (some b2))
def T98 (r : List (List Bool)) (v : Value) (rs : List Own) : Prop := ∃ (a0 : Option Addr) (n0 c0 : Nat) (h0 : List Hd), r.length = n0 ∧ Inn h0 r ∧ v = rets [.slice a0 n0 c0] ∧ rs = [rowT 104 eHd a0 n0 c0 h0, innO 4 eBool none h0 r]
set_option maxRecDepth 100000 in
theorem c98 {w : World} {q0 : SPanel} {a_0_2 : Option Addr} {n_0_2 c_0_2 : Nat} (g_0_2 : Rd w a_0_2 (eI64.fl q0.Breaks)) (l_0_2 : q0.Breaks.length = n_0_2) (k_0_2 : n_0_2 ≤ c_0_2) {r : List (List Bool)} (hres : sh98 q0 = some r) : Calls Go.Proofs.Try.prog 98 [.agg #[.int .i64 q0.W, .int .i64 q0.H, .slice a_0_2 n_0_2 c_0_2]].toArray w (Ret w (T98 r)) := by
  subst l_0_2
  unfold sh98 at hres
  refine calls_of (n := 63) (M := []) (es := []) Go.Proofs.Try.func98 rfl rfl rfl (Sep.nil _ _ _) ?_
  refine JX.seq ?_
  refine JX.region ?_
  refine JL.eff (ef_box rfl rfl) rfl ?_
  rintro _ _ ⟨g1, rfl, rfl⟩
  refine JL.val (yl_assign rfl) rfl ?_
  refine JL.nil ?_
  refine JE.code ?_
  refine JX.seq ?_
  refine JX.region ?_
  refine JL.eff (ef_buildSlice (E := 104) (k := eHd.k) (us := eHd.fl ([] : List Hd)) rfl (fun w => bsl99_0  w) rfl (by decide)) rfl ?_
  rintro _ _ ⟨a3, rfl, rfl⟩
  refine JL.nilinn 4 eBool ?_
  refine JL.val (yl_assign rfl) rfl ?_
  refine JL.nil ?_
  refine JE.code ?_
  refine JX.seq ?_
  refine JX.region ?_
  refine JL.val (yl_loadn Go.Proofs.Try.underlying28 rfl i28 rfl (fun w hC => rd_box hC 0 rfl) rfl (i28s).symm i28p) rfl ?_
  obtain ⟨x6, hx6, hres⟩ := bind_some hres
  refine JL.eff (ef_call (vs := [.agg #[.int .i64 q0.W, .int .i64 q0.H, .slice a_0_2 q0.Breaks.length c_0_2]]) (T := T118 x6) Go.Proofs.Try.func118 rfl (by kernel_rfl) rfl (fun w hC => c118 (q0 := q0) (rd_arg g_0_2 hC) rfl k_0_2 hx6)) rfl ?_
  rintro _ _ ⟨_, ⟨rfl, rfl⟩, rfl⟩
  refine JL.val (yl_assign rfl) rfl ?_
  refine JL.nil ?_
  refine JE.code ?_
  refine JX.seq ?_
  refine JX.seq ?_
  refine JX.region ?_
  refine JL.val (yl_move rfl) rfl ?_
  refine JL.val (yl_move rfl) rfl ?_
  refine JL.nil ?_
  refine JE.code ?_
  refine JX.block ?_
  obtain ⟨y1, hy1, hresO1⟩ := bind_some hres
  refine JX.loop (I := fun (s1 : Int × List (List Bool)) aa ww => ∃ (a7 : Option Addr) (cp8 : Nat) (hs9 : List Hd) (hi10 : Inn hs9 s1.2), St w [] 63 [(1, ptrAt (some ⟨g1, 0, none⟩) 0), (3, .slice a7 s1.2.length cp8), (4, .int .i64 x6), (13, .int .i64 x6), (14, .int .i64 s1.1)] [boxO 28 g1 [.int .i64 q0.W, .int .i64 q0.H, .slice a_0_2 q0.Breaks.length c_0_2], rowT 104 eHd a7 s1.2.length cp8 hs9, innO 4 eBool none hs9 s1.2] aa ww) (sh98_1 x6) hy1 (fun a w h => ⟨a3, 0, ([] : List Hd), (Inn.nil (T := Bool)), h.weak ⟨rfl, rfl, rfl, rfl, rfl, trivial⟩ [0, 1, 2] (by decide) rfl⟩) ?_
  rintro ⟨x11, x12⟩ o1 hres hox1 aa ww ⟨a13, cp14, hs15, hi16, hS⟩
  refine (?_ : JX Go.Proofs.Try.prog w [] 63 _ _ [(1, ptrAt (some ⟨g1, 0, none⟩) 0), (3, .slice a13 x12.length cp14), (4, .int .i64 x6), (13, .int .i64 x6), (14, .int .i64 x11)] [boxO 28 g1 [.int .i64 q0.W, .int .i64 q0.H, .slice a_0_2 q0.Breaks.length c_0_2], rowT 104 eHd a13 x12.length cp14 hs15, innO 4 eBool none hs15 x12] _) aa ww hS
  clear hS
  simp only [sh98_1] at hres
  refine JX.seq ?_
  refine JX.region ?_
  refine JL.val (yl_lss rfl rfl) rfl ?_
  refine JL.nil ?_
  refine JE.code ?_
  refine JX.seq ?_
  rcases cond_some hres with ⟨hb, hres⟩ | ⟨hb, hres⟩
  · refine JX.condT rfl hb ?_
    refine JX.skip ?_
    refine JE.code ?_
    refine JX.seq ?_
    refine JX.block ?_
    refine JX.region ?_
    refine JL.val (yl_move rfl) rfl ?_
    refine JL.val (yl_move rfl) rfl ?_
    obtain ⟨x17, hx17, hres⟩ := bind_some hres
    refine JL.eff (ef_makeS (e := eBool) Go.Proofs.Try.underlying104 i4 i4s i4z rfl i4b1 rfl rfl hx17) rfl ?_
    rintro _ _ ⟨a18, rfl, rfl⟩
    refine JL.eff (ef_buildSlice (E := 104) (k := eHd.k) (us := eHd.fl [⟨a18, x17.length, x17.length⟩]) rfl (fun w => bsl99_1 a18 x17.length x17.length w) rfl (by decide)) rfl ?_
    rintro _ _ ⟨a20, rfl, rfl⟩
    obtain ⟨x22, hx22, hres⟩ := bind_some hres
    refine JL.eff (ef_appendH (ix := 1) Go.Proofs.Try.underlying99 i104 i104z i104s rfl i104b0 i104b1 rfl rfl (Inn.len hi16) rfl rfl (fun w hC => rd_row hC 4 rfl) hx22 hi16) rfl ?_
    rintro _ _ ⟨a23, cp24, rfl, rfl⟩
    refine JL.absorb (es' := [boxO 28 g1 [.int .i64 q0.W, .int .i64 q0.H, .slice a_0_2 q0.Breaks.length c_0_2], rowT 104 eHd a23 x22.length cp24 (hs15 ++ [⟨a18, x17.length, x17.length⟩]), rowT 104 eHd a20 1 1 [⟨a18, x17.length, x17.length⟩]]) [0, 1, 4, 2, 3] (by decide) rfl (appL_some hx22).2 ?_
    refine JL.val (yl_assign rfl) rfl ?_
    refine JL.nil ?_
    refine JE.weak (env' := [(1, ptrAt (some ⟨g1, 0, none⟩) 0), (3, .slice a23 x22.length cp24), (4, .int .i64 x6), (13, .int .i64 x6), (14, .int .i64 x11)]) (es' := [boxO 28 g1 [.int .i64 q0.W, .int .i64 q0.H, .slice a_0_2 q0.Breaks.length c_0_2], rowT 104 eHd a23 x22.length cp24 (hs15 ++ [⟨a18, x17.length, x17.length⟩]), innO 4 eBool none (hs15 ++ [⟨a18, x17.length, x17.length⟩]) x22]) [0, 1, 3] ?_ ⟨rfl, rfl, rfl, rfl, rfl, trivial⟩ (by decide) rfl
    refine JE.code ?_
    refine JX.region ?_
    refine JL.val (yl_add rfl rfl) rfl ?_
    refine JL.val (yl_move rfl) rfl ?_
    refine JL.nil ?_
    refine JE.cont hres ?_
    exact fun a w h => ⟨a23, cp24, hs15 ++ [⟨a18, x17.length, x17.length⟩], (Inn.appZ hi16 rfl (appL_some hx22).2), h.weak ⟨rfl, (by first | rfl | (simp only [List.length_set]; rfl) | simp only [List.length_set]), rfl, rfl, rfl, trivial⟩ [0, 1, 2] (by decide) (by first | rfl | (simp only [List.length_set]; rfl) | simp only [List.length_set])⟩
  · refine JX.condF rfl hb ?_
    refine JX.exit ?_
    refine JE.qb rfl ?_
    obtain ⟨b1, hb1⟩ : ∃ b : List (List Bool), b = x12 := ⟨_, rfl⟩
    have hy1 : b1 = y1 := by rw [hb1]; exact hox1 _ (Option.some.inj hres).symm
    have hres := hresO1
    rw [← hy1] at hres
    have hi28 : Inn hs15 b1 := by subst hb1; exact hi16
    refine JE.weak (env' := [(1, ptrAt (some ⟨g1, 0, none⟩) 0), (3, .slice a13 b1.length cp14)]) (es' := [boxO 28 g1 [.int .i64 q0.W, .int .i64 q0.H, .slice a_0_2 q0.Breaks.length c_0_2], rowT 104 eHd a13 b1.length cp14 hs15, innO 4 eBool none hs15 b1]) [0, 1, 2] ?_ ⟨(by subst hb1; rfl), (by subst hb1; first | rfl | (simp only [List.length_set]; rfl) | simp only [List.length_set]), trivial⟩ (by decide) (by subst hb1; first | rfl | (simp only [List.length_set]; rfl) | simp only [List.length_set])
    refine JE.code ?_
    refine JX.seq ?_
    refine JX.region ?_
    refine JL.val (yl_loadn Go.Proofs.Try.underlying28 rfl i28 rfl (fun w hC => rd_box hC 0 rfl) rfl (i28s).symm i28p) rfl ?_
    obtain ⟨x29, hx29, hres⟩ := bind_some hres
    refine JL.eff (ef_call (vs := [.agg #[.int .i64 q0.W, .int .i64 q0.H, .slice a_0_2 q0.Breaks.length c_0_2]]) (T := T114 x29) Go.Proofs.Try.func114 rfl (by kernel_rfl) rfl (fun w hC => c114 (q0 := q0) (rd_arg g_0_2 hC) rfl k_0_2 hx29)) rfl ?_
    rintro _ _ ⟨_, ⟨a30, _, cp31, hs33, rfl, hi34, a36, _, cp37, rfl, rfl, rfl⟩, rfl⟩
    refine JL.val (yl_move rfl) rfl ?_
    refine JL.val (yl_extract rfl rfl) rfl ?_
    refine JL.val (yl_extract rfl rfl) rfl ?_
    refine JL.val (yl_assign rfl) rfl ?_
    refine JL.val (yl_assign rfl) rfl ?_
    refine JL.nil ?_
    refine JE.weak (env' := [(1, ptrAt (some ⟨g1, 0, none⟩) 0), (3, .slice a13 b1.length cp14), (6, .slice a36 x29.2.length cp37)]) (es' := [boxO 28 g1 [.int .i64 q0.W, .int .i64 q0.H, .slice a_0_2 q0.Breaks.length c_0_2], rowT 104 eHd a13 b1.length cp14 hs15, innO 4 eBool none hs15 b1, rowT 2 eI64 a36 x29.2.length cp37 x29.2]) [0, 1, 2, 5] ?_ ⟨rfl, rfl, rfl, trivial⟩ (by decide) rfl
    refine JE.code ?_
    refine JX.seq ?_
    refine JX.seq ?_
    refine JX.region ?_
    refine JL.val (yl_loadn Go.Proofs.Try.underlying28 rfl i28 rfl (fun w hC => rd_box hC 0 rfl) rfl (i28s).symm i28p) rfl ?_
    obtain ⟨x39, hx39, hres⟩ := bind_some hres
    refine JL.eff (ef_call (vs := [.agg #[.int .i64 q0.W, .int .i64 q0.H, .slice a_0_2 q0.Breaks.length c_0_2]]) (T := T156 x39) Go.Proofs.Try.func156 rfl (by kernel_rfl) rfl (fun w hC => c156 (q0 := q0) (rd_arg g_0_2 hC) rfl k_0_2 hx39)) rfl ?_
    rintro _ _ ⟨_, ⟨a40, _, cp41, rfl, rfl, rfl⟩, rfl⟩
    refine JL.val (yl_len_slice Go.Proofs.Try.underlying61 rfl) rfl ?_
    refine JL.val (yl_move rfl) rfl ?_
    refine JL.nil ?_
    refine JE.weak (env' := [(1, ptrAt (some ⟨g1, 0, none⟩) 0), (3, .slice a13 b1.length cp14), (6, .slice a36 x29.2.length cp37), (28, .slice a40 x39.length cp41), (29, .int .i64 (x39.length : Int)), (30, .int .i64 0)]) (es' := [boxO 28 g1 [.int .i64 q0.W, .int .i64 q0.H, .slice a_0_2 q0.Breaks.length c_0_2], rowT 104 eHd a13 b1.length cp14 hs15, innO 4 eBool none hs15 b1, rowT 2 eI64 a36 x29.2.length cp37 x29.2, rowT 35 eSPoint a40 x39.length cp41 x39]) [0, 1, 2, 3, 4] ?_ ⟨rfl, rfl, rfl, rfl, rfl, rfl, trivial⟩ (by decide) rfl
    refine JE.code ?_
    refine JX.block ?_
    obtain ⟨y2, hy2, hresO2⟩ := bind_some hres
    refine JX.loop (I := fun (s2 : Int × List (List Bool)) aa ww => ∃ (hi43 : Inn hs15 s2.2), St w [] 63 [(1, ptrAt (some ⟨g1, 0, none⟩) 0), (3, .slice a13 b1.length cp14), (6, .slice a36 x29.2.length cp37), (28, .slice a40 x39.length cp41), (29, .int .i64 (x39.length : Int)), (30, .int .i64 s2.1)] [boxO 28 g1 [.int .i64 q0.W, .int .i64 q0.H, .slice a_0_2 q0.Breaks.length c_0_2], rowT 104 eHd a13 b1.length cp14 hs15, innO 4 eBool none hs15 s2.2, rowT 2 eI64 a36 x29.2.length cp37 x29.2, rowT 35 eSPoint a40 x39.length cp41 x39] aa ww) (sh98_2 q0 x29 x39) hy2 (fun a w h => ⟨hi28, h.weak ⟨rfl, rfl, rfl, rfl, rfl, rfl, trivial⟩ [0, 1, 2, 3, 4] (by decide) rfl⟩) ?_
    rintro ⟨x44, x45⟩ o2 hres hox2 aa ww ⟨hi46, hS⟩
    refine (?_ : JX Go.Proofs.Try.prog w [] 63 _ _ [(1, ptrAt (some ⟨g1, 0, none⟩) 0), (3, .slice a13 b1.length cp14), (6, .slice a36 x29.2.length cp37), (28, .slice a40 x39.length cp41), (29, .int .i64 (x39.length : Int)), (30, .int .i64 x44)] [boxO 28 g1 [.int .i64 q0.W, .int .i64 q0.H, .slice a_0_2 q0.Breaks.length c_0_2], rowT 104 eHd a13 b1.length cp14 hs15, innO 4 eBool none hs15 x45, rowT 2 eI64 a36 x29.2.length cp37 x29.2, rowT 35 eSPoint a40 x39.length cp41 x39] _) aa ww hS
    clear hS
    simp only [sh98_2] at hres
    refine JX.seq ?_
    refine JX.region ?_
    refine JL.val (yl_lss rfl rfl) rfl ?_
    refine JL.nil ?_
    refine JE.code ?_
    refine JX.seq ?_
    rcases cond_some hres with ⟨hb, hres⟩ | ⟨hb, hres⟩
    · refine JX.condT rfl hb ?_
      refine JX.skip ?_
      refine JE.code ?_
      refine JX.seq ?_
      refine JX.block ?_
      refine JX.seq ?_
      refine JX.region ?_
      obtain ⟨x47, hx47, hres⟩ := bind_some hres
      refine JL.val (yl_idxT Go.Proofs.Try.underlying61 i35 i35s rfl rfl hx47 rfl (fun w hC => rd_row hC 4 rfl)) rfl ?_
      refine JL.val (yl_loadTn Go.Proofs.Try.underlying35 rfl i35 i35s rfl hx47 (fun w hC => rd_row hC 4 rfl)) rfl ?_
      refine JL.eff (ef_alloc i35 i35z rfl) rfl ?_
      rintro _ _ ⟨g48, rfl, rfl⟩
      refine JL.eff (ef_store_box (i := 5) (v := .agg #[.int .i64 x47.X, .int .i64 x47.Y]) i35 rfl rfl rfl (i35s).symm (Nat.le_of_ble_eq_true rfl) (by simp [Value.cells, Value.oneCell'])) rfl ?_
      rintro _ _ rfl
      refine JL.nil ?_
      refine JE.weak (env' := [(1, ptrAt (some ⟨g1, 0, none⟩) 0), (3, .slice a13 b1.length cp14), (6, .slice a36 x29.2.length cp37), (8, ptrAt (some ⟨g48, 0, none⟩) 0), (28, .slice a40 x39.length cp41), (29, .int .i64 (x39.length : Int)), (30, .int .i64 x44)]) (es' := [boxO 28 g1 [.int .i64 q0.W, .int .i64 q0.H, .slice a_0_2 q0.Breaks.length c_0_2], rowT 104 eHd a13 b1.length cp14 hs15, innO 4 eBool none hs15 x45, rowT 2 eI64 a36 x29.2.length cp37 x29.2, boxO 35 g48 [.int .i64 x47.X, .int .i64 x47.Y], rowT 35 eSPoint a40 x39.length cp41 x39]) [0, 1, 2, 3, 5, 4] ?_ ⟨rfl, rfl, rfl, rfl, rfl, rfl, rfl, trivial⟩ (by decide) rfl
      refine JE.code ?_
      refine JX.seq ?_
      refine JX.region ?_
      refine JL.val (yl_loadn Go.Proofs.Try.underlying28 rfl i28 rfl (fun w hC => rd_box hC 0 rfl) rfl (i28s).symm i28p) rfl ?_
      refine JL.val (yl_move rfl) rfl ?_
      refine JL.val (yl_loadn Go.Proofs.Try.underlying35 rfl i35 rfl (fun w hC => rd_box hC 4 rfl) rfl (i35s).symm i35p) rfl ?_
      obtain ⟨x50, hx50, hres⟩ := bind_some hres
      refine JL.eff (ef_call (vs := [.agg #[.int .i64 q0.W, .int .i64 q0.H, .slice a_0_2 q0.Breaks.length c_0_2], .slice a36 x29.2.length cp37, .agg #[.int .i64 x47.X, .int .i64 x47.Y]]) (T := T157 x50) Go.Proofs.Try.func157 rfl (by kernel_rfl) rfl (fun w hC => c157 (q0 := q0) (q2 := x47) (rd_arg g_0_2 hC) rfl k_0_2 (rd_row hC 3 rfl) rfl (ln_row hC 3 rfl) hx50)) rfl ?_
      rintro _ _ ⟨_, ⟨a51, _, cp52, rfl, rfl, rfl⟩, rfl⟩
      refine JL.val (yl_assign rfl) rfl ?_
      refine JL.nil ?_
      refine JE.weak (env' := [(1, ptrAt (some ⟨g1, 0, none⟩) 0), (3, .slice a13 b1.length cp14), (6, .slice a36 x29.2.length cp37), (9, .slice a51 x50.length cp52), (28, .slice a40 x39.length cp41), (29, .int .i64 (x39.length : Int)), (30, .int .i64 x44)]) (es' := [boxO 28 g1 [.int .i64 q0.W, .int .i64 q0.H, .slice a_0_2 q0.Breaks.length c_0_2], rowT 104 eHd a13 b1.length cp14 hs15, innO 4 eBool none hs15 x45, rowT 2 eI64 a36 x29.2.length cp37 x29.2, rowT 2 eI64 a51 x50.length cp52 x50, rowT 35 eSPoint a40 x39.length cp41 x39]) [0, 1, 2, 3, 6, 5] ?_ ⟨rfl, rfl, rfl, rfl, rfl, rfl, rfl, trivial⟩ (by decide) rfl
      refine JE.code ?_
      refine JX.seq ?_
      refine JX.region ?_
      refine JL.val (yl_move rfl) rfl ?_
      refine JL.val (yl_len_slice Go.Proofs.Try.underlying22 rfl) rfl ?_
      refine JL.val (yl_eql rfl rfl) rfl ?_
      refine JL.nil ?_
      refine JE.code ?_
      obtain ⟨j54, hj54, hresj54⟩ := bind_some hres
      refine JX.cut (K := fun J => ∀ (hi55 : Inn hs15 j54), J [(1, ptrAt (some ⟨g1, 0, none⟩) 0), (3, .slice a13 b1.length cp14), (6, .slice a36 x29.2.length cp37), (28, .slice a40 x39.length cp41), (29, .int .i64 (x39.length : Int)), (30, .int .i64 x44)] [boxO 28 g1 [.int .i64 q0.W, .int .i64 q0.H, .slice a_0_2 q0.Breaks.length c_0_2], rowT 104 eHd a13 b1.length cp14 hs15, innO 4 eBool none hs15 j54, rowT 2 eI64 a36 x29.2.length cp37 x29.2, rowT 35 eSPoint a40 x39.length cp41 x39]) ?_ ?_
      · intro hi55
        have hres := hresj54
        refine JE.code ?_
        refine JX.region ?_
        refine JL.val (yl_add rfl rfl) rfl ?_
        refine JL.val (yl_move rfl) rfl ?_
        refine JL.nil ?_
        refine JE.cont hres ?_
        exact fun a w h => ⟨hi55, h.weak ⟨rfl, rfl, rfl, rfl, rfl, rfl, trivial⟩ [0, 1, 2, 3, 4] (by decide) rfl⟩
      · intro K
        rcases cond_some hj54 with ⟨hb, hres⟩ | ⟨hb, hres⟩
        · refine JX.condT rfl hb ?_
          refine JX.drawH [(0, .pure), (1, .pure), (2, .pure), (3, .read), (4, .pure), (5, .read0), (6, .pure), (7, .pure), (8, .read), (9, .pure), (10, .pure), (11, .pure), (12, .read), (13, .pure), (14, .read0), (15, .pure), (16, .pure), (17, .read), (18, .pure), (19, .must), (20, .must), (21, .must)] [19, 21] [1, 2] [0, 3, 4, 5] [rowT 104 eHd a13 b1.length cp14 hs15, innO 4 eBool none hs15 x45] [boxO 28 g1 [.int .i64 q0.W, .int .i64 q0.H, .slice a_0_2 q0.Breaks.length c_0_2], rowT 2 eI64 a36 x29.2.length cp37 x29.2, rowT 2 eI64 a51 x50.length cp52 x50, rowT 35 eSPoint a40 x39.length cp41 x39] mixedP (by kernel_rfl) (by kernel_rfl) (by decide) rfl rfl ?_
          intro wrr56 Nr56 hFr56
          refine JH.pure rfl (yl_move rfl) rfl ?_
          refine JH.pure rfl (yl_move rfl) rfl ?_
          obtain ⟨x57, hx57, hres⟩ := bind_some hres
          refine JH.pure rfl (yl_idxQ Go.Proofs.Try.underlying22 i2 i2s rfl rfl hx57 rfl (rd_row hFr56.cl 4 rfl) rfl) rfl ?_
          refine JH.read rfl (yl_loadT0 Go.Proofs.Try.underlying2 rfl rfl hx57 (fun w hw => hFr56.row 4 rfl rfl hw) rfl) rfl ?_
          obtain ⟨x58, hx58, hres⟩ := bind_some hres
          obtain ⟨ha59, hc60, hhx58⟩ := Inn.sub hi46 hx58
          refine JH.pure rfl (yl_idxQ Go.Proofs.Try.underlying99 i104 i104s rfl rfl hhx58 (Inn.len hi28) (rd_row hFr56.cl 1 rfl) (Inn.len hi28)) rfl ?_
          refine JH.read0 rfl (yl_loadT0 (z := ⟨ha59, x58.length, hc60⟩) Go.Proofs.Try.underlying104 rfl rfl hhx58 (fun w hw => (rd_row hFr56.cl 1 rfl).bw hw) rfl) rfl ?_
          refine JH.pure rfl (yl_move rfl) rfl ?_
          obtain ⟨x62, hx62, hres⟩ := bind_some hres
          refine JH.pure rfl (yl_idxQ Go.Proofs.Try.underlying22 i2 i2s rfl rfl hx62 rfl (rd_row hFr56.cl 4 rfl) rfl) rfl ?_
          refine JH.read rfl (yl_loadT0 Go.Proofs.Try.underlying2 rfl rfl hx62 (fun w hw => hFr56.row 4 rfl rfl hw) rfl) rfl ?_
          refine JH.pure rfl (yl_move rfl) rfl ?_
          refine JH.pure rfl (yl_move rfl) rfl ?_
          obtain ⟨x63, hx63, hres⟩ := bind_some hres
          refine JH.pure rfl (yl_idxQ Go.Proofs.Try.underlying22 i2 i2s rfl rfl hx63 rfl (rd_row hFr56.cl 4 rfl) rfl) rfl ?_
          refine JH.read rfl (yl_loadT0 Go.Proofs.Try.underlying2 rfl rfl hx63 (fun w hw => hFr56.row 4 rfl rfl hw) rfl) rfl ?_
          obtain ⟨x64, hx64, hres⟩ := bind_some hres
          obtain ⟨ha65, hc66, hhx64⟩ := Inn.sub hi46 hx64
          refine JH.pure rfl (yl_idxQ Go.Proofs.Try.underlying99 i104 i104s rfl rfl hhx64 (Inn.len hi28) (rd_row hFr56.cl 1 rfl) (Inn.len hi28)) rfl ?_
          refine JH.read0 rfl (yl_loadT0 (z := ⟨ha65, x64.length, hc66⟩) Go.Proofs.Try.underlying104 rfl rfl hhx64 (fun w hw => (rd_row hFr56.cl 1 rfl).bw hw) rfl) rfl ?_
          refine JH.pure rfl (yl_move rfl) rfl ?_
          obtain ⟨x68, hx68, hres⟩ := bind_some hres
          refine JH.pure rfl (yl_idxQ Go.Proofs.Try.underlying22 i2 i2s rfl rfl hx68 rfl (rd_row hFr56.cl 4 rfl) rfl) rfl ?_
          refine JH.read rfl (yl_loadT0 Go.Proofs.Try.underlying2 rfl rfl hx68 (fun w hw => hFr56.row 4 rfl rfl hw) rfl) rfl ?_
          obtain ⟨x69, hx69, hres⟩ := bind_some hres
          refine JH.pure rfl (yl_idxQ Go.Proofs.Try.underlying104 i4 i4s rfl rfl hx69 rfl (RdI.sub (rd_inn hFr56.cl 2 rfl) hx58 hhx58) rfl) rfl ?_
          refine JH.focus (es' := [rowT 104 eHd a13 b1.length cp14 hs15]) [0, 1] (by decide) rfl hhx58 hx58 ?_
          refine JH.must rfl (ef_storeT (ix := 2) (u := true) i4 i4s rfl rfl rfl hx69 rfl) rfl rfl ?_
          rintro _ _ rfl
          refine JH.unfocus0 (es' := [rowT 104 eHd a13 b1.length cp14 hs15]) [0, 1, 2] (by decide) rfl hhx58 ?_
          obtain ⟨x71, hx71, hres⟩ := bind_some hres
          obtain ⟨_, _, hqx71⟩ := Inn.sub (Inn.set0 hi46 hx58 List.length_set) hx71
          have hlx71 : x71.length = x64.length := by have := (Option.some.inj (hqx71.symm.trans hhx64)); simpa using congrArg Hd.n this
          obtain ⟨x72, hx72, hres⟩ := bind_some hres
          refine JH.mval rfl (yl_idxT Go.Proofs.Try.underlying104 i4 i4s rfl rfl hx72 hlx71 (fun w hC => (RdI.sub (rd_inn hC 1 rfl) hx71 hhx64))) rfl ?_
          refine JH.focus (es' := [rowT 104 eHd a13 b1.length cp14 hs15]) [0, 1] (by decide) rfl hhx64 hx71 ?_
          refine JH.must rfl (ef_storeT (ix := 2) (u := true) i4 i4s rfl rfl rfl hx72 rfl) rfl rfl ?_
          rintro _ _ rfl
          refine JH.unfocus0 (es' := [rowT 104 eHd a13 b1.length cp14 hs15]) [0, 1, 2] (by decide) rfl hhx64 ?_
          refine JH.nil ?_
          refine JE.weak (env' := [(1, ptrAt (some ⟨g1, 0, none⟩) 0), (3, .slice a13 b1.length cp14), (6, .slice a36 x29.2.length cp37), (28, .slice a40 x39.length cp41), (29, .int .i64 (x39.length : Int)), (30, .int .i64 x44)]) (es' := [boxO 28 g1 [.int .i64 q0.W, .int .i64 q0.H, .slice a_0_2 q0.Breaks.length c_0_2], rowT 104 eHd a13 b1.length cp14 hs15, innO 4 eBool none hs15 ((x45.set (x57).toNat (x58.set (x62).toNat true)).set (x63).toNat (x71.set (x68).toNat true)), rowT 2 eI64 a36 x29.2.length cp37 x29.2, rowT 35 eSPoint a40 x39.length cp41 x39]) [0, 4, 5, 1, 3] ?_ ⟨rfl, rfl, rfl, rfl, rfl, rfl, trivial⟩ (by decide) rfl
          have hj := Option.some.inj hres
          exact JE.weak [0, 1, 2, 3, 4] (K (by subst hj; exact (Inn.set0 (Inn.set0 hi46 hx58 List.length_set) hx71 ((List.length_set.trans hlx71).trans hlx71.symm)))) ⟨(by subst hj; rfl), (by subst hj; rfl), (by subst hj; rfl), (by subst hj; rfl), (by subst hj; rfl), (by subst hj; rfl), trivial⟩ (by decide) (by subst hj; rfl)
        · refine JX.condF rfl hb ?_
          refine JX.skip ?_
          have hj := Option.some.inj hres
          exact JE.weak [0, 1, 2, 3, 5] (K (by subst hj; exact hi46)) ⟨(by subst hj; rfl), (by subst hj; rfl), (by subst hj; rfl), (by subst hj; rfl), (by subst hj; rfl), (by subst hj; rfl), trivial⟩ (by decide) (by subst hj; rfl)
    · refine JX.condF rfl hb ?_
      refine JX.exit ?_
      refine JE.qb rfl ?_
      obtain ⟨b2, hb2⟩ : ∃ b : List (List Bool), b = x45 := ⟨_, rfl⟩
      have hy2 : b2 = y2 := by rw [hb2]; exact hox2 _ (Option.some.inj hres).symm
      have hres := hresO2
      rw [← hy2] at hres
      have hi74 : Inn hs15 b2 := by subst hb2; exact hi46
      refine JE.weak (env' := [(3, .slice a13 b1.length cp14)]) (es' := [rowT 104 eHd a13 b1.length cp14 hs15, innO 4 eBool none hs15 b2]) [1, 2] ?_ ⟨(by subst hb2; rfl), trivial⟩ (by decide) (by subst hb2; rfl)
      refine JE.code ?_
      refine JX.seq ?_
      refine JX.region ?_
      refine JL.val (yl_move rfl) rfl ?_
      refine JL.val (yl_assign rfl) rfl ?_
      refine JL.nil ?_
      refine JE.code ?_
      refine JX.ret ?_
      obtain rfl := Option.some.inj hres
      refine JE.ret (rs := [.tmp 2]) (vs := [.slice a13 b1.length cp14]) rfl ⟨rfl, trivial⟩ ?_
      exact fun w' hb hs => ⟨_, _, ⟨a13, b1.length, cp14, hs15, ((Inn.len hi74).symm.trans (Inn.len hi28)), hi74, rfl, rfl⟩, rfl, hb, hs.sel [0, 1] _ (by decide) rfl⟩

/- slices.Clone[[]int64,int64] -/
def sh159 (q0 : List Int) : Option (List Int) := Option.bind (appL ([] : List Int) q0) fun x4 => some x4
def T159 (r : List Int) (v : Value) (rs : List Own) : Prop := ∃ (a0 : Option Addr) (n0 c0 : Nat), r.length = n0 ∧ v = rets [.slice a0 n0 c0] ∧ rs = [rowT 2 eI64 a0 n0 c0 r]
set_option maxRecDepth 100000 in
theorem c159 {w : World} {q0 : List Int} {a_0 : Option Addr} {n_0 c_0 : Nat} (g_0 : Rd w a_0 (eI64.fl q0)) (l_0 : q0.length = n_0) (k_0 : n_0 ≤ c_0) {r : List Int} (hres : sh159 q0 = some r) : Calls Go.Proofs.Try.prog 159 [.slice a_0 n_0 c_0].toArray w (Ret w (T159 r)) := by
  subst l_0
  unfold sh159 at hres
  refine calls_of (n := 8) (M := []) (es := []) Go.Proofs.Try.func159 rfl rfl rfl (Sep.nil _ _ _) ?_
  refine JX.seq ?_
  refine JX.region ?_
  refine JL.val (yl_assign rfl) rfl ?_
  refine JL.nil ?_
  refine JE.code ?_
  refine JX.seq ?_
  refine JX.seq ?_
  refine JX.region ?_
  refine JL.val (yl_move rfl) rfl ?_
  refine JL.val (yl_nilQ Go.Proofs.Try.underlying22 rfl rfl) rfl ?_
  refine JL.nil ?_
  refine JE.code ?_
  rcases nilQ g_0 with ⟨hb, hx⟩ | hb
  · replace hres : some ([] : List Int) = some r := by rw [hx] at hres; simpa [appL] using hres
    refine JX.condT rfl hb ?_
    refine JX.seq ?_
    refine JX.region ?_
    refine JL.val (yl_assign rfl) rfl ?_
    refine JL.nil ?_
    refine JE.code ?_
    refine JX.ret ?_
    refine JE.nilrow 2 eI64 ?_
    obtain rfl := Option.some.inj hres
    refine JE.ret (rs := [.tmp 2]) (vs := [.slice none 0 0]) rfl ⟨rfl, trivial⟩ ?_
    exact fun w' hb hs => ⟨_, _, ⟨none, 0, 0, rfl, rfl, rfl⟩, rfl, hb, hs.sel [0] _ (by decide) rfl⟩
  · refine JX.condF rfl hb ?_
    refine JX.skip ?_
    refine JE.code ?_
    refine JX.seq ?_
    refine JX.region ?_
    refine JL.eff (ef_buildSlice (E := 2) (k := eI64.k) (us := eI64.fl ([] : List Int)) rfl (fun w => bsl22_0  w) rfl (by decide)) rfl ?_
    rintro _ _ ⟨a2, rfl, rfl⟩
    refine JL.val (yl_move rfl) rfl ?_
    obtain ⟨x4, hx4, hres⟩ := bind_some hres
    refine JL.eff (ef_appendT (ix := 0) Go.Proofs.Try.underlying22 i2 i2z i2s rfl i2b0 i2b1 rfl rfl rfl rfl rfl (fun w hC => rd_arg g_0 hC) hx4) rfl ?_
    rintro _ _ ⟨a5, cp6, rfl, rfl⟩
    refine JL.val (yl_assign rfl) rfl ?_
    refine JL.nil ?_
    refine JE.weak (env' := [(2, .slice a5 x4.length cp6)]) (es' := [rowT 2 eI64 a5 x4.length cp6 x4]) [0] ?_ ⟨rfl, trivial⟩ (by decide) rfl
    refine JE.code ?_
    refine JX.ret ?_
    obtain rfl := Option.some.inj hres
    refine JE.ret (rs := [.tmp 2]) (vs := [.slice a5 x4.length cp6]) rfl ⟨rfl, trivial⟩ ?_
    exact fun w' hb hs => ⟨_, _, ⟨a5, x4.length, cp6, rfl, rfl, rfl⟩, rfl, hb, hs.sel [0] _ (by decide) rfl⟩

/- impl.canColour -/
def sh104_3 (q0 : List (List Bool)) (q1 : List Int) (x4 : Int) : (Bool × Int) → Option ((Bool × Int) ⊕ (Bool))
  | (x5, x6) => bif decide (x6 < (q1.length : Int)) then (Option.bind (getI q1 x6) fun x7 => Option.bind (bif x5 then (Option.bind (getI q0 (q1.length : Int)) fun x9 => Option.bind (getI x9 x6) fun x13 => some (!(x13 && (x7 == x4)))) else (some false)) fun cb8 => (some (.inl (cb8, w64 (x6 + 1))))) else (some (.inr x5))
def sh104_2 (q0 : List (List Bool)) (q1 : List Int) (q2 : Int) (rc : (List (List Bool)) → (List Int) → Int → Option (Bool)) (b1 : Int) : Int → Option (Int ⊕ (Unit ⊕ Bool))
  | x4 => bif decide (x4 < (if (w64 (b1 + 1)) < q2 then (w64 (b1 + 1)) else q2)) then (Option.bind (iter (sh104_3 q0 q1 x4) (true, 0)) fun b3 => (Option.bind (bif b3 then (Option.bind (sh159 q1) fun x15 => Option.bind (appL x15 [x4]) fun x21 => Option.bind (rc q0 x21 q2) fun x24 => some x24) else (some false)) fun cb14 => (bif cb14 then (some (.inr (.inr true))) else (some (.inl (w64 (x4 + 1))))))) else (some (.inr (.inl ())))
def sh104_1 (q1 : List Int) : (Int × Int) → Option ((Int × Int) ⊕ (Int))
  | (x1, x2) => bif decide (x2 < (q1.length : Int)) then (Option.bind (getI q1 x2) fun x3 => some (.inl (if x1 < (w64 (x3 + 1)) then (w64 (x3 + 1)) else x1, w64 (x2 + 1)))) else (some (.inr x1))
def sh104B (rc : (List (List Bool)) → (List Int) → Int → Option (Bool)) (q0 : List (List Bool)) (q1 : List Int) (q2 : Int) : Option (Bool) := bif (q1.length : Int) == ((q0.length : Nat) : Int) then (some true) else (Option.bind (iter (sh104_1 q1) (0, 0)) fun b1 => (Option.bind (iter (sh104_2 q0 q1 q2 rc b1) 0) fun y2 => elimS y2 (fun r => some r) fun b2 => (some false)))
def T104 (r : Bool) (v : Value) (rs : List Own) : Prop := v = rets [.bool r] ∧ rs = []
def sh104F : Nat → (List (List Bool)) → (List Int) → Int → Option (Bool)
  | 0 => fun _ _ _ => none
  | fu + 1 => sh104B (sh104F fu)
def sh104 (q0 : List (List Bool)) (q1 : List Int) (q2 : Int) : Option (Bool) := sh104F 2000 q0 q1 q2
set_option maxRecDepth 100000 in
set_option maxHeartbeats 1000000 in
theorem c104S (rc : (List (List Bool)) → (List Int) → Int → Option (Bool)) (ih : ∀ {w : World} {q0 : List (List Bool)} {a_0 : Option Addr} {n_0 c_0 : Nat} {h_0 : List Hd} (g_0 : Rd w a_0 (eHd.fl h_0)) (r_0 : RdI w eBool h_0 q0) (i_0 : Inn h_0 q0) (l_0 : q0.length = n_0) (k_0 : n_0 ≤ c_0) {q1 : List Int} {a_1 : Option Addr} {n_1 c_1 : Nat} (g_1 : Rd w a_1 (eI64.fl q1)) (l_1 : q1.length = n_1) (k_1 : n_1 ≤ c_1) {q2 : Int} {r : Bool} (hres : rc q0 q1 q2 = some r), Calls Go.Proofs.Try.prog 104 [.slice a_0 n_0 c_0, .slice a_1 n_1 c_1, .int .i64 q2].toArray w (Ret w (T104 r))) {w : World} {q0 : List (List Bool)} {a_0 : Option Addr} {n_0 c_0 : Nat} {h_0 : List Hd} (g_0 : Rd w a_0 (eHd.fl h_0)) (r_0 : RdI w eBool h_0 q0) (i_0 : Inn h_0 q0) (l_0 : q0.length = n_0) (k_0 : n_0 ≤ c_0) {q1 : List Int} {a_1 : Option Addr} {n_1 c_1 : Nat} (g_1 : Rd w a_1 (eI64.fl q1)) (l_1 : q1.length = n_1) (k_1 : n_1 ≤ c_1) {q2 : Int} {r : Bool} (hres : sh104B rc q0 q1 q2 = some r) : Calls Go.Proofs.Try.prog 104 [.slice a_0 n_0 c_0, .slice a_1 n_1 c_1, .int .i64 q2].toArray w (Ret w (T104 r)) := by
  subst l_0
  subst l_1
  unfold sh104B at hres
  refine calls_of (n := 75) (M := []) (es := []) Go.Proofs.Try.func104 rfl rfl rfl (Sep.nil _ _ _) ?_
  refine JX.seq ?_
  refine JX.region ?_
  refine JL.val (yl_assign rfl) rfl ?_
  refine JL.nil ?_
  refine JE.code ?_
  refine JX.seq ?_
  refine JX.region ?_
  refine JL.val (yl_move rfl) rfl ?_
  refine JL.val (yl_len_slice Go.Proofs.Try.underlying22 rfl) rfl ?_
  refine JL.val (yl_assign rfl) rfl ?_
  refine JL.nil ?_
  refine JE.code ?_
  refine JX.seq ?_
  refine JX.seq ?_
  refine JX.region ?_
  refine JL.val (yl_move rfl) rfl ?_
  refine JL.val (yl_move rfl) rfl ?_
  refine JL.val (yl_len_slice Go.Proofs.Try.underlying99 rfl) rfl ?_
  refine JL.val (yl_eql rfl rfl) rfl ?_
  refine JL.nil ?_
  refine JE.weak (env' := [(0, .slice a_0 q0.length c_0), (1, .slice a_1 q1.length c_1), (2, .int .i64 q2), (7, .int .i64 (q1.length : Int)), (20, .bool ((q1.length : Int) == ((q0.length : Nat) : Int)))]) (es' := []) [] ?_ ⟨rfl, rfl, rfl, rfl, rfl, trivial⟩ (by decide) rfl
  refine JE.code ?_
  rcases cond_some hres with ⟨hb, hres⟩ | ⟨hb, hres⟩
  · refine JX.condT rfl hb ?_
    refine JX.seq ?_
    refine JX.region ?_
    refine JL.val (yl_assign rfl) rfl ?_
    refine JL.nil ?_
    refine JE.code ?_
    refine JX.ret ?_
    obtain rfl := Option.some.inj hres
    refine JE.ret (rs := [.tmp 6]) (vs := [.bool true]) rfl ⟨rfl, trivial⟩ ?_
    exact fun w' hb hs => ⟨_, _, ⟨rfl, rfl⟩, rfl, hb, hs.sel [] _ (by decide) rfl⟩
  · refine JX.condF rfl hb ?_
    refine JX.skip ?_
    refine JE.code ?_
    refine JX.seq ?_
    refine JX.region ?_
    refine JL.val (yl_assign rfl) rfl ?_
    refine JL.nil ?_
    refine JE.code ?_
    refine JX.seq ?_
    refine JX.seq ?_
    refine JX.region ?_
    refine JL.val (yl_move rfl) rfl ?_
    refine JL.val (yl_len_slice Go.Proofs.Try.underlying22 rfl) rfl ?_
    refine JL.val (yl_move rfl) rfl ?_
    refine JL.nil ?_
    refine JE.code ?_
    refine JX.block ?_
    obtain ⟨y1, hy1, hresO1⟩ := bind_some hres
    refine JX.loop (I := fun (s1 : Int × Int) aa ww => St w [] 75 [(0, .slice a_0 q0.length c_0), (1, .slice a_1 q1.length c_1), (2, .int .i64 q2), (7, .int .i64 (q1.length : Int)), (8, .int .i64 s1.1), (21, .slice a_1 q1.length c_1), (22, .int .i64 (q1.length : Int)), (23, .int .i64 s1.2)] [] aa ww) (sh104_1 q1) hy1 (fun a w h => h.weak ⟨rfl, rfl, rfl, rfl, rfl, rfl, rfl, rfl, trivial⟩ [] (by decide) rfl) ?_
    rintro ⟨x1, x2⟩ o1 hres hox1 aa ww hS
    refine (?_ : JX Go.Proofs.Try.prog w [] 75 _ _ [(0, .slice a_0 q0.length c_0), (1, .slice a_1 q1.length c_1), (2, .int .i64 q2), (7, .int .i64 (q1.length : Int)), (8, .int .i64 x1), (21, .slice a_1 q1.length c_1), (22, .int .i64 (q1.length : Int)), (23, .int .i64 x2)] [] _) aa ww hS
    clear hS
    simp only [sh104_1] at hres
    refine JX.seq ?_
    refine JX.region ?_
    refine JL.val (yl_lss rfl rfl) rfl ?_
    refine JL.nil ?_
    refine JE.code ?_
    refine JX.seq ?_
    rcases cond_some hres with ⟨hb, hres⟩ | ⟨hb, hres⟩
    · refine JX.condT rfl hb ?_
      refine JX.skip ?_
      refine JE.code ?_
      refine JX.seq ?_
      refine JX.block ?_
      refine JX.seq ?_
      refine JX.region ?_
      obtain ⟨x3, hx3, hres⟩ := bind_some hres
      refine JL.val (yl_idxT Go.Proofs.Try.underlying22 i2 i2s rfl rfl hx3 rfl (fun w hC => rd_arg g_1 hC)) rfl ?_
      refine JL.val (yl_loadT0 Go.Proofs.Try.underlying2 rfl rfl hx3 (fun w hC => rd_arg g_1 hC) rfl) rfl ?_
      refine JL.val (yl_assign rfl) rfl ?_
      refine JL.nil ?_
      refine JE.code ?_
      refine JX.region ?_
      refine JL.val (yl_move rfl) rfl ?_
      refine JL.val (yl_move rfl) rfl ?_
      refine JL.val (yl_add rfl rfl) rfl ?_
      refine JL.val (yl_max rfl rfl) rfl ?_
      refine JL.val (yl_assign rfl) rfl ?_
      refine JL.nil ?_
      refine JE.weak (env' := [(0, .slice a_0 q0.length c_0), (1, .slice a_1 q1.length c_1), (2, .int .i64 q2), (7, .int .i64 (q1.length : Int)), (8, .int .i64 (if x1 < (w64 (x3 + 1)) then (w64 (x3 + 1)) else x1)), (21, .slice a_1 q1.length c_1), (22, .int .i64 (q1.length : Int)), (23, .int .i64 x2)]) (es' := []) [] ?_ ⟨rfl, rfl, rfl, rfl, rfl, rfl, rfl, rfl, trivial⟩ (by decide) rfl
      refine JE.code ?_
      refine JX.region ?_
      refine JL.val (yl_add rfl rfl) rfl ?_
      refine JL.val (yl_move rfl) rfl ?_
      refine JL.nil ?_
      refine JE.cont hres ?_
      exact fun a w h => h.weak ⟨rfl, rfl, rfl, rfl, rfl, rfl, rfl, rfl, trivial⟩ [] (by decide) rfl
    · refine JX.condF rfl hb ?_
      refine JX.exit ?_
      refine JE.qb rfl ?_
      obtain ⟨b1, hb1⟩ : ∃ b : Int, b = x1 := ⟨_, rfl⟩
      have hy1 : b1 = y1 := by rw [hb1]; exact hox1 _ (Option.some.inj hres).symm
      have hres := hresO1
      rw [← hy1] at hres
      refine JE.weak (env' := [(0, .slice a_0 q0.length c_0), (1, .slice a_1 q1.length c_1), (2, .int .i64 q2), (7, .int .i64 (q1.length : Int)), (8, .int .i64 b1)]) (es' := []) [] ?_ ⟨(by subst hb1; rfl), (by subst hb1; rfl), (by subst hb1; rfl), (by subst hb1; rfl), (by subst hb1; rfl), trivial⟩ (by decide) (by subst hb1; rfl)
      refine JE.code ?_
      refine JX.seq ?_
      refine JX.seq ?_
      refine JX.region ?_
      refine JL.val (yl_move rfl) rfl ?_
      refine JL.val (yl_move rfl) rfl ?_
      refine JL.val (yl_add rfl rfl) rfl ?_
      refine JL.val (yl_min rfl rfl) rfl ?_
      refine JL.val (yl_move rfl) rfl ?_
      refine JL.nil ?_
      refine JE.weak (env' := [(0, .slice a_0 q0.length c_0), (1, .slice a_1 q1.length c_1), (2, .int .i64 q2), (7, .int .i64 (q1.length : Int)), (35, .int .i64 (if (w64 (b1 + 1)) < q2 then (w64 (b1 + 1)) else q2)), (36, .int .i64 0)]) (es' := []) [] ?_ ⟨rfl, rfl, rfl, rfl, rfl, rfl, trivial⟩ (by decide) rfl
      refine JE.code ?_
      refine JX.block ?_
      obtain ⟨y2, hy2, hresO2⟩ := bind_some hres
      refine JX.loop (I := fun (s2 : Int) aa ww => St w [] 75 [(0, .slice a_0 q0.length c_0), (1, .slice a_1 q1.length c_1), (2, .int .i64 q2), (7, .int .i64 (q1.length : Int)), (35, .int .i64 (if (w64 (b1 + 1)) < q2 then (w64 (b1 + 1)) else q2)), (36, .int .i64 s2)] [] aa ww) (sh104_2 q0 q1 q2 rc b1) hy2 (fun a w h => h.weak ⟨rfl, rfl, rfl, rfl, rfl, rfl, trivial⟩ [] (by decide) rfl) ?_
      rintro x4 o2 hres hox2 aa ww hS
      refine (?_ : JX Go.Proofs.Try.prog w [] 75 _ _ [(0, .slice a_0 q0.length c_0), (1, .slice a_1 q1.length c_1), (2, .int .i64 q2), (7, .int .i64 (q1.length : Int)), (35, .int .i64 (if (w64 (b1 + 1)) < q2 then (w64 (b1 + 1)) else q2)), (36, .int .i64 x4)] [] _) aa ww hS
      clear hS
      unfold sh104_2 at hres
      refine JX.seq ?_
      refine JX.region ?_
      refine JL.val (yl_lss rfl rfl) rfl ?_
      refine JL.nil ?_
      refine JE.code ?_
      refine JX.seq ?_
      rcases cond_some hres with ⟨hb, hres⟩ | ⟨hb, hres⟩
      · refine JX.condT rfl hb ?_
        refine JX.skip ?_
        refine JE.code ?_
        refine JX.seq ?_
        refine JX.block ?_
        refine JX.seq ?_
        refine JX.region ?_
        refine JL.val (yl_move rfl) rfl ?_
        refine JL.val (yl_assign rfl) rfl ?_
        refine JL.nil ?_
        refine JE.code ?_
        refine JX.seq ?_
        refine JX.region ?_
        refine JL.val (yl_assign rfl) rfl ?_
        refine JL.nil ?_
        refine JE.code ?_
        refine JX.seq ?_
        refine JX.seq ?_
        refine JX.region ?_
        refine JL.val (yl_move rfl) rfl ?_
        refine JL.val (yl_len_slice Go.Proofs.Try.underlying22 rfl) rfl ?_
        refine JL.val (yl_move rfl) rfl ?_
        refine JL.nil ?_
        refine JE.code ?_
        refine JX.block ?_
        obtain ⟨y3, hy3, hresO3⟩ := bind_some hres
        refine JX.loop (I := fun (s3 : Bool × Int) aa ww => St w [] 75 [(0, .slice a_0 q0.length c_0), (1, .slice a_1 q1.length c_1), (2, .int .i64 q2), (7, .int .i64 (q1.length : Int)), (11, .int .i64 x4), (12, .bool s3.1), (35, .int .i64 (if (w64 (b1 + 1)) < q2 then (w64 (b1 + 1)) else q2)), (36, .int .i64 x4), (39, .slice a_1 q1.length c_1), (40, .int .i64 (q1.length : Int)), (41, .int .i64 s3.2)] [] aa ww) (sh104_3 q0 q1 x4) hy3 (fun a w h => h.weak ⟨rfl, rfl, rfl, rfl, rfl, rfl, rfl, rfl, rfl, rfl, rfl, trivial⟩ [] (by decide) rfl) ?_
        rintro ⟨x5, x6⟩ o3 hres hox3 aa ww hS
        refine (?_ : JX Go.Proofs.Try.prog w [] 75 _ _ [(0, .slice a_0 q0.length c_0), (1, .slice a_1 q1.length c_1), (2, .int .i64 q2), (7, .int .i64 (q1.length : Int)), (11, .int .i64 x4), (12, .bool x5), (35, .int .i64 (if (w64 (b1 + 1)) < q2 then (w64 (b1 + 1)) else q2)), (36, .int .i64 x4), (39, .slice a_1 q1.length c_1), (40, .int .i64 (q1.length : Int)), (41, .int .i64 x6)] [] _) aa ww hS
        clear hS
        simp only [sh104_3] at hres
        refine JX.seq ?_
        refine JX.region ?_
        refine JL.val (yl_lss rfl rfl) rfl ?_
        refine JL.nil ?_
        refine JE.code ?_
        refine JX.seq ?_
        rcases cond_some hres with ⟨hb, hres⟩ | ⟨hb, hres⟩
        · refine JX.condT rfl hb ?_
          refine JX.skip ?_
          refine JE.code ?_
          refine JX.seq ?_
          refine JX.block ?_
          refine JX.seq ?_
          refine JX.region ?_
          refine JL.val (yl_move rfl) rfl ?_
          obtain ⟨x7, hx7, hres⟩ := bind_some hres
          refine JL.val (yl_idxT Go.Proofs.Try.underlying22 i2 i2s rfl rfl hx7 rfl (fun w hC => rd_arg g_1 hC)) rfl ?_
          refine JL.val (yl_loadT0 Go.Proofs.Try.underlying2 rfl rfl hx7 (fun w hC => rd_arg g_1 hC) rfl) rfl ?_
          refine JL.val (yl_assign rfl) rfl ?_
          refine JL.val (yl_assign rfl) rfl ?_
          refine JL.nil ?_
          refine JE.weak (env' := [(0, .slice a_0 q0.length c_0), (1, .slice a_1 q1.length c_1), (2, .int .i64 q2), (7, .int .i64 (q1.length : Int)), (11, .int .i64 x4), (12, .bool x5), (13, .int .i64 x6), (14, .int .i64 x7), (35, .int .i64 (if (w64 (b1 + 1)) < q2 then (w64 (b1 + 1)) else q2)), (36, .int .i64 x4), (39, .slice a_1 q1.length c_1), (40, .int .i64 (q1.length : Int)), (41, .int .i64 x6)]) (es' := []) [] ?_ ⟨rfl, rfl, rfl, rfl, rfl, rfl, rfl, rfl, rfl, rfl, rfl, rfl, rfl, trivial⟩ (by decide) rfl
          refine JE.code ?_
          refine JX.region ?_
          refine JL.val (yl_move rfl) rfl ?_
          refine JL.val (yl_move rfl) rfl ?_
          obtain ⟨cb8, hcb8, hres⟩ := bind_some hres
          refine JL.cut (K := fun J => J [(0, .slice a_0 q0.length c_0), (1, .slice a_1 q1.length c_1), (2, .int .i64 q2), (7, .int .i64 (q1.length : Int)), (11, .int .i64 x4), (35, .int .i64 (if (w64 (b1 + 1)) < q2 then (w64 (b1 + 1)) else q2)), (36, .int .i64 x4), (39, .slice a_1 q1.length c_1), (40, .int .i64 (q1.length : Int)), (41, .int .i64 x6), (61, .bool cb8)] []) 14 ?_ ?_
          · refine JL.val (yl_assign rfl) rfl ?_
            refine JL.nil ?_
            refine JE.weak (env' := [(0, .slice a_0 q0.length c_0), (1, .slice a_1 q1.length c_1), (2, .int .i64 q2), (7, .int .i64 (q1.length : Int)), (11, .int .i64 x4), (12, .bool cb8), (35, .int .i64 (if (w64 (b1 + 1)) < q2 then (w64 (b1 + 1)) else q2)), (36, .int .i64 x4), (39, .slice a_1 q1.length c_1), (40, .int .i64 (q1.length : Int)), (41, .int .i64 x6)]) (es' := []) [] ?_ ⟨rfl, rfl, rfl, rfl, rfl, rfl, rfl, rfl, rfl, rfl, rfl, trivial⟩ (by decide) rfl
            refine JE.code ?_
            refine JX.region ?_
            refine JL.val (yl_add rfl rfl) rfl ?_
            refine JL.val (yl_move rfl) rfl ?_
            refine JL.nil ?_
            refine JE.cont hres ?_
            exact fun a w h => h.weak ⟨rfl, rfl, rfl, rfl, rfl, rfl, rfl, rfl, rfl, rfl, rfl, trivial⟩ [] (by decide) rfl
          · intro K
            rcases cond_some hcb8 with ⟨hb, hres⟩ | ⟨hb, hres⟩
            · refine JL.set (d := 47) (v := .bool true) (congrArg (fun b => some (Value.bool b)) hb) ?_
              refine JL.gval rfl rfl (yl_move rfl) rfl ?_
              refine JL.gval rfl rfl (yl_move rfl) rfl ?_
              obtain ⟨x9, hx9, hres⟩ := bind_some hres
              obtain ⟨ha10, hc11, hhx9⟩ := Inn.sub i_0 hx9
              refine JL.gval rfl rfl (yl_idxT Go.Proofs.Try.underlying99 i104 i104s rfl rfl hhx9 (Inn.len i_0) (fun w hC => rd_arg g_0 hC)) rfl ?_
              refine JL.gval rfl rfl (yl_loadT0 (z := ⟨ha10, x9.length, hc11⟩) Go.Proofs.Try.underlying104 rfl rfl hhx9 (fun w hC => rd_arg g_0 hC) rfl) rfl ?_
              refine JL.gval rfl rfl (yl_move rfl) rfl ?_
              obtain ⟨x13, hx13, hres⟩ := bind_some hres
              refine JL.gval rfl rfl (yl_idxT Go.Proofs.Try.underlying104 i4 i4s rfl rfl hx13 rfl (fun w hC => rd_arg (RdI.sub r_0 hx9 hhx9) hC)) rfl ?_
              refine JL.gval rfl rfl (yl_loadT0 Go.Proofs.Try.underlying4 rfl rfl hx13 (fun w hC => rd_arg (RdI.sub r_0 hx9 hhx9) hC) rfl) rfl ?_
              refine JL.gval rfl rfl (yl_move rfl) rfl ?_
              refine JL.cut (K := fun J => J [(0, .slice a_0 q0.length c_0), (1, .slice a_1 q1.length c_1), (2, .int .i64 q2), (7, .int .i64 (q1.length : Int)), (11, .int .i64 x4), (35, .int .i64 (if (w64 (b1 + 1)) < q2 then (w64 (b1 + 1)) else q2)), (36, .int .i64 x4), (39, .slice a_1 q1.length c_1), (40, .int .i64 (q1.length : Int)), (41, .int .i64 x6), (47, .bool true), (59, .bool (x13 && (x7 == x4)))] []) 4 ?_ ?_
              · refine JL.gval rfl rfl (yl_not rfl) rfl ?_
                refine JL.val (yl_pick_true rfl rfl) rfl ?_
                have he := Option.some.inj hres
                exact JL.weak [] K ⟨rfl, rfl, rfl, rfl, rfl, rfl, rfl, rfl, rfl, rfl, (by rw [← he]; rfl), trivial⟩ (by decide) rfl
              · intro K
                rcases Bool.eq_false_or_eq_true (x13) with hb | hb
                · refine JL.set (d := 55) (v := .bool true) (congrArg (fun b => some (Value.bool b)) hb) ?_
                  refine JL.gval rfl rfl (yl_move rfl) rfl ?_
                  refine JL.gval rfl rfl (yl_move rfl) rfl ?_
                  refine JL.gval rfl rfl (yl_eql rfl rfl) rfl ?_
                  refine JL.gval rfl rfl (yl_pick_true rfl rfl) rfl ?_
                  exact JL.weak [] K ⟨rfl, rfl, rfl, rfl, rfl, rfl, rfl, rfl, rfl, rfl, rfl, (by rw [hb]; rfl), trivial⟩ (by decide) rfl
                · refine JL.set (d := 55) (v := .bool false) (congrArg (fun b => some (Value.bool b)) hb) ?_
                  refine JL.gskip rfl rfl rfl rfl ?_
                  refine JL.gskip rfl rfl rfl rfl ?_
                  refine JL.gskip rfl rfl rfl rfl ?_
                  refine JL.gval rfl rfl (yl_pick_false rfl rfl) rfl ?_
                  exact JL.weak [] K ⟨rfl, rfl, rfl, rfl, rfl, rfl, rfl, rfl, rfl, rfl, rfl, (by rw [hb]; rfl), trivial⟩ (by decide) rfl
            · refine JL.set (d := 47) (v := .bool false) (congrArg (fun b => some (Value.bool b)) hb) ?_
              refine JL.gskip rfl rfl rfl rfl ?_
              refine JL.gskip rfl rfl rfl rfl ?_
              refine JL.gskip rfl rfl rfl rfl ?_
              refine JL.gskip rfl rfl rfl rfl ?_
              refine JL.gskip rfl rfl rfl rfl ?_
              refine JL.gskip rfl rfl rfl rfl ?_
              refine JL.gskip rfl rfl rfl rfl ?_
              refine JL.gskip rfl rfl rfl rfl ?_
              refine JL.gnone rfl rfl rfl ?_
              refine JL.gnone rfl rfl rfl ?_
              refine JL.gnone rfl rfl rfl ?_
              refine JL.gskip rfl rfl rfl rfl ?_
              refine JL.gskip rfl rfl rfl rfl ?_
              refine JL.val (yl_pick_false rfl rfl) rfl ?_
              have he := Option.some.inj hres
              exact JL.weak [] K ⟨rfl, rfl, rfl, rfl, rfl, rfl, rfl, rfl, rfl, rfl, (by rw [← he]; rfl), trivial⟩ (by decide) rfl
        · refine JX.condF rfl hb ?_
          refine JX.exit ?_
          refine JE.qb rfl ?_
          obtain ⟨b3, hb3⟩ : ∃ b : Bool, b = x5 := ⟨_, rfl⟩
          have hy3 : b3 = y3 := by rw [hb3]; exact hox3 _ (Option.some.inj hres).symm
          have hres := hresO3
          rw [← hy3] at hres
          refine JE.weak (env' := [(0, .slice a_0 q0.length c_0), (1, .slice a_1 q1.length c_1), (2, .int .i64 q2), (7, .int .i64 (q1.length : Int)), (11, .int .i64 x4), (12, .bool b3), (35, .int .i64 (if (w64 (b1 + 1)) < q2 then (w64 (b1 + 1)) else q2)), (36, .int .i64 x4)]) (es' := []) [] ?_ ⟨(by subst hb3; rfl), (by subst hb3; rfl), (by subst hb3; rfl), (by subst hb3; rfl), (by subst hb3; rfl), (by subst hb3; rfl), (by subst hb3; rfl), (by subst hb3; rfl), trivial⟩ (by decide) (by subst hb3; rfl)
          refine JE.code ?_
          refine JX.seq ?_
          refine JX.region ?_
          refine JL.val (yl_move rfl) rfl ?_
          refine JL.val (yl_move rfl) rfl ?_
          obtain ⟨cb14, hcb14, hres⟩ := bind_some hres
          refine JL.cut (K := fun J => J [(0, .slice a_0 q0.length c_0), (1, .slice a_1 q1.length c_1), (2, .int .i64 q2), (7, .int .i64 (q1.length : Int)), (35, .int .i64 (if (w64 (b1 + 1)) < q2 then (w64 (b1 + 1)) else q2)), (36, .int .i64 x4), (73, .bool cb14)] []) 9 ?_ ?_
          · refine JL.nil ?_
            refine JE.weak (env' := [(0, .slice a_0 q0.length c_0), (1, .slice a_1 q1.length c_1), (2, .int .i64 q2), (7, .int .i64 (q1.length : Int)), (35, .int .i64 (if (w64 (b1 + 1)) < q2 then (w64 (b1 + 1)) else q2)), (36, .int .i64 x4), (73, .bool cb14)]) (es' := []) [] ?_ ⟨rfl, rfl, rfl, rfl, rfl, rfl, rfl, trivial⟩ (by decide) rfl
            refine JE.code ?_
            rcases cond_some hres with ⟨hb, hres⟩ | ⟨hb, hres⟩
            · refine JX.condT rfl hb ?_
              refine JX.seq ?_
              refine JX.region ?_
              refine JL.val (yl_assign rfl) rfl ?_
              refine JL.nil ?_
              refine JE.code ?_
              refine JX.ret ?_
              refine JE.qbr ?_
              refine JE.qbr ?_
              have hres := elimS_inr hresO2 (hox2 _ (Option.some.inj hres).symm)
              obtain rfl := Option.some.inj hres
              refine JE.ret (rs := [.tmp 6]) (vs := [.bool true]) rfl ⟨rfl, trivial⟩ ?_
              exact fun w' hb hs => ⟨_, _, ⟨rfl, rfl⟩, rfl, hb, hs.sel [] _ (by decide) rfl⟩
            · refine JX.condF rfl hb ?_
              refine JX.skip ?_
              refine JE.code ?_
              refine JX.region ?_
              refine JL.val (yl_add rfl rfl) rfl ?_
              refine JL.val (yl_move rfl) rfl ?_
              refine JL.nil ?_
              refine JE.cont hres ?_
              exact fun a w h => h.weak ⟨rfl, rfl, rfl, rfl, rfl, rfl, trivial⟩ [] (by decide) rfl
          · intro K
            rcases cond_some hcb14 with ⟨hb, hres⟩ | ⟨hb, hres⟩
            · refine JL.set (d := 64) (v := .bool true) (congrArg (fun b => some (Value.bool b)) hb) ?_
              refine JL.gval rfl rfl (yl_move rfl) rfl ?_
              refine JL.gval rfl rfl (yl_move rfl) rfl ?_
              obtain ⟨x15, hx15, hres⟩ := bind_some hres
              refine JL.geff rfl rfl (ef_call (T := T159 x15) Go.Proofs.Try.func159 rfl (by kernel_rfl) rfl (fun w hC => c159 (rd_arg g_1 hC) rfl k_1 hx15)) rfl ?_
              rintro _ _ ⟨_, ⟨a16, _, cp17, rfl, rfl, rfl⟩, rfl⟩
              refine JL.gval rfl rfl (yl_move rfl) rfl ?_
              refine JL.geff rfl rfl (ef_buildSlice (E := 2) (k := eI64.k) (us := eI64.fl [x4]) rfl (fun w => bsl22_1 x4 w) rfl (by decide)) rfl ?_
              rintro _ _ ⟨a19, rfl, rfl⟩
              obtain ⟨x21, hx21, hres⟩ := bind_some hres
              refine JL.geff rfl rfl (ef_appendT (ix := 0) Go.Proofs.Try.underlying22 i2 i2z i2s rfl i2b0 i2b1 rfl rfl rfl rfl rfl (fun w hC => rd_row hC 1 rfl) hx21) rfl ?_
              rintro _ _ ⟨a22, cp23, rfl, rfl⟩
              refine JL.gval rfl rfl (yl_move rfl) rfl ?_
              obtain ⟨x24, hx24, hres⟩ := bind_some hres
              refine JL.geff rfl rfl (ef_call (T := T104 x24) Go.Proofs.Try.func104 rfl (by kernel_rfl) rfl (fun w hC => ih (rd_arg g_0 hC) (rdI_arg r_0 hC) i_0 rfl k_0 (rd_row hC 0 rfl) rfl (ln_row hC 0 rfl) hx24)) rfl ?_
              rintro _ _ ⟨_, ⟨rfl, rfl⟩, rfl⟩
              refine JL.val (yl_pick_true rfl rfl) rfl ?_
              have he := Option.some.inj hres
              exact JL.weak [] K ⟨rfl, rfl, rfl, rfl, rfl, rfl, (by rw [← he]; rfl), trivial⟩ (by decide) rfl
            · refine JL.set (d := 64) (v := .bool false) (congrArg (fun b => some (Value.bool b)) hb) ?_
              refine JL.gskip rfl rfl rfl rfl ?_
              refine JL.gskip rfl rfl rfl rfl ?_
              refine JL.gskip rfl rfl rfl rfl ?_
              refine JL.gskip rfl rfl rfl rfl ?_
              refine JL.gskip rfl rfl rfl rfl ?_
              refine JL.gskip rfl rfl rfl rfl ?_
              refine JL.gskip rfl rfl rfl rfl ?_
              refine JL.gskip rfl rfl rfl rfl ?_
              refine JL.val (yl_pick_false rfl rfl) rfl ?_
              have he := Option.some.inj hres
              exact JL.weak [] K ⟨rfl, rfl, rfl, rfl, rfl, rfl, (by rw [← he]; rfl), trivial⟩ (by decide) rfl
      · refine JX.condF rfl hb ?_
        refine JX.exit ?_
        refine JE.qb rfl ?_
        obtain ⟨b2, hb2⟩ : ∃ b : Unit, b = () := ⟨_, rfl⟩
        have hy2 : Sum.inl b2 = y2 := by rw [hb2]; exact hox2 _ (Option.some.inj hres).symm
        have hres := elimS_inl hresO2 hy2
        refine JE.weak (env' := []) (es' := []) [] ?_ trivial (by decide) (by subst hb2; rfl)
        refine JE.code ?_
        refine JX.seq ?_
        refine JX.region ?_
        refine JL.val (yl_assign rfl) rfl ?_
        refine JL.nil ?_
        refine JE.code ?_
        refine JX.ret ?_
        obtain rfl := Option.some.inj hres
        refine JE.ret (rs := [.tmp 6]) (vs := [.bool false]) rfl ⟨rfl, trivial⟩ ?_
        exact fun w' hb hs => ⟨_, _, ⟨rfl, rfl⟩, rfl, hb, hs.sel [] _ (by decide) rfl⟩
theorem c104F : ∀ (fu : Nat) {w : World} {q0 : List (List Bool)} {a_0 : Option Addr} {n_0 c_0 : Nat} {h_0 : List Hd} (g_0 : Rd w a_0 (eHd.fl h_0)) (r_0 : RdI w eBool h_0 q0) (i_0 : Inn h_0 q0) (l_0 : q0.length = n_0) (k_0 : n_0 ≤ c_0) {q1 : List Int} {a_1 : Option Addr} {n_1 c_1 : Nat} (g_1 : Rd w a_1 (eI64.fl q1)) (l_1 : q1.length = n_1) (k_1 : n_1 ≤ c_1) {q2 : Int} {r : Bool} (hres : sh104F fu q0 q1 q2 = some r), Calls Go.Proofs.Try.prog 104 [.slice a_0 n_0 c_0, .slice a_1 n_1 c_1, .int .i64 q2].toArray w (Ret w (T104 r))
  | 0 => by
    intros; rename_i hres
    exact absurd (show (none : Option _) = some _ from hres) (by simp)
  | fu + 1 => by
    intros
    apply c104S (sh104F fu) (@c104F fu) <;> assumption
theorem c104 {w : World} {q0 : List (List Bool)} {a_0 : Option Addr} {n_0 c_0 : Nat} {h_0 : List Hd} (g_0 : Rd w a_0 (eHd.fl h_0)) (r_0 : RdI w eBool h_0 q0) (i_0 : Inn h_0 q0) (l_0 : q0.length = n_0) (k_0 : n_0 ≤ c_0) {q1 : List Int} {a_1 : Option Addr} {n_1 c_1 : Nat} (g_1 : Rd w a_1 (eI64.fl q1)) (l_1 : q1.length = n_1) (k_1 : n_1 ≤ c_1) {q2 : Int} {r : Bool} (hres : sh104 q0 q1 q2 = some r) : Calls Go.Proofs.Try.prog 104 [.slice a_0 n_0 c_0, .slice a_1 n_1 c_1, .int .i64 q2].toArray w (Ret w (T104 r)) := by
  apply c104F 2000 <;> first | assumption | exact hres

/- impl.FewestColours -/
def sh42_1 (x4 : List (List Bool)) : Int → Option (Int ⊕ (Int))
  | x11 => Option.bind (sh104 x4 ([] : List Int) x11) fun x12 => bif !x12 then (some (.inl (w64 (x11 + 1)))) else (some (.inr x11))
def sh42 (q0 : SPanel) : Option (Int × Int) := Option.bind (sh86 q0) fun x3 => bif !x3 then (some (0, 1)) else (Option.bind (sh98 q0) fun x4 => bif decide (10 < ((x4.length : Nat) : Int)) then (some (0, 5)) else (Option.bind (iter (sh42_1 x4) 1) fun b1 => (some (b1, 0))))
def T42 (r : Int × Int) (v : Value) (rs : List Own) : Prop := v = rets [.int .i64 r.1, .int .i64 r.2] ∧ rs = []
set_option maxRecDepth 100000 in
theorem c42 {w : World} {q0 : SPanel} {a_0_2 : Option Addr} {n_0_2 c_0_2 : Nat} (g_0_2 : Rd w a_0_2 (eI64.fl q0.Breaks)) (l_0_2 : q0.Breaks.length = n_0_2) (k_0_2 : n_0_2 ≤ c_0_2) {r : Int × Int} (hres : sh42 q0 = some r) : Calls Go.Proofs.Try.prog 42 [.agg #[.int .i64 q0.W, .int .i64 q0.H, .slice a_0_2 n_0_2 c_0_2]].toArray w (Ret w (T42 r)) := by
  subst l_0_2
  unfold sh42 at hres
  refine calls_of (n := 21) (M := []) (es := []) Go.Proofs.Try.func42 rfl rfl rfl (Sep.nil _ _ _) ?_
  refine JX.seq ?_
  refine JX.region ?_
  refine JL.eff (ef_box rfl rfl) rfl ?_
  rintro _ _ ⟨g1, rfl, rfl⟩
  refine JL.val (yl_assign rfl) rfl ?_
  refine JL.val (yl_assign rfl) rfl ?_
  refine JL.nil ?_
  refine JE.code ?_
  refine JX.seq ?_
  refine JX.seq ?_
  refine JX.region ?_
  refine JL.val (yl_loadn Go.Proofs.Try.underlying28 rfl i28 rfl (fun w hC => rd_box hC 0 rfl) rfl (i28s).symm i28p) rfl ?_
  obtain ⟨x3, hx3, hres⟩ := bind_some hres
  refine JL.eff (ef_call (vs := [.agg #[.int .i64 q0.W, .int .i64 q0.H, .slice a_0_2 q0.Breaks.length c_0_2]]) (T := T86 x3) Go.Proofs.Try.func86 rfl (by kernel_rfl) rfl (fun w hC => c86 (q0 := q0) (rd_arg g_0_2 hC) rfl k_0_2 hx3)) rfl ?_
  rintro _ _ ⟨_, ⟨rfl, rfl⟩, rfl⟩
  refine JL.val (yl_not rfl) rfl ?_
  refine JL.nil ?_
  refine JE.code ?_
  rcases cond_some hres with ⟨hb, hres⟩ | ⟨hb, hres⟩
  · refine JX.condT rfl hb ?_
    refine JX.seq ?_
    refine JX.region ?_
    refine JL.val (yl_assign rfl) rfl ?_
    refine JL.val (yl_assign rfl) rfl ?_
    refine JL.nil ?_
    refine JE.weak (env' := [(2, .int .i64 0), (3, .int .i64 1)]) (es' := []) [] ?_ ⟨rfl, rfl, trivial⟩ (by decide) rfl
    refine JE.code ?_
    refine JX.ret ?_
    obtain rfl := Option.some.inj hres
    refine JE.ret (rs := [.tmp 2, .tmp 3]) (vs := [.int .i64 0, .int .i64 1]) rfl ⟨rfl, rfl, trivial⟩ ?_
    exact fun w' hb hs => ⟨_, _, ⟨rfl, rfl⟩, rfl, hb, hs.sel [] _ (by decide) rfl⟩
  · refine JX.condF rfl hb ?_
    refine JX.skip ?_
    refine JE.code ?_
    refine JX.seq ?_
    refine JX.region ?_
    refine JL.val (yl_loadn Go.Proofs.Try.underlying28 rfl i28 rfl (fun w hC => rd_box hC 0 rfl) rfl (i28s).symm i28p) rfl ?_
    obtain ⟨x4, hx4, hres⟩ := bind_some hres
    refine JL.eff (ef_call (vs := [.agg #[.int .i64 q0.W, .int .i64 q0.H, .slice a_0_2 q0.Breaks.length c_0_2]]) (T := T98 x4) Go.Proofs.Try.func98 rfl (by kernel_rfl) rfl (fun w hC => c98 (q0 := q0) (rd_arg g_0_2 hC) rfl k_0_2 hx4)) rfl ?_
    rintro _ _ ⟨_, ⟨a5, _, cp6, hs8, rfl, hi9, rfl, rfl⟩, rfl⟩
    refine JL.val (yl_assign rfl) rfl ?_
    refine JL.nil ?_
    refine JE.weak (env' := [(4, .slice a5 x4.length cp6)]) (es' := [rowT 104 eHd a5 x4.length cp6 hs8, innO 4 eBool none hs8 x4]) [1, 2] ?_ ⟨rfl, trivial⟩ (by decide) rfl
    refine JE.code ?_
    refine JX.seq ?_
    refine JX.seq ?_
    refine JX.region ?_
    refine JL.val (yl_move rfl) rfl ?_
    refine JL.val (yl_len_slice Go.Proofs.Try.underlying99 rfl) rfl ?_
    refine JL.val (yl_gtr rfl rfl) rfl ?_
    refine JL.nil ?_
    refine JE.code ?_
    rcases cond_some hres with ⟨hb, hres⟩ | ⟨hb, hres⟩
    · refine JX.condT rfl hb ?_
      refine JX.seq ?_
      refine JX.region ?_
      refine JL.val (yl_assign rfl) rfl ?_
      refine JL.val (yl_assign rfl) rfl ?_
      refine JL.nil ?_
      refine JE.weak (env' := [(2, .int .i64 0), (3, .int .i64 5)]) (es' := []) [] ?_ ⟨rfl, rfl, trivial⟩ (by decide) rfl
      refine JE.code ?_
      refine JX.ret ?_
      obtain rfl := Option.some.inj hres
      refine JE.ret (rs := [.tmp 2, .tmp 3]) (vs := [.int .i64 0, .int .i64 5]) rfl ⟨rfl, rfl, trivial⟩ ?_
      exact fun w' hb hs => ⟨_, _, ⟨rfl, rfl⟩, rfl, hb, hs.sel [] _ (by decide) rfl⟩
    · refine JX.condF rfl hb ?_
      refine JX.skip ?_
      refine JE.code ?_
      refine JX.seq ?_
      refine JX.region ?_
      refine JL.val (yl_assign rfl) rfl ?_
      refine JL.nil ?_
      refine JE.code ?_
      refine JX.seq ?_
      refine JX.block ?_
      obtain ⟨y1, hy1, hresO1⟩ := bind_some hres
      refine JX.loop (I := fun (s1 : Int) aa ww => St w [] 21 [(4, .slice a5 x4.length cp6), (5, .int .i64 s1)] [rowT 104 eHd a5 x4.length cp6 hs8, innO 4 eBool none hs8 x4] aa ww) (sh42_1 x4) hy1 (fun a w h => h.weak ⟨rfl, rfl, trivial⟩ [0, 1] (by decide) rfl) ?_
      rintro x11 o1 hres hox1 aa ww hS
      refine (?_ : JX Go.Proofs.Try.prog w [] 21 _ _ [(4, .slice a5 x4.length cp6), (5, .int .i64 x11)] [rowT 104 eHd a5 x4.length cp6 hs8, innO 4 eBool none hs8 x4] _) aa ww hS
      clear hS
      unfold sh42_1 at hres
      refine JX.seq ?_
      refine JX.seq ?_
      refine JX.region ?_
      refine JL.val (yl_move rfl) rfl ?_
      refine JL.val (yl_move rfl) rfl ?_
      obtain ⟨x12, hx12, hres⟩ := bind_some hres
      refine JL.eff (ef_call (T := T104 x12) Go.Proofs.Try.func104 rfl (by kernel_rfl) rfl (fun w hC => c104 (rd_row hC 0 rfl) (rd_inn hC 1 rfl) hi9 rfl (ln_row hC 0 rfl) (rd_nil _ eI64) rfl (Nat.le_refl 0) hx12)) rfl ?_
      rintro _ _ ⟨_, ⟨rfl, rfl⟩, rfl⟩
      refine JL.val (yl_not rfl) rfl ?_
      refine JL.nil ?_
      refine JE.weak (env' := [(4, .slice a5 x4.length cp6), (5, .int .i64 x11), (17, .bool !x12)]) (es' := [rowT 104 eHd a5 x4.length cp6 hs8, innO 4 eBool none hs8 x4]) [0, 1] ?_ ⟨rfl, rfl, rfl, trivial⟩ (by decide) rfl
      refine JE.code ?_
      rcases cond_some hres with ⟨hb, hres⟩ | ⟨hb, hres⟩
      · refine JX.condT rfl hb ?_
        refine JX.skip ?_
        refine JE.code ?_
        refine JX.block ?_
        refine JX.region ?_
        refine JL.val (yl_move rfl) rfl ?_
        refine JL.val (yl_add rfl rfl) rfl ?_
        refine JL.val (yl_assign rfl) rfl ?_
        refine JL.nil ?_
        refine JE.cont hres ?_
        exact fun a w h => h.weak ⟨rfl, rfl, trivial⟩ [0, 1] (by decide) rfl
      · refine JX.condF rfl hb ?_
        refine JX.exit ?_
        refine JE.qb rfl ?_
        obtain ⟨b1, hb1⟩ : ∃ b : Int, b = x11 := ⟨_, rfl⟩
        have hy1 : b1 = y1 := by rw [hb1]; exact hox1 _ (Option.some.inj hres).symm
        have hres := hresO1
        rw [← hy1] at hres
        refine JE.weak (env' := [(5, .int .i64 b1)]) (es' := []) [] ?_ ⟨(by subst hb1; rfl), trivial⟩ (by decide) (by subst hb1; rfl)
        refine JE.code ?_
        refine JX.seq ?_
        refine JX.region ?_
        refine JL.val (yl_move rfl) rfl ?_
        refine JL.val (yl_assign rfl) rfl ?_
        refine JL.val (yl_assign rfl) rfl ?_
        refine JL.nil ?_
        refine JE.code ?_
        refine JX.ret ?_
        obtain rfl := Option.some.inj hres
        refine JE.ret (rs := [.tmp 2, .tmp 3]) (vs := [.int .i64 b1, .int .i64 0]) rfl ⟨rfl, rfl, trivial⟩ ?_
        exact fun w' hb hs => ⟨_, _, ⟨rfl, rfl⟩, rfl, hb, hs.sel [] _ (by decide) rfl⟩

/- laws.FnExactFewestColours -/
def sh10 (q0 : SPanel) : Option (Bool) := Option.bind (sh15 q0 1048576) fun x3 => bif decide (x3 < 0) then (some true) else (Option.bind (sh17 q0) fun x4 => Option.bind (sh41 x4) fun x8 => Option.bind (sh17 q0) fun x9 => Option.bind (sh42 x9) fun x15 => bif (x15.1 != x8.1) || (x15.2 != x8.2) then (some false) else (Option.bind (sh17 q0) fun x17 => Option.bind (sh19 x9 x17) fun x21 => bif !x21 then (some false) else (some true)))
def T10 (r : Bool) (v : Value) (rs : List Own) : Prop := v = rets [.bool r] ∧ rs = []
set_option maxRecDepth 100000 in
theorem c10 {w : World} {q0 : SPanel} {a_0_2 : Option Addr} {n_0_2 c_0_2 : Nat} (g_0_2 : Rd w a_0_2 (eI64.fl q0.Breaks)) (l_0_2 : q0.Breaks.length = n_0_2) (k_0_2 : n_0_2 ≤ c_0_2) {r : Bool} (hres : sh10 q0 = some r) : Calls Go.Proofs.Try.prog 10 [.agg #[.int .i64 q0.W, .int .i64 q0.H, .slice a_0_2 n_0_2 c_0_2]].toArray w (Ret w (T10 r)) := by
  subst l_0_2
  unfold sh10 at hres
  refine calls_of (n := 40) (M := []) (es := []) Go.Proofs.Try.func10 rfl rfl rfl (Sep.nil _ _ _) ?_
  refine JX.seq ?_
  refine JX.region ?_
  refine JL.eff (ef_box rfl rfl) rfl ?_
  rintro _ _ ⟨g1, rfl, rfl⟩
  refine JL.val (yl_assign rfl) rfl ?_
  refine JL.nil ?_
  refine JE.code ?_
  refine JX.seq ?_
  refine JX.region ?_
  refine JL.val (yl_assign rfl) rfl ?_
  refine JL.nil ?_
  refine JE.code ?_
  refine JX.seq ?_
  refine JX.region ?_
  refine JL.val (yl_loadn Go.Proofs.Try.underlying24 rfl i24 rfl (fun w hC => rd_box hC 0 rfl) rfl (i24s).symm i24p) rfl ?_
  refine JL.val (yl_move rfl) rfl ?_
  obtain ⟨x3, hx3, hres⟩ := bind_some hres
  refine JL.eff (ef_call (vs := [.agg #[.int .i64 q0.W, .int .i64 q0.H, .slice a_0_2 q0.Breaks.length c_0_2], .int .i64 1048576]) (T := T15 x3) Go.Proofs.Try.func15 rfl (by kernel_rfl) rfl (fun w hC => c15 (q0 := q0) (rd_arg g_0_2 hC) rfl k_0_2 hx3)) rfl ?_
  rintro _ _ ⟨_, ⟨rfl, rfl⟩, rfl⟩
  refine JL.val (yl_assign rfl) rfl ?_
  refine JL.nil ?_
  refine JE.weak (env' := [(1, ptrAt (some ⟨g1, 0, none⟩) 0), (3, .int .i64 x3)]) (es' := [boxO 24 g1 [.int .i64 q0.W, .int .i64 q0.H, .slice a_0_2 q0.Breaks.length c_0_2]]) [0] ?_ ⟨rfl, rfl, trivial⟩ (by decide) rfl
  refine JE.code ?_
  refine JX.seq ?_
  refine JX.seq ?_
  refine JX.region ?_
  refine JL.val (yl_move rfl) rfl ?_
  refine JL.val (yl_lss rfl rfl) rfl ?_
  refine JL.nil ?_
  refine JE.code ?_
  rcases cond_some hres with ⟨hb, hres⟩ | ⟨hb, hres⟩
  · refine JX.condT rfl hb ?_
    refine JX.seq ?_
    refine JX.region ?_
    refine JL.val (yl_assign rfl) rfl ?_
    refine JL.nil ?_
    refine JE.weak (env' := [(2, .bool true)]) (es' := []) [] ?_ ⟨rfl, trivial⟩ (by decide) rfl
    refine JE.code ?_
    refine JX.ret ?_
    obtain rfl := Option.some.inj hres
    refine JE.ret (rs := [.tmp 2]) (vs := [.bool true]) rfl ⟨rfl, trivial⟩ ?_
    exact fun w' hb hs => ⟨_, _, ⟨rfl, rfl⟩, rfl, hb, hs.sel [] _ (by decide) rfl⟩
  · refine JX.condF rfl hb ?_
    refine JX.skip ?_
    refine JE.code ?_
    refine JX.seq ?_
    refine JX.region ?_
    refine JL.val (yl_loadn Go.Proofs.Try.underlying24 rfl i24 rfl (fun w hC => rd_box hC 0 rfl) rfl (i24s).symm i24p) rfl ?_
    obtain ⟨x4, hx4, hres⟩ := bind_some hres
    refine JL.eff (ef_call (vs := [.agg #[.int .i64 q0.W, .int .i64 q0.H, .slice a_0_2 q0.Breaks.length c_0_2]]) (T := T17 x4) Go.Proofs.Try.func17 rfl (by kernel_rfl) rfl (fun w hC => c17 (q0 := q0) (rd_arg g_0_2 hC) rfl k_0_2 hx4)) rfl ?_
    rintro _ _ ⟨_, ⟨a5, _, cp6, rfl, rfl, rfl⟩, rfl⟩
    obtain ⟨x8, hx8, hres⟩ := bind_some hres
    refine JL.eff (ef_call (vs := [.agg #[.int .i64 x4.W, .int .i64 x4.H, .slice a5 x4.Breaks.length cp6]]) (T := T41 x8) Go.Proofs.Try.func41 rfl (by kernel_rfl) rfl (fun w hC => c41 (q0 := x4) (rd_row hC 1 rfl) rfl (ln_row hC 1 rfl) hx8)) rfl ?_
    rintro _ _ ⟨_, ⟨rfl, rfl⟩, rfl⟩
    refine JL.val (yl_move rfl) rfl ?_
    refine JL.val (yl_extract rfl rfl) rfl ?_
    refine JL.val (yl_extract rfl rfl) rfl ?_
    refine JL.val (yl_assign rfl) rfl ?_
    refine JL.val (yl_assign rfl) rfl ?_
    refine JL.nil ?_
    refine JE.weak (env' := [(1, ptrAt (some ⟨g1, 0, none⟩) 0), (4, .int .i64 x8.1), (5, .int .i64 x8.2)]) (es' := [boxO 24 g1 [.int .i64 q0.W, .int .i64 q0.H, .slice a_0_2 q0.Breaks.length c_0_2]]) [0] ?_ ⟨rfl, rfl, rfl, trivial⟩ (by decide) rfl
    refine JE.code ?_
    refine JX.seq ?_
    refine JX.region ?_
    refine JL.val (yl_loadn Go.Proofs.Try.underlying24 rfl i24 rfl (fun w hC => rd_box hC 0 rfl) rfl (i24s).symm i24p) rfl ?_
    obtain ⟨x9, hx9, hres⟩ := bind_some hres
    refine JL.eff (ef_call (vs := [.agg #[.int .i64 q0.W, .int .i64 q0.H, .slice a_0_2 q0.Breaks.length c_0_2]]) (T := T17 x9) Go.Proofs.Try.func17 rfl (by kernel_rfl) rfl (fun w hC => c17 (q0 := q0) (rd_arg g_0_2 hC) rfl k_0_2 hx9)) rfl ?_
    rintro _ _ ⟨_, ⟨a10, _, cp11, rfl, rfl, rfl⟩, rfl⟩
    refine JL.eff (ef_alloc i28 i28z rfl) rfl ?_
    rintro _ _ ⟨g13, rfl, rfl⟩
    refine JL.eff (ef_store_box (i := 2) (v := .agg #[.int .i64 x9.W, .int .i64 x9.H, .slice a10 x9.Breaks.length cp11]) i28 rfl rfl rfl (i28s).symm (Nat.le_of_ble_eq_true rfl) (by simp [Value.cells, Value.oneCell'])) rfl ?_
    rintro _ _ rfl
    refine JL.nil ?_
    refine JE.weak (env' := [(1, ptrAt (some ⟨g1, 0, none⟩) 0), (4, .int .i64 x8.1), (5, .int .i64 x8.2), (6, ptrAt (some ⟨g13, 0, none⟩) 0)]) (es' := [boxO 24 g1 [.int .i64 q0.W, .int .i64 q0.H, .slice a_0_2 q0.Breaks.length c_0_2], boxO 28 g13 [.int .i64 x9.W, .int .i64 x9.H, .slice a10 x9.Breaks.length cp11], rowT 2 eI64 a10 x9.Breaks.length cp11 x9.Breaks]) [0, 2, 1] ?_ ⟨rfl, rfl, rfl, rfl, trivial⟩ (by decide) rfl
    refine JE.code ?_
    refine JX.seq ?_
    refine JX.region ?_
    refine JL.val (yl_loadn Go.Proofs.Try.underlying28 rfl i28 rfl (fun w hC => rd_box hC 1 rfl) rfl (i28s).symm i28p) rfl ?_
    obtain ⟨x15, hx15, hres⟩ := bind_some hres
    refine JL.eff (ef_call (vs := [.agg #[.int .i64 x9.W, .int .i64 x9.H, .slice a10 x9.Breaks.length cp11]]) (T := T42 x15) Go.Proofs.Try.func42 rfl (by kernel_rfl) rfl (fun w hC => c42 (q0 := x9) (rd_row hC 2 rfl) rfl (ln_row hC 2 rfl) hx15)) rfl ?_
    rintro _ _ ⟨_, ⟨rfl, rfl⟩, rfl⟩
    refine JL.val (yl_move rfl) rfl ?_
    refine JL.val (yl_extract rfl rfl) rfl ?_
    refine JL.val (yl_extract rfl rfl) rfl ?_
    refine JL.val (yl_assign rfl) rfl ?_
    refine JL.val (yl_assign rfl) rfl ?_
    refine JL.nil ?_
    refine JE.weak (env' := [(1, ptrAt (some ⟨g1, 0, none⟩) 0), (4, .int .i64 x8.1), (5, .int .i64 x8.2), (6, ptrAt (some ⟨g13, 0, none⟩) 0), (7, .int .i64 x15.1), (8, .int .i64 x15.2)]) (es' := [boxO 24 g1 [.int .i64 q0.W, .int .i64 q0.H, .slice a_0_2 q0.Breaks.length c_0_2], boxO 28 g13 [.int .i64 x9.W, .int .i64 x9.H, .slice a10 x9.Breaks.length cp11], rowT 2 eI64 a10 x9.Breaks.length cp11 x9.Breaks]) [0, 1, 2] ?_ ⟨rfl, rfl, rfl, rfl, rfl, rfl, trivial⟩ (by decide) rfl
    refine JE.code ?_
    refine JX.seq ?_
    refine JX.seq ?_
    refine JX.region ?_
    refine JL.val (yl_move rfl) rfl ?_
    refine JL.val (yl_move rfl) rfl ?_
    refine JL.val (yl_neq rfl rfl) rfl ?_
    refine JL.val (yl_move rfl) rfl ?_
    refine JL.cut (K := fun J => J [(1, ptrAt (some ⟨g1, 0, none⟩) 0), (6, ptrAt (some ⟨g13, 0, none⟩) 0), (34, .bool ((x15.1 != x8.1) || (x15.2 != x8.2)))] [boxO 24 g1 [.int .i64 q0.W, .int .i64 q0.H, .slice a_0_2 q0.Breaks.length c_0_2], boxO 28 g13 [.int .i64 x9.W, .int .i64 x9.H, .slice a10 x9.Breaks.length cp11], rowT 2 eI64 a10 x9.Breaks.length cp11 x9.Breaks]) 4 ?_ ?_
    · refine JL.nil ?_
      refine JE.weak (env' := [(1, ptrAt (some ⟨g1, 0, none⟩) 0), (6, ptrAt (some ⟨g13, 0, none⟩) 0), (34, .bool ((x15.1 != x8.1) || (x15.2 != x8.2)))]) (es' := [boxO 24 g1 [.int .i64 q0.W, .int .i64 q0.H, .slice a_0_2 q0.Breaks.length c_0_2], boxO 28 g13 [.int .i64 x9.W, .int .i64 x9.H, .slice a10 x9.Breaks.length cp11], rowT 2 eI64 a10 x9.Breaks.length cp11 x9.Breaks]) [0, 1, 2] ?_ ⟨rfl, rfl, rfl, trivial⟩ (by decide) rfl
      refine JE.code ?_
      rcases cond_some hres with ⟨hb, hres⟩ | ⟨hb, hres⟩
      · refine JX.condT rfl hb ?_
        refine JX.seq ?_
        refine JX.region ?_
        refine JL.val (yl_assign rfl) rfl ?_
        refine JL.nil ?_
        refine JE.weak (env' := [(2, .bool false)]) (es' := []) [] ?_ ⟨rfl, trivial⟩ (by decide) rfl
        refine JE.code ?_
        refine JX.ret ?_
        obtain rfl := Option.some.inj hres
        refine JE.ret (rs := [.tmp 2]) (vs := [.bool false]) rfl ⟨rfl, trivial⟩ ?_
        exact fun w' hb hs => ⟨_, _, ⟨rfl, rfl⟩, rfl, hb, hs.sel [] _ (by decide) rfl⟩
      · refine JX.condF rfl hb ?_
        refine JX.skip ?_
        refine JE.code ?_
        refine JX.seq ?_
        refine JX.seq ?_
        refine JX.drawH [(0, .read), (1, .read), (2, .must), (3, .must), (4, .pure)] [] [] [0, 1, 2] [] [boxO 24 g1 [.int .i64 q0.W, .int .i64 q0.H, .slice a_0_2 q0.Breaks.length c_0_2], boxO 28 g13 [.int .i64 x9.W, .int .i64 x9.H, .slice a10 x9.Breaks.length cp11], rowT 2 eI64 a10 x9.Breaks.length cp11 x9.Breaks] mixedP (by kernel_rfl) (by kernel_rfl) (by decide) rfl rfl ?_
        intro wrr16 Nr16 hFr16
        refine JH.read rfl (yl_loadn Go.Proofs.Try.underlying28 rfl i28 rfl (fun w hw => hFr16.box 1 rfl rfl hw) rfl (i28s).symm i28p) rfl ?_
        refine JH.read rfl (yl_loadn Go.Proofs.Try.underlying24 rfl i24 rfl (fun w hw => hFr16.box 0 rfl rfl hw) rfl (i24s).symm i24p) rfl ?_
        obtain ⟨x17, hx17, hres⟩ := bind_some hres
        refine JH.must rfl (ef_call (vs := [.agg #[.int .i64 q0.W, .int .i64 q0.H, .slice a_0_2 q0.Breaks.length c_0_2]]) (T := T17 x17) Go.Proofs.Try.func17 rfl (by kernel_rfl) rfl (fun w hC => c17 (q0 := q0) (hFr16.arg g_0_2 hC.1) rfl k_0_2 hx17)) rfl rfl ?_
        rintro _ _ ⟨_, ⟨a18, _, cp19, rfl, rfl, rfl⟩, rfl⟩
        obtain ⟨x21, hx21, hres⟩ := bind_some hres
        refine JH.must rfl (ef_call (vs := [.agg #[.int .i64 x9.W, .int .i64 x9.H, .slice a10 x9.Breaks.length cp11], .agg #[.int .i64 x17.W, .int .i64 x17.H, .slice a18 x17.Breaks.length cp19]]) (T := T19 x21) Go.Proofs.Try.func19 rfl (by kernel_rfl) rfl (fun w hC => c19 (q0 := x9) (q1 := x17) (hFr16.row 2 rfl rfl hC.1) rfl (ln_row hFr16.cl 2 rfl) (rd_row hC 0 rfl) rfl (ln_row hC 0 rfl) hx21)) rfl rfl ?_
        rintro _ _ ⟨_, ⟨rfl, rfl⟩, rfl⟩
        refine JH.pure rfl (yl_not rfl) rfl ?_
        refine JH.nil ?_
        refine JE.weak (env' := [(39, .bool !x21)]) (es' := []) [] ?_ ⟨rfl, trivial⟩ (by decide) rfl
        refine JE.code ?_
        rcases cond_some hres with ⟨hb, hres⟩ | ⟨hb, hres⟩
        · refine JX.condT rfl hb ?_
          refine JX.seq ?_
          refine JX.region ?_
          refine JL.val (yl_assign rfl) rfl ?_
          refine JL.nil ?_
          refine JE.code ?_
          refine JX.ret ?_
          obtain rfl := Option.some.inj hres
          refine JE.ret (rs := [.tmp 2]) (vs := [.bool false]) rfl ⟨rfl, trivial⟩ ?_
          exact fun w' hb hs => ⟨_, _, ⟨rfl, rfl⟩, rfl, hb, hs.sel [] _ (by decide) rfl⟩
        · refine JX.condF rfl hb ?_
          refine JX.skip ?_
          refine JE.code ?_
          refine JX.seq ?_
          refine JX.region ?_
          refine JL.val (yl_assign rfl) rfl ?_
          refine JL.nil ?_
          refine JE.code ?_
          refine JX.ret ?_
          obtain rfl := Option.some.inj hres
          refine JE.ret (rs := [.tmp 2]) (vs := [.bool true]) rfl ⟨rfl, trivial⟩ ?_
          exact fun w' hb hs => ⟨_, _, ⟨rfl, rfl⟩, rfl, hb, hs.sel [] _ (by decide) rfl⟩
    · intro K
      rcases Bool.eq_false_or_eq_true (x15.1 != x8.1) with hb | hb
      · refine JL.set (d := 30) (v := .bool true) (congrArg (fun b => some (Value.bool b)) hb) ?_
        refine JL.gskip rfl rfl rfl rfl ?_
        refine JL.gskip rfl rfl rfl rfl ?_
        refine JL.gskip rfl rfl rfl rfl ?_
        refine JL.val (yl_pick_true rfl rfl) rfl ?_
        exact JL.weak [0, 1, 2] K ⟨rfl, rfl, (by rw [hb]; rfl), trivial⟩ (by decide) rfl
      · refine JL.set (d := 30) (v := .bool false) (congrArg (fun b => some (Value.bool b)) hb) ?_
        refine JL.gval rfl rfl (yl_move rfl) rfl ?_
        refine JL.gval rfl rfl (yl_move rfl) rfl ?_
        refine JL.gval rfl rfl (yl_neq rfl rfl) rfl ?_
        refine JL.val (yl_pick_false rfl rfl) rfl ?_
        exact JL.weak [0, 1, 2] K ⟨rfl, rfl, (by rw [hb]; rfl), trivial⟩ (by decide) rfl

end Go.Sh
