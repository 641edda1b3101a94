/- Walks through functions that the law reaches, printed by program. -/
import Derived.Test.YtnifcedmpilldaaF3W1
set_option linter.unusedVariables false
set_option linter.unusedSimpArgs false
namespace Go.Sh
open Go Go.RowKit
/- spec.l04All -/
def sh147_3 (x21 : List (List SPoint)) (x29 : List SPoint × List Int) : (Int × List Int) → Option ((Int × List Int) ⊕ (List Int))
  | (x37, x38) => bif decide (x37 < (x29.2.length : Int)) then (Option.bind (getI x29.2 x37) fun x40 => Option.bind (getI x38 x40) fun x41 => some (.inl (w64 (x37 + 1), x38.set (x40).toNat ((x21.length : Nat) : Int)))) else (some (.inr x38))
def sh147_2 (q0 : SPanel) : (Int × List Int × List (List SPoint)) → Option ((Int × List Int × List (List SPoint)) ⊕ (List Int × List (List SPoint)))
  | (x19, x20, x21) => bif decide (x19 < (w64 ((w64 (4 * q0.W)) * q0.H))) then (Option.bind (getI x20 x19) fun x27 => bif decide (0 ≤ x27) then (some (.inl (w64 (x19 + 1), x20, x21))) else (Option.bind (sh206 q0 x19) fun x28 => Option.bind (sh205 q0 x28) fun x29 => Option.bind (iter (sh147_3 x21 x29) (0, x20)) fun b3 => (Option.bind (appL x21 [x29.1]) fun x45 => some (.inl (w64 (x19 + 1), b3, x45))))) else (some (.inr (x20, x21)))
def sh147_1 (q0 : SPanel) : (Int × List Int) → Option ((Int × List Int) ⊕ (List Int))
  | (x6, x7) => bif decide (x6 < (w64 ((w64 (4 * q0.W)) * q0.H))) then (Option.bind (getI x7 x6) fun x9 => some (.inl (w64 (x6 + 1), x7.set (x6).toNat (-1)))) else (some (.inr x7))
def sh147 (q0 : SPanel) : Option (List (List SPoint) × List Int) := Option.bind (mkL (w64 ((w64 (4 * q0.W)) * q0.H)) 0) fun x2 => Option.bind (iter (sh147_1 q0) (0, x2)) fun b1 => (Option.bind (iter (sh147_2 q0) (0, b1, ([] : List (List SPoint)))) fun b2 => (some (b2.2, b2.1)))
def T147 (r : List (List SPoint) × List Int) (v : Value) (rs : List Own) : Prop := ∃ (a0 : Option Addr) (n0 c0 : Nat) (h0 : List Hd), r.1.length = n0 ∧ Inn h0 r.1 ∧ ∃ (a1 : Option Addr) (n1 c1 : Nat), r.2.length = n1 ∧ v = rets [.slice a0 n0 c0, .slice a1 n1 c1] ∧ rs = [rowT 34 eHd a0 n0 c0 h0, innO 42 eSPoint none h0 r.1, rowT 2 eI64 a1 n1 c1 r.2]
set_option maxRecDepth 100000 in
set_option maxHeartbeats 1000000 in
theorem c147 {w : World} {q0 : SPanel} {a_0 : Option Addr} {n_0 : Nat} {a_0_2 : Option Addr} {n_0_2 c_0_2 : Nat} (g_0 : RdAt w a_0 n_0 [.int .i64 q0.W, .int .i64 q0.H, .slice a_0_2 n_0_2 c_0_2]) (g_0_2 : Rd w a_0_2 (eI64.fl q0.Breaks)) (l_0_2 : q0.Breaks.length = n_0_2) (k_0_2 : n_0_2 ≤ c_0_2) {r : List (List SPoint) × List Int} (hres : sh147 q0 = some r) : Calls Go.Proofs.Try.prog 147 [ptrAt a_0 n_0].toArray w (Ret w (T147 r)) := by
  subst l_0_2
  obtain ⟨b_0, e_0, g_0⟩ := g_0.norm0
  rw [e_0]
  unfold sh147 at hres
  refine calls_of (n := 71) (M := []) (es := []) Go.Proofs.Try.func147 rfl rfl rfl (Sep.nil _ _ _) ?_
  refine JX.seq ?_
  refine JX.region ?_
  refine JL.val (yl_assign rfl) rfl ?_
  refine JL.val (yl_assign rfl) rfl ?_
  refine JL.nil ?_
  refine JE.code ?_
  refine JX.seq ?_
  refine JX.drawH [(0, .pure), (1, .pure), (2, .pure), (3, .read), (4, .pure), (5, .pure), (6, .pure), (7, .pure), (8, .read), (9, .pure), (10, .pure)] [] [] [] [] [] mixedP (by kernel_rfl) (by kernel_rfl) (by decide) rfl rfl ?_
  intro wrr1 Nr1 hFr1
  refine JH.pure rfl (yl_move rfl) rfl ?_
  refine JH.pure rfl (yl_nilCheckAt rfl (Rd.some g_0 (j := 0) rfl)) rfl ?_
  refine JH.pure rfl (yl_fieldAt Go.Proofs.Try.underlying26 rfl i2 i2n rfl (Rd.some g_0 (j := 0) rfl)) rfl ?_
  refine JH.read rfl (yl_load1 Go.Proofs.Try.underlying2 rfl rfl (fun w hw => hFr1.arg g_0 hw) rfl) rfl ?_
  refine JH.pure rfl (yl_mul rfl rfl) rfl ?_
  refine JH.pure rfl (yl_move rfl) rfl ?_
  refine JH.pure rfl (yl_nilCheckAt rfl (Rd.some g_0 (j := 0) rfl)) rfl ?_
  refine JH.pure rfl (yl_fieldAt Go.Proofs.Try.underlying26 rfl i2 i2n rfl (Rd.some g_0 (j := 0) rfl)) rfl ?_
  refine JH.read rfl (yl_load1 Go.Proofs.Try.underlying2 rfl rfl (fun w hw => hFr1.arg g_0 hw) rfl) rfl ?_
  refine JH.pure rfl (yl_mul rfl rfl) rfl ?_
  refine JH.pure rfl (yl_assign rfl) rfl ?_
  refine JH.nil ?_
  refine JE.weak (env' := [(0, ptrAt b_0 0), (4, .int .i64 (w64 ((w64 (4 * q0.W)) * q0.H)))]) (es' := []) [] ?_ ⟨rfl, rfl, trivial⟩ (by decide) rfl
  refine JE.code ?_
  refine JX.seq ?_
  refine JX.region ?_
  refine JL.val (yl_move rfl) rfl ?_
  obtain ⟨x2, hx2, hres⟩ := bind_some hres
  refine JL.eff (ef_makeS (e := eI64) Go.Proofs.Try.underlying24 i2 i2s i2z rfl i2b1 rfl rfl hx2) rfl ?_
  rintro _ _ ⟨a3, rfl, rfl⟩
  refine JL.val (yl_assign rfl) rfl ?_
  refine JL.nil ?_
  refine JE.code ?_
  refine JX.seq ?_
  refine JX.seq ?_
  refine JX.region ?_
  refine JL.val (yl_assign rfl) rfl ?_
  refine JL.nil ?_
  refine JE.code ?_
  refine JX.block ?_
  obtain ⟨y1, hy1, hresO1⟩ := bind_some hres
  refine JX.loop (I := fun (s1 : Int × List Int) aa ww => ∃ (l5 : s1.2.length = x2.length), St w [] 71 [(0, ptrAt b_0 0), (4, .int .i64 (w64 ((w64 (4 * q0.W)) * q0.H))), (5, .slice a3 x2.length x2.length), (6, .int .i64 s1.1)] [rowT 2 eI64 a3 x2.length x2.length s1.2] aa ww) (sh147_1 q0) hy1 (fun a w h => ⟨rfl, h.weak ⟨rfl, rfl, rfl, rfl, trivial⟩ [0] (by decide) rfl⟩) ?_
  rintro ⟨x6, x7⟩ o1 hres hox1 aa ww ⟨l8, hS⟩
  refine (?_ : JX Go.Proofs.Try.prog w [] 71 _ _ [(0, ptrAt b_0 0), (4, .int .i64 (w64 ((w64 (4 * q0.W)) * q0.H))), (5, .slice a3 x2.length x2.length), (6, .int .i64 x6)] [rowT 2 eI64 a3 x2.length x2.length x7] _) aa ww hS
  clear hS
  simp only [sh147_1] at hres
  refine JX.seq ?_
  refine JX.seq ?_
  refine JX.region ?_
  refine JL.val (yl_move rfl) rfl ?_
  refine JL.val (yl_move rfl) rfl ?_
  refine JL.val (yl_lss rfl rfl) rfl ?_
  refine JL.nil ?_
  refine JE.code ?_
  rcases cond_some hres with ⟨hb, hres⟩ | ⟨hb, hres⟩
  · refine JX.condT rfl hb ?_
    refine JX.skip ?_
    refine JE.code ?_
    refine JX.seq ?_
    refine JX.block ?_
    refine JX.region ?_
    refine JL.val (yl_move rfl) rfl ?_
    refine JL.val (yl_move rfl) rfl ?_
    obtain ⟨x9, hx9, hres⟩ := bind_some hres
    refine JL.val (yl_idxT Go.Proofs.Try.underlying24 i2 i2s rfl rfl hx9 l8 (fun w hC => rd_row hC 0 rfl)) rfl ?_
    refine JL.eff (ef_storeT (ix := 0) (u := (-1)) i2 i2s rfl rfl rfl hx9 rfl) rfl ?_
    rintro _ _ rfl
    refine JL.nil ?_
    refine JE.weak (env' := [(0, ptrAt b_0 0), (4, .int .i64 (w64 ((w64 (4 * q0.W)) * q0.H))), (5, .slice a3 x2.length x2.length), (6, .int .i64 x6)]) (es' := [rowT 2 eI64 a3 x2.length x2.length (x7.set (x6).toNat (-1))]) [0] ?_ ⟨rfl, rfl, rfl, rfl, trivial⟩ (by decide) rfl
    refine JE.code ?_
    refine JX.region ?_
    refine JL.val (yl_move rfl) rfl ?_
    refine JL.val (yl_add rfl rfl) rfl ?_
    refine JL.val (yl_assign rfl) rfl ?_
    refine JL.nil ?_
    refine JE.cont hres ?_
    exact fun a w h => ⟨(List.length_set.trans l8), h.weak ⟨rfl, rfl, rfl, rfl, trivial⟩ [0] (by decide) rfl⟩
  · refine JX.condF rfl hb ?_
    refine JX.exit ?_
    refine JE.qb rfl ?_
    obtain ⟨b1, hb1⟩ : ∃ b : List Int, b = x7 := ⟨_, rfl⟩
    have hy1 : b1 = y1 := by rw [hb1]; exact hox1 _ (Option.some.inj hres).symm
    have hres := hresO1
    rw [← hy1] at hres
    have l10 : b1.length = x2.length := by subst hb1; exact l8
    refine JE.weak (env' := [(0, ptrAt b_0 0), (4, .int .i64 (w64 ((w64 (4 * q0.W)) * q0.H))), (5, .slice a3 x2.length x2.length)]) (es' := [rowT 2 eI64 a3 x2.length x2.length b1]) [0] ?_ ⟨(by subst hb1; rfl), (by subst hb1; rfl), (by subst hb1; rfl), trivial⟩ (by decide) (by subst hb1; rfl)
    refine JE.code ?_
    refine JX.seq ?_
    refine JX.region ?_
    refine JL.eff (ef_buildSlice (E := 34) (k := eHd.k) (us := eHd.fl ([] : List Hd)) rfl (fun w => bsl29_0  w) rfl (by decide)) rfl ?_
    rintro _ _ ⟨a11, rfl, rfl⟩
    refine JL.nilinn 42 eSPoint ?_
    refine JL.val (yl_assign rfl) rfl ?_
    refine JL.nil ?_
    refine JE.code ?_
    refine JX.seq ?_
    refine JX.seq ?_
    refine JX.region ?_
    refine JL.val (yl_assign rfl) rfl ?_
    refine JL.nil ?_
    refine JE.code ?_
    refine JX.block ?_
    obtain ⟨y2, hy2, hresO2⟩ := bind_some hres
    refine JX.loop (I := fun (s2 : Int × List Int × List (List SPoint)) aa ww => ∃ (l14 : s2.2.1.length = x2.length) (a15 : Option Addr) (cp16 : Nat) (hs17 : List Hd) (hi18 : Inn hs17 s2.2.2), St w [] 71 [(0, ptrAt b_0 0), (4, .int .i64 (w64 ((w64 (4 * q0.W)) * q0.H))), (5, .slice a3 x2.length x2.length), (7, .slice a15 s2.2.2.length cp16), (8, .int .i64 s2.1)] [rowT 2 eI64 a3 x2.length x2.length s2.2.1, rowT 34 eHd a15 s2.2.2.length cp16 hs17, innO 42 eSPoint none hs17 s2.2.2] aa ww) (sh147_2 q0) hy2 (fun a w h => ⟨l10, a11, 0, ([] : List Hd), (Inn.nil (T := SPoint)), h.weak ⟨rfl, rfl, rfl, rfl, rfl, trivial⟩ [0, 1, 2] (by decide) rfl⟩) ?_
    rintro ⟨x19, x20, x21⟩ o2 hres hox2 aa ww ⟨l22, a23, cp24, hs25, hi26, hS⟩
    refine (?_ : JX Go.Proofs.Try.prog w [] 71 _ _ [(0, ptrAt b_0 0), (4, .int .i64 (w64 ((w64 (4 * q0.W)) * q0.H))), (5, .slice a3 x2.length x2.length), (7, .slice a23 x21.length cp24), (8, .int .i64 x19)] [rowT 2 eI64 a3 x2.length x2.length x20, rowT 34 eHd a23 x21.length cp24 hs25, innO 42 eSPoint none hs25 x21] _) aa ww hS
    clear hS
    simp only [sh147_2] at hres
    refine JX.seq ?_
    refine JX.seq ?_
    refine JX.region ?_
    refine JL.val (yl_move rfl) rfl ?_
    refine JL.val (yl_move rfl) rfl ?_
    refine JL.val (yl_lss rfl rfl) rfl ?_
    refine JL.nil ?_
    refine JE.code ?_
    rcases cond_some hres with ⟨hb, hres⟩ | ⟨hb, hres⟩
    · refine JX.condT rfl hb ?_
      refine JX.skip ?_
      refine JE.code ?_
      refine JX.seq ?_
      refine JX.block ?_
      refine JX.seq ?_
      refine JX.seq ?_
      refine JX.region ?_
      refine JL.val (yl_move rfl) rfl ?_
      refine JL.val (yl_move rfl) rfl ?_
      obtain ⟨x27, hx27, hres⟩ := bind_some hres
      refine JL.val (yl_idxT Go.Proofs.Try.underlying24 i2 i2s rfl rfl hx27 l22 (fun w hC => rd_row hC 0 rfl)) rfl ?_
      refine JL.val (yl_loadT0 Go.Proofs.Try.underlying2 rfl rfl hx27 (fun w hC => rd_row hC 0 rfl) rfl) rfl ?_
      refine JL.val (yl_geq rfl rfl) rfl ?_
      refine JL.nil ?_
      refine JE.weak (env' := [(0, ptrAt b_0 0), (4, .int .i64 (w64 ((w64 (4 * q0.W)) * q0.H))), (5, .slice a3 x2.length x2.length), (7, .slice a23 x21.length cp24), (8, .int .i64 x19), (42, .bool (decide (0 ≤ x27)))]) (es' := [rowT 2 eI64 a3 x2.length x2.length x20, rowT 34 eHd a23 x21.length cp24 hs25, innO 42 eSPoint none hs25 x21]) [0, 1, 2] ?_ ⟨rfl, rfl, rfl, rfl, rfl, rfl, trivial⟩ (by decide) rfl
      refine JE.code ?_
      rcases cond_some hres with ⟨hb, hres⟩ | ⟨hb, hres⟩
      · refine JX.condT rfl hb ?_
        refine JX.exit ?_
        refine JE.qb rfl ?_
        refine JE.code ?_
        refine JX.region ?_
        refine JL.val (yl_move rfl) rfl ?_
        refine JL.val (yl_add rfl rfl) rfl ?_
        refine JL.val (yl_assign rfl) rfl ?_
        refine JL.nil ?_
        refine JE.cont hres ?_
        exact fun a w h => ⟨l22, a23, cp24, hs25, hi26, h.weak ⟨rfl, rfl, rfl, (by first | rfl | (simp only [List.length_set, l22]; rfl) | simp only [List.length_set, l22]), rfl, trivial⟩ [0, 1, 2] (by decide) (by first | rfl | (simp only [List.length_set, l22]; rfl) | simp only [List.length_set, l22])⟩
      · refine JX.condF rfl hb ?_
        refine JX.skip ?_
        refine JE.code ?_
        refine JX.seq ?_
        refine JX.region ?_
        refine JL.val (yl_move rfl) rfl ?_
        refine JL.val (yl_move rfl) rfl ?_
        refine JL.val (yl_move rfl) rfl ?_
        obtain ⟨x28, hx28, hres⟩ := bind_some hres
        refine JL.eff (ef_call (T := T206 x28) Go.Proofs.Try.func206 rfl (by kernel_rfl) rfl (fun w hC => c206 (RdAt.of0 (rd_arg g_0 hC)) (rd_arg g_0_2 hC) rfl k_0_2 hx28)) rfl ?_
        rintro _ _ ⟨_, ⟨rfl, rfl⟩, rfl⟩
        obtain ⟨x29, hx29, hres⟩ := bind_some hres
        refine JL.eff (ef_call (vs := [ptrAt b_0 0, .agg #[.int .i64 x28.At.X, .int .i64 x28.At.Y, .int .i64 x28.DX, .int .i64 x28.DY]]) (T := T205 x29) Go.Proofs.Try.func205 rfl (by kernel_rfl) rfl (fun w hC => c205 (q1 := x28) (RdAt.of0 (rd_arg g_0 hC)) (rd_arg g_0_2 hC) rfl k_0_2 hx29)) rfl ?_
        rintro _ _ ⟨_, ⟨a30, _, cp31, rfl, a33, _, cp34, rfl, rfl, rfl⟩, rfl⟩
        refine JL.val (yl_move rfl) rfl ?_
        refine JL.val (yl_extract rfl rfl) rfl ?_
        refine JL.val (yl_extract rfl rfl) rfl ?_
        refine JL.val (yl_assign rfl) rfl ?_
        refine JL.val (yl_assign rfl) rfl ?_
        refine JL.nil ?_
        refine JE.weak (env' := [(0, ptrAt b_0 0), (4, .int .i64 (w64 ((w64 (4 * q0.W)) * q0.H))), (5, .slice a3 x2.length x2.length), (7, .slice a23 x21.length cp24), (8, .int .i64 x19), (9, .slice a30 x29.1.length cp31), (10, .slice a33 x29.2.length cp34)]) (es' := [rowT 2 eI64 a3 x2.length x2.length x20, rowT 34 eHd a23 x21.length cp24 hs25, innO 42 eSPoint none hs25 x21, rowT 42 eSPoint a30 x29.1.length cp31 x29.1, rowT 2 eI64 a33 x29.2.length cp34 x29.2]) [0, 1, 2, 3, 4] ?_ ⟨rfl, rfl, rfl, rfl, rfl, rfl, rfl, trivial⟩ (by decide) rfl
        refine JE.code ?_
        refine JX.seq ?_
        refine JX.seq ?_
        refine JX.region ?_
        refine JL.val (yl_assign rfl) rfl ?_
        refine JL.nil ?_
        refine JE.code ?_
        refine JX.block ?_
        obtain ⟨y3, hy3, hresO3⟩ := bind_some hres
        refine JX.loop (I := fun (s3 : Int × List Int) aa ww => ∃ (l36 : s3.2.length = x2.length), St w [] 71 [(0, ptrAt b_0 0), (4, .int .i64 (w64 ((w64 (4 * q0.W)) * q0.H))), (5, .slice a3 x2.length x2.length), (7, .slice a23 x21.length cp24), (8, .int .i64 x19), (9, .slice a30 x29.1.length cp31), (10, .slice a33 x29.2.length cp34), (11, .int .i64 s3.1)] [rowT 2 eI64 a3 x2.length x2.length s3.2, rowT 34 eHd a23 x21.length cp24 hs25, innO 42 eSPoint none hs25 x21, rowT 42 eSPoint a30 x29.1.length cp31 x29.1, rowT 2 eI64 a33 x29.2.length cp34 x29.2] aa ww) (sh147_3 x21 x29) hy3 (fun a w h => ⟨l22, h.weak ⟨rfl, rfl, rfl, rfl, rfl, rfl, rfl, rfl, trivial⟩ [0, 1, 2, 3, 4] (by decide) rfl⟩) ?_
        rintro ⟨x37, x38⟩ o3 hres hox3 aa ww ⟨l39, hS⟩
        refine (?_ : JX Go.Proofs.Try.prog w [] 71 _ _ [(0, ptrAt b_0 0), (4, .int .i64 (w64 ((w64 (4 * q0.W)) * q0.H))), (5, .slice a3 x2.length x2.length), (7, .slice a23 x21.length cp24), (8, .int .i64 x19), (9, .slice a30 x29.1.length cp31), (10, .slice a33 x29.2.length cp34), (11, .int .i64 x37)] [rowT 2 eI64 a3 x2.length x2.length x38, rowT 34 eHd a23 x21.length cp24 hs25, innO 42 eSPoint none hs25 x21, rowT 42 eSPoint a30 x29.1.length cp31 x29.1, rowT 2 eI64 a33 x29.2.length cp34 x29.2] _) aa ww hS
        clear hS
        simp only [sh147_3] at hres
        refine JX.seq ?_
        refine JX.seq ?_
        refine JX.region ?_
        refine JL.val (yl_move rfl) rfl ?_
        refine JL.val (yl_move rfl) rfl ?_
        refine JL.val (yl_len_slice Go.Proofs.Try.underlying24 rfl) rfl ?_
        refine JL.val (yl_lss rfl rfl) rfl ?_
        refine JL.nil ?_
        refine JE.weak (env' := [(0, ptrAt b_0 0), (4, .int .i64 (w64 ((w64 (4 * q0.W)) * q0.H))), (5, .slice a3 x2.length x2.length), (7, .slice a23 x21.length cp24), (8, .int .i64 x19), (9, .slice a30 x29.1.length cp31), (10, .slice a33 x29.2.length cp34), (11, .int .i64 x37), (54, .bool (decide (x37 < (x29.2.length : Int))))]) (es' := [rowT 2 eI64 a3 x2.length x2.length x38, rowT 34 eHd a23 x21.length cp24 hs25, innO 42 eSPoint none hs25 x21, rowT 42 eSPoint a30 x29.1.length cp31 x29.1, rowT 2 eI64 a33 x29.2.length cp34 x29.2]) [0, 1, 2, 3, 4] ?_ ⟨rfl, rfl, rfl, rfl, rfl, rfl, rfl, rfl, rfl, trivial⟩ (by decide) rfl
        refine JE.code ?_
        rcases cond_some hres with ⟨hb, hres⟩ | ⟨hb, hres⟩
        · refine JX.condT rfl hb ?_
          refine JX.skip ?_
          refine JE.code ?_
          refine JX.seq ?_
          refine JX.block ?_
          refine JX.region ?_
          refine JL.val (yl_move rfl) rfl ?_
          refine JL.val (yl_move rfl) rfl ?_
          refine JL.val (yl_move rfl) rfl ?_
          obtain ⟨x40, hx40, hres⟩ := bind_some hres
          refine JL.val (yl_idxT Go.Proofs.Try.underlying24 i2 i2s rfl rfl hx40 rfl (fun w hC => rd_row hC 4 rfl)) rfl ?_
          refine JL.val (yl_loadT0 Go.Proofs.Try.underlying2 rfl rfl hx40 (fun w hC => rd_row hC 4 rfl) rfl) rfl ?_
          refine JL.val (yl_move rfl) rfl ?_
          refine JL.val (yl_len_slice Go.Proofs.Try.underlying29 rfl) rfl ?_
          obtain ⟨x41, hx41, hres⟩ := bind_some hres
          refine JL.val (yl_idxT Go.Proofs.Try.underlying24 i2 i2s rfl rfl hx41 l39 (fun w hC => rd_row hC 0 rfl)) rfl ?_
          refine JL.eff (ef_storeT (ix := 0) (u := ((x21.length : Nat) : Int)) i2 i2s rfl rfl rfl hx41 rfl) rfl ?_
          rintro _ _ rfl
          refine JL.nil ?_
          refine JE.weak (env' := [(0, ptrAt b_0 0), (4, .int .i64 (w64 ((w64 (4 * q0.W)) * q0.H))), (5, .slice a3 x2.length x2.length), (7, .slice a23 x21.length cp24), (8, .int .i64 x19), (9, .slice a30 x29.1.length cp31), (10, .slice a33 x29.2.length cp34), (11, .int .i64 x37)]) (es' := [rowT 2 eI64 a3 x2.length x2.length (x38.set (x40).toNat ((x21.length : Nat) : Int)), rowT 34 eHd a23 x21.length cp24 hs25, innO 42 eSPoint none hs25 x21, rowT 42 eSPoint a30 x29.1.length cp31 x29.1, rowT 2 eI64 a33 x29.2.length cp34 x29.2]) [0, 1, 2, 3, 4] ?_ ⟨rfl, rfl, rfl, rfl, rfl, rfl, rfl, rfl, trivial⟩ (by decide) rfl
          refine JE.code ?_
          refine JX.region ?_
          refine JL.val (yl_move rfl) rfl ?_
          refine JL.val (yl_add rfl rfl) rfl ?_
          refine JL.val (yl_assign rfl) rfl ?_
          refine JL.nil ?_
          refine JE.cont hres ?_
          exact fun a w h => ⟨(List.length_set.trans l39), h.weak ⟨rfl, rfl, rfl, rfl, rfl, rfl, rfl, rfl, trivial⟩ [0, 1, 2, 3, 4] (by decide) rfl⟩
        · refine JX.condF rfl hb ?_
          refine JX.exit ?_
          refine JE.qb rfl ?_
          obtain ⟨b3, hb3⟩ : ∃ b : List Int, b = x38 := ⟨_, rfl⟩
          have hy3 : b3 = y3 := by rw [hb3]; exact hox3 _ (Option.some.inj hres).symm
          have hres := hresO3
          rw [← hy3] at hres
          have l42 : b3.length = x2.length := by subst hb3; exact l39
          refine JE.weak (env' := [(0, ptrAt b_0 0), (4, .int .i64 (w64 ((w64 (4 * q0.W)) * q0.H))), (5, .slice a3 x2.length x2.length), (7, .slice a23 x21.length cp24), (8, .int .i64 x19), (9, .slice a30 x29.1.length cp31)]) (es' := [rowT 2 eI64 a3 x2.length x2.length b3, rowT 34 eHd a23 x21.length cp24 hs25, innO 42 eSPoint none hs25 x21, rowT 42 eSPoint a30 x29.1.length cp31 x29.1]) [0, 1, 2, 3] ?_ ⟨(by subst hb3; rfl), (by subst hb3; rfl), (by subst hb3; rfl), (by subst hb3; rfl), (by subst hb3; rfl), (by subst hb3; rfl), trivial⟩ (by decide) (by subst hb3; rfl)
          refine JE.code ?_
          refine JX.region ?_
          refine JL.val (yl_move rfl) rfl ?_
          refine JL.val (yl_move rfl) rfl ?_
          refine JL.eff (ef_buildSlice (E := 34) (k := eHd.k) (us := eHd.fl [⟨a30, x29.1.length, cp31⟩]) rfl (fun w => bsl29_1 a30 x29.1.length cp31 w) rfl (by decide)) rfl ?_
          rintro _ _ ⟨a43, rfl, rfl⟩
          obtain ⟨x45, hx45, hres⟩ := bind_some hres
          refine JL.eff (ef_appendH (ix := 1) Go.Proofs.Try.underlying29 i34 i34z i34s rfl i34b0 i34b1 rfl rfl (Inn.len hi26) rfl rfl (fun w hC => rd_row hC 4 rfl) hx45 hi26) rfl ?_
          rintro _ _ ⟨a46, cp47, rfl, rfl⟩
          refine JL.absorb (es' := [rowT 2 eI64 a3 x2.length x2.length b3, rowT 34 eHd a46 x45.length cp47 (hs25 ++ [⟨a30, x29.1.length, cp31⟩]), rowT 34 eHd a43 1 1 [⟨a30, x29.1.length, cp31⟩]]) [0, 1, 4, 2, 3] (by decide) rfl (appL_some hx45).2 ?_
          refine JL.val (yl_assign rfl) rfl ?_
          refine JL.nil ?_
          refine JE.weak (env' := [(0, ptrAt b_0 0), (4, .int .i64 (w64 ((w64 (4 * q0.W)) * q0.H))), (5, .slice a3 x2.length x2.length), (7, .slice a46 x45.length cp47), (8, .int .i64 x19)]) (es' := [rowT 2 eI64 a3 x2.length x2.length b3, rowT 34 eHd a46 x45.length cp47 (hs25 ++ [⟨a30, x29.1.length, cp31⟩]), innO 42 eSPoint none (hs25 ++ [⟨a30, x29.1.length, cp31⟩]) x45]) [0, 1, 3] ?_ ⟨rfl, rfl, rfl, rfl, rfl, trivial⟩ (by decide) rfl
          refine JE.code ?_
          refine JX.region ?_
          refine JL.val (yl_move rfl) rfl ?_
          refine JL.val (yl_add rfl rfl) rfl ?_
          refine JL.val (yl_assign rfl) rfl ?_
          refine JL.nil ?_
          refine JE.cont hres ?_
          exact fun a w h => ⟨l42, a46, cp47, hs25 ++ [⟨a30, x29.1.length, cp31⟩], (Inn.appZ hi26 rfl (appL_some hx45).2), h.weak ⟨rfl, rfl, rfl, (by first | rfl | (simp only [List.length_set, l42]; rfl) | simp only [List.length_set, l42]), rfl, trivial⟩ [0, 1, 2] (by decide) (by first | rfl | (simp only [List.length_set, l42]; rfl) | simp only [List.length_set, l42])⟩
    · refine JX.condF rfl hb ?_
      refine JX.exit ?_
      refine JE.qb rfl ?_
      obtain ⟨b2, hb2⟩ : ∃ b : List Int × List (List SPoint), b = (x20, x21) := ⟨_, rfl⟩
      have hy2 : b2 = y2 := by rw [hb2]; exact hox2 _ (Option.some.inj hres).symm
      have hres := hresO2
      rw [← hy2] at hres
      have l48 : b2.1.length = x2.length := by subst hb2; exact l22
      have hi52 : Inn hs25 b2.2 := by subst hb2; exact hi26
      refine JE.weak (env' := [(5, .slice a3 x2.length x2.length), (7, .slice a23 b2.2.length cp24)]) (es' := [rowT 2 eI64 a3 x2.length x2.length b2.1, rowT 34 eHd a23 b2.2.length cp24 hs25, innO 42 eSPoint none hs25 b2.2]) [0, 1, 2] ?_ ⟨(by subst hb2; rfl), (by subst hb2; first | rfl | (simp only [List.length_set, l22]; rfl) | simp only [List.length_set, l22]), trivial⟩ (by decide) (by subst hb2; first | rfl | (simp only [List.length_set, l22]; rfl) | simp only [List.length_set, l22])
      refine JE.code ?_
      refine JX.seq ?_
      refine JX.region ?_
      refine JL.val (yl_move rfl) rfl ?_
      refine JL.val (yl_move rfl) rfl ?_
      refine JL.val (yl_assign rfl) rfl ?_
      refine JL.val (yl_assign rfl) rfl ?_
      refine JL.nil ?_
      refine JE.weak (env' := [(2, .slice a23 b2.2.length cp24), (3, .slice a3 x2.length x2.length)]) (es' := [rowT 34 eHd a23 b2.2.length cp24 hs25, innO 42 eSPoint none hs25 b2.2, rowT 2 eI64 a3 x2.length x2.length b2.1]) [1, 2, 0] ?_ ⟨rfl, rfl, trivial⟩ (by decide) rfl
      refine JE.code ?_
      refine JX.ret ?_
      obtain rfl := Option.some.inj hres
      refine JE.ret (rs := [.tmp 2, .tmp 3]) (vs := [.slice a23 b2.2.length cp24, .slice a3 x2.length x2.length]) rfl ⟨rfl, rfl, trivial⟩ ?_
      exact fun w' hb hs => ⟨_, _, ⟨a23, b2.2.length, cp24, hs25, rfl, hi52, a3, x2.length, x2.length, l48, rfl, rfl⟩, rfl, hb, hs.sel [0, 1, 2] _ (by decide) rfl⟩

/- spec.l20Code -/
def sh99 (q0 : SPanel) (q1 : Int) (q2 : Int) : Option (List SPoint × Int) := Option.bind (sh139 q0) fun x1 => bif !x1 then (some (([] : List SPoint), 1)) else (Option.bind (sh147 q0) fun x3 => Option.bind (sh100 q1 0 (w64 (((x3.1.length : Nat) : Int) - 1))) fun x13 => Option.bind (bif !x13 then (some true) else (Option.bind (sh100 q2 1 1000) fun x15 => some !x15)) fun cb14 => (bif cb14 then (some (([] : List SPoint), 2)) else (Option.bind (getI x3.1 q1) fun x17 => some (x17, 0))))
def T99 (r : List SPoint × Int) (v : Value) (rs : List Own) : Prop := ∃ (a0 : Option Addr) (n0 c0 : Nat), r.1.length = n0 ∧ v = rets [.slice a0 n0 c0, .int .i64 r.2] ∧ rs = [rowT 42 eSPoint a0 n0 c0 r.1]
set_option maxRecDepth 100000 in
theorem c99 {w : World} {q0 : SPanel} {a_0 : Option Addr} {n_0 : Nat} {a_0_2 : Option Addr} {n_0_2 c_0_2 : Nat} (g_0 : RdAt w a_0 n_0 [.int .i64 q0.W, .int .i64 q0.H, .slice a_0_2 n_0_2 c_0_2]) (g_0_2 : Rd w a_0_2 (eI64.fl q0.Breaks)) (l_0_2 : q0.Breaks.length = n_0_2) (k_0_2 : n_0_2 ≤ c_0_2) {q1 : Int} {q2 : Int} {r : List SPoint × Int} (hres : sh99 q0 q1 q2 = some r) : Calls Go.Proofs.Try.prog 99 [ptrAt a_0 n_0, .int .i64 q1, .int .i64 q2].toArray w (Ret w (T99 r)) := by
  subst l_0_2
  obtain ⟨b_0, e_0, g_0⟩ := g_0.norm0
  rw [e_0]
  unfold sh99 at hres
  refine calls_of (n := 33) (M := []) (es := []) Go.Proofs.Try.func99 rfl rfl rfl (Sep.nil _ _ _) ?_
  refine JX.seq ?_
  refine JX.region ?_
  refine JL.val (yl_assign rfl) rfl ?_
  refine JL.val (yl_assign rfl) rfl ?_
  refine JL.nil ?_
  refine JE.code ?_
  refine JX.seq ?_
  refine JX.seq ?_
  refine JX.region ?_
  refine JL.val (yl_move rfl) rfl ?_
  obtain ⟨x1, hx1, hres⟩ := bind_some hres
  refine JL.eff (ef_call (T := T139 x1) Go.Proofs.Try.func139 rfl (by kernel_rfl) rfl (fun w hC => c139 (RdAt.of0 (rd_arg g_0 hC)) (rd_arg g_0_2 hC) rfl k_0_2 hx1)) rfl ?_
  rintro _ _ ⟨_, ⟨rfl, rfl⟩, rfl⟩
  refine JL.val (yl_not rfl) rfl ?_
  refine JL.nil ?_
  refine JE.code ?_
  rcases cond_some hres with ⟨hb, hres⟩ | ⟨hb, hres⟩
  · refine JX.condT rfl hb ?_
    refine JX.seq ?_
    refine JX.region ?_
    refine JL.val (yl_assign rfl) rfl ?_
    refine JL.val (yl_assign rfl) rfl ?_
    refine JL.nil ?_
    refine JE.code ?_
    refine JX.ret ?_
    refine JE.nilrow 42 eSPoint ?_
    obtain rfl := Option.some.inj hres
    refine JE.ret (rs := [.tmp 6, .tmp 7]) (vs := [.slice none 0 0, .int .i64 1]) rfl ⟨rfl, rfl, trivial⟩ ?_
    exact fun w' hb hs => ⟨_, _, ⟨none, 0, 0, rfl, rfl, rfl⟩, rfl, hb, hs.sel [0] _ (by decide) rfl⟩
  · refine JX.condF rfl hb ?_
    refine JX.skip ?_
    refine JE.code ?_
    refine JX.seq ?_
    refine JX.region ?_
    refine JL.val (yl_move rfl) rfl ?_
    obtain ⟨x3, hx3, hres⟩ := bind_some hres
    refine JL.eff (ef_call (T := T147 x3) Go.Proofs.Try.func147 rfl (by kernel_rfl) rfl (fun w hC => c147 (RdAt.of0 (rd_arg g_0 hC)) (rd_arg g_0_2 hC) rfl k_0_2 hx3)) rfl ?_
    rintro _ _ ⟨_, ⟨a4, _, cp5, hs7, rfl, hi8, a10, _, cp11, rfl, rfl, rfl⟩, rfl⟩
    refine JL.val (yl_move rfl) rfl ?_
    refine JL.val (yl_extract rfl rfl) rfl ?_
    refine JL.val (yl_extract rfl rfl) rfl ?_
    refine JL.val (yl_assign rfl) rfl ?_
    refine JL.val (yl_assign rfl) rfl ?_
    refine JL.nil ?_
    refine JE.weak (env' := [(1, .int .i64 q1), (2, .int .i64 q2), (8, .slice a4 x3.1.length cp5)]) (es' := [rowT 34 eHd a4 x3.1.length cp5 hs7, innO 42 eSPoint none hs7 x3.1]) [0, 1] ?_ ⟨rfl, rfl, rfl, trivial⟩ (by decide) rfl
    refine JE.code ?_
    refine JX.seq ?_
    refine JX.seq ?_
    refine JX.region ?_
    refine JL.val (yl_move rfl) rfl ?_
    refine JL.val (yl_move rfl) rfl ?_
    refine JL.val (yl_len_slice Go.Proofs.Try.underlying29 rfl) rfl ?_
    refine JL.val (yl_sub rfl rfl) rfl ?_
    obtain ⟨x13, hx13, hres⟩ := bind_some hres
    refine JL.eff (ef_call (T := T100 x13) Go.Proofs.Try.func100 rfl (by kernel_rfl) rfl (fun w hC => c100  hx13)) rfl ?_
    rintro _ _ ⟨_, ⟨rfl, rfl⟩, rfl⟩
    refine JL.val (yl_not rfl) rfl ?_
    refine JL.val (yl_move rfl) rfl ?_
    obtain ⟨cb14, hcb14, hres⟩ := bind_some hres
    refine JL.cut (K := fun J => J [(1, .int .i64 q1), (8, .slice a4 x3.1.length cp5), (28, .bool cb14)] [rowT 34 eHd a4 x3.1.length cp5 hs7, innO 42 eSPoint none hs7 x3.1]) 4 ?_ ?_
    · refine JL.nil ?_
      refine JE.weak (env' := [(1, .int .i64 q1), (8, .slice a4 x3.1.length cp5), (28, .bool cb14)]) (es' := [rowT 34 eHd a4 x3.1.length cp5 hs7, innO 42 eSPoint none hs7 x3.1]) [0, 1] ?_ ⟨rfl, rfl, rfl, trivial⟩ (by decide) rfl
      refine JE.code ?_
      rcases cond_some hres with ⟨hb, hres⟩ | ⟨hb, hres⟩
      · refine JX.condT rfl hb ?_
        refine JX.seq ?_
        refine JX.region ?_
        refine JL.val (yl_assign rfl) rfl ?_
        refine JL.val (yl_assign rfl) rfl ?_
        refine JL.nil ?_
        refine JE.weak (env' := [(6, .slice none 0 0), (7, .int .i64 2)]) (es' := []) [] ?_ ⟨rfl, rfl, trivial⟩ (by decide) rfl
        refine JE.code ?_
        refine JX.ret ?_
        refine JE.nilrow 42 eSPoint ?_
        obtain rfl := Option.some.inj hres
        refine JE.ret (rs := [.tmp 6, .tmp 7]) (vs := [.slice none 0 0, .int .i64 2]) rfl ⟨rfl, rfl, trivial⟩ ?_
        exact fun w' hb hs => ⟨_, _, ⟨none, 0, 0, rfl, rfl, rfl⟩, rfl, hb, hs.sel [0] _ (by decide) rfl⟩
      · refine JX.condF rfl hb ?_
        refine JX.skip ?_
        refine JE.code ?_
        refine JX.seq ?_
        refine JX.region ?_
        refine JL.val (yl_move rfl) rfl ?_
        refine JL.val (yl_move rfl) rfl ?_
        obtain ⟨x17, hx17, hres⟩ := bind_some hres
        obtain ⟨ha18, hc19, hhx17⟩ := Inn.sub hi8 hx17
        refine JL.val (yl_idxT Go.Proofs.Try.underlying29 i34 i34s rfl rfl hhx17 (Inn.len hi8) (fun w hC => rd_row hC 0 rfl)) rfl ?_
        refine JL.val (yl_loadT0 (z := ⟨ha18, x17.length, hc19⟩) Go.Proofs.Try.underlying34 rfl rfl hhx17 (fun w hC => rd_row hC 0 rfl) rfl) rfl ?_
        refine JL.val (yl_assign rfl) rfl ?_
        refine JL.val (yl_assign rfl) rfl ?_
        refine JL.nil ?_
        refine JE.weak (env' := [(6, .slice ha18 x17.length hc19), (7, .int .i64 0)]) (es' := [rowT 34 eHd a4 x3.1.length cp5 hs7, innO 42 eSPoint none hs7 x3.1]) [0, 1] ?_ ⟨rfl, rfl, trivial⟩ (by decide) rfl
        refine JE.code ?_
        refine JX.ret ?_
        refine JE.focus (es' := [rowT 34 eHd a4 x3.1.length cp5 hs7]) [0, 1] (by decide) rfl hhx17 hx17 ?_
        obtain rfl := Option.some.inj hres
        refine JE.ret (rs := [.tmp 6, .tmp 7]) (vs := [.slice ha18 x17.length hc19, .int .i64 0]) rfl ⟨rfl, rfl, trivial⟩ ?_
        exact fun w' hb hs => ⟨_, _, ⟨ha18, x17.length, hc19, rfl, rfl, rfl⟩, rfl, hb, hs.sel [2] _ (by decide) rfl⟩
    · intro K
      rcases cond_some hcb14 with ⟨hb, hres⟩ | ⟨hb, hres⟩
      · refine JL.set (d := 24) (v := .bool true) (congrArg (fun b => some (Value.bool b)) hb) ?_
        refine JL.gskip rfl rfl rfl rfl ?_
        refine JL.gskip rfl rfl rfl rfl ?_
        refine JL.gskip rfl rfl rfl rfl ?_
        refine JL.val (yl_pick_true rfl rfl) rfl ?_
        have he := Option.some.inj hres
        exact JL.weak [0, 1] K ⟨rfl, rfl, (by rw [← he]; rfl), trivial⟩ (by decide) rfl
      · refine JL.set (d := 24) (v := .bool false) (congrArg (fun b => some (Value.bool b)) hb) ?_
        refine JL.gval rfl rfl (yl_move rfl) rfl ?_
        obtain ⟨x15, hx15, hres⟩ := bind_some hres
        refine JL.geff rfl rfl (ef_call (T := T100 x15) Go.Proofs.Try.func100 rfl (by kernel_rfl) rfl (fun w hC => c100  hx15)) rfl ?_
        rintro _ _ ⟨_, ⟨rfl, rfl⟩, rfl⟩
        refine JL.gval rfl rfl (yl_not rfl) rfl ?_
        refine JL.val (yl_pick_false rfl rfl) rfl ?_
        have he := Option.some.inj hres
        exact JL.weak [0, 1] K ⟨rfl, rfl, (by rw [← he]; rfl), trivial⟩ (by decide) rfl

/- spec.BandOf -/
def sh12_1 (q2 : Int) (q3 : Int) (x3 : List SPoint × Int) : (Int × List (List SPoint)) → Option ((Int × List (List SPoint)) ⊕ (List (List SPoint)))
  | (x20, x21) => bif decide (x20 < (x3.1.length : Int)) then (Option.bind (getI x3.1 x20) fun x26 => Option.bind (nzI (x3.1.length : Int)) fun x29 => Option.bind (getI x3.1 ((w64 (x20 + 1)).tmod (x3.1.length : Int))) fun x30 => Option.bind (appL x21 [[SPoint.mk (w64 ((w64 (x26.X * q2)) + (w64 ((w64 (0 - q3)) * (w64 (x30.Y - x26.Y)))))) (w64 ((w64 (x26.Y * q2)) + (w64 (q3 * (w64 (x30.X - x26.X)))))), SPoint.mk (w64 ((w64 (x30.X * q2)) + (w64 ((w64 (0 - q3)) * (w64 (x30.Y - x26.Y)))))) (w64 ((w64 (x30.Y * q2)) + (w64 (q3 * (w64 (x30.X - x26.X)))))), SPoint.mk (w64 ((w64 (x30.X * q2)) - (w64 ((w64 (0 - q3)) * (w64 (x30.Y - x26.Y)))))) (w64 ((w64 (x30.Y * q2)) - (w64 (q3 * (w64 (x30.X - x26.X)))))), SPoint.mk (w64 ((w64 (x26.X * q2)) - (w64 ((w64 (0 - q3)) * (w64 (x30.Y - x26.Y)))))) (w64 ((w64 (x26.Y * q2)) - (w64 (q3 * (w64 (x30.X - x26.X))))))]]) fun x37 => some (.inl (w64 (x20 + 1), x37))) else (some (.inr x21))
def sh12 (q0 : SPanel) (q1 : Int) (q2 : Int) (q3 : Int) : Option (List (List SPoint) × Int) := Option.bind (sh99 q0 q1 q2) fun x3 => Option.bind (bif x3.2 == 0 then (Option.bind (sh100 q3 1 1000) fun x8 => some !x8) else (some false)) fun cb7 => (Option.bind (bif cb7 then (some 2) else (some x3.2)) fun j9 => (Option.bind (bif (j9 == 0) && (decide (q2 < (w64 (2 * q3)))) then (some 6) else (some j9)) fun j10 => (bif j10 != 0 then (some (([] : List (List SPoint)), j10)) else (Option.bind (iter (sh12_1 q2 q3 x3) (0, ([] : List (List SPoint)))) fun b1 => (some (b1, 0))))))
def T12 (r : List (List SPoint) × Int) (v : Value) (rs : List Own) : Prop := ∃ (a0 : Option Addr) (n0 c0 : Nat) (h0 : List Hd), r.1.length = n0 ∧ Inn h0 r.1 ∧ v = rets [.slice a0 n0 c0, .int .i64 r.2] ∧ rs = [rowT 34 eHd a0 n0 c0 h0, innO 42 eSPoint none h0 r.1]
set_option maxRecDepth 100000 in
set_option maxHeartbeats 1000000 in
theorem c12 {w : World} {q0 : SPanel} {a_0_2 : Option Addr} {n_0_2 c_0_2 : Nat} (g_0_2 : Rd w a_0_2 (eI64.fl q0.Breaks)) (l_0_2 : q0.Breaks.length = n_0_2) (k_0_2 : n_0_2 ≤ c_0_2) {q1 : Int} {q2 : Int} {q3 : Int} {r : List (List SPoint) × Int} (hres : sh12 q0 q1 q2 q3 = some r) : Calls Go.Proofs.Try.prog 12 [.agg #[.int .i64 q0.W, .int .i64 q0.H, .slice a_0_2 n_0_2 c_0_2], .int .i64 q1, .int .i64 q2, .int .i64 q3].toArray w (Ret w (T12 r)) := by
  subst l_0_2
  unfold sh12 at hres
  refine calls_of (n := 133) (M := []) (es := []) Go.Proofs.Try.func12 rfl rfl rfl (Sep.nil _ _ _) ?_
  refine JX.seq ?_
  refine JX.region ?_
  refine JL.eff (ef_box rfl rfl) rfl ?_
  rintro _ _ ⟨g1, rfl, rfl⟩
  refine JL.val (yl_assign rfl) rfl ?_
  refine JL.val (yl_assign rfl) rfl ?_
  refine JL.nil ?_
  refine JE.code ?_
  refine JX.seq ?_
  refine JX.region ?_
  refine JL.val (yl_move rfl) rfl ?_
  refine JL.val (yl_move rfl) rfl ?_
  obtain ⟨x3, hx3, hres⟩ := bind_some hres
  refine JL.eff (ef_call (T := T99 x3) Go.Proofs.Try.func99 rfl (by kernel_rfl) rfl (fun w hC => c99 (RdAt.of0 (rd_box hC 0 rfl)) (rd_arg g_0_2 hC) rfl k_0_2 hx3)) rfl ?_
  rintro _ _ ⟨_, ⟨a4, _, cp5, rfl, rfl, rfl⟩, rfl⟩
  refine JL.val (yl_move rfl) rfl ?_
  refine JL.val (yl_extract rfl rfl) rfl ?_
  refine JL.val (yl_extract rfl rfl) rfl ?_
  refine JL.val (yl_assign rfl) rfl ?_
  refine JL.val (yl_assign rfl) rfl ?_
  refine JL.nil ?_
  refine JE.weak (env' := [(2, .int .i64 q2), (3, .int .i64 q3), (10, .slice a4 x3.1.length cp5), (11, .int .i64 x3.2)]) (es' := [rowT 42 eSPoint a4 x3.1.length cp5 x3.1]) [1] ?_ ⟨rfl, rfl, rfl, rfl, trivial⟩ (by decide) rfl
  refine JE.code ?_
  refine JX.seq ?_
  refine JX.seq ?_
  refine JX.region ?_
  refine JL.val (yl_move rfl) rfl ?_
  refine JL.val (yl_eql rfl rfl) rfl ?_
  refine JL.val (yl_move rfl) rfl ?_
  obtain ⟨cb7, hcb7, hres⟩ := bind_some hres
  refine JL.cut (K := fun J => J [(2, .int .i64 q2), (3, .int .i64 q3), (10, .slice a4 x3.1.length cp5), (11, .int .i64 x3.2), (30, .bool cb7)] [rowT 42 eSPoint a4 x3.1.length cp5 x3.1]) 4 ?_ ?_
  · refine JL.nil ?_
    refine JE.weak (env' := [(2, .int .i64 q2), (3, .int .i64 q3), (10, .slice a4 x3.1.length cp5), (11, .int .i64 x3.2), (30, .bool cb7)]) (es' := [rowT 42 eSPoint a4 x3.1.length cp5 x3.1]) [0] ?_ ⟨rfl, rfl, rfl, rfl, rfl, trivial⟩ (by decide) rfl
    refine JE.code ?_
    obtain ⟨j9, hj9, hresj9⟩ := bind_some hres
    refine JX.cut (K := fun J => J [(2, .int .i64 q2), (3, .int .i64 q3), (10, .slice a4 x3.1.length cp5), (11, .int .i64 j9)] [rowT 42 eSPoint a4 x3.1.length cp5 x3.1]) ?_ ?_
    · have hres := hresj9
      refine JE.code ?_
      refine JX.seq ?_
      refine JX.seq ?_
      refine JX.region ?_
      refine JL.val (yl_move rfl) rfl ?_
      refine JL.val (yl_eql rfl rfl) rfl ?_
      refine JL.val (yl_move rfl) rfl ?_
      refine JL.cut (K := fun J => J [(2, .int .i64 q2), (3, .int .i64 q3), (10, .slice a4 x3.1.length cp5), (11, .int .i64 j9), (38, .bool ((j9 == 0) && (decide (q2 < (w64 (2 * q3))))))] [rowT 42 eSPoint a4 x3.1.length cp5 x3.1]) 5 ?_ ?_
      · refine JL.nil ?_
        refine JE.weak (env' := [(2, .int .i64 q2), (3, .int .i64 q3), (10, .slice a4 x3.1.length cp5), (11, .int .i64 j9), (38, .bool ((j9 == 0) && (decide (q2 < (w64 (2 * q3))))))]) (es' := [rowT 42 eSPoint a4 x3.1.length cp5 x3.1]) [0] ?_ ⟨rfl, rfl, rfl, rfl, rfl, trivial⟩ (by decide) rfl
        refine JE.code ?_
        obtain ⟨j10, hj10, hresj10⟩ := bind_some hres
        refine JX.cut (K := fun J => J [(2, .int .i64 q2), (3, .int .i64 q3), (10, .slice a4 x3.1.length cp5), (11, .int .i64 j10)] [rowT 42 eSPoint a4 x3.1.length cp5 x3.1]) ?_ ?_
        · have hres := hresj10
          refine JE.code ?_
          refine JX.seq ?_
          refine JX.seq ?_
          refine JX.region ?_
          refine JL.val (yl_move rfl) rfl ?_
          refine JL.val (yl_neq rfl rfl) rfl ?_
          refine JL.nil ?_
          refine JE.code ?_
          rcases cond_some hres with ⟨hb, hres⟩ | ⟨hb, hres⟩
          · refine JX.condT rfl hb ?_
            refine JX.seq ?_
            refine JX.region ?_
            refine JL.val (yl_move rfl) rfl ?_
            refine JL.val (yl_assign rfl) rfl ?_
            refine JL.val (yl_assign rfl) rfl ?_
            refine JL.nil ?_
            refine JE.weak (env' := [(8, .slice none 0 0), (9, .int .i64 j10)]) (es' := []) [] ?_ ⟨rfl, rfl, trivial⟩ (by decide) rfl
            refine JE.code ?_
            refine JX.ret ?_
            refine JE.nilrow 34 eHd ?_
            refine JE.nilinn 42 eSPoint ?_
            obtain rfl := Option.some.inj hres
            refine JE.ret (rs := [.tmp 8, .tmp 9]) (vs := [.slice none 0 0, .int .i64 j10]) rfl ⟨rfl, rfl, trivial⟩ ?_
            exact fun w' hb hs => ⟨_, _, ⟨none, 0, 0, ([] : List Hd), ((Inn.len (Inn.nil (T := SPoint))).symm.trans rfl), (Inn.nil (T := SPoint)), rfl, rfl⟩, rfl, hb, hs.sel [0, 1] _ (by decide) rfl⟩
          · refine JX.condF rfl hb ?_
            refine JX.skip ?_
            refine JE.code ?_
            refine JX.seq ?_
            refine JX.region ?_
            refine JL.eff (ef_buildSlice (E := 34) (k := eHd.k) (us := eHd.fl ([] : List Hd)) rfl (fun w => bsl29_0  w) rfl (by decide)) rfl ?_
            rintro _ _ ⟨a13, rfl, rfl⟩
            refine JL.nilinn 42 eSPoint ?_
            refine JL.val (yl_assign rfl) rfl ?_
            refine JL.nil ?_
            refine JE.code ?_
            refine JX.seq ?_
            refine JX.seq ?_
            refine JX.region ?_
            refine JL.val (yl_assign rfl) rfl ?_
            refine JL.nil ?_
            refine JE.code ?_
            refine JX.block ?_
            obtain ⟨y1, hy1, hresO1⟩ := bind_some hres
            refine JX.loop (I := fun (s1 : Int × List (List SPoint)) aa ww => ∃ (a16 : Option Addr) (cp17 : Nat) (hs18 : List Hd) (hi19 : Inn hs18 s1.2), St w [] 133 [(2, .int .i64 q2), (3, .int .i64 q3), (10, .slice a4 x3.1.length cp5), (12, .slice a16 s1.2.length cp17), (13, .int .i64 s1.1)] [rowT 42 eSPoint a4 x3.1.length cp5 x3.1, rowT 34 eHd a16 s1.2.length cp17 hs18, innO 42 eSPoint none hs18 s1.2] aa ww) (sh12_1 q2 q3 x3) hy1 (fun a w h => ⟨a13, 0, ([] : List Hd), (Inn.nil (T := SPoint)), h.weak ⟨rfl, rfl, rfl, rfl, rfl, trivial⟩ [0, 1, 2] (by decide) rfl⟩) ?_
            rintro ⟨x20, x21⟩ o1 hres hox1 aa ww ⟨a22, cp23, hs24, hi25, hS⟩
            refine (?_ : JX Go.Proofs.Try.prog w [] 133 _ _ [(2, .int .i64 q2), (3, .int .i64 q3), (10, .slice a4 x3.1.length cp5), (12, .slice a22 x21.length cp23), (13, .int .i64 x20)] [rowT 42 eSPoint a4 x3.1.length cp5 x3.1, rowT 34 eHd a22 x21.length cp23 hs24, innO 42 eSPoint none hs24 x21] _) aa ww hS
            clear hS
            simp only [sh12_1] at hres
            refine JX.seq ?_
            refine JX.seq ?_
            refine JX.region ?_
            refine JL.val (yl_move rfl) rfl ?_
            refine JL.val (yl_move rfl) rfl ?_
            refine JL.val (yl_len_slice Go.Proofs.Try.underlying34 rfl) rfl ?_
            refine JL.val (yl_lss rfl rfl) rfl ?_
            refine JL.nil ?_
            refine JE.weak (env' := [(2, .int .i64 q2), (3, .int .i64 q3), (10, .slice a4 x3.1.length cp5), (12, .slice a22 x21.length cp23), (13, .int .i64 x20), (46, .bool (decide (x20 < (x3.1.length : Int))))]) (es' := [rowT 42 eSPoint a4 x3.1.length cp5 x3.1, rowT 34 eHd a22 x21.length cp23 hs24, innO 42 eSPoint none hs24 x21]) [0, 1, 2] ?_ ⟨rfl, rfl, rfl, rfl, rfl, rfl, trivial⟩ (by decide) rfl
            refine JE.code ?_
            rcases cond_some hres with ⟨hb, hres⟩ | ⟨hb, hres⟩
            · refine JX.condT rfl hb ?_
              refine JX.skip ?_
              refine JE.code ?_
              refine JX.seq ?_
              refine JX.block ?_
              refine JX.seq ?_
              refine JX.region ?_
              refine JL.val (yl_move rfl) rfl ?_
              refine JL.val (yl_move rfl) rfl ?_
              obtain ⟨x26, hx26, hres⟩ := bind_some hres
              refine JL.val (yl_idxT Go.Proofs.Try.underlying34 i42 i42s rfl rfl hx26 rfl (fun w hC => rd_row hC 0 rfl)) rfl ?_
              refine JL.val (yl_loadTn Go.Proofs.Try.underlying42 rfl i42 i42s rfl hx26 (fun w hC => rd_row hC 0 rfl)) rfl ?_
              refine JL.eff (ef_alloc i42 i42z rfl) rfl ?_
              rintro _ _ ⟨g27, rfl, rfl⟩
              refine JL.eff (ef_store_box (i := 3) (v := .agg #[.int .i64 x26.X, .int .i64 x26.Y]) i42 rfl rfl rfl (i42s).symm (Nat.le_of_ble_eq_true rfl) (by simp [Value.cells, Value.oneCell'])) rfl ?_
              rintro _ _ rfl
              refine JL.nil ?_
              refine JE.weak (env' := [(2, .int .i64 q2), (3, .int .i64 q3), (10, .slice a4 x3.1.length cp5), (12, .slice a22 x21.length cp23), (13, .int .i64 x20), (14, ptrAt (some ⟨g27, 0, none⟩) 0)]) (es' := [rowT 42 eSPoint a4 x3.1.length cp5 x3.1, rowT 34 eHd a22 x21.length cp23 hs24, innO 42 eSPoint none hs24 x21, boxO 42 g27 [.int .i64 x26.X, .int .i64 x26.Y]]) [0, 1, 2, 3] ?_ ⟨rfl, rfl, rfl, rfl, rfl, rfl, trivial⟩ (by decide) rfl
              refine JE.code ?_
              refine JX.seq ?_
              refine JX.region ?_
              refine JL.val (yl_move rfl) rfl ?_
              refine JL.val (yl_move rfl) rfl ?_
              refine JL.val (yl_add rfl rfl) rfl ?_
              refine JL.val (yl_move rfl) rfl ?_
              refine JL.val (yl_len_slice Go.Proofs.Try.underlying34 rfl) rfl ?_
              obtain ⟨x29, hx29, hres⟩ := bind_some hres
              refine JL.val (yl_rem rfl rfl (nzI_some hx29)) rfl ?_
              obtain ⟨x30, hx30, hres⟩ := bind_some hres
              refine JL.val (yl_idxT Go.Proofs.Try.underlying34 i42 i42s rfl rfl hx30 rfl (fun w hC => rd_row hC 0 rfl)) rfl ?_
              refine JL.val (yl_loadTn Go.Proofs.Try.underlying42 rfl i42 i42s rfl hx30 (fun w hC => rd_row hC 0 rfl)) rfl ?_
              refine JL.eff (ef_alloc i42 i42z rfl) rfl ?_
              rintro _ _ ⟨g31, rfl, rfl⟩
              refine JL.eff (ef_store_box (i := 4) (v := .agg #[.int .i64 x30.X, .int .i64 x30.Y]) i42 rfl rfl rfl (i42s).symm (Nat.le_of_ble_eq_true rfl) (by simp [Value.cells, Value.oneCell'])) rfl ?_
              rintro _ _ rfl
              refine JL.nil ?_
              refine JE.weak (env' := [(2, .int .i64 q2), (3, .int .i64 q3), (10, .slice a4 x3.1.length cp5), (12, .slice a22 x21.length cp23), (13, .int .i64 x20), (14, ptrAt (some ⟨g27, 0, none⟩) 0), (15, ptrAt (some ⟨g31, 0, none⟩) 0)]) (es' := [rowT 42 eSPoint a4 x3.1.length cp5 x3.1, rowT 34 eHd a22 x21.length cp23 hs24, innO 42 eSPoint none hs24 x21, boxO 42 g27 [.int .i64 x26.X, .int .i64 x26.Y], boxO 42 g31 [.int .i64 x30.X, .int .i64 x30.Y]]) [0, 1, 2, 3, 4] ?_ ⟨rfl, rfl, rfl, rfl, rfl, rfl, rfl, trivial⟩ (by decide) rfl
              refine JE.code ?_
              refine JX.seq ?_
              refine JX.region ?_
              refine JL.val (yl_move rfl) rfl ?_
              refine JL.val (yl_neg rfl) rfl ?_
              refine JL.val (yl_fieldAt (a := some _) Go.Proofs.Try.underlying42 rfl i2 i2n rfl rfl) rfl ?_
              refine JL.val (yl_load1 Go.Proofs.Try.underlying2 rfl rfl (fun w hC => rd_box hC 4 rfl) rfl) rfl ?_
              refine JL.val (yl_fieldAt (a := some _) Go.Proofs.Try.underlying42 rfl i2 i2n rfl rfl) rfl ?_
              refine JL.val (yl_load1 Go.Proofs.Try.underlying2 rfl rfl (fun w hC => rd_box hC 3 rfl) rfl) rfl ?_
              refine JL.val (yl_sub rfl rfl) rfl ?_
              refine JL.val (yl_mul rfl rfl) rfl ?_
              refine JL.val (yl_assign rfl) rfl ?_
              refine JL.nil ?_
              refine JE.weak (env' := [(2, .int .i64 q2), (3, .int .i64 q3), (10, .slice a4 x3.1.length cp5), (12, .slice a22 x21.length cp23), (13, .int .i64 x20), (14, ptrAt (some ⟨g27, 0, none⟩) 0), (15, ptrAt (some ⟨g31, 0, none⟩) 0), (16, .int .i64 (w64 ((w64 (0 - q3)) * (w64 (x30.Y - x26.Y)))))]) (es' := [rowT 42 eSPoint a4 x3.1.length cp5 x3.1, rowT 34 eHd a22 x21.length cp23 hs24, innO 42 eSPoint none hs24 x21, boxO 42 g27 [.int .i64 x26.X, .int .i64 x26.Y], boxO 42 g31 [.int .i64 x30.X, .int .i64 x30.Y]]) [0, 1, 2, 3, 4] ?_ ⟨rfl, rfl, rfl, rfl, rfl, rfl, rfl, rfl, trivial⟩ (by decide) rfl
              refine JE.code ?_
              refine JX.seq ?_
              refine JX.region ?_
              refine JL.val (yl_move rfl) rfl ?_
              refine JL.val (yl_fieldAt (a := some _) Go.Proofs.Try.underlying42 rfl i2 i2n rfl rfl) rfl ?_
              refine JL.val (yl_load1 Go.Proofs.Try.underlying2 rfl rfl (fun w hC => rd_box hC 4 rfl) rfl) rfl ?_
              refine JL.val (yl_fieldAt (a := some _) Go.Proofs.Try.underlying42 rfl i2 i2n rfl rfl) rfl ?_
              refine JL.val (yl_load1 Go.Proofs.Try.underlying2 rfl rfl (fun w hC => rd_box hC 3 rfl) rfl) rfl ?_
              refine JL.val (yl_sub rfl rfl) rfl ?_
              refine JL.val (yl_mul rfl rfl) rfl ?_
              refine JL.val (yl_assign rfl) rfl ?_
              refine JL.nil ?_
              refine JE.weak (env' := [(2, .int .i64 q2), (3, .int .i64 q3), (10, .slice a4 x3.1.length cp5), (12, .slice a22 x21.length cp23), (13, .int .i64 x20), (14, ptrAt (some ⟨g27, 0, none⟩) 0), (15, ptrAt (some ⟨g31, 0, none⟩) 0), (16, .int .i64 (w64 ((w64 (0 - q3)) * (w64 (x30.Y - x26.Y))))), (17, .int .i64 (w64 (q3 * (w64 (x30.X - x26.X)))))]) (es' := [rowT 42 eSPoint a4 x3.1.length cp5 x3.1, rowT 34 eHd a22 x21.length cp23 hs24, innO 42 eSPoint none hs24 x21, boxO 42 g27 [.int .i64 x26.X, .int .i64 x26.Y], boxO 42 g31 [.int .i64 x30.X, .int .i64 x30.Y]]) [0, 1, 2, 3, 4] ?_ ⟨rfl, rfl, rfl, rfl, rfl, rfl, rfl, rfl, rfl, trivial⟩ (by decide) rfl
              refine JE.code ?_
              refine JX.region ?_
              refine JL.val (yl_move rfl) rfl ?_
              refine JL.val (yl_fieldAt (a := some _) Go.Proofs.Try.underlying42 rfl i2 i2n rfl rfl) rfl ?_
              refine JL.val (yl_load1 Go.Proofs.Try.underlying2 rfl rfl (fun w hC => rd_box hC 3 rfl) rfl) rfl ?_
              refine JL.val (yl_move rfl) rfl ?_
              refine JL.val (yl_mul rfl rfl) rfl ?_
              refine JL.val (yl_move rfl) rfl ?_
              refine JL.val (yl_add rfl rfl) rfl ?_
              refine JL.val (yl_fieldAt (a := some _) Go.Proofs.Try.underlying42 rfl i2 i2n rfl rfl) rfl ?_
              refine JL.val (yl_load1 Go.Proofs.Try.underlying2 rfl rfl (fun w hC => rd_box hC 3 rfl) rfl) rfl ?_
              refine JL.val (yl_move rfl) rfl ?_
              refine JL.val (yl_mul rfl rfl) rfl ?_
              refine JL.val (yl_move rfl) rfl ?_
              refine JL.val (yl_add rfl rfl) rfl ?_
              refine JL.val (yl_build rfl (fun w => bld42_0_1 (w64 ((w64 (x26.X * q2)) + (w64 ((w64 (0 - q3)) * (w64 (x30.Y - x26.Y)))))) (w64 ((w64 (x26.Y * q2)) + (w64 (q3 * (w64 (x30.X - x26.X)))))) w)) rfl ?_
              refine JL.val (yl_fieldAt (a := some _) Go.Proofs.Try.underlying42 rfl i2 i2n rfl rfl) rfl ?_
              refine JL.val (yl_load1 Go.Proofs.Try.underlying2 rfl rfl (fun w hC => rd_box hC 4 rfl) rfl) rfl ?_
              refine JL.val (yl_move rfl) rfl ?_
              refine JL.val (yl_mul rfl rfl) rfl ?_
              refine JL.val (yl_move rfl) rfl ?_
              refine JL.val (yl_add rfl rfl) rfl ?_
              refine JL.val (yl_fieldAt (a := some _) Go.Proofs.Try.underlying42 rfl i2 i2n rfl rfl) rfl ?_
              refine JL.val (yl_load1 Go.Proofs.Try.underlying2 rfl rfl (fun w hC => rd_box hC 4 rfl) rfl) rfl ?_
              refine JL.val (yl_move rfl) rfl ?_
              refine JL.val (yl_mul rfl rfl) rfl ?_
              refine JL.val (yl_move rfl) rfl ?_
              refine JL.val (yl_add rfl rfl) rfl ?_
              refine JL.val (yl_build rfl (fun w => bld42_0_1 (w64 ((w64 (x30.X * q2)) + (w64 ((w64 (0 - q3)) * (w64 (x30.Y - x26.Y)))))) (w64 ((w64 (x30.Y * q2)) + (w64 (q3 * (w64 (x30.X - x26.X)))))) w)) rfl ?_
              refine JL.val (yl_fieldAt (a := some _) Go.Proofs.Try.underlying42 rfl i2 i2n rfl rfl) rfl ?_
              refine JL.val (yl_load1 Go.Proofs.Try.underlying2 rfl rfl (fun w hC => rd_box hC 4 rfl) rfl) rfl ?_
              refine JL.val (yl_move rfl) rfl ?_
              refine JL.val (yl_mul rfl rfl) rfl ?_
              refine JL.val (yl_move rfl) rfl ?_
              refine JL.val (yl_sub rfl rfl) rfl ?_
              refine JL.val (yl_fieldAt (a := some _) Go.Proofs.Try.underlying42 rfl i2 i2n rfl rfl) rfl ?_
              refine JL.val (yl_load1 Go.Proofs.Try.underlying2 rfl rfl (fun w hC => rd_box hC 4 rfl) rfl) rfl ?_
              refine JL.val (yl_move rfl) rfl ?_
              refine JL.val (yl_mul rfl rfl) rfl ?_
              refine JL.val (yl_move rfl) rfl ?_
              refine JL.val (yl_sub rfl rfl) rfl ?_
              refine JL.val (yl_build rfl (fun w => bld42_0_1 (w64 ((w64 (x30.X * q2)) - (w64 ((w64 (0 - q3)) * (w64 (x30.Y - x26.Y)))))) (w64 ((w64 (x30.Y * q2)) - (w64 (q3 * (w64 (x30.X - x26.X)))))) w)) rfl ?_
              refine JL.val (yl_fieldAt (a := some _) Go.Proofs.Try.underlying42 rfl i2 i2n rfl rfl) rfl ?_
              refine JL.val (yl_load1 Go.Proofs.Try.underlying2 rfl rfl (fun w hC => rd_box hC 3 rfl) rfl) rfl ?_
              refine JL.val (yl_move rfl) rfl ?_
              refine JL.val (yl_mul rfl rfl) rfl ?_
              refine JL.val (yl_move rfl) rfl ?_
              refine JL.val (yl_sub rfl rfl) rfl ?_
              refine JL.val (yl_fieldAt (a := some _) Go.Proofs.Try.underlying42 rfl i2 i2n rfl rfl) rfl ?_
              refine JL.val (yl_load1 Go.Proofs.Try.underlying2 rfl rfl (fun w hC => rd_box hC 3 rfl) rfl) rfl ?_
              refine JL.val (yl_move rfl) rfl ?_
              refine JL.val (yl_mul rfl rfl) rfl ?_
              refine JL.val (yl_move rfl) rfl ?_
              refine JL.val (yl_sub rfl rfl) rfl ?_
              refine JL.val (yl_build rfl (fun w => bld42_0_1 (w64 ((w64 (x26.X * q2)) - (w64 ((w64 (0 - q3)) * (w64 (x30.Y - x26.Y)))))) (w64 ((w64 (x26.Y * q2)) - (w64 (q3 * (w64 (x30.X - x26.X)))))) w)) rfl ?_
              refine JL.eff (ef_buildSlice (E := 42) (k := eSPoint.k) (us := eSPoint.fl [SPoint.mk (w64 ((w64 (x26.X * q2)) + (w64 ((w64 (0 - q3)) * (w64 (x30.Y - x26.Y)))))) (w64 ((w64 (x26.Y * q2)) + (w64 (q3 * (w64 (x30.X - x26.X)))))), SPoint.mk (w64 ((w64 (x30.X * q2)) + (w64 ((w64 (0 - q3)) * (w64 (x30.Y - x26.Y)))))) (w64 ((w64 (x30.Y * q2)) + (w64 (q3 * (w64 (x30.X - x26.X)))))), SPoint.mk (w64 ((w64 (x30.X * q2)) - (w64 ((w64 (0 - q3)) * (w64 (x30.Y - x26.Y)))))) (w64 ((w64 (x30.Y * q2)) - (w64 (q3 * (w64 (x30.X - x26.X)))))), SPoint.mk (w64 ((w64 (x26.X * q2)) - (w64 ((w64 (0 - q3)) * (w64 (x30.Y - x26.Y)))))) (w64 ((w64 (x26.Y * q2)) - (w64 (q3 * (w64 (x30.X - x26.X))))))]) rfl (fun w => bsl34_4 (w64 ((w64 (x26.X * q2)) + (w64 ((w64 (0 - q3)) * (w64 (x30.Y - x26.Y)))))) (w64 ((w64 (x26.Y * q2)) + (w64 (q3 * (w64 (x30.X - x26.X)))))) (w64 ((w64 (x30.X * q2)) + (w64 ((w64 (0 - q3)) * (w64 (x30.Y - x26.Y)))))) (w64 ((w64 (x30.Y * q2)) + (w64 (q3 * (w64 (x30.X - x26.X)))))) (w64 ((w64 (x30.X * q2)) - (w64 ((w64 (0 - q3)) * (w64 (x30.Y - x26.Y)))))) (w64 ((w64 (x30.Y * q2)) - (w64 (q3 * (w64 (x30.X - x26.X)))))) (w64 ((w64 (x26.X * q2)) - (w64 ((w64 (0 - q3)) * (w64 (x30.Y - x26.Y)))))) (w64 ((w64 (x26.Y * q2)) - (w64 (q3 * (w64 (x30.X - x26.X)))))) w) rfl (by decide)) rfl ?_
              rintro _ _ ⟨a33, rfl, rfl⟩
              refine JL.eff (ef_buildSlice (E := 34) (k := eHd.k) (us := eHd.fl [⟨a33, 4, 4⟩]) rfl (fun w => bsl29_1 a33 4 4 w) rfl (by decide)) rfl ?_
              rintro _ _ ⟨a35, rfl, rfl⟩
              obtain ⟨x37, hx37, hres⟩ := bind_some hres
              refine JL.eff (ef_appendH (ix := 1) Go.Proofs.Try.underlying29 i34 i34z i34s rfl i34b0 i34b1 rfl rfl (Inn.len hi25) rfl rfl (fun w hC => rd_row hC 6 rfl) hx37 hi25) rfl ?_
              rintro _ _ ⟨a38, cp39, rfl, rfl⟩
              refine JL.absorb (es' := [rowT 42 eSPoint a4 x3.1.length cp5 x3.1, rowT 34 eHd a38 x37.length cp39 (hs24 ++ [⟨a33, 4, 4⟩]), boxO 42 g27 [.int .i64 x26.X, .int .i64 x26.Y], boxO 42 g31 [.int .i64 x30.X, .int .i64 x30.Y], rowT 34 eHd a35 1 1 [⟨a33, 4, 4⟩]]) [0, 1, 3, 4, 6, 2, 5] (by decide) rfl (appL_some hx37).2 ?_
              refine JL.val (yl_assign rfl) rfl ?_
              refine JL.nil ?_
              refine JE.weak (env' := [(2, .int .i64 q2), (3, .int .i64 q3), (10, .slice a4 x3.1.length cp5), (12, .slice a38 x37.length cp39), (13, .int .i64 x20)]) (es' := [rowT 42 eSPoint a4 x3.1.length cp5 x3.1, rowT 34 eHd a38 x37.length cp39 (hs24 ++ [⟨a33, 4, 4⟩]), innO 42 eSPoint none (hs24 ++ [⟨a33, 4, 4⟩]) x37]) [0, 1, 5] ?_ ⟨rfl, rfl, rfl, rfl, rfl, trivial⟩ (by decide) rfl
              refine JE.code ?_
              refine JX.region ?_
              refine JL.val (yl_move rfl) rfl ?_
              refine JL.val (yl_add rfl rfl) rfl ?_
              refine JL.val (yl_assign rfl) rfl ?_
              refine JL.nil ?_
              refine JE.cont hres ?_
              exact fun a w h => ⟨a38, cp39, hs24 ++ [⟨a33, 4, 4⟩], (Inn.appZ hi25 rfl (appL_some hx37).2), h.weak ⟨rfl, rfl, rfl, (by first | rfl | (simp only [List.length_set]; rfl) | simp only [List.length_set]), rfl, trivial⟩ [0, 1, 2] (by decide) (by first | rfl | (simp only [List.length_set]; rfl) | simp only [List.length_set])⟩
            · refine JX.condF rfl hb ?_
              refine JX.exit ?_
              refine JE.qb rfl ?_
              obtain ⟨b1, hb1⟩ : ∃ b : List (List SPoint), b = x21 := ⟨_, rfl⟩
              have hy1 : b1 = y1 := by rw [hb1]; exact hox1 _ (Option.some.inj hres).symm
              have hres := hresO1
              rw [← hy1] at hres
              have hi43 : Inn hs24 b1 := by subst hb1; exact hi25
              refine JE.weak (env' := [(12, .slice a22 b1.length cp23)]) (es' := [rowT 34 eHd a22 b1.length cp23 hs24, innO 42 eSPoint none hs24 b1]) [1, 2] ?_ ⟨(by subst hb1; first | rfl | (simp only [List.length_set]; rfl) | simp only [List.length_set]), trivial⟩ (by decide) (by subst hb1; first | rfl | (simp only [List.length_set]; rfl) | simp only [List.length_set])
              refine JE.code ?_
              refine JX.seq ?_
              refine JX.region ?_
              refine JL.val (yl_move rfl) rfl ?_
              refine JL.val (yl_assign rfl) rfl ?_
              refine JL.val (yl_assign rfl) rfl ?_
              refine JL.nil ?_
              refine JE.code ?_
              refine JX.ret ?_
              obtain rfl := Option.some.inj hres
              refine JE.ret (rs := [.tmp 8, .tmp 9]) (vs := [.slice a22 b1.length cp23, .int .i64 0]) rfl ⟨rfl, rfl, trivial⟩ ?_
              exact fun w' hb hs => ⟨_, _, ⟨a22, b1.length, cp23, hs24, rfl, hi43, rfl, rfl⟩, rfl, hb, hs.sel [0, 1] _ (by decide) rfl⟩
        · intro K
          rcases cond_some hj10 with ⟨hb, hres⟩ | ⟨hb, hres⟩
          · refine JX.condT rfl hb ?_
            refine JX.region ?_
            refine JL.val (yl_assign rfl) rfl ?_
            refine JL.nil ?_
            have hj := Option.some.inj hres
            exact JE.weak [0] (K) ⟨(by subst hj; rfl), (by subst hj; rfl), (by subst hj; rfl), (by subst hj; rfl), trivial⟩ (by decide) (by subst hj; rfl)
          · refine JX.condF rfl hb ?_
            refine JX.skip ?_
            have hj := Option.some.inj hres
            exact JE.weak [0] (K) ⟨(by subst hj; rfl), (by subst hj; rfl), (by subst hj; rfl), (by subst hj; rfl), trivial⟩ (by decide) (by subst hj; rfl)
      · intro K
        rcases Bool.eq_false_or_eq_true (j9 == 0) with hb | hb
        · refine JL.set (d := 33) (v := .bool true) (congrArg (fun b => some (Value.bool b)) hb) ?_
          refine JL.gval rfl rfl (yl_move rfl) rfl ?_
          refine JL.gval rfl rfl (yl_mul rfl rfl) rfl ?_
          refine JL.gval rfl rfl (yl_move rfl) rfl ?_
          refine JL.gval rfl rfl (yl_gtr rfl rfl) rfl ?_
          refine JL.val (yl_pick_true rfl rfl) rfl ?_
          exact JL.weak [0] K ⟨rfl, rfl, rfl, rfl, (by rw [hb]; rfl), trivial⟩ (by decide) rfl
        · refine JL.set (d := 33) (v := .bool false) (congrArg (fun b => some (Value.bool b)) hb) ?_
          refine JL.gskip rfl rfl rfl rfl ?_
          refine JL.gskip rfl rfl rfl rfl ?_
          refine JL.gskip rfl rfl rfl rfl ?_
          refine JL.gskip rfl rfl rfl rfl ?_
          refine JL.val (yl_pick_false rfl rfl) rfl ?_
          exact JL.weak [0] K ⟨rfl, rfl, rfl, rfl, (by rw [hb]; rfl), trivial⟩ (by decide) rfl
    · intro K
      rcases cond_some hj9 with ⟨hb, hres⟩ | ⟨hb, hres⟩
      · refine JX.condT rfl hb ?_
        refine JX.region ?_
        refine JL.val (yl_assign rfl) rfl ?_
        refine JL.nil ?_
        have hj := Option.some.inj hres
        exact JE.weak [0] (K) ⟨(by subst hj; rfl), (by subst hj; rfl), (by subst hj; rfl), (by subst hj; rfl), trivial⟩ (by decide) (by subst hj; rfl)
      · refine JX.condF rfl hb ?_
        refine JX.skip ?_
        have hj := Option.some.inj hres
        exact JE.weak [0] (K) ⟨(by subst hj; rfl), (by subst hj; rfl), (by subst hj; rfl), (by subst hj; rfl), trivial⟩ (by decide) (by subst hj; rfl)
  · intro K
    rcases cond_some hcb7 with ⟨hb, hres⟩ | ⟨hb, hres⟩
    · refine JL.set (d := 26) (v := .bool true) (congrArg (fun b => some (Value.bool b)) hb) ?_
      refine JL.gval rfl rfl (yl_move rfl) rfl ?_
      obtain ⟨x8, hx8, hres⟩ := bind_some hres
      refine JL.geff rfl rfl (ef_call (T := T100 x8) Go.Proofs.Try.func100 rfl (by kernel_rfl) rfl (fun w hC => c100  hx8)) rfl ?_
      rintro _ _ ⟨_, ⟨rfl, rfl⟩, rfl⟩
      refine JL.gval rfl rfl (yl_not rfl) rfl ?_
      refine JL.val (yl_pick_true rfl rfl) rfl ?_
      have he := Option.some.inj hres
      exact JL.weak [0] K ⟨rfl, rfl, rfl, rfl, (by rw [← he]; rfl), trivial⟩ (by decide) rfl
    · refine JL.set (d := 26) (v := .bool false) (congrArg (fun b => some (Value.bool b)) hb) ?_
      refine JL.gskip rfl rfl rfl rfl ?_
      refine JL.gskip rfl rfl rfl rfl ?_
      refine JL.gskip rfl rfl rfl rfl ?_
      refine JL.val (yl_pick_false rfl rfl) rfl ?_
      have he := Option.some.inj hres
      exact JL.weak [0] K ⟨rfl, rfl, rfl, rfl, (by rw [← he]; rfl), trivial⟩ (by decide) rfl

/- spec.DrawCurvePath -/
def sh13 (q0 : List Int) : Option (SPanel × Int × Int) := Option.bind (sh90 q0) fun x3 => Option.bind (sh91 (Sl00Src.mk q0 x3.at_ x3.seed)) fun x6 => some (x6.1, x6.2.1, x6.2.2.1)
def T13 (r : SPanel × Int × Int) (v : Value) (rs : List Own) : Prop := ∃ (a0_2 : Option Addr) (n0_2 c0_2 : Nat), r.1.Breaks.length = n0_2 ∧ v = rets [.agg #[.int .i64 r.1.W, .int .i64 r.1.H, .slice a0_2 n0_2 c0_2], .int .i64 r.2.1, .int .i64 r.2.2] ∧ rs = [rowT 2 eI64 a0_2 n0_2 c0_2 r.1.Breaks]
set_option maxRecDepth 100000 in
theorem c13 {w : World} {q0 : List Int} {a_0 : Option Addr} {n_0 c_0 : Nat} (g_0 : Rd w a_0 (eU8.fl q0)) (l_0 : q0.length = n_0) (k_0 : n_0 ≤ c_0) {r : SPanel × Int × Int} (hres : sh13 q0 = some r) : Calls Go.Proofs.Try.prog 13 [.slice a_0 n_0 c_0].toArray w (Ret w (T13 r)) := by
  subst l_0
  unfold sh13 at hres
  refine calls_of (n := 11) (M := []) (es := []) Go.Proofs.Try.func13 rfl rfl rfl (Sep.nil _ _ _) ?_
  refine JX.seq ?_
  refine JX.region ?_
  refine JL.eff (ef_alloc i26 i26z rfl) rfl ?_
  rintro _ _ ⟨g1, rfl, rfl⟩
  refine JL.val (yl_assign rfl) rfl ?_
  refine JL.val (yl_assign rfl) rfl ?_
  refine JL.nil ?_
  refine JE.code ?_
  refine JX.seq ?_
  refine JX.region ?_
  refine JL.val (yl_move rfl) rfl ?_
  obtain ⟨x3, hx3, hres⟩ := bind_some hres
  refine JL.eff (ef_call (T := T90 a_0 q0.length c_0 x3) Go.Proofs.Try.func90 rfl (by kernel_rfl) rfl (fun w hC => c90 (rd_arg g_0 hC) rfl k_0 hx3)) rfl ?_
  rintro _ _ ⟨_, ⟨g4, rfl, rfl⟩, rfl⟩
  obtain ⟨x6, hx6, hres⟩ := bind_some hres
  refine JL.eff (ef_callms (caps := []) (vs := [ptrAt (some ⟨g4, 0, none⟩) 0]) (T := T91 g4 a_0 q0.length c_0 x6) [1] [0] [boxO 163 g4 [.slice a_0 q0.length c_0, .int .i64 x3.at_, .int .u64 x3.seed]] [boxO 26 g1 [.int .i64 0, .int .i64 0, .slice none 0 0]] rfl Go.Proofs.Try.func91 rfl (by kernel_rfl) rfl (by decide) rfl rfl (fun w N hF hS => c91 (q0 := Sl00Src.mk q0 x3.at_ x3.seed) (RdS.pass0 hF g_0) rfl k_0 hS hx6)) rfl ?_
  rintro _ _ ⟨_, _, ⟨rfl, a7, _, cp8, rfl, rfl, rfl⟩, rfl⟩
  refine JL.val (yl_extract rfl rfl) rfl ?_
  refine JL.val (yl_extract rfl rfl) rfl ?_
  refine JL.val (yl_extract rfl rfl) rfl ?_
  refine JL.eff (ef_store_box (i := 0) (v := .agg #[.int .i64 x6.1.W, .int .i64 x6.1.H, .slice a7 x6.1.Breaks.length cp8]) i26 rfl rfl rfl (i26s).symm (Nat.le_of_ble_eq_true rfl) (by simp [Value.cells, Value.oneCell'])) rfl ?_
  rintro _ _ rfl
  refine JL.val (yl_assign rfl) rfl ?_
  refine JL.val (yl_assign rfl) rfl ?_
  refine JL.nil ?_
  refine JE.weak (env' := [(2, ptrAt (some ⟨g1, 0, none⟩) 0), (3, .int .i64 x6.2.1), (4, .int .i64 x6.2.2.1)]) (es' := [boxO 26 g1 [.int .i64 x6.1.W, .int .i64 x6.1.H, .slice a7 x6.1.Breaks.length cp8], rowT 2 eI64 a7 x6.1.Breaks.length cp8 x6.1.Breaks]) [0, 2] ?_ ⟨rfl, rfl, rfl, trivial⟩ (by decide) rfl
  refine JE.code ?_
  refine JX.ret ?_
  obtain rfl := Option.some.inj hres
  refine JE.ret (rs := [.cell 2 26, .tmp 3, .tmp 4]) (vs := [.agg #[.int .i64 x6.1.W, .int .i64 x6.1.H, .slice a7 x6.1.Breaks.length cp8], .int .i64 x6.2.1, .int .i64 x6.2.2.1]) rfl ⟨rv_box 0 rfl rfl Go.Proofs.Try.underlying26 rfl i26 (i26s).symm, rfl, rfl, trivial⟩ ?_
  exact fun w' hb hs => ⟨_, _, ⟨a7, x6.1.Breaks.length, cp8, rfl, rfl, rfl⟩, rfl, hb, hs.sel [1] _ (by decide) rfl⟩

/- impl.path -/
def sh101_1 (q0 : List SWalker) (q1 : Int) : (Int × List SPoint) → Option ((Int × List SPoint) ⊕ (List SPoint))
  | (x5, x6) => bif decide (x5 < (q0.length : Int)) then (Option.bind (getI q0 x5) fun x9 => Option.bind (appL x6 [SPoint.mk (w64 (x9.At.X * q1)) (w64 (x9.At.Y * q1))]) fun x14 => some (.inl (w64 (x5 + 1), x14))) else (some (.inr x6))
def sh101 (q0 : List SWalker) (q1 : Int) : Option (List SPoint) := Option.bind (iter (sh101_1 q0 q1) (0, ([] : List SPoint))) fun b1 => (some b1)
def T101 (r : List SPoint) (v : Value) (rs : List Own) : Prop := ∃ (a0 : Option Addr) (n0 c0 : Nat), r.length = n0 ∧ v = rets [.slice a0 n0 c0] ∧ rs = [rowT 42 eSPoint a0 n0 c0 r]
set_option maxRecDepth 100000 in
theorem c101 {w : World} {q0 : List SWalker} {a_0 : Option Addr} {n_0 c_0 : Nat} (g_0 : Rd w a_0 (eSWalker.fl q0)) (l_0 : q0.length = n_0) (k_0 : n_0 ≤ c_0) {q1 : Int} {r : List SPoint} (hres : sh101 q0 q1 = some r) : Calls Go.Proofs.Try.prog 101 [.slice a_0 n_0 c_0, .int .i64 q1].toArray w (Ret w (T101 r)) := by
  subst l_0
  unfold sh101 at hres
  refine calls_of (n := 31) (M := []) (es := []) Go.Proofs.Try.func101 rfl rfl rfl (Sep.nil _ _ _) ?_
  refine JX.seq ?_
  refine JX.region ?_
  refine JL.val (yl_assign rfl) rfl ?_
  refine JL.nil ?_
  refine JE.code ?_
  refine JX.seq ?_
  refine JX.region ?_
  refine JL.eff (ef_buildSlice (E := 42) (k := eSPoint.k) (us := eSPoint.fl ([] : List SPoint)) rfl (fun w => bsl34_0  w) rfl (by decide)) rfl ?_
  rintro _ _ ⟨a1, rfl, rfl⟩
  refine JL.val (yl_assign rfl) rfl ?_
  refine JL.nil ?_
  refine JE.code ?_
  refine JX.seq ?_
  refine JX.seq ?_
  refine JX.region ?_
  refine JL.val (yl_move rfl) rfl ?_
  refine JL.val (yl_len_slice Go.Proofs.Try.underlying102 rfl) rfl ?_
  refine JL.val (yl_move rfl) rfl ?_
  refine JL.nil ?_
  refine JE.code ?_
  refine JX.block ?_
  obtain ⟨y1, hy1, hresO1⟩ := bind_some hres
  refine JX.loop (I := fun (s1 : Int × List SPoint) aa ww => ∃ (a3 : Option Addr) (cp4 : Nat), St w [] 31 [(1, .int .i64 q1), (5, .slice a3 s1.2.length cp4), (9, .slice a_0 q0.length c_0), (10, .int .i64 (q0.length : Int)), (11, .int .i64 s1.1)] [rowT 42 eSPoint a3 s1.2.length cp4 s1.2] aa ww) (sh101_1 q0 q1) hy1 (fun a w h => ⟨a1, 0, h.weak ⟨rfl, rfl, rfl, rfl, rfl, trivial⟩ [0] (by decide) rfl⟩) ?_
  rintro ⟨x5, x6⟩ o1 hres hox1 aa ww ⟨a7, cp8, hS⟩
  refine (?_ : JX Go.Proofs.Try.prog w [] 31 _ _ [(1, .int .i64 q1), (5, .slice a7 x6.length cp8), (9, .slice a_0 q0.length c_0), (10, .int .i64 (q0.length : Int)), (11, .int .i64 x5)] [rowT 42 eSPoint a7 x6.length cp8 x6] _) aa ww hS
  clear hS
  simp only [sh101_1] at hres
  refine JX.seq ?_
  refine JX.region ?_
  refine JL.val (yl_lss rfl rfl) rfl ?_
  refine JL.nil ?_
  refine JE.code ?_
  refine JX.seq ?_
  rcases cond_some hres with ⟨hb, hres⟩ | ⟨hb, hres⟩
  · refine JX.condT rfl hb ?_
    refine JX.skip ?_
    refine JE.code ?_
    refine JX.seq ?_
    refine JX.block ?_
    refine JX.seq ?_
    refine JX.region ?_
    obtain ⟨x9, hx9, hres⟩ := bind_some hres
    refine JL.val (yl_idxT Go.Proofs.Try.underlying102 i104 i104s rfl rfl hx9 rfl (fun w hC => rd_arg g_0 hC)) rfl ?_
    refine JL.val (yl_loadTn Go.Proofs.Try.underlying104 rfl i104 i104s rfl hx9 (fun w hC => rd_arg g_0 hC)) rfl ?_
    refine JL.eff (ef_alloc i104 i104z rfl) rfl ?_
    rintro _ _ ⟨g10, rfl, rfl⟩
    refine JL.eff (ef_store_box (i := 1) (v := .agg #[.int .i64 x9.At.X, .int .i64 x9.At.Y, .int .i64 x9.DX, .int .i64 x9.DY]) i104 rfl rfl rfl (i104s).symm (Nat.le_of_ble_eq_true rfl) (by simp [Value.cells, Value.oneCell'])) rfl ?_
    rintro _ _ rfl
    refine JL.nil ?_
    refine JE.weak (env' := [(1, .int .i64 q1), (5, .slice a7 x6.length cp8), (7, ptrAt (some ⟨g10, 0, none⟩) 0), (9, .slice a_0 q0.length c_0), (10, .int .i64 (q0.length : Int)), (11, .int .i64 x5)]) (es' := [rowT 42 eSPoint a7 x6.length cp8 x6, boxO 104 g10 [.int .i64 x9.At.X, .int .i64 x9.At.Y, .int .i64 x9.DX, .int .i64 x9.DY]]) [0, 1] ?_ ⟨rfl, rfl, rfl, rfl, rfl, rfl, trivial⟩ (by decide) rfl
    refine JE.code ?_
    refine JX.region ?_
    refine JL.val (yl_move rfl) rfl ?_
    refine JL.val (yl_fieldAt (a := some _) Go.Proofs.Try.underlying104 rfl i42 i42n rfl rfl) rfl ?_
    refine JL.val (yl_fieldAt (a := some _) Go.Proofs.Try.underlying42 rfl i2 i2n rfl rfl) rfl ?_
    refine JL.val (yl_load1 Go.Proofs.Try.underlying2 rfl rfl (fun w hC => rd_box hC 1 rfl) rfl) rfl ?_
    refine JL.val (yl_move rfl) rfl ?_
    refine JL.val (yl_mul rfl rfl) rfl ?_
    refine JL.val (yl_fieldAt (a := some _) Go.Proofs.Try.underlying104 rfl i42 i42n rfl rfl) rfl ?_
    refine JL.val (yl_fieldAt (a := some _) Go.Proofs.Try.underlying42 rfl i2 i2n rfl rfl) rfl ?_
    refine JL.val (yl_load1 Go.Proofs.Try.underlying2 rfl rfl (fun w hC => rd_box hC 1 rfl) rfl) rfl ?_
    refine JL.val (yl_move rfl) rfl ?_
    refine JL.val (yl_mul rfl rfl) rfl ?_
    refine JL.val (yl_build rfl (fun w => bld42_0_1 (w64 (x9.At.X * q1)) (w64 (x9.At.Y * q1)) w)) rfl ?_
    refine JL.eff (ef_buildSlice (E := 42) (k := eSPoint.k) (us := eSPoint.fl [SPoint.mk (w64 (x9.At.X * q1)) (w64 (x9.At.Y * q1))]) rfl (fun w => bsl34_1 (w64 (x9.At.X * q1)) (w64 (x9.At.Y * q1)) w) rfl (by decide)) rfl ?_
    rintro _ _ ⟨a12, rfl, rfl⟩
    obtain ⟨x14, hx14, hres⟩ := bind_some hres
    refine JL.eff (ef_appendT (ix := 0) Go.Proofs.Try.underlying34 i42 i42z i42s rfl i42b0 i42b1 rfl rfl rfl rfl rfl (fun w hC => rd_row hC 2 rfl) hx14) rfl ?_
    rintro _ _ ⟨a15, cp16, rfl, rfl⟩
    refine JL.val (yl_assign rfl) rfl ?_
    refine JL.nil ?_
    refine JE.weak (env' := [(1, .int .i64 q1), (5, .slice a15 x14.length cp16), (9, .slice a_0 q0.length c_0), (10, .int .i64 (q0.length : Int)), (11, .int .i64 x5)]) (es' := [rowT 42 eSPoint a15 x14.length cp16 x14]) [0] ?_ ⟨rfl, rfl, rfl, rfl, rfl, trivial⟩ (by decide) rfl
    refine JE.code ?_
    refine JX.region ?_
    refine JL.val (yl_add rfl rfl) rfl ?_
    refine JL.val (yl_move rfl) rfl ?_
    refine JL.nil ?_
    refine JE.cont hres ?_
    exact fun a w h => ⟨a15, cp16, h.weak ⟨rfl, rfl, rfl, rfl, rfl, trivial⟩ [0] (by decide) rfl⟩
  · refine JX.condF rfl hb ?_
    refine JX.exit ?_
    refine JE.qb rfl ?_
    obtain ⟨b1, hb1⟩ : ∃ b : List SPoint, b = x6 := ⟨_, rfl⟩
    have hy1 : b1 = y1 := by rw [hb1]; exact hox1 _ (Option.some.inj hres).symm
    have hres := hresO1
    rw [← hy1] at hres
    refine JE.weak (env' := [(5, .slice a7 b1.length cp8)]) (es' := [rowT 42 eSPoint a7 b1.length cp8 b1]) [0] ?_ ⟨(by subst hb1; rfl), trivial⟩ (by decide) (by subst hb1; rfl)
    refine JE.code ?_
    refine JX.seq ?_
    refine JX.region ?_
    refine JL.val (yl_move rfl) rfl ?_
    refine JL.val (yl_assign rfl) rfl ?_
    refine JL.nil ?_
    refine JE.code ?_
    refine JX.ret ?_
    obtain rfl := Option.some.inj hres
    refine JE.ret (rs := [.tmp 4]) (vs := [.slice a7 b1.length cp8]) rfl ⟨rfl, trivial⟩ ?_
    exact fun w' hb hs => ⟨_, _, ⟨a7, b1.length, cp8, rfl, rfl, rfl⟩, rfl, hb, hs.sel [0] _ (by decide) rfl⟩

/- impl.CurvePath -/
def sh14 (q0 : SPanel) (q1 : Int) (q2 : Int) : Option (List SPoint × Int) := Option.bind (sh95 q0 [q1]) fun x5 => bif x5 != 0 then (some (([] : List SPoint), x5)) else (Option.bind (sh96 q2) fun x7 => bif !x7 then (some (([] : List SPoint), 2)) else (Option.bind (sh97 q0) fun x9 => Option.bind (getI x9.1 q1) fun x19 => Option.bind (sh101 x19 q2) fun x23 => some (x23, 0)))
def T14 (r : List SPoint × Int) (v : Value) (rs : List Own) : Prop := ∃ (a0 : Option Addr) (n0 c0 : Nat), r.1.length = n0 ∧ v = rets [.slice a0 n0 c0, .int .i64 r.2] ∧ rs = [rowT 42 eSPoint a0 n0 c0 r.1]
set_option maxRecDepth 100000 in
theorem c14 {w : World} {q0 : SPanel} {a_0_2 : Option Addr} {n_0_2 c_0_2 : Nat} (g_0_2 : Rd w a_0_2 (eI64.fl q0.Breaks)) (l_0_2 : q0.Breaks.length = n_0_2) (k_0_2 : n_0_2 ≤ c_0_2) {q1 : Int} {q2 : Int} {r : List SPoint × Int} (hres : sh14 q0 q1 q2 = some r) : Calls Go.Proofs.Try.prog 14 [.agg #[.int .i64 q0.W, .int .i64 q0.H, .slice a_0_2 n_0_2 c_0_2], .int .i64 q1, .int .i64 q2].toArray w (Ret w (T14 r)) := by
  subst l_0_2
  unfold sh14 at hres
  refine calls_of (n := 32) (M := []) (es := []) Go.Proofs.Try.func14 rfl rfl rfl (Sep.nil _ _ _) ?_
  refine JX.seq ?_
  refine JX.region ?_
  refine JL.eff (ef_box rfl rfl) rfl ?_
  rintro _ _ ⟨g1, rfl, rfl⟩
  refine JL.val (yl_assign rfl) rfl ?_
  refine JL.val (yl_assign rfl) rfl ?_
  refine JL.nil ?_
  refine JE.code ?_
  refine JX.seq ?_
  refine JX.seq ?_
  refine JX.region ?_
  refine JL.val (yl_loadn Go.Proofs.Try.underlying26 rfl i26 rfl (fun w hC => rd_box hC 0 rfl) rfl (i26s).symm i26p) rfl ?_
  refine JL.val (yl_move rfl) rfl ?_
  refine JL.eff (ef_buildSlice (E := 2) (k := eI64.k) (us := eI64.fl [q1]) rfl (fun w => bsl24_1 q1 w) rfl (by decide)) rfl ?_
  rintro _ _ ⟨a3, rfl, rfl⟩
  obtain ⟨x5, hx5, hres⟩ := bind_some hres
  refine JL.eff (ef_call (vs := [.agg #[.int .i64 q0.W, .int .i64 q0.H, .slice a_0_2 q0.Breaks.length c_0_2], .slice a3 1 1]) (T := T95 x5) Go.Proofs.Try.func95 rfl (by kernel_rfl) rfl (fun w hC => c95 (q0 := q0) (rd_arg g_0_2 hC) rfl k_0_2 (rd_row hC 1 rfl) rfl (Nat.le_refl _) hx5)) rfl ?_
  rintro _ _ ⟨_, ⟨rfl, rfl⟩, rfl⟩
  refine JL.val (yl_assign rfl) rfl ?_
  refine JL.nil ?_
  refine JE.weak (env' := [(1, .int .i64 q1), (2, .int .i64 q2), (3, ptrAt (some ⟨g1, 0, none⟩) 0), (8, .int .i64 x5)]) (es' := [boxO 26 g1 [.int .i64 q0.W, .int .i64 q0.H, .slice a_0_2 q0.Breaks.length c_0_2]]) [0] ?_ ⟨rfl, rfl, rfl, rfl, trivial⟩ (by decide) rfl
  refine JE.code ?_
  refine JX.seq ?_
  refine JX.region ?_
  refine JL.val (yl_move rfl) rfl ?_
  refine JL.val (yl_neq rfl rfl) rfl ?_
  refine JL.nil ?_
  refine JE.code ?_
  rcases cond_some hres with ⟨hb, hres⟩ | ⟨hb, hres⟩
  · refine JX.condT rfl hb ?_
    refine JX.seq ?_
    refine JX.region ?_
    refine JL.val (yl_move rfl) rfl ?_
    refine JL.val (yl_assign rfl) rfl ?_
    refine JL.val (yl_assign rfl) rfl ?_
    refine JL.nil ?_
    refine JE.weak (env' := [(6, .slice none 0 0), (7, .int .i64 x5)]) (es' := []) [] ?_ ⟨rfl, rfl, trivial⟩ (by decide) rfl
    refine JE.code ?_
    refine JX.ret ?_
    refine JE.nilrow 42 eSPoint ?_
    obtain rfl := Option.some.inj hres
    refine JE.ret (rs := [.tmp 6, .tmp 7]) (vs := [.slice none 0 0, .int .i64 x5]) rfl ⟨rfl, rfl, trivial⟩ ?_
    exact fun w' hb hs => ⟨_, _, ⟨none, 0, 0, rfl, rfl, rfl⟩, rfl, hb, hs.sel [0] _ (by decide) rfl⟩
  · refine JX.condF rfl hb ?_
    refine JX.skip ?_
    refine JE.code ?_
    refine JX.seq ?_
    refine JX.seq ?_
    refine JX.region ?_
    refine JL.val (yl_move rfl) rfl ?_
    obtain ⟨x7, hx7, hres⟩ := bind_some hres
    refine JL.eff (ef_call (T := T96 x7) Go.Proofs.Try.func96 rfl (by kernel_rfl) rfl (fun w hC => c96  hx7)) rfl ?_
    rintro _ _ ⟨_, ⟨rfl, rfl⟩, rfl⟩
    refine JL.val (yl_not rfl) rfl ?_
    refine JL.nil ?_
    refine JE.code ?_
    rcases cond_some hres with ⟨hb, hres⟩ | ⟨hb, hres⟩
    · refine JX.condT rfl hb ?_
      refine JX.seq ?_
      refine JX.region ?_
      refine JL.val (yl_assign rfl) rfl ?_
      refine JL.val (yl_assign rfl) rfl ?_
      refine JL.nil ?_
      refine JE.weak (env' := [(6, .slice none 0 0), (7, .int .i64 2)]) (es' := []) [] ?_ ⟨rfl, rfl, trivial⟩ (by decide) rfl
      refine JE.code ?_
      refine JX.ret ?_
      refine JE.nilrow 42 eSPoint ?_
      obtain rfl := Option.some.inj hres
      refine JE.ret (rs := [.tmp 6, .tmp 7]) (vs := [.slice none 0 0, .int .i64 2]) rfl ⟨rfl, rfl, trivial⟩ ?_
      exact fun w' hb hs => ⟨_, _, ⟨none, 0, 0, rfl, rfl, rfl⟩, rfl, hb, hs.sel [0] _ (by decide) rfl⟩
    · refine JX.condF rfl hb ?_
      refine JX.skip ?_
      refine JE.code ?_
      refine JX.seq ?_
      refine JX.region ?_
      refine JL.val (yl_loadn Go.Proofs.Try.underlying26 rfl i26 rfl (fun w hC => rd_box hC 0 rfl) rfl (i26s).symm i26p) rfl ?_
      obtain ⟨x9, hx9, hres⟩ := bind_some hres
      refine JL.eff (ef_call (vs := [.agg #[.int .i64 q0.W, .int .i64 q0.H, .slice a_0_2 q0.Breaks.length c_0_2]]) (T := T97 x9) Go.Proofs.Try.func97 rfl (by kernel_rfl) rfl (fun w hC => c97 (q0 := q0) (rd_arg g_0_2 hC) rfl k_0_2 hx9)) rfl ?_
      rintro _ _ ⟨_, ⟨a10, _, cp11, hs13, rfl, hi14, a16, _, cp17, rfl, rfl, rfl⟩, rfl⟩
      refine JL.val (yl_move rfl) rfl ?_
      refine JL.val (yl_extract rfl rfl) rfl ?_
      refine JL.val (yl_extract rfl rfl) rfl ?_
      refine JL.val (yl_assign rfl) rfl ?_
      refine JL.val (yl_assign rfl) rfl ?_
      refine JL.nil ?_
      refine JE.weak (env' := [(1, .int .i64 q1), (2, .int .i64 q2), (9, .slice a10 x9.1.length cp11)]) (es' := [rowT 102 eHd a10 x9.1.length cp11 hs13, innO 104 eSWalker none hs13 x9.1]) [1, 2] ?_ ⟨rfl, rfl, rfl, trivial⟩ (by decide) rfl
      refine JE.code ?_
      refine JX.seq ?_
      refine JX.region ?_
      refine JL.val (yl_move rfl) rfl ?_
      refine JL.val (yl_move rfl) rfl ?_
      obtain ⟨x19, hx19, hres⟩ := bind_some hres
      obtain ⟨ha20, hc21, hhx19⟩ := Inn.sub hi14 hx19
      refine JL.val (yl_idxT Go.Proofs.Try.underlying99 i102 i102s rfl rfl hhx19 (Inn.len hi14) (fun w hC => rd_row hC 0 rfl)) rfl ?_
      refine JL.val (yl_loadT0 (z := ⟨ha20, x19.length, hc21⟩) Go.Proofs.Try.underlying102 rfl rfl hhx19 (fun w hC => rd_row hC 0 rfl) rfl) rfl ?_
      refine JL.val (yl_move rfl) rfl ?_
      obtain ⟨x23, hx23, hres⟩ := bind_some hres
      refine JL.eff (ef_call (T := T101 x23) Go.Proofs.Try.func101 rfl (by kernel_rfl) rfl (fun w hC => c101 ((RdI.sub (rd_inn hC 1 rfl) hx19 hhx19)) rfl (RdI.ln (rd_inn hC 1 rfl) hx19 hhx19) hx23)) rfl ?_
      rintro _ _ ⟨_, ⟨a24, _, cp25, rfl, rfl, rfl⟩, rfl⟩
      refine JL.val (yl_assign rfl) rfl ?_
      refine JL.val (yl_assign rfl) rfl ?_
      refine JL.nil ?_
      refine JE.weak (env' := [(6, .slice a24 x23.length cp25), (7, .int .i64 0)]) (es' := [rowT 42 eSPoint a24 x23.length cp25 x23]) [2] ?_ ⟨rfl, rfl, trivial⟩ (by decide) rfl
      refine JE.code ?_
      refine JX.ret ?_
      obtain rfl := Option.some.inj hres
      refine JE.ret (rs := [.tmp 6, .tmp 7]) (vs := [.slice a24 x23.length cp25, .int .i64 0]) rfl ⟨rfl, rfl, trivial⟩ ?_
      exact fun w' hb hs => ⟨_, _, ⟨a24, x23.length, cp25, rfl, rfl, rfl⟩, rfl, hb, hs.sel [0] _ (by decide) rfl⟩

/- spec.CurvePath -/
def sh15_1 (q2 : Int) (x3 : List SPoint × Int) : (Int × List SPoint) → Option ((Int × List SPoint) ⊕ (List SPoint))
  | (x12, x13) => bif decide (x12 < (x3.1.length : Int)) then (Option.bind (getI x3.1 x12) fun x17 => Option.bind (getI x3.1 x12) fun x18 => Option.bind (appL x13 [SPoint.mk (w64 (x17.X * q2)) (w64 (x18.Y * q2))]) fun x21 => some (.inl (w64 (x12 + 1), x21))) else (some (.inr x13))
def sh15 (q0 : SPanel) (q1 : Int) (q2 : Int) : Option (List SPoint × Int) := Option.bind (sh99 q0 q1 q2) fun x3 => bif x3.2 != 0 then (some (([] : List SPoint), x3.2)) else (Option.bind (iter (sh15_1 q2 x3) (0, ([] : List SPoint))) fun b1 => (some (b1, 0)))
def T15 (r : List SPoint × Int) (v : Value) (rs : List Own) : Prop := ∃ (a0 : Option Addr) (n0 c0 : Nat), r.1.length = n0 ∧ v = rets [.slice a0 n0 c0, .int .i64 r.2] ∧ rs = [rowT 42 eSPoint a0 n0 c0 r.1]
set_option maxRecDepth 100000 in
theorem c15 {w : World} {q0 : SPanel} {a_0_2 : Option Addr} {n_0_2 c_0_2 : Nat} (g_0_2 : Rd w a_0_2 (eI64.fl q0.Breaks)) (l_0_2 : q0.Breaks.length = n_0_2) (k_0_2 : n_0_2 ≤ c_0_2) {q1 : Int} {q2 : Int} {r : List SPoint × Int} (hres : sh15 q0 q1 q2 = some r) : Calls Go.Proofs.Try.prog 15 [.agg #[.int .i64 q0.W, .int .i64 q0.H, .slice a_0_2 n_0_2 c_0_2], .int .i64 q1, .int .i64 q2].toArray w (Ret w (T15 r)) := by
  subst l_0_2
  unfold sh15 at hres
  refine calls_of (n := 47) (M := []) (es := []) Go.Proofs.Try.func15 rfl rfl rfl (Sep.nil _ _ _) ?_
  refine JX.seq ?_
  refine JX.region ?_
  refine JL.eff (ef_box rfl rfl) rfl ?_
  rintro _ _ ⟨g1, rfl, rfl⟩
  refine JL.val (yl_assign rfl) rfl ?_
  refine JL.val (yl_assign rfl) rfl ?_
  refine JL.nil ?_
  refine JE.code ?_
  refine JX.seq ?_
  refine JX.region ?_
  refine JL.val (yl_move rfl) rfl ?_
  refine JL.val (yl_move rfl) rfl ?_
  obtain ⟨x3, hx3, hres⟩ := bind_some hres
  refine JL.eff (ef_call (T := T99 x3) Go.Proofs.Try.func99 rfl (by kernel_rfl) rfl (fun w hC => c99 (RdAt.of0 (rd_box hC 0 rfl)) (rd_arg g_0_2 hC) rfl k_0_2 hx3)) rfl ?_
  rintro _ _ ⟨_, ⟨a4, _, cp5, rfl, rfl, rfl⟩, rfl⟩
  refine JL.val (yl_move rfl) rfl ?_
  refine JL.val (yl_extract rfl rfl) rfl ?_
  refine JL.val (yl_extract rfl rfl) rfl ?_
  refine JL.val (yl_assign rfl) rfl ?_
  refine JL.val (yl_assign rfl) rfl ?_
  refine JL.nil ?_
  refine JE.weak (env' := [(2, .int .i64 q2), (8, .slice a4 x3.1.length cp5), (9, .int .i64 x3.2)]) (es' := [rowT 42 eSPoint a4 x3.1.length cp5 x3.1]) [1] ?_ ⟨rfl, rfl, rfl, trivial⟩ (by decide) rfl
  refine JE.code ?_
  refine JX.seq ?_
  refine JX.seq ?_
  refine JX.region ?_
  refine JL.val (yl_move rfl) rfl ?_
  refine JL.val (yl_neq rfl rfl) rfl ?_
  refine JL.nil ?_
  refine JE.code ?_
  rcases cond_some hres with ⟨hb, hres⟩ | ⟨hb, hres⟩
  · refine JX.condT rfl hb ?_
    refine JX.seq ?_
    refine JX.region ?_
    refine JL.val (yl_move rfl) rfl ?_
    refine JL.val (yl_assign rfl) rfl ?_
    refine JL.val (yl_assign rfl) rfl ?_
    refine JL.nil ?_
    refine JE.weak (env' := [(6, .slice none 0 0), (7, .int .i64 x3.2)]) (es' := []) [] ?_ ⟨rfl, rfl, trivial⟩ (by decide) rfl
    refine JE.code ?_
    refine JX.ret ?_
    refine JE.nilrow 42 eSPoint ?_
    obtain rfl := Option.some.inj hres
    refine JE.ret (rs := [.tmp 6, .tmp 7]) (vs := [.slice none 0 0, .int .i64 x3.2]) rfl ⟨rfl, rfl, trivial⟩ ?_
    exact fun w' hb hs => ⟨_, _, ⟨none, 0, 0, rfl, rfl, rfl⟩, rfl, hb, hs.sel [0] _ (by decide) rfl⟩
  · refine JX.condF rfl hb ?_
    refine JX.skip ?_
    refine JE.code ?_
    refine JX.seq ?_
    refine JX.region ?_
    refine JL.eff (ef_buildSlice (E := 42) (k := eSPoint.k) (us := eSPoint.fl ([] : List SPoint)) rfl (fun w => bsl34_0  w) rfl (by decide)) rfl ?_
    rintro _ _ ⟨a8, rfl, rfl⟩
    refine JL.val (yl_assign rfl) rfl ?_
    refine JL.nil ?_
    refine JE.code ?_
    refine JX.seq ?_
    refine JX.seq ?_
    refine JX.region ?_
    refine JL.val (yl_assign rfl) rfl ?_
    refine JL.nil ?_
    refine JE.code ?_
    refine JX.block ?_
    obtain ⟨y1, hy1, hresO1⟩ := bind_some hres
    refine JX.loop (I := fun (s1 : Int × List SPoint) aa ww => ∃ (a10 : Option Addr) (cp11 : Nat), St w [] 47 [(2, .int .i64 q2), (8, .slice a4 x3.1.length cp5), (10, .slice a10 s1.2.length cp11), (11, .int .i64 s1.1)] [rowT 42 eSPoint a4 x3.1.length cp5 x3.1, rowT 42 eSPoint a10 s1.2.length cp11 s1.2] aa ww) (sh15_1 q2 x3) hy1 (fun a w h => ⟨a8, 0, h.weak ⟨rfl, rfl, rfl, rfl, trivial⟩ [0, 1] (by decide) rfl⟩) ?_
    rintro ⟨x12, x13⟩ o1 hres hox1 aa ww ⟨a14, cp15, hS⟩
    refine (?_ : JX Go.Proofs.Try.prog w [] 47 _ _ [(2, .int .i64 q2), (8, .slice a4 x3.1.length cp5), (10, .slice a14 x13.length cp15), (11, .int .i64 x12)] [rowT 42 eSPoint a4 x3.1.length cp5 x3.1, rowT 42 eSPoint a14 x13.length cp15 x13] _) aa ww hS
    clear hS
    simp only [sh15_1] at hres
    refine JX.seq ?_
    refine JX.seq ?_
    refine JX.region ?_
    refine JL.val (yl_move rfl) rfl ?_
    refine JL.val (yl_move rfl) rfl ?_
    refine JL.val (yl_len_slice Go.Proofs.Try.underlying34 rfl) rfl ?_
    refine JL.val (yl_lss rfl rfl) rfl ?_
    refine JL.nil ?_
    refine JE.weak (env' := [(2, .int .i64 q2), (8, .slice a4 x3.1.length cp5), (10, .slice a14 x13.length cp15), (11, .int .i64 x12), (25, .bool (decide (x12 < (x3.1.length : Int))))]) (es' := [rowT 42 eSPoint a4 x3.1.length cp5 x3.1, rowT 42 eSPoint a14 x13.length cp15 x13]) [0, 1] ?_ ⟨rfl, rfl, rfl, rfl, rfl, trivial⟩ (by decide) rfl
    refine JE.code ?_
    rcases cond_some hres with ⟨hb, hres⟩ | ⟨hb, hres⟩
    · refine JX.condT rfl hb ?_
      refine JX.skip ?_
      refine JE.code ?_
      refine JX.seq ?_
      refine JX.block ?_
      refine JX.drawH [(0, .pure), (1, .pure), (2, .pure), (3, .pure), (4, .pure), (5, .read), (6, .pure), (7, .pure), (8, .pure), (9, .pure), (10, .pure), (11, .pure), (12, .read), (13, .pure), (14, .pure), (15, .pure), (16, .must), (17, .must), (18, .pure)] [17] [1] [0] [rowT 42 eSPoint a14 x13.length cp15 x13] [rowT 42 eSPoint a4 x3.1.length cp5 x3.1] mixedP (by kernel_rfl) (by kernel_rfl) (by decide) rfl rfl ?_
      intro wrr16 Nr16 hFr16
      refine JH.pure rfl (yl_move rfl) rfl ?_
      refine JH.pure rfl (yl_move rfl) rfl ?_
      refine JH.pure rfl (yl_move rfl) rfl ?_
      obtain ⟨x17, hx17, hres⟩ := bind_some hres
      refine JH.pure rfl (yl_idxQ Go.Proofs.Try.underlying34 i42 i42s rfl rfl hx17 rfl (rd_row hFr16.cl 0 rfl) rfl) rfl ?_
      refine JH.pure rfl (yl_fieldAt Go.Proofs.Try.underlying42 rfl i2 i2n rfl (RdT.someQ (rd_row hFr16.cl 0 rfl) hx17 rfl rfl)) rfl ?_
      refine JH.read rfl (yl_loadT1 Go.Proofs.Try.underlying2 rfl rfl hx17 (fun w hw => hFr16.row 0 rfl rfl hw) rfl) rfl ?_
      refine JH.pure rfl (yl_move rfl) rfl ?_
      refine JH.pure rfl (yl_mul rfl rfl) rfl ?_
      refine JH.pure rfl (yl_move rfl) rfl ?_
      refine JH.pure rfl (yl_move rfl) rfl ?_
      obtain ⟨x18, hx18, hres⟩ := bind_some hres
      refine JH.pure rfl (yl_idxQ Go.Proofs.Try.underlying34 i42 i42s rfl rfl hx18 rfl (rd_row hFr16.cl 0 rfl) rfl) rfl ?_
      refine JH.pure rfl (yl_fieldAt Go.Proofs.Try.underlying42 rfl i2 i2n rfl (RdT.someQ (rd_row hFr16.cl 0 rfl) hx18 rfl rfl)) rfl ?_
      refine JH.read rfl (yl_loadT1 Go.Proofs.Try.underlying2 rfl rfl hx18 (fun w hw => hFr16.row 0 rfl rfl hw) rfl) rfl ?_
      refine JH.pure rfl (yl_move rfl) rfl ?_
      refine JH.pure rfl (yl_mul rfl rfl) rfl ?_
      refine JH.pure rfl (yl_build rfl (fun w => bld42_0_1 (w64 (x17.X * q2)) (w64 (x18.Y * q2)) w)) rfl ?_
      refine JH.must rfl (ef_buildSlice (E := 42) (k := eSPoint.k) (us := eSPoint.fl [SPoint.mk (w64 (x17.X * q2)) (w64 (x18.Y * q2))]) rfl (fun w => bsl34_1 (w64 (x17.X * q2)) (w64 (x18.Y * q2)) w) rfl (by decide)) rfl rfl ?_
      rintro _ _ ⟨a19, rfl, rfl⟩
      obtain ⟨x21, hx21, hres⟩ := bind_some hres
      refine JH.must rfl (ef_appendT (ix := 0) Go.Proofs.Try.underlying34 i42 i42z i42s rfl i42b0 i42b1 rfl rfl rfl rfl rfl (fun w hC => rd_row hC 1 rfl) hx21) rfl rfl ?_
      rintro _ _ ⟨a22, cp23, rfl, rfl⟩
      refine JH.pure rfl (yl_assign rfl) rfl ?_
      refine JH.nil ?_
      refine JE.weak (env' := [(2, .int .i64 q2), (8, .slice a4 x3.1.length cp5), (10, .slice a22 x21.length cp23), (11, .int .i64 x12)]) (es' := [rowT 42 eSPoint a4 x3.1.length cp5 x3.1, rowT 42 eSPoint a22 x21.length cp23 x21]) [0, 1] ?_ ⟨rfl, rfl, rfl, rfl, trivial⟩ (by decide) rfl
      refine JE.code ?_
      refine JX.region ?_
      refine JL.val (yl_move rfl) rfl ?_
      refine JL.val (yl_add rfl rfl) rfl ?_
      refine JL.val (yl_assign rfl) rfl ?_
      refine JL.nil ?_
      refine JE.cont hres ?_
      exact fun a w h => ⟨a22, cp23, h.weak ⟨rfl, rfl, rfl, rfl, trivial⟩ [0, 1] (by decide) rfl⟩
    · refine JX.condF rfl hb ?_
      refine JX.exit ?_
      refine JE.qb rfl ?_
      obtain ⟨b1, hb1⟩ : ∃ b : List SPoint, b = x13 := ⟨_, rfl⟩
      have hy1 : b1 = y1 := by rw [hb1]; exact hox1 _ (Option.some.inj hres).symm
      have hres := hresO1
      rw [← hy1] at hres
      refine JE.weak (env' := [(10, .slice a14 b1.length cp15)]) (es' := [rowT 42 eSPoint a14 b1.length cp15 b1]) [1] ?_ ⟨(by subst hb1; rfl), trivial⟩ (by decide) (by subst hb1; rfl)
      refine JE.code ?_
      refine JX.seq ?_
      refine JX.region ?_
      refine JL.val (yl_move rfl) rfl ?_
      refine JL.val (yl_assign rfl) rfl ?_
      refine JL.val (yl_assign rfl) rfl ?_
      refine JL.nil ?_
      refine JE.code ?_
      refine JX.ret ?_
      obtain rfl := Option.some.inj hres
      refine JE.ret (rs := [.tmp 6, .tmp 7]) (vs := [.slice a14 b1.length cp15, .int .i64 0]) rfl ⟨rfl, rfl, trivial⟩ ?_
      exact fun w' hb hs => ⟨_, _, ⟨a14, b1.length, cp15, rfl, rfl, rfl⟩, rfl, hb, hs.sel [0] _ (by decide) rfl⟩

/- laws.f6points -/
def sh17_1 (q0 : List SPoint) (q1 : List SPoint) : Int → Option (Int ⊕ (Unit ⊕ Bool))
  | x1 => bif decide (x1 < (q0.length : Int)) then (Option.bind (getI q0 x1) fun x3 => Option.bind (getI q1 x1) fun x4 => bif !(((x3.X == x4.X) && ((x3.Y == x4.Y) && true))) then (some (.inr (.inr false))) else (some (.inl (w64 (x1 + 1))))) else (some (.inr (.inl ())))
def sh17 (q0 : List SPoint) (q1 : List SPoint) : Option (Bool) := bif (q0.length : Int) != (q1.length : Int) then (some false) else (Option.bind (iter (sh17_1 q0 q1) 0) fun y1 => elimS y1 (fun r => some r) fun b1 => (some true))
def T17 (r : Bool) (v : Value) (rs : List Own) : Prop := v = rets [.bool r] ∧ rs = []
set_option maxRecDepth 100000 in
theorem c17 {w : World} {q0 : List SPoint} {a_0 : Option Addr} {n_0 c_0 : Nat} (g_0 : Rd w a_0 (eSPoint.fl q0)) (l_0 : q0.length = n_0) (k_0 : n_0 ≤ c_0) {q1 : List SPoint} {a_1 : Option Addr} {n_1 c_1 : Nat} (g_1 : Rd w a_1 (eSPoint.fl q1)) (l_1 : q1.length = n_1) (k_1 : n_1 ≤ c_1) {r : Bool} (hres : sh17 q0 q1 = some r) : Calls Go.Proofs.Try.prog 17 [.slice a_0 n_0 c_0, .slice a_1 n_1 c_1].toArray w (Ret w (T17 r)) := by
  subst l_0
  subst l_1
  unfold sh17 at hres
  refine calls_of (n := 26) (M := []) (es := []) Go.Proofs.Try.func17 rfl rfl rfl (Sep.nil _ _ _) ?_
  refine JX.seq ?_
  refine JX.region ?_
  refine JL.val (yl_assign rfl) rfl ?_
  refine JL.nil ?_
  refine JE.code ?_
  refine JX.seq ?_
  refine JX.seq ?_
  refine JX.region ?_
  refine JL.val (yl_move rfl) rfl ?_
  refine JL.val (yl_len_slice Go.Proofs.Try.underlying34 rfl) rfl ?_
  refine JL.val (yl_move rfl) rfl ?_
  refine JL.val (yl_len_slice Go.Proofs.Try.underlying34 rfl) rfl ?_
  refine JL.val (yl_neq rfl rfl) rfl ?_
  refine JL.nil ?_
  refine JE.weak (env' := [(0, .slice a_0 q0.length c_0), (1, .slice a_1 q1.length c_1), (10, .bool ((q0.length : Int) != (q1.length : Int)))]) (es' := []) [] ?_ ⟨rfl, rfl, rfl, trivial⟩ (by decide) rfl
  refine JE.code ?_
  rcases cond_some hres with ⟨hb, hres⟩ | ⟨hb, hres⟩
  · refine JX.condT rfl hb ?_
    refine JX.seq ?_
    refine JX.region ?_
    refine JL.val (yl_assign rfl) rfl ?_
    refine JL.nil ?_
    refine JE.code ?_
    refine JX.ret ?_
    obtain rfl := Option.some.inj hres
    refine JE.ret (rs := [.tmp 4]) (vs := [.bool false]) rfl ⟨rfl, trivial⟩ ?_
    exact fun w' hb hs => ⟨_, _, ⟨rfl, rfl⟩, rfl, hb, hs.sel [] _ (by decide) rfl⟩
  · refine JX.condF rfl hb ?_
    refine JX.skip ?_
    refine JE.code ?_
    refine JX.seq ?_
    refine JX.seq ?_
    refine JX.region ?_
    refine JL.val (yl_assign rfl) rfl ?_
    refine JL.nil ?_
    refine JE.code ?_
    refine JX.block ?_
    obtain ⟨y1, hy1, hresO1⟩ := bind_some hres
    refine JX.loop (I := fun (s1 : Int) aa ww => St w [] 26 [(0, .slice a_0 q0.length c_0), (1, .slice a_1 q1.length c_1), (5, .int .i64 s1)] [] aa ww) (sh17_1 q0 q1) hy1 (fun a w h => h.weak ⟨rfl, rfl, rfl, trivial⟩ [] (by decide) rfl) ?_
    rintro x1 o1 hres hox1 aa ww hS
    refine (?_ : JX Go.Proofs.Try.prog w [] 26 _ _ [(0, .slice a_0 q0.length c_0), (1, .slice a_1 q1.length c_1), (5, .int .i64 x1)] [] _) aa ww hS
    clear hS
    unfold sh17_1 at hres
    refine JX.seq ?_
    refine JX.seq ?_
    refine JX.region ?_
    refine JL.val (yl_move rfl) rfl ?_
    refine JL.val (yl_move rfl) rfl ?_
    refine JL.val (yl_len_slice Go.Proofs.Try.underlying34 rfl) rfl ?_
    refine JL.val (yl_lss rfl rfl) rfl ?_
    refine JL.nil ?_
    refine JE.weak (env' := [(0, .slice a_0 q0.length c_0), (1, .slice a_1 q1.length c_1), (5, .int .i64 x1), (14, .bool (decide (x1 < (q0.length : Int))))]) (es' := []) [] ?_ ⟨rfl, rfl, rfl, rfl, trivial⟩ (by decide) rfl
    refine JE.code ?_
    rcases cond_some hres with ⟨hb, hres⟩ | ⟨hb, hres⟩
    · refine JX.condT rfl hb ?_
      refine JX.skip ?_
      refine JE.code ?_
      refine JX.seq ?_
      refine JX.block ?_
      refine JX.seq ?_
      refine JX.drawH [(0, .pure), (1, .pure), (2, .pure), (3, .read), (4, .pure), (5, .pure), (6, .pure), (7, .read), (8, .pure)] [] [] [] [] [] mixedP (by kernel_rfl) (by kernel_rfl) (by decide) rfl rfl ?_
      intro wrr2 Nr2 hFr2
      refine JH.pure rfl (yl_move rfl) rfl ?_
      refine JH.pure rfl (yl_move rfl) rfl ?_
      obtain ⟨x3, hx3, hres⟩ := bind_some hres
      refine JH.pure rfl (yl_idxQ Go.Proofs.Try.underlying34 i42 i42s rfl rfl hx3 rfl (rd_arg g_0 hFr2.cl) rfl) rfl ?_
      refine JH.read rfl (yl_loadTn Go.Proofs.Try.underlying42 rfl i42 i42s rfl hx3 (fun w hw => hFr2.arg g_0 hw)) rfl ?_
      refine JH.pure rfl (yl_move rfl) rfl ?_
      refine JH.pure rfl (yl_move rfl) rfl ?_
      obtain ⟨x4, hx4, hres⟩ := bind_some hres
      refine JH.pure rfl (yl_idxQ Go.Proofs.Try.underlying34 i42 i42s rfl rfl hx4 rfl (rd_arg g_1 hFr2.cl) rfl) rfl ?_
      refine JH.read rfl (yl_loadTn Go.Proofs.Try.underlying42 rfl i42 i42s rfl hx4 (fun w hw => hFr2.arg g_1 hw)) rfl ?_
      refine JH.pure rfl (yl_binop_of rfl rfl (fun w => eqs42_g _ _ _ _ _ w) (fun w => eqs42_neq x3.X x3.Y x4.X x4.Y w)) rfl ?_
      refine JH.nil ?_
      refine JE.weak (env' := [(0, .slice a_0 q0.length c_0), (1, .slice a_1 q1.length c_1), (5, .int .i64 x1), (25, .bool (!(((x3.X == x4.X) && ((x3.Y == x4.Y) && true)))))]) (es' := []) [] ?_ ⟨rfl, rfl, rfl, rfl, trivial⟩ (by decide) rfl
      refine JE.code ?_
      rcases cond_some hres with ⟨hb, hres⟩ | ⟨hb, hres⟩
      · refine JX.condT rfl hb ?_
        refine JX.seq ?_
        refine JX.region ?_
        refine JL.val (yl_assign rfl) rfl ?_
        refine JL.nil ?_
        refine JE.code ?_
        refine JX.ret ?_
        refine JE.qbr ?_
        refine JE.qbr ?_
        have hres := elimS_inr hresO1 (hox1 _ (Option.some.inj hres).symm)
        obtain rfl := Option.some.inj hres
        refine JE.ret (rs := [.tmp 4]) (vs := [.bool false]) rfl ⟨rfl, trivial⟩ ?_
        exact fun w' hb hs => ⟨_, _, ⟨rfl, rfl⟩, rfl, hb, hs.sel [] _ (by decide) rfl⟩
      · refine JX.condF rfl hb ?_
        refine JX.skip ?_
        refine JE.code ?_
        refine JX.region ?_
        refine JL.val (yl_move rfl) rfl ?_
        refine JL.val (yl_add rfl rfl) rfl ?_
        refine JL.val (yl_assign rfl) rfl ?_
        refine JL.nil ?_
        refine JE.cont hres ?_
        exact fun a w h => h.weak ⟨rfl, rfl, rfl, trivial⟩ [] (by decide) rfl
    · refine JX.condF rfl hb ?_
      refine JX.exit ?_
      refine JE.qb rfl ?_
      obtain ⟨b1, hb1⟩ : ∃ b : Unit, b = () := ⟨_, rfl⟩
      have hy1 : Sum.inl b1 = y1 := by rw [hb1]; exact hox1 _ (Option.some.inj hres).symm
      have hres := elimS_inl hresO1 hy1
      refine JE.weak (env' := []) (es' := []) [] ?_ trivial (by decide) (by subst hb1; rfl)
      refine JE.code ?_
      refine JX.seq ?_
      refine JX.region ?_
      refine JL.val (yl_assign rfl) rfl ?_
      refine JL.nil ?_
      refine JE.code ?_
      refine JX.ret ?_
      obtain rfl := Option.some.inj hres
      refine JE.ret (rs := [.tmp 4]) (vs := [.bool true]) rfl ⟨rfl, trivial⟩ ?_
      exact fun w' hb hs => ⟨_, _, ⟨rfl, rfl⟩, rfl, hb, hs.sel [] _ (by decide) rfl⟩

/- laws.f6shapes -/
def sh16_1 (q0 : List (List SPoint)) (q1 : List (List SPoint)) : Int → Option (Int ⊕ (Unit ⊕ Bool))
  | x1 => bif decide (x1 < ((q0.length : Nat) : Int)) then (Option.bind (getI q0 x1) fun x3 => Option.bind (getI q1 x1) fun x7 => Option.bind (sh17 x3 x7) fun x11 => bif !x11 then (some (.inr (.inr false))) else (some (.inl (w64 (x1 + 1))))) else (some (.inr (.inl ())))
def sh16 (q0 : List (List SPoint)) (q1 : List (List SPoint)) : Option (Bool) := bif ((q0.length : Nat) : Int) != ((q1.length : Nat) : Int) then (some false) else (Option.bind (iter (sh16_1 q0 q1) 0) fun y1 => elimS y1 (fun r => some r) fun b1 => (some true))
def T16 (r : Bool) (v : Value) (rs : List Own) : Prop := v = rets [.bool r] ∧ rs = []
set_option maxRecDepth 100000 in
theorem c16 {w : World} {q0 : List (List SPoint)} {a_0 : Option Addr} {n_0 c_0 : Nat} {h_0 : List Hd} (g_0 : Rd w a_0 (eHd.fl h_0)) (r_0 : RdI w eSPoint h_0 q0) (i_0 : Inn h_0 q0) (l_0 : q0.length = n_0) (k_0 : n_0 ≤ c_0) {q1 : List (List SPoint)} {a_1 : Option Addr} {n_1 c_1 : Nat} {h_1 : List Hd} (g_1 : Rd w a_1 (eHd.fl h_1)) (r_1 : RdI w eSPoint h_1 q1) (i_1 : Inn h_1 q1) (l_1 : q1.length = n_1) (k_1 : n_1 ≤ c_1) {r : Bool} (hres : sh16 q0 q1 = some r) : Calls Go.Proofs.Try.prog 16 [.slice a_0 n_0 c_0, .slice a_1 n_1 c_1].toArray w (Ret w (T16 r)) := by
  subst l_0
  subst l_1
  unfold sh16 at hres
  refine calls_of (n := 27) (M := []) (es := []) Go.Proofs.Try.func16 rfl rfl rfl (Sep.nil _ _ _) ?_
  refine JX.seq ?_
  refine JX.region ?_
  refine JL.val (yl_assign rfl) rfl ?_
  refine JL.nil ?_
  refine JE.code ?_
  refine JX.seq ?_
  refine JX.seq ?_
  refine JX.region ?_
  refine JL.val (yl_move rfl) rfl ?_
  refine JL.val (yl_len_slice Go.Proofs.Try.underlying29 rfl) rfl ?_
  refine JL.val (yl_move rfl) rfl ?_
  refine JL.val (yl_len_slice Go.Proofs.Try.underlying29 rfl) rfl ?_
  refine JL.val (yl_neq rfl rfl) rfl ?_
  refine JL.nil ?_
  refine JE.weak (env' := [(0, .slice a_0 q0.length c_0), (1, .slice a_1 q1.length c_1), (10, .bool (((q0.length : Nat) : Int) != ((q1.length : Nat) : Int)))]) (es' := []) [] ?_ ⟨rfl, rfl, rfl, trivial⟩ (by decide) rfl
  refine JE.code ?_
  rcases cond_some hres with ⟨hb, hres⟩ | ⟨hb, hres⟩
  · refine JX.condT rfl hb ?_
    refine JX.seq ?_
    refine JX.region ?_
    refine JL.val (yl_assign rfl) rfl ?_
    refine JL.nil ?_
    refine JE.code ?_
    refine JX.ret ?_
    obtain rfl := Option.some.inj hres
    refine JE.ret (rs := [.tmp 4]) (vs := [.bool false]) rfl ⟨rfl, trivial⟩ ?_
    exact fun w' hb hs => ⟨_, _, ⟨rfl, rfl⟩, rfl, hb, hs.sel [] _ (by decide) rfl⟩
  · refine JX.condF rfl hb ?_
    refine JX.skip ?_
    refine JE.code ?_
    refine JX.seq ?_
    refine JX.seq ?_
    refine JX.region ?_
    refine JL.val (yl_assign rfl) rfl ?_
    refine JL.nil ?_
    refine JE.code ?_
    refine JX.block ?_
    obtain ⟨y1, hy1, hresO1⟩ := bind_some hres
    refine JX.loop (I := fun (s1 : Int) aa ww => St w [] 27 [(0, .slice a_0 q0.length c_0), (1, .slice a_1 q1.length c_1), (5, .int .i64 s1)] [] aa ww) (sh16_1 q0 q1) hy1 (fun a w h => h.weak ⟨rfl, rfl, rfl, trivial⟩ [] (by decide) rfl) ?_
    rintro x1 o1 hres hox1 aa ww hS
    refine (?_ : JX Go.Proofs.Try.prog w [] 27 _ _ [(0, .slice a_0 q0.length c_0), (1, .slice a_1 q1.length c_1), (5, .int .i64 x1)] [] _) aa ww hS
    clear hS
    unfold sh16_1 at hres
    refine JX.seq ?_
    refine JX.seq ?_
    refine JX.region ?_
    refine JL.val (yl_move rfl) rfl ?_
    refine JL.val (yl_move rfl) rfl ?_
    refine JL.val (yl_len_slice Go.Proofs.Try.underlying29 rfl) rfl ?_
    refine JL.val (yl_lss rfl rfl) rfl ?_
    refine JL.nil ?_
    refine JE.weak (env' := [(0, .slice a_0 q0.length c_0), (1, .slice a_1 q1.length c_1), (5, .int .i64 x1), (14, .bool (decide (x1 < ((q0.length : Nat) : Int))))]) (es' := []) [] ?_ ⟨rfl, rfl, rfl, rfl, trivial⟩ (by decide) rfl
    refine JE.code ?_
    rcases cond_some hres with ⟨hb, hres⟩ | ⟨hb, hres⟩
    · refine JX.condT rfl hb ?_
      refine JX.skip ?_
      refine JE.code ?_
      refine JX.seq ?_
      refine JX.block ?_
      refine JX.seq ?_
      refine JX.drawH [(0, .pure), (1, .pure), (2, .pure), (3, .read), (4, .pure), (5, .pure), (6, .pure), (7, .read), (8, .must), (9, .pure)] [] [] [] [] [] mixedP (by kernel_rfl) (by kernel_rfl) (by decide) rfl rfl ?_
      intro wrr2 Nr2 hFr2
      refine JH.pure rfl (yl_move rfl) rfl ?_
      refine JH.pure rfl (yl_move rfl) rfl ?_
      obtain ⟨x3, hx3, hres⟩ := bind_some hres
      obtain ⟨ha4, hc5, hhx3⟩ := Inn.sub i_0 hx3
      refine JH.pure rfl (yl_idxQ Go.Proofs.Try.underlying29 i34 i34s rfl rfl hhx3 (Inn.len i_0) (rd_arg g_0 hFr2.cl) (Inn.len i_0)) rfl ?_
      refine JH.read rfl (yl_loadT0 (z := ⟨ha4, x3.length, hc5⟩) Go.Proofs.Try.underlying34 rfl rfl hhx3 (fun w hw => hFr2.arg g_0 hw) rfl) rfl ?_
      refine JH.pure rfl (yl_move rfl) rfl ?_
      refine JH.pure rfl (yl_move rfl) rfl ?_
      obtain ⟨x7, hx7, hres⟩ := bind_some hres
      obtain ⟨ha8, hc9, hhx7⟩ := Inn.sub i_1 hx7
      refine JH.pure rfl (yl_idxQ Go.Proofs.Try.underlying29 i34 i34s rfl rfl hhx7 (Inn.len i_1) (rd_arg g_1 hFr2.cl) (Inn.len i_1)) rfl ?_
      refine JH.read rfl (yl_loadT0 (z := ⟨ha8, x7.length, hc9⟩) Go.Proofs.Try.underlying34 rfl rfl hhx7 (fun w hw => hFr2.arg g_1 hw) rfl) rfl ?_
      obtain ⟨x11, hx11, hres⟩ := bind_some hres
      refine JH.must rfl (ef_call (T := T17 x11) Go.Proofs.Try.func17 rfl (by kernel_rfl) rfl (fun w hC => c17 (hFr2.arg (RdI.sub r_0 hx3 hhx3) hC.1) rfl (RdI.ln r_0 hx3 hhx3) (hFr2.arg (RdI.sub r_1 hx7 hhx7) hC.1) rfl (RdI.ln r_1 hx7 hhx7) hx11)) rfl rfl ?_
      rintro _ _ ⟨_, ⟨rfl, rfl⟩, rfl⟩
      refine JH.pure rfl (yl_not rfl) rfl ?_
      refine JH.nil ?_
      refine JE.weak (env' := [(0, .slice a_0 q0.length c_0), (1, .slice a_1 q1.length c_1), (5, .int .i64 x1), (26, .bool !x11)]) (es' := []) [] ?_ ⟨rfl, rfl, rfl, rfl, trivial⟩ (by decide) rfl
      refine JE.code ?_
      rcases cond_some hres with ⟨hb, hres⟩ | ⟨hb, hres⟩
      · refine JX.condT rfl hb ?_
        refine JX.seq ?_
        refine JX.region ?_
        refine JL.val (yl_assign rfl) rfl ?_
        refine JL.nil ?_
        refine JE.code ?_
        refine JX.ret ?_
        refine JE.qbr ?_
        refine JE.qbr ?_
        have hres := elimS_inr hresO1 (hox1 _ (Option.some.inj hres).symm)
        obtain rfl := Option.some.inj hres
        refine JE.ret (rs := [.tmp 4]) (vs := [.bool false]) rfl ⟨rfl, trivial⟩ ?_
        exact fun w' hb hs => ⟨_, _, ⟨rfl, rfl⟩, rfl, hb, hs.sel [] _ (by decide) rfl⟩
      · refine JX.condF rfl hb ?_
        refine JX.skip ?_
        refine JE.code ?_
        refine JX.region ?_
        refine JL.val (yl_move rfl) rfl ?_
        refine JL.val (yl_add rfl rfl) rfl ?_
        refine JL.val (yl_assign rfl) rfl ?_
        refine JL.nil ?_
        refine JE.cont hres ?_
        exact fun a w h => h.weak ⟨rfl, rfl, rfl, trivial⟩ [] (by decide) rfl
    · refine JX.condF rfl hb ?_
      refine JX.exit ?_
      refine JE.qb rfl ?_
      obtain ⟨b1, hb1⟩ : ∃ b : Unit, b = () := ⟨_, rfl⟩
      have hy1 : Sum.inl b1 = y1 := by rw [hb1]; exact hox1 _ (Option.some.inj hres).symm
      have hres := elimS_inl hresO1 hy1
      refine JE.weak (env' := []) (es' := []) [] ?_ trivial (by decide) (by subst hb1; rfl)
      refine JE.code ?_
      refine JX.seq ?_
      refine JX.region ?_
      refine JL.val (yl_assign rfl) rfl ?_
      refine JL.nil ?_
      refine JE.code ?_
      refine JX.ret ?_
      obtain rfl := Option.some.inj hres
      refine JE.ret (rs := [.tmp 4]) (vs := [.bool true]) rfl ⟨rfl, trivial⟩ ?_
      exact fun w' hb hs => ⟨_, _, ⟨rfl, rfl⟩, rfl, hb, hs.sel [] _ (by decide) rfl⟩

/- impl.isCorner -/
def sh106 (q0 : SPoint) : Option (Bool) := Option.bind (sh107 q0.X (-100000) 100000) fun x3 => Option.bind (bif x3 then (Option.bind (sh107 q0.Y (-100000) 100000) fun x5 => some x5) else (some false)) fun cb4 => (some cb4)
def T106 (r : Bool) (v : Value) (rs : List Own) : Prop := v = rets [.bool r] ∧ rs = []
set_option maxRecDepth 100000 in
theorem c106 {w : World} {q0 : SPoint} {r : Bool} (hres : sh106 q0 = some r) : Calls Go.Proofs.Try.prog 106 [.agg #[.int .i64 q0.X, .int .i64 q0.Y]].toArray w (Ret w (T106 r)) := by
  unfold sh106 at hres
  refine calls_of (n := 11) (M := []) (es := []) Go.Proofs.Try.func106 rfl rfl rfl (Sep.nil _ _ _) ?_
  refine JX.seq ?_
  refine JX.region ?_
  refine JL.eff (ef_box rfl rfl) rfl ?_
  rintro _ _ ⟨g1, rfl, rfl⟩
  refine JL.val (yl_assign rfl) rfl ?_
  refine JL.nil ?_
  refine JE.code ?_
  refine JX.seq ?_
  refine JX.region ?_
  refine JL.val (yl_fieldAt (a := some _) Go.Proofs.Try.underlying42 rfl i2 i2n rfl rfl) rfl ?_
  refine JL.val (yl_load1 Go.Proofs.Try.underlying2 rfl rfl (fun w hC => rd_box hC 0 rfl) rfl) rfl ?_
  obtain ⟨x3, hx3, hres⟩ := bind_some hres
  refine JL.eff (ef_call (T := T107 x3) Go.Proofs.Try.func107 rfl (by kernel_rfl) rfl (fun w hC => c107  hx3)) rfl ?_
  rintro _ _ ⟨_, ⟨rfl, rfl⟩, rfl⟩
  refine JL.val (yl_move rfl) rfl ?_
  obtain ⟨cb4, hcb4, hres⟩ := bind_some hres
  refine JL.cut (K := fun J => J [(10, .bool cb4)] []) 4 ?_ ?_
  · refine JL.val (yl_assign rfl) rfl ?_
    refine JL.nil ?_
    refine JE.weak (env' := [(2, .bool cb4)]) (es' := []) [] ?_ ⟨rfl, trivial⟩ (by decide) rfl
    refine JE.code ?_
    refine JX.ret ?_
    obtain rfl := Option.some.inj hres
    refine JE.ret (rs := [.tmp 2]) (vs := [.bool cb4]) rfl ⟨rfl, trivial⟩ ?_
    exact fun w' hb hs => ⟨_, _, ⟨rfl, rfl⟩, rfl, hb, hs.sel [] _ (by decide) rfl⟩
  · intro K
    rcases cond_some hcb4 with ⟨hb, hres⟩ | ⟨hb, hres⟩
    · refine JL.set (d := 6) (v := .bool true) (congrArg (fun b => some (Value.bool b)) hb) ?_
      refine JL.gval rfl rfl (yl_fieldAt (a := some _) Go.Proofs.Try.underlying42 rfl i2 i2n rfl rfl) rfl ?_
      refine JL.gval rfl rfl (yl_load1 Go.Proofs.Try.underlying2 rfl rfl (fun w hC => rd_box hC 0 rfl) rfl) rfl ?_
      obtain ⟨x5, hx5, hres⟩ := bind_some hres
      refine JL.geff rfl rfl (ef_call (T := T107 x5) Go.Proofs.Try.func107 rfl (by kernel_rfl) rfl (fun w hC => c107  hx5)) rfl ?_
      rintro _ _ ⟨_, ⟨rfl, rfl⟩, rfl⟩
      refine JL.val (yl_pick_true rfl rfl) rfl ?_
      have he := Option.some.inj hres
      exact JL.weak [] K ⟨(by rw [← he]; rfl), trivial⟩ (by decide) rfl
    · refine JL.set (d := 6) (v := .bool false) (congrArg (fun b => some (Value.bool b)) hb) ?_
      refine JL.gskip rfl rfl rfl rfl ?_
      refine JL.gskip rfl rfl rfl rfl ?_
      refine JL.gskip rfl rfl rfl rfl ?_
      refine JL.val (yl_pick_false rfl rfl) rfl ?_
      have he := Option.some.inj hres
      exact JL.weak [] K ⟨(by rw [← he]; rfl), trivial⟩ (by decide) rfl

/- impl.isPolygon$1 -/
def sh179 (q0 : SPoint) : Option (Bool) := Option.bind (sh106 q0) fun x3 => some !x3
def T179 (r : Bool) (v : Value) (rs : List Own) : Prop := v = rets [.bool r] ∧ rs = []
set_option maxRecDepth 100000 in
theorem c179 {w : World} {q0 : SPoint} {r : Bool} (hres : sh179 q0 = some r) : Calls Go.Proofs.Try.prog 179 [.agg #[.int .i64 q0.X, .int .i64 q0.Y]].toArray w (Ret w (T179 r)) := by
  unfold sh179 at hres
  refine calls_of (n := 6) (M := []) (es := []) Go.Proofs.Try.func179 rfl rfl rfl (Sep.nil _ _ _) ?_
  refine JX.seq ?_
  refine JX.region ?_
  refine JL.eff (ef_box rfl rfl) rfl ?_
  rintro _ _ ⟨g1, rfl, rfl⟩
  refine JL.val (yl_assign rfl) rfl ?_
  refine JL.nil ?_
  refine JE.code ?_
  refine JX.seq ?_
  refine JX.region ?_
  refine JL.val (yl_loadn Go.Proofs.Try.underlying42 rfl i42 rfl (fun w hC => rd_box hC 0 rfl) rfl (i42s).symm i42p) rfl ?_
  obtain ⟨x3, hx3, hres⟩ := bind_some hres
  refine JL.eff (ef_call (vs := [.agg #[.int .i64 q0.X, .int .i64 q0.Y]]) (T := T106 x3) Go.Proofs.Try.func106 rfl (by kernel_rfl) rfl (fun w hC => c106 (q0 := q0) hx3)) rfl ?_
  rintro _ _ ⟨_, ⟨rfl, rfl⟩, rfl⟩
  refine JL.val (yl_not rfl) rfl ?_
  refine JL.val (yl_assign rfl) rfl ?_
  refine JL.nil ?_
  refine JE.weak (env' := [(2, .bool !x3)]) (es' := []) [] ?_ ⟨rfl, trivial⟩ (by decide) rfl
  refine JE.code ?_
  refine JX.ret ?_
  obtain rfl := Option.some.inj hres
  refine JE.ret (rs := [.tmp 2]) (vs := [.bool !x3]) rfl ⟨rfl, trivial⟩ ?_
  exact fun w' hb hs => ⟨_, _, ⟨rfl, rfl⟩, rfl, hb, hs.sel [] _ (by decide) rfl⟩

/- slices.IndexFunc[[]impl.Point,impl.Point] -/
def sh200f179_1 (q0 : List SPoint) : Int → Option (Int ⊕ (Unit ⊕ Int))
  | x1 => bif decide (x1 < (q0.length : Int)) then (Option.bind (getI q0 x1) fun x2 => Option.bind (sh179 x2) fun x3 => bif x3 then (some (.inr (.inr x1))) else (some (.inl (w64 (x1 + 1))))) else (some (.inr (.inl ())))
def sh200f179 (q0 : List SPoint) : Option (Int) := Option.bind (iter (sh200f179_1 q0) 0) fun y1 => elimS y1 (fun r => some r) fun b1 => (some (-1))
def T200f179 (r : Int) (v : Value) (rs : List Own) : Prop := v = rets [.int .i64 r] ∧ rs = []
set_option maxRecDepth 100000 in
theorem c200f179 {w : World} {q0 : List SPoint} {a_0 : Option Addr} {n_0 c_0 : Nat} (g_0 : Rd w a_0 (eSPoint.fl q0)) (l_0 : q0.length = n_0) (k_0 : n_0 ≤ c_0) {r : Int} (hres : sh200f179 q0 = some r) : Calls Go.Proofs.Try.prog 200 [.slice a_0 n_0 c_0, .func (.func 179) #[] #[]].toArray w (Ret w (T200f179 r)) := by
  subst l_0
  unfold sh200f179 at hres
  refine calls_of (n := 19) (M := []) (es := []) Go.Proofs.Try.func200 rfl rfl rfl (Sep.nil _ _ _) ?_
  refine JX.seq ?_
  refine JX.region ?_
  refine JL.val (yl_assign rfl) rfl ?_
  refine JL.nil ?_
  refine JE.code ?_
  refine JX.seq ?_
  refine JX.seq ?_
  refine JX.region ?_
  refine JL.val (yl_move rfl) rfl ?_
  refine JL.val (yl_len_slice Go.Proofs.Try.underlying34 rfl) rfl ?_
  refine JL.val (yl_move rfl) rfl ?_
  refine JL.nil ?_
  refine JE.code ?_
  refine JX.block ?_
  obtain ⟨y1, hy1, hresO1⟩ := bind_some hres
  refine JX.loop (I := fun (s1 : Int) aa ww => St w [] 19 [(0, .slice a_0 q0.length c_0), (1, .func (.func 179) #[] #[]), (7, .int .i64 (q0.length : Int)), (8, .int .i64 s1)] [] aa ww) (sh200f179_1 q0) hy1 (fun a w h => h.weak ⟨rfl, rfl, rfl, rfl, trivial⟩ [] (by decide) rfl) ?_
  rintro x1 o1 hres hox1 aa ww hS
  refine (?_ : JX Go.Proofs.Try.prog w [] 19 _ _ [(0, .slice a_0 q0.length c_0), (1, .func (.func 179) #[] #[]), (7, .int .i64 (q0.length : Int)), (8, .int .i64 x1)] [] _) aa ww hS
  clear hS
  unfold sh200f179_1 at hres
  refine JX.seq ?_
  refine JX.region ?_
  refine JL.val (yl_lss rfl rfl) rfl ?_
  refine JL.nil ?_
  refine JE.code ?_
  refine JX.seq ?_
  rcases cond_some hres with ⟨hb, hres⟩ | ⟨hb, hres⟩
  · refine JX.condT rfl hb ?_
    refine JX.skip ?_
    refine JE.code ?_
    refine JX.seq ?_
    refine JX.block ?_
    refine JX.seq ?_
    refine JX.region ?_
    refine JL.val (yl_move rfl) rfl ?_
    refine JL.val (yl_assign rfl) rfl ?_
    refine JL.nil ?_
    refine JE.code ?_
    refine JX.seq ?_
    refine JX.region ?_
    refine JL.val (yl_move rfl) rfl ?_
    refine JL.val (yl_move rfl) rfl ?_
    refine JL.val (yl_move rfl) rfl ?_
    obtain ⟨x2, hx2, hres⟩ := bind_some hres
    refine JL.val (yl_idxT Go.Proofs.Try.underlying34 i42 i42s rfl rfl hx2 rfl (fun w hC => rd_arg g_0 hC)) rfl ?_
    refine JL.val (yl_loadTn Go.Proofs.Try.underlying42 rfl i42 i42s rfl hx2 (fun w hC => rd_arg g_0 hC)) rfl ?_
    obtain ⟨x3, hx3, hres⟩ := bind_some hres
    refine JL.eff (ef_callv (vs := [.agg #[.int .i64 x2.X, .int .i64 x2.Y]]) (T := T179 x3) rfl Go.Proofs.Try.func179 rfl (by kernel_rfl) rfl (fun w hC => c179 (q0 := x2) hx3)) rfl ?_
    rintro _ _ ⟨_, ⟨rfl, rfl⟩, rfl⟩
    refine JL.nil ?_
    refine JE.weak (env' := [(0, .slice a_0 q0.length c_0), (1, .func (.func 179) #[] #[]), (5, .int .i64 x1), (7, .int .i64 (q0.length : Int)), (8, .int .i64 x1), (16, .bool x3)]) (es' := []) [] ?_ ⟨rfl, rfl, rfl, rfl, rfl, rfl, trivial⟩ (by decide) rfl
    refine JE.code ?_
    rcases cond_some hres with ⟨hb, hres⟩ | ⟨hb, hres⟩
    · refine JX.condT rfl hb ?_
      refine JX.seq ?_
      refine JX.region ?_
      refine JL.val (yl_move rfl) rfl ?_
      refine JL.val (yl_assign rfl) rfl ?_
      refine JL.nil ?_
      refine JE.code ?_
      refine JX.ret ?_
      refine JE.qbr ?_
      refine JE.qbr ?_
      have hres := elimS_inr hresO1 (hox1 _ (Option.some.inj hres).symm)
      obtain rfl := Option.some.inj hres
      refine JE.ret (rs := [.tmp 4]) (vs := [.int .i64 x1]) rfl ⟨rfl, trivial⟩ ?_
      exact fun w' hb hs => ⟨_, _, ⟨rfl, rfl⟩, rfl, hb, hs.sel [] _ (by decide) rfl⟩
    · refine JX.condF rfl hb ?_
      refine JX.skip ?_
      refine JE.code ?_
      refine JX.region ?_
      refine JL.val (yl_add rfl rfl) rfl ?_
      refine JL.val (yl_move rfl) rfl ?_
      refine JL.nil ?_
      refine JE.cont hres ?_
      exact fun a w h => h.weak ⟨rfl, rfl, rfl, rfl, trivial⟩ [] (by decide) rfl
  · refine JX.condF rfl hb ?_
    refine JX.exit ?_
    refine JE.qb rfl ?_
    obtain ⟨b1, hb1⟩ : ∃ b : Unit, b = () := ⟨_, rfl⟩
    have hy1 : Sum.inl b1 = y1 := by rw [hb1]; exact hox1 _ (Option.some.inj hres).symm
    have hres := elimS_inl hresO1 hy1
    refine JE.weak (env' := []) (es' := []) [] ?_ trivial (by decide) (by subst hb1; rfl)
    refine JE.code ?_
    refine JX.seq ?_
    refine JX.region ?_
    refine JL.val (yl_assign rfl) rfl ?_
    refine JL.nil ?_
    refine JE.code ?_
    refine JX.ret ?_
    obtain rfl := Option.some.inj hres
    refine JE.ret (rs := [.tmp 4]) (vs := [.int .i64 (-1)]) rfl ⟨rfl, trivial⟩ ?_
    exact fun w' hb hs => ⟨_, _, ⟨rfl, rfl⟩, rfl, hb, hs.sel [] _ (by decide) rfl⟩

/- slices.ContainsFunc[[]impl.Point,impl.Point] -/
def sh136f179 (q0 : List SPoint) : Option (Bool) := Option.bind (sh200f179 q0) fun x1 => some (decide (0 ≤ x1))
def T136f179 (r : Bool) (v : Value) (rs : List Own) : Prop := v = rets [.bool r] ∧ rs = []
set_option maxRecDepth 100000 in
theorem c136f179 {w : World} {q0 : List SPoint} {a_0 : Option Addr} {n_0 c_0 : Nat} (g_0 : Rd w a_0 (eSPoint.fl q0)) (l_0 : q0.length = n_0) (k_0 : n_0 ≤ c_0) {r : Bool} (hres : sh136f179 q0 = some r) : Calls Go.Proofs.Try.prog 136 [.slice a_0 n_0 c_0, .func (.func 179) #[] #[]].toArray w (Ret w (T136f179 r)) := by
  subst l_0
  unfold sh136f179 at hres
  refine calls_of (n := 9) (M := []) (es := []) Go.Proofs.Try.func136 rfl rfl rfl (Sep.nil _ _ _) ?_
  refine JX.seq ?_
  refine JX.region ?_
  refine JL.val (yl_assign rfl) rfl ?_
  refine JL.nil ?_
  refine JE.code ?_
  refine JX.seq ?_
  refine JX.region ?_
  refine JL.val (yl_move rfl) rfl ?_
  refine JL.val (yl_move rfl) rfl ?_
  obtain ⟨x1, hx1, hres⟩ := bind_some hres
  refine JL.eff (ef_call (T := T200f179 x1) Go.Proofs.Try.func200 rfl (by kernel_rfl) rfl (fun w hC => c200f179 (rd_arg g_0 hC) rfl k_0 hx1)) rfl ?_
  rintro _ _ ⟨_, ⟨rfl, rfl⟩, rfl⟩
  refine JL.val (yl_geq rfl rfl) rfl ?_
  refine JL.val (yl_assign rfl) rfl ?_
  refine JL.nil ?_
  refine JE.weak (env' := [(4, .bool (decide (0 ≤ x1)))]) (es' := []) [] ?_ ⟨rfl, trivial⟩ (by decide) rfl
  refine JE.code ?_
  refine JX.ret ?_
  obtain rfl := Option.some.inj hres
  refine JE.ret (rs := [.tmp 4]) (vs := [.bool (decide (0 ≤ x1))]) rfl ⟨rfl, trivial⟩ ?_
  exact fun w' hb hs => ⟨_, _, ⟨rfl, rfl⟩, rfl, hb, hs.sel [] _ (by decide) rfl⟩

/- impl.isPolygon -/
def sh102 (q0 : List SPoint) : Option (Bool) := Option.bind (sh107 (q0.length : Int) 3 300) fun x1 => Option.bind (bif x1 then (Option.bind (sh136f179 q0) fun x3 => some !x3) else (some false)) fun cb2 => (some cb2)
def T102 (r : Bool) (v : Value) (rs : List Own) : Prop := v = rets [.bool r] ∧ rs = []
set_option maxRecDepth 100000 in
theorem c102 {w : World} {q0 : List SPoint} {a_0 : Option Addr} {n_0 c_0 : Nat} (g_0 : Rd w a_0 (eSPoint.fl q0)) (l_0 : q0.length = n_0) (k_0 : n_0 ≤ c_0) {r : Bool} (hres : sh102 q0 = some r) : Calls Go.Proofs.Try.prog 102 [.slice a_0 n_0 c_0].toArray w (Ret w (T102 r)) := by
  subst l_0
  unfold sh102 at hres
  refine calls_of (n := 11) (M := []) (es := []) Go.Proofs.Try.func102 rfl rfl rfl (Sep.nil _ _ _) ?_
  refine JX.seq ?_
  refine JX.region ?_
  refine JL.val (yl_assign rfl) rfl ?_
  refine JL.nil ?_
  refine JE.code ?_
  refine JX.seq ?_
  refine JX.region ?_
  refine JL.val (yl_move rfl) rfl ?_
  refine JL.val (yl_len_slice Go.Proofs.Try.underlying34 rfl) rfl ?_
  obtain ⟨x1, hx1, hres⟩ := bind_some hres
  refine JL.eff (ef_call (T := T107 x1) Go.Proofs.Try.func107 rfl (by kernel_rfl) rfl (fun w hC => c107  hx1)) rfl ?_
  rintro _ _ ⟨_, ⟨rfl, rfl⟩, rfl⟩
  refine JL.val (yl_move rfl) rfl ?_
  obtain ⟨cb2, hcb2, hres⟩ := bind_some hres
  refine JL.cut (K := fun J => J [(10, .bool cb2)] []) 4 ?_ ?_
  · refine JL.val (yl_assign rfl) rfl ?_
    refine JL.nil ?_
    refine JE.weak (env' := [(2, .bool cb2)]) (es' := []) [] ?_ ⟨rfl, trivial⟩ (by decide) rfl
    refine JE.code ?_
    refine JX.ret ?_
    obtain rfl := Option.some.inj hres
    refine JE.ret (rs := [.tmp 2]) (vs := [.bool cb2]) rfl ⟨rfl, trivial⟩ ?_
    exact fun w' hb hs => ⟨_, _, ⟨rfl, rfl⟩, rfl, hb, hs.sel [] _ (by decide) rfl⟩
  · intro K
    rcases cond_some hcb2 with ⟨hb, hres⟩ | ⟨hb, hres⟩
    · refine JL.set (d := 6) (v := .bool true) (congrArg (fun b => some (Value.bool b)) hb) ?_
      refine JL.gval rfl rfl (yl_move rfl) rfl ?_
      obtain ⟨x3, hx3, hres⟩ := bind_some hres
      refine JL.geff rfl rfl (ef_call (T := T136f179 x3) Go.Proofs.Try.func136 rfl (by kernel_rfl) rfl (fun w hC => c136f179 (rd_arg g_0 hC) rfl k_0 hx3)) rfl ?_
      rintro _ _ ⟨_, ⟨rfl, rfl⟩, rfl⟩
      refine JL.gval rfl rfl (yl_not rfl) rfl ?_
      refine JL.val (yl_pick_true rfl rfl) rfl ?_
      have he := Option.some.inj hres
      exact JL.weak [] K ⟨(by rw [← he]; rfl), trivial⟩ (by decide) rfl
    · refine JL.set (d := 6) (v := .bool false) (congrArg (fun b => some (Value.bool b)) hb) ?_
      refine JL.gskip rfl rfl rfl rfl ?_
      refine JL.gskip rfl rfl rfl rfl ?_
      refine JL.gskip rfl rfl rfl rfl ?_
      refine JL.val (yl_pick_false rfl rfl) rfl ?_
      have he := Option.some.inj hres
      exact JL.weak [] K ⟨(by rw [← he]; rfl), trivial⟩ (by decide) rfl

/- impl.signedArea -/
def sh103_1 (q0 : List SPoint) : (Int × Int) → Option ((Int × Int) ⊕ (Int))
  | (x1, x2) => bif decide (x2 < (q0.length : Int)) then (Option.bind (getI q0 x2) fun x3 => Option.bind (nzI (q0.length : Int)) fun x6 => Option.bind (getI q0 ((w64 (x2 + 1)).tmod (q0.length : Int))) fun x7 => some (.inl (w64 (x1 + (w64 ((w64 (x3.X * x7.Y)) - (w64 (x3.Y * x7.X))))), w64 (x2 + 1)))) else (some (.inr x1))
def sh103 (q0 : List SPoint) : Option (Int) := Option.bind (iter (sh103_1 q0) (0, 0)) fun b1 => (some b1)
def T103 (r : Int) (v : Value) (rs : List Own) : Prop := v = rets [.int .i64 r] ∧ rs = []
set_option maxRecDepth 100000 in
theorem c103 {w : World} {q0 : List SPoint} {a_0 : Option Addr} {n_0 c_0 : Nat} (g_0 : Rd w a_0 (eSPoint.fl q0)) (l_0 : q0.length = n_0) (k_0 : n_0 ≤ c_0) {r : Int} (hres : sh103 q0 = some r) : Calls Go.Proofs.Try.prog 103 [.slice a_0 n_0 c_0].toArray w (Ret w (T103 r)) := by
  subst l_0
  unfold sh103 at hres
  refine calls_of (n := 37) (M := []) (es := []) Go.Proofs.Try.func103 rfl rfl rfl (Sep.nil _ _ _) ?_
  refine JX.seq ?_
  refine JX.region ?_
  refine JL.val (yl_assign rfl) rfl ?_
  refine JL.nil ?_
  refine JE.code ?_
  refine JX.seq ?_
  refine JX.region ?_
  refine JL.val (yl_assign rfl) rfl ?_
  refine JL.nil ?_
  refine JE.code ?_
  refine JX.seq ?_
  refine JX.seq ?_
  refine JX.region ?_
  refine JL.val (yl_move rfl) rfl ?_
  refine JL.val (yl_len_slice Go.Proofs.Try.underlying34 rfl) rfl ?_
  refine JL.val (yl_move rfl) rfl ?_
  refine JL.nil ?_
  refine JE.code ?_
  refine JX.block ?_
  obtain ⟨y1, hy1, hresO1⟩ := bind_some hres
  refine JX.loop (I := fun (s1 : Int × Int) aa ww => St w [] 37 [(0, .slice a_0 q0.length c_0), (3, .int .i64 s1.1), (7, .slice a_0 q0.length c_0), (8, .int .i64 (q0.length : Int)), (9, .int .i64 s1.2)] [] aa ww) (sh103_1 q0) hy1 (fun a w h => h.weak ⟨rfl, rfl, rfl, rfl, rfl, trivial⟩ [] (by decide) rfl) ?_
  rintro ⟨x1, x2⟩ o1 hres hox1 aa ww hS
  refine (?_ : JX Go.Proofs.Try.prog w [] 37 _ _ [(0, .slice a_0 q0.length c_0), (3, .int .i64 x1), (7, .slice a_0 q0.length c_0), (8, .int .i64 (q0.length : Int)), (9, .int .i64 x2)] [] _) aa ww hS
  clear hS
  simp only [sh103_1] at hres
  refine JX.seq ?_
  refine JX.region ?_
  refine JL.val (yl_lss rfl rfl) rfl ?_
  refine JL.nil ?_
  refine JE.code ?_
  refine JX.seq ?_
  rcases cond_some hres with ⟨hb, hres⟩ | ⟨hb, hres⟩
  · refine JX.condT rfl hb ?_
    refine JX.skip ?_
    refine JE.code ?_
    refine JX.seq ?_
    refine JX.block ?_
    refine JX.seq ?_
    refine JX.region ?_
    refine JL.val (yl_move rfl) rfl ?_
    obtain ⟨x3, hx3, hres⟩ := bind_some hres
    refine JL.val (yl_idxT Go.Proofs.Try.underlying34 i42 i42s rfl rfl hx3 rfl (fun w hC => rd_arg g_0 hC)) rfl ?_
    refine JL.val (yl_loadTn Go.Proofs.Try.underlying42 rfl i42 i42s rfl hx3 (fun w hC => rd_arg g_0 hC)) rfl ?_
    refine JL.eff (ef_alloc i42 i42z rfl) rfl ?_
    rintro _ _ ⟨g4, rfl, rfl⟩
    refine JL.val (yl_assign rfl) rfl ?_
    refine JL.eff (ef_store_box (i := 0) (v := .agg #[.int .i64 x3.X, .int .i64 x3.Y]) i42 rfl rfl rfl (i42s).symm (Nat.le_of_ble_eq_true rfl) (by simp [Value.cells, Value.oneCell'])) rfl ?_
    rintro _ _ rfl
    refine JL.nil ?_
    refine JE.weak (env' := [(0, .slice a_0 q0.length c_0), (3, .int .i64 x1), (4, .int .i64 x2), (5, ptrAt (some ⟨g4, 0, none⟩) 0), (7, .slice a_0 q0.length c_0), (8, .int .i64 (q0.length : Int)), (9, .int .i64 x2)]) (es' := [boxO 42 g4 [.int .i64 x3.X, .int .i64 x3.Y]]) [0] ?_ ⟨rfl, rfl, rfl, rfl, rfl, rfl, rfl, trivial⟩ (by decide) rfl
    refine JE.code ?_
    refine JX.seq ?_
    refine JX.region ?_
    refine JL.val (yl_move rfl) rfl ?_
    refine JL.val (yl_move rfl) rfl ?_
    refine JL.val (yl_add rfl rfl) rfl ?_
    refine JL.val (yl_move rfl) rfl ?_
    refine JL.val (yl_len_slice Go.Proofs.Try.underlying34 rfl) rfl ?_
    obtain ⟨x6, hx6, hres⟩ := bind_some hres
    refine JL.val (yl_rem rfl rfl (nzI_some hx6)) rfl ?_
    obtain ⟨x7, hx7, hres⟩ := bind_some hres
    refine JL.val (yl_idxT Go.Proofs.Try.underlying34 i42 i42s rfl rfl hx7 rfl (fun w hC => rd_arg g_0 hC)) rfl ?_
    refine JL.val (yl_loadTn Go.Proofs.Try.underlying42 rfl i42 i42s rfl hx7 (fun w hC => rd_arg g_0 hC)) rfl ?_
    refine JL.eff (ef_alloc i42 i42z rfl) rfl ?_
    rintro _ _ ⟨g8, rfl, rfl⟩
    refine JL.eff (ef_store_box (i := 1) (v := .agg #[.int .i64 x7.X, .int .i64 x7.Y]) i42 rfl rfl rfl (i42s).symm (Nat.le_of_ble_eq_true rfl) (by simp [Value.cells, Value.oneCell'])) rfl ?_
    rintro _ _ rfl
    refine JL.nil ?_
    refine JE.weak (env' := [(0, .slice a_0 q0.length c_0), (3, .int .i64 x1), (5, ptrAt (some ⟨g4, 0, none⟩) 0), (6, ptrAt (some ⟨g8, 0, none⟩) 0), (7, .slice a_0 q0.length c_0), (8, .int .i64 (q0.length : Int)), (9, .int .i64 x2)]) (es' := [boxO 42 g4 [.int .i64 x3.X, .int .i64 x3.Y], boxO 42 g8 [.int .i64 x7.X, .int .i64 x7.Y]]) [0, 1] ?_ ⟨rfl, rfl, rfl, rfl, rfl, rfl, rfl, trivial⟩ (by decide) rfl
    refine JE.code ?_
    refine JX.region ?_
    refine JL.val (yl_move rfl) rfl ?_
    refine JL.val (yl_fieldAt (a := some _) Go.Proofs.Try.underlying42 rfl i2 i2n rfl rfl) rfl ?_
    refine JL.val (yl_load1 Go.Proofs.Try.underlying2 rfl rfl (fun w hC => rd_box hC 0 rfl) rfl) rfl ?_
    refine JL.val (yl_fieldAt (a := some _) Go.Proofs.Try.underlying42 rfl i2 i2n rfl rfl) rfl ?_
    refine JL.val (yl_load1 Go.Proofs.Try.underlying2 rfl rfl (fun w hC => rd_box hC 1 rfl) rfl) rfl ?_
    refine JL.val (yl_mul rfl rfl) rfl ?_
    refine JL.val (yl_fieldAt (a := some _) Go.Proofs.Try.underlying42 rfl i2 i2n rfl rfl) rfl ?_
    refine JL.val (yl_load1 Go.Proofs.Try.underlying2 rfl rfl (fun w hC => rd_box hC 0 rfl) rfl) rfl ?_
    refine JL.val (yl_fieldAt (a := some _) Go.Proofs.Try.underlying42 rfl i2 i2n rfl rfl) rfl ?_
    refine JL.val (yl_load1 Go.Proofs.Try.underlying2 rfl rfl (fun w hC => rd_box hC 1 rfl) rfl) rfl ?_
    refine JL.val (yl_mul rfl rfl) rfl ?_
    refine JL.val (yl_sub rfl rfl) rfl ?_
    refine JL.val (yl_add rfl rfl) rfl ?_
    refine JL.val (yl_assign rfl) rfl ?_
    refine JL.nil ?_
    refine JE.weak (env' := [(0, .slice a_0 q0.length c_0), (3, .int .i64 (w64 (x1 + (w64 ((w64 (x3.X * x7.Y)) - (w64 (x3.Y * x7.X))))))), (7, .slice a_0 q0.length c_0), (8, .int .i64 (q0.length : Int)), (9, .int .i64 x2)]) (es' := []) [] ?_ ⟨rfl, rfl, rfl, rfl, rfl, trivial⟩ (by decide) rfl
    refine JE.code ?_
    refine JX.region ?_
    refine JL.val (yl_add rfl rfl) rfl ?_
    refine JL.val (yl_move rfl) rfl ?_
    refine JL.nil ?_
    refine JE.cont hres ?_
    exact fun a w h => h.weak ⟨rfl, rfl, rfl, rfl, rfl, trivial⟩ [] (by decide) rfl
  · refine JX.condF rfl hb ?_
    refine JX.exit ?_
    refine JE.qb rfl ?_
    obtain ⟨b1, hb1⟩ : ∃ b : Int, b = x1 := ⟨_, rfl⟩
    have hy1 : b1 = y1 := by rw [hb1]; exact hox1 _ (Option.some.inj hres).symm
    have hres := hresO1
    rw [← hy1] at hres
    refine JE.weak (env' := [(3, .int .i64 b1)]) (es' := []) [] ?_ ⟨(by subst hb1; rfl), trivial⟩ (by decide) (by subst hb1; rfl)
    refine JE.code ?_
    refine JX.seq ?_
    refine JX.region ?_
    refine JL.val (yl_move rfl) rfl ?_
    refine JL.val (yl_assign rfl) rfl ?_
    refine JL.nil ?_
    refine JE.code ?_
    refine JX.ret ?_
    obtain rfl := Option.some.inj hres
    refine JE.ret (rs := [.tmp 2]) (vs := [.int .i64 b1]) rfl ⟨rfl, trivial⟩ ?_
    exact fun w' hb hs => ⟨_, _, ⟨rfl, rfl⟩, rfl, hb, hs.sel [] _ (by decide) rfl⟩

/- impl.DoubleArea -/
def sh18 (q0 : List SPoint) : Option (Int × Int) := Option.bind (sh102 q0) fun x1 => bif !x1 then (some (0, 1)) else (Option.bind (sh103 q0) fun x2 => some (if x2 < (w64 (0 - x2)) then (w64 (0 - x2)) else x2, 0))
def T18 (r : Int × Int) (v : Value) (rs : List Own) : Prop := v = rets [.int .i64 r.1, .int .i64 r.2] ∧ rs = []
set_option maxRecDepth 100000 in
theorem c18 {w : World} {q0 : List SPoint} {a_0 : Option Addr} {n_0 c_0 : Nat} (g_0 : Rd w a_0 (eSPoint.fl q0)) (l_0 : q0.length = n_0) (k_0 : n_0 ≤ c_0) {r : Int × Int} (hres : sh18 q0 = some r) : Calls Go.Proofs.Try.prog 18 [.slice a_0 n_0 c_0].toArray w (Ret w (T18 r)) := by
  subst l_0
  unfold sh18 at hres
  refine calls_of (n := 14) (M := []) (es := []) Go.Proofs.Try.func18 rfl rfl rfl (Sep.nil _ _ _) ?_
  refine JX.seq ?_
  refine JX.region ?_
  refine JL.val (yl_assign rfl) rfl ?_
  refine JL.val (yl_assign rfl) rfl ?_
  refine JL.nil ?_
  refine JE.code ?_
  refine JX.seq ?_
  refine JX.seq ?_
  refine JX.region ?_
  refine JL.val (yl_move rfl) rfl ?_
  obtain ⟨x1, hx1, hres⟩ := bind_some hres
  refine JL.eff (ef_call (T := T102 x1) Go.Proofs.Try.func102 rfl (by kernel_rfl) rfl (fun w hC => c102 (rd_arg g_0 hC) rfl k_0 hx1)) rfl ?_
  rintro _ _ ⟨_, ⟨rfl, rfl⟩, rfl⟩
  refine JL.val (yl_not rfl) rfl ?_
  refine JL.nil ?_
  refine JE.code ?_
  rcases cond_some hres with ⟨hb, hres⟩ | ⟨hb, hres⟩
  · refine JX.condT rfl hb ?_
    refine JX.seq ?_
    refine JX.region ?_
    refine JL.val (yl_assign rfl) rfl ?_
    refine JL.val (yl_assign rfl) rfl ?_
    refine JL.nil ?_
    refine JE.code ?_
    refine JX.ret ?_
    obtain rfl := Option.some.inj hres
    refine JE.ret (rs := [.tmp 2, .tmp 3]) (vs := [.int .i64 0, .int .i64 1]) rfl ⟨rfl, rfl, trivial⟩ ?_
    exact fun w' hb hs => ⟨_, _, ⟨rfl, rfl⟩, rfl, hb, hs.sel [] _ (by decide) rfl⟩
  · refine JX.condF rfl hb ?_
    refine JX.skip ?_
    refine JE.code ?_
    refine JX.seq ?_
    refine JX.region ?_
    refine JL.val (yl_move rfl) rfl ?_
    obtain ⟨x2, hx2, hres⟩ := bind_some hres
    refine JL.eff (ef_call (T := T103 x2) Go.Proofs.Try.func103 rfl (by kernel_rfl) rfl (fun w hC => c103 (rd_arg g_0 hC) rfl k_0 hx2)) rfl ?_
    rintro _ _ ⟨_, ⟨rfl, rfl⟩, rfl⟩
    refine JL.val (yl_assign rfl) rfl ?_
    refine JL.nil ?_
    refine JE.code ?_
    refine JX.seq ?_
    refine JX.region ?_
    refine JL.val (yl_move rfl) rfl ?_
    refine JL.val (yl_move rfl) rfl ?_
    refine JL.val (yl_neg rfl) rfl ?_
    refine JL.val (yl_max rfl rfl) rfl ?_
    refine JL.val (yl_assign rfl) rfl ?_
    refine JL.val (yl_assign rfl) rfl ?_
    refine JL.nil ?_
    refine JE.weak (env' := [(2, .int .i64 (if x2 < (w64 (0 - x2)) then (w64 (0 - x2)) else x2)), (3, .int .i64 0)]) (es' := []) [] ?_ ⟨rfl, rfl, trivial⟩ (by decide) rfl
    refine JE.code ?_
    refine JX.ret ?_
    obtain rfl := Option.some.inj hres
    refine JE.ret (rs := [.tmp 2, .tmp 3]) (vs := [.int .i64 (if x2 < (w64 (0 - x2)) then (w64 (0 - x2)) else x2), .int .i64 0]) rfl ⟨rfl, rfl, trivial⟩ ?_
    exact fun w' hb hs => ⟨_, _, ⟨rfl, rfl⟩, rfl, hb, hs.sel [] _ (by decide) rfl⟩

/- impl.compare -/
def sh104 (q0 : Int) (q1 : Int) : Option (Int) := bif decide (q0 < q1) then (some (-1)) else (bif decide (q1 < q0) then (some 1) else (some 0))
def T104 (r : Int) (v : Value) (rs : List Own) : Prop := v = rets [.int .i64 r] ∧ rs = []
set_option maxRecDepth 100000 in
theorem c104 {w : World} {q0 : Int} {q1 : Int} {r : Int} (hres : sh104 q0 q1 = some r) : Calls Go.Proofs.Try.prog 104 [.int .i64 q0, .int .i64 q1].toArray w (Ret w (T104 r)) := by
  unfold sh104 at hres
  refine calls_of (n := 13) (M := []) (es := []) Go.Proofs.Try.func104 rfl rfl rfl (Sep.nil _ _ _) ?_
  refine JX.seq ?_
  refine JX.region ?_
  refine JL.val (yl_assign rfl) rfl ?_
  refine JL.nil ?_
  refine JE.code ?_
  refine JX.seq ?_
  refine JX.block ?_
  refine JX.seq ?_
  refine JX.region ?_
  refine JL.val (yl_move rfl) rfl ?_
  refine JL.val (yl_move rfl) rfl ?_
  refine JL.val (yl_lss rfl rfl) rfl ?_
  refine JL.val (yl_assign rfl) rfl ?_
  refine JL.nil ?_
  refine JE.weak (env' := [(0, .int .i64 q0), (1, .int .i64 q1), (5, .bool (decide (q0 < q1)))]) (es' := []) [] ?_ ⟨rfl, rfl, rfl, trivial⟩ (by decide) rfl
  refine JE.code ?_
  rcases cond_some hres with ⟨hb, hres⟩ | ⟨hb, hres⟩
  · refine JX.condT rfl hb ?_
    refine JX.seq ?_
    refine JX.region ?_
    refine JL.val (yl_assign rfl) rfl ?_
    refine JL.nil ?_
    refine JE.code ?_
    refine JX.ret ?_
    refine JE.qbr ?_
    obtain rfl := Option.some.inj hres
    refine JE.ret (rs := [.tmp 4]) (vs := [.int .i64 (-1)]) rfl ⟨rfl, trivial⟩ ?_
    exact fun w' hb hs => ⟨_, _, ⟨rfl, rfl⟩, rfl, hb, hs.sel [] _ (by decide) rfl⟩
  · refine JX.condF rfl hb ?_
    refine JX.seq ?_
    refine JX.region ?_
    refine JL.val (yl_move rfl) rfl ?_
    refine JL.val (yl_move rfl) rfl ?_
    refine JL.val (yl_gtr rfl rfl) rfl ?_
    refine JL.val (yl_assign rfl) rfl ?_
    refine JL.nil ?_
    refine JE.weak (env' := [(9, .bool (decide (q1 < q0)))]) (es' := []) [] ?_ ⟨rfl, trivial⟩ (by decide) rfl
    refine JE.code ?_
    rcases cond_some hres with ⟨hb, hres⟩ | ⟨hb, hres⟩
    · refine JX.condT rfl hb ?_
      refine JX.seq ?_
      refine JX.region ?_
      refine JL.val (yl_assign rfl) rfl ?_
      refine JL.nil ?_
      refine JE.code ?_
      refine JX.ret ?_
      refine JE.qbr ?_
      obtain rfl := Option.some.inj hres
      refine JE.ret (rs := [.tmp 4]) (vs := [.int .i64 1]) rfl ⟨rfl, trivial⟩ ?_
      exact fun w' hb hs => ⟨_, _, ⟨rfl, rfl⟩, rfl, hb, hs.sel [] _ (by decide) rfl⟩
    · refine JX.condF rfl hb ?_
      refine JX.skip ?_
      refine JE.code ?_
      refine JX.seq ?_
      refine JX.region ?_
      refine JL.val (yl_assign rfl) rfl ?_
      refine JL.nil ?_
      refine JE.code ?_
      refine JX.ret ?_
      obtain rfl := Option.some.inj hres
      refine JE.ret (rs := [.tmp 4]) (vs := [.int .i64 0]) rfl ⟨rfl, trivial⟩ ?_
      exact fun w' hb hs => ⟨_, _, ⟨rfl, rfl⟩, rfl, hb, hs.sel [] _ (by decide) rfl⟩

/- impl.side -/
def sh105 (q0 : SPoint) (q1 : SPoint) (q2 : SPoint) : Option (Int) := some (w64 ((w64 ((w64 (q1.X - q0.X)) * (w64 (q2.Y - q0.Y)))) - (w64 ((w64 (q1.Y - q0.Y)) * (w64 (q2.X - q0.X))))))
def T105 (r : Int) (v : Value) (rs : List Own) : Prop := v = rets [.int .i64 r] ∧ rs = []
set_option maxRecDepth 100000 in
theorem c105 {w : World} {q0 : SPoint} {q1 : SPoint} {q2 : SPoint} {r : Int} (hres : sh105 q0 q1 q2 = some r) : Calls Go.Proofs.Try.prog 105 [.agg #[.int .i64 q0.X, .int .i64 q0.Y], .agg #[.int .i64 q1.X, .int .i64 q1.Y], .agg #[.int .i64 q2.X, .int .i64 q2.Y]].toArray w (Ret w (T105 r)) := by
  unfold sh105 at hres
  refine calls_of (n := 30) (M := []) (es := []) Go.Proofs.Try.func105 rfl rfl rfl (Sep.nil _ _ _) ?_
  refine JX.seq ?_
  refine JX.region ?_
  refine JL.eff (ef_box rfl rfl) rfl ?_
  rintro _ _ ⟨g1, rfl, rfl⟩
  refine JL.eff (ef_box rfl rfl) rfl ?_
  rintro _ _ ⟨g3, rfl, rfl⟩
  refine JL.eff (ef_box rfl rfl) rfl ?_
  rintro _ _ ⟨g5, rfl, rfl⟩
  refine JL.val (yl_assign rfl) rfl ?_
  refine JL.nil ?_
  refine JE.weak (env' := [(3, ptrAt (some ⟨g1, 0, none⟩) 0), (4, ptrAt (some ⟨g3, 0, none⟩) 0), (5, ptrAt (some ⟨g5, 0, none⟩) 0)]) (es' := [boxO 42 g1 [.int .i64 q0.X, .int .i64 q0.Y], boxO 42 g3 [.int .i64 q1.X, .int .i64 q1.Y], boxO 42 g5 [.int .i64 q2.X, .int .i64 q2.Y]]) [0, 1, 2] ?_ ⟨rfl, rfl, rfl, trivial⟩ (by decide) rfl
  refine JE.code ?_
  refine JX.seq ?_
  refine JX.region ?_
  refine JL.val (yl_fieldAt (a := some _) Go.Proofs.Try.underlying42 rfl i2 i2n rfl rfl) rfl ?_
  refine JL.val (yl_load1 Go.Proofs.Try.underlying2 rfl rfl (fun w hC => rd_box hC 1 rfl) rfl) rfl ?_
  refine JL.val (yl_fieldAt (a := some _) Go.Proofs.Try.underlying42 rfl i2 i2n rfl rfl) rfl ?_
  refine JL.val (yl_load1 Go.Proofs.Try.underlying2 rfl rfl (fun w hC => rd_box hC 0 rfl) rfl) rfl ?_
  refine JL.val (yl_sub rfl rfl) rfl ?_
  refine JL.val (yl_fieldAt (a := some _) Go.Proofs.Try.underlying42 rfl i2 i2n rfl rfl) rfl ?_
  refine JL.val (yl_load1 Go.Proofs.Try.underlying2 rfl rfl (fun w hC => rd_box hC 2 rfl) rfl) rfl ?_
  refine JL.val (yl_fieldAt (a := some _) Go.Proofs.Try.underlying42 rfl i2 i2n rfl rfl) rfl ?_
  refine JL.val (yl_load1 Go.Proofs.Try.underlying2 rfl rfl (fun w hC => rd_box hC 0 rfl) rfl) rfl ?_
  refine JL.val (yl_sub rfl rfl) rfl ?_
  refine JL.val (yl_mul rfl rfl) rfl ?_
  refine JL.val (yl_fieldAt (a := some _) Go.Proofs.Try.underlying42 rfl i2 i2n rfl rfl) rfl ?_
  refine JL.val (yl_load1 Go.Proofs.Try.underlying2 rfl rfl (fun w hC => rd_box hC 1 rfl) rfl) rfl ?_
  refine JL.val (yl_fieldAt (a := some _) Go.Proofs.Try.underlying42 rfl i2 i2n rfl rfl) rfl ?_
  refine JL.val (yl_load1 Go.Proofs.Try.underlying2 rfl rfl (fun w hC => rd_box hC 0 rfl) rfl) rfl ?_
  refine JL.val (yl_sub rfl rfl) rfl ?_
  refine JL.val (yl_fieldAt (a := some _) Go.Proofs.Try.underlying42 rfl i2 i2n rfl rfl) rfl ?_
  refine JL.val (yl_load1 Go.Proofs.Try.underlying2 rfl rfl (fun w hC => rd_box hC 2 rfl) rfl) rfl ?_
  refine JL.val (yl_fieldAt (a := some _) Go.Proofs.Try.underlying42 rfl i2 i2n rfl rfl) rfl ?_
  refine JL.val (yl_load1 Go.Proofs.Try.underlying2 rfl rfl (fun w hC => rd_box hC 0 rfl) rfl) rfl ?_
  refine JL.val (yl_sub rfl rfl) rfl ?_
  refine JL.val (yl_mul rfl rfl) rfl ?_
  refine JL.val (yl_sub rfl rfl) rfl ?_
  refine JL.val (yl_assign rfl) rfl ?_
  refine JL.nil ?_
  refine JE.weak (env' := [(6, .int .i64 (w64 ((w64 ((w64 (q1.X - q0.X)) * (w64 (q2.Y - q0.Y)))) - (w64 ((w64 (q1.Y - q0.Y)) * (w64 (q2.X - q0.X)))))))]) (es' := []) [] ?_ ⟨rfl, trivial⟩ (by decide) rfl
  refine JE.code ?_
  refine JX.ret ?_
  obtain rfl := Option.some.inj hres
  refine JE.ret (rs := [.tmp 6]) (vs := [.int .i64 (w64 ((w64 ((w64 (q1.X - q0.X)) * (w64 (q2.Y - q0.Y)))) - (w64 ((w64 (q1.Y - q0.Y)) * (w64 (q2.X - q0.X))))))]) rfl ⟨rfl, trivial⟩ ?_
  exact fun w' hb hs => ⟨_, _, ⟨rfl, rfl⟩, rfl, hb, hs.sel [] _ (by decide) rfl⟩

/- impl.IsConvex -/
def sh19_2 (q0 : List SPoint) (x3 : Int) (x5 : SPoint) (x9 : SPoint) : Int → Option (Int ⊕ (Unit ⊕ Bool))
  | x12 => bif decide (x12 < (q0.length : Int)) then (Option.bind (getI q0 x12) fun x13 => Option.bind (sh105 x5 x9 x13) fun x16 => bif decide ((w64 (x3 * x16)) < 0) then (some (.inr (.inr false))) else (some (.inl (w64 (x12 + 1))))) else (some (.inr (.inl ())))
def sh19_1 (q0 : List SPoint) (x3 : Int) : Int → Option (Int ⊕ (Unit ⊕ Bool))
  | x4 => bif decide (x4 < (q0.length : Int)) then (Option.bind (getI q0 x4) fun x5 => Option.bind (nzI (q0.length : Int)) fun x8 => Option.bind (getI q0 ((w64 (x4 + 1)).tmod (q0.length : Int))) fun x9 => Option.bind (iter (sh19_2 q0 x3 x5 x9) 0) fun y2 => elimS y2 (fun r => some (.inr (.inr r))) fun b2 => (some (.inl (w64 (x4 + 1))))) else (some (.inr (.inl ())))
def sh19 (q0 : List SPoint) : Option (Bool) := Option.bind (sh102 q0) fun x1 => bif !x1 then (some false) else (Option.bind (sh103 q0) fun x2 => Option.bind (sh104 x2 0) fun x3 => bif x3 == 0 then (some false) else (Option.bind (iter (sh19_1 q0 x3) 0) fun y1 => elimS y1 (fun r => some r) fun b1 => (some true)))
def T19 (r : Bool) (v : Value) (rs : List Own) : Prop := v = rets [.bool r] ∧ rs = []
set_option maxRecDepth 100000 in
theorem c19 {w : World} {q0 : List SPoint} {a_0 : Option Addr} {n_0 c_0 : Nat} (g_0 : Rd w a_0 (eSPoint.fl q0)) (l_0 : q0.length = n_0) (k_0 : n_0 ≤ c_0) {r : Bool} (hres : sh19 q0 = some r) : Calls Go.Proofs.Try.prog 19 [.slice a_0 n_0 c_0].toArray w (Ret w (T19 r)) := by
  subst l_0
  unfold sh19 at hres
  refine calls_of (n := 47) (M := []) (es := []) Go.Proofs.Try.func19 rfl rfl rfl (Sep.nil _ _ _) ?_
  refine JX.seq ?_
  refine JX.region ?_
  refine JL.val (yl_assign rfl) rfl ?_
  refine JL.nil ?_
  refine JE.code ?_
  refine JX.seq ?_
  refine JX.seq ?_
  refine JX.region ?_
  refine JL.val (yl_move rfl) rfl ?_
  obtain ⟨x1, hx1, hres⟩ := bind_some hres
  refine JL.eff (ef_call (T := T102 x1) Go.Proofs.Try.func102 rfl (by kernel_rfl) rfl (fun w hC => c102 (rd_arg g_0 hC) rfl k_0 hx1)) rfl ?_
  rintro _ _ ⟨_, ⟨rfl, rfl⟩, rfl⟩
  refine JL.val (yl_not rfl) rfl ?_
  refine JL.nil ?_
  refine JE.code ?_
  rcases cond_some hres with ⟨hb, hres⟩ | ⟨hb, hres⟩
  · refine JX.condT rfl hb ?_
    refine JX.seq ?_
    refine JX.region ?_
    refine JL.val (yl_assign rfl) rfl ?_
    refine JL.nil ?_
    refine JE.code ?_
    refine JX.ret ?_
    obtain rfl := Option.some.inj hres
    refine JE.ret (rs := [.tmp 2]) (vs := [.bool false]) rfl ⟨rfl, trivial⟩ ?_
    exact fun w' hb hs => ⟨_, _, ⟨rfl, rfl⟩, rfl, hb, hs.sel [] _ (by decide) rfl⟩
  · refine JX.condF rfl hb ?_
    refine JX.skip ?_
    refine JE.code ?_
    refine JX.seq ?_
    refine JX.region ?_
    refine JL.val (yl_move rfl) rfl ?_
    obtain ⟨x2, hx2, hres⟩ := bind_some hres
    refine JL.eff (ef_call (T := T103 x2) Go.Proofs.Try.func103 rfl (by kernel_rfl) rfl (fun w hC => c103 (rd_arg g_0 hC) rfl k_0 hx2)) rfl ?_
    rintro _ _ ⟨_, ⟨rfl, rfl⟩, rfl⟩
    obtain ⟨x3, hx3, hres⟩ := bind_some hres
    refine JL.eff (ef_call (T := T104 x3) Go.Proofs.Try.func104 rfl (by kernel_rfl) rfl (fun w hC => c104  hx3)) rfl ?_
    rintro _ _ ⟨_, ⟨rfl, rfl⟩, rfl⟩
    refine JL.val (yl_assign rfl) rfl ?_
    refine JL.nil ?_
    refine JE.weak (env' := [(0, .slice a_0 q0.length c_0), (3, .int .i64 x3)]) (es' := []) [] ?_ ⟨rfl, rfl, trivial⟩ (by decide) rfl
    refine JE.code ?_
    refine JX.seq ?_
    refine JX.seq ?_
    refine JX.region ?_
    refine JL.val (yl_move rfl) rfl ?_
    refine JL.val (yl_eql rfl rfl) rfl ?_
    refine JL.nil ?_
    refine JE.code ?_
    rcases cond_some hres with ⟨hb, hres⟩ | ⟨hb, hres⟩
    · refine JX.condT rfl hb ?_
      refine JX.seq ?_
      refine JX.region ?_
      refine JL.val (yl_assign rfl) rfl ?_
      refine JL.nil ?_
      refine JE.code ?_
      refine JX.ret ?_
      obtain rfl := Option.some.inj hres
      refine JE.ret (rs := [.tmp 2]) (vs := [.bool false]) rfl ⟨rfl, trivial⟩ ?_
      exact fun w' hb hs => ⟨_, _, ⟨rfl, rfl⟩, rfl, hb, hs.sel [] _ (by decide) rfl⟩
    · refine JX.condF rfl hb ?_
      refine JX.skip ?_
      refine JE.code ?_
      refine JX.seq ?_
      refine JX.seq ?_
      refine JX.region ?_
      refine JL.val (yl_move rfl) rfl ?_
      refine JL.val (yl_len_slice Go.Proofs.Try.underlying34 rfl) rfl ?_
      refine JL.val (yl_move rfl) rfl ?_
      refine JL.nil ?_
      refine JE.code ?_
      refine JX.block ?_
      obtain ⟨y1, hy1, hresO1⟩ := bind_some hres
      refine JX.loop (I := fun (s1 : Int) aa ww => St w [] 47 [(0, .slice a_0 q0.length c_0), (3, .int .i64 x3), (17, .slice a_0 q0.length c_0), (18, .int .i64 (q0.length : Int)), (19, .int .i64 s1)] [] aa ww) (sh19_1 q0 x3) hy1 (fun a w h => h.weak ⟨rfl, rfl, rfl, rfl, rfl, trivial⟩ [] (by decide) rfl) ?_
      rintro x4 o1 hres hox1 aa ww hS
      refine (?_ : JX Go.Proofs.Try.prog w [] 47 _ _ [(0, .slice a_0 q0.length c_0), (3, .int .i64 x3), (17, .slice a_0 q0.length c_0), (18, .int .i64 (q0.length : Int)), (19, .int .i64 x4)] [] _) aa ww hS
      clear hS
      unfold sh19_1 at hres
      refine JX.seq ?_
      refine JX.region ?_
      refine JL.val (yl_lss rfl rfl) rfl ?_
      refine JL.nil ?_
      refine JE.code ?_
      refine JX.seq ?_
      rcases cond_some hres with ⟨hb, hres⟩ | ⟨hb, hres⟩
      · refine JX.condT rfl hb ?_
        refine JX.skip ?_
        refine JE.code ?_
        refine JX.seq ?_
        refine JX.block ?_
        refine JX.seq ?_
        refine JX.region ?_
        refine JL.val (yl_move rfl) rfl ?_
        obtain ⟨x5, hx5, hres⟩ := bind_some hres
        refine JL.val (yl_idxT Go.Proofs.Try.underlying34 i42 i42s rfl rfl hx5 rfl (fun w hC => rd_arg g_0 hC)) rfl ?_
        refine JL.val (yl_loadTn Go.Proofs.Try.underlying42 rfl i42 i42s rfl hx5 (fun w hC => rd_arg g_0 hC)) rfl ?_
        refine JL.eff (ef_alloc i42 i42z rfl) rfl ?_
        rintro _ _ ⟨g6, rfl, rfl⟩
        refine JL.val (yl_assign rfl) rfl ?_
        refine JL.eff (ef_store_box (i := 0) (v := .agg #[.int .i64 x5.X, .int .i64 x5.Y]) i42 rfl rfl rfl (i42s).symm (Nat.le_of_ble_eq_true rfl) (by simp [Value.cells, Value.oneCell'])) rfl ?_
        rintro _ _ rfl
        refine JL.nil ?_
        refine JE.weak (env' := [(0, .slice a_0 q0.length c_0), (3, .int .i64 x3), (4, .int .i64 x4), (5, ptrAt (some ⟨g6, 0, none⟩) 0), (17, .slice a_0 q0.length c_0), (18, .int .i64 (q0.length : Int)), (19, .int .i64 x4)]) (es' := [boxO 42 g6 [.int .i64 x5.X, .int .i64 x5.Y]]) [0] ?_ ⟨rfl, rfl, rfl, rfl, rfl, rfl, rfl, trivial⟩ (by decide) rfl
        refine JE.code ?_
        refine JX.seq ?_
        refine JX.region ?_
        refine JL.val (yl_move rfl) rfl ?_
        refine JL.val (yl_move rfl) rfl ?_
        refine JL.val (yl_add rfl rfl) rfl ?_
        refine JL.val (yl_move rfl) rfl ?_
        refine JL.val (yl_len_slice Go.Proofs.Try.underlying34 rfl) rfl ?_
        obtain ⟨x8, hx8, hres⟩ := bind_some hres
        refine JL.val (yl_rem rfl rfl (nzI_some hx8)) rfl ?_
        obtain ⟨x9, hx9, hres⟩ := bind_some hres
        refine JL.val (yl_idxT Go.Proofs.Try.underlying34 i42 i42s rfl rfl hx9 rfl (fun w hC => rd_arg g_0 hC)) rfl ?_
        refine JL.val (yl_loadTn Go.Proofs.Try.underlying42 rfl i42 i42s rfl hx9 (fun w hC => rd_arg g_0 hC)) rfl ?_
        refine JL.eff (ef_alloc i42 i42z rfl) rfl ?_
        rintro _ _ ⟨g10, rfl, rfl⟩
        refine JL.eff (ef_store_box (i := 1) (v := .agg #[.int .i64 x9.X, .int .i64 x9.Y]) i42 rfl rfl rfl (i42s).symm (Nat.le_of_ble_eq_true rfl) (by simp [Value.cells, Value.oneCell'])) rfl ?_
        rintro _ _ rfl
        refine JL.nil ?_
        refine JE.weak (env' := [(0, .slice a_0 q0.length c_0), (3, .int .i64 x3), (5, ptrAt (some ⟨g6, 0, none⟩) 0), (6, ptrAt (some ⟨g10, 0, none⟩) 0), (17, .slice a_0 q0.length c_0), (18, .int .i64 (q0.length : Int)), (19, .int .i64 x4)]) (es' := [boxO 42 g6 [.int .i64 x5.X, .int .i64 x5.Y], boxO 42 g10 [.int .i64 x9.X, .int .i64 x9.Y]]) [0, 1] ?_ ⟨rfl, rfl, rfl, rfl, rfl, rfl, rfl, trivial⟩ (by decide) rfl
        refine JE.code ?_
        refine JX.seq ?_
        refine JX.region ?_
        refine JL.val (yl_move rfl) rfl ?_
        refine JL.val (yl_len_slice Go.Proofs.Try.underlying34 rfl) rfl ?_
        refine JL.val (yl_move rfl) rfl ?_
        refine JL.nil ?_
        refine JE.code ?_
        refine JX.block ?_
        obtain ⟨y2, hy2, hresO2⟩ := bind_some hres
        refine JX.loop (I := fun (s2 : Int) aa ww => St w [] 47 [(0, .slice a_0 q0.length c_0), (3, .int .i64 x3), (5, ptrAt (some ⟨g6, 0, none⟩) 0), (6, ptrAt (some ⟨g10, 0, none⟩) 0), (17, .slice a_0 q0.length c_0), (18, .int .i64 (q0.length : Int)), (19, .int .i64 x4), (32, .slice a_0 q0.length c_0), (33, .int .i64 (q0.length : Int)), (34, .int .i64 s2)] [boxO 42 g6 [.int .i64 x5.X, .int .i64 x5.Y], boxO 42 g10 [.int .i64 x9.X, .int .i64 x9.Y]] aa ww) (sh19_2 q0 x3 x5 x9) hy2 (fun a w h => h.weak ⟨rfl, rfl, rfl, rfl, rfl, rfl, rfl, rfl, rfl, rfl, trivial⟩ [0, 1] (by decide) rfl) ?_
        rintro x12 o2 hres hox2 aa ww hS
        refine (?_ : JX Go.Proofs.Try.prog w [] 47 _ _ [(0, .slice a_0 q0.length c_0), (3, .int .i64 x3), (5, ptrAt (some ⟨g6, 0, none⟩) 0), (6, ptrAt (some ⟨g10, 0, none⟩) 0), (17, .slice a_0 q0.length c_0), (18, .int .i64 (q0.length : Int)), (19, .int .i64 x4), (32, .slice a_0 q0.length c_0), (33, .int .i64 (q0.length : Int)), (34, .int .i64 x12)] [boxO 42 g6 [.int .i64 x5.X, .int .i64 x5.Y], boxO 42 g10 [.int .i64 x9.X, .int .i64 x9.Y]] _) aa ww hS
        clear hS
        unfold sh19_2 at hres
        refine JX.seq ?_
        refine JX.region ?_
        refine JL.val (yl_lss rfl rfl) rfl ?_
        refine JL.nil ?_
        refine JE.code ?_
        refine JX.seq ?_
        rcases cond_some hres with ⟨hb, hres⟩ | ⟨hb, hres⟩
        · refine JX.condT rfl hb ?_
          refine JX.skip ?_
          refine JE.code ?_
          refine JX.seq ?_
          refine JX.block ?_
          refine JX.seq ?_
          refine JX.region ?_
          obtain ⟨x13, hx13, hres⟩ := bind_some hres
          refine JL.val (yl_idxT Go.Proofs.Try.underlying34 i42 i42s rfl rfl hx13 rfl (fun w hC => rd_arg g_0 hC)) rfl ?_
          refine JL.val (yl_loadTn Go.Proofs.Try.underlying42 rfl i42 i42s rfl hx13 (fun w hC => rd_arg g_0 hC)) rfl ?_
          refine JL.eff (ef_alloc i42 i42z rfl) rfl ?_
          rintro _ _ ⟨g14, rfl, rfl⟩
          refine JL.eff (ef_store_box (i := 2) (v := .agg #[.int .i64 x13.X, .int .i64 x13.Y]) i42 rfl rfl rfl (i42s).symm (Nat.le_of_ble_eq_true rfl) (by simp [Value.cells, Value.oneCell'])) rfl ?_
          rintro _ _ rfl
          refine JL.nil ?_
          refine JE.weak (env' := [(0, .slice a_0 q0.length c_0), (3, .int .i64 x3), (5, ptrAt (some ⟨g6, 0, none⟩) 0), (6, ptrAt (some ⟨g10, 0, none⟩) 0), (8, ptrAt (some ⟨g14, 0, none⟩) 0), (17, .slice a_0 q0.length c_0), (18, .int .i64 (q0.length : Int)), (19, .int .i64 x4), (32, .slice a_0 q0.length c_0), (33, .int .i64 (q0.length : Int)), (34, .int .i64 x12)]) (es' := [boxO 42 g6 [.int .i64 x5.X, .int .i64 x5.Y], boxO 42 g10 [.int .i64 x9.X, .int .i64 x9.Y], boxO 42 g14 [.int .i64 x13.X, .int .i64 x13.Y]]) [0, 1, 2] ?_ ⟨rfl, rfl, rfl, rfl, rfl, rfl, rfl, rfl, rfl, rfl, rfl, trivial⟩ (by decide) rfl
          refine JE.code ?_
          refine JX.seq ?_
          refine JX.region ?_
          refine JL.val (yl_move rfl) rfl ?_
          refine JL.val (yl_loadn Go.Proofs.Try.underlying42 rfl i42 rfl (fun w hC => rd_box hC 0 rfl) rfl (i42s).symm i42p) rfl ?_
          refine JL.val (yl_loadn Go.Proofs.Try.underlying42 rfl i42 rfl (fun w hC => rd_box hC 1 rfl) rfl (i42s).symm i42p) rfl ?_
          refine JL.val (yl_loadn Go.Proofs.Try.underlying42 rfl i42 rfl (fun w hC => rd_box hC 2 rfl) rfl (i42s).symm i42p) rfl ?_
          obtain ⟨x16, hx16, hres⟩ := bind_some hres
          refine JL.eff (ef_call (vs := [.agg #[.int .i64 x5.X, .int .i64 x5.Y], .agg #[.int .i64 x9.X, .int .i64 x9.Y], .agg #[.int .i64 x13.X, .int .i64 x13.Y]]) (T := T105 x16) Go.Proofs.Try.func105 rfl (by kernel_rfl) rfl (fun w hC => c105 (q0 := x5) (q1 := x9) (q2 := x13) hx16)) rfl ?_
          rintro _ _ ⟨_, ⟨rfl, rfl⟩, rfl⟩
          refine JL.val (yl_mul rfl rfl) rfl ?_
          refine JL.val (yl_lss rfl rfl) rfl ?_
          refine JL.nil ?_
          refine JE.weak (env' := [(0, .slice a_0 q0.length c_0), (3, .int .i64 x3), (5, ptrAt (some ⟨g6, 0, none⟩) 0), (6, ptrAt (some ⟨g10, 0, none⟩) 0), (17, .slice a_0 q0.length c_0), (18, .int .i64 (q0.length : Int)), (19, .int .i64 x4), (32, .slice a_0 q0.length c_0), (33, .int .i64 (q0.length : Int)), (34, .int .i64 x12), (44, .bool (decide ((w64 (x3 * x16)) < 0)))]) (es' := [boxO 42 g6 [.int .i64 x5.X, .int .i64 x5.Y], boxO 42 g10 [.int .i64 x9.X, .int .i64 x9.Y]]) [0, 1] ?_ ⟨rfl, rfl, rfl, rfl, rfl, rfl, rfl, rfl, rfl, rfl, rfl, trivial⟩ (by decide) rfl
          refine JE.code ?_
          rcases cond_some hres with ⟨hb, hres⟩ | ⟨hb, hres⟩
          · refine JX.condT rfl hb ?_
            refine JX.seq ?_
            refine JX.region ?_
            refine JL.val (yl_assign rfl) rfl ?_
            refine JL.nil ?_
            refine JE.weak (env' := [(2, .bool false)]) (es' := []) [] ?_ ⟨rfl, trivial⟩ (by decide) rfl
            refine JE.code ?_
            refine JX.ret ?_
            refine JE.qbr ?_
            refine JE.qbr ?_
            refine JE.qbr ?_
            refine JE.qbr ?_
            have hres := elimS_inr hresO2 (hox2 _ (Option.some.inj hres).symm)
            have hres := elimS_inr hresO1 (hox1 _ (Option.some.inj hres).symm)
            obtain rfl := Option.some.inj hres
            refine JE.ret (rs := [.tmp 2]) (vs := [.bool false]) rfl ⟨rfl, trivial⟩ ?_
            exact fun w' hb hs => ⟨_, _, ⟨rfl, rfl⟩, rfl, hb, hs.sel [] _ (by decide) rfl⟩
          · refine JX.condF rfl hb ?_
            refine JX.skip ?_
            refine JE.code ?_
            refine JX.region ?_
            refine JL.val (yl_add rfl rfl) rfl ?_
            refine JL.val (yl_move rfl) rfl ?_
            refine JL.nil ?_
            refine JE.cont hres ?_
            exact fun a w h => h.weak ⟨rfl, rfl, rfl, rfl, rfl, rfl, rfl, rfl, rfl, rfl, trivial⟩ [0, 1] (by decide) rfl
        · refine JX.condF rfl hb ?_
          refine JX.exit ?_
          refine JE.qb rfl ?_
          obtain ⟨b2, hb2⟩ : ∃ b : Unit, b = () := ⟨_, rfl⟩
          have hy2 : Sum.inl b2 = y2 := by rw [hb2]; exact hox2 _ (Option.some.inj hres).symm
          have hres := elimS_inl hresO2 hy2
          refine JE.weak (env' := [(0, .slice a_0 q0.length c_0), (3, .int .i64 x3), (17, .slice a_0 q0.length c_0), (18, .int .i64 (q0.length : Int)), (19, .int .i64 x4)]) (es' := []) [] ?_ ⟨(by subst hb2; rfl), (by subst hb2; rfl), (by subst hb2; rfl), (by subst hb2; rfl), (by subst hb2; rfl), trivial⟩ (by decide) (by subst hb2; rfl)
          refine JE.code ?_
          refine JX.region ?_
          refine JL.val (yl_add rfl rfl) rfl ?_
          refine JL.val (yl_move rfl) rfl ?_
          refine JL.nil ?_
          refine JE.cont hres ?_
          exact fun a w h => h.weak ⟨rfl, rfl, rfl, rfl, rfl, trivial⟩ [] (by decide) rfl
      · refine JX.condF rfl hb ?_
        refine JX.exit ?_
        refine JE.qb rfl ?_
        obtain ⟨b1, hb1⟩ : ∃ b : Unit, b = () := ⟨_, rfl⟩
        have hy1 : Sum.inl b1 = y1 := by rw [hb1]; exact hox1 _ (Option.some.inj hres).symm
        have hres := elimS_inl hresO1 hy1
        refine JE.weak (env' := []) (es' := []) [] ?_ trivial (by decide) (by subst hb1; rfl)
        refine JE.code ?_
        refine JX.seq ?_
        refine JX.region ?_
        refine JL.val (yl_assign rfl) rfl ?_
        refine JL.nil ?_
        refine JE.code ?_
        refine JX.ret ?_
        obtain rfl := Option.some.inj hres
        refine JE.ret (rs := [.tmp 2]) (vs := [.bool true]) rfl ⟨rfl, trivial⟩ ?_
        exact fun w' hb hs => ⟨_, _, ⟨rfl, rfl⟩, rfl, hb, hs.sel [] _ (by decide) rfl⟩

/- impl.InPolygon -/
def sh20_1 (q0 : List SPoint) (q1 : SPoint) : (Int × Int) → Option ((Int × Int) ⊕ (Int ⊕ (Int × Int)))
  | (x5, x6) => bif decide (x6 < (q0.length : Int)) then (Option.bind (getI q0 x6) fun x7 => Option.bind (nzI (q0.length : Int)) fun x10 => Option.bind (getI q0 ((w64 (x6 + 1)).tmod (q0.length : Int))) fun x11 => Option.bind (sh105 x7 x11 q1) fun x14 => Option.bind (bif x14 == 0 then (Option.bind (sh107 q1.X (if x11.X < x7.X then x11.X else x7.X) (if x7.X < x11.X then x11.X else x7.X)) fun x16 => some x16) else (some false)) fun cb15 => (Option.bind (bif cb15 then (Option.bind (sh107 q1.Y (if x11.Y < x7.Y then x11.Y else x7.Y) (if x7.Y < x11.Y then x11.Y else x7.Y)) fun x18 => some x18) else (some false)) fun cb17 => (bif cb17 then (some (.inr (.inr (1, 0)))) else (Option.bind (bif decide (x11.Y < x7.Y) then (some (x11, x7)) else (some (x7, x11))) fun j19 => (Option.bind (bif (decide (j19.1.Y ≤ q1.Y)) && (decide (q1.Y < j19.2.Y)) then (Option.bind (sh105 j19.1 j19.2 q1) fun x21 => some (decide (0 < x21))) else (some false)) fun cb20 => (Option.bind (bif cb20 then (some (w64 (2 - x5))) else (some x5)) fun j22 => (some (.inl (j22, w64 (x6 + 1)))))))))) else (some (.inr (.inl x5)))
def sh20 (q0 : List SPoint) (q1 : SPoint) : Option (Int × Int) := Option.bind (sh102 q0) fun x3 => bif !x3 then (some (0, 1)) else (Option.bind (sh106 q1) fun x4 => bif !x4 then (some (0, 2)) else (Option.bind (iter (sh20_1 q0 q1) (0, 0)) fun y1 => elimS y1 (fun r => some r) fun b1 => (some (b1, 0))))
def T20 (r : Int × Int) (v : Value) (rs : List Own) : Prop := v = rets [.int .i64 r.1, .int .i64 r.2] ∧ rs = []
set_option maxRecDepth 100000 in
set_option maxHeartbeats 1000000 in
theorem c20 {w : World} {q0 : List SPoint} {a_0 : Option Addr} {n_0 c_0 : Nat} (g_0 : Rd w a_0 (eSPoint.fl q0)) (l_0 : q0.length = n_0) (k_0 : n_0 ≤ c_0) {q1 : SPoint} {r : Int × Int} (hres : sh20 q0 q1 = some r) : Calls Go.Proofs.Try.prog 20 [.slice a_0 n_0 c_0, .agg #[.int .i64 q1.X, .int .i64 q1.Y]].toArray w (Ret w (T20 r)) := by
  subst l_0
  unfold sh20 at hres
  refine calls_of (n := 96) (M := []) (es := []) Go.Proofs.Try.func20 rfl rfl rfl (Sep.nil _ _ _) ?_
  refine JX.seq ?_
  refine JX.region ?_
  refine JL.eff (ef_box rfl rfl) rfl ?_
  rintro _ _ ⟨g1, rfl, rfl⟩
  refine JL.val (yl_assign rfl) rfl ?_
  refine JL.val (yl_assign rfl) rfl ?_
  refine JL.nil ?_
  refine JE.code ?_
  refine JX.seq ?_
  refine JX.seq ?_
  refine JX.region ?_
  refine JL.val (yl_move rfl) rfl ?_
  obtain ⟨x3, hx3, hres⟩ := bind_some hres
  refine JL.eff (ef_call (T := T102 x3) Go.Proofs.Try.func102 rfl (by kernel_rfl) rfl (fun w hC => c102 (rd_arg g_0 hC) rfl k_0 hx3)) rfl ?_
  rintro _ _ ⟨_, ⟨rfl, rfl⟩, rfl⟩
  refine JL.val (yl_not rfl) rfl ?_
  refine JL.nil ?_
  refine JE.code ?_
  rcases cond_some hres with ⟨hb, hres⟩ | ⟨hb, hres⟩
  · refine JX.condT rfl hb ?_
    refine JX.seq ?_
    refine JX.region ?_
    refine JL.val (yl_assign rfl) rfl ?_
    refine JL.val (yl_assign rfl) rfl ?_
    refine JL.nil ?_
    refine JE.weak (env' := [(4, .int .i64 0), (5, .int .i64 1)]) (es' := []) [] ?_ ⟨rfl, rfl, trivial⟩ (by decide) rfl
    refine JE.code ?_
    refine JX.ret ?_
    obtain rfl := Option.some.inj hres
    refine JE.ret (rs := [.tmp 4, .tmp 5]) (vs := [.int .i64 0, .int .i64 1]) rfl ⟨rfl, rfl, trivial⟩ ?_
    exact fun w' hb hs => ⟨_, _, ⟨rfl, rfl⟩, rfl, hb, hs.sel [] _ (by decide) rfl⟩
  · refine JX.condF rfl hb ?_
    refine JX.skip ?_
    refine JE.code ?_
    refine JX.seq ?_
    refine JX.seq ?_
    refine JX.region ?_
    refine JL.val (yl_loadn Go.Proofs.Try.underlying42 rfl i42 rfl (fun w hC => rd_box hC 0 rfl) rfl (i42s).symm i42p) rfl ?_
    obtain ⟨x4, hx4, hres⟩ := bind_some hres
    refine JL.eff (ef_call (vs := [.agg #[.int .i64 q1.X, .int .i64 q1.Y]]) (T := T106 x4) Go.Proofs.Try.func106 rfl (by kernel_rfl) rfl (fun w hC => c106 (q0 := q1) hx4)) rfl ?_
    rintro _ _ ⟨_, ⟨rfl, rfl⟩, rfl⟩
    refine JL.val (yl_not rfl) rfl ?_
    refine JL.nil ?_
    refine JE.code ?_
    rcases cond_some hres with ⟨hb, hres⟩ | ⟨hb, hres⟩
    · refine JX.condT rfl hb ?_
      refine JX.seq ?_
      refine JX.region ?_
      refine JL.val (yl_assign rfl) rfl ?_
      refine JL.val (yl_assign rfl) rfl ?_
      refine JL.nil ?_
      refine JE.weak (env' := [(4, .int .i64 0), (5, .int .i64 2)]) (es' := []) [] ?_ ⟨rfl, rfl, trivial⟩ (by decide) rfl
      refine JE.code ?_
      refine JX.ret ?_
      obtain rfl := Option.some.inj hres
      refine JE.ret (rs := [.tmp 4, .tmp 5]) (vs := [.int .i64 0, .int .i64 2]) rfl ⟨rfl, rfl, trivial⟩ ?_
      exact fun w' hb hs => ⟨_, _, ⟨rfl, rfl⟩, rfl, hb, hs.sel [] _ (by decide) rfl⟩
    · refine JX.condF rfl hb ?_
      refine JX.skip ?_
      refine JE.code ?_
      refine JX.seq ?_
      refine JX.region ?_
      refine JL.val (yl_assign rfl) rfl ?_
      refine JL.nil ?_
      refine JE.code ?_
      refine JX.seq ?_
      refine JX.seq ?_
      refine JX.region ?_
      refine JL.val (yl_move rfl) rfl ?_
      refine JL.val (yl_len_slice Go.Proofs.Try.underlying34 rfl) rfl ?_
      refine JL.val (yl_move rfl) rfl ?_
      refine JL.nil ?_
      refine JE.code ?_
      refine JX.block ?_
      obtain ⟨y1, hy1, hresO1⟩ := bind_some hres
      refine JX.loop (I := fun (s1 : Int × Int) aa ww => St w [] 96 [(0, .slice a_0 q0.length c_0), (3, ptrAt (some ⟨g1, 0, none⟩) 0), (6, .int .i64 s1.1), (16, .slice a_0 q0.length c_0), (17, .int .i64 (q0.length : Int)), (18, .int .i64 s1.2)] [boxO 42 g1 [.int .i64 q1.X, .int .i64 q1.Y]] aa ww) (sh20_1 q0 q1) hy1 (fun a w h => h.weak ⟨rfl, rfl, rfl, rfl, rfl, rfl, trivial⟩ [0] (by decide) rfl) ?_
      rintro ⟨x5, x6⟩ o1 hres hox1 aa ww hS
      refine (?_ : JX Go.Proofs.Try.prog w [] 96 _ _ [(0, .slice a_0 q0.length c_0), (3, ptrAt (some ⟨g1, 0, none⟩) 0), (6, .int .i64 x5), (16, .slice a_0 q0.length c_0), (17, .int .i64 (q0.length : Int)), (18, .int .i64 x6)] [boxO 42 g1 [.int .i64 q1.X, .int .i64 q1.Y]] _) aa ww hS
      clear hS
      simp only [sh20_1] at hres
      refine JX.seq ?_
      refine JX.region ?_
      refine JL.val (yl_lss rfl rfl) rfl ?_
      refine JL.nil ?_
      refine JE.code ?_
      refine JX.seq ?_
      rcases cond_some hres with ⟨hb, hres⟩ | ⟨hb, hres⟩
      · refine JX.condT rfl hb ?_
        refine JX.skip ?_
        refine JE.code ?_
        refine JX.seq ?_
        refine JX.block ?_
        refine JX.seq ?_
        refine JX.region ?_
        refine JL.val (yl_move rfl) rfl ?_
        obtain ⟨x7, hx7, hres⟩ := bind_some hres
        refine JL.val (yl_idxT Go.Proofs.Try.underlying34 i42 i42s rfl rfl hx7 rfl (fun w hC => rd_arg g_0 hC)) rfl ?_
        refine JL.val (yl_loadTn Go.Proofs.Try.underlying42 rfl i42 i42s rfl hx7 (fun w hC => rd_arg g_0 hC)) rfl ?_
        refine JL.eff (ef_alloc i42 i42z rfl) rfl ?_
        rintro _ _ ⟨g8, rfl, rfl⟩
        refine JL.val (yl_assign rfl) rfl ?_
        refine JL.eff (ef_store_box (i := 1) (v := .agg #[.int .i64 x7.X, .int .i64 x7.Y]) i42 rfl rfl rfl (i42s).symm (Nat.le_of_ble_eq_true rfl) (by simp [Value.cells, Value.oneCell'])) rfl ?_
        rintro _ _ rfl
        refine JL.nil ?_
        refine JE.weak (env' := [(0, .slice a_0 q0.length c_0), (3, ptrAt (some ⟨g1, 0, none⟩) 0), (6, .int .i64 x5), (7, .int .i64 x6), (8, ptrAt (some ⟨g8, 0, none⟩) 0), (16, .slice a_0 q0.length c_0), (17, .int .i64 (q0.length : Int)), (18, .int .i64 x6)]) (es' := [boxO 42 g1 [.int .i64 q1.X, .int .i64 q1.Y], boxO 42 g8 [.int .i64 x7.X, .int .i64 x7.Y]]) [0, 1] ?_ ⟨rfl, rfl, rfl, rfl, rfl, rfl, rfl, rfl, trivial⟩ (by decide) rfl
        refine JE.code ?_
        refine JX.seq ?_
        refine JX.region ?_
        refine JL.val (yl_move rfl) rfl ?_
        refine JL.val (yl_move rfl) rfl ?_
        refine JL.val (yl_add rfl rfl) rfl ?_
        refine JL.val (yl_move rfl) rfl ?_
        refine JL.val (yl_len_slice Go.Proofs.Try.underlying34 rfl) rfl ?_
        obtain ⟨x10, hx10, hres⟩ := bind_some hres
        refine JL.val (yl_rem rfl rfl (nzI_some hx10)) rfl ?_
        obtain ⟨x11, hx11, hres⟩ := bind_some hres
        refine JL.val (yl_idxT Go.Proofs.Try.underlying34 i42 i42s rfl rfl hx11 rfl (fun w hC => rd_arg g_0 hC)) rfl ?_
        refine JL.val (yl_loadTn Go.Proofs.Try.underlying42 rfl i42 i42s rfl hx11 (fun w hC => rd_arg g_0 hC)) rfl ?_
        refine JL.eff (ef_alloc i42 i42z rfl) rfl ?_
        rintro _ _ ⟨g12, rfl, rfl⟩
        refine JL.eff (ef_store_box (i := 2) (v := .agg #[.int .i64 x11.X, .int .i64 x11.Y]) i42 rfl rfl rfl (i42s).symm (Nat.le_of_ble_eq_true rfl) (by simp [Value.cells, Value.oneCell'])) rfl ?_
        rintro _ _ rfl
        refine JL.nil ?_
        refine JE.weak (env' := [(0, .slice a_0 q0.length c_0), (3, ptrAt (some ⟨g1, 0, none⟩) 0), (6, .int .i64 x5), (8, ptrAt (some ⟨g8, 0, none⟩) 0), (9, ptrAt (some ⟨g12, 0, none⟩) 0), (16, .slice a_0 q0.length c_0), (17, .int .i64 (q0.length : Int)), (18, .int .i64 x6)]) (es' := [boxO 42 g1 [.int .i64 q1.X, .int .i64 q1.Y], boxO 42 g8 [.int .i64 x7.X, .int .i64 x7.Y], boxO 42 g12 [.int .i64 x11.X, .int .i64 x11.Y]]) [0, 1, 2] ?_ ⟨rfl, rfl, rfl, rfl, rfl, rfl, rfl, rfl, trivial⟩ (by decide) rfl
        refine JE.code ?_
        refine JX.seq ?_
        refine JX.seq ?_
        refine JX.region ?_
        refine JL.val (yl_loadn Go.Proofs.Try.underlying42 rfl i42 rfl (fun w hC => rd_box hC 1 rfl) rfl (i42s).symm i42p) rfl ?_
        refine JL.val (yl_loadn Go.Proofs.Try.underlying42 rfl i42 rfl (fun w hC => rd_box hC 2 rfl) rfl (i42s).symm i42p) rfl ?_
        refine JL.val (yl_loadn Go.Proofs.Try.underlying42 rfl i42 rfl (fun w hC => rd_box hC 0 rfl) rfl (i42s).symm i42p) rfl ?_
        obtain ⟨x14, hx14, hres⟩ := bind_some hres
        refine JL.eff (ef_call (vs := [.agg #[.int .i64 x7.X, .int .i64 x7.Y], .agg #[.int .i64 x11.X, .int .i64 x11.Y], .agg #[.int .i64 q1.X, .int .i64 q1.Y]]) (T := T105 x14) Go.Proofs.Try.func105 rfl (by kernel_rfl) rfl (fun w hC => c105 (q0 := x7) (q1 := x11) (q2 := q1) hx14)) rfl ?_
        rintro _ _ ⟨_, ⟨rfl, rfl⟩, rfl⟩
        refine JL.val (yl_eql rfl rfl) rfl ?_
        refine JL.val (yl_move rfl) rfl ?_
        obtain ⟨cb15, hcb15, hres⟩ := bind_some hres
        refine JL.cut (K := fun J => J [(0, .slice a_0 q0.length c_0), (3, ptrAt (some ⟨g1, 0, none⟩) 0), (6, .int .i64 x5), (8, ptrAt (some ⟨g8, 0, none⟩) 0), (9, ptrAt (some ⟨g12, 0, none⟩) 0), (16, .slice a_0 q0.length c_0), (17, .int .i64 (q0.length : Int)), (18, .int .i64 x6), (50, .bool cb15)] [boxO 42 g1 [.int .i64 q1.X, .int .i64 q1.Y], boxO 42 g8 [.int .i64 x7.X, .int .i64 x7.Y], boxO 42 g12 [.int .i64 x11.X, .int .i64 x11.Y]]) 14 ?_ ?_
        · refine JL.val (yl_move rfl) rfl ?_
          obtain ⟨cb17, hcb17, hres⟩ := bind_some hres
          refine JL.cut (K := fun J => J [(0, .slice a_0 q0.length c_0), (3, ptrAt (some ⟨g1, 0, none⟩) 0), (6, .int .i64 x5), (8, ptrAt (some ⟨g8, 0, none⟩) 0), (9, ptrAt (some ⟨g12, 0, none⟩) 0), (16, .slice a_0 q0.length c_0), (17, .int .i64 (q0.length : Int)), (18, .int .i64 x6), (65, .bool cb17)] [boxO 42 g1 [.int .i64 q1.X, .int .i64 q1.Y], boxO 42 g8 [.int .i64 x7.X, .int .i64 x7.Y], boxO 42 g12 [.int .i64 x11.X, .int .i64 x11.Y]]) 14 ?_ ?_
          · refine JL.nil ?_
            refine JE.weak (env' := [(0, .slice a_0 q0.length c_0), (3, ptrAt (some ⟨g1, 0, none⟩) 0), (6, .int .i64 x5), (8, ptrAt (some ⟨g8, 0, none⟩) 0), (9, ptrAt (some ⟨g12, 0, none⟩) 0), (16, .slice a_0 q0.length c_0), (17, .int .i64 (q0.length : Int)), (18, .int .i64 x6), (65, .bool cb17)]) (es' := [boxO 42 g1 [.int .i64 q1.X, .int .i64 q1.Y], boxO 42 g8 [.int .i64 x7.X, .int .i64 x7.Y], boxO 42 g12 [.int .i64 x11.X, .int .i64 x11.Y]]) [0, 1, 2] ?_ ⟨rfl, rfl, rfl, rfl, rfl, rfl, rfl, rfl, rfl, trivial⟩ (by decide) rfl
            refine JE.code ?_
            rcases cond_some hres with ⟨hb, hres⟩ | ⟨hb, hres⟩
            · refine JX.condT rfl hb ?_
              refine JX.seq ?_
              refine JX.region ?_
              refine JL.val (yl_assign rfl) rfl ?_
              refine JL.val (yl_assign rfl) rfl ?_
              refine JL.nil ?_
              refine JE.weak (env' := [(4, .int .i64 1), (5, .int .i64 0)]) (es' := []) [] ?_ ⟨rfl, rfl, trivial⟩ (by decide) rfl
              refine JE.code ?_
              refine JX.ret ?_
              refine JE.qbr ?_
              refine JE.qbr ?_
              have hres := elimS_inr hresO1 (hox1 _ (Option.some.inj hres).symm)
              obtain rfl := Option.some.inj hres
              refine JE.ret (rs := [.tmp 4, .tmp 5]) (vs := [.int .i64 1, .int .i64 0]) rfl ⟨rfl, rfl, trivial⟩ ?_
              exact fun w' hb hs => ⟨_, _, ⟨rfl, rfl⟩, rfl, hb, hs.sel [] _ (by decide) rfl⟩
            · refine JX.condF rfl hb ?_
              refine JX.skip ?_
              refine JE.code ?_
              refine JX.seq ?_
              refine JX.seq ?_
              refine JX.region ?_
              refine JL.val (yl_fieldAt (a := some _) Go.Proofs.Try.underlying42 rfl i2 i2n rfl rfl) rfl ?_
              refine JL.val (yl_load1 Go.Proofs.Try.underlying2 rfl rfl (fun w hC => rd_box hC 1 rfl) rfl) rfl ?_
              refine JL.val (yl_fieldAt (a := some _) Go.Proofs.Try.underlying42 rfl i2 i2n rfl rfl) rfl ?_
              refine JL.val (yl_load1 Go.Proofs.Try.underlying2 rfl rfl (fun w hC => rd_box hC 2 rfl) rfl) rfl ?_
              refine JL.val (yl_gtr rfl rfl) rfl ?_
              refine JL.nil ?_
              refine JE.weak (env' := [(0, .slice a_0 q0.length c_0), (3, ptrAt (some ⟨g1, 0, none⟩) 0), (6, .int .i64 x5), (8, ptrAt (some ⟨g8, 0, none⟩) 0), (9, ptrAt (some ⟨g12, 0, none⟩) 0), (16, .slice a_0 q0.length c_0), (17, .int .i64 (q0.length : Int)), (18, .int .i64 x6), (70, .bool (decide (x11.Y < x7.Y)))]) (es' := [boxO 42 g1 [.int .i64 q1.X, .int .i64 q1.Y], boxO 42 g8 [.int .i64 x7.X, .int .i64 x7.Y], boxO 42 g12 [.int .i64 x11.X, .int .i64 x11.Y]]) [0, 1, 2] ?_ ⟨rfl, rfl, rfl, rfl, rfl, rfl, rfl, rfl, rfl, trivial⟩ (by decide) rfl
              refine JE.code ?_
              obtain ⟨j19, hj19, hresj19⟩ := bind_some hres
              refine JX.cut (K := fun J => J [(0, .slice a_0 q0.length c_0), (3, ptrAt (some ⟨g1, 0, none⟩) 0), (6, .int .i64 x5), (8, ptrAt (some ⟨g8, 0, none⟩) 0), (9, ptrAt (some ⟨g12, 0, none⟩) 0), (16, .slice a_0 q0.length c_0), (17, .int .i64 (q0.length : Int)), (18, .int .i64 x6)] [boxO 42 g1 [.int .i64 q1.X, .int .i64 q1.Y], boxO 42 g8 [.int .i64 j19.1.X, .int .i64 j19.1.Y], boxO 42 g12 [.int .i64 j19.2.X, .int .i64 j19.2.Y]]) ?_ ?_
              · have hres := hresj19
                refine JE.code ?_
                refine JX.seq ?_
                refine JX.region ?_
                refine JL.val (yl_fieldAt (a := some _) Go.Proofs.Try.underlying42 rfl i2 i2n rfl rfl) rfl ?_
                refine JL.val (yl_load1 Go.Proofs.Try.underlying2 rfl rfl (fun w hC => rd_box hC 1 rfl) rfl) rfl ?_
                refine JL.val (yl_fieldAt (a := some _) Go.Proofs.Try.underlying42 rfl i2 i2n rfl rfl) rfl ?_
                refine JL.val (yl_load1 Go.Proofs.Try.underlying2 rfl rfl (fun w hC => rd_box hC 0 rfl) rfl) rfl ?_
                refine JL.val (yl_leq rfl rfl) rfl ?_
                refine JL.val (yl_move rfl) rfl ?_
                refine JL.cut (K := fun J => J [(0, .slice a_0 q0.length c_0), (3, ptrAt (some ⟨g1, 0, none⟩) 0), (6, .int .i64 x5), (8, ptrAt (some ⟨g8, 0, none⟩) 0), (9, ptrAt (some ⟨g12, 0, none⟩) 0), (16, .slice a_0 q0.length c_0), (17, .int .i64 (q0.length : Int)), (18, .int .i64 x6), (84, .bool ((decide (j19.1.Y ≤ q1.Y)) && (decide (q1.Y < j19.2.Y))))] [boxO 42 g1 [.int .i64 q1.X, .int .i64 q1.Y], boxO 42 g8 [.int .i64 j19.1.X, .int .i64 j19.1.Y], boxO 42 g12 [.int .i64 j19.2.X, .int .i64 j19.2.Y]]) 6 ?_ ?_
                · refine JL.val (yl_move rfl) rfl ?_
                  obtain ⟨cb20, hcb20, hres⟩ := bind_some hres
                  refine JL.cut (K := fun J => J [(0, .slice a_0 q0.length c_0), (3, ptrAt (some ⟨g1, 0, none⟩) 0), (6, .int .i64 x5), (16, .slice a_0 q0.length c_0), (17, .int .i64 (q0.length : Int)), (18, .int .i64 x6), (91, .bool cb20)] [boxO 42 g1 [.int .i64 q1.X, .int .i64 q1.Y]]) 6 ?_ ?_
                  · refine JL.nil ?_
                    refine JE.weak (env' := [(0, .slice a_0 q0.length c_0), (3, ptrAt (some ⟨g1, 0, none⟩) 0), (6, .int .i64 x5), (16, .slice a_0 q0.length c_0), (17, .int .i64 (q0.length : Int)), (18, .int .i64 x6), (91, .bool cb20)]) (es' := [boxO 42 g1 [.int .i64 q1.X, .int .i64 q1.Y]]) [0] ?_ ⟨rfl, rfl, rfl, rfl, rfl, rfl, rfl, trivial⟩ (by decide) rfl
                    refine JE.code ?_
                    obtain ⟨j22, hj22, hresj22⟩ := bind_some hres
                    refine JX.cut (K := fun J => J [(0, .slice a_0 q0.length c_0), (3, ptrAt (some ⟨g1, 0, none⟩) 0), (6, .int .i64 j22), (16, .slice a_0 q0.length c_0), (17, .int .i64 (q0.length : Int)), (18, .int .i64 x6)] [boxO 42 g1 [.int .i64 q1.X, .int .i64 q1.Y]]) ?_ ?_
                    · have hres := hresj22
                      refine JE.code ?_
                      refine JX.region ?_
                      refine JL.val (yl_add rfl rfl) rfl ?_
                      refine JL.val (yl_move rfl) rfl ?_
                      refine JL.nil ?_
                      refine JE.cont hres ?_
                      exact fun a w h => h.weak ⟨rfl, rfl, rfl, rfl, rfl, rfl, trivial⟩ [0] (by decide) rfl
                    · intro K
                      rcases cond_some hj22 with ⟨hb, hres⟩ | ⟨hb, hres⟩
                      · refine JX.condT rfl hb ?_
                        refine JX.region ?_
                        refine JL.val (yl_move rfl) rfl ?_
                        refine JL.val (yl_sub rfl rfl) rfl ?_
                        refine JL.val (yl_assign rfl) rfl ?_
                        refine JL.nil ?_
                        have hj := Option.some.inj hres
                        exact JE.weak [0] (K) ⟨(by subst hj; rfl), (by subst hj; rfl), (by subst hj; rfl), (by subst hj; rfl), (by subst hj; rfl), (by subst hj; rfl), trivial⟩ (by decide) (by subst hj; rfl)
                      · refine JX.condF rfl hb ?_
                        refine JX.skip ?_
                        have hj := Option.some.inj hres
                        exact JE.weak [0] (K) ⟨(by subst hj; rfl), (by subst hj; rfl), (by subst hj; rfl), (by subst hj; rfl), (by subst hj; rfl), (by subst hj; rfl), trivial⟩ (by decide) (by subst hj; rfl)
                  · intro K
                    rcases cond_some hcb20 with ⟨hb, hres⟩ | ⟨hb, hres⟩
                    · refine JL.set (d := 85) (v := .bool true) (congrArg (fun b => some (Value.bool b)) hb) ?_
                      refine JL.gval rfl rfl (yl_loadn Go.Proofs.Try.underlying42 rfl i42 rfl (fun w hC => rd_box hC 1 rfl) rfl (i42s).symm i42p) rfl ?_
                      refine JL.gval rfl rfl (yl_loadn Go.Proofs.Try.underlying42 rfl i42 rfl (fun w hC => rd_box hC 2 rfl) rfl (i42s).symm i42p) rfl ?_
                      refine JL.gval rfl rfl (yl_loadn Go.Proofs.Try.underlying42 rfl i42 rfl (fun w hC => rd_box hC 0 rfl) rfl (i42s).symm i42p) rfl ?_
                      obtain ⟨x21, hx21, hres⟩ := bind_some hres
                      refine JL.geff rfl rfl (ef_call (vs := [.agg #[.int .i64 j19.1.X, .int .i64 j19.1.Y], .agg #[.int .i64 j19.2.X, .int .i64 j19.2.Y], .agg #[.int .i64 q1.X, .int .i64 q1.Y]]) (T := T105 x21) Go.Proofs.Try.func105 rfl (by kernel_rfl) rfl (fun w hC => c105 (q0 := j19.1) (q1 := j19.2) (q2 := q1) hx21)) rfl ?_
                      rintro _ _ ⟨_, ⟨rfl, rfl⟩, rfl⟩
                      refine JL.gval rfl rfl (yl_gtr rfl rfl) rfl ?_
                      refine JL.val (yl_pick_true rfl rfl) rfl ?_
                      have he := Option.some.inj hres
                      exact JL.weak [0] K ⟨rfl, rfl, rfl, rfl, rfl, rfl, (by rw [← he]; rfl), trivial⟩ (by decide) rfl
                    · refine JL.set (d := 85) (v := .bool false) (congrArg (fun b => some (Value.bool b)) hb) ?_
                      refine JL.gskip rfl rfl rfl rfl ?_
                      refine JL.gskip rfl rfl rfl rfl ?_
                      refine JL.gskip rfl rfl rfl rfl ?_
                      refine JL.gskip rfl rfl rfl rfl ?_
                      refine JL.gskip rfl rfl rfl rfl ?_
                      refine JL.val (yl_pick_false rfl rfl) rfl ?_
                      have he := Option.some.inj hres
                      exact JL.weak [0] K ⟨rfl, rfl, rfl, rfl, rfl, rfl, (by rw [← he]; rfl), trivial⟩ (by decide) rfl
                · intro K
                  rcases Bool.eq_false_or_eq_true (decide (j19.1.Y ≤ q1.Y)) with hb | hb
                  · refine JL.set (d := 78) (v := .bool true) (congrArg (fun b => some (Value.bool b)) hb) ?_
                    refine JL.gval rfl rfl (yl_fieldAt (a := some _) Go.Proofs.Try.underlying42 rfl i2 i2n rfl rfl) rfl ?_
                    refine JL.gval rfl rfl (yl_load1 Go.Proofs.Try.underlying2 rfl rfl (fun w hC => rd_box hC 0 rfl) rfl) rfl ?_
                    refine JL.gval rfl rfl (yl_fieldAt (a := some _) Go.Proofs.Try.underlying42 rfl i2 i2n rfl rfl) rfl ?_
                    refine JL.gval rfl rfl (yl_load1 Go.Proofs.Try.underlying2 rfl rfl (fun w hC => rd_box hC 2 rfl) rfl) rfl ?_
                    refine JL.gval rfl rfl (yl_lss rfl rfl) rfl ?_
                    refine JL.val (yl_pick_true rfl rfl) rfl ?_
                    exact JL.weak [0, 1, 2] K ⟨rfl, rfl, rfl, rfl, rfl, rfl, rfl, rfl, (by rw [hb]; rfl), trivial⟩ (by decide) rfl
                  · refine JL.set (d := 78) (v := .bool false) (congrArg (fun b => some (Value.bool b)) hb) ?_
                    refine JL.gskip rfl rfl rfl rfl ?_
                    refine JL.gskip rfl rfl rfl rfl ?_
                    refine JL.gskip rfl rfl rfl rfl ?_
                    refine JL.gskip rfl rfl rfl rfl ?_
                    refine JL.gskip rfl rfl rfl rfl ?_
                    refine JL.val (yl_pick_false rfl rfl) rfl ?_
                    exact JL.weak [0, 1, 2] K ⟨rfl, rfl, rfl, rfl, rfl, rfl, rfl, rfl, (by rw [hb]; rfl), trivial⟩ (by decide) rfl
              · intro K
                rcases cond_some hj19 with ⟨hb, hres⟩ | ⟨hb, hres⟩
                · refine JX.condT rfl hb ?_
                  refine JX.region ?_
                  refine JL.val (yl_loadn Go.Proofs.Try.underlying42 rfl i42 rfl (fun w hC => rd_box hC 2 rfl) rfl (i42s).symm i42p) rfl ?_
                  refine JL.val (yl_loadn Go.Proofs.Try.underlying42 rfl i42 rfl (fun w hC => rd_box hC 1 rfl) rfl (i42s).symm i42p) rfl ?_
                  refine JL.eff (ef_store_box (i := 1) (v := .agg #[.int .i64 x11.X, .int .i64 x11.Y]) i42 rfl rfl rfl (i42s).symm (Nat.le_of_ble_eq_true rfl) (by simp [Value.cells, Value.oneCell'])) rfl ?_
                  rintro _ _ rfl
                  refine JL.eff (ef_store_box (i := 2) (v := .agg #[.int .i64 x7.X, .int .i64 x7.Y]) i42 rfl rfl rfl (i42s).symm (Nat.le_of_ble_eq_true rfl) (by simp [Value.cells, Value.oneCell'])) rfl ?_
                  rintro _ _ rfl
                  refine JL.nil ?_
                  refine JE.weak (env' := [(0, .slice a_0 q0.length c_0), (3, ptrAt (some ⟨g1, 0, none⟩) 0), (6, .int .i64 x5), (8, ptrAt (some ⟨g8, 0, none⟩) 0), (9, ptrAt (some ⟨g12, 0, none⟩) 0), (16, .slice a_0 q0.length c_0), (17, .int .i64 (q0.length : Int)), (18, .int .i64 x6)]) (es' := [boxO 42 g1 [.int .i64 q1.X, .int .i64 q1.Y], boxO 42 g8 [.int .i64 x11.X, .int .i64 x11.Y], boxO 42 g12 [.int .i64 x7.X, .int .i64 x7.Y]]) [0, 1, 2] ?_ ⟨rfl, rfl, rfl, rfl, rfl, rfl, rfl, rfl, trivial⟩ (by decide) rfl
                  have hj := Option.some.inj hres
                  exact JE.weak [0, 1, 2] (K) ⟨(by subst hj; rfl), (by subst hj; rfl), (by subst hj; rfl), (by subst hj; rfl), (by subst hj; rfl), (by subst hj; rfl), (by subst hj; rfl), (by subst hj; rfl), trivial⟩ (by decide) (by subst hj; rfl)
                · refine JX.condF rfl hb ?_
                  refine JX.skip ?_
                  have hj := Option.some.inj hres
                  exact JE.weak [0, 1, 2] (K) ⟨(by subst hj; rfl), (by subst hj; rfl), (by subst hj; rfl), (by subst hj; rfl), (by subst hj; rfl), (by subst hj; rfl), (by subst hj; rfl), (by subst hj; rfl), trivial⟩ (by decide) (by subst hj; rfl)
          · intro K
            rcases cond_some hcb17 with ⟨hb, hres⟩ | ⟨hb, hres⟩
            · refine JL.set (d := 51) (v := .bool true) (congrArg (fun b => some (Value.bool b)) hb) ?_
              refine JL.gval rfl rfl (yl_fieldAt (a := some _) Go.Proofs.Try.underlying42 rfl i2 i2n rfl rfl) rfl ?_
              refine JL.gval rfl rfl (yl_load1 Go.Proofs.Try.underlying2 rfl rfl (fun w hC => rd_box hC 0 rfl) rfl) rfl ?_
              refine JL.gval rfl rfl (yl_fieldAt (a := some _) Go.Proofs.Try.underlying42 rfl i2 i2n rfl rfl) rfl ?_
              refine JL.gval rfl rfl (yl_load1 Go.Proofs.Try.underlying2 rfl rfl (fun w hC => rd_box hC 1 rfl) rfl) rfl ?_
              refine JL.gval rfl rfl (yl_fieldAt (a := some _) Go.Proofs.Try.underlying42 rfl i2 i2n rfl rfl) rfl ?_
              refine JL.gval rfl rfl (yl_load1 Go.Proofs.Try.underlying2 rfl rfl (fun w hC => rd_box hC 2 rfl) rfl) rfl ?_
              refine JL.gval rfl rfl (yl_min rfl rfl) rfl ?_
              refine JL.gval rfl rfl (yl_fieldAt (a := some _) Go.Proofs.Try.underlying42 rfl i2 i2n rfl rfl) rfl ?_
              refine JL.gval rfl rfl (yl_load1 Go.Proofs.Try.underlying2 rfl rfl (fun w hC => rd_box hC 1 rfl) rfl) rfl ?_
              refine JL.gval rfl rfl (yl_fieldAt (a := some _) Go.Proofs.Try.underlying42 rfl i2 i2n rfl rfl) rfl ?_
              refine JL.gval rfl rfl (yl_load1 Go.Proofs.Try.underlying2 rfl rfl (fun w hC => rd_box hC 2 rfl) rfl) rfl ?_
              refine JL.gval rfl rfl (yl_max rfl rfl) rfl ?_
              obtain ⟨x18, hx18, hres⟩ := bind_some hres
              refine JL.geff rfl rfl (ef_call (T := T107 x18) Go.Proofs.Try.func107 rfl (by kernel_rfl) rfl (fun w hC => c107  hx18)) rfl ?_
              rintro _ _ ⟨_, ⟨rfl, rfl⟩, rfl⟩
              refine JL.val (yl_pick_true rfl rfl) rfl ?_
              have he := Option.some.inj hres
              exact JL.weak [0, 1, 2] K ⟨rfl, rfl, rfl, rfl, rfl, rfl, rfl, rfl, (by rw [← he]; rfl), trivial⟩ (by decide) rfl
            · refine JL.set (d := 51) (v := .bool false) (congrArg (fun b => some (Value.bool b)) hb) ?_
              refine JL.gskip rfl rfl rfl rfl ?_
              refine JL.gskip rfl rfl rfl rfl ?_
              refine JL.gskip rfl rfl rfl rfl ?_
              refine JL.gskip rfl rfl rfl rfl ?_
              refine JL.gskip rfl rfl rfl rfl ?_
              refine JL.gskip rfl rfl rfl rfl ?_
              refine JL.gskip rfl rfl rfl rfl ?_
              refine JL.gskip rfl rfl rfl rfl ?_
              refine JL.gskip rfl rfl rfl rfl ?_
              refine JL.gskip rfl rfl rfl rfl ?_
              refine JL.gskip rfl rfl rfl rfl ?_
              refine JL.gskip rfl rfl rfl rfl ?_
              refine JL.gskip rfl rfl rfl rfl ?_
              refine JL.val (yl_pick_false rfl rfl) rfl ?_
              have he := Option.some.inj hres
              exact JL.weak [0, 1, 2] K ⟨rfl, rfl, rfl, rfl, rfl, rfl, rfl, rfl, (by rw [← he]; rfl), trivial⟩ (by decide) rfl
        · intro K
          rcases cond_some hcb15 with ⟨hb, hres⟩ | ⟨hb, hres⟩
          · refine JL.set (d := 36) (v := .bool true) (congrArg (fun b => some (Value.bool b)) hb) ?_
            refine JL.gval rfl rfl (yl_fieldAt (a := some _) Go.Proofs.Try.underlying42 rfl i2 i2n rfl rfl) rfl ?_
            refine JL.gval rfl rfl (yl_load1 Go.Proofs.Try.underlying2 rfl rfl (fun w hC => rd_box hC 0 rfl) rfl) rfl ?_
            refine JL.gval rfl rfl (yl_fieldAt (a := some _) Go.Proofs.Try.underlying42 rfl i2 i2n rfl rfl) rfl ?_
            refine JL.gval rfl rfl (yl_load1 Go.Proofs.Try.underlying2 rfl rfl (fun w hC => rd_box hC 1 rfl) rfl) rfl ?_
            refine JL.gval rfl rfl (yl_fieldAt (a := some _) Go.Proofs.Try.underlying42 rfl i2 i2n rfl rfl) rfl ?_
            refine JL.gval rfl rfl (yl_load1 Go.Proofs.Try.underlying2 rfl rfl (fun w hC => rd_box hC 2 rfl) rfl) rfl ?_
            refine JL.gval rfl rfl (yl_min rfl rfl) rfl ?_
            refine JL.gval rfl rfl (yl_fieldAt (a := some _) Go.Proofs.Try.underlying42 rfl i2 i2n rfl rfl) rfl ?_
            refine JL.gval rfl rfl (yl_load1 Go.Proofs.Try.underlying2 rfl rfl (fun w hC => rd_box hC 1 rfl) rfl) rfl ?_
            refine JL.gval rfl rfl (yl_fieldAt (a := some _) Go.Proofs.Try.underlying42 rfl i2 i2n rfl rfl) rfl ?_
            refine JL.gval rfl rfl (yl_load1 Go.Proofs.Try.underlying2 rfl rfl (fun w hC => rd_box hC 2 rfl) rfl) rfl ?_
            refine JL.gval rfl rfl (yl_max rfl rfl) rfl ?_
            obtain ⟨x16, hx16, hres⟩ := bind_some hres
            refine JL.geff rfl rfl (ef_call (T := T107 x16) Go.Proofs.Try.func107 rfl (by kernel_rfl) rfl (fun w hC => c107  hx16)) rfl ?_
            rintro _ _ ⟨_, ⟨rfl, rfl⟩, rfl⟩
            refine JL.val (yl_pick_true rfl rfl) rfl ?_
            have he := Option.some.inj hres
            exact JL.weak [0, 1, 2] K ⟨rfl, rfl, rfl, rfl, rfl, rfl, rfl, rfl, (by rw [← he]; rfl), trivial⟩ (by decide) rfl
          · refine JL.set (d := 36) (v := .bool false) (congrArg (fun b => some (Value.bool b)) hb) ?_
            refine JL.gskip rfl rfl rfl rfl ?_
            refine JL.gskip rfl rfl rfl rfl ?_
            refine JL.gskip rfl rfl rfl rfl ?_
            refine JL.gskip rfl rfl rfl rfl ?_
            refine JL.gskip rfl rfl rfl rfl ?_
            refine JL.gskip rfl rfl rfl rfl ?_
            refine JL.gskip rfl rfl rfl rfl ?_
            refine JL.gskip rfl rfl rfl rfl ?_
            refine JL.gskip rfl rfl rfl rfl ?_
            refine JL.gskip rfl rfl rfl rfl ?_
            refine JL.gskip rfl rfl rfl rfl ?_
            refine JL.gskip rfl rfl rfl rfl ?_
            refine JL.gskip rfl rfl rfl rfl ?_
            refine JL.val (yl_pick_false rfl rfl) rfl ?_
            have he := Option.some.inj hres
            exact JL.weak [0, 1, 2] K ⟨rfl, rfl, rfl, rfl, rfl, rfl, rfl, rfl, (by rw [← he]; rfl), trivial⟩ (by decide) rfl
      · refine JX.condF rfl hb ?_
        refine JX.exit ?_
        refine JE.qb rfl ?_
        obtain ⟨b1, hb1⟩ : ∃ b : Int, b = x5 := ⟨_, rfl⟩
        have hy1 : Sum.inl b1 = y1 := by rw [hb1]; exact hox1 _ (Option.some.inj hres).symm
        have hres := elimS_inl hresO1 hy1
        refine JE.weak (env' := [(6, .int .i64 b1)]) (es' := []) [] ?_ ⟨(by subst hb1; rfl), trivial⟩ (by decide) (by subst hb1; rfl)
        refine JE.code ?_
        refine JX.seq ?_
        refine JX.region ?_
        refine JL.val (yl_move rfl) rfl ?_
        refine JL.val (yl_assign rfl) rfl ?_
        refine JL.val (yl_assign rfl) rfl ?_
        refine JL.nil ?_
        refine JE.code ?_
        refine JX.ret ?_
        obtain rfl := Option.some.inj hres
        refine JE.ret (rs := [.tmp 4, .tmp 5]) (vs := [.int .i64 b1, .int .i64 0]) rfl ⟨rfl, rfl, trivial⟩ ?_
        exact fun w' hb hs => ⟨_, _, ⟨rfl, rfl⟩, rfl, hb, hs.sel [] _ (by decide) rfl⟩

end Go.Sh
