/- Walks through functions that the law reaches, printed by program. -/
import Derived.Test.YtnifcedmpilldaaF6W1
set_option linter.unusedVariables false
set_option linter.unusedSimpArgs false
namespace Go.Sh
open Go Go.RowKit
/- spec.l04All -/
def sh147_3 (x21 : List (List SPoint)) (x29 : List SPoint × List Int) : (Int × List Int) → Option ((Int × List Int) ⊕ (List Int))
  | (x37, x38) => bif decide (x37 < (x29.2.length : Int)) then (Option.bind (getI x29.2 x37) fun x40 => Option.bind (getI x38 x40) fun x41 => some (.inl (w64 (x37 + 1), x38.set (x40).toNat ((x21.length : Nat) : Int)))) else (some (.inr x38))
def sh147_2 (q0 : SPanel) : (Int × List Int × List (List SPoint)) → Option ((Int × List Int × List (List SPoint)) ⊕ (List Int × List (List SPoint)))
  | (x19, x20, x21) => bif decide (x19 < (w64 ((w64 (4 * q0.W)) * q0.H))) then (Option.bind (getI x20 x19) fun x27 => bif decide (0 ≤ x27) then (some (.inl (w64 (x19 + 1), x20, x21))) else (Option.bind (sh206 q0 x19) fun x28 => Option.bind (sh205 q0 x28) fun x29 => Option.bind (iter (sh147_3 x21 x29) (0, x20)) fun b3 => (Option.bind (appL x21 [x29.1]) fun x45 => some (.inl (w64 (x19 + 1), b3, x45))))) else (some (.inr (x20, x21)))
def sh147_1 (q0 : SPanel) : (Int × List Int) → Option ((Int × List Int) ⊕ (List Int))
  | (x6, x7) => bif decide (x6 < (w64 ((w64 (4 * q0.W)) * q0.H))) then (Option.bind (getI x7 x6) fun x9 => some (.inl (w64 (x6 + 1), x7.set (x6).toNat (-1)))) else (some (.inr x7))
def sh147 (q0 : SPanel) : Option (List (List SPoint) × List Int) := Option.bind (mkL (w64 ((w64 (4 * q0.W)) * q0.H)) 0) fun x2 => Option.bind (iter (sh147_1 q0) (0, x2)) fun b1 => (Option.bind (iter (sh147_2 q0) (0, b1, ([] : List (List SPoint)))) fun b2 => (some (b2.2, b2.1)))
def T147 (r : List (List SPoint) × List Int) (v : Value) (rs : List Own) : Prop := ∃ (a0 : Option Addr) (n0 c0 : Nat) (h0 : List Hd), r.1.length = n0 ∧ Inn h0 r.1 ∧ ∃ (a1 : Option Addr) (n1 c1 : Nat), r.2.length = n1 ∧ v = rets [.slice a0 n0 c0, .slice a1 n1 c1] ∧ rs = [rowT 34 eHd a0 n0 c0 h0, innO 42 eSPoint none h0 r.1, rowT 2 eI64 a1 n1 c1 r.2]
set_option maxRecDepth 100000 in
set_option maxHeartbeats 1000000 in
theorem c147 {w : World} {q0 : SPanel} {a_0 : Option Addr} {n_0 : Nat} {a_0_2 : Option Addr} {n_0_2 c_0_2 : Nat} (g_0 : RdAt w a_0 n_0 [.int .i64 q0.W, .int .i64 q0.H, .slice a_0_2 n_0_2 c_0_2]) (g_0_2 : Rd w a_0_2 (eI64.fl q0.Breaks)) (l_0_2 : q0.Breaks.length = n_0_2) (k_0_2 : n_0_2 ≤ c_0_2) {r : List (List SPoint) × List Int} (hres : sh147 q0 = some r) : Calls Go.Proofs.Try.prog 147 [ptrAt a_0 n_0].toArray w (Ret w (T147 r)) := by
  subst l_0_2
  obtain ⟨b_0, e_0, g_0⟩ := g_0.norm0
  rw [e_0]
  unfold sh147 at hres
  refine calls_of (n := 71) (M := []) (es := []) Go.Proofs.Try.func147 rfl rfl rfl (Sep.nil _ _ _) ?_
  refine JX.seq ?_
  refine JX.region ?_
  refine JL.val (yl_assign rfl) rfl ?_
  refine JL.val (yl_assign rfl) rfl ?_
  refine JL.nil ?_
  refine JE.code ?_
  refine JX.seq ?_
  refine JX.drawH [(0, .pure), (1, .pure), (2, .pure), (3, .read), (4, .pure), (5, .pure), (6, .pure), (7, .pure), (8, .read), (9, .pure), (10, .pure)] [] [] [] [] [] mixedP (by kernel_rfl) (by kernel_rfl) (by decide) rfl rfl ?_
  intro wrr1 Nr1 hFr1
  refine JH.pure rfl (yl_move rfl) rfl ?_
  refine JH.pure rfl (yl_nilCheckAt rfl (Rd.some g_0 (j := 0) rfl)) rfl ?_
  refine JH.pure rfl (yl_fieldAt Go.Proofs.Try.underlying26 rfl i2 i2n rfl (Rd.some g_0 (j := 0) rfl)) rfl ?_
  refine JH.read rfl (yl_load1 Go.Proofs.Try.underlying2 rfl rfl (fun w hw => hFr1.arg g_0 hw) rfl) rfl ?_
  refine JH.pure rfl (yl_mul rfl rfl) rfl ?_
  refine JH.pure rfl (yl_move rfl) rfl ?_
  refine JH.pure rfl (yl_nilCheckAt rfl (Rd.some g_0 (j := 0) rfl)) rfl ?_
  refine JH.pure rfl (yl_fieldAt Go.Proofs.Try.underlying26 rfl i2 i2n rfl (Rd.some g_0 (j := 0) rfl)) rfl ?_
  refine JH.read rfl (yl_load1 Go.Proofs.Try.underlying2 rfl rfl (fun w hw => hFr1.arg g_0 hw) rfl) rfl ?_
  refine JH.pure rfl (yl_mul rfl rfl) rfl ?_
  refine JH.pure rfl (yl_assign rfl) rfl ?_
  refine JH.nil ?_
  refine JE.weak (env' := [(0, ptrAt b_0 0), (4, .int .i64 (w64 ((w64 (4 * q0.W)) * q0.H)))]) (es' := []) [] ?_ ⟨rfl, rfl, trivial⟩ (by decide) rfl
  refine JE.code ?_
  refine JX.seq ?_
  refine JX.region ?_
  refine JL.val (yl_move rfl) rfl ?_
  obtain ⟨x2, hx2, hres⟩ := bind_some hres
  refine JL.eff (ef_makeS (e := eI64) Go.Proofs.Try.underlying24 i2 i2s i2z rfl i2b1 rfl rfl hx2) rfl ?_
  rintro _ _ ⟨a3, rfl, rfl⟩
  refine JL.val (yl_assign rfl) rfl ?_
  refine JL.nil ?_
  refine JE.code ?_
  refine JX.seq ?_
  refine JX.seq ?_
  refine JX.region ?_
  refine JL.val (yl_assign rfl) rfl ?_
  refine JL.nil ?_
  refine JE.code ?_
  refine JX.block ?_
  obtain ⟨y1, hy1, hresO1⟩ := bind_some hres
  refine JX.loop (I := fun (s1 : Int × List Int) aa ww => ∃ (l5 : s1.2.length = x2.length), St w [] 71 [(0, ptrAt b_0 0), (4, .int .i64 (w64 ((w64 (4 * q0.W)) * q0.H))), (5, .slice a3 x2.length x2.length), (6, .int .i64 s1.1)] [rowT 2 eI64 a3 x2.length x2.length s1.2] aa ww) (sh147_1 q0) hy1 (fun a w h => ⟨rfl, h.weak ⟨rfl, rfl, rfl, rfl, trivial⟩ [0] (by decide) rfl⟩) ?_
  rintro ⟨x6, x7⟩ o1 hres hox1 aa ww ⟨l8, hS⟩
  refine (?_ : JX Go.Proofs.Try.prog w [] 71 _ _ [(0, ptrAt b_0 0), (4, .int .i64 (w64 ((w64 (4 * q0.W)) * q0.H))), (5, .slice a3 x2.length x2.length), (6, .int .i64 x6)] [rowT 2 eI64 a3 x2.length x2.length x7] _) aa ww hS
  clear hS
  simp only [sh147_1] at hres
  refine JX.seq ?_
  refine JX.seq ?_
  refine JX.region ?_
  refine JL.val (yl_move rfl) rfl ?_
  refine JL.val (yl_move rfl) rfl ?_
  refine JL.val (yl_lss rfl rfl) rfl ?_
  refine JL.nil ?_
  refine JE.code ?_
  rcases cond_some hres with ⟨hb, hres⟩ | ⟨hb, hres⟩
  · refine JX.condT rfl hb ?_
    refine JX.skip ?_
    refine JE.code ?_
    refine JX.seq ?_
    refine JX.block ?_
    refine JX.region ?_
    refine JL.val (yl_move rfl) rfl ?_
    refine JL.val (yl_move rfl) rfl ?_
    obtain ⟨x9, hx9, hres⟩ := bind_some hres
    refine JL.val (yl_idxT Go.Proofs.Try.underlying24 i2 i2s rfl rfl hx9 l8 (fun w hC => rd_row hC 0 rfl)) rfl ?_
    refine JL.eff (ef_storeT (ix := 0) (u := (-1)) i2 i2s rfl rfl rfl hx9 rfl) rfl ?_
    rintro _ _ rfl
    refine JL.nil ?_
    refine JE.weak (env' := [(0, ptrAt b_0 0), (4, .int .i64 (w64 ((w64 (4 * q0.W)) * q0.H))), (5, .slice a3 x2.length x2.length), (6, .int .i64 x6)]) (es' := [rowT 2 eI64 a3 x2.length x2.length (x7.set (x6).toNat (-1))]) [0] ?_ ⟨rfl, rfl, rfl, rfl, trivial⟩ (by decide) rfl
    refine JE.code ?_
    refine JX.region ?_
    refine JL.val (yl_move rfl) rfl ?_
    refine JL.val (yl_add rfl rfl) rfl ?_
    refine JL.val (yl_assign rfl) rfl ?_
    refine JL.nil ?_
    refine JE.cont hres ?_
    exact fun a w h => ⟨(List.length_set.trans l8), h.weak ⟨rfl, rfl, rfl, rfl, trivial⟩ [0] (by decide) rfl⟩
  · refine JX.condF rfl hb ?_
    refine JX.exit ?_
    refine JE.qb rfl ?_
    obtain ⟨b1, hb1⟩ : ∃ b : List Int, b = x7 := ⟨_, rfl⟩
    have hy1 : b1 = y1 := by rw [hb1]; exact hox1 _ (Option.some.inj hres).symm
    have hres := hresO1
    rw [← hy1] at hres
    have l10 : b1.length = x2.length := by subst hb1; exact l8
    refine JE.weak (env' := [(0, ptrAt b_0 0), (4, .int .i64 (w64 ((w64 (4 * q0.W)) * q0.H))), (5, .slice a3 x2.length x2.length)]) (es' := [rowT 2 eI64 a3 x2.length x2.length b1]) [0] ?_ ⟨(by subst hb1; rfl), (by subst hb1; rfl), (by subst hb1; rfl), trivial⟩ (by decide) (by subst hb1; rfl)
    refine JE.code ?_
    refine JX.seq ?_
    refine JX.region ?_
    refine JL.eff (ef_buildSlice (E := 34) (k := eHd.k) (us := eHd.fl ([] : List Hd)) rfl (fun w => bsl29_0  w) rfl (by decide)) rfl ?_
    rintro _ _ ⟨a11, rfl, rfl⟩
    refine JL.nilinn 42 eSPoint ?_
    refine JL.val (yl_assign rfl) rfl ?_
    refine JL.nil ?_
    refine JE.code ?_
    refine JX.seq ?_
    refine JX.seq ?_
    refine JX.region ?_
    refine JL.val (yl_assign rfl) rfl ?_
    refine JL.nil ?_
    refine JE.code ?_
    refine JX.block ?_
    obtain ⟨y2, hy2, hresO2⟩ := bind_some hres
    refine JX.loop (I := fun (s2 : Int × List Int × List (List SPoint)) aa ww => ∃ (l14 : s2.2.1.length = x2.length) (a15 : Option Addr) (cp16 : Nat) (hs17 : List Hd) (hi18 : Inn hs17 s2.2.2), St w [] 71 [(0, ptrAt b_0 0), (4, .int .i64 (w64 ((w64 (4 * q0.W)) * q0.H))), (5, .slice a3 x2.length x2.length), (7, .slice a15 s2.2.2.length cp16), (8, .int .i64 s2.1)] [rowT 2 eI64 a3 x2.length x2.length s2.2.1, rowT 34 eHd a15 s2.2.2.length cp16 hs17, innO 42 eSPoint none hs17 s2.2.2] aa ww) (sh147_2 q0) hy2 (fun a w h => ⟨l10, a11, 0, ([] : List Hd), (Inn.nil (T := SPoint)), h.weak ⟨rfl, rfl, rfl, rfl, rfl, trivial⟩ [0, 1, 2] (by decide) rfl⟩) ?_
    rintro ⟨x19, x20, x21⟩ o2 hres hox2 aa ww ⟨l22, a23, cp24, hs25, hi26, hS⟩
    refine (?_ : JX Go.Proofs.Try.prog w [] 71 _ _ [(0, ptrAt b_0 0), (4, .int .i64 (w64 ((w64 (4 * q0.W)) * q0.H))), (5, .slice a3 x2.length x2.length), (7, .slice a23 x21.length cp24), (8, .int .i64 x19)] [rowT 2 eI64 a3 x2.length x2.length x20, rowT 34 eHd a23 x21.length cp24 hs25, innO 42 eSPoint none hs25 x21] _) aa ww hS
    clear hS
    simp only [sh147_2] at hres
    refine JX.seq ?_
    refine JX.seq ?_
    refine JX.region ?_
    refine JL.val (yl_move rfl) rfl ?_
    refine JL.val (yl_move rfl) rfl ?_
    refine JL.val (yl_lss rfl rfl) rfl ?_
    refine JL.nil ?_
    refine JE.code ?_
    rcases cond_some hres with ⟨hb, hres⟩ | ⟨hb, hres⟩
    · refine JX.condT rfl hb ?_
      refine JX.skip ?_
      refine JE.code ?_
      refine JX.seq ?_
      refine JX.block ?_
      refine JX.seq ?_
      refine JX.seq ?_
      refine JX.region ?_
      refine JL.val (yl_move rfl) rfl ?_
      refine JL.val (yl_move rfl) rfl ?_
      obtain ⟨x27, hx27, hres⟩ := bind_some hres
      refine JL.val (yl_idxT Go.Proofs.Try.underlying24 i2 i2s rfl rfl hx27 l22 (fun w hC => rd_row hC 0 rfl)) rfl ?_
      refine JL.val (yl_loadT0 Go.Proofs.Try.underlying2 rfl rfl hx27 (fun w hC => rd_row hC 0 rfl) rfl) rfl ?_
      refine JL.val (yl_geq rfl rfl) rfl ?_
      refine JL.nil ?_
      refine JE.weak (env' := [(0, ptrAt b_0 0), (4, .int .i64 (w64 ((w64 (4 * q0.W)) * q0.H))), (5, .slice a3 x2.length x2.length), (7, .slice a23 x21.length cp24), (8, .int .i64 x19), (42, .bool (decide (0 ≤ x27)))]) (es' := [rowT 2 eI64 a3 x2.length x2.length x20, rowT 34 eHd a23 x21.length cp24 hs25, innO 42 eSPoint none hs25 x21]) [0, 1, 2] ?_ ⟨rfl, rfl, rfl, rfl, rfl, rfl, trivial⟩ (by decide) rfl
      refine JE.code ?_
      rcases cond_some hres with ⟨hb, hres⟩ | ⟨hb, hres⟩
      · refine JX.condT rfl hb ?_
        refine JX.exit ?_
        refine JE.qb rfl ?_
        refine JE.code ?_
        refine JX.region ?_
        refine JL.val (yl_move rfl) rfl ?_
        refine JL.val (yl_add rfl rfl) rfl ?_
        refine JL.val (yl_assign rfl) rfl ?_
        refine JL.nil ?_
        refine JE.cont hres ?_
        exact fun a w h => ⟨l22, a23, cp24, hs25, hi26, h.weak ⟨rfl, rfl, rfl, (by first | rfl | (simp only [List.length_set, l22]; rfl) | simp only [List.length_set, l22]), rfl, trivial⟩ [0, 1, 2] (by decide) (by first | rfl | (simp only [List.length_set, l22]; rfl) | simp only [List.length_set, l22])⟩
      · refine JX.condF rfl hb ?_
        refine JX.skip ?_
        refine JE.code ?_
        refine JX.seq ?_
        refine JX.region ?_
        refine JL.val (yl_move rfl) rfl ?_
        refine JL.val (yl_move rfl) rfl ?_
        refine JL.val (yl_move rfl) rfl ?_
        obtain ⟨x28, hx28, hres⟩ := bind_some hres
        refine JL.eff (ef_call (T := T206 x28) Go.Proofs.Try.func206 rfl (by kernel_rfl) rfl (fun w hC => c206 (RdAt.of0 (rd_arg g_0 hC)) (rd_arg g_0_2 hC) rfl k_0_2 hx28)) rfl ?_
        rintro _ _ ⟨_, ⟨rfl, rfl⟩, rfl⟩
        obtain ⟨x29, hx29, hres⟩ := bind_some hres
        refine JL.eff (ef_call (vs := [ptrAt b_0 0, .agg #[.int .i64 x28.At.X, .int .i64 x28.At.Y, .int .i64 x28.DX, .int .i64 x28.DY]]) (T := T205 x29) Go.Proofs.Try.func205 rfl (by kernel_rfl) rfl (fun w hC => c205 (q1 := x28) (RdAt.of0 (rd_arg g_0 hC)) (rd_arg g_0_2 hC) rfl k_0_2 hx29)) rfl ?_
        rintro _ _ ⟨_, ⟨a30, _, cp31, rfl, a33, _, cp34, rfl, rfl, rfl⟩, rfl⟩
        refine JL.val (yl_move rfl) rfl ?_
        refine JL.val (yl_extract rfl rfl) rfl ?_
        refine JL.val (yl_extract rfl rfl) rfl ?_
        refine JL.val (yl_assign rfl) rfl ?_
        refine JL.val (yl_assign rfl) rfl ?_
        refine JL.nil ?_
        refine JE.weak (env' := [(0, ptrAt b_0 0), (4, .int .i64 (w64 ((w64 (4 * q0.W)) * q0.H))), (5, .slice a3 x2.length x2.length), (7, .slice a23 x21.length cp24), (8, .int .i64 x19), (9, .slice a30 x29.1.length cp31), (10, .slice a33 x29.2.length cp34)]) (es' := [rowT 2 eI64 a3 x2.length x2.length x20, rowT 34 eHd a23 x21.length cp24 hs25, innO 42 eSPoint none hs25 x21, rowT 42 eSPoint a30 x29.1.length cp31 x29.1, rowT 2 eI64 a33 x29.2.length cp34 x29.2]) [0, 1, 2, 3, 4] ?_ ⟨rfl, rfl, rfl, rfl, rfl, rfl, rfl, trivial⟩ (by decide) rfl
        refine JE.code ?_
        refine JX.seq ?_
        refine JX.seq ?_
        refine JX.region ?_
        refine JL.val (yl_assign rfl) rfl ?_
        refine JL.nil ?_
        refine JE.code ?_
        refine JX.block ?_
        obtain ⟨y3, hy3, hresO3⟩ := bind_some hres
        refine JX.loop (I := fun (s3 : Int × List Int) aa ww => ∃ (l36 : s3.2.length = x2.length), St w [] 71 [(0, ptrAt b_0 0), (4, .int .i64 (w64 ((w64 (4 * q0.W)) * q0.H))), (5, .slice a3 x2.length x2.length), (7, .slice a23 x21.length cp24), (8, .int .i64 x19), (9, .slice a30 x29.1.length cp31), (10, .slice a33 x29.2.length cp34), (11, .int .i64 s3.1)] [rowT 2 eI64 a3 x2.length x2.length s3.2, rowT 34 eHd a23 x21.length cp24 hs25, innO 42 eSPoint none hs25 x21, rowT 42 eSPoint a30 x29.1.length cp31 x29.1, rowT 2 eI64 a33 x29.2.length cp34 x29.2] aa ww) (sh147_3 x21 x29) hy3 (fun a w h => ⟨l22, h.weak ⟨rfl, rfl, rfl, rfl, rfl, rfl, rfl, rfl, trivial⟩ [0, 1, 2, 3, 4] (by decide) rfl⟩) ?_
        rintro ⟨x37, x38⟩ o3 hres hox3 aa ww ⟨l39, hS⟩
        refine (?_ : JX Go.Proofs.Try.prog w [] 71 _ _ [(0, ptrAt b_0 0), (4, .int .i64 (w64 ((w64 (4 * q0.W)) * q0.H))), (5, .slice a3 x2.length x2.length), (7, .slice a23 x21.length cp24), (8, .int .i64 x19), (9, .slice a30 x29.1.length cp31), (10, .slice a33 x29.2.length cp34), (11, .int .i64 x37)] [rowT 2 eI64 a3 x2.length x2.length x38, rowT 34 eHd a23 x21.length cp24 hs25, innO 42 eSPoint none hs25 x21, rowT 42 eSPoint a30 x29.1.length cp31 x29.1, rowT 2 eI64 a33 x29.2.length cp34 x29.2] _) aa ww hS
        clear hS
        simp only [sh147_3] at hres
        refine JX.seq ?_
        refine JX.seq ?_
        refine JX.region ?_
        refine JL.val (yl_move rfl) rfl ?_
        refine JL.val (yl_move rfl) rfl ?_
        refine JL.val (yl_len_slice Go.Proofs.Try.underlying24 rfl) rfl ?_
        refine JL.val (yl_lss rfl rfl) rfl ?_
        refine JL.nil ?_
        refine JE.weak (env' := [(0, ptrAt b_0 0), (4, .int .i64 (w64 ((w64 (4 * q0.W)) * q0.H))), (5, .slice a3 x2.length x2.length), (7, .slice a23 x21.length cp24), (8, .int .i64 x19), (9, .slice a30 x29.1.length cp31), (10, .slice a33 x29.2.length cp34), (11, .int .i64 x37), (54, .bool (decide (x37 < (x29.2.length : Int))))]) (es' := [rowT 2 eI64 a3 x2.length x2.length x38, rowT 34 eHd a23 x21.length cp24 hs25, innO 42 eSPoint none hs25 x21, rowT 42 eSPoint a30 x29.1.length cp31 x29.1, rowT 2 eI64 a33 x29.2.length cp34 x29.2]) [0, 1, 2, 3, 4] ?_ ⟨rfl, rfl, rfl, rfl, rfl, rfl, rfl, rfl, rfl, trivial⟩ (by decide) rfl
        refine JE.code ?_
        rcases cond_some hres with ⟨hb, hres⟩ | ⟨hb, hres⟩
        · refine JX.condT rfl hb ?_
          refine JX.skip ?_
          refine JE.code ?_
          refine JX.seq ?_
          refine JX.block ?_
          refine JX.region ?_
          refine JL.val (yl_move rfl) rfl ?_
          refine JL.val (yl_move rfl) rfl ?_
          refine JL.val (yl_move rfl) rfl ?_
          obtain ⟨x40, hx40, hres⟩ := bind_some hres
          refine JL.val (yl_idxT Go.Proofs.Try.underlying24 i2 i2s rfl rfl hx40 rfl (fun w hC => rd_row hC 4 rfl)) rfl ?_
          refine JL.val (yl_loadT0 Go.Proofs.Try.underlying2 rfl rfl hx40 (fun w hC => rd_row hC 4 rfl) rfl) rfl ?_
          refine JL.val (yl_move rfl) rfl ?_
          refine JL.val (yl_len_slice Go.Proofs.Try.underlying29 rfl) rfl ?_
          obtain ⟨x41, hx41, hres⟩ := bind_some hres
          refine JL.val (yl_idxT Go.Proofs.Try.underlying24 i2 i2s rfl rfl hx41 l39 (fun w hC => rd_row hC 0 rfl)) rfl ?_
          refine JL.eff (ef_storeT (ix := 0) (u := ((x21.length : Nat) : Int)) i2 i2s rfl rfl rfl hx41 rfl) rfl ?_
          rintro _ _ rfl
          refine JL.nil ?_
          refine JE.weak (env' := [(0, ptrAt b_0 0), (4, .int .i64 (w64 ((w64 (4 * q0.W)) * q0.H))), (5, .slice a3 x2.length x2.length), (7, .slice a23 x21.length cp24), (8, .int .i64 x19), (9, .slice a30 x29.1.length cp31), (10, .slice a33 x29.2.length cp34), (11, .int .i64 x37)]) (es' := [rowT 2 eI64 a3 x2.length x2.length (x38.set (x40).toNat ((x21.length : Nat) : Int)), rowT 34 eHd a23 x21.length cp24 hs25, innO 42 eSPoint none hs25 x21, rowT 42 eSPoint a30 x29.1.length cp31 x29.1, rowT 2 eI64 a33 x29.2.length cp34 x29.2]) [0, 1, 2, 3, 4] ?_ ⟨rfl, rfl, rfl, rfl, rfl, rfl, rfl, rfl, trivial⟩ (by decide) rfl
          refine JE.code ?_
          refine JX.region ?_
          refine JL.val (yl_move rfl) rfl ?_
          refine JL.val (yl_add rfl rfl) rfl ?_
          refine JL.val (yl_assign rfl) rfl ?_
          refine JL.nil ?_
          refine JE.cont hres ?_
          exact fun a w h => ⟨(List.length_set.trans l39), h.weak ⟨rfl, rfl, rfl, rfl, rfl, rfl, rfl, rfl, trivial⟩ [0, 1, 2, 3, 4] (by decide) rfl⟩
        · refine JX.condF rfl hb ?_
          refine JX.exit ?_
          refine JE.qb rfl ?_
          obtain ⟨b3, hb3⟩ : ∃ b : List Int, b = x38 := ⟨_, rfl⟩
          have hy3 : b3 = y3 := by rw [hb3]; exact hox3 _ (Option.some.inj hres).symm
          have hres := hresO3
          rw [← hy3] at hres
          have l42 : b3.length = x2.length := by subst hb3; exact l39
          refine JE.weak (env' := [(0, ptrAt b_0 0), (4, .int .i64 (w64 ((w64 (4 * q0.W)) * q0.H))), (5, .slice a3 x2.length x2.length), (7, .slice a23 x21.length cp24), (8, .int .i64 x19), (9, .slice a30 x29.1.length cp31)]) (es' := [rowT 2 eI64 a3 x2.length x2.length b3, rowT 34 eHd a23 x21.length cp24 hs25, innO 42 eSPoint none hs25 x21, rowT 42 eSPoint a30 x29.1.length cp31 x29.1]) [0, 1, 2, 3] ?_ ⟨(by subst hb3; rfl), (by subst hb3; rfl), (by subst hb3; rfl), (by subst hb3; rfl), (by subst hb3; rfl), (by subst hb3; rfl), trivial⟩ (by decide) (by subst hb3; rfl)
          refine JE.code ?_
          refine JX.region ?_
          refine JL.val (yl_move rfl) rfl ?_
          refine JL.val (yl_move rfl) rfl ?_
          refine JL.eff (ef_buildSlice (E := 34) (k := eHd.k) (us := eHd.fl [⟨a30, x29.1.length, cp31⟩]) rfl (fun w => bsl29_1 a30 x29.1.length cp31 w) rfl (by decide)) rfl ?_
          rintro _ _ ⟨a43, rfl, rfl⟩
          obtain ⟨x45, hx45, hres⟩ := bind_some hres
          refine JL.eff (ef_appendH (ix := 1) Go.Proofs.Try.underlying29 i34 i34z i34s rfl i34b0 i34b1 rfl rfl (Inn.len hi26) rfl rfl (fun w hC => rd_row hC 4 rfl) hx45 hi26) rfl ?_
          rintro _ _ ⟨a46, cp47, rfl, rfl⟩
          refine JL.absorb (es' := [rowT 2 eI64 a3 x2.length x2.length b3, rowT 34 eHd a46 x45.length cp47 (hs25 ++ [⟨a30, x29.1.length, cp31⟩]), rowT 34 eHd a43 1 1 [⟨a30, x29.1.length, cp31⟩]]) [0, 1, 4, 2, 3] (by decide) rfl (appL_some hx45).2 ?_
          refine JL.val (yl_assign rfl) rfl ?_
          refine JL.nil ?_
          refine JE.weak (env' := [(0, ptrAt b_0 0), (4, .int .i64 (w64 ((w64 (4 * q0.W)) * q0.H))), (5, .slice a3 x2.length x2.length), (7, .slice a46 x45.length cp47), (8, .int .i64 x19)]) (es' := [rowT 2 eI64 a3 x2.length x2.length b3, rowT 34 eHd a46 x45.length cp47 (hs25 ++ [⟨a30, x29.1.length, cp31⟩]), innO 42 eSPoint none (hs25 ++ [⟨a30, x29.1.length, cp31⟩]) x45]) [0, 1, 3] ?_ ⟨rfl, rfl, rfl, rfl, rfl, trivial⟩ (by decide) rfl
          refine JE.code ?_
          refine JX.region ?_
          refine JL.val (yl_move rfl) rfl ?_
          refine JL.val (yl_add rfl rfl) rfl ?_
          refine JL.val (yl_assign rfl) rfl ?_
          refine JL.nil ?_
          refine JE.cont hres ?_
          exact fun a w h => ⟨l42, a46, cp47, hs25 ++ [⟨a30, x29.1.length, cp31⟩], (Inn.appZ hi26 rfl (appL_some hx45).2), h.weak ⟨rfl, rfl, rfl, (by first | rfl | (simp only [List.length_set, l42]; rfl) | simp only [List.length_set, l42]), rfl, trivial⟩ [0, 1, 2] (by decide) (by first | rfl | (simp only [List.length_set, l42]; rfl) | simp only [List.length_set, l42])⟩
    · refine JX.condF rfl hb ?_
      refine JX.exit ?_
      refine JE.qb rfl ?_
      obtain ⟨b2, hb2⟩ : ∃ b : List Int × List (List SPoint), b = (x20, x21) := ⟨_, rfl⟩
      have hy2 : b2 = y2 := by rw [hb2]; exact hox2 _ (Option.some.inj hres).symm
      have hres := hresO2
      rw [← hy2] at hres
      have l48 : b2.1.length = x2.length := by subst hb2; exact l22
      have hi52 : Inn hs25 b2.2 := by subst hb2; exact hi26
      refine JE.weak (env' := [(5, .slice a3 x2.length x2.length), (7, .slice a23 b2.2.length cp24)]) (es' := [rowT 2 eI64 a3 x2.length x2.length b2.1, rowT 34 eHd a23 b2.2.length cp24 hs25, innO 42 eSPoint none hs25 b2.2]) [0, 1, 2] ?_ ⟨(by subst hb2; rfl), (by subst hb2; first | rfl | (simp only [List.length_set, l22]; rfl) | simp only [List.length_set, l22]), trivial⟩ (by decide) (by subst hb2; first | rfl | (simp only [List.length_set, l22]; rfl) | simp only [List.length_set, l22])
      refine JE.code ?_
      refine JX.seq ?_
      refine JX.region ?_
      refine JL.val (yl_move rfl) rfl ?_
      refine JL.val (yl_move rfl) rfl ?_
      refine JL.val (yl_assign rfl) rfl ?_
      refine JL.val (yl_assign rfl) rfl ?_
      refine JL.nil ?_
      refine JE.weak (env' := [(2, .slice a23 b2.2.length cp24), (3, .slice a3 x2.length x2.length)]) (es' := [rowT 34 eHd a23 b2.2.length cp24 hs25, innO 42 eSPoint none hs25 b2.2, rowT 2 eI64 a3 x2.length x2.length b2.1]) [1, 2, 0] ?_ ⟨rfl, rfl, trivial⟩ (by decide) rfl
      refine JE.code ?_
      refine JX.ret ?_
      obtain rfl := Option.some.inj hres
      refine JE.ret (rs := [.tmp 2, .tmp 3]) (vs := [.slice a23 b2.2.length cp24, .slice a3 x2.length x2.length]) rfl ⟨rfl, rfl, trivial⟩ ?_
      exact fun w' hb hs => ⟨_, _, ⟨a23, b2.2.length, cp24, hs25, rfl, hi52, a3, x2.length, x2.length, l48, rfl, rfl⟩, rfl, hb, hs.sel [0, 1, 2] _ (by decide) rfl⟩

/- spec.l20Code -/
def sh99 (q0 : SPanel) (q1 : Int) (q2 : Int) : Option (List SPoint × Int) := Option.bind (sh139 q0) fun x1 => bif !x1 then (some (([] : List SPoint), 1)) else (Option.bind (sh147 q0) fun x3 => Option.bind (sh100 q1 0 (w64 (((x3.1.length : Nat) : Int) - 1))) fun x13 => Option.bind (bif !x13 then (some true) else (Option.bind (sh100 q2 1 1000) fun x15 => some !x15)) fun cb14 => (bif cb14 then (some (([] : List SPoint), 2)) else (Option.bind (getI x3.1 q1) fun x17 => some (x17, 0))))
def T99 (r : List SPoint × Int) (v : Value) (rs : List Own) : Prop := ∃ (a0 : Option Addr) (n0 c0 : Nat), r.1.length = n0 ∧ v = rets [.slice a0 n0 c0, .int .i64 r.2] ∧ rs = [rowT 42 eSPoint a0 n0 c0 r.1]
set_option maxRecDepth 100000 in
theorem c99 {w : World} {q0 : SPanel} {a_0 : Option Addr} {n_0 : Nat} {a_0_2 : Option Addr} {n_0_2 c_0_2 : Nat} (g_0 : RdAt w a_0 n_0 [.int .i64 q0.W, .int .i64 q0.H, .slice a_0_2 n_0_2 c_0_2]) (g_0_2 : Rd w a_0_2 (eI64.fl q0.Breaks)) (l_0_2 : q0.Breaks.length = n_0_2) (k_0_2 : n_0_2 ≤ c_0_2) {q1 : Int} {q2 : Int} {r : List SPoint × Int} (hres : sh99 q0 q1 q2 = some r) : Calls Go.Proofs.Try.prog 99 [ptrAt a_0 n_0, .int .i64 q1, .int .i64 q2].toArray w (Ret w (T99 r)) := by
  subst l_0_2
  obtain ⟨b_0, e_0, g_0⟩ := g_0.norm0
  rw [e_0]
  unfold sh99 at hres
  refine calls_of (n := 33) (M := []) (es := []) Go.Proofs.Try.func99 rfl rfl rfl (Sep.nil _ _ _) ?_
  refine JX.seq ?_
  refine JX.region ?_
  refine JL.val (yl_assign rfl) rfl ?_
  refine JL.val (yl_assign rfl) rfl ?_
  refine JL.nil ?_
  refine JE.code ?_
  refine JX.seq ?_
  refine JX.seq ?_
  refine JX.region ?_
  refine JL.val (yl_move rfl) rfl ?_
  obtain ⟨x1, hx1, hres⟩ := bind_some hres
  refine JL.eff (ef_call (T := T139 x1) Go.Proofs.Try.func139 rfl (by kernel_rfl) rfl (fun w hC => c139 (RdAt.of0 (rd_arg g_0 hC)) (rd_arg g_0_2 hC) rfl k_0_2 hx1)) rfl ?_
  rintro _ _ ⟨_, ⟨rfl, rfl⟩, rfl⟩
  refine JL.val (yl_not rfl) rfl ?_
  refine JL.nil ?_
  refine JE.code ?_
  rcases cond_some hres with ⟨hb, hres⟩ | ⟨hb, hres⟩
  · refine JX.condT rfl hb ?_
    refine JX.seq ?_
    refine JX.region ?_
    refine JL.val (yl_assign rfl) rfl ?_
    refine JL.val (yl_assign rfl) rfl ?_
    refine JL.nil ?_
    refine JE.code ?_
    refine JX.ret ?_
    refine JE.nilrow 42 eSPoint ?_
    obtain rfl := Option.some.inj hres
    refine JE.ret (rs := [.tmp 6, .tmp 7]) (vs := [.slice none 0 0, .int .i64 1]) rfl ⟨rfl, rfl, trivial⟩ ?_
    exact fun w' hb hs => ⟨_, _, ⟨none, 0, 0, rfl, rfl, rfl⟩, rfl, hb, hs.sel [0] _ (by decide) rfl⟩
  · refine JX.condF rfl hb ?_
    refine JX.skip ?_
    refine JE.code ?_
    refine JX.seq ?_
    refine JX.region ?_
    refine JL.val (yl_move rfl) rfl ?_
    obtain ⟨x3, hx3, hres⟩ := bind_some hres
    refine JL.eff (ef_call (T := T147 x3) Go.Proofs.Try.func147 rfl (by kernel_rfl) rfl (fun w hC => c147 (RdAt.of0 (rd_arg g_0 hC)) (rd_arg g_0_2 hC) rfl k_0_2 hx3)) rfl ?_
    rintro _ _ ⟨_, ⟨a4, _, cp5, hs7, rfl, hi8, a10, _, cp11, rfl, rfl, rfl⟩, rfl⟩
    refine JL.val (yl_move rfl) rfl ?_
    refine JL.val (yl_extract rfl rfl) rfl ?_
    refine JL.val (yl_extract rfl rfl) rfl ?_
    refine JL.val (yl_assign rfl) rfl ?_
    refine JL.val (yl_assign rfl) rfl ?_
    refine JL.nil ?_
    refine JE.weak (env' := [(1, .int .i64 q1), (2, .int .i64 q2), (8, .slice a4 x3.1.length cp5)]) (es' := [rowT 34 eHd a4 x3.1.length cp5 hs7, innO 42 eSPoint none hs7 x3.1]) [0, 1] ?_ ⟨rfl, rfl, rfl, trivial⟩ (by decide) rfl
    refine JE.code ?_
    refine JX.seq ?_
    refine JX.seq ?_
    refine JX.region ?_
    refine JL.val (yl_move rfl) rfl ?_
    refine JL.val (yl_move rfl) rfl ?_
    refine JL.val (yl_len_slice Go.Proofs.Try.underlying29 rfl) rfl ?_
    refine JL.val (yl_sub rfl rfl) rfl ?_
    obtain ⟨x13, hx13, hres⟩ := bind_some hres
    refine JL.eff (ef_call (T := T100 x13) Go.Proofs.Try.func100 rfl (by kernel_rfl) rfl (fun w hC => c100  hx13)) rfl ?_
    rintro _ _ ⟨_, ⟨rfl, rfl⟩, rfl⟩
    refine JL.val (yl_not rfl) rfl ?_
    refine JL.val (yl_move rfl) rfl ?_
    obtain ⟨cb14, hcb14, hres⟩ := bind_some hres
    refine JL.cut (K := fun J => J [(1, .int .i64 q1), (8, .slice a4 x3.1.length cp5), (28, .bool cb14)] [rowT 34 eHd a4 x3.1.length cp5 hs7, innO 42 eSPoint none hs7 x3.1]) 4 ?_ ?_
    · refine JL.nil ?_
      refine JE.weak (env' := [(1, .int .i64 q1), (8, .slice a4 x3.1.length cp5), (28, .bool cb14)]) (es' := [rowT 34 eHd a4 x3.1.length cp5 hs7, innO 42 eSPoint none hs7 x3.1]) [0, 1] ?_ ⟨rfl, rfl, rfl, trivial⟩ (by decide) rfl
      refine JE.code ?_
      rcases cond_some hres with ⟨hb, hres⟩ | ⟨hb, hres⟩
      · refine JX.condT rfl hb ?_
        refine JX.seq ?_
        refine JX.region ?_
        refine JL.val (yl_assign rfl) rfl ?_
        refine JL.val (yl_assign rfl) rfl ?_
        refine JL.nil ?_
        refine JE.weak (env' := [(6, .slice none 0 0), (7, .int .i64 2)]) (es' := []) [] ?_ ⟨rfl, rfl, trivial⟩ (by decide) rfl
        refine JE.code ?_
        refine JX.ret ?_
        refine JE.nilrow 42 eSPoint ?_
        obtain rfl := Option.some.inj hres
        refine JE.ret (rs := [.tmp 6, .tmp 7]) (vs := [.slice none 0 0, .int .i64 2]) rfl ⟨rfl, rfl, trivial⟩ ?_
        exact fun w' hb hs => ⟨_, _, ⟨none, 0, 0, rfl, rfl, rfl⟩, rfl, hb, hs.sel [0] _ (by decide) rfl⟩
      · refine JX.condF rfl hb ?_
        refine JX.skip ?_
        refine JE.code ?_
        refine JX.seq ?_
        refine JX.region ?_
        refine JL.val (yl_move rfl) rfl ?_
        refine JL.val (yl_move rfl) rfl ?_
        obtain ⟨x17, hx17, hres⟩ := bind_some hres
        obtain ⟨ha18, hc19, hhx17⟩ := Inn.sub hi8 hx17
        refine JL.val (yl_idxT Go.Proofs.Try.underlying29 i34 i34s rfl rfl hhx17 (Inn.len hi8) (fun w hC => rd_row hC 0 rfl)) rfl ?_
        refine JL.val (yl_loadT0 (z := ⟨ha18, x17.length, hc19⟩) Go.Proofs.Try.underlying34 rfl rfl hhx17 (fun w hC => rd_row hC 0 rfl) rfl) rfl ?_
        refine JL.val (yl_assign rfl) rfl ?_
        refine JL.val (yl_assign rfl) rfl ?_
        refine JL.nil ?_
        refine JE.weak (env' := [(6, .slice ha18 x17.length hc19), (7, .int .i64 0)]) (es' := [rowT 34 eHd a4 x3.1.length cp5 hs7, innO 42 eSPoint none hs7 x3.1]) [0, 1] ?_ ⟨rfl, rfl, trivial⟩ (by decide) rfl
        refine JE.code ?_
        refine JX.ret ?_
        refine JE.focus (es' := [rowT 34 eHd a4 x3.1.length cp5 hs7]) [0, 1] (by decide) rfl hhx17 hx17 ?_
        obtain rfl := Option.some.inj hres
        refine JE.ret (rs := [.tmp 6, .tmp 7]) (vs := [.slice ha18 x17.length hc19, .int .i64 0]) rfl ⟨rfl, rfl, trivial⟩ ?_
        exact fun w' hb hs => ⟨_, _, ⟨ha18, x17.length, hc19, rfl, rfl, rfl⟩, rfl, hb, hs.sel [2] _ (by decide) rfl⟩
    · intro K
      rcases cond_some hcb14 with ⟨hb, hres⟩ | ⟨hb, hres⟩
      · refine JL.set (d := 24) (v := .bool true) (congrArg (fun b => some (Value.bool b)) hb) ?_
        refine JL.gskip rfl rfl rfl rfl ?_
        refine JL.gskip rfl rfl rfl rfl ?_
        refine JL.gskip rfl rfl rfl rfl ?_
        refine JL.val (yl_pick_true rfl rfl) rfl ?_
        have he := Option.some.inj hres
        exact JL.weak [0, 1] K ⟨rfl, rfl, (by rw [← he]; rfl), trivial⟩ (by decide) rfl
      · refine JL.set (d := 24) (v := .bool false) (congrArg (fun b => some (Value.bool b)) hb) ?_
        refine JL.gval rfl rfl (yl_move rfl) rfl ?_
        obtain ⟨x15, hx15, hres⟩ := bind_some hres
        refine JL.geff rfl rfl (ef_call (T := T100 x15) Go.Proofs.Try.func100 rfl (by kernel_rfl) rfl (fun w hC => c100  hx15)) rfl ?_
        rintro _ _ ⟨_, ⟨rfl, rfl⟩, rfl⟩
        refine JL.gval rfl rfl (yl_not rfl) rfl ?_
        refine JL.val (yl_pick_false rfl rfl) rfl ?_
        have he := Option.some.inj hres
        exact JL.weak [0, 1] K ⟨rfl, rfl, (by rw [← he]; rfl), trivial⟩ (by decide) rfl

/- spec.l22Code -/
def sh146 (q0 : SPanel) (q1 : Int) (q2 : Int) (q3 : Int) (q4 : Int) : Option (List SPoint × Int) := Option.bind (sh99 q0 q1 q2) fun x1 => Option.bind (bif x1.2 == 0 then (Option.bind (sh100 q3 1 500) fun x6 => Option.bind (bif !x6 then (some true) else (Option.bind (sh100 q4 1 500) fun x8 => some !x8)) fun cb7 => (some cb7)) else (some false)) fun cb5 => (Option.bind (bif cb5 then (some 2) else (some x1.2)) fun j9 => (some (x1.1, j9)))
def T146 (r : List SPoint × Int) (v : Value) (rs : List Own) : Prop := ∃ (a0 : Option Addr) (n0 c0 : Nat), r.1.length = n0 ∧ v = rets [.slice a0 n0 c0, .int .i64 r.2] ∧ rs = [rowT 42 eSPoint a0 n0 c0 r.1]
set_option maxRecDepth 100000 in
theorem c146 {w : World} {q0 : SPanel} {a_0 : Option Addr} {n_0 : Nat} {a_0_2 : Option Addr} {n_0_2 c_0_2 : Nat} (g_0 : RdAt w a_0 n_0 [.int .i64 q0.W, .int .i64 q0.H, .slice a_0_2 n_0_2 c_0_2]) (g_0_2 : Rd w a_0_2 (eI64.fl q0.Breaks)) (l_0_2 : q0.Breaks.length = n_0_2) (k_0_2 : n_0_2 ≤ c_0_2) {q1 : Int} {q2 : Int} {q3 : Int} {q4 : Int} {r : List SPoint × Int} (hres : sh146 q0 q1 q2 q3 q4 = some r) : Calls Go.Proofs.Try.prog 146 [ptrAt a_0 n_0, .int .i64 q1, .int .i64 q2, .int .i64 q3, .int .i64 q4].toArray w (Ret w (T146 r)) := by
  subst l_0_2
  obtain ⟨b_0, e_0, g_0⟩ := g_0.norm0
  rw [e_0]
  unfold sh146 at hres
  refine calls_of (n := 35) (M := []) (es := []) Go.Proofs.Try.func146 rfl rfl rfl (Sep.nil _ _ _) ?_
  refine JX.seq ?_
  refine JX.region ?_
  refine JL.val (yl_assign rfl) rfl ?_
  refine JL.val (yl_assign rfl) rfl ?_
  refine JL.nil ?_
  refine JE.code ?_
  refine JX.seq ?_
  refine JX.region ?_
  refine JL.val (yl_move rfl) rfl ?_
  refine JL.val (yl_move rfl) rfl ?_
  refine JL.val (yl_move rfl) rfl ?_
  obtain ⟨x1, hx1, hres⟩ := bind_some hres
  refine JL.eff (ef_call (T := T99 x1) Go.Proofs.Try.func99 rfl (by kernel_rfl) rfl (fun w hC => c99 (RdAt.of0 (rd_arg g_0 hC)) (rd_arg g_0_2 hC) rfl k_0_2 hx1)) rfl ?_
  rintro _ _ ⟨_, ⟨a2, _, cp3, rfl, rfl, rfl⟩, rfl⟩
  refine JL.val (yl_move rfl) rfl ?_
  refine JL.val (yl_extract rfl rfl) rfl ?_
  refine JL.val (yl_extract rfl rfl) rfl ?_
  refine JL.val (yl_assign rfl) rfl ?_
  refine JL.val (yl_assign rfl) rfl ?_
  refine JL.nil ?_
  refine JE.weak (env' := [(3, .int .i64 q3), (4, .int .i64 q4), (12, .slice a2 x1.1.length cp3), (13, .int .i64 x1.2)]) (es' := [rowT 42 eSPoint a2 x1.1.length cp3 x1.1]) [0] ?_ ⟨rfl, rfl, rfl, rfl, trivial⟩ (by decide) rfl
  refine JE.code ?_
  refine JX.seq ?_
  refine JX.seq ?_
  refine JX.region ?_
  refine JL.val (yl_move rfl) rfl ?_
  refine JL.val (yl_eql rfl rfl) rfl ?_
  refine JL.val (yl_move rfl) rfl ?_
  obtain ⟨cb5, hcb5, hres⟩ := bind_some hres
  refine JL.cut (K := fun J => J [(12, .slice a2 x1.1.length cp3), (13, .int .i64 x1.2), (32, .bool cb5)] [rowT 42 eSPoint a2 x1.1.length cp3 x1.1]) 9 ?_ ?_
  · refine JL.nil ?_
    refine JE.weak (env' := [(12, .slice a2 x1.1.length cp3), (13, .int .i64 x1.2), (32, .bool cb5)]) (es' := [rowT 42 eSPoint a2 x1.1.length cp3 x1.1]) [0] ?_ ⟨rfl, rfl, rfl, trivial⟩ (by decide) rfl
    refine JE.code ?_
    obtain ⟨j9, hj9, hresj9⟩ := bind_some hres
    refine JX.cut (K := fun J => J [(12, .slice a2 x1.1.length cp3), (13, .int .i64 j9)] [rowT 42 eSPoint a2 x1.1.length cp3 x1.1]) ?_ ?_
    · have hres := hresj9
      refine JE.code ?_
      refine JX.seq ?_
      refine JX.region ?_
      refine JL.val (yl_move rfl) rfl ?_
      refine JL.val (yl_move rfl) rfl ?_
      refine JL.val (yl_assign rfl) rfl ?_
      refine JL.val (yl_assign rfl) rfl ?_
      refine JL.nil ?_
      refine JE.weak (env' := [(10, .slice a2 x1.1.length cp3), (11, .int .i64 j9)]) (es' := [rowT 42 eSPoint a2 x1.1.length cp3 x1.1]) [0] ?_ ⟨rfl, rfl, trivial⟩ (by decide) rfl
      refine JE.code ?_
      refine JX.ret ?_
      obtain rfl := Option.some.inj hres
      refine JE.ret (rs := [.tmp 10, .tmp 11]) (vs := [.slice a2 x1.1.length cp3, .int .i64 j9]) rfl ⟨rfl, rfl, trivial⟩ ?_
      exact fun w' hb hs => ⟨_, _, ⟨a2, x1.1.length, cp3, rfl, rfl, rfl⟩, rfl, hb, hs.sel [0] _ (by decide) rfl⟩
    · intro K
      rcases cond_some hj9 with ⟨hb, hres⟩ | ⟨hb, hres⟩
      · refine JX.condT rfl hb ?_
        refine JX.region ?_
        refine JL.val (yl_assign rfl) rfl ?_
        refine JL.nil ?_
        have hj := Option.some.inj hres
        exact JE.weak [0] (K) ⟨(by subst hj; rfl), (by subst hj; rfl), trivial⟩ (by decide) (by subst hj; rfl)
      · refine JX.condF rfl hb ?_
        refine JX.skip ?_
        have hj := Option.some.inj hres
        exact JE.weak [0] (K) ⟨(by subst hj; rfl), (by subst hj; rfl), trivial⟩ (by decide) (by subst hj; rfl)
  · intro K
    rcases cond_some hcb5 with ⟨hb, hres⟩ | ⟨hb, hres⟩
    · refine JL.set (d := 23) (v := .bool true) (congrArg (fun b => some (Value.bool b)) hb) ?_
      refine JL.gval rfl rfl (yl_move rfl) rfl ?_
      obtain ⟨x6, hx6, hres⟩ := bind_some hres
      refine JL.geff rfl rfl (ef_call (T := T100 x6) Go.Proofs.Try.func100 rfl (by kernel_rfl) rfl (fun w hC => c100  hx6)) rfl ?_
      rintro _ _ ⟨_, ⟨rfl, rfl⟩, rfl⟩
      refine JL.gval rfl rfl (yl_not rfl) rfl ?_
      refine JL.gval rfl rfl (yl_move rfl) rfl ?_
      obtain ⟨cb7, hcb7, hres⟩ := bind_some hres
      refine JL.cut (K := fun J => J [(12, .slice a2 x1.1.length cp3), (13, .int .i64 x1.2), (23, .bool true), (31, .bool cb7)] [rowT 42 eSPoint a2 x1.1.length cp3 x1.1]) 4 ?_ ?_
      · refine JL.val (yl_pick_true rfl rfl) rfl ?_
        have he := Option.some.inj hres
        exact JL.weak [0] K ⟨rfl, rfl, (by rw [← he]; rfl), trivial⟩ (by decide) rfl
      · intro K
        rcases cond_some hcb7 with ⟨hb, hres⟩ | ⟨hb, hres⟩
        · refine JL.set (d := 27) (v := .bool true) (congrArg (fun b => some (Value.bool b)) hb) ?_
          refine JL.gskip rfl rfl rfl rfl ?_
          refine JL.gskip rfl rfl rfl rfl ?_
          refine JL.gskip rfl rfl rfl rfl ?_
          refine JL.gval rfl rfl (yl_pick_true rfl rfl) rfl ?_
          have he := Option.some.inj hres
          exact JL.weak [0] K ⟨rfl, rfl, rfl, (by rw [← he]; rfl), trivial⟩ (by decide) rfl
        · refine JL.set (d := 27) (v := .bool false) (congrArg (fun b => some (Value.bool b)) hb) ?_
          refine JL.gval rfl rfl (yl_move rfl) rfl ?_
          obtain ⟨x8, hx8, hres⟩ := bind_some hres
          refine JL.geff rfl rfl (ef_call (T := T100 x8) Go.Proofs.Try.func100 rfl (by kernel_rfl) rfl (fun w hC => c100  hx8)) rfl ?_
          rintro _ _ ⟨_, ⟨rfl, rfl⟩, rfl⟩
          refine JL.gval rfl rfl (yl_not rfl) rfl ?_
          refine JL.gval rfl rfl (yl_pick_false rfl rfl) rfl ?_
          have he := Option.some.inj hres
          exact JL.weak [0] K ⟨rfl, rfl, rfl, (by rw [← he]; rfl), trivial⟩ (by decide) rfl
    · refine JL.set (d := 23) (v := .bool false) (congrArg (fun b => some (Value.bool b)) hb) ?_
      refine JL.gskip rfl rfl rfl rfl ?_
      refine JL.gskip rfl rfl rfl rfl ?_
      refine JL.gskip rfl rfl rfl rfl ?_
      refine JL.gskip rfl rfl rfl rfl ?_
      refine JL.gnone rfl rfl rfl ?_
      refine JL.gnone rfl rfl rfl ?_
      refine JL.gnone rfl rfl rfl ?_
      refine JL.gskip rfl rfl rfl rfl ?_
      refine JL.val (yl_pick_false rfl rfl) rfl ?_
      have he := Option.some.inj hres
      exact JL.weak [0] K ⟨rfl, rfl, (by rw [← he]; rfl), trivial⟩ (by decide) rfl

/- spec.l00Max -/
def sh182 (q0 : Int) (q1 : Int) : Option (Int) := bif decide (q1 < q0) then (some q0) else (some q1)
def T182 (r : Int) (v : Value) (rs : List Own) : Prop := v = rets [.int .i64 r] ∧ rs = []
set_option maxRecDepth 100000 in
theorem c182 {w : World} {q0 : Int} {q1 : Int} {r : Int} (hres : sh182 q0 q1 = some r) : Calls Go.Proofs.Try.prog 182 [.int .i64 q0, .int .i64 q1].toArray w (Ret w (T182 r)) := by
  unfold sh182 at hres
  refine calls_of (n := 10) (M := []) (es := []) Go.Proofs.Try.func182 rfl rfl rfl (Sep.nil _ _ _) ?_
  refine JX.seq ?_
  refine JX.region ?_
  refine JL.val (yl_assign rfl) rfl ?_
  refine JL.nil ?_
  refine JE.code ?_
  refine JX.seq ?_
  refine JX.seq ?_
  refine JX.region ?_
  refine JL.val (yl_move rfl) rfl ?_
  refine JL.val (yl_move rfl) rfl ?_
  refine JL.val (yl_gtr rfl rfl) rfl ?_
  refine JL.nil ?_
  refine JE.code ?_
  rcases cond_some hres with ⟨hb, hres⟩ | ⟨hb, hres⟩
  · refine JX.condT rfl hb ?_
    refine JX.seq ?_
    refine JX.region ?_
    refine JL.val (yl_move rfl) rfl ?_
    refine JL.val (yl_assign rfl) rfl ?_
    refine JL.nil ?_
    refine JE.code ?_
    refine JX.ret ?_
    obtain rfl := Option.some.inj hres
    refine JE.ret (rs := [.tmp 4]) (vs := [.int .i64 q0]) rfl ⟨rfl, trivial⟩ ?_
    exact fun w' hb hs => ⟨_, _, ⟨rfl, rfl⟩, rfl, hb, hs.sel [] _ (by decide) rfl⟩
  · refine JX.condF rfl hb ?_
    refine JX.skip ?_
    refine JE.code ?_
    refine JX.seq ?_
    refine JX.region ?_
    refine JL.val (yl_move rfl) rfl ?_
    refine JL.val (yl_assign rfl) rfl ?_
    refine JL.nil ?_
    refine JE.code ?_
    refine JX.ret ?_
    obtain rfl := Option.some.inj hres
    refine JE.ret (rs := [.tmp 4]) (vs := [.int .i64 q1]) rfl ⟨rfl, trivial⟩ ?_
    exact fun w' hb hs => ⟨_, _, ⟨rfl, rfl⟩, rfl, hb, hs.sel [] _ (by decide) rfl⟩

/- spec.l10Away -/
def sh114 (q0 : Int) (q1 : Int) : Option (Int) := Option.bind (sh182 (w64 (q0 - q1)) (w64 (q1 - q0))) fun x1 => some x1
def T114 (r : Int) (v : Value) (rs : List Own) : Prop := v = rets [.int .i64 r] ∧ rs = []
set_option maxRecDepth 100000 in
theorem c114 {w : World} {q0 : Int} {q1 : Int} {r : Int} (hres : sh114 q0 q1 = some r) : Calls Go.Proofs.Try.prog 114 [.int .i64 q0, .int .i64 q1].toArray w (Ret w (T114 r)) := by
  unfold sh114 at hres
  refine calls_of (n := 12) (M := []) (es := []) Go.Proofs.Try.func114 rfl rfl rfl (Sep.nil _ _ _) ?_
  refine JX.seq ?_
  refine JX.region ?_
  refine JL.val (yl_assign rfl) rfl ?_
  refine JL.nil ?_
  refine JE.code ?_
  refine JX.seq ?_
  refine JX.region ?_
  refine JL.val (yl_move rfl) rfl ?_
  refine JL.val (yl_move rfl) rfl ?_
  refine JL.val (yl_sub rfl rfl) rfl ?_
  refine JL.val (yl_move rfl) rfl ?_
  refine JL.val (yl_move rfl) rfl ?_
  refine JL.val (yl_sub rfl rfl) rfl ?_
  obtain ⟨x1, hx1, hres⟩ := bind_some hres
  refine JL.eff (ef_call (T := T182 x1) Go.Proofs.Try.func182 rfl (by kernel_rfl) rfl (fun w hC => c182  hx1)) rfl ?_
  rintro _ _ ⟨_, ⟨rfl, rfl⟩, rfl⟩
  refine JL.val (yl_assign rfl) rfl ?_
  refine JL.nil ?_
  refine JE.weak (env' := [(4, .int .i64 x1)]) (es' := []) [] ?_ ⟨rfl, trivial⟩ (by decide) rfl
  refine JE.code ?_
  refine JX.ret ?_
  obtain rfl := Option.some.inj hres
  refine JE.ret (rs := [.tmp 4]) (vs := [.int .i64 x1]) rfl ⟨rfl, trivial⟩ ?_
  exact fun w' hb hs => ⟨_, _, ⟨rfl, rfl⟩, rfl, hb, hs.sel [] _ (by decide) rfl⟩

/- spec.l22Order -/
def sh148_2 (q0 : List (List SPoint)) (x13 : SPoint) (x12 : List Bool) : (Int × Int × Int) → Option ((Int × Int × Int) ⊕ (Int))
  | (x17, x18, x19) => bif decide (x19 < ((q0.length : Nat) : Int)) then (Option.bind (getI q0 x19) fun x20 => Option.bind (getI x20 (0 : Int)) fun x24 => Option.bind (sh114 x24.X x13.X) fun x28 => Option.bind (sh114 x24.Y x13.Y) fun x29 => Option.bind (getI x12 x19) fun x30 => Option.bind (bif !x30 && ((decide (x17 < 0)) || (decide ((w64 (x28 + x29)) < x18))) then (some (x19, w64 (x28 + x29))) else (some (x17, x18))) fun j31 => (some (.inl (j31.1, j31.2, w64 (x19 + 1))))) else (some (.inr x17))
def sh148_1 (q0 : List (List SPoint)) : (List Int × List Bool × SPoint) → Option ((List Int × List Bool × SPoint) ⊕ (List Int))
  | (x11, x12, x13) => bif decide ((x11.length : Int) < ((q0.length : Nat) : Int)) then (Option.bind (iter (sh148_2 q0 x13 x12) ((-1), 0, 0)) fun b2 => (Option.bind (getI x12 b2) fun x32 => Option.bind (getI q0 b2) fun x33 => Option.bind (getI x33 (0 : Int)) fun x37 => Option.bind (appL x11 [b2]) fun x40 => some (.inl (x40, x12.set (b2).toNat true, x37)))) else (some (.inr x11))
def sh148 (q0 : List (List SPoint)) : Option (List Int) := Option.bind (mkL ((q0.length : Nat) : Int) false) fun x3 => Option.bind (iter (sh148_1 q0) (([] : List Int), x3, SPoint.mk 0 0)) fun b1 => (some b1)
def T148 (r : List Int) (v : Value) (rs : List Own) : Prop := ∃ (a0 : Option Addr) (n0 c0 : Nat), r.length = n0 ∧ v = rets [.slice a0 n0 c0] ∧ rs = [rowT 2 eI64 a0 n0 c0 r]
set_option maxRecDepth 100000 in
set_option maxHeartbeats 1000000 in
theorem c148 {w : World} {q0 : List (List SPoint)} {a_0 : Option Addr} {n_0 c_0 : Nat} {h_0 : List Hd} (g_0 : Rd w a_0 (eHd.fl h_0)) (r_0 : RdI w eSPoint h_0 q0) (i_0 : Inn h_0 q0) (l_0 : q0.length = n_0) (k_0 : n_0 ≤ c_0) {r : List Int} (hres : sh148 q0 = some r) : Calls Go.Proofs.Try.prog 148 [.slice a_0 n_0 c_0].toArray w (Ret w (T148 r)) := by
  subst l_0
  unfold sh148 at hres
  refine calls_of (n := 74) (M := []) (es := []) Go.Proofs.Try.func148 rfl rfl rfl (Sep.nil _ _ _) ?_
  refine JX.seq ?_
  refine JX.region ?_
  refine JL.val (yl_assign rfl) rfl ?_
  refine JL.nil ?_
  refine JE.code ?_
  refine JX.seq ?_
  refine JX.region ?_
  refine JL.eff (ef_buildSlice (E := 2) (k := eI64.k) (us := eI64.fl ([] : List Int)) rfl (fun w => bsl24_0  w) rfl (by decide)) rfl ?_
  rintro _ _ ⟨a1, rfl, rfl⟩
  refine JL.val (yl_assign rfl) rfl ?_
  refine JL.nil ?_
  refine JE.code ?_
  refine JX.seq ?_
  refine JX.region ?_
  refine JL.val (yl_move rfl) rfl ?_
  refine JL.val (yl_len_slice Go.Proofs.Try.underlying29 rfl) rfl ?_
  obtain ⟨x3, hx3, hres⟩ := bind_some hres
  refine JL.eff (ef_makeS (e := eBool) Go.Proofs.Try.underlying182 i4 i4s i4z rfl i4b1 rfl rfl hx3) rfl ?_
  rintro _ _ ⟨a4, rfl, rfl⟩
  refine JL.val (yl_assign rfl) rfl ?_
  refine JL.nil ?_
  refine JE.weak (env' := [(0, .slice a_0 q0.length c_0), (3, .slice a1 0 0), (4, .slice a4 x3.length x3.length)]) (es' := [rowT 2 eI64 a1 0 0 ([] : List Int), rowT 4 eBool a4 x3.length x3.length x3]) [0, 1] ?_ ⟨rfl, rfl, rfl, trivial⟩ (by decide) rfl
  refine JE.code ?_
  refine JX.seq ?_
  refine JX.region ?_
  refine JL.val (yl_build rfl (fun w => bld42_  w)) rfl ?_
  refine JL.eff (ef_alloc i42 i42z rfl) rfl ?_
  rintro _ _ ⟨g6, rfl, rfl⟩
  refine JL.eff (ef_store_box (i := 2) (v := .agg #[.int .i64 0, .int .i64 0]) i42 rfl rfl rfl (i42s).symm (Nat.le_of_ble_eq_true rfl) (by simp [Value.cells, Value.oneCell'])) rfl ?_
  rintro _ _ rfl
  refine JL.nil ?_
  refine JE.code ?_
  refine JX.seq ?_
  refine JX.block ?_
  obtain ⟨y1, hy1, hresO1⟩ := bind_some hres
  refine JX.loop (I := fun (s1 : List Int × List Bool × SPoint) aa ww => ∃ (a8 : Option Addr) (cp9 : Nat) (l10 : s1.2.1.length = x3.length), St w [] 74 [(0, .slice a_0 q0.length c_0), (3, .slice a8 s1.1.length cp9), (4, .slice a4 x3.length x3.length), (5, ptrAt (some ⟨g6, 0, none⟩) 0)] [rowT 2 eI64 a8 s1.1.length cp9 s1.1, rowT 4 eBool a4 x3.length x3.length s1.2.1, boxO 42 g6 [.int .i64 s1.2.2.X, .int .i64 s1.2.2.Y]] aa ww) (sh148_1 q0) hy1 (fun a w h => ⟨a1, 0, rfl, h.weak ⟨rfl, rfl, rfl, rfl, trivial⟩ [0, 1, 2] (by decide) rfl⟩) ?_
  rintro ⟨x11, x12, x13⟩ o1 hres hox1 aa ww ⟨a14, cp15, l16, hS⟩
  refine (?_ : JX Go.Proofs.Try.prog w [] 74 _ _ [(0, .slice a_0 q0.length c_0), (3, .slice a14 x11.length cp15), (4, .slice a4 x3.length x3.length), (5, ptrAt (some ⟨g6, 0, none⟩) 0)] [rowT 2 eI64 a14 x11.length cp15 x11, rowT 4 eBool a4 x3.length x3.length x12, boxO 42 g6 [.int .i64 x13.X, .int .i64 x13.Y]] _) aa ww hS
  clear hS
  simp only [sh148_1] at hres
  refine JX.seq ?_
  refine JX.seq ?_
  refine JX.region ?_
  refine JL.val (yl_move rfl) rfl ?_
  refine JL.val (yl_len_slice Go.Proofs.Try.underlying24 rfl) rfl ?_
  refine JL.val (yl_move rfl) rfl ?_
  refine JL.val (yl_len_slice Go.Proofs.Try.underlying29 rfl) rfl ?_
  refine JL.val (yl_lss rfl rfl) rfl ?_
  refine JL.nil ?_
  refine JE.weak (env' := [(0, .slice a_0 q0.length c_0), (3, .slice a14 x11.length cp15), (4, .slice a4 x3.length x3.length), (5, ptrAt (some ⟨g6, 0, none⟩) 0), (20, .bool (decide ((x11.length : Int) < ((q0.length : Nat) : Int))))]) (es' := [rowT 2 eI64 a14 x11.length cp15 x11, rowT 4 eBool a4 x3.length x3.length x12, boxO 42 g6 [.int .i64 x13.X, .int .i64 x13.Y]]) [0, 1, 2] ?_ ⟨rfl, rfl, rfl, rfl, rfl, trivial⟩ (by decide) rfl
  refine JE.code ?_
  rcases cond_some hres with ⟨hb, hres⟩ | ⟨hb, hres⟩
  · refine JX.condT rfl hb ?_
    refine JX.skip ?_
    refine JE.code ?_
    refine JX.block ?_
    refine JX.seq ?_
    refine JX.region ?_
    refine JL.val (yl_assign rfl) rfl ?_
    refine JL.nil ?_
    refine JE.code ?_
    refine JX.seq ?_
    refine JX.region ?_
    refine JL.val (yl_assign rfl) rfl ?_
    refine JL.nil ?_
    refine JE.code ?_
    refine JX.seq ?_
    refine JX.seq ?_
    refine JX.region ?_
    refine JL.val (yl_assign rfl) rfl ?_
    refine JL.nil ?_
    refine JE.code ?_
    refine JX.block ?_
    obtain ⟨y2, hy2, hresO2⟩ := bind_some hres
    refine JX.loop (I := fun (s2 : Int × Int × Int) aa ww => St w [] 74 [(0, .slice a_0 q0.length c_0), (3, .slice a14 x11.length cp15), (4, .slice a4 x3.length x3.length), (5, ptrAt (some ⟨g6, 0, none⟩) 0), (6, .int .i64 s2.1), (7, .int .i64 s2.2.1), (8, .int .i64 s2.2.2)] [rowT 2 eI64 a14 x11.length cp15 x11, rowT 4 eBool a4 x3.length x3.length x12, boxO 42 g6 [.int .i64 x13.X, .int .i64 x13.Y]] aa ww) (sh148_2 q0 x13 x12) hy2 (fun a w h => h.weak ⟨rfl, rfl, rfl, rfl, rfl, rfl, rfl, trivial⟩ [0, 1, 2] (by decide) rfl) ?_
    rintro ⟨x17, x18, x19⟩ o2 hres hox2 aa ww hS
    refine (?_ : JX Go.Proofs.Try.prog w [] 74 _ _ [(0, .slice a_0 q0.length c_0), (3, .slice a14 x11.length cp15), (4, .slice a4 x3.length x3.length), (5, ptrAt (some ⟨g6, 0, none⟩) 0), (6, .int .i64 x17), (7, .int .i64 x18), (8, .int .i64 x19)] [rowT 2 eI64 a14 x11.length cp15 x11, rowT 4 eBool a4 x3.length x3.length x12, boxO 42 g6 [.int .i64 x13.X, .int .i64 x13.Y]] _) aa ww hS
    clear hS
    simp only [sh148_2] at hres
    refine JX.seq ?_
    refine JX.seq ?_
    refine JX.region ?_
    refine JL.val (yl_move rfl) rfl ?_
    refine JL.val (yl_move rfl) rfl ?_
    refine JL.val (yl_len_slice Go.Proofs.Try.underlying29 rfl) rfl ?_
    refine JL.val (yl_lss rfl rfl) rfl ?_
    refine JL.nil ?_
    refine JE.weak (env' := [(0, .slice a_0 q0.length c_0), (3, .slice a14 x11.length cp15), (4, .slice a4 x3.length x3.length), (5, ptrAt (some ⟨g6, 0, none⟩) 0), (6, .int .i64 x17), (7, .int .i64 x18), (8, .int .i64 x19), (24, .bool (decide (x19 < ((q0.length : Nat) : Int))))]) (es' := [rowT 2 eI64 a14 x11.length cp15 x11, rowT 4 eBool a4 x3.length x3.length x12, boxO 42 g6 [.int .i64 x13.X, .int .i64 x13.Y]]) [0, 1, 2] ?_ ⟨rfl, rfl, rfl, rfl, rfl, rfl, rfl, rfl, trivial⟩ (by decide) rfl
    refine JE.code ?_
    rcases cond_some hres with ⟨hb, hres⟩ | ⟨hb, hres⟩
    · refine JX.condT rfl hb ?_
      refine JX.skip ?_
      refine JE.code ?_
      refine JX.seq ?_
      refine JX.block ?_
      refine JX.seq ?_
      refine JX.region ?_
      refine JL.val (yl_move rfl) rfl ?_
      refine JL.val (yl_move rfl) rfl ?_
      obtain ⟨x20, hx20, hres⟩ := bind_some hres
      obtain ⟨ha21, hc22, hhx20⟩ := Inn.sub i_0 hx20
      refine JL.val (yl_idxT Go.Proofs.Try.underlying29 i34 i34s rfl rfl hhx20 (Inn.len i_0) (fun w hC => rd_arg g_0 hC)) rfl ?_
      refine JL.val (yl_loadT0 (z := ⟨ha21, x20.length, hc22⟩) Go.Proofs.Try.underlying34 rfl rfl hhx20 (fun w hC => rd_arg g_0 hC) rfl) rfl ?_
      obtain ⟨x24, hx24, hres⟩ := bind_some hres
      refine JL.val (yl_idxT Go.Proofs.Try.underlying34 i42 i42s rfl rfl hx24 rfl (fun w hC => rd_arg (RdI.sub r_0 hx20 hhx20) hC)) rfl ?_
      refine JL.val (yl_loadTn Go.Proofs.Try.underlying42 rfl i42 i42s rfl hx24 (fun w hC => rd_arg (RdI.sub r_0 hx20 hhx20) hC)) rfl ?_
      refine JL.eff (ef_alloc i42 i42z rfl) rfl ?_
      rintro _ _ ⟨g25, rfl, rfl⟩
      refine JL.eff (ef_store_box (i := 3) (v := .agg #[.int .i64 x24.X, .int .i64 x24.Y]) i42 rfl rfl rfl (i42s).symm (Nat.le_of_ble_eq_true rfl) (by simp [Value.cells, Value.oneCell'])) rfl ?_
      rintro _ _ rfl
      refine JL.nil ?_
      refine JE.weak (env' := [(0, .slice a_0 q0.length c_0), (3, .slice a14 x11.length cp15), (4, .slice a4 x3.length x3.length), (5, ptrAt (some ⟨g6, 0, none⟩) 0), (6, .int .i64 x17), (7, .int .i64 x18), (8, .int .i64 x19), (9, ptrAt (some ⟨g25, 0, none⟩) 0)]) (es' := [rowT 2 eI64 a14 x11.length cp15 x11, rowT 4 eBool a4 x3.length x3.length x12, boxO 42 g6 [.int .i64 x13.X, .int .i64 x13.Y], boxO 42 g25 [.int .i64 x24.X, .int .i64 x24.Y]]) [0, 1, 2, 3] ?_ ⟨rfl, rfl, rfl, rfl, rfl, rfl, rfl, rfl, trivial⟩ (by decide) rfl
      refine JE.code ?_
      refine JX.seq ?_
      refine JX.drawH [(0, .pure), (1, .read), (2, .pure), (3, .read), (5, .pure), (6, .read), (7, .pure), (8, .read), (4, .must), (9, .must), (10, .pure), (11, .pure)] [] [] [0, 1, 2, 3] [] [rowT 2 eI64 a14 x11.length cp15 x11, rowT 4 eBool a4 x3.length x3.length x12, boxO 42 g6 [.int .i64 x13.X, .int .i64 x13.Y], boxO 42 g25 [.int .i64 x24.X, .int .i64 x24.Y]] mixedP (by kernel_rfl) (by kernel_rfl) (by decide) rfl rfl ?_
      intro wrr27 Nr27 hFr27
      refine JH.pure rfl (yl_fieldAt (a := some _) Go.Proofs.Try.underlying42 rfl i2 i2n rfl rfl) rfl ?_
      refine JH.read rfl (yl_load1 Go.Proofs.Try.underlying2 rfl rfl (fun w hw => hFr27.box 3 rfl rfl hw) rfl) rfl ?_
      refine JH.pure rfl (yl_fieldAt (a := some _) Go.Proofs.Try.underlying42 rfl i2 i2n rfl rfl) rfl ?_
      refine JH.read rfl (yl_load1 Go.Proofs.Try.underlying2 rfl rfl (fun w hw => hFr27.box 2 rfl rfl hw) rfl) rfl ?_
      refine JH.pure rfl (yl_fieldAt (a := some _) Go.Proofs.Try.underlying42 rfl i2 i2n rfl rfl) rfl ?_
      refine JH.read rfl (yl_load1 Go.Proofs.Try.underlying2 rfl rfl (fun w hw => hFr27.box 3 rfl rfl hw) rfl) rfl ?_
      refine JH.pure rfl (yl_fieldAt (a := some _) Go.Proofs.Try.underlying42 rfl i2 i2n rfl rfl) rfl ?_
      refine JH.read rfl (yl_load1 Go.Proofs.Try.underlying2 rfl rfl (fun w hw => hFr27.box 2 rfl rfl hw) rfl) rfl ?_
      obtain ⟨x28, hx28, hres⟩ := bind_some hres
      refine JH.must rfl (ef_call (T := T114 x28) Go.Proofs.Try.func114 rfl (by kernel_rfl) rfl (fun w hC => c114  hx28)) rfl rfl ?_
      rintro _ _ ⟨_, ⟨rfl, rfl⟩, rfl⟩
      obtain ⟨x29, hx29, hres⟩ := bind_some hres
      refine JH.must rfl (ef_call (T := T114 x29) Go.Proofs.Try.func114 rfl (by kernel_rfl) rfl (fun w hC => c114  hx29)) rfl rfl ?_
      rintro _ _ ⟨_, ⟨rfl, rfl⟩, rfl⟩
      refine JH.pure rfl (yl_add rfl rfl) rfl ?_
      refine JH.pure rfl (yl_assign rfl) rfl ?_
      refine JH.nil ?_
      refine JE.weak (env' := [(0, .slice a_0 q0.length c_0), (3, .slice a14 x11.length cp15), (4, .slice a4 x3.length x3.length), (5, ptrAt (some ⟨g6, 0, none⟩) 0), (6, .int .i64 x17), (7, .int .i64 x18), (8, .int .i64 x19), (10, .int .i64 (w64 (x28 + x29)))]) (es' := [rowT 2 eI64 a14 x11.length cp15 x11, rowT 4 eBool a4 x3.length x3.length x12, boxO 42 g6 [.int .i64 x13.X, .int .i64 x13.Y]]) [0, 1, 2] ?_ ⟨rfl, rfl, rfl, rfl, rfl, rfl, rfl, rfl, trivial⟩ (by decide) rfl
      refine JE.code ?_
      refine JX.seq ?_
      refine JX.region ?_
      refine JL.val (yl_move rfl) rfl ?_
      refine JL.val (yl_move rfl) rfl ?_
      obtain ⟨x30, hx30, hres⟩ := bind_some hres
      refine JL.val (yl_idxT Go.Proofs.Try.underlying182 i4 i4s rfl rfl hx30 l16 (fun w hC => rd_row hC 1 rfl)) rfl ?_
      refine JL.val (yl_loadT0 Go.Proofs.Try.underlying4 rfl rfl hx30 (fun w hC => rd_row hC 1 rfl) rfl) rfl ?_
      refine JL.val (yl_not rfl) rfl ?_
      refine JL.val (yl_move rfl) rfl ?_
      refine JL.cut (K := fun J => J [(0, .slice a_0 q0.length c_0), (3, .slice a14 x11.length cp15), (4, .slice a4 x3.length x3.length), (5, ptrAt (some ⟨g6, 0, none⟩) 0), (6, .int .i64 x17), (7, .int .i64 x18), (8, .int .i64 x19), (10, .int .i64 (w64 (x28 + x29))), (57, .bool (!x30 && ((decide (x17 < 0)) || (decide ((w64 (x28 + x29)) < x18)))))] [rowT 2 eI64 a14 x11.length cp15 x11, rowT 4 eBool a4 x3.length x3.length x12, boxO 42 g6 [.int .i64 x13.X, .int .i64 x13.Y]]) 8 ?_ ?_
      · refine JL.nil ?_
        refine JE.weak (env' := [(0, .slice a_0 q0.length c_0), (3, .slice a14 x11.length cp15), (4, .slice a4 x3.length x3.length), (5, ptrAt (some ⟨g6, 0, none⟩) 0), (6, .int .i64 x17), (7, .int .i64 x18), (8, .int .i64 x19), (10, .int .i64 (w64 (x28 + x29))), (57, .bool (!x30 && ((decide (x17 < 0)) || (decide ((w64 (x28 + x29)) < x18)))))]) (es' := [rowT 2 eI64 a14 x11.length cp15 x11, rowT 4 eBool a4 x3.length x3.length x12, boxO 42 g6 [.int .i64 x13.X, .int .i64 x13.Y]]) [0, 1, 2] ?_ ⟨rfl, rfl, rfl, rfl, rfl, rfl, rfl, rfl, rfl, trivial⟩ (by decide) rfl
        refine JE.code ?_
        obtain ⟨j31, hj31, hresj31⟩ := bind_some hres
        refine JX.cut (K := fun J => J [(0, .slice a_0 q0.length c_0), (3, .slice a14 x11.length cp15), (4, .slice a4 x3.length x3.length), (5, ptrAt (some ⟨g6, 0, none⟩) 0), (6, .int .i64 j31.1), (7, .int .i64 j31.2), (8, .int .i64 x19)] [rowT 2 eI64 a14 x11.length cp15 x11, rowT 4 eBool a4 x3.length x3.length x12, boxO 42 g6 [.int .i64 x13.X, .int .i64 x13.Y]]) ?_ ?_
        · have hres := hresj31
          refine JE.code ?_
          refine JX.region ?_
          refine JL.val (yl_move rfl) rfl ?_
          refine JL.val (yl_add rfl rfl) rfl ?_
          refine JL.val (yl_assign rfl) rfl ?_
          refine JL.nil ?_
          refine JE.cont hres ?_
          exact fun a w h => h.weak ⟨rfl, rfl, rfl, rfl, rfl, rfl, rfl, trivial⟩ [0, 1, 2] (by decide) rfl
        · intro K
          rcases cond_some hj31 with ⟨hb, hres⟩ | ⟨hb, hres⟩
          · refine JX.condT rfl hb ?_
            refine JX.seq ?_
            refine JX.region ?_
            refine JL.val (yl_move rfl) rfl ?_
            refine JL.val (yl_assign rfl) rfl ?_
            refine JL.nil ?_
            refine JE.code ?_
            refine JX.region ?_
            refine JL.val (yl_move rfl) rfl ?_
            refine JL.val (yl_assign rfl) rfl ?_
            refine JL.nil ?_
            have hj := Option.some.inj hres
            exact JE.weak [0, 1, 2] (K) ⟨(by subst hj; rfl), (by subst hj; rfl), (by subst hj; rfl), (by subst hj; rfl), (by subst hj; rfl), (by subst hj; rfl), (by subst hj; rfl), trivial⟩ (by decide) (by subst hj; rfl)
          · refine JX.condF rfl hb ?_
            refine JX.skip ?_
            have hj := Option.some.inj hres
            exact JE.weak [0, 1, 2] (K) ⟨(by subst hj; rfl), (by subst hj; rfl), (by subst hj; rfl), (by subst hj; rfl), (by subst hj; rfl), (by subst hj; rfl), (by subst hj; rfl), trivial⟩ (by decide) (by subst hj; rfl)
      · intro K
        rcases Bool.eq_false_or_eq_true (!x30) with hb | hb
        · refine JL.set (d := 49) (v := .bool true) (congrArg (fun b => some (Value.bool b)) hb) ?_
          refine JL.gval rfl rfl (yl_move rfl) rfl ?_
          refine JL.gval rfl rfl (yl_lss rfl rfl) rfl ?_
          refine JL.gval rfl rfl (yl_move rfl) rfl ?_
          refine JL.cut (K := fun J => J [(0, .slice a_0 q0.length c_0), (3, .slice a14 x11.length cp15), (4, .slice a4 x3.length x3.length), (5, ptrAt (some ⟨g6, 0, none⟩) 0), (6, .int .i64 x17), (7, .int .i64 x18), (8, .int .i64 x19), (10, .int .i64 (w64 (x28 + x29))), (49, .bool true), (56, .bool ((decide (x17 < 0)) || (decide ((w64 (x28 + x29)) < x18))))] [rowT 2 eI64 a14 x11.length cp15 x11, rowT 4 eBool a4 x3.length x3.length x12, boxO 42 g6 [.int .i64 x13.X, .int .i64 x13.Y]]) 4 ?_ ?_
          · refine JL.val (yl_pick_true rfl rfl) rfl ?_
            exact JL.weak [0, 1, 2] K ⟨rfl, rfl, rfl, rfl, rfl, rfl, rfl, rfl, (by rw [hb]; rfl), trivial⟩ (by decide) rfl
          · intro K
            rcases Bool.eq_false_or_eq_true (decide (x17 < 0)) with hb | hb
            · refine JL.set (d := 52) (v := .bool true) (congrArg (fun b => some (Value.bool b)) hb) ?_
              refine JL.gskip rfl rfl rfl rfl ?_
              refine JL.gskip rfl rfl rfl rfl ?_
              refine JL.gskip rfl rfl rfl rfl ?_
              refine JL.gval rfl rfl (yl_pick_true rfl rfl) rfl ?_
              exact JL.weak [0, 1, 2] K ⟨rfl, rfl, rfl, rfl, rfl, rfl, rfl, rfl, rfl, (by rw [hb]; rfl), trivial⟩ (by decide) rfl
            · refine JL.set (d := 52) (v := .bool false) (congrArg (fun b => some (Value.bool b)) hb) ?_
              refine JL.gval rfl rfl (yl_move rfl) rfl ?_
              refine JL.gval rfl rfl (yl_move rfl) rfl ?_
              refine JL.gval rfl rfl (yl_lss rfl rfl) rfl ?_
              refine JL.gval rfl rfl (yl_pick_false rfl rfl) rfl ?_
              exact JL.weak [0, 1, 2] K ⟨rfl, rfl, rfl, rfl, rfl, rfl, rfl, rfl, rfl, (by rw [hb]; rfl), trivial⟩ (by decide) rfl
        · refine JL.set (d := 49) (v := .bool false) (congrArg (fun b => some (Value.bool b)) hb) ?_
          refine JL.gskip rfl rfl rfl rfl ?_
          refine JL.gskip rfl rfl rfl rfl ?_
          refine JL.gskip rfl rfl rfl rfl ?_
          refine JL.gnone rfl rfl rfl ?_
          refine JL.gnone rfl rfl rfl ?_
          refine JL.gnone rfl rfl rfl ?_
          refine JL.gskip rfl rfl rfl rfl ?_
          refine JL.val (yl_pick_false rfl rfl) rfl ?_
          exact JL.weak [0, 1, 2] K ⟨rfl, rfl, rfl, rfl, rfl, rfl, rfl, rfl, (by rw [hb]; rfl), trivial⟩ (by decide) rfl
    · refine JX.condF rfl hb ?_
      refine JX.exit ?_
      refine JE.qb rfl ?_
      obtain ⟨b2, hb2⟩ : ∃ b : Int, b = x17 := ⟨_, rfl⟩
      have hy2 : b2 = y2 := by rw [hb2]; exact hox2 _ (Option.some.inj hres).symm
      have hres := hresO2
      rw [← hy2] at hres
      refine JE.weak (env' := [(0, .slice a_0 q0.length c_0), (3, .slice a14 x11.length cp15), (4, .slice a4 x3.length x3.length), (5, ptrAt (some ⟨g6, 0, none⟩) 0), (6, .int .i64 b2)]) (es' := [rowT 2 eI64 a14 x11.length cp15 x11, rowT 4 eBool a4 x3.length x3.length x12, boxO 42 g6 [.int .i64 x13.X, .int .i64 x13.Y]]) [0, 1, 2] ?_ ⟨(by subst hb2; rfl), (by subst hb2; rfl), (by subst hb2; rfl), (by subst hb2; rfl), (by subst hb2; rfl), trivial⟩ (by decide) (by subst hb2; rfl)
      refine JE.code ?_
      refine JX.seq ?_
      refine JX.region ?_
      refine JL.val (yl_move rfl) rfl ?_
      refine JL.val (yl_move rfl) rfl ?_
      obtain ⟨x32, hx32, hres⟩ := bind_some hres
      refine JL.val (yl_idxT Go.Proofs.Try.underlying182 i4 i4s rfl rfl hx32 l16 (fun w hC => rd_row hC 1 rfl)) rfl ?_
      refine JL.eff (ef_storeT (ix := 1) (u := true) i4 i4s rfl rfl rfl hx32 rfl) rfl ?_
      rintro _ _ rfl
      refine JL.nil ?_
      refine JE.weak (env' := [(0, .slice a_0 q0.length c_0), (3, .slice a14 x11.length cp15), (4, .slice a4 x3.length x3.length), (5, ptrAt (some ⟨g6, 0, none⟩) 0), (6, .int .i64 b2)]) (es' := [rowT 2 eI64 a14 x11.length cp15 x11, rowT 4 eBool a4 x3.length x3.length (x12.set (b2).toNat true), boxO 42 g6 [.int .i64 x13.X, .int .i64 x13.Y]]) [0, 1, 2] ?_ ⟨rfl, rfl, rfl, rfl, rfl, trivial⟩ (by decide) rfl
      refine JE.code ?_
      refine JX.seq ?_
      refine JX.region ?_
      refine JL.val (yl_move rfl) rfl ?_
      refine JL.val (yl_move rfl) rfl ?_
      obtain ⟨x33, hx33, hres⟩ := bind_some hres
      obtain ⟨ha34, hc35, hhx33⟩ := Inn.sub i_0 hx33
      refine JL.val (yl_idxT Go.Proofs.Try.underlying29 i34 i34s rfl rfl hhx33 (Inn.len i_0) (fun w hC => rd_arg g_0 hC)) rfl ?_
      refine JL.val (yl_loadT0 (z := ⟨ha34, x33.length, hc35⟩) Go.Proofs.Try.underlying34 rfl rfl hhx33 (fun w hC => rd_arg g_0 hC) rfl) rfl ?_
      obtain ⟨x37, hx37, hres⟩ := bind_some hres
      refine JL.val (yl_idxT Go.Proofs.Try.underlying34 i42 i42s rfl rfl hx37 rfl (fun w hC => rd_arg (RdI.sub r_0 hx33 hhx33) hC)) rfl ?_
      refine JL.val (yl_loadTn Go.Proofs.Try.underlying42 rfl i42 i42s rfl hx37 (fun w hC => rd_arg (RdI.sub r_0 hx33 hhx33) hC)) rfl ?_
      refine JL.eff (ef_store_box (i := 2) (v := .agg #[.int .i64 x37.X, .int .i64 x37.Y]) i42 rfl rfl rfl (i42s).symm (Nat.le_of_ble_eq_true rfl) (by simp [Value.cells, Value.oneCell'])) rfl ?_
      rintro _ _ rfl
      refine JL.nil ?_
      refine JE.weak (env' := [(0, .slice a_0 q0.length c_0), (3, .slice a14 x11.length cp15), (4, .slice a4 x3.length x3.length), (5, ptrAt (some ⟨g6, 0, none⟩) 0), (6, .int .i64 b2)]) (es' := [rowT 2 eI64 a14 x11.length cp15 x11, rowT 4 eBool a4 x3.length x3.length (x12.set (b2).toNat true), boxO 42 g6 [.int .i64 x37.X, .int .i64 x37.Y]]) [0, 1, 2] ?_ ⟨rfl, rfl, rfl, rfl, rfl, trivial⟩ (by decide) rfl
      refine JE.code ?_
      refine JX.region ?_
      refine JL.val (yl_move rfl) rfl ?_
      refine JL.val (yl_move rfl) rfl ?_
      refine JL.eff (ef_buildSlice (E := 2) (k := eI64.k) (us := eI64.fl [b2]) rfl (fun w => bsl24_1 b2 w) rfl (by decide)) rfl ?_
      rintro _ _ ⟨a38, rfl, rfl⟩
      obtain ⟨x40, hx40, hres⟩ := bind_some hres
      refine JL.eff (ef_appendT (ix := 0) Go.Proofs.Try.underlying24 i2 i2z i2s rfl i2b0 i2b1 rfl rfl rfl rfl rfl (fun w hC => rd_row hC 3 rfl) hx40) rfl ?_
      rintro _ _ ⟨a41, cp42, rfl, rfl⟩
      refine JL.val (yl_assign rfl) rfl ?_
      refine JL.nil ?_
      refine JE.weak (env' := [(0, .slice a_0 q0.length c_0), (3, .slice a41 x40.length cp42), (4, .slice a4 x3.length x3.length), (5, ptrAt (some ⟨g6, 0, none⟩) 0)]) (es' := [rowT 2 eI64 a41 x40.length cp42 x40, rowT 4 eBool a4 x3.length x3.length (x12.set (b2).toNat true), boxO 42 g6 [.int .i64 x37.X, .int .i64 x37.Y]]) [0, 1, 2] ?_ ⟨rfl, rfl, rfl, rfl, trivial⟩ (by decide) rfl
      refine JE.cont hres ?_
      exact fun a w h => ⟨a41, cp42, (List.length_set.trans l16), h.weak ⟨rfl, rfl, rfl, rfl, trivial⟩ [0, 1, 2] (by decide) rfl⟩
  · refine JX.condF rfl hb ?_
    refine JX.exit ?_
    refine JE.qb rfl ?_
    obtain ⟨b1, hb1⟩ : ∃ b : List Int, b = x11 := ⟨_, rfl⟩
    have hy1 : b1 = y1 := by rw [hb1]; exact hox1 _ (Option.some.inj hres).symm
    have hres := hresO1
    rw [← hy1] at hres
    refine JE.weak (env' := [(3, .slice a14 b1.length cp15)]) (es' := [rowT 2 eI64 a14 b1.length cp15 b1]) [0] ?_ ⟨(by subst hb1; rfl), trivial⟩ (by decide) (by subst hb1; rfl)
    refine JE.code ?_
    refine JX.seq ?_
    refine JX.region ?_
    refine JL.val (yl_move rfl) rfl ?_
    refine JL.val (yl_assign rfl) rfl ?_
    refine JL.nil ?_
    refine JE.code ?_
    refine JX.ret ?_
    obtain rfl := Option.some.inj hres
    refine JE.ret (rs := [.tmp 2]) (vs := [.slice a14 b1.length cp15]) rfl ⟨rfl, trivial⟩ ?_
    exact fun w' hb hs => ⟨_, _, ⟨a14, b1.length, cp15, rfl, rfl, rfl⟩, rfl, hb, hs.sel [0] _ (by decide) rfl⟩

/- spec.l22Curve -/
def sh149_1 (q0 : List SPoint) (q1 : Int) (q2 : Int) : (Int × List SToolMove) → Option ((Int × List SToolMove) ⊕ (List SToolMove))
  | (x13, x14) => bif decide (x13 ≤ (q0.length : Int)) then (Option.bind (nzI (q0.length : Int)) fun x17 => Option.bind (getI q0 (x13.tmod (q0.length : Int))) fun x18 => Option.bind (appL x14 [SToolMove.mk (w64 (x18.X * q1)) (w64 (x18.Y * q1)) (w64 (0 - q2))]) fun x23 => some (.inl (w64 (x13 + 1), x23))) else (some (.inr x14))
def sh149 (q0 : List SPoint) (q1 : Int) (q2 : Int) (q3 : Int) : Option (List SToolMove) := Option.bind (getI q0 (0 : Int)) fun x4 => Option.bind (getI q0 (0 : Int)) fun x5 => Option.bind (appL ([] : List SToolMove) [SToolMove.mk (w64 (x4.X * q1)) (w64 (x5.Y * q1)) q3]) fun x8 => Option.bind (iter (sh149_1 q0 q1 q2) (0, x8)) fun b1 => (Option.bind (getI q0 (0 : Int)) fun x29 => Option.bind (getI q0 (0 : Int)) fun x30 => Option.bind (appL b1 [SToolMove.mk (w64 (x29.X * q1)) (w64 (x30.Y * q1)) q3]) fun x33 => some x33)
def T149 (r : List SToolMove) (v : Value) (rs : List Own) : Prop := ∃ (a0 : Option Addr) (n0 c0 : Nat), r.length = n0 ∧ v = rets [.slice a0 n0 c0] ∧ rs = [rowT 88 eSToolMove a0 n0 c0 r]
set_option maxRecDepth 100000 in
theorem c149 {w : World} {q0 : List SPoint} {a_0 : Option Addr} {n_0 c_0 : Nat} (g_0 : Rd w a_0 (eSPoint.fl q0)) (l_0 : q0.length = n_0) (k_0 : n_0 ≤ c_0) {q1 : Int} {q2 : Int} {q3 : Int} {r : List SToolMove} (hres : sh149 q0 q1 q2 q3 = some r) : Calls Go.Proofs.Try.prog 149 [.slice a_0 n_0 c_0, .int .i64 q1, .int .i64 q2, .int .i64 q3].toArray w (Ret w (T149 r)) := by
  subst l_0
  unfold sh149 at hres
  refine calls_of (n := 75) (M := []) (es := []) Go.Proofs.Try.func149 rfl rfl rfl (Sep.nil _ _ _) ?_
  refine JX.seq ?_
  refine JX.region ?_
  refine JL.val (yl_assign rfl) rfl ?_
  refine JL.nil ?_
  refine JE.code ?_
  refine JX.seq ?_
  refine JX.region ?_
  refine JL.eff (ef_buildSlice (E := 88) (k := eSToolMove.k) (us := eSToolMove.fl ([] : List SToolMove)) rfl (fun w => bsl65_0  w) rfl (by decide)) rfl ?_
  rintro _ _ ⟨a1, rfl, rfl⟩
  refine JL.val (yl_assign rfl) rfl ?_
  refine JL.nil ?_
  refine JE.code ?_
  refine JX.seq ?_
  refine JX.region ?_
  refine JL.val (yl_move rfl) rfl ?_
  refine JL.val (yl_len_slice Go.Proofs.Try.underlying34 rfl) rfl ?_
  refine JL.val (yl_assign rfl) rfl ?_
  refine JL.nil ?_
  refine JE.code ?_
  refine JX.seq ?_
  refine JX.drawH [(0, .pure), (1, .pure), (2, .pure), (3, .pure), (4, .read), (5, .pure), (6, .pure), (7, .pure), (8, .pure), (9, .pure), (10, .read), (11, .pure), (12, .pure), (13, .pure), (14, .pure), (15, .must), (16, .must), (17, .pure)] [16] [0] [] [rowT 88 eSToolMove a1 0 0 ([] : List SToolMove)] [] mixedP (by kernel_rfl) (by kernel_rfl) (by decide) rfl rfl ?_
  intro wrr3 Nr3 hFr3
  refine JH.pure rfl (yl_move rfl) rfl ?_
  refine JH.pure rfl (yl_move rfl) rfl ?_
  obtain ⟨x4, hx4, hres⟩ := bind_some hres
  refine JH.pure rfl (yl_idxQ Go.Proofs.Try.underlying34 i42 i42s rfl rfl hx4 rfl (rd_arg g_0 hFr3.cl) rfl) rfl ?_
  refine JH.pure rfl (yl_fieldAt Go.Proofs.Try.underlying42 rfl i2 i2n rfl (RdT.someQ (rd_arg g_0 hFr3.cl) hx4 rfl rfl)) rfl ?_
  refine JH.read rfl (yl_loadT1 Go.Proofs.Try.underlying2 rfl rfl hx4 (fun w hw => hFr3.arg g_0 hw) rfl) rfl ?_
  refine JH.pure rfl (yl_move rfl) rfl ?_
  refine JH.pure rfl (yl_mul rfl rfl) rfl ?_
  refine JH.pure rfl (yl_move rfl) rfl ?_
  obtain ⟨x5, hx5, hres⟩ := bind_some hres
  refine JH.pure rfl (yl_idxQ Go.Proofs.Try.underlying34 i42 i42s rfl rfl hx5 rfl (rd_arg g_0 hFr3.cl) rfl) rfl ?_
  refine JH.pure rfl (yl_fieldAt Go.Proofs.Try.underlying42 rfl i2 i2n rfl (RdT.someQ (rd_arg g_0 hFr3.cl) hx5 rfl rfl)) rfl ?_
  refine JH.read rfl (yl_loadT1 Go.Proofs.Try.underlying2 rfl rfl hx5 (fun w hw => hFr3.arg g_0 hw) rfl) rfl ?_
  refine JH.pure rfl (yl_move rfl) rfl ?_
  refine JH.pure rfl (yl_mul rfl rfl) rfl ?_
  refine JH.pure rfl (yl_move rfl) rfl ?_
  refine JH.pure rfl (yl_build rfl (fun w => bld88_0_1_2 (w64 (x4.X * q1)) (w64 (x5.Y * q1)) q3 w)) rfl ?_
  refine JH.must rfl (ef_buildSlice (E := 88) (k := eSToolMove.k) (us := eSToolMove.fl [SToolMove.mk (w64 (x4.X * q1)) (w64 (x5.Y * q1)) q3]) rfl (fun w => bsl65_1 (w64 (x4.X * q1)) (w64 (x5.Y * q1)) q3 w) rfl (by decide)) rfl rfl ?_
  rintro _ _ ⟨a6, rfl, rfl⟩
  obtain ⟨x8, hx8, hres⟩ := bind_some hres
  refine JH.must rfl (ef_appendT (ix := 0) Go.Proofs.Try.underlying65 i88 i88z i88s rfl i88b0 i88b1 rfl rfl rfl rfl rfl (fun w hC => rd_row hC 1 rfl) hx8) rfl rfl ?_
  rintro _ _ ⟨a9, cp10, rfl, rfl⟩
  refine JH.pure rfl (yl_assign rfl) rfl ?_
  refine JH.nil ?_
  refine JE.weak (env' := [(0, .slice a_0 q0.length c_0), (1, .int .i64 q1), (2, .int .i64 q2), (3, .int .i64 q3), (9, .slice a9 x8.length cp10), (10, .int .i64 (q0.length : Int))]) (es' := [rowT 88 eSToolMove a9 x8.length cp10 x8]) [0] ?_ ⟨rfl, rfl, rfl, rfl, rfl, rfl, trivial⟩ (by decide) rfl
  refine JE.code ?_
  refine JX.seq ?_
  refine JX.seq ?_
  refine JX.region ?_
  refine JL.val (yl_assign rfl) rfl ?_
  refine JL.nil ?_
  refine JE.code ?_
  refine JX.block ?_
  obtain ⟨y1, hy1, hresO1⟩ := bind_some hres
  refine JX.loop (I := fun (s1 : Int × List SToolMove) aa ww => ∃ (a11 : Option Addr) (cp12 : Nat), St w [] 75 [(0, .slice a_0 q0.length c_0), (1, .int .i64 q1), (2, .int .i64 q2), (3, .int .i64 q3), (9, .slice a11 s1.2.length cp12), (10, .int .i64 (q0.length : Int)), (11, .int .i64 s1.1)] [rowT 88 eSToolMove a11 s1.2.length cp12 s1.2] aa ww) (sh149_1 q0 q1 q2) hy1 (fun a w h => ⟨a9, cp10, h.weak ⟨rfl, rfl, rfl, rfl, rfl, rfl, rfl, trivial⟩ [0] (by decide) rfl⟩) ?_
  rintro ⟨x13, x14⟩ o1 hres hox1 aa ww ⟨a15, cp16, hS⟩
  refine (?_ : JX Go.Proofs.Try.prog w [] 75 _ _ [(0, .slice a_0 q0.length c_0), (1, .int .i64 q1), (2, .int .i64 q2), (3, .int .i64 q3), (9, .slice a15 x14.length cp16), (10, .int .i64 (q0.length : Int)), (11, .int .i64 x13)] [rowT 88 eSToolMove a15 x14.length cp16 x14] _) aa ww hS
  clear hS
  simp only [sh149_1] at hres
  refine JX.seq ?_
  refine JX.seq ?_
  refine JX.region ?_
  refine JL.val (yl_move rfl) rfl ?_
  refine JL.val (yl_move rfl) rfl ?_
  refine JL.val (yl_leq rfl rfl) rfl ?_
  refine JL.nil ?_
  refine JE.code ?_
  rcases cond_some hres with ⟨hb, hres⟩ | ⟨hb, hres⟩
  · refine JX.condT rfl hb ?_
    refine JX.skip ?_
    refine JE.code ?_
    refine JX.seq ?_
    refine JX.block ?_
    refine JX.seq ?_
    refine JX.region ?_
    refine JL.val (yl_move rfl) rfl ?_
    refine JL.val (yl_move rfl) rfl ?_
    refine JL.val (yl_move rfl) rfl ?_
    obtain ⟨x17, hx17, hres⟩ := bind_some hres
    refine JL.val (yl_rem rfl rfl (nzI_some hx17)) rfl ?_
    obtain ⟨x18, hx18, hres⟩ := bind_some hres
    refine JL.val (yl_idxT Go.Proofs.Try.underlying34 i42 i42s rfl rfl hx18 rfl (fun w hC => rd_arg g_0 hC)) rfl ?_
    refine JL.val (yl_loadTn Go.Proofs.Try.underlying42 rfl i42 i42s rfl hx18 (fun w hC => rd_arg g_0 hC)) rfl ?_
    refine JL.eff (ef_alloc i42 i42z rfl) rfl ?_
    rintro _ _ ⟨g19, rfl, rfl⟩
    refine JL.eff (ef_store_box (i := 1) (v := .agg #[.int .i64 x18.X, .int .i64 x18.Y]) i42 rfl rfl rfl (i42s).symm (Nat.le_of_ble_eq_true rfl) (by simp [Value.cells, Value.oneCell'])) rfl ?_
    rintro _ _ rfl
    refine JL.nil ?_
    refine JE.weak (env' := [(0, .slice a_0 q0.length c_0), (1, .int .i64 q1), (2, .int .i64 q2), (3, .int .i64 q3), (9, .slice a15 x14.length cp16), (10, .int .i64 (q0.length : Int)), (11, .int .i64 x13), (12, ptrAt (some ⟨g19, 0, none⟩) 0)]) (es' := [rowT 88 eSToolMove a15 x14.length cp16 x14, boxO 42 g19 [.int .i64 x18.X, .int .i64 x18.Y]]) [0, 1] ?_ ⟨rfl, rfl, rfl, rfl, rfl, rfl, rfl, rfl, trivial⟩ (by decide) rfl
    refine JE.code ?_
    refine JX.region ?_
    refine JL.val (yl_move rfl) rfl ?_
    refine JL.val (yl_fieldAt (a := some _) Go.Proofs.Try.underlying42 rfl i2 i2n rfl rfl) rfl ?_
    refine JL.val (yl_load1 Go.Proofs.Try.underlying2 rfl rfl (fun w hC => rd_box hC 1 rfl) rfl) rfl ?_
    refine JL.val (yl_move rfl) rfl ?_
    refine JL.val (yl_mul rfl rfl) rfl ?_
    refine JL.val (yl_fieldAt (a := some _) Go.Proofs.Try.underlying42 rfl i2 i2n rfl rfl) rfl ?_
    refine JL.val (yl_load1 Go.Proofs.Try.underlying2 rfl rfl (fun w hC => rd_box hC 1 rfl) rfl) rfl ?_
    refine JL.val (yl_move rfl) rfl ?_
    refine JL.val (yl_mul rfl rfl) rfl ?_
    refine JL.val (yl_move rfl) rfl ?_
    refine JL.val (yl_neg rfl) rfl ?_
    refine JL.val (yl_build rfl (fun w => bld88_0_1_2 (w64 (x18.X * q1)) (w64 (x18.Y * q1)) (w64 (0 - q2)) w)) rfl ?_
    refine JL.eff (ef_buildSlice (E := 88) (k := eSToolMove.k) (us := eSToolMove.fl [SToolMove.mk (w64 (x18.X * q1)) (w64 (x18.Y * q1)) (w64 (0 - q2))]) rfl (fun w => bsl65_1 (w64 (x18.X * q1)) (w64 (x18.Y * q1)) (w64 (0 - q2)) w) rfl (by decide)) rfl ?_
    rintro _ _ ⟨a21, rfl, rfl⟩
    obtain ⟨x23, hx23, hres⟩ := bind_some hres
    refine JL.eff (ef_appendT (ix := 0) Go.Proofs.Try.underlying65 i88 i88z i88s rfl i88b0 i88b1 rfl rfl rfl rfl rfl (fun w hC => rd_row hC 2 rfl) hx23) rfl ?_
    rintro _ _ ⟨a24, cp25, rfl, rfl⟩
    refine JL.val (yl_assign rfl) rfl ?_
    refine JL.nil ?_
    refine JE.weak (env' := [(0, .slice a_0 q0.length c_0), (1, .int .i64 q1), (2, .int .i64 q2), (3, .int .i64 q3), (9, .slice a24 x23.length cp25), (10, .int .i64 (q0.length : Int)), (11, .int .i64 x13)]) (es' := [rowT 88 eSToolMove a24 x23.length cp25 x23]) [0] ?_ ⟨rfl, rfl, rfl, rfl, rfl, rfl, rfl, trivial⟩ (by decide) rfl
    refine JE.code ?_
    refine JX.region ?_
    refine JL.val (yl_move rfl) rfl ?_
    refine JL.val (yl_add rfl rfl) rfl ?_
    refine JL.val (yl_assign rfl) rfl ?_
    refine JL.nil ?_
    refine JE.cont hres ?_
    exact fun a w h => ⟨a24, cp25, h.weak ⟨rfl, rfl, rfl, rfl, rfl, rfl, rfl, trivial⟩ [0] (by decide) rfl⟩
  · refine JX.condF rfl hb ?_
    refine JX.exit ?_
    refine JE.qb rfl ?_
    obtain ⟨b1, hb1⟩ : ∃ b : List SToolMove, b = x14 := ⟨_, rfl⟩
    have hy1 : b1 = y1 := by rw [hb1]; exact hox1 _ (Option.some.inj hres).symm
    have hres := hresO1
    rw [← hy1] at hres
    refine JE.weak (env' := [(0, .slice a_0 q0.length c_0), (1, .int .i64 q1), (3, .int .i64 q3), (9, .slice a15 b1.length cp16)]) (es' := [rowT 88 eSToolMove a15 b1.length cp16 b1]) [0] ?_ ⟨(by subst hb1; rfl), (by subst hb1; rfl), (by subst hb1; rfl), (by subst hb1; rfl), trivial⟩ (by decide) (by subst hb1; rfl)
    refine JE.code ?_
    refine JX.seq ?_
    refine JX.drawH [(0, .pure), (1, .pure), (2, .pure), (3, .pure), (4, .read), (5, .pure), (6, .pure), (7, .pure), (8, .pure), (9, .pure), (10, .read), (11, .pure), (12, .pure), (13, .pure), (14, .pure), (15, .must), (16, .must), (17, .pure)] [16] [0] [] [rowT 88 eSToolMove a15 b1.length cp16 b1] [] mixedP (by kernel_rfl) (by kernel_rfl) (by decide) rfl rfl ?_
    intro wrr28 Nr28 hFr28
    refine JH.pure rfl (yl_move rfl) rfl ?_
    refine JH.pure rfl (yl_move rfl) rfl ?_
    obtain ⟨x29, hx29, hres⟩ := bind_some hres
    refine JH.pure rfl (yl_idxQ Go.Proofs.Try.underlying34 i42 i42s rfl rfl hx29 rfl (rd_arg g_0 hFr28.cl) rfl) rfl ?_
    refine JH.pure rfl (yl_fieldAt Go.Proofs.Try.underlying42 rfl i2 i2n rfl (RdT.someQ (rd_arg g_0 hFr28.cl) hx29 rfl rfl)) rfl ?_
    refine JH.read rfl (yl_loadT1 Go.Proofs.Try.underlying2 rfl rfl hx29 (fun w hw => hFr28.arg g_0 hw) rfl) rfl ?_
    refine JH.pure rfl (yl_move rfl) rfl ?_
    refine JH.pure rfl (yl_mul rfl rfl) rfl ?_
    refine JH.pure rfl (yl_move rfl) rfl ?_
    obtain ⟨x30, hx30, hres⟩ := bind_some hres
    refine JH.pure rfl (yl_idxQ Go.Proofs.Try.underlying34 i42 i42s rfl rfl hx30 rfl (rd_arg g_0 hFr28.cl) rfl) rfl ?_
    refine JH.pure rfl (yl_fieldAt Go.Proofs.Try.underlying42 rfl i2 i2n rfl (RdT.someQ (rd_arg g_0 hFr28.cl) hx30 rfl rfl)) rfl ?_
    refine JH.read rfl (yl_loadT1 Go.Proofs.Try.underlying2 rfl rfl hx30 (fun w hw => hFr28.arg g_0 hw) rfl) rfl ?_
    refine JH.pure rfl (yl_move rfl) rfl ?_
    refine JH.pure rfl (yl_mul rfl rfl) rfl ?_
    refine JH.pure rfl (yl_move rfl) rfl ?_
    refine JH.pure rfl (yl_build rfl (fun w => bld88_0_1_2 (w64 (x29.X * q1)) (w64 (x30.Y * q1)) q3 w)) rfl ?_
    refine JH.must rfl (ef_buildSlice (E := 88) (k := eSToolMove.k) (us := eSToolMove.fl [SToolMove.mk (w64 (x29.X * q1)) (w64 (x30.Y * q1)) q3]) rfl (fun w => bsl65_1 (w64 (x29.X * q1)) (w64 (x30.Y * q1)) q3 w) rfl (by decide)) rfl rfl ?_
    rintro _ _ ⟨a31, rfl, rfl⟩
    obtain ⟨x33, hx33, hres⟩ := bind_some hres
    refine JH.must rfl (ef_appendT (ix := 0) Go.Proofs.Try.underlying65 i88 i88z i88s rfl i88b0 i88b1 rfl rfl rfl rfl rfl (fun w hC => rd_row hC 1 rfl) hx33) rfl rfl ?_
    rintro _ _ ⟨a34, cp35, rfl, rfl⟩
    refine JH.pure rfl (yl_assign rfl) rfl ?_
    refine JH.nil ?_
    refine JE.weak (env' := [(8, .slice a34 x33.length cp35)]) (es' := [rowT 88 eSToolMove a34 x33.length cp35 x33]) [0] ?_ ⟨rfl, trivial⟩ (by decide) rfl
    refine JE.code ?_
    refine JX.ret ?_
    obtain rfl := Option.some.inj hres
    refine JE.ret (rs := [.tmp 8]) (vs := [.slice a34 x33.length cp35]) rfl ⟨rfl, trivial⟩ ?_
    exact fun w' hb hs => ⟨_, _, ⟨a34, x33.length, cp35, rfl, rfl, rfl⟩, rfl, hb, hs.sel [0] _ (by decide) rfl⟩

/- spec.CarvePanel -/
def sh51_1 (q1 : Int) (q2 : Int) (q3 : Int) (x8 : List (List SPoint) × List Int) (x18 : List Int) : (Int × List SToolMove) → Option ((Int × List SToolMove) ⊕ (List SToolMove))
  | (x26, x27) => bif decide (x26 < (x18.length : Int)) then (Option.bind (getI x18 x26) fun x30 => Option.bind (getI x8.1 x30) fun x31 => Option.bind (sh149 x31 q1 q2 q3) fun x35 => Option.bind (appL x27 x35) fun x39 => some (.inl (w64 (x26 + 1), x39))) else (some (.inr x27))
def sh51 (q0 : SPanel) (q1 : Int) (q2 : Int) (q3 : Int) : Option (List SToolMove × Int) := Option.bind (sh146 q0 0 q1 q2 q3) fun x3 => bif x3.2 != 0 then (some (([] : List SToolMove), x3.2)) else (Option.bind (sh147 q0) fun x8 => Option.bind (sh148 x8.1) fun x18 => Option.bind (iter (sh51_1 q1 q2 q3 x8 x18) (0, ([] : List SToolMove))) fun b1 => (some (b1, 0)))
def T51 (r : List SToolMove × Int) (v : Value) (rs : List Own) : Prop := ∃ (a0 : Option Addr) (n0 c0 : Nat), r.1.length = n0 ∧ v = rets [.slice a0 n0 c0, .int .i64 r.2] ∧ rs = [rowT 88 eSToolMove a0 n0 c0 r.1]
set_option maxRecDepth 100000 in
theorem c51 {w : World} {q0 : SPanel} {a_0_2 : Option Addr} {n_0_2 c_0_2 : Nat} (g_0_2 : Rd w a_0_2 (eI64.fl q0.Breaks)) (l_0_2 : q0.Breaks.length = n_0_2) (k_0_2 : n_0_2 ≤ c_0_2) {q1 : Int} {q2 : Int} {q3 : Int} {r : List SToolMove × Int} (hres : sh51 q0 q1 q2 q3 = some r) : Calls Go.Proofs.Try.prog 51 [.agg #[.int .i64 q0.W, .int .i64 q0.H, .slice a_0_2 n_0_2 c_0_2], .int .i64 q1, .int .i64 q2, .int .i64 q3].toArray w (Ret w (T51 r)) := by
  subst l_0_2
  unfold sh51 at hres
  refine calls_of (n := 54) (M := []) (es := []) Go.Proofs.Try.func51 rfl rfl rfl (Sep.nil _ _ _) ?_
  refine JX.seq ?_
  refine JX.region ?_
  refine JL.eff (ef_box rfl rfl) rfl ?_
  rintro _ _ ⟨g1, rfl, rfl⟩
  refine JL.val (yl_assign rfl) rfl ?_
  refine JL.val (yl_assign rfl) rfl ?_
  refine JL.nil ?_
  refine JE.code ?_
  refine JX.seq ?_
  refine JX.region ?_
  refine JL.val (yl_move rfl) rfl ?_
  refine JL.val (yl_move rfl) rfl ?_
  refine JL.val (yl_move rfl) rfl ?_
  obtain ⟨x3, hx3, hres⟩ := bind_some hres
  refine JL.eff (ef_call (T := T146 x3) Go.Proofs.Try.func146 rfl (by kernel_rfl) rfl (fun w hC => c146 (RdAt.of0 (rd_box hC 0 rfl)) (rd_arg g_0_2 hC) rfl k_0_2 hx3)) rfl ?_
  rintro _ _ ⟨_, ⟨a4, _, cp5, rfl, rfl, rfl⟩, rfl⟩
  refine JL.val (yl_move rfl) rfl ?_
  refine JL.val (yl_extract rfl rfl) rfl ?_
  refine JL.val (yl_extract rfl rfl) rfl ?_
  refine JL.val (yl_assign rfl) rfl ?_
  refine JL.val (yl_assign rfl) rfl ?_
  refine JL.nil ?_
  refine JE.weak (env' := [(1, .int .i64 q1), (2, .int .i64 q2), (3, .int .i64 q3), (4, ptrAt (some ⟨g1, 0, none⟩) 0), (11, .int .i64 x3.2)]) (es' := [boxO 26 g1 [.int .i64 q0.W, .int .i64 q0.H, .slice a_0_2 q0.Breaks.length c_0_2]]) [0] ?_ ⟨rfl, rfl, rfl, rfl, rfl, trivial⟩ (by decide) rfl
  refine JE.code ?_
  refine JX.seq ?_
  refine JX.seq ?_
  refine JX.region ?_
  refine JL.val (yl_move rfl) rfl ?_
  refine JL.val (yl_neq rfl rfl) rfl ?_
  refine JL.nil ?_
  refine JE.code ?_
  rcases cond_some hres with ⟨hb, hres⟩ | ⟨hb, hres⟩
  · refine JX.condT rfl hb ?_
    refine JX.seq ?_
    refine JX.region ?_
    refine JL.val (yl_move rfl) rfl ?_
    refine JL.val (yl_assign rfl) rfl ?_
    refine JL.val (yl_assign rfl) rfl ?_
    refine JL.nil ?_
    refine JE.weak (env' := [(8, .slice none 0 0), (9, .int .i64 x3.2)]) (es' := []) [] ?_ ⟨rfl, rfl, trivial⟩ (by decide) rfl
    refine JE.code ?_
    refine JX.ret ?_
    refine JE.nilrow 88 eSToolMove ?_
    obtain rfl := Option.some.inj hres
    refine JE.ret (rs := [.tmp 8, .tmp 9]) (vs := [.slice none 0 0, .int .i64 x3.2]) rfl ⟨rfl, rfl, trivial⟩ ?_
    exact fun w' hb hs => ⟨_, _, ⟨none, 0, 0, rfl, rfl, rfl⟩, rfl, hb, hs.sel [0] _ (by decide) rfl⟩
  · refine JX.condF rfl hb ?_
    refine JX.skip ?_
    refine JE.code ?_
    refine JX.seq ?_
    refine JX.region ?_
    obtain ⟨x8, hx8, hres⟩ := bind_some hres
    refine JL.eff (ef_call (T := T147 x8) Go.Proofs.Try.func147 rfl (by kernel_rfl) rfl (fun w hC => c147 (RdAt.of0 (rd_box hC 0 rfl)) (rd_arg g_0_2 hC) rfl k_0_2 hx8)) rfl ?_
    rintro _ _ ⟨_, ⟨a9, _, cp10, hs12, rfl, hi13, a15, _, cp16, rfl, rfl, rfl⟩, rfl⟩
    refine JL.val (yl_move rfl) rfl ?_
    refine JL.val (yl_extract rfl rfl) rfl ?_
    refine JL.val (yl_extract rfl rfl) rfl ?_
    refine JL.val (yl_assign rfl) rfl ?_
    refine JL.val (yl_assign rfl) rfl ?_
    refine JL.nil ?_
    refine JE.weak (env' := [(1, .int .i64 q1), (2, .int .i64 q2), (3, .int .i64 q3), (12, .slice a9 x8.1.length cp10)]) (es' := [rowT 34 eHd a9 x8.1.length cp10 hs12, innO 42 eSPoint none hs12 x8.1]) [1, 2] ?_ ⟨rfl, rfl, rfl, rfl, trivial⟩ (by decide) rfl
    refine JE.code ?_
    refine JX.seq ?_
    refine JX.region ?_
    refine JL.val (yl_move rfl) rfl ?_
    obtain ⟨x18, hx18, hres⟩ := bind_some hres
    refine JL.eff (ef_call (T := T148 x18) Go.Proofs.Try.func148 rfl (by kernel_rfl) rfl (fun w hC => c148 (rd_row hC 0 rfl) (rd_inn hC 1 rfl) hi13 rfl (ln_row hC 0 rfl) hx18)) rfl ?_
    rintro _ _ ⟨_, ⟨a19, _, cp20, rfl, rfl, rfl⟩, rfl⟩
    refine JL.val (yl_assign rfl) rfl ?_
    refine JL.nil ?_
    refine JE.code ?_
    refine JX.seq ?_
    refine JX.region ?_
    refine JL.eff (ef_buildSlice (E := 88) (k := eSToolMove.k) (us := eSToolMove.fl ([] : List SToolMove)) rfl (fun w => bsl65_0  w) rfl (by decide)) rfl ?_
    rintro _ _ ⟨a22, rfl, rfl⟩
    refine JL.val (yl_assign rfl) rfl ?_
    refine JL.nil ?_
    refine JE.code ?_
    refine JX.seq ?_
    refine JX.seq ?_
    refine JX.region ?_
    refine JL.val (yl_assign rfl) rfl ?_
    refine JL.nil ?_
    refine JE.code ?_
    refine JX.block ?_
    obtain ⟨y1, hy1, hresO1⟩ := bind_some hres
    refine JX.loop (I := fun (s1 : Int × List SToolMove) aa ww => ∃ (a24 : Option Addr) (cp25 : Nat), St w [] 54 [(1, .int .i64 q1), (2, .int .i64 q2), (3, .int .i64 q3), (12, .slice a9 x8.1.length cp10), (14, .slice a19 x18.length cp20), (15, .slice a24 s1.2.length cp25), (16, .int .i64 s1.1)] [rowT 34 eHd a9 x8.1.length cp10 hs12, innO 42 eSPoint none hs12 x8.1, rowT 2 eI64 a19 x18.length cp20 x18, rowT 88 eSToolMove a24 s1.2.length cp25 s1.2] aa ww) (sh51_1 q1 q2 q3 x8 x18) hy1 (fun a w h => ⟨a22, 0, h.weak ⟨rfl, rfl, rfl, rfl, rfl, rfl, rfl, trivial⟩ [0, 1, 2, 3] (by decide) rfl⟩) ?_
    rintro ⟨x26, x27⟩ o1 hres hox1 aa ww ⟨a28, cp29, hS⟩
    refine (?_ : JX Go.Proofs.Try.prog w [] 54 _ _ [(1, .int .i64 q1), (2, .int .i64 q2), (3, .int .i64 q3), (12, .slice a9 x8.1.length cp10), (14, .slice a19 x18.length cp20), (15, .slice a28 x27.length cp29), (16, .int .i64 x26)] [rowT 34 eHd a9 x8.1.length cp10 hs12, innO 42 eSPoint none hs12 x8.1, rowT 2 eI64 a19 x18.length cp20 x18, rowT 88 eSToolMove a28 x27.length cp29 x27] _) aa ww hS
    clear hS
    simp only [sh51_1] at hres
    refine JX.seq ?_
    refine JX.seq ?_
    refine JX.region ?_
    refine JL.val (yl_move rfl) rfl ?_
    refine JL.val (yl_move rfl) rfl ?_
    refine JL.val (yl_len_slice Go.Proofs.Try.underlying24 rfl) rfl ?_
    refine JL.val (yl_lss rfl rfl) rfl ?_
    refine JL.nil ?_
    refine JE.weak (env' := [(1, .int .i64 q1), (2, .int .i64 q2), (3, .int .i64 q3), (12, .slice a9 x8.1.length cp10), (14, .slice a19 x18.length cp20), (15, .slice a28 x27.length cp29), (16, .int .i64 x26), (37, .bool (decide (x26 < (x18.length : Int))))]) (es' := [rowT 34 eHd a9 x8.1.length cp10 hs12, innO 42 eSPoint none hs12 x8.1, rowT 2 eI64 a19 x18.length cp20 x18, rowT 88 eSToolMove a28 x27.length cp29 x27]) [0, 1, 2, 3] ?_ ⟨rfl, rfl, rfl, rfl, rfl, rfl, rfl, rfl, trivial⟩ (by decide) rfl
    refine JE.code ?_
    rcases cond_some hres with ⟨hb, hres⟩ | ⟨hb, hres⟩
    · refine JX.condT rfl hb ?_
      refine JX.skip ?_
      refine JE.code ?_
      refine JX.seq ?_
      refine JX.block ?_
      refine JX.region ?_
      refine JL.val (yl_move rfl) rfl ?_
      refine JL.val (yl_move rfl) rfl ?_
      refine JL.val (yl_move rfl) rfl ?_
      refine JL.val (yl_move rfl) rfl ?_
      obtain ⟨x30, hx30, hres⟩ := bind_some hres
      refine JL.val (yl_idxT Go.Proofs.Try.underlying24 i2 i2s rfl rfl hx30 rfl (fun w hC => rd_row hC 2 rfl)) rfl ?_
      refine JL.val (yl_loadT0 Go.Proofs.Try.underlying2 rfl rfl hx30 (fun w hC => rd_row hC 2 rfl) rfl) rfl ?_
      obtain ⟨x31, hx31, hres⟩ := bind_some hres
      obtain ⟨ha32, hc33, hhx31⟩ := Inn.sub hi13 hx31
      refine JL.val (yl_idxT Go.Proofs.Try.underlying29 i34 i34s rfl rfl hhx31 (Inn.len hi13) (fun w hC => rd_row hC 0 rfl)) rfl ?_
      refine JL.val (yl_loadT0 (z := ⟨ha32, x31.length, hc33⟩) Go.Proofs.Try.underlying34 rfl rfl hhx31 (fun w hC => rd_row hC 0 rfl) rfl) rfl ?_
      refine JL.val (yl_move rfl) rfl ?_
      refine JL.val (yl_move rfl) rfl ?_
      refine JL.val (yl_move rfl) rfl ?_
      obtain ⟨x35, hx35, hres⟩ := bind_some hres
      refine JL.eff (ef_call (T := T149 x35) Go.Proofs.Try.func149 rfl (by kernel_rfl) rfl (fun w hC => c149 ((RdI.sub (rd_inn hC 1 rfl) hx31 hhx31)) rfl (RdI.ln (rd_inn hC 1 rfl) hx31 hhx31) hx35)) rfl ?_
      rintro _ _ ⟨_, ⟨a36, _, cp37, rfl, rfl, rfl⟩, rfl⟩
      obtain ⟨x39, hx39, hres⟩ := bind_some hres
      refine JL.eff (ef_appendT (ix := 3) Go.Proofs.Try.underlying65 i88 i88z i88s rfl i88b0 i88b1 rfl rfl rfl rfl rfl (fun w hC => rd_row hC 4 rfl) hx39) rfl ?_
      rintro _ _ ⟨a40, cp41, rfl, rfl⟩
      refine JL.val (yl_assign rfl) rfl ?_
      refine JL.nil ?_
      refine JE.weak (env' := [(1, .int .i64 q1), (2, .int .i64 q2), (3, .int .i64 q3), (12, .slice a9 x8.1.length cp10), (14, .slice a19 x18.length cp20), (15, .slice a40 x39.length cp41), (16, .int .i64 x26)]) (es' := [rowT 34 eHd a9 x8.1.length cp10 hs12, innO 42 eSPoint none hs12 x8.1, rowT 2 eI64 a19 x18.length cp20 x18, rowT 88 eSToolMove a40 x39.length cp41 x39]) [0, 1, 2, 3] ?_ ⟨rfl, rfl, rfl, rfl, rfl, rfl, rfl, trivial⟩ (by decide) rfl
      refine JE.code ?_
      refine JX.region ?_
      refine JL.val (yl_move rfl) rfl ?_
      refine JL.val (yl_add rfl rfl) rfl ?_
      refine JL.val (yl_assign rfl) rfl ?_
      refine JL.nil ?_
      refine JE.cont hres ?_
      exact fun a w h => ⟨a40, cp41, h.weak ⟨rfl, rfl, rfl, rfl, rfl, rfl, rfl, trivial⟩ [0, 1, 2, 3] (by decide) rfl⟩
    · refine JX.condF rfl hb ?_
      refine JX.exit ?_
      refine JE.qb rfl ?_
      obtain ⟨b1, hb1⟩ : ∃ b : List SToolMove, b = x27 := ⟨_, rfl⟩
      have hy1 : b1 = y1 := by rw [hb1]; exact hox1 _ (Option.some.inj hres).symm
      have hres := hresO1
      rw [← hy1] at hres
      refine JE.weak (env' := [(15, .slice a28 b1.length cp29)]) (es' := [rowT 88 eSToolMove a28 b1.length cp29 b1]) [3] ?_ ⟨(by subst hb1; rfl), trivial⟩ (by decide) (by subst hb1; rfl)
      refine JE.code ?_
      refine JX.seq ?_
      refine JX.region ?_
      refine JL.val (yl_move rfl) rfl ?_
      refine JL.val (yl_assign rfl) rfl ?_
      refine JL.val (yl_assign rfl) rfl ?_
      refine JL.nil ?_
      refine JE.code ?_
      refine JX.ret ?_
      obtain rfl := Option.some.inj hres
      refine JE.ret (rs := [.tmp 8, .tmp 9]) (vs := [.slice a28 b1.length cp29, .int .i64 0]) rfl ⟨rfl, rfl, trivial⟩ ?_
      exact fun w' hb hs => ⟨_, _, ⟨a28, b1.length, cp29, rfl, rfl, rfl⟩, rfl, hb, hs.sel [0] _ (by decide) rfl⟩

/- spec.DrawCarveCurve -/
def sh52 (q0 : List Int) : Option (SPanel × Int × Int × Int × Int) := Option.bind (sh90 q0) fun x3 => Option.bind (sh118 (Sl00Src.mk q0 x3.at_ x3.seed)) fun x6 => Option.bind (sh92 (Sl00Src.mk q0 x6.2.1 x6.2.2) 4) fun x12 => Option.bind (sh92 (Sl00Src.mk q0 x12.2.1 x12.2.2) 12) fun x13 => Option.bind (sh142 (Sl00Src.mk q0 x13.2.1 x13.2.2)) fun x14 => some (x6.1, w64 (x12.1 - (w64 (x13.1.tdiv 11))), x14.1, x14.2.1, x14.2.2.1)
def T52 (r : SPanel × Int × Int × Int × Int) (v : Value) (rs : List Own) : Prop := ∃ (a0_2 : Option Addr) (n0_2 c0_2 : Nat), r.1.Breaks.length = n0_2 ∧ v = rets [.agg #[.int .i64 r.1.W, .int .i64 r.1.H, .slice a0_2 n0_2 c0_2], .int .i64 r.2.1, .int .i64 r.2.2.1, .int .i64 r.2.2.2.1, .int .i64 r.2.2.2.2] ∧ rs = [rowT 2 eI64 a0_2 n0_2 c0_2 r.1.Breaks]
set_option maxRecDepth 100000 in
theorem c52 {w : World} {q0 : List Int} {a_0 : Option Addr} {n_0 c_0 : Nat} (g_0 : Rd w a_0 (eU8.fl q0)) (l_0 : q0.length = n_0) (k_0 : n_0 ≤ c_0) {r : SPanel × Int × Int × Int × Int} (hres : sh52 q0 = some r) : Calls Go.Proofs.Try.prog 52 [.slice a_0 n_0 c_0].toArray w (Ret w (T52 r)) := by
  subst l_0
  unfold sh52 at hres
  refine calls_of (n := 34) (M := []) (es := []) Go.Proofs.Try.func52 rfl rfl rfl (Sep.nil _ _ _) ?_
  refine JX.seq ?_
  refine JX.region ?_
  refine JL.eff (ef_alloc i26 i26z rfl) rfl ?_
  rintro _ _ ⟨g1, rfl, rfl⟩
  refine JL.val (yl_assign rfl) rfl ?_
  refine JL.val (yl_assign rfl) rfl ?_
  refine JL.val (yl_assign rfl) rfl ?_
  refine JL.val (yl_assign rfl) rfl ?_
  refine JL.nil ?_
  refine JE.weak (env' := [(0, .slice a_0 q0.length c_0), (2, ptrAt (some ⟨g1, 0, none⟩) 0)]) (es' := [boxO 26 g1 [.int .i64 0, .int .i64 0, .slice none 0 0]]) [0] ?_ ⟨rfl, rfl, trivial⟩ (by decide) rfl
  refine JE.code ?_
  refine JX.seq ?_
  refine JX.region ?_
  refine JL.val (yl_move rfl) rfl ?_
  obtain ⟨x3, hx3, hres⟩ := bind_some hres
  refine JL.eff (ef_call (T := T90 a_0 q0.length c_0 x3) Go.Proofs.Try.func90 rfl (by kernel_rfl) rfl (fun w hC => c90 (rd_arg g_0 hC) rfl k_0 hx3)) rfl ?_
  rintro _ _ ⟨_, ⟨g4, rfl, rfl⟩, rfl⟩
  refine JL.val (yl_assign rfl) rfl ?_
  refine JL.nil ?_
  refine JE.code ?_
  refine JX.seq ?_
  refine JX.region ?_
  refine JL.val (yl_move rfl) rfl ?_
  obtain ⟨x6, hx6, hres⟩ := bind_some hres
  refine JL.eff (ef_callms (caps := []) (vs := [ptrAt (some ⟨g4, 0, none⟩) 0]) (T := T118 g4 a_0 q0.length c_0 x6) [1] [0] [boxO 163 g4 [.slice a_0 q0.length c_0, .int .i64 x3.at_, .int .u64 x3.seed]] [boxO 26 g1 [.int .i64 0, .int .i64 0, .slice none 0 0]] rfl Go.Proofs.Try.func118 rfl (by kernel_rfl) rfl (by decide) rfl rfl (fun w N hF hS => c118 (q0 := Sl00Src.mk q0 x3.at_ x3.seed) (RdS.pass0 hF g_0) rfl k_0 hS hx6)) rfl ?_
  rintro _ _ ⟨_, _, ⟨rfl, a7, _, cp8, rfl, rfl, rfl⟩, rfl⟩
  refine JL.eff (ef_alloc i26 i26z rfl) rfl ?_
  rintro _ _ ⟨g10, rfl, rfl⟩
  refine JL.eff (ef_store_box (i := 3) (v := .agg #[.int .i64 x6.1.W, .int .i64 x6.1.H, .slice a7 x6.1.Breaks.length cp8]) i26 rfl rfl rfl (i26s).symm (Nat.le_of_ble_eq_true rfl) (by simp [Value.cells, Value.oneCell'])) rfl ?_
  rintro _ _ rfl
  refine JL.nil ?_
  refine JE.weak (env' := [(2, ptrAt (some ⟨g1, 0, none⟩) 0), (7, ptrAt (some ⟨g4, 0, none⟩) 0), (8, ptrAt (some ⟨g10, 0, none⟩) 0)]) (es' := [boxO 26 g1 [.int .i64 0, .int .i64 0, .slice none 0 0], boxO 163 g4 [.slice a_0 q0.length c_0, .int .i64 x6.2.1, .int .u64 x6.2.2], boxO 26 g10 [.int .i64 x6.1.W, .int .i64 x6.1.H, .slice a7 x6.1.Breaks.length cp8], rowT 2 eI64 a7 x6.1.Breaks.length cp8 x6.1.Breaks]) [0, 1, 3, 2] ?_ ⟨rfl, rfl, rfl, trivial⟩ (by decide) rfl
  refine JE.code ?_
  refine JX.seq ?_
  refine JX.region ?_
  refine JL.val (yl_move rfl) rfl ?_
  obtain ⟨x12, hx12, hres⟩ := bind_some hres
  refine JL.eff (ef_callms (caps := []) (vs := [ptrAt (some ⟨g4, 0, none⟩) 0, .int .i64 4]) (T := T92 g4 a_0 q0.length c_0 x12) [1] [0, 2, 3] [boxO 163 g4 [.slice a_0 q0.length c_0, .int .i64 x6.2.1, .int .u64 x6.2.2]] [boxO 26 g1 [.int .i64 0, .int .i64 0, .slice none 0 0], boxO 26 g10 [.int .i64 x6.1.W, .int .i64 x6.1.H, .slice a7 x6.1.Breaks.length cp8], rowT 2 eI64 a7 x6.1.Breaks.length cp8 x6.1.Breaks] rfl Go.Proofs.Try.func92 rfl (by kernel_rfl) rfl (by decide) rfl rfl (fun w N hF hS => c92 (q0 := Sl00Src.mk q0 x6.2.1 x6.2.2) (RdS.pass0 hF g_0) rfl k_0 hS hx12)) rfl ?_
  rintro _ _ ⟨_, _, ⟨rfl, rfl, rfl⟩, rfl⟩
  refine JL.val (yl_move rfl) rfl ?_
  obtain ⟨x13, hx13, hres⟩ := bind_some hres
  refine JL.eff (ef_callms (caps := []) (vs := [ptrAt (some ⟨g4, 0, none⟩) 0, .int .i64 12]) (T := T92 g4 a_0 q0.length c_0 x13) [3] [0, 1, 2] [boxO 163 g4 [.slice a_0 q0.length c_0, .int .i64 x12.2.1, .int .u64 x12.2.2]] [boxO 26 g1 [.int .i64 0, .int .i64 0, .slice none 0 0], boxO 26 g10 [.int .i64 x6.1.W, .int .i64 x6.1.H, .slice a7 x6.1.Breaks.length cp8], rowT 2 eI64 a7 x6.1.Breaks.length cp8 x6.1.Breaks] rfl Go.Proofs.Try.func92 rfl (by kernel_rfl) rfl (by decide) rfl rfl (fun w N hF hS => c92 (q0 := Sl00Src.mk q0 x12.2.1 x12.2.2) (RdS.pass0 hF g_0) rfl k_0 hS hx13)) rfl ?_
  rintro _ _ ⟨_, _, ⟨rfl, rfl, rfl⟩, rfl⟩
  refine JL.val (yl_quo rfl rfl (by decide)) rfl ?_
  refine JL.val (yl_sub rfl rfl) rfl ?_
  refine JL.val (yl_assign rfl) rfl ?_
  refine JL.nil ?_
  refine JE.weak (env' := [(2, ptrAt (some ⟨g1, 0, none⟩) 0), (7, ptrAt (some ⟨g4, 0, none⟩) 0), (8, ptrAt (some ⟨g10, 0, none⟩) 0), (9, .int .i64 (w64 (x12.1 - (w64 (x13.1.tdiv 11)))))]) (es' := [boxO 26 g1 [.int .i64 0, .int .i64 0, .slice none 0 0], boxO 163 g4 [.slice a_0 q0.length c_0, .int .i64 x13.2.1, .int .u64 x13.2.2], boxO 26 g10 [.int .i64 x6.1.W, .int .i64 x6.1.H, .slice a7 x6.1.Breaks.length cp8], rowT 2 eI64 a7 x6.1.Breaks.length cp8 x6.1.Breaks]) [0, 3, 1, 2] ?_ ⟨rfl, rfl, rfl, rfl, trivial⟩ (by decide) rfl
  refine JE.code ?_
  refine JX.seq ?_
  refine JX.region ?_
  refine JL.val (yl_move rfl) rfl ?_
  obtain ⟨x14, hx14, hres⟩ := bind_some hres
  refine JL.eff (ef_callms (caps := []) (vs := [ptrAt (some ⟨g4, 0, none⟩) 0]) (T := T142 g4 a_0 q0.length c_0 x14) [1] [0, 2, 3] [boxO 163 g4 [.slice a_0 q0.length c_0, .int .i64 x13.2.1, .int .u64 x13.2.2]] [boxO 26 g1 [.int .i64 0, .int .i64 0, .slice none 0 0], boxO 26 g10 [.int .i64 x6.1.W, .int .i64 x6.1.H, .slice a7 x6.1.Breaks.length cp8], rowT 2 eI64 a7 x6.1.Breaks.length cp8 x6.1.Breaks] rfl Go.Proofs.Try.func142 rfl (by kernel_rfl) rfl (by decide) rfl rfl (fun w N hF hS => c142 (q0 := Sl00Src.mk q0 x13.2.1 x13.2.2) (RdS.pass0 hF g_0) rfl k_0 hS hx14)) rfl ?_
  rintro _ _ ⟨_, _, ⟨rfl, rfl, rfl⟩, rfl⟩
  refine JL.val (yl_move rfl) rfl ?_
  refine JL.val (yl_extract rfl rfl) rfl ?_
  refine JL.val (yl_extract rfl rfl) rfl ?_
  refine JL.val (yl_extract rfl rfl) rfl ?_
  refine JL.val (yl_assign rfl) rfl ?_
  refine JL.val (yl_assign rfl) rfl ?_
  refine JL.val (yl_assign rfl) rfl ?_
  refine JL.nil ?_
  refine JE.weak (env' := [(2, ptrAt (some ⟨g1, 0, none⟩) 0), (8, ptrAt (some ⟨g10, 0, none⟩) 0), (9, .int .i64 (w64 (x12.1 - (w64 (x13.1.tdiv 11))))), (10, .int .i64 x14.1), (11, .int .i64 x14.2.1), (12, .int .i64 x14.2.2.1)]) (es' := [boxO 26 g1 [.int .i64 0, .int .i64 0, .slice none 0 0], boxO 26 g10 [.int .i64 x6.1.W, .int .i64 x6.1.H, .slice a7 x6.1.Breaks.length cp8], rowT 2 eI64 a7 x6.1.Breaks.length cp8 x6.1.Breaks]) [0, 1, 2] ?_ ⟨rfl, rfl, rfl, rfl, rfl, rfl, trivial⟩ (by decide) rfl
  refine JE.code ?_
  refine JX.seq ?_
  refine JX.region ?_
  refine JL.val (yl_loadn Go.Proofs.Try.underlying26 rfl i26 rfl (fun w hC => rd_box hC 1 rfl) rfl (i26s).symm i26p) rfl ?_
  refine JL.val (yl_move rfl) rfl ?_
  refine JL.val (yl_move rfl) rfl ?_
  refine JL.val (yl_move rfl) rfl ?_
  refine JL.val (yl_move rfl) rfl ?_
  refine JL.eff (ef_store_box (i := 0) (v := .agg #[.int .i64 x6.1.W, .int .i64 x6.1.H, .slice a7 x6.1.Breaks.length cp8]) i26 rfl rfl rfl (i26s).symm (Nat.le_of_ble_eq_true rfl) (by simp [Value.cells, Value.oneCell'])) rfl ?_
  rintro _ _ rfl
  refine JL.val (yl_assign rfl) rfl ?_
  refine JL.val (yl_assign rfl) rfl ?_
  refine JL.val (yl_assign rfl) rfl ?_
  refine JL.val (yl_assign rfl) rfl ?_
  refine JL.nil ?_
  refine JE.weak (env' := [(2, ptrAt (some ⟨g1, 0, none⟩) 0), (3, .int .i64 (w64 (x12.1 - (w64 (x13.1.tdiv 11))))), (4, .int .i64 x14.1), (5, .int .i64 x14.2.1), (6, .int .i64 x14.2.2.1)]) (es' := [boxO 26 g1 [.int .i64 x6.1.W, .int .i64 x6.1.H, .slice a7 x6.1.Breaks.length cp8], rowT 2 eI64 a7 x6.1.Breaks.length cp8 x6.1.Breaks]) [0, 2] ?_ ⟨rfl, rfl, rfl, rfl, rfl, trivial⟩ (by decide) rfl
  refine JE.code ?_
  refine JX.ret ?_
  obtain rfl := Option.some.inj hres
  refine JE.ret (rs := [.cell 2 26, .tmp 3, .tmp 4, .tmp 5, .tmp 6]) (vs := [.agg #[.int .i64 x6.1.W, .int .i64 x6.1.H, .slice a7 x6.1.Breaks.length cp8], .int .i64 (w64 (x12.1 - (w64 (x13.1.tdiv 11)))), .int .i64 x14.1, .int .i64 x14.2.1, .int .i64 x14.2.2.1]) rfl ⟨rv_box 0 rfl rfl Go.Proofs.Try.underlying26 rfl i26 (i26s).symm, rfl, rfl, rfl, rfl, trivial⟩ ?_
  exact fun w' hb hs => ⟨_, _, ⟨a7, x6.1.Breaks.length, cp8, rfl, rfl, rfl⟩, rfl, hb, hs.sel [1] _ (by decide) rfl⟩

/- impl.countCurves -/
def sh174 (q0 : SPanel) : Option (Int) := Option.bind (sh97 q0) fun x3 => some ((x3.1.length : Nat) : Int)
def T174 (r : Int) (v : Value) (rs : List Own) : Prop := v = rets [.int .i64 r] ∧ rs = []
set_option maxRecDepth 100000 in
theorem c174 {w : World} {q0 : SPanel} {a_0_2 : Option Addr} {n_0_2 c_0_2 : Nat} (g_0_2 : Rd w a_0_2 (eI64.fl q0.Breaks)) (l_0_2 : q0.Breaks.length = n_0_2) (k_0_2 : n_0_2 ≤ c_0_2) {r : Int} (hres : sh174 q0 = some r) : Calls Go.Proofs.Try.prog 174 [.agg #[.int .i64 q0.W, .int .i64 q0.H, .slice a_0_2 n_0_2 c_0_2]].toArray w (Ret w (T174 r)) := by
  subst l_0_2
  unfold sh174 at hres
  refine calls_of (n := 12) (M := []) (es := []) Go.Proofs.Try.func174 rfl rfl rfl (Sep.nil _ _ _) ?_
  refine JX.seq ?_
  refine JX.region ?_
  refine JL.eff (ef_box rfl rfl) rfl ?_
  rintro _ _ ⟨g1, rfl, rfl⟩
  refine JL.val (yl_assign rfl) rfl ?_
  refine JL.nil ?_
  refine JE.code ?_
  refine JX.seq ?_
  refine JX.region ?_
  refine JL.val (yl_loadn Go.Proofs.Try.underlying26 rfl i26 rfl (fun w hC => rd_box hC 0 rfl) rfl (i26s).symm i26p) rfl ?_
  obtain ⟨x3, hx3, hres⟩ := bind_some hres
  refine JL.eff (ef_call (vs := [.agg #[.int .i64 q0.W, .int .i64 q0.H, .slice a_0_2 q0.Breaks.length c_0_2]]) (T := T97 x3) Go.Proofs.Try.func97 rfl (by kernel_rfl) rfl (fun w hC => c97 (q0 := q0) (rd_arg g_0_2 hC) rfl k_0_2 hx3)) rfl ?_
  rintro _ _ ⟨_, ⟨a4, _, cp5, hs7, rfl, hi8, a10, _, cp11, rfl, rfl, rfl⟩, rfl⟩
  refine JL.val (yl_move rfl) rfl ?_
  refine JL.val (yl_extract rfl rfl) rfl ?_
  refine JL.val (yl_extract rfl rfl) rfl ?_
  refine JL.val (yl_assign rfl) rfl ?_
  refine JL.val (yl_assign rfl) rfl ?_
  refine JL.nil ?_
  refine JE.weak (env' := [(3, .slice a4 x3.1.length cp5)]) (es' := [rowT 102 eHd a4 x3.1.length cp5 hs7, innO 104 eSWalker none hs7 x3.1]) [1, 2] ?_ ⟨rfl, trivial⟩ (by decide) rfl
  refine JE.code ?_
  refine JX.seq ?_
  refine JX.region ?_
  refine JL.val (yl_move rfl) rfl ?_
  refine JL.val (yl_len_slice Go.Proofs.Try.underlying99 rfl) rfl ?_
  refine JL.val (yl_assign rfl) rfl ?_
  refine JL.nil ?_
  refine JE.weak (env' := [(2, .int .i64 ((x3.1.length : Nat) : Int))]) (es' := []) [] ?_ ⟨rfl, trivial⟩ (by decide) rfl
  refine JE.code ?_
  refine JX.ret ?_
  obtain rfl := Option.some.inj hres
  refine JE.ret (rs := [.tmp 2]) (vs := [.int .i64 ((x3.1.length : Nat) : Int)]) rfl ⟨rfl, trivial⟩ ?_
  exact fun w' hb hs => ⟨_, _, ⟨rfl, rfl⟩, rfl, hb, hs.sel [] _ (by decide) rfl⟩

/- impl.curveCode -/
def sh95_1 (q0 : SPanel) (q1 : List Int) : Int → Option (Int ⊕ (Unit ⊕ Int))
  | x4 => bif decide (x4 < (q1.length : Int)) then (Option.bind (getI q1 x4) fun x5 => Option.bind (sh174 q0) fun x6 => Option.bind (sh107 x5 0 (w64 (x6 - 1))) fun x7 => bif !x7 then (some (.inr (.inr 2))) else (some (.inl (w64 (x4 + 1))))) else (some (.inr (.inl ())))
def sh95 (q0 : SPanel) (q1 : List Int) : Option (Int) := Option.bind (sh128 q0) fun x3 => bif !x3 then (some 1) else (Option.bind (iter (sh95_1 q0 q1) 0) fun y1 => elimS y1 (fun r => some r) fun b1 => (some 0))
def T95 (r : Int) (v : Value) (rs : List Own) : Prop := v = rets [.int .i64 r] ∧ rs = []
set_option maxRecDepth 100000 in
theorem c95 {w : World} {q0 : SPanel} {a_0_2 : Option Addr} {n_0_2 c_0_2 : Nat} (g_0_2 : Rd w a_0_2 (eI64.fl q0.Breaks)) (l_0_2 : q0.Breaks.length = n_0_2) (k_0_2 : n_0_2 ≤ c_0_2) {q1 : List Int} {a_1 : Option Addr} {n_1 c_1 : Nat} (g_1 : Rd w a_1 (eI64.fl q1)) (l_1 : q1.length = n_1) (k_1 : n_1 ≤ c_1) {r : Int} (hres : sh95 q0 q1 = some r) : Calls Go.Proofs.Try.prog 95 [.agg #[.int .i64 q0.W, .int .i64 q0.H, .slice a_0_2 n_0_2 c_0_2], .slice a_1 n_1 c_1].toArray w (Ret w (T95 r)) := by
  subst l_0_2
  subst l_1
  unfold sh95 at hres
  refine calls_of (n := 23) (M := []) (es := []) Go.Proofs.Try.func95 rfl rfl rfl (Sep.nil _ _ _) ?_
  refine JX.seq ?_
  refine JX.region ?_
  refine JL.eff (ef_box rfl rfl) rfl ?_
  rintro _ _ ⟨g1, rfl, rfl⟩
  refine JL.val (yl_assign rfl) rfl ?_
  refine JL.nil ?_
  refine JE.code ?_
  refine JX.seq ?_
  refine JX.seq ?_
  refine JX.region ?_
  refine JL.val (yl_loadn Go.Proofs.Try.underlying26 rfl i26 rfl (fun w hC => rd_box hC 0 rfl) rfl (i26s).symm i26p) rfl ?_
  obtain ⟨x3, hx3, hres⟩ := bind_some hres
  refine JL.eff (ef_call (vs := [.agg #[.int .i64 q0.W, .int .i64 q0.H, .slice a_0_2 q0.Breaks.length c_0_2]]) (T := T128 x3) Go.Proofs.Try.func128 rfl (by kernel_rfl) rfl (fun w hC => c128 (q0 := q0) (rd_arg g_0_2 hC) rfl k_0_2 hx3)) rfl ?_
  rintro _ _ ⟨_, ⟨rfl, rfl⟩, rfl⟩
  refine JL.val (yl_not rfl) rfl ?_
  refine JL.nil ?_
  refine JE.code ?_
  rcases cond_some hres with ⟨hb, hres⟩ | ⟨hb, hres⟩
  · refine JX.condT rfl hb ?_
    refine JX.seq ?_
    refine JX.region ?_
    refine JL.val (yl_assign rfl) rfl ?_
    refine JL.nil ?_
    refine JE.weak (env' := [(4, .int .i64 1)]) (es' := []) [] ?_ ⟨rfl, trivial⟩ (by decide) rfl
    refine JE.code ?_
    refine JX.ret ?_
    obtain rfl := Option.some.inj hres
    refine JE.ret (rs := [.tmp 4]) (vs := [.int .i64 1]) rfl ⟨rfl, trivial⟩ ?_
    exact fun w' hb hs => ⟨_, _, ⟨rfl, rfl⟩, rfl, hb, hs.sel [] _ (by decide) rfl⟩
  · refine JX.condF rfl hb ?_
    refine JX.skip ?_
    refine JE.code ?_
    refine JX.seq ?_
    refine JX.seq ?_
    refine JX.region ?_
    refine JL.val (yl_move rfl) rfl ?_
    refine JL.val (yl_len_slice Go.Proofs.Try.underlying24 rfl) rfl ?_
    refine JL.val (yl_move rfl) rfl ?_
    refine JL.nil ?_
    refine JE.code ?_
    refine JX.block ?_
    obtain ⟨y1, hy1, hresO1⟩ := bind_some hres
    refine JX.loop (I := fun (s1 : Int) aa ww => St w [] 23 [(2, ptrAt (some ⟨g1, 0, none⟩) 0), (10, .slice a_1 q1.length c_1), (11, .int .i64 (q1.length : Int)), (12, .int .i64 s1)] [boxO 26 g1 [.int .i64 q0.W, .int .i64 q0.H, .slice a_0_2 q0.Breaks.length c_0_2]] aa ww) (sh95_1 q0 q1) hy1 (fun a w h => h.weak ⟨rfl, rfl, rfl, rfl, trivial⟩ [0] (by decide) rfl) ?_
    rintro x4 o1 hres hox1 aa ww hS
    refine (?_ : JX Go.Proofs.Try.prog w [] 23 _ _ [(2, ptrAt (some ⟨g1, 0, none⟩) 0), (10, .slice a_1 q1.length c_1), (11, .int .i64 (q1.length : Int)), (12, .int .i64 x4)] [boxO 26 g1 [.int .i64 q0.W, .int .i64 q0.H, .slice a_0_2 q0.Breaks.length c_0_2]] _) aa ww hS
    clear hS
    unfold sh95_1 at hres
    refine JX.seq ?_
    refine JX.region ?_
    refine JL.val (yl_lss rfl rfl) rfl ?_
    refine JL.nil ?_
    refine JE.code ?_
    refine JX.seq ?_
    rcases cond_some hres with ⟨hb, hres⟩ | ⟨hb, hres⟩
    · refine JX.condT rfl hb ?_
      refine JX.skip ?_
      refine JE.code ?_
      refine JX.seq ?_
      refine JX.block ?_
      refine JX.seq ?_
      refine JX.region ?_
      obtain ⟨x5, hx5, hres⟩ := bind_some hres
      refine JL.val (yl_idxT Go.Proofs.Try.underlying24 i2 i2s rfl rfl hx5 rfl (fun w hC => rd_arg g_1 hC)) rfl ?_
      refine JL.val (yl_loadT0 Go.Proofs.Try.underlying2 rfl rfl hx5 (fun w hC => rd_arg g_1 hC) rfl) rfl ?_
      refine JL.val (yl_assign rfl) rfl ?_
      refine JL.nil ?_
      refine JE.code ?_
      refine JX.seq ?_
      refine JX.region ?_
      refine JL.val (yl_move rfl) rfl ?_
      refine JL.val (yl_loadn Go.Proofs.Try.underlying26 rfl i26 rfl (fun w hC => rd_box hC 0 rfl) rfl (i26s).symm i26p) rfl ?_
      obtain ⟨x6, hx6, hres⟩ := bind_some hres
      refine JL.eff (ef_call (vs := [.agg #[.int .i64 q0.W, .int .i64 q0.H, .slice a_0_2 q0.Breaks.length c_0_2]]) (T := T174 x6) Go.Proofs.Try.func174 rfl (by kernel_rfl) rfl (fun w hC => c174 (q0 := q0) (rd_arg g_0_2 hC) rfl k_0_2 hx6)) rfl ?_
      rintro _ _ ⟨_, ⟨rfl, rfl⟩, rfl⟩
      refine JL.val (yl_sub rfl rfl) rfl ?_
      obtain ⟨x7, hx7, hres⟩ := bind_some hres
      refine JL.eff (ef_call (T := T107 x7) Go.Proofs.Try.func107 rfl (by kernel_rfl) rfl (fun w hC => c107  hx7)) rfl ?_
      rintro _ _ ⟨_, ⟨rfl, rfl⟩, rfl⟩
      refine JL.val (yl_not rfl) rfl ?_
      refine JL.nil ?_
      refine JE.weak (env' := [(2, ptrAt (some ⟨g1, 0, none⟩) 0), (10, .slice a_1 q1.length c_1), (11, .int .i64 (q1.length : Int)), (12, .int .i64 x4), (21, .bool !x7)]) (es' := [boxO 26 g1 [.int .i64 q0.W, .int .i64 q0.H, .slice a_0_2 q0.Breaks.length c_0_2]]) [0] ?_ ⟨rfl, rfl, rfl, rfl, rfl, trivial⟩ (by decide) rfl
      refine JE.code ?_
      rcases cond_some hres with ⟨hb, hres⟩ | ⟨hb, hres⟩
      · refine JX.condT rfl hb ?_
        refine JX.seq ?_
        refine JX.region ?_
        refine JL.val (yl_assign rfl) rfl ?_
        refine JL.nil ?_
        refine JE.weak (env' := [(4, .int .i64 2)]) (es' := []) [] ?_ ⟨rfl, trivial⟩ (by decide) rfl
        refine JE.code ?_
        refine JX.ret ?_
        refine JE.qbr ?_
        refine JE.qbr ?_
        have hres := elimS_inr hresO1 (hox1 _ (Option.some.inj hres).symm)
        obtain rfl := Option.some.inj hres
        refine JE.ret (rs := [.tmp 4]) (vs := [.int .i64 2]) rfl ⟨rfl, trivial⟩ ?_
        exact fun w' hb hs => ⟨_, _, ⟨rfl, rfl⟩, rfl, hb, hs.sel [] _ (by decide) rfl⟩
      · refine JX.condF rfl hb ?_
        refine JX.skip ?_
        refine JE.code ?_
        refine JX.region ?_
        refine JL.val (yl_add rfl rfl) rfl ?_
        refine JL.val (yl_move rfl) rfl ?_
        refine JL.nil ?_
        refine JE.cont hres ?_
        exact fun a w h => h.weak ⟨rfl, rfl, rfl, rfl, trivial⟩ [0] (by decide) rfl
    · refine JX.condF rfl hb ?_
      refine JX.exit ?_
      refine JE.qb rfl ?_
      obtain ⟨b1, hb1⟩ : ∃ b : Unit, b = () := ⟨_, rfl⟩
      have hy1 : Sum.inl b1 = y1 := by rw [hb1]; exact hox1 _ (Option.some.inj hres).symm
      have hres := elimS_inl hresO1 hy1
      refine JE.weak (env' := []) (es' := []) [] ?_ trivial (by decide) (by subst hb1; rfl)
      refine JE.code ?_
      refine JX.seq ?_
      refine JX.region ?_
      refine JL.val (yl_assign rfl) rfl ?_
      refine JL.nil ?_
      refine JE.code ?_
      refine JX.ret ?_
      obtain rfl := Option.some.inj hres
      refine JE.ret (rs := [.tmp 4]) (vs := [.int .i64 0]) rfl ⟨rfl, trivial⟩ ?_
      exact fun w' hb hs => ⟨_, _, ⟨rfl, rfl⟩, rfl, hb, hs.sel [] _ (by decide) rfl⟩

/- impl.CarveCurve -/
def sh53 (q0 : SPanel) (q1 : Int) (q2 : Int) (q3 : Int) (q4 : Int) : Option (List SToolMove × Int) := Option.bind (sh95 q0 [q1]) fun x5 => bif x5 != 0 then (some (([] : List SToolMove), x5)) else (Option.bind (sh143 q2 q3 q4) fun x7 => bif !x7 then (some (([] : List SToolMove), 2)) else (Option.bind (sh97 q0) fun x9 => Option.bind (getI x9.1 q1) fun x19 => Option.bind (sh145 x19 q2 q3 q4) fun x23 => some (x23, 0)))
def T53 (r : List SToolMove × Int) (v : Value) (rs : List Own) : Prop := ∃ (a0 : Option Addr) (n0 c0 : Nat), r.1.length = n0 ∧ v = rets [.slice a0 n0 c0, .int .i64 r.2] ∧ rs = [rowT 88 eSToolMove a0 n0 c0 r.1]
set_option maxRecDepth 100000 in
theorem c53 {w : World} {q0 : SPanel} {a_0_2 : Option Addr} {n_0_2 c_0_2 : Nat} (g_0_2 : Rd w a_0_2 (eI64.fl q0.Breaks)) (l_0_2 : q0.Breaks.length = n_0_2) (k_0_2 : n_0_2 ≤ c_0_2) {q1 : Int} {q2 : Int} {q3 : Int} {q4 : Int} {r : List SToolMove × Int} (hres : sh53 q0 q1 q2 q3 q4 = some r) : Calls Go.Proofs.Try.prog 53 [.agg #[.int .i64 q0.W, .int .i64 q0.H, .slice a_0_2 n_0_2 c_0_2], .int .i64 q1, .int .i64 q2, .int .i64 q3, .int .i64 q4].toArray w (Ret w (T53 r)) := by
  subst l_0_2
  unfold sh53 at hres
  refine calls_of (n := 40) (M := []) (es := []) Go.Proofs.Try.func53 rfl rfl rfl (Sep.nil _ _ _) ?_
  refine JX.seq ?_
  refine JX.region ?_
  refine JL.eff (ef_box rfl rfl) rfl ?_
  rintro _ _ ⟨g1, rfl, rfl⟩
  refine JL.val (yl_assign rfl) rfl ?_
  refine JL.val (yl_assign rfl) rfl ?_
  refine JL.nil ?_
  refine JE.code ?_
  refine JX.seq ?_
  refine JX.seq ?_
  refine JX.region ?_
  refine JL.val (yl_loadn Go.Proofs.Try.underlying26 rfl i26 rfl (fun w hC => rd_box hC 0 rfl) rfl (i26s).symm i26p) rfl ?_
  refine JL.val (yl_move rfl) rfl ?_
  refine JL.eff (ef_buildSlice (E := 2) (k := eI64.k) (us := eI64.fl [q1]) rfl (fun w => bsl24_1 q1 w) rfl (by decide)) rfl ?_
  rintro _ _ ⟨a3, rfl, rfl⟩
  obtain ⟨x5, hx5, hres⟩ := bind_some hres
  refine JL.eff (ef_call (vs := [.agg #[.int .i64 q0.W, .int .i64 q0.H, .slice a_0_2 q0.Breaks.length c_0_2], .slice a3 1 1]) (T := T95 x5) Go.Proofs.Try.func95 rfl (by kernel_rfl) rfl (fun w hC => c95 (q0 := q0) (rd_arg g_0_2 hC) rfl k_0_2 (rd_row hC 1 rfl) rfl (Nat.le_refl _) hx5)) rfl ?_
  rintro _ _ ⟨_, ⟨rfl, rfl⟩, rfl⟩
  refine JL.val (yl_assign rfl) rfl ?_
  refine JL.nil ?_
  refine JE.weak (env' := [(1, .int .i64 q1), (2, .int .i64 q2), (3, .int .i64 q3), (4, .int .i64 q4), (5, ptrAt (some ⟨g1, 0, none⟩) 0), (12, .int .i64 x5)]) (es' := [boxO 26 g1 [.int .i64 q0.W, .int .i64 q0.H, .slice a_0_2 q0.Breaks.length c_0_2]]) [0] ?_ ⟨rfl, rfl, rfl, rfl, rfl, rfl, trivial⟩ (by decide) rfl
  refine JE.code ?_
  refine JX.seq ?_
  refine JX.region ?_
  refine JL.val (yl_move rfl) rfl ?_
  refine JL.val (yl_neq rfl rfl) rfl ?_
  refine JL.nil ?_
  refine JE.code ?_
  rcases cond_some hres with ⟨hb, hres⟩ | ⟨hb, hres⟩
  · refine JX.condT rfl hb ?_
    refine JX.seq ?_
    refine JX.region ?_
    refine JL.val (yl_move rfl) rfl ?_
    refine JL.val (yl_assign rfl) rfl ?_
    refine JL.val (yl_assign rfl) rfl ?_
    refine JL.nil ?_
    refine JE.weak (env' := [(10, .slice none 0 0), (11, .int .i64 x5)]) (es' := []) [] ?_ ⟨rfl, rfl, trivial⟩ (by decide) rfl
    refine JE.code ?_
    refine JX.ret ?_
    refine JE.nilrow 88 eSToolMove ?_
    obtain rfl := Option.some.inj hres
    refine JE.ret (rs := [.tmp 10, .tmp 11]) (vs := [.slice none 0 0, .int .i64 x5]) rfl ⟨rfl, rfl, trivial⟩ ?_
    exact fun w' hb hs => ⟨_, _, ⟨none, 0, 0, rfl, rfl, rfl⟩, rfl, hb, hs.sel [0] _ (by decide) rfl⟩
  · refine JX.condF rfl hb ?_
    refine JX.skip ?_
    refine JE.code ?_
    refine JX.seq ?_
    refine JX.seq ?_
    refine JX.region ?_
    refine JL.val (yl_move rfl) rfl ?_
    refine JL.val (yl_move rfl) rfl ?_
    refine JL.val (yl_move rfl) rfl ?_
    obtain ⟨x7, hx7, hres⟩ := bind_some hres
    refine JL.eff (ef_call (T := T143 x7) Go.Proofs.Try.func143 rfl (by kernel_rfl) rfl (fun w hC => c143  hx7)) rfl ?_
    rintro _ _ ⟨_, ⟨rfl, rfl⟩, rfl⟩
    refine JL.val (yl_not rfl) rfl ?_
    refine JL.nil ?_
    refine JE.weak (env' := [(1, .int .i64 q1), (2, .int .i64 q2), (3, .int .i64 q3), (4, .int .i64 q4), (5, ptrAt (some ⟨g1, 0, none⟩) 0), (26, .bool !x7)]) (es' := [boxO 26 g1 [.int .i64 q0.W, .int .i64 q0.H, .slice a_0_2 q0.Breaks.length c_0_2]]) [0] ?_ ⟨rfl, rfl, rfl, rfl, rfl, rfl, trivial⟩ (by decide) rfl
    refine JE.code ?_
    rcases cond_some hres with ⟨hb, hres⟩ | ⟨hb, hres⟩
    · refine JX.condT rfl hb ?_
      refine JX.seq ?_
      refine JX.region ?_
      refine JL.val (yl_assign rfl) rfl ?_
      refine JL.val (yl_assign rfl) rfl ?_
      refine JL.nil ?_
      refine JE.weak (env' := [(10, .slice none 0 0), (11, .int .i64 2)]) (es' := []) [] ?_ ⟨rfl, rfl, trivial⟩ (by decide) rfl
      refine JE.code ?_
      refine JX.ret ?_
      refine JE.nilrow 88 eSToolMove ?_
      obtain rfl := Option.some.inj hres
      refine JE.ret (rs := [.tmp 10, .tmp 11]) (vs := [.slice none 0 0, .int .i64 2]) rfl ⟨rfl, rfl, trivial⟩ ?_
      exact fun w' hb hs => ⟨_, _, ⟨none, 0, 0, rfl, rfl, rfl⟩, rfl, hb, hs.sel [0] _ (by decide) rfl⟩
    · refine JX.condF rfl hb ?_
      refine JX.skip ?_
      refine JE.code ?_
      refine JX.seq ?_
      refine JX.region ?_
      refine JL.val (yl_loadn Go.Proofs.Try.underlying26 rfl i26 rfl (fun w hC => rd_box hC 0 rfl) rfl (i26s).symm i26p) rfl ?_
      obtain ⟨x9, hx9, hres⟩ := bind_some hres
      refine JL.eff (ef_call (vs := [.agg #[.int .i64 q0.W, .int .i64 q0.H, .slice a_0_2 q0.Breaks.length c_0_2]]) (T := T97 x9) Go.Proofs.Try.func97 rfl (by kernel_rfl) rfl (fun w hC => c97 (q0 := q0) (rd_arg g_0_2 hC) rfl k_0_2 hx9)) rfl ?_
      rintro _ _ ⟨_, ⟨a10, _, cp11, hs13, rfl, hi14, a16, _, cp17, rfl, rfl, rfl⟩, rfl⟩
      refine JL.val (yl_move rfl) rfl ?_
      refine JL.val (yl_extract rfl rfl) rfl ?_
      refine JL.val (yl_extract rfl rfl) rfl ?_
      refine JL.val (yl_assign rfl) rfl ?_
      refine JL.val (yl_assign rfl) rfl ?_
      refine JL.nil ?_
      refine JE.weak (env' := [(1, .int .i64 q1), (2, .int .i64 q2), (3, .int .i64 q3), (4, .int .i64 q4), (13, .slice a10 x9.1.length cp11)]) (es' := [rowT 102 eHd a10 x9.1.length cp11 hs13, innO 104 eSWalker none hs13 x9.1]) [1, 2] ?_ ⟨rfl, rfl, rfl, rfl, rfl, trivial⟩ (by decide) rfl
      refine JE.code ?_
      refine JX.seq ?_
      refine JX.region ?_
      refine JL.val (yl_move rfl) rfl ?_
      refine JL.val (yl_move rfl) rfl ?_
      obtain ⟨x19, hx19, hres⟩ := bind_some hres
      obtain ⟨ha20, hc21, hhx19⟩ := Inn.sub hi14 hx19
      refine JL.val (yl_idxT Go.Proofs.Try.underlying99 i102 i102s rfl rfl hhx19 (Inn.len hi14) (fun w hC => rd_row hC 0 rfl)) rfl ?_
      refine JL.val (yl_loadT0 (z := ⟨ha20, x19.length, hc21⟩) Go.Proofs.Try.underlying102 rfl rfl hhx19 (fun w hC => rd_row hC 0 rfl) rfl) rfl ?_
      refine JL.val (yl_move rfl) rfl ?_
      refine JL.val (yl_move rfl) rfl ?_
      refine JL.val (yl_move rfl) rfl ?_
      obtain ⟨x23, hx23, hres⟩ := bind_some hres
      refine JL.eff (ef_call (T := T145 x23) Go.Proofs.Try.func145 rfl (by kernel_rfl) rfl (fun w hC => c145 ((RdI.sub (rd_inn hC 1 rfl) hx19 hhx19)) rfl (RdI.ln (rd_inn hC 1 rfl) hx19 hhx19) hx23)) rfl ?_
      rintro _ _ ⟨_, ⟨a24, _, cp25, rfl, rfl, rfl⟩, rfl⟩
      refine JL.val (yl_assign rfl) rfl ?_
      refine JL.val (yl_assign rfl) rfl ?_
      refine JL.nil ?_
      refine JE.weak (env' := [(10, .slice a24 x23.length cp25), (11, .int .i64 0)]) (es' := [rowT 88 eSToolMove a24 x23.length cp25 x23]) [2] ?_ ⟨rfl, rfl, trivial⟩ (by decide) rfl
      refine JE.code ?_
      refine JX.ret ?_
      obtain rfl := Option.some.inj hres
      refine JE.ret (rs := [.tmp 10, .tmp 11]) (vs := [.slice a24 x23.length cp25, .int .i64 0]) rfl ⟨rfl, rfl, trivial⟩ ?_
      exact fun w' hb hs => ⟨_, _, ⟨a24, x23.length, cp25, rfl, rfl, rfl⟩, rfl, hb, hs.sel [0] _ (by decide) rfl⟩

/- spec.CarveCurve -/
def sh54 (q0 : SPanel) (q1 : Int) (q2 : Int) (q3 : Int) (q4 : Int) : Option (List SToolMove × Int) := Option.bind (sh146 q0 q1 q2 q3 q4) fun x3 => bif x3.2 != 0 then (some (([] : List SToolMove), x3.2)) else (Option.bind (sh149 x3.1 q2 q3 q4) fun x8 => some (x8, 0))
def T54 (r : List SToolMove × Int) (v : Value) (rs : List Own) : Prop := ∃ (a0 : Option Addr) (n0 c0 : Nat), r.1.length = n0 ∧ v = rets [.slice a0 n0 c0, .int .i64 r.2] ∧ rs = [rowT 88 eSToolMove a0 n0 c0 r.1]
set_option maxRecDepth 100000 in
theorem c54 {w : World} {q0 : SPanel} {a_0_2 : Option Addr} {n_0_2 c_0_2 : Nat} (g_0_2 : Rd w a_0_2 (eI64.fl q0.Breaks)) (l_0_2 : q0.Breaks.length = n_0_2) (k_0_2 : n_0_2 ≤ c_0_2) {q1 : Int} {q2 : Int} {q3 : Int} {q4 : Int} {r : List SToolMove × Int} (hres : sh54 q0 q1 q2 q3 q4 = some r) : Calls Go.Proofs.Try.prog 54 [.agg #[.int .i64 q0.W, .int .i64 q0.H, .slice a_0_2 n_0_2 c_0_2], .int .i64 q1, .int .i64 q2, .int .i64 q3, .int .i64 q4].toArray w (Ret w (T54 r)) := by
  subst l_0_2
  unfold sh54 at hres
  refine calls_of (n := 30) (M := []) (es := []) Go.Proofs.Try.func54 rfl rfl rfl (Sep.nil _ _ _) ?_
  refine JX.seq ?_
  refine JX.region ?_
  refine JL.eff (ef_box rfl rfl) rfl ?_
  rintro _ _ ⟨g1, rfl, rfl⟩
  refine JL.val (yl_assign rfl) rfl ?_
  refine JL.val (yl_assign rfl) rfl ?_
  refine JL.nil ?_
  refine JE.code ?_
  refine JX.seq ?_
  refine JX.region ?_
  refine JL.val (yl_move rfl) rfl ?_
  refine JL.val (yl_move rfl) rfl ?_
  refine JL.val (yl_move rfl) rfl ?_
  refine JL.val (yl_move rfl) rfl ?_
  obtain ⟨x3, hx3, hres⟩ := bind_some hres
  refine JL.eff (ef_call (T := T146 x3) Go.Proofs.Try.func146 rfl (by kernel_rfl) rfl (fun w hC => c146 (RdAt.of0 (rd_box hC 0 rfl)) (rd_arg g_0_2 hC) rfl k_0_2 hx3)) rfl ?_
  rintro _ _ ⟨_, ⟨a4, _, cp5, rfl, rfl, rfl⟩, rfl⟩
  refine JL.val (yl_move rfl) rfl ?_
  refine JL.val (yl_extract rfl rfl) rfl ?_
  refine JL.val (yl_extract rfl rfl) rfl ?_
  refine JL.val (yl_assign rfl) rfl ?_
  refine JL.val (yl_assign rfl) rfl ?_
  refine JL.nil ?_
  refine JE.weak (env' := [(2, .int .i64 q2), (3, .int .i64 q3), (4, .int .i64 q4), (12, .slice a4 x3.1.length cp5), (13, .int .i64 x3.2)]) (es' := [rowT 42 eSPoint a4 x3.1.length cp5 x3.1]) [1] ?_ ⟨rfl, rfl, rfl, rfl, rfl, trivial⟩ (by decide) rfl
  refine JE.code ?_
  refine JX.seq ?_
  refine JX.seq ?_
  refine JX.region ?_
  refine JL.val (yl_move rfl) rfl ?_
  refine JL.val (yl_neq rfl rfl) rfl ?_
  refine JL.nil ?_
  refine JE.code ?_
  rcases cond_some hres with ⟨hb, hres⟩ | ⟨hb, hres⟩
  · refine JX.condT rfl hb ?_
    refine JX.seq ?_
    refine JX.region ?_
    refine JL.val (yl_move rfl) rfl ?_
    refine JL.val (yl_assign rfl) rfl ?_
    refine JL.val (yl_assign rfl) rfl ?_
    refine JL.nil ?_
    refine JE.weak (env' := [(10, .slice none 0 0), (11, .int .i64 x3.2)]) (es' := []) [] ?_ ⟨rfl, rfl, trivial⟩ (by decide) rfl
    refine JE.code ?_
    refine JX.ret ?_
    refine JE.nilrow 88 eSToolMove ?_
    obtain rfl := Option.some.inj hres
    refine JE.ret (rs := [.tmp 10, .tmp 11]) (vs := [.slice none 0 0, .int .i64 x3.2]) rfl ⟨rfl, rfl, trivial⟩ ?_
    exact fun w' hb hs => ⟨_, _, ⟨none, 0, 0, rfl, rfl, rfl⟩, rfl, hb, hs.sel [0] _ (by decide) rfl⟩
  · refine JX.condF rfl hb ?_
    refine JX.skip ?_
    refine JE.code ?_
    refine JX.seq ?_
    refine JX.region ?_
    refine JL.val (yl_move rfl) rfl ?_
    refine JL.val (yl_move rfl) rfl ?_
    refine JL.val (yl_move rfl) rfl ?_
    refine JL.val (yl_move rfl) rfl ?_
    obtain ⟨x8, hx8, hres⟩ := bind_some hres
    refine JL.eff (ef_call (T := T149 x8) Go.Proofs.Try.func149 rfl (by kernel_rfl) rfl (fun w hC => c149 (rd_row hC 0 rfl) rfl (ln_row hC 0 rfl) hx8)) rfl ?_
    rintro _ _ ⟨_, ⟨a9, _, cp10, rfl, rfl, rfl⟩, rfl⟩
    refine JL.val (yl_assign rfl) rfl ?_
    refine JL.val (yl_assign rfl) rfl ?_
    refine JL.nil ?_
    refine JE.weak (env' := [(10, .slice a9 x8.length cp10), (11, .int .i64 0)]) (es' := [rowT 88 eSToolMove a9 x8.length cp10 x8]) [1] ?_ ⟨rfl, rfl, trivial⟩ (by decide) rfl
    refine JE.code ?_
    refine JX.ret ?_
    obtain rfl := Option.some.inj hres
    refine JE.ret (rs := [.tmp 10, .tmp 11]) (vs := [.slice a9 x8.length cp10, .int .i64 0]) rfl ⟨rfl, rfl, trivial⟩ ?_
    exact fun w' hb hs => ⟨_, _, ⟨a9, x8.length, cp10, rfl, rfl, rfl⟩, rfl, hb, hs.sel [0] _ (by decide) rfl⟩

/- spec.DrawCarveOrder -/
def sh55 (q0 : List Int) : Option (SPanel) := Option.bind (sh90 q0) fun x3 => Option.bind (sh118 (Sl00Src.mk q0 x3.at_ x3.seed)) fun x6 => some x6.1
def T55 (r : SPanel) (v : Value) (rs : List Own) : Prop := ∃ (a0_2 : Option Addr) (n0_2 c0_2 : Nat), r.Breaks.length = n0_2 ∧ v = rets [.agg #[.int .i64 r.W, .int .i64 r.H, .slice a0_2 n0_2 c0_2]] ∧ rs = [rowT 2 eI64 a0_2 n0_2 c0_2 r.Breaks]
set_option maxRecDepth 100000 in
theorem c55 {w : World} {q0 : List Int} {a_0 : Option Addr} {n_0 c_0 : Nat} (g_0 : Rd w a_0 (eU8.fl q0)) (l_0 : q0.length = n_0) (k_0 : n_0 ≤ c_0) {r : SPanel} (hres : sh55 q0 = some r) : Calls Go.Proofs.Try.prog 55 [.slice a_0 n_0 c_0].toArray w (Ret w (T55 r)) := by
  subst l_0
  unfold sh55 at hres
  refine calls_of (n := 6) (M := []) (es := []) Go.Proofs.Try.func55 rfl rfl rfl (Sep.nil _ _ _) ?_
  refine JX.seq ?_
  refine JX.region ?_
  refine JL.eff (ef_alloc i26 i26z rfl) rfl ?_
  rintro _ _ ⟨g1, rfl, rfl⟩
  refine JL.nil ?_
  refine JE.code ?_
  refine JX.seq ?_
  refine JX.region ?_
  refine JL.val (yl_move rfl) rfl ?_
  obtain ⟨x3, hx3, hres⟩ := bind_some hres
  refine JL.eff (ef_call (T := T90 a_0 q0.length c_0 x3) Go.Proofs.Try.func90 rfl (by kernel_rfl) rfl (fun w hC => c90 (rd_arg g_0 hC) rfl k_0 hx3)) rfl ?_
  rintro _ _ ⟨_, ⟨g4, rfl, rfl⟩, rfl⟩
  obtain ⟨x6, hx6, hres⟩ := bind_some hres
  refine JL.eff (ef_callms (caps := []) (vs := [ptrAt (some ⟨g4, 0, none⟩) 0]) (T := T118 g4 a_0 q0.length c_0 x6) [1] [0] [boxO 163 g4 [.slice a_0 q0.length c_0, .int .i64 x3.at_, .int .u64 x3.seed]] [boxO 26 g1 [.int .i64 0, .int .i64 0, .slice none 0 0]] rfl Go.Proofs.Try.func118 rfl (by kernel_rfl) rfl (by decide) rfl rfl (fun w N hF hS => c118 (q0 := Sl00Src.mk q0 x3.at_ x3.seed) (RdS.pass0 hF g_0) rfl k_0 hS hx6)) rfl ?_
  rintro _ _ ⟨_, _, ⟨rfl, a7, _, cp8, rfl, rfl, rfl⟩, rfl⟩
  refine JL.eff (ef_store_box (i := 0) (v := .agg #[.int .i64 x6.1.W, .int .i64 x6.1.H, .slice a7 x6.1.Breaks.length cp8]) i26 rfl rfl rfl (i26s).symm (Nat.le_of_ble_eq_true rfl) (by simp [Value.cells, Value.oneCell'])) rfl ?_
  rintro _ _ rfl
  refine JL.nil ?_
  refine JE.weak (env' := [(2, ptrAt (some ⟨g1, 0, none⟩) 0)]) (es' := [boxO 26 g1 [.int .i64 x6.1.W, .int .i64 x6.1.H, .slice a7 x6.1.Breaks.length cp8], rowT 2 eI64 a7 x6.1.Breaks.length cp8 x6.1.Breaks]) [0, 2] ?_ ⟨rfl, trivial⟩ (by decide) rfl
  refine JE.code ?_
  refine JX.ret ?_
  obtain rfl := Option.some.inj hres
  refine JE.ret (rs := [.cell 2 26]) (vs := [.agg #[.int .i64 x6.1.W, .int .i64 x6.1.H, .slice a7 x6.1.Breaks.length cp8]]) rfl ⟨rv_box 0 rfl rfl Go.Proofs.Try.underlying26 rfl i26 (i26s).symm, trivial⟩ ?_
  exact fun w' hb hs => ⟨_, _, ⟨a7, x6.1.Breaks.length, cp8, rfl, rfl, rfl⟩, rfl, hb, hs.sel [1] _ (by decide) rfl⟩

/- impl.CarveOrder -/
def sh56 (q0 : SPanel) : Option (List Int × Int) := Option.bind (sh128 q0) fun x3 => bif !x3 then (some (([] : List Int), 1)) else (Option.bind (sh144 q0) fun x5 => some (x5, 0))
def T56 (r : List Int × Int) (v : Value) (rs : List Own) : Prop := ∃ (a0 : Option Addr) (n0 c0 : Nat), r.1.length = n0 ∧ v = rets [.slice a0 n0 c0, .int .i64 r.2] ∧ rs = [rowT 2 eI64 a0 n0 c0 r.1]
set_option maxRecDepth 100000 in
theorem c56 {w : World} {q0 : SPanel} {a_0_2 : Option Addr} {n_0_2 c_0_2 : Nat} (g_0_2 : Rd w a_0_2 (eI64.fl q0.Breaks)) (l_0_2 : q0.Breaks.length = n_0_2) (k_0_2 : n_0_2 ≤ c_0_2) {r : List Int × Int} (hres : sh56 q0 = some r) : Calls Go.Proofs.Try.prog 56 [.agg #[.int .i64 q0.W, .int .i64 q0.H, .slice a_0_2 n_0_2 c_0_2]].toArray w (Ret w (T56 r)) := by
  subst l_0_2
  unfold sh56 at hres
  refine calls_of (n := 9) (M := []) (es := []) Go.Proofs.Try.func56 rfl rfl rfl (Sep.nil _ _ _) ?_
  refine JX.seq ?_
  refine JX.region ?_
  refine JL.eff (ef_box rfl rfl) rfl ?_
  rintro _ _ ⟨g1, rfl, rfl⟩
  refine JL.val (yl_assign rfl) rfl ?_
  refine JL.val (yl_assign rfl) rfl ?_
  refine JL.nil ?_
  refine JE.code ?_
  refine JX.seq ?_
  refine JX.seq ?_
  refine JX.region ?_
  refine JL.val (yl_loadn Go.Proofs.Try.underlying26 rfl i26 rfl (fun w hC => rd_box hC 0 rfl) rfl (i26s).symm i26p) rfl ?_
  obtain ⟨x3, hx3, hres⟩ := bind_some hres
  refine JL.eff (ef_call (vs := [.agg #[.int .i64 q0.W, .int .i64 q0.H, .slice a_0_2 q0.Breaks.length c_0_2]]) (T := T128 x3) Go.Proofs.Try.func128 rfl (by kernel_rfl) rfl (fun w hC => c128 (q0 := q0) (rd_arg g_0_2 hC) rfl k_0_2 hx3)) rfl ?_
  rintro _ _ ⟨_, ⟨rfl, rfl⟩, rfl⟩
  refine JL.val (yl_not rfl) rfl ?_
  refine JL.nil ?_
  refine JE.code ?_
  rcases cond_some hres with ⟨hb, hres⟩ | ⟨hb, hres⟩
  · refine JX.condT rfl hb ?_
    refine JX.seq ?_
    refine JX.region ?_
    refine JL.val (yl_assign rfl) rfl ?_
    refine JL.val (yl_assign rfl) rfl ?_
    refine JL.nil ?_
    refine JE.weak (env' := [(2, .slice none 0 0), (3, .int .i64 1)]) (es' := []) [] ?_ ⟨rfl, rfl, trivial⟩ (by decide) rfl
    refine JE.code ?_
    refine JX.ret ?_
    refine JE.nilrow 2 eI64 ?_
    obtain rfl := Option.some.inj hres
    refine JE.ret (rs := [.tmp 2, .tmp 3]) (vs := [.slice none 0 0, .int .i64 1]) rfl ⟨rfl, rfl, trivial⟩ ?_
    exact fun w' hb hs => ⟨_, _, ⟨none, 0, 0, rfl, rfl, rfl⟩, rfl, hb, hs.sel [0] _ (by decide) rfl⟩
  · refine JX.condF rfl hb ?_
    refine JX.skip ?_
    refine JE.code ?_
    refine JX.seq ?_
    refine JX.region ?_
    refine JL.val (yl_loadn Go.Proofs.Try.underlying26 rfl i26 rfl (fun w hC => rd_box hC 0 rfl) rfl (i26s).symm i26p) rfl ?_
    obtain ⟨x5, hx5, hres⟩ := bind_some hres
    refine JL.eff (ef_call (vs := [.agg #[.int .i64 q0.W, .int .i64 q0.H, .slice a_0_2 q0.Breaks.length c_0_2]]) (T := T144 x5) Go.Proofs.Try.func144 rfl (by kernel_rfl) rfl (fun w hC => c144 (q0 := q0) (rd_arg g_0_2 hC) rfl k_0_2 hx5)) rfl ?_
    rintro _ _ ⟨_, ⟨a6, _, cp7, rfl, rfl, rfl⟩, rfl⟩
    refine JL.val (yl_assign rfl) rfl ?_
    refine JL.val (yl_assign rfl) rfl ?_
    refine JL.nil ?_
    refine JE.weak (env' := [(2, .slice a6 x5.length cp7), (3, .int .i64 0)]) (es' := [rowT 2 eI64 a6 x5.length cp7 x5]) [1] ?_ ⟨rfl, rfl, trivial⟩ (by decide) rfl
    refine JE.code ?_
    refine JX.ret ?_
    obtain rfl := Option.some.inj hres
    refine JE.ret (rs := [.tmp 2, .tmp 3]) (vs := [.slice a6 x5.length cp7, .int .i64 0]) rfl ⟨rfl, rfl, trivial⟩ ?_
    exact fun w' hb hs => ⟨_, _, ⟨a6, x5.length, cp7, rfl, rfl, rfl⟩, rfl, hb, hs.sel [0] _ (by decide) rfl⟩

/- spec.CarveOrder -/
def sh57 (q0 : SPanel) : Option (List Int × Int) := Option.bind (sh139 q0) fun x3 => bif !x3 then (some (([] : List Int), 1)) else (Option.bind (sh147 q0) fun x5 => Option.bind (sh148 x5.1) fun x15 => some (x15, 0))
def T57 (r : List Int × Int) (v : Value) (rs : List Own) : Prop := ∃ (a0 : Option Addr) (n0 c0 : Nat), r.1.length = n0 ∧ v = rets [.slice a0 n0 c0, .int .i64 r.2] ∧ rs = [rowT 2 eI64 a0 n0 c0 r.1]
set_option maxRecDepth 100000 in
theorem c57 {w : World} {q0 : SPanel} {a_0_2 : Option Addr} {n_0_2 c_0_2 : Nat} (g_0_2 : Rd w a_0_2 (eI64.fl q0.Breaks)) (l_0_2 : q0.Breaks.length = n_0_2) (k_0_2 : n_0_2 ≤ c_0_2) {r : List Int × Int} (hres : sh57 q0 = some r) : Calls Go.Proofs.Try.prog 57 [.agg #[.int .i64 q0.W, .int .i64 q0.H, .slice a_0_2 n_0_2 c_0_2]].toArray w (Ret w (T57 r)) := by
  subst l_0_2
  unfold sh57 at hres
  refine calls_of (n := 14) (M := []) (es := []) Go.Proofs.Try.func57 rfl rfl rfl (Sep.nil _ _ _) ?_
  refine JX.seq ?_
  refine JX.region ?_
  refine JL.eff (ef_box rfl rfl) rfl ?_
  rintro _ _ ⟨g1, rfl, rfl⟩
  refine JL.val (yl_assign rfl) rfl ?_
  refine JL.val (yl_assign rfl) rfl ?_
  refine JL.nil ?_
  refine JE.code ?_
  refine JX.seq ?_
  refine JX.seq ?_
  refine JX.region ?_
  obtain ⟨x3, hx3, hres⟩ := bind_some hres
  refine JL.eff (ef_call (T := T139 x3) Go.Proofs.Try.func139 rfl (by kernel_rfl) rfl (fun w hC => c139 (RdAt.of0 (rd_box hC 0 rfl)) (rd_arg g_0_2 hC) rfl k_0_2 hx3)) rfl ?_
  rintro _ _ ⟨_, ⟨rfl, rfl⟩, rfl⟩
  refine JL.val (yl_not rfl) rfl ?_
  refine JL.nil ?_
  refine JE.code ?_
  rcases cond_some hres with ⟨hb, hres⟩ | ⟨hb, hres⟩
  · refine JX.condT rfl hb ?_
    refine JX.seq ?_
    refine JX.region ?_
    refine JL.val (yl_assign rfl) rfl ?_
    refine JL.val (yl_assign rfl) rfl ?_
    refine JL.nil ?_
    refine JE.weak (env' := [(2, .slice none 0 0), (3, .int .i64 1)]) (es' := []) [] ?_ ⟨rfl, rfl, trivial⟩ (by decide) rfl
    refine JE.code ?_
    refine JX.ret ?_
    refine JE.nilrow 2 eI64 ?_
    obtain rfl := Option.some.inj hres
    refine JE.ret (rs := [.tmp 2, .tmp 3]) (vs := [.slice none 0 0, .int .i64 1]) rfl ⟨rfl, rfl, trivial⟩ ?_
    exact fun w' hb hs => ⟨_, _, ⟨none, 0, 0, rfl, rfl, rfl⟩, rfl, hb, hs.sel [0] _ (by decide) rfl⟩
  · refine JX.condF rfl hb ?_
    refine JX.skip ?_
    refine JE.code ?_
    refine JX.seq ?_
    refine JX.region ?_
    obtain ⟨x5, hx5, hres⟩ := bind_some hres
    refine JL.eff (ef_call (T := T147 x5) Go.Proofs.Try.func147 rfl (by kernel_rfl) rfl (fun w hC => c147 (RdAt.of0 (rd_box hC 0 rfl)) (rd_arg g_0_2 hC) rfl k_0_2 hx5)) rfl ?_
    rintro _ _ ⟨_, ⟨a6, _, cp7, hs9, rfl, hi10, a12, _, cp13, rfl, rfl, rfl⟩, rfl⟩
    refine JL.val (yl_move rfl) rfl ?_
    refine JL.val (yl_extract rfl rfl) rfl ?_
    refine JL.val (yl_extract rfl rfl) rfl ?_
    refine JL.val (yl_assign rfl) rfl ?_
    refine JL.val (yl_assign rfl) rfl ?_
    refine JL.nil ?_
    refine JE.weak (env' := [(4, .slice a6 x5.1.length cp7)]) (es' := [rowT 34 eHd a6 x5.1.length cp7 hs9, innO 42 eSPoint none hs9 x5.1]) [1, 2] ?_ ⟨rfl, trivial⟩ (by decide) rfl
    refine JE.code ?_
    refine JX.seq ?_
    refine JX.region ?_
    refine JL.val (yl_move rfl) rfl ?_
    obtain ⟨x15, hx15, hres⟩ := bind_some hres
    refine JL.eff (ef_call (T := T148 x15) Go.Proofs.Try.func148 rfl (by kernel_rfl) rfl (fun w hC => c148 (rd_row hC 0 rfl) (rd_inn hC 1 rfl) hi10 rfl (ln_row hC 0 rfl) hx15)) rfl ?_
    rintro _ _ ⟨_, ⟨a16, _, cp17, rfl, rfl, rfl⟩, rfl⟩
    refine JL.val (yl_assign rfl) rfl ?_
    refine JL.val (yl_assign rfl) rfl ?_
    refine JL.nil ?_
    refine JE.weak (env' := [(2, .slice a16 x15.length cp17), (3, .int .i64 0)]) (es' := [rowT 2 eI64 a16 x15.length cp17 x15]) [2] ?_ ⟨rfl, rfl, trivial⟩ (by decide) rfl
    refine JE.code ?_
    refine JX.ret ?_
    obtain rfl := Option.some.inj hres
    refine JE.ret (rs := [.tmp 2, .tmp 3]) (vs := [.slice a16 x15.length cp17, .int .i64 0]) rfl ⟨rfl, rfl, trivial⟩ ?_
    exact fun w' hb hs => ⟨_, _, ⟨a16, x15.length, cp17, rfl, rfl, rfl⟩, rfl, hb, hs.sel [0] _ (by decide) rfl⟩

/- (*spec.l00Src).one -/
def sh93 (q0 : Sl00Src) (q1 : Int) : Option (Bool × Int × Int) := Option.bind (sh92 q0 q1) fun x1 => some (x1.1 == 0, x1.2.1, x1.2.2)
def T93 (gb_0 : Nat) (a_0_0 : Option Addr) (n_0_0 c_0_0 : Nat) (r : Bool × Int × Int) (v : Value) (es' rs : List Own) : Prop := es' = [boxO 163 gb_0 [.slice a_0_0 n_0_0 c_0_0, .int .i64 r.2.1, .int .u64 r.2.2]] ∧ v = rets [.bool r.1] ∧ rs = []
set_option maxRecDepth 100000 in
theorem c93 {w : World} {M : List Nat} {q0 : Sl00Src} {gb_0 : Nat} {a_0_0 : Option Addr} {n_0_0 c_0_0 : Nat} (g_0_0 : RdS M w a_0_0 (eU8.fl q0.code)) (l_0_0 : q0.code.length = n_0_0) (k_0_0 : n_0_0 ≤ c_0_0) {q1 : Int} (gs : Sep w.heap.size M w [boxO 163 gb_0 [.slice a_0_0 n_0_0 c_0_0, .int .i64 q0.at_, .int .u64 q0.seed]]) {r : Bool × Int × Int} (hres : sh93 q0 q1 = some r) : Calls Go.Proofs.Try.prog 93 [ptrAt (some ⟨gb_0, 0, none⟩) 0, .int .i64 q1].toArray w (RetMs w M (T93 gb_0 a_0_0 n_0_0 c_0_0 r)) := by
  subst l_0_0
  unfold sh93 at hres
  refine calls_of (n := 9) (M := M) (es := [boxO 163 gb_0 [.slice a_0_0 q0.code.length c_0_0, .int .i64 q0.at_, .int .u64 q0.seed]]) Go.Proofs.Try.func93 rfl rfl rfl gs ?_
  refine JX.seq ?_
  refine JX.region ?_
  refine JL.val (yl_assign rfl) rfl ?_
  refine JL.nil ?_
  refine JE.code ?_
  refine JX.seq ?_
  refine JX.region ?_
  refine JL.val (yl_move rfl) rfl ?_
  refine JL.val (yl_move rfl) rfl ?_
  obtain ⟨x1, hx1, hres⟩ := bind_some hres
  refine JL.eff (ef_callms (caps := []) (vs := [ptrAt (some ⟨gb_0, 0, none⟩) 0, .int .i64 q1]) (T := T92 gb_0 a_0_0 q0.code.length c_0_0 x1) [0] [] [boxO 163 gb_0 [.slice a_0_0 q0.code.length c_0_0, .int .i64 q0.at_, .int .u64 q0.seed]] [] rfl Go.Proofs.Try.func92 rfl (by kernel_rfl) rfl (by decide) rfl rfl (fun w N hF hS => c92 (q0 := q0) (RdS.pass hF g_0_0) rfl k_0_0 hS hx1)) rfl ?_
  rintro _ _ ⟨_, _, ⟨rfl, rfl, rfl⟩, rfl⟩
  refine JL.val (yl_eql rfl rfl) rfl ?_
  refine JL.val (yl_assign rfl) rfl ?_
  refine JL.nil ?_
  refine JE.weak (env' := [(4, .bool (x1.1 == 0))]) (es' := [boxO 163 gb_0 [.slice a_0_0 q0.code.length c_0_0, .int .i64 x1.2.1, .int .u64 x1.2.2]]) [0] ?_ ⟨rfl, trivial⟩ (by decide) rfl
  refine JE.code ?_
  refine JX.ret ?_
  obtain rfl := Option.some.inj hres
  refine JE.ret (rs := [.tmp 4]) (vs := [.bool (x1.1 == 0)]) rfl ⟨rfl, trivial⟩ ?_
  exact fun w' hb hs => ⟨_, _, _, ⟨rfl, rfl, rfl⟩, rfl, hb, hs.sel [0] _ (by decide) rfl⟩

/- spec.l22Draw -/
def sh161 (q0 : Sl00Src) : Option (List SToolMove × Int × Int) := Option.bind (sh183 q0 3) fun x1 => Option.bind (sh92 (Sl00Src.mk q0.code x1.2.1 x1.2.2) 9) fun x8 => Option.bind (sh92 (Sl00Src.mk q0.code x8.2.1 x8.2.2) 20) fun x9 => Option.bind (sh92 (Sl00Src.mk q0.code x9.2.1 x9.2.2) 9) fun x10 => Option.bind (sh51 x1.1 (w64 (1 + x8.1)) (w64 (1 + x9.1)) (w64 (1 + x10.1))) fun x11 => Option.bind (bif decide (40 < (x11.1.length : Int)) then (Option.bind (sh92 (Sl00Src.mk q0.code x10.2.1 x10.2.2) 30) fun x18 => Option.bind (takeL x11.1 (w64 (10 + x18.1))) fun x19 => some ((x18.2.1, x18.2.2), x19)) else (some ((x10.2.1, x10.2.2), x11.1))) fun j15 => (some (j15.2, j15.1.1, j15.1.2))
def T161 (gb_0 : Nat) (a_0_0 : Option Addr) (n_0_0 c_0_0 : Nat) (r : List SToolMove × Int × Int) (v : Value) (es' rs : List Own) : Prop := es' = [boxO 163 gb_0 [.slice a_0_0 n_0_0 c_0_0, .int .i64 r.2.1, .int .u64 r.2.2]] ∧ ∃ (a0 : Option Addr) (n0 c0 : Nat), r.1.length = n0 ∧ v = rets [.slice a0 n0 c0] ∧ rs = [rowT 88 eSToolMove a0 n0 c0 r.1]
set_option maxRecDepth 100000 in
theorem c161 {w : World} {M : List Nat} {q0 : Sl00Src} {gb_0 : Nat} {a_0_0 : Option Addr} {n_0_0 c_0_0 : Nat} (g_0_0 : RdS M w a_0_0 (eU8.fl q0.code)) (l_0_0 : q0.code.length = n_0_0) (k_0_0 : n_0_0 ≤ c_0_0) (gs : Sep w.heap.size M w [boxO 163 gb_0 [.slice a_0_0 n_0_0 c_0_0, .int .i64 q0.at_, .int .u64 q0.seed]]) {r : List SToolMove × Int × Int} (hres : sh161 q0 = some r) : Calls Go.Proofs.Try.prog 161 [ptrAt (some ⟨gb_0, 0, none⟩) 0].toArray w (RetMs w M (T161 gb_0 a_0_0 n_0_0 c_0_0 r)) := by
  subst l_0_0
  unfold sh161 at hres
  refine calls_of (n := 31) (M := M) (es := [boxO 163 gb_0 [.slice a_0_0 q0.code.length c_0_0, .int .i64 q0.at_, .int .u64 q0.seed]]) Go.Proofs.Try.func161 rfl rfl rfl gs ?_
  refine JX.seq ?_
  refine JX.region ?_
  refine JL.val (yl_assign rfl) rfl ?_
  refine JL.nil ?_
  refine JE.code ?_
  refine JX.seq ?_
  refine JX.region ?_
  refine JL.val (yl_move rfl) rfl ?_
  obtain ⟨x1, hx1, hres⟩ := bind_some hres
  refine JL.eff (ef_callms (caps := []) (vs := [ptrAt (some ⟨gb_0, 0, none⟩) 0, .int .i64 3]) (T := T183 gb_0 a_0_0 q0.code.length c_0_0 x1) [0] [] [boxO 163 gb_0 [.slice a_0_0 q0.code.length c_0_0, .int .i64 q0.at_, .int .u64 q0.seed]] [] rfl Go.Proofs.Try.func183 rfl (by kernel_rfl) rfl (by decide) rfl rfl (fun w N hF hS => c183 (q0 := q0) (RdS.pass hF g_0_0) rfl k_0_0 hS hx1)) rfl ?_
  rintro _ _ ⟨_, _, ⟨rfl, a2, _, cp3, rfl, rfl, rfl⟩, rfl⟩
  refine JL.eff (ef_alloc i26 i26z rfl) rfl ?_
  rintro _ _ ⟨g5, rfl, rfl⟩
  refine JL.eff (ef_store_box (i := 2) (v := .agg #[.int .i64 x1.1.W, .int .i64 x1.1.H, .slice a2 x1.1.Breaks.length cp3]) i26 rfl rfl rfl (i26s).symm (Nat.le_of_ble_eq_true rfl) (by simp [Value.cells, Value.oneCell'])) rfl ?_
  rintro _ _ rfl
  refine JL.nil ?_
  refine JE.weak (env' := [(0, ptrAt (some ⟨gb_0, 0, none⟩) 0), (3, ptrAt (some ⟨g5, 0, none⟩) 0)]) (es' := [boxO 163 gb_0 [.slice a_0_0 q0.code.length c_0_0, .int .i64 x1.2.1, .int .u64 x1.2.2], boxO 26 g5 [.int .i64 x1.1.W, .int .i64 x1.1.H, .slice a2 x1.1.Breaks.length cp3], rowT 2 eI64 a2 x1.1.Breaks.length cp3 x1.1.Breaks]) [0, 2, 1] ?_ ⟨rfl, rfl, trivial⟩ (by decide) rfl
  refine JE.code ?_
  refine JX.seq ?_
  refine JX.drawH [(0, .read), (1, .pure), (4, .pure), (7, .pure), (2, .must), (3, .pure), (5, .must), (6, .pure), (8, .must), (9, .pure), (10, .must), (11, .pure), (12, .pure), (13, .pure), (14, .pure), (15, .pure)] [2, 5, 8] [0] [1, 2] [boxO 163 gb_0 [.slice a_0_0 q0.code.length c_0_0, .int .i64 x1.2.1, .int .u64 x1.2.2]] [boxO 26 g5 [.int .i64 x1.1.W, .int .i64 x1.1.H, .slice a2 x1.1.Breaks.length cp3], rowT 2 eI64 a2 x1.1.Breaks.length cp3 x1.1.Breaks] mixedP (by kernel_rfl) (by kernel_rfl) (by decide) rfl rfl ?_
  intro wrr7 Nr7 hFr7
  refine JH.read rfl (yl_loadn Go.Proofs.Try.underlying26 rfl i26 rfl (fun w hw => hFr7.box 1 rfl rfl hw) rfl (i26s).symm i26p) rfl ?_
  refine JH.pure rfl (yl_move rfl) rfl ?_
  refine JH.pure rfl (yl_move rfl) rfl ?_
  refine JH.pure rfl (yl_move rfl) rfl ?_
  obtain ⟨x8, hx8, hres⟩ := bind_some hres
  refine JH.must rfl (ef_callms (caps := []) (vs := [ptrAt (some ⟨gb_0, 0, none⟩) 0, .int .i64 9]) (T := T92 gb_0 a_0_0 q0.code.length c_0_0 x8) [0] [] [boxO 163 gb_0 [.slice a_0_0 q0.code.length c_0_0, .int .i64 x1.2.1, .int .u64 x1.2.2]] [] rfl Go.Proofs.Try.func92 rfl (by kernel_rfl) rfl (by decide) rfl rfl (fun w N hF hS => c92 (q0 := Sl00Src.mk q0.code x1.2.1 x1.2.2) (RdS.pass hF (RdS.pass hFr7 g_0_0)) rfl k_0_0 hS hx8)) rfl rfl ?_
  rintro _ _ ⟨_, _, ⟨rfl, rfl, rfl⟩, rfl⟩
  refine JH.pure rfl (yl_add rfl rfl) rfl ?_
  obtain ⟨x9, hx9, hres⟩ := bind_some hres
  refine JH.must rfl (ef_callms (caps := []) (vs := [ptrAt (some ⟨gb_0, 0, none⟩) 0, .int .i64 20]) (T := T92 gb_0 a_0_0 q0.code.length c_0_0 x9) [0] [] [boxO 163 gb_0 [.slice a_0_0 q0.code.length c_0_0, .int .i64 x8.2.1, .int .u64 x8.2.2]] [] rfl Go.Proofs.Try.func92 rfl (by kernel_rfl) rfl (by decide) rfl rfl (fun w N hF hS => c92 (q0 := Sl00Src.mk q0.code x8.2.1 x8.2.2) (RdS.pass hF (RdS.pass hFr7 g_0_0)) rfl k_0_0 hS hx9)) rfl rfl ?_
  rintro _ _ ⟨_, _, ⟨rfl, rfl, rfl⟩, rfl⟩
  refine JH.pure rfl (yl_add rfl rfl) rfl ?_
  obtain ⟨x10, hx10, hres⟩ := bind_some hres
  refine JH.must rfl (ef_callms (caps := []) (vs := [ptrAt (some ⟨gb_0, 0, none⟩) 0, .int .i64 9]) (T := T92 gb_0 a_0_0 q0.code.length c_0_0 x10) [0] [] [boxO 163 gb_0 [.slice a_0_0 q0.code.length c_0_0, .int .i64 x9.2.1, .int .u64 x9.2.2]] [] rfl Go.Proofs.Try.func92 rfl (by kernel_rfl) rfl (by decide) rfl rfl (fun w N hF hS => c92 (q0 := Sl00Src.mk q0.code x9.2.1 x9.2.2) (RdS.pass hF (RdS.pass hFr7 g_0_0)) rfl k_0_0 hS hx10)) rfl rfl ?_
  rintro _ _ ⟨_, _, ⟨rfl, rfl, rfl⟩, rfl⟩
  refine JH.pure rfl (yl_add rfl rfl) rfl ?_
  obtain ⟨x11, hx11, hres⟩ := bind_some hres
  refine JH.must rfl (ef_call (vs := [.agg #[.int .i64 x1.1.W, .int .i64 x1.1.H, .slice a2 x1.1.Breaks.length cp3], .int .i64 (w64 (1 + x8.1)), .int .i64 (w64 (1 + x9.1)), .int .i64 (w64 (1 + x10.1))]) (T := T51 x11) Go.Proofs.Try.func51 rfl (by kernel_rfl) rfl (fun w hC => c51 (q0 := x1.1) (hFr7.row 2 rfl rfl hC.1) rfl (ln_row hFr7.cl 2 rfl) hx11)) rfl rfl ?_
  rintro _ _ ⟨_, ⟨a12, _, cp13, rfl, rfl, rfl⟩, rfl⟩
  refine JH.pure rfl (yl_move rfl) rfl ?_
  refine JH.pure rfl (yl_extract rfl rfl) rfl ?_
  refine JH.pure rfl (yl_extract rfl rfl) rfl ?_
  refine JH.pure rfl (yl_assign rfl) rfl ?_
  refine JH.pure rfl (yl_assign rfl) rfl ?_
  refine JH.nil ?_
  refine JE.weak (env' := [(0, ptrAt (some ⟨gb_0, 0, none⟩) 0), (4, .slice a12 x11.1.length cp13)]) (es' := [boxO 163 gb_0 [.slice a_0_0 q0.code.length c_0_0, .int .i64 x10.2.1, .int .u64 x10.2.2], rowT 88 eSToolMove a12 x11.1.length cp13 x11.1]) [2, 3] ?_ ⟨rfl, rfl, trivial⟩ (by decide) rfl
  refine JE.code ?_
  refine JX.seq ?_
  refine JX.seq ?_
  refine JX.region ?_
  refine JL.val (yl_move rfl) rfl ?_
  refine JL.val (yl_len_slice Go.Proofs.Try.underlying65 rfl) rfl ?_
  refine JL.val (yl_gtr rfl rfl) rfl ?_
  refine JL.nil ?_
  refine JE.code ?_
  obtain ⟨j15, hj15, hresj15⟩ := bind_some hres
  refine JX.cut (K := fun J => ∀ (a16 : Option Addr) (cp17 : Nat), J [(4, .slice a16 j15.2.length cp17)] [boxO 163 gb_0 [.slice a_0_0 q0.code.length c_0_0, .int .i64 j15.1.1, .int .u64 j15.1.2], rowT 88 eSToolMove a16 j15.2.length cp17 j15.2]) ?_ ?_
  · intro a16 cp17
    have hres := hresj15
    refine JE.code ?_
    refine JX.seq ?_
    refine JX.region ?_
    refine JL.val (yl_move rfl) rfl ?_
    refine JL.val (yl_assign rfl) rfl ?_
    refine JL.nil ?_
    refine JE.code ?_
    refine JX.ret ?_
    obtain rfl := Option.some.inj hres
    refine JE.ret (rs := [.tmp 2]) (vs := [.slice a16 j15.2.length cp17]) rfl ⟨rfl, trivial⟩ ?_
    exact fun w' hb hs => ⟨_, _, _, ⟨rfl, a16, j15.2.length, cp17, rfl, rfl, rfl⟩, rfl, hb, hs.sel [0, 1] _ (by decide) rfl⟩
  · intro K
    rcases cond_some hj15 with ⟨hb, hres⟩ | ⟨hb, hres⟩
    · refine JX.condT rfl hb ?_
      refine JX.region ?_
      refine JL.val (yl_move rfl) rfl ?_
      refine JL.val (yl_move rfl) rfl ?_
      obtain ⟨x18, hx18, hres⟩ := bind_some hres
      refine JL.eff (ef_callms (caps := []) (vs := [ptrAt (some ⟨gb_0, 0, none⟩) 0, .int .i64 30]) (T := T92 gb_0 a_0_0 q0.code.length c_0_0 x18) [0] [1] [boxO 163 gb_0 [.slice a_0_0 q0.code.length c_0_0, .int .i64 x10.2.1, .int .u64 x10.2.2]] [rowT 88 eSToolMove a12 x11.1.length cp13 x11.1] rfl Go.Proofs.Try.func92 rfl (by kernel_rfl) rfl (by decide) rfl rfl (fun w N hF hS => c92 (q0 := Sl00Src.mk q0.code x10.2.1 x10.2.2) (RdS.pass hF g_0_0) rfl k_0_0 hS hx18)) rfl ?_
      rintro _ _ ⟨_, _, ⟨rfl, rfl, rfl⟩, rfl⟩
      refine JL.val (yl_add rfl rfl) rfl ?_
      obtain ⟨x19, hx19, hres⟩ := bind_some hres
      refine JL.val (yl_takeT Go.Proofs.Try.underlying65 i88 rfl rfl hx19 rfl (fun w hC => ln_row hC 0 rfl)) rfl ?_
      refine JL.takeT 0 hx19 rfl ?_
      refine JL.val (yl_assign rfl) rfl ?_
      refine JL.nil ?_
      refine JE.weak (env' := [(4, .slice a12 x19.length cp13)]) (es' := [boxO 163 gb_0 [.slice a_0_0 q0.code.length c_0_0, .int .i64 x18.2.1, .int .u64 x18.2.2], rowT 88 eSToolMove a12 x19.length cp13 x19]) [1, 0] ?_ ⟨rfl, trivial⟩ (by decide) rfl
      have hj := Option.some.inj hres
      exact JE.weak [0, 1] (K a12 cp13) ⟨(by subst hj; rfl), trivial⟩ (by decide) (by subst hj; rfl)
    · refine JX.condF rfl hb ?_
      refine JX.skip ?_
      have hj := Option.some.inj hres
      exact JE.weak [0, 1] (K a12 cp13) ⟨(by subst hj; rfl), trivial⟩ (by decide) (by subst hj; rfl)

/- spec.l22Bent -/
def sh150 (q0 : Sl00Src) : Option (List SToolMove × Int × Int) := Option.bind (sh161 q0) fun x1 => bif (x1.1.length : Int) == 0 then (some (x1.1, x1.2.1, x1.2.2)) else (Option.bind (sh92 (Sl00Src.mk q0.code x1.2.1 x1.2.2) (x1.1.length : Int)) fun x5 => Option.bind (sh92 (Sl00Src.mk q0.code x5.2.1 x5.2.2) 16) fun x6 => bif x6.1 == 0 then (Option.bind (sh94 (Sl00Src.mk q0.code x6.2.1 x6.2.2) [(-100001), (-100000), 100000, 100001]) fun x9 => Option.bind (getI x1.1 x5.1) fun x10 => some (x1.1.set (x5.1).toNat (SToolMove.mk x9.1 x10.Y x10.Z), x9.2.1, x9.2.2)) else (bif x6.1 == 1 then (Option.bind (sh94 (Sl00Src.mk q0.code x6.2.1 x6.2.2) [(-501), (-500), 500, 501]) fun x13 => Option.bind (getI x1.1 x5.1) fun x14 => some (x1.1.set (x5.1).toNat (SToolMove.mk x14.X x14.Y x13.1), x13.2.1, x13.2.2)) else (bif x6.1 == 2 then (Option.bind (sh92 (Sl00Src.mk q0.code x6.2.1 x6.2.2) 2) fun x15 => Option.bind (mkL (w64 (700 + x15.1)) (SToolMove.mk 0 0 0)) fun x16 => some (x16, x15.2.1, x15.2.2)) else (Option.bind (bif x6.1 == 3 then (Option.bind (getI x1.1 x5.1) fun x21 => Option.bind (getI x1.1 x5.1) fun x22 => some (x1.1.set (x5.1).toNat (SToolMove.mk x22.X x22.Y (w64 (0 - x21.Z))))) else (some x1.1)) fun j19 => (some (j19, x6.2.1, x6.2.2))))))
def T150 (gb_0 : Nat) (a_0_0 : Option Addr) (n_0_0 c_0_0 : Nat) (r : List SToolMove × Int × Int) (v : Value) (es' rs : List Own) : Prop := es' = [boxO 163 gb_0 [.slice a_0_0 n_0_0 c_0_0, .int .i64 r.2.1, .int .u64 r.2.2]] ∧ ∃ (a0 : Option Addr) (n0 c0 : Nat), r.1.length = n0 ∧ v = rets [.slice a0 n0 c0] ∧ rs = [rowT 88 eSToolMove a0 n0 c0 r.1]
set_option maxRecDepth 100000 in
theorem c150 {w : World} {M : List Nat} {q0 : Sl00Src} {gb_0 : Nat} {a_0_0 : Option Addr} {n_0_0 c_0_0 : Nat} (g_0_0 : RdS M w a_0_0 (eU8.fl q0.code)) (l_0_0 : q0.code.length = n_0_0) (k_0_0 : n_0_0 ≤ c_0_0) (gs : Sep w.heap.size M w [boxO 163 gb_0 [.slice a_0_0 n_0_0 c_0_0, .int .i64 q0.at_, .int .u64 q0.seed]]) {r : List SToolMove × Int × Int} (hres : sh150 q0 = some r) : Calls Go.Proofs.Try.prog 150 [ptrAt (some ⟨gb_0, 0, none⟩) 0].toArray w (RetMs w M (T150 gb_0 a_0_0 n_0_0 c_0_0 r)) := by
  subst l_0_0
  unfold sh150 at hres
  refine calls_of (n := 54) (M := M) (es := [boxO 163 gb_0 [.slice a_0_0 q0.code.length c_0_0, .int .i64 q0.at_, .int .u64 q0.seed]]) Go.Proofs.Try.func150 rfl rfl rfl gs ?_
  refine JX.seq ?_
  refine JX.region ?_
  refine JL.val (yl_assign rfl) rfl ?_
  refine JL.nil ?_
  refine JE.code ?_
  refine JX.seq ?_
  refine JX.region ?_
  refine JL.val (yl_move rfl) rfl ?_
  obtain ⟨x1, hx1, hres⟩ := bind_some hres
  refine JL.eff (ef_callms (caps := []) (vs := [ptrAt (some ⟨gb_0, 0, none⟩) 0]) (T := T161 gb_0 a_0_0 q0.code.length c_0_0 x1) [0] [] [boxO 163 gb_0 [.slice a_0_0 q0.code.length c_0_0, .int .i64 q0.at_, .int .u64 q0.seed]] [] rfl Go.Proofs.Try.func161 rfl (by kernel_rfl) rfl (by decide) rfl rfl (fun w N hF hS => c161 (q0 := q0) (RdS.pass hF g_0_0) rfl k_0_0 hS hx1)) rfl ?_
  rintro _ _ ⟨_, _, ⟨rfl, a2, _, cp3, rfl, rfl, rfl⟩, rfl⟩
  refine JL.val (yl_assign rfl) rfl ?_
  refine JL.nil ?_
  refine JE.code ?_
  refine JX.seq ?_
  refine JX.seq ?_
  refine JX.region ?_
  refine JL.val (yl_move rfl) rfl ?_
  refine JL.val (yl_len_slice Go.Proofs.Try.underlying65 rfl) rfl ?_
  refine JL.val (yl_eql rfl rfl) rfl ?_
  refine JL.nil ?_
  refine JE.code ?_
  rcases cond_some hres with ⟨hb, hres⟩ | ⟨hb, hres⟩
  · refine JX.condT rfl hb ?_
    refine JX.seq ?_
    refine JX.region ?_
    refine JL.val (yl_move rfl) rfl ?_
    refine JL.val (yl_assign rfl) rfl ?_
    refine JL.nil ?_
    refine JE.code ?_
    refine JX.ret ?_
    obtain rfl := Option.some.inj hres
    refine JE.ret (rs := [.tmp 2]) (vs := [.slice a2 x1.1.length cp3]) rfl ⟨rfl, trivial⟩ ?_
    exact fun w' hb hs => ⟨_, _, _, ⟨rfl, a2, x1.1.length, cp3, rfl, rfl, rfl⟩, rfl, hb, hs.sel [0, 1] _ (by decide) rfl⟩
  · refine JX.condF rfl hb ?_
    refine JX.skip ?_
    refine JE.code ?_
    refine JX.seq ?_
    refine JX.region ?_
    refine JL.val (yl_move rfl) rfl ?_
    refine JL.val (yl_move rfl) rfl ?_
    refine JL.val (yl_len_slice Go.Proofs.Try.underlying65 rfl) rfl ?_
    obtain ⟨x5, hx5, hres⟩ := bind_some hres
    refine JL.eff (ef_callms (caps := []) (vs := [ptrAt (some ⟨gb_0, 0, none⟩) 0, .int .i64 (x1.1.length : Int)]) (T := T92 gb_0 a_0_0 q0.code.length c_0_0 x5) [0] [1] [boxO 163 gb_0 [.slice a_0_0 q0.code.length c_0_0, .int .i64 x1.2.1, .int .u64 x1.2.2]] [rowT 88 eSToolMove a2 x1.1.length cp3 x1.1] rfl Go.Proofs.Try.func92 rfl (by kernel_rfl) rfl (by decide) rfl rfl (fun w N hF hS => c92 (q0 := Sl00Src.mk q0.code x1.2.1 x1.2.2) (RdS.pass hF g_0_0) rfl k_0_0 hS hx5)) rfl ?_
    rintro _ _ ⟨_, _, ⟨rfl, rfl, rfl⟩, rfl⟩
    refine JL.val (yl_assign rfl) rfl ?_
    refine JL.nil ?_
    refine JE.weak (env' := [(0, ptrAt (some ⟨gb_0, 0, none⟩) 0), (3, .slice a2 x1.1.length cp3), (4, .int .i64 x5.1)]) (es' := [boxO 163 gb_0 [.slice a_0_0 q0.code.length c_0_0, .int .i64 x5.2.1, .int .u64 x5.2.2], rowT 88 eSToolMove a2 x1.1.length cp3 x1.1]) [1, 0] ?_ ⟨rfl, rfl, rfl, trivial⟩ (by decide) rfl
    refine JE.code ?_
    refine JX.seq ?_
    refine JX.seq ?_
    refine JX.region ?_
    refine JL.val (yl_move rfl) rfl ?_
    obtain ⟨x6, hx6, hres⟩ := bind_some hres
    refine JL.eff (ef_callms (caps := []) (vs := [ptrAt (some ⟨gb_0, 0, none⟩) 0, .int .i64 16]) (T := T92 gb_0 a_0_0 q0.code.length c_0_0 x6) [0] [1] [boxO 163 gb_0 [.slice a_0_0 q0.code.length c_0_0, .int .i64 x5.2.1, .int .u64 x5.2.2]] [rowT 88 eSToolMove a2 x1.1.length cp3 x1.1] rfl Go.Proofs.Try.func92 rfl (by kernel_rfl) rfl (by decide) rfl rfl (fun w N hF hS => c92 (q0 := Sl00Src.mk q0.code x5.2.1 x5.2.2) (RdS.pass hF g_0_0) rfl k_0_0 hS hx6)) rfl ?_
    rintro _ _ ⟨_, _, ⟨rfl, rfl, rfl⟩, rfl⟩
    refine JL.nil ?_
    refine JE.code ?_
    refine JX.block ?_
    refine JX.seq ?_
    refine JX.region ?_
    refine JL.val (yl_eql rfl rfl) rfl ?_
    refine JL.val (yl_assign rfl) rfl ?_
    refine JL.nil ?_
    refine JE.code ?_
    rcases cond_some hres with ⟨hb, hres⟩ | ⟨hb, hres⟩
    · refine JX.condT rfl hb ?_
      refine JX.region ?_
      refine JL.val (yl_move rfl) rfl ?_
      refine JL.val (yl_move rfl) rfl ?_
      refine JL.val (yl_move rfl) rfl ?_
      refine JL.eff (ef_buildSlice (E := 2) (k := eI64.k) (us := eI64.fl [(-100001), (-100000), 100000, 100001]) rfl (fun w => bsl24_4 (-100001) (-100000) 100000 100001 w) rfl (by decide)) rfl ?_
      rintro _ _ ⟨a7, rfl, rfl⟩
      obtain ⟨x9, hx9, hres⟩ := bind_some hres
      refine JL.eff (ef_callms (caps := []) (vs := [ptrAt (some ⟨gb_0, 0, none⟩) 0, .slice a7 4 4]) (T := T94 gb_0 a_0_0 q0.code.length c_0_0 x9) [1] [0, 2] [boxO 163 gb_0 [.slice a_0_0 q0.code.length c_0_0, .int .i64 x6.2.1, .int .u64 x6.2.2]] [rowT 88 eSToolMove a2 x1.1.length cp3 x1.1, rowT 2 eI64 a7 4 4 [(-100001), (-100000), 100000, 100001]] rfl Go.Proofs.Try.func94 rfl (by kernel_rfl) rfl (by decide) rfl rfl (fun w N hF hS => c94 (q0 := Sl00Src.mk q0.code x6.2.1 x6.2.2) (RdS.pass hF g_0_0) rfl k_0_0 (RdS.row hF 2 rfl rfl) rfl (ln_row hF.cl 2 rfl) hS hx9)) rfl ?_
      rintro _ _ ⟨_, _, ⟨rfl, rfl, rfl⟩, rfl⟩
      obtain ⟨x10, hx10, hres⟩ := bind_some hres
      refine JL.val (yl_idxT Go.Proofs.Try.underlying65 i88 i88s rfl rfl hx10 rfl (fun w hC => rd_row hC 0 rfl)) rfl ?_
      refine JL.val (yl_fieldAtT Go.Proofs.Try.underlying88 rfl i2 i2n rfl hx10 (fun w hC => rd_row hC 0 rfl)) rfl ?_
      refine JL.eff (ef_storeF (ix := 0) (u := SToolMove.mk x9.1 x10.Y x10.Z) i2 i2s rfl rfl rfl hx10 (by decide) rfl rfl rfl) rfl ?_
      rintro _ _ rfl
      refine JL.nil ?_
      refine JE.weak (env' := [(3, .slice a2 x1.1.length cp3)]) (es' := [boxO 163 gb_0 [.slice a_0_0 q0.code.length c_0_0, .int .i64 x9.2.1, .int .u64 x9.2.2], rowT 88 eSToolMove a2 x1.1.length cp3 (x1.1.set (x5.1).toNat (SToolMove.mk x9.1 x10.Y x10.Z))]) [2, 0] ?_ ⟨rfl, trivial⟩ (by decide) rfl
      refine JE.code ?_
      refine JX.seq ?_
      refine JX.region ?_
      refine JL.val (yl_move rfl) rfl ?_
      refine JL.val (yl_assign rfl) rfl ?_
      refine JL.nil ?_
      refine JE.code ?_
      refine JX.ret ?_
      obtain rfl := Option.some.inj hres
      refine JE.ret (rs := [.tmp 2]) (vs := [.slice a2 x1.1.length cp3]) rfl ⟨rfl, trivial⟩ ?_
      exact fun w' hb hs => ⟨_, _, _, ⟨rfl, a2, x1.1.length, cp3, List.length_set, rfl, rfl⟩, rfl, hb, hs.sel [0, 1] _ (by decide) rfl⟩
    · refine JX.condF rfl hb ?_
      refine JX.seq ?_
      refine JX.region ?_
      refine JL.val (yl_eql rfl rfl) rfl ?_
      refine JL.val (yl_assign rfl) rfl ?_
      refine JL.nil ?_
      refine JE.code ?_
      rcases cond_some hres with ⟨hb, hres⟩ | ⟨hb, hres⟩
      · refine JX.condT rfl hb ?_
        refine JX.region ?_
        refine JL.val (yl_move rfl) rfl ?_
        refine JL.val (yl_move rfl) rfl ?_
        refine JL.val (yl_move rfl) rfl ?_
        refine JL.eff (ef_buildSlice (E := 2) (k := eI64.k) (us := eI64.fl [(-501), (-500), 500, 501]) rfl (fun w => bsl24_4 (-501) (-500) 500 501 w) rfl (by decide)) rfl ?_
        rintro _ _ ⟨a11, rfl, rfl⟩
        obtain ⟨x13, hx13, hres⟩ := bind_some hres
        refine JL.eff (ef_callms (caps := []) (vs := [ptrAt (some ⟨gb_0, 0, none⟩) 0, .slice a11 4 4]) (T := T94 gb_0 a_0_0 q0.code.length c_0_0 x13) [1] [0, 2] [boxO 163 gb_0 [.slice a_0_0 q0.code.length c_0_0, .int .i64 x6.2.1, .int .u64 x6.2.2]] [rowT 88 eSToolMove a2 x1.1.length cp3 x1.1, rowT 2 eI64 a11 4 4 [(-501), (-500), 500, 501]] rfl Go.Proofs.Try.func94 rfl (by kernel_rfl) rfl (by decide) rfl rfl (fun w N hF hS => c94 (q0 := Sl00Src.mk q0.code x6.2.1 x6.2.2) (RdS.pass hF g_0_0) rfl k_0_0 (RdS.row hF 2 rfl rfl) rfl (ln_row hF.cl 2 rfl) hS hx13)) rfl ?_
        rintro _ _ ⟨_, _, ⟨rfl, rfl, rfl⟩, rfl⟩
        obtain ⟨x14, hx14, hres⟩ := bind_some hres
        refine JL.val (yl_idxT Go.Proofs.Try.underlying65 i88 i88s rfl rfl hx14 rfl (fun w hC => rd_row hC 0 rfl)) rfl ?_
        refine JL.val (yl_fieldAtT Go.Proofs.Try.underlying88 rfl i2 i2n rfl hx14 (fun w hC => rd_row hC 0 rfl)) rfl ?_
        refine JL.eff (ef_storeF (ix := 0) (u := SToolMove.mk x14.X x14.Y x13.1) i2 i2s rfl rfl rfl hx14 (by decide) rfl rfl rfl) rfl ?_
        rintro _ _ rfl
        refine JL.nil ?_
        refine JE.weak (env' := [(3, .slice a2 x1.1.length cp3)]) (es' := [boxO 163 gb_0 [.slice a_0_0 q0.code.length c_0_0, .int .i64 x13.2.1, .int .u64 x13.2.2], rowT 88 eSToolMove a2 x1.1.length cp3 (x1.1.set (x5.1).toNat (SToolMove.mk x14.X x14.Y x13.1))]) [2, 0] ?_ ⟨rfl, trivial⟩ (by decide) rfl
        refine JE.code ?_
        refine JX.seq ?_
        refine JX.region ?_
        refine JL.val (yl_move rfl) rfl ?_
        refine JL.val (yl_assign rfl) rfl ?_
        refine JL.nil ?_
        refine JE.code ?_
        refine JX.ret ?_
        obtain rfl := Option.some.inj hres
        refine JE.ret (rs := [.tmp 2]) (vs := [.slice a2 x1.1.length cp3]) rfl ⟨rfl, trivial⟩ ?_
        exact fun w' hb hs => ⟨_, _, _, ⟨rfl, a2, x1.1.length, cp3, List.length_set, rfl, rfl⟩, rfl, hb, hs.sel [0, 1] _ (by decide) rfl⟩
      · refine JX.condF rfl hb ?_
        refine JX.seq ?_
        refine JX.region ?_
        refine JL.val (yl_eql rfl rfl) rfl ?_
        refine JL.val (yl_assign rfl) rfl ?_
        refine JL.nil ?_
        refine JE.code ?_
        rcases cond_some hres with ⟨hb, hres⟩ | ⟨hb, hres⟩
        · refine JX.condT rfl hb ?_
          refine JX.seq ?_
          refine JX.region ?_
          refine JL.val (yl_move rfl) rfl ?_
          obtain ⟨x15, hx15, hres⟩ := bind_some hres
          refine JL.eff (ef_callms (caps := []) (vs := [ptrAt (some ⟨gb_0, 0, none⟩) 0, .int .i64 2]) (T := T92 gb_0 a_0_0 q0.code.length c_0_0 x15) [1] [0] [boxO 163 gb_0 [.slice a_0_0 q0.code.length c_0_0, .int .i64 x6.2.1, .int .u64 x6.2.2]] [rowT 88 eSToolMove a2 x1.1.length cp3 x1.1] rfl Go.Proofs.Try.func92 rfl (by kernel_rfl) rfl (by decide) rfl rfl (fun w N hF hS => c92 (q0 := Sl00Src.mk q0.code x6.2.1 x6.2.2) (RdS.pass hF g_0_0) rfl k_0_0 hS hx15)) rfl ?_
          rintro _ _ ⟨_, _, ⟨rfl, rfl, rfl⟩, rfl⟩
          refine JL.val (yl_add rfl rfl) rfl ?_
          obtain ⟨x16, hx16, hres⟩ := bind_some hres
          refine JL.eff (ef_makeS (e := eSToolMove) Go.Proofs.Try.underlying65 i88 i88s i88z rfl i88b1 rfl rfl hx16) rfl ?_
          rintro _ _ ⟨a17, rfl, rfl⟩
          refine JL.val (yl_assign rfl) rfl ?_
          refine JL.nil ?_
          refine JE.weak (env' := [(2, .slice a17 x16.length x16.length)]) (es' := [boxO 163 gb_0 [.slice a_0_0 q0.code.length c_0_0, .int .i64 x15.2.1, .int .u64 x15.2.2], rowT 88 eSToolMove a17 x16.length x16.length x16]) [1, 2] ?_ ⟨rfl, trivial⟩ (by decide) rfl
          refine JE.code ?_
          refine JX.ret ?_
          refine JE.qbr ?_
          obtain rfl := Option.some.inj hres
          refine JE.ret (rs := [.tmp 2]) (vs := [.slice a17 x16.length x16.length]) rfl ⟨rfl, trivial⟩ ?_
          exact fun w' hb hs => ⟨_, _, _, ⟨rfl, a17, x16.length, x16.length, rfl, rfl, rfl⟩, rfl, hb, hs.sel [0, 1] _ (by decide) rfl⟩
        · refine JX.condF rfl hb ?_
          refine JX.seq ?_
          refine JX.region ?_
          refine JL.val (yl_eql rfl rfl) rfl ?_
          refine JL.val (yl_assign rfl) rfl ?_
          refine JL.nil ?_
          refine JE.code ?_
          obtain ⟨j19, hj19, hresj19⟩ := bind_some hres
          refine JX.cut (K := fun J => ∀ (l20 : j19.length = x1.1.length), J [(3, .slice a2 x1.1.length cp3)] [boxO 163 gb_0 [.slice a_0_0 q0.code.length c_0_0, .int .i64 x6.2.1, .int .u64 x6.2.2], rowT 88 eSToolMove a2 x1.1.length cp3 j19]) ?_ ?_
          · intro l20
            have hres := hresj19
            refine JE.code ?_
            refine JX.seq ?_
            refine JX.region ?_
            refine JL.val (yl_move rfl) rfl ?_
            refine JL.val (yl_assign rfl) rfl ?_
            refine JL.nil ?_
            refine JE.code ?_
            refine JX.ret ?_
            obtain rfl := Option.some.inj hres
            refine JE.ret (rs := [.tmp 2]) (vs := [.slice a2 x1.1.length cp3]) rfl ⟨rfl, trivial⟩ ?_
            exact fun w' hb hs => ⟨_, _, _, ⟨rfl, a2, x1.1.length, cp3, l20, rfl, rfl⟩, rfl, hb, hs.sel [0, 1] _ (by decide) rfl⟩
          · intro K
            rcases cond_some hj19 with ⟨hb, hres⟩ | ⟨hb, hres⟩
            · refine JX.condT rfl hb ?_
              refine JX.region ?_
              refine JL.val (yl_move rfl) rfl ?_
              refine JL.val (yl_move rfl) rfl ?_
              refine JL.val (yl_move rfl) rfl ?_
              refine JL.val (yl_move rfl) rfl ?_
              obtain ⟨x21, hx21, hres⟩ := bind_some hres
              refine JL.val (yl_idxT Go.Proofs.Try.underlying65 i88 i88s rfl rfl hx21 rfl (fun w hC => rd_row hC 0 rfl)) rfl ?_
              refine JL.val (yl_fieldAtT Go.Proofs.Try.underlying88 rfl i2 i2n rfl hx21 (fun w hC => rd_row hC 0 rfl)) rfl ?_
              refine JL.val (yl_loadT1 Go.Proofs.Try.underlying2 rfl rfl hx21 (fun w hC => rd_row hC 0 rfl) rfl) rfl ?_
              refine JL.val (yl_neg rfl) rfl ?_
              obtain ⟨x22, hx22, hres⟩ := bind_some hres
              refine JL.val (yl_idxT Go.Proofs.Try.underlying65 i88 i88s rfl rfl hx22 rfl (fun w hC => rd_row hC 0 rfl)) rfl ?_
              refine JL.val (yl_fieldAtT Go.Proofs.Try.underlying88 rfl i2 i2n rfl hx22 (fun w hC => rd_row hC 0 rfl)) rfl ?_
              refine JL.eff (ef_storeF (ix := 0) (u := SToolMove.mk x22.X x22.Y (w64 (0 - x21.Z))) i2 i2s rfl rfl rfl hx22 (by decide) rfl rfl rfl) rfl ?_
              rintro _ _ rfl
              refine JL.nil ?_
              refine JE.weak (env' := [(3, .slice a2 x1.1.length cp3)]) (es' := [boxO 163 gb_0 [.slice a_0_0 q0.code.length c_0_0, .int .i64 x6.2.1, .int .u64 x6.2.2], rowT 88 eSToolMove a2 x1.1.length cp3 (x1.1.set (x5.1).toNat (SToolMove.mk x22.X x22.Y (w64 (0 - x21.Z))))]) [1, 0] ?_ ⟨rfl, trivial⟩ (by decide) rfl
              have hj := Option.some.inj hres
              exact JE.weak [0, 1] (K (by subst hj; exact List.length_set)) ⟨(by subst hj; rfl), trivial⟩ (by decide) (by subst hj; rfl)
            · refine JX.condF rfl hb ?_
              refine JX.skip ?_
              have hj := Option.some.inj hres
              exact JE.weak [1, 0] (K (by subst hj; exact rfl)) ⟨(by subst hj; rfl), trivial⟩ (by decide) (by subst hj; rfl)

/- spec.DrawCheckMoves -/
def sh58 (q0 : List Int) : Option (SPanel × List SToolMove × Int × Int × Int) := Option.bind (sh90 q0) fun x3 => Option.bind (sh118 (Sl00Src.mk q0 x3.at_ x3.seed)) fun x6 => Option.bind (sh150 (Sl00Src.mk q0 x6.2.1 x6.2.2)) fun x12 => Option.bind (sh142 (Sl00Src.mk q0 x12.2.1 x12.2.2)) fun x16 => Option.bind (sh92 (Sl00Src.mk q0 x16.2.2.2.1 x16.2.2.2.2) 9) fun x17 => Option.bind (sh93 (Sl00Src.mk q0 x17.2.1 x17.2.2) 12) fun x18 => Option.bind (bif x18.1 then (Option.bind (sh94 (Sl00Src.mk q0 x18.2.1 x18.2.2) [(-1), 0, 200, 201]) fun x40 => some (x40.1, (x40.2.1, x40.2.2))) else (some (x17.1, (x18.2.1, x18.2.2)))) fun j19 => (Option.bind (sh139 x6.1) fun x20 => Option.bind (bif x20 then (Option.bind (sh100 x16.1 1 20) fun x22 => some x22) else (some false)) fun cb21 => (Option.bind (bif cb21 then (Option.bind (sh93 (Sl00Src.mk q0 j19.2.1 j19.2.2) 2) fun x37 => some (x37.1, (x37.2.1, x37.2.2))) else (some (false, (j19.2.1, j19.2.2)))) fun j23 => (Option.bind (bif j23.1 then (Option.bind (sh92 (Sl00Src.mk q0 j23.2.1 j23.2.2) 30) fun x32 => Option.bind (sh51 x6.1 x16.1 (w64 (1 + x32.1)) 5) fun x33 => some x33.1) else (some x12.1)) fun j24 => (Option.bind (bif decide (700 < (j24.length : Int)) then (Option.bind (takeL j24 (700 : Int)) fun x30 => some x30) else (some j24)) fun j27 => (some (x6.1, j27, x16.1, j19.1, x16.2.1))))))
def T58 (r : SPanel × List SToolMove × Int × Int × Int) (v : Value) (rs : List Own) : Prop := ∃ (a0_2 : Option Addr) (n0_2 c0_2 : Nat), r.1.Breaks.length = n0_2 ∧ ∃ (a1 : Option Addr) (n1 c1 : Nat), r.2.1.length = n1 ∧ v = rets [.agg #[.int .i64 r.1.W, .int .i64 r.1.H, .slice a0_2 n0_2 c0_2], .slice a1 n1 c1, .int .i64 r.2.2.1, .int .i64 r.2.2.2.1, .int .i64 r.2.2.2.2] ∧ rs = [rowT 2 eI64 a0_2 n0_2 c0_2 r.1.Breaks, rowT 88 eSToolMove a1 n1 c1 r.2.1]
set_option maxRecDepth 100000 in
theorem c58 {w : World} {q0 : List Int} {a_0 : Option Addr} {n_0 c_0 : Nat} (g_0 : Rd w a_0 (eU8.fl q0)) (l_0 : q0.length = n_0) (k_0 : n_0 ≤ c_0) {r : SPanel × List SToolMove × Int × Int × Int} (hres : sh58 q0 = some r) : Calls Go.Proofs.Try.prog 58 [.slice a_0 n_0 c_0].toArray w (Ret w (T58 r)) := by
  subst l_0
  unfold sh58 at hres
  refine calls_of (n := 61) (M := []) (es := []) Go.Proofs.Try.func58 rfl rfl rfl (Sep.nil _ _ _) ?_
  refine JX.seq ?_
  refine JX.region ?_
  refine JL.eff (ef_alloc i26 i26z rfl) rfl ?_
  rintro _ _ ⟨g1, rfl, rfl⟩
  refine JL.val (yl_assign rfl) rfl ?_
  refine JL.val (yl_assign rfl) rfl ?_
  refine JL.val (yl_assign rfl) rfl ?_
  refine JL.val (yl_assign rfl) rfl ?_
  refine JL.nil ?_
  refine JE.weak (env' := [(0, .slice a_0 q0.length c_0), (2, ptrAt (some ⟨g1, 0, none⟩) 0)]) (es' := [boxO 26 g1 [.int .i64 0, .int .i64 0, .slice none 0 0]]) [0] ?_ ⟨rfl, rfl, trivial⟩ (by decide) rfl
  refine JE.code ?_
  refine JX.seq ?_
  refine JX.region ?_
  refine JL.val (yl_move rfl) rfl ?_
  obtain ⟨x3, hx3, hres⟩ := bind_some hres
  refine JL.eff (ef_call (T := T90 a_0 q0.length c_0 x3) Go.Proofs.Try.func90 rfl (by kernel_rfl) rfl (fun w hC => c90 (rd_arg g_0 hC) rfl k_0 hx3)) rfl ?_
  rintro _ _ ⟨_, ⟨g4, rfl, rfl⟩, rfl⟩
  refine JL.val (yl_assign rfl) rfl ?_
  refine JL.nil ?_
  refine JE.code ?_
  refine JX.seq ?_
  refine JX.region ?_
  refine JL.val (yl_move rfl) rfl ?_
  obtain ⟨x6, hx6, hres⟩ := bind_some hres
  refine JL.eff (ef_callms (caps := []) (vs := [ptrAt (some ⟨g4, 0, none⟩) 0]) (T := T118 g4 a_0 q0.length c_0 x6) [1] [0] [boxO 163 g4 [.slice a_0 q0.length c_0, .int .i64 x3.at_, .int .u64 x3.seed]] [boxO 26 g1 [.int .i64 0, .int .i64 0, .slice none 0 0]] rfl Go.Proofs.Try.func118 rfl (by kernel_rfl) rfl (by decide) rfl rfl (fun w N hF hS => c118 (q0 := Sl00Src.mk q0 x3.at_ x3.seed) (RdS.pass0 hF g_0) rfl k_0 hS hx6)) rfl ?_
  rintro _ _ ⟨_, _, ⟨rfl, a7, _, cp8, rfl, rfl, rfl⟩, rfl⟩
  refine JL.eff (ef_alloc i26 i26z rfl) rfl ?_
  rintro _ _ ⟨g10, rfl, rfl⟩
  refine JL.eff (ef_store_box (i := 3) (v := .agg #[.int .i64 x6.1.W, .int .i64 x6.1.H, .slice a7 x6.1.Breaks.length cp8]) i26 rfl rfl rfl (i26s).symm (Nat.le_of_ble_eq_true rfl) (by simp [Value.cells, Value.oneCell'])) rfl ?_
  rintro _ _ rfl
  refine JL.nil ?_
  refine JE.weak (env' := [(2, ptrAt (some ⟨g1, 0, none⟩) 0), (7, ptrAt (some ⟨g4, 0, none⟩) 0), (8, ptrAt (some ⟨g10, 0, none⟩) 0)]) (es' := [boxO 26 g1 [.int .i64 0, .int .i64 0, .slice none 0 0], boxO 163 g4 [.slice a_0 q0.length c_0, .int .i64 x6.2.1, .int .u64 x6.2.2], boxO 26 g10 [.int .i64 x6.1.W, .int .i64 x6.1.H, .slice a7 x6.1.Breaks.length cp8], rowT 2 eI64 a7 x6.1.Breaks.length cp8 x6.1.Breaks]) [0, 1, 3, 2] ?_ ⟨rfl, rfl, rfl, trivial⟩ (by decide) rfl
  refine JE.code ?_
  refine JX.seq ?_
  refine JX.region ?_
  refine JL.val (yl_move rfl) rfl ?_
  obtain ⟨x12, hx12, hres⟩ := bind_some hres
  refine JL.eff (ef_callms (caps := []) (vs := [ptrAt (some ⟨g4, 0, none⟩) 0]) (T := T150 g4 a_0 q0.length c_0 x12) [1] [0, 2, 3] [boxO 163 g4 [.slice a_0 q0.length c_0, .int .i64 x6.2.1, .int .u64 x6.2.2]] [boxO 26 g1 [.int .i64 0, .int .i64 0, .slice none 0 0], boxO 26 g10 [.int .i64 x6.1.W, .int .i64 x6.1.H, .slice a7 x6.1.Breaks.length cp8], rowT 2 eI64 a7 x6.1.Breaks.length cp8 x6.1.Breaks] rfl Go.Proofs.Try.func150 rfl (by kernel_rfl) rfl (by decide) rfl rfl (fun w N hF hS => c150 (q0 := Sl00Src.mk q0 x6.2.1 x6.2.2) (RdS.pass0 hF g_0) rfl k_0 hS hx12)) rfl ?_
  rintro _ _ ⟨_, _, ⟨rfl, a13, _, cp14, rfl, rfl, rfl⟩, rfl⟩
  refine JL.val (yl_assign rfl) rfl ?_
  refine JL.nil ?_
  refine JE.code ?_
  refine JX.seq ?_
  refine JX.region ?_
  refine JL.val (yl_move rfl) rfl ?_
  obtain ⟨x16, hx16, hres⟩ := bind_some hres
  refine JL.eff (ef_callms (caps := []) (vs := [ptrAt (some ⟨g4, 0, none⟩) 0]) (T := T142 g4 a_0 q0.length c_0 x16) [3] [0, 1, 2, 4] [boxO 163 g4 [.slice a_0 q0.length c_0, .int .i64 x12.2.1, .int .u64 x12.2.2]] [boxO 26 g1 [.int .i64 0, .int .i64 0, .slice none 0 0], boxO 26 g10 [.int .i64 x6.1.W, .int .i64 x6.1.H, .slice a7 x6.1.Breaks.length cp8], rowT 2 eI64 a7 x6.1.Breaks.length cp8 x6.1.Breaks, rowT 88 eSToolMove a13 x12.1.length cp14 x12.1] rfl Go.Proofs.Try.func142 rfl (by kernel_rfl) rfl (by decide) rfl rfl (fun w N hF hS => c142 (q0 := Sl00Src.mk q0 x12.2.1 x12.2.2) (RdS.pass0 hF g_0) rfl k_0 hS hx16)) rfl ?_
  rintro _ _ ⟨_, _, ⟨rfl, rfl, rfl⟩, rfl⟩
  refine JL.val (yl_move rfl) rfl ?_
  refine JL.val (yl_extract rfl rfl) rfl ?_
  refine JL.val (yl_extract rfl rfl) rfl ?_
  refine JL.val (yl_extract rfl rfl) rfl ?_
  refine JL.val (yl_assign rfl) rfl ?_
  refine JL.val (yl_assign rfl) rfl ?_
  refine JL.val (yl_assign rfl) rfl ?_
  refine JL.nil ?_
  refine JE.weak (env' := [(2, ptrAt (some ⟨g1, 0, none⟩) 0), (7, ptrAt (some ⟨g4, 0, none⟩) 0), (8, ptrAt (some ⟨g10, 0, none⟩) 0), (9, .slice a13 x12.1.length cp14), (10, .int .i64 x16.1), (11, .int .i64 x16.2.1)]) (es' := [boxO 26 g1 [.int .i64 0, .int .i64 0, .slice none 0 0], boxO 163 g4 [.slice a_0 q0.length c_0, .int .i64 x16.2.2.2.1, .int .u64 x16.2.2.2.2], boxO 26 g10 [.int .i64 x6.1.W, .int .i64 x6.1.H, .slice a7 x6.1.Breaks.length cp8], rowT 2 eI64 a7 x6.1.Breaks.length cp8 x6.1.Breaks, rowT 88 eSToolMove a13 x12.1.length cp14 x12.1]) [0, 4, 1, 2, 3] ?_ ⟨rfl, rfl, rfl, rfl, rfl, rfl, trivial⟩ (by decide) rfl
  refine JE.code ?_
  refine JX.seq ?_
  refine JX.region ?_
  refine JL.val (yl_move rfl) rfl ?_
  obtain ⟨x17, hx17, hres⟩ := bind_some hres
  refine JL.eff (ef_callms (caps := []) (vs := [ptrAt (some ⟨g4, 0, none⟩) 0, .int .i64 9]) (T := T92 g4 a_0 q0.length c_0 x17) [1] [0, 2, 3, 4] [boxO 163 g4 [.slice a_0 q0.length c_0, .int .i64 x16.2.2.2.1, .int .u64 x16.2.2.2.2]] [boxO 26 g1 [.int .i64 0, .int .i64 0, .slice none 0 0], boxO 26 g10 [.int .i64 x6.1.W, .int .i64 x6.1.H, .slice a7 x6.1.Breaks.length cp8], rowT 2 eI64 a7 x6.1.Breaks.length cp8 x6.1.Breaks, rowT 88 eSToolMove a13 x12.1.length cp14 x12.1] rfl Go.Proofs.Try.func92 rfl (by kernel_rfl) rfl (by decide) rfl rfl (fun w N hF hS => c92 (q0 := Sl00Src.mk q0 x16.2.2.2.1 x16.2.2.2.2) (RdS.pass0 hF g_0) rfl k_0 hS hx17)) rfl ?_
  rintro _ _ ⟨_, _, ⟨rfl, rfl, rfl⟩, rfl⟩
  refine JL.val (yl_assign rfl) rfl ?_
  refine JL.nil ?_
  refine JE.code ?_
  refine JX.seq ?_
  refine JX.seq ?_
  refine JX.region ?_
  refine JL.val (yl_move rfl) rfl ?_
  obtain ⟨x18, hx18, hres⟩ := bind_some hres
  refine JL.eff (ef_callms (caps := []) (vs := [ptrAt (some ⟨g4, 0, none⟩) 0, .int .i64 12]) (T := T93 g4 a_0 q0.length c_0 x18) [4] [0, 1, 2, 3] [boxO 163 g4 [.slice a_0 q0.length c_0, .int .i64 x17.2.1, .int .u64 x17.2.2]] [boxO 26 g1 [.int .i64 0, .int .i64 0, .slice none 0 0], boxO 26 g10 [.int .i64 x6.1.W, .int .i64 x6.1.H, .slice a7 x6.1.Breaks.length cp8], rowT 2 eI64 a7 x6.1.Breaks.length cp8 x6.1.Breaks, rowT 88 eSToolMove a13 x12.1.length cp14 x12.1] rfl Go.Proofs.Try.func93 rfl (by kernel_rfl) rfl (by decide) rfl rfl (fun w N hF hS => c93 (q0 := Sl00Src.mk q0 x17.2.1 x17.2.2) (RdS.pass0 hF g_0) rfl k_0 hS hx18)) rfl ?_
  rintro _ _ ⟨_, _, ⟨rfl, rfl, rfl⟩, rfl⟩
  refine JL.nil ?_
  refine JE.code ?_
  obtain ⟨j19, hj19, hresj19⟩ := bind_some hres
  refine JX.cut (K := fun J => J [(2, ptrAt (some ⟨g1, 0, none⟩) 0), (7, ptrAt (some ⟨g4, 0, none⟩) 0), (8, ptrAt (some ⟨g10, 0, none⟩) 0), (9, .slice a13 x12.1.length cp14), (10, .int .i64 x16.1), (11, .int .i64 x16.2.1), (13, .int .i64 j19.1)] [boxO 26 g1 [.int .i64 0, .int .i64 0, .slice none 0 0], boxO 163 g4 [.slice a_0 q0.length c_0, .int .i64 j19.2.1, .int .u64 j19.2.2], boxO 26 g10 [.int .i64 x6.1.W, .int .i64 x6.1.H, .slice a7 x6.1.Breaks.length cp8], rowT 2 eI64 a7 x6.1.Breaks.length cp8 x6.1.Breaks, rowT 88 eSToolMove a13 x12.1.length cp14 x12.1]) ?_ ?_
  · have hres := hresj19
    refine JE.code ?_
    refine JX.seq ?_
    refine JX.seq ?_
    refine JX.region ?_
    obtain ⟨x20, hx20, hres⟩ := bind_some hres
    refine JL.eff (ef_call (T := T139 x20) Go.Proofs.Try.func139 rfl (by kernel_rfl) rfl (fun w hC => c139 (RdAt.of0 (rd_box hC 2 rfl)) (rd_row hC 3 rfl) rfl (ln_row hC 3 rfl) hx20)) rfl ?_
    rintro _ _ ⟨_, ⟨rfl, rfl⟩, rfl⟩
    refine JL.val (yl_move rfl) rfl ?_
    obtain ⟨cb21, hcb21, hres⟩ := bind_some hres
    refine JL.cut (K := fun J => J [(2, ptrAt (some ⟨g1, 0, none⟩) 0), (7, ptrAt (some ⟨g4, 0, none⟩) 0), (8, ptrAt (some ⟨g10, 0, none⟩) 0), (9, .slice a13 x12.1.length cp14), (10, .int .i64 x16.1), (11, .int .i64 x16.2.1), (13, .int .i64 j19.1), (37, .bool cb21)] [boxO 26 g1 [.int .i64 0, .int .i64 0, .slice none 0 0], boxO 163 g4 [.slice a_0 q0.length c_0, .int .i64 j19.2.1, .int .u64 j19.2.2], boxO 26 g10 [.int .i64 x6.1.W, .int .i64 x6.1.H, .slice a7 x6.1.Breaks.length cp8], rowT 2 eI64 a7 x6.1.Breaks.length cp8 x6.1.Breaks, rowT 88 eSToolMove a13 x12.1.length cp14 x12.1]) 3 ?_ ?_
    · refine JL.val (yl_move rfl) rfl ?_
      obtain ⟨j23, hj23, hresj23⟩ := bind_some hres
      refine JL.cut (K := fun J => J [(2, ptrAt (some ⟨g1, 0, none⟩) 0), (7, ptrAt (some ⟨g4, 0, none⟩) 0), (8, ptrAt (some ⟨g10, 0, none⟩) 0), (9, .slice a13 x12.1.length cp14), (10, .int .i64 x16.1), (11, .int .i64 x16.2.1), (13, .int .i64 j19.1), (41, .bool j23.1)] [boxO 26 g1 [.int .i64 0, .int .i64 0, .slice none 0 0], boxO 163 g4 [.slice a_0 q0.length c_0, .int .i64 j23.2.1, .int .u64 j23.2.2], boxO 26 g10 [.int .i64 x6.1.W, .int .i64 x6.1.H, .slice a7 x6.1.Breaks.length cp8], rowT 2 eI64 a7 x6.1.Breaks.length cp8 x6.1.Breaks, rowT 88 eSToolMove a13 x12.1.length cp14 x12.1]) 3 ?_ ?_
      · have hres := hresj23
        refine JL.nil ?_
        refine JE.weak (env' := [(2, ptrAt (some ⟨g1, 0, none⟩) 0), (7, ptrAt (some ⟨g4, 0, none⟩) 0), (8, ptrAt (some ⟨g10, 0, none⟩) 0), (9, .slice a13 x12.1.length cp14), (10, .int .i64 x16.1), (11, .int .i64 x16.2.1), (13, .int .i64 j19.1), (41, .bool j23.1)]) (es' := [boxO 26 g1 [.int .i64 0, .int .i64 0, .slice none 0 0], boxO 163 g4 [.slice a_0 q0.length c_0, .int .i64 j23.2.1, .int .u64 j23.2.2], boxO 26 g10 [.int .i64 x6.1.W, .int .i64 x6.1.H, .slice a7 x6.1.Breaks.length cp8], rowT 2 eI64 a7 x6.1.Breaks.length cp8 x6.1.Breaks, rowT 88 eSToolMove a13 x12.1.length cp14 x12.1]) [0, 1, 2, 3, 4] ?_ ⟨rfl, rfl, rfl, rfl, rfl, rfl, rfl, rfl, trivial⟩ (by decide) rfl
        refine JE.code ?_
        obtain ⟨j24, hj24, hresj24⟩ := bind_some hres
        refine JX.cut (K := fun J => ∀ (a25 : Option Addr) (cp26 : Nat), J [(2, ptrAt (some ⟨g1, 0, none⟩) 0), (8, ptrAt (some ⟨g10, 0, none⟩) 0), (9, .slice a25 j24.length cp26), (10, .int .i64 x16.1), (11, .int .i64 x16.2.1), (13, .int .i64 j19.1)] [boxO 26 g1 [.int .i64 0, .int .i64 0, .slice none 0 0], boxO 26 g10 [.int .i64 x6.1.W, .int .i64 x6.1.H, .slice a7 x6.1.Breaks.length cp8], rowT 2 eI64 a7 x6.1.Breaks.length cp8 x6.1.Breaks, rowT 88 eSToolMove a25 j24.length cp26 j24]) ?_ ?_
        · intro a25 cp26
          have hres := hresj24
          refine JE.code ?_
          refine JX.seq ?_
          refine JX.seq ?_
          refine JX.region ?_
          refine JL.val (yl_move rfl) rfl ?_
          refine JL.val (yl_len_slice Go.Proofs.Try.underlying65 rfl) rfl ?_
          refine JL.val (yl_gtr rfl rfl) rfl ?_
          refine JL.nil ?_
          refine JE.code ?_
          obtain ⟨j27, hj27, hresj27⟩ := bind_some hres
          refine JX.cut (K := fun J => ∀ (a28 : Option Addr) (cp29 : Nat), J [(2, ptrAt (some ⟨g1, 0, none⟩) 0), (8, ptrAt (some ⟨g10, 0, none⟩) 0), (9, .slice a28 j27.length cp29), (10, .int .i64 x16.1), (11, .int .i64 x16.2.1), (13, .int .i64 j19.1)] [boxO 26 g1 [.int .i64 0, .int .i64 0, .slice none 0 0], boxO 26 g10 [.int .i64 x6.1.W, .int .i64 x6.1.H, .slice a7 x6.1.Breaks.length cp8], rowT 2 eI64 a7 x6.1.Breaks.length cp8 x6.1.Breaks, rowT 88 eSToolMove a28 j27.length cp29 j27]) ?_ ?_
          · intro a28 cp29
            have hres := hresj27
            refine JE.code ?_
            refine JX.seq ?_
            refine JX.region ?_
            refine JL.val (yl_loadn Go.Proofs.Try.underlying26 rfl i26 rfl (fun w hC => rd_box hC 1 rfl) rfl (i26s).symm i26p) rfl ?_
            refine JL.val (yl_move rfl) rfl ?_
            refine JL.val (yl_move rfl) rfl ?_
            refine JL.val (yl_move rfl) rfl ?_
            refine JL.val (yl_move rfl) rfl ?_
            refine JL.eff (ef_store_box (i := 0) (v := .agg #[.int .i64 x6.1.W, .int .i64 x6.1.H, .slice a7 x6.1.Breaks.length cp8]) i26 rfl rfl rfl (i26s).symm (Nat.le_of_ble_eq_true rfl) (by simp [Value.cells, Value.oneCell'])) rfl ?_
            rintro _ _ rfl
            refine JL.val (yl_assign rfl) rfl ?_
            refine JL.val (yl_assign rfl) rfl ?_
            refine JL.val (yl_assign rfl) rfl ?_
            refine JL.val (yl_assign rfl) rfl ?_
            refine JL.nil ?_
            refine JE.weak (env' := [(2, ptrAt (some ⟨g1, 0, none⟩) 0), (3, .slice a28 j27.length cp29), (4, .int .i64 x16.1), (5, .int .i64 j19.1), (6, .int .i64 x16.2.1)]) (es' := [boxO 26 g1 [.int .i64 x6.1.W, .int .i64 x6.1.H, .slice a7 x6.1.Breaks.length cp8], rowT 2 eI64 a7 x6.1.Breaks.length cp8 x6.1.Breaks, rowT 88 eSToolMove a28 j27.length cp29 j27]) [0, 2, 3] ?_ ⟨rfl, rfl, rfl, rfl, rfl, trivial⟩ (by decide) rfl
            refine JE.code ?_
            refine JX.ret ?_
            obtain rfl := Option.some.inj hres
            refine JE.ret (rs := [.cell 2 26, .tmp 3, .tmp 4, .tmp 5, .tmp 6]) (vs := [.agg #[.int .i64 x6.1.W, .int .i64 x6.1.H, .slice a7 x6.1.Breaks.length cp8], .slice a28 j27.length cp29, .int .i64 x16.1, .int .i64 j19.1, .int .i64 x16.2.1]) rfl ⟨rv_box 0 rfl rfl Go.Proofs.Try.underlying26 rfl i26 (i26s).symm, rfl, rfl, rfl, rfl, trivial⟩ ?_
            exact fun w' hb hs => ⟨_, _, ⟨a7, x6.1.Breaks.length, cp8, rfl, a28, j27.length, cp29, rfl, rfl, rfl⟩, rfl, hb, hs.sel [1, 2] _ (by decide) rfl⟩
          · intro K
            rcases cond_some hj27 with ⟨hb, hres⟩ | ⟨hb, hres⟩
            · refine JX.condT rfl hb ?_
              refine JX.region ?_
              refine JL.val (yl_move rfl) rfl ?_
              obtain ⟨x30, hx30, hres⟩ := bind_some hres
              refine JL.val (yl_takeT Go.Proofs.Try.underlying65 i88 rfl rfl hx30 rfl (fun w hC => ln_row hC 3 rfl)) rfl ?_
              refine JL.takeT 3 hx30 rfl ?_
              refine JL.val (yl_assign rfl) rfl ?_
              refine JL.nil ?_
              have hj := Option.some.inj hres
              exact JE.weak [0, 1, 2, 3] (K a25 cp26) ⟨(by subst hj; rfl), (by subst hj; rfl), (by subst hj; rfl), (by subst hj; rfl), (by subst hj; rfl), (by subst hj; rfl), trivial⟩ (by decide) (by subst hj; rfl)
            · refine JX.condF rfl hb ?_
              refine JX.skip ?_
              have hj := Option.some.inj hres
              exact JE.weak [0, 1, 2, 3] (K a25 cp26) ⟨(by subst hj; rfl), (by subst hj; rfl), (by subst hj; rfl), (by subst hj; rfl), (by subst hj; rfl), (by subst hj; rfl), trivial⟩ (by decide) (by subst hj; rfl)
        · intro K
          rcases cond_some hj24 with ⟨hb, hres⟩ | ⟨hb, hres⟩
          · refine JX.condT rfl hb ?_
            refine JX.drawH [(0, .read), (1, .pure), (2, .pure), (3, .must), (4, .pure), (5, .must), (6, .pure), (7, .pure), (8, .pure), (9, .pure)] [3] [1] [0, 2, 3, 4] [boxO 163 g4 [.slice a_0 q0.length c_0, .int .i64 j23.2.1, .int .u64 j23.2.2]] [boxO 26 g1 [.int .i64 0, .int .i64 0, .slice none 0 0], boxO 26 g10 [.int .i64 x6.1.W, .int .i64 x6.1.H, .slice a7 x6.1.Breaks.length cp8], rowT 2 eI64 a7 x6.1.Breaks.length cp8 x6.1.Breaks, rowT 88 eSToolMove a13 x12.1.length cp14 x12.1] mixedP (by kernel_rfl) (by kernel_rfl) (by decide) rfl rfl ?_
            intro wrr31 Nr31 hFr31
            refine JH.read rfl (yl_loadn Go.Proofs.Try.underlying26 rfl i26 rfl (fun w hw => hFr31.box 2 rfl rfl hw) rfl (i26s).symm i26p) rfl ?_
            refine JH.pure rfl (yl_move rfl) rfl ?_
            refine JH.pure rfl (yl_move rfl) rfl ?_
            obtain ⟨x32, hx32, hres⟩ := bind_some hres
            refine JH.must rfl (ef_callms (caps := []) (vs := [ptrAt (some ⟨g4, 0, none⟩) 0, .int .i64 30]) (T := T92 g4 a_0 q0.length c_0 x32) [0] [] [boxO 163 g4 [.slice a_0 q0.length c_0, .int .i64 j23.2.1, .int .u64 j23.2.2]] [] rfl Go.Proofs.Try.func92 rfl (by kernel_rfl) rfl (by decide) rfl rfl (fun w N hF hS => c92 (q0 := Sl00Src.mk q0 j23.2.1 j23.2.2) (RdS.pass hF (RdS.pass0 hFr31 g_0)) rfl k_0 hS hx32)) rfl rfl ?_
            rintro _ _ ⟨_, _, ⟨rfl, rfl, rfl⟩, rfl⟩
            refine JH.pure rfl (yl_add rfl rfl) rfl ?_
            obtain ⟨x33, hx33, hres⟩ := bind_some hres
            refine JH.must rfl (ef_call (vs := [.agg #[.int .i64 x6.1.W, .int .i64 x6.1.H, .slice a7 x6.1.Breaks.length cp8], .int .i64 x16.1, .int .i64 (w64 (1 + x32.1)), .int .i64 5]) (T := T51 x33) Go.Proofs.Try.func51 rfl (by kernel_rfl) rfl (fun w hC => c51 (q0 := x6.1) (hFr31.row 3 rfl rfl hC.1) rfl (ln_row hFr31.cl 3 rfl) hx33)) rfl rfl ?_
            rintro _ _ ⟨_, ⟨a34, _, cp35, rfl, rfl, rfl⟩, rfl⟩
            refine JH.pure rfl (yl_move rfl) rfl ?_
            refine JH.pure rfl (yl_extract rfl rfl) rfl ?_
            refine JH.pure rfl (yl_extract rfl rfl) rfl ?_
            refine JH.pure rfl (yl_assign rfl) rfl ?_
            refine JH.nil ?_
            refine JE.weak (env' := [(2, ptrAt (some ⟨g1, 0, none⟩) 0), (8, ptrAt (some ⟨g10, 0, none⟩) 0), (9, .slice a34 x33.1.length cp35), (10, .int .i64 x16.1), (11, .int .i64 x16.2.1), (13, .int .i64 j19.1)]) (es' := [boxO 26 g1 [.int .i64 0, .int .i64 0, .slice none 0 0], boxO 26 g10 [.int .i64 x6.1.W, .int .i64 x6.1.H, .slice a7 x6.1.Breaks.length cp8], rowT 2 eI64 a7 x6.1.Breaks.length cp8 x6.1.Breaks, rowT 88 eSToolMove a34 x33.1.length cp35 x33.1]) [0, 1, 2, 5] ?_ ⟨rfl, rfl, rfl, rfl, rfl, rfl, trivial⟩ (by decide) rfl
            have hj := Option.some.inj hres
            exact JE.weak [0, 1, 2, 3] (K a34 cp35) ⟨(by subst hj; rfl), (by subst hj; rfl), (by subst hj; rfl), (by subst hj; rfl), (by subst hj; rfl), (by subst hj; rfl), trivial⟩ (by decide) (by subst hj; rfl)
          · refine JX.condF rfl hb ?_
            refine JX.skip ?_
            have hj := Option.some.inj hres
            exact JE.weak [0, 2, 3, 4] (K a13 cp14) ⟨(by subst hj; rfl), (by subst hj; rfl), (by subst hj; rfl), (by subst hj; rfl), (by subst hj; rfl), (by subst hj; rfl), trivial⟩ (by decide) (by subst hj; rfl)
      · intro K
        rcases cond_some hj23 with ⟨hb, hres⟩ | ⟨hb, hres⟩
        · refine JL.set (d := 38) (v := .bool true) (congrArg (fun b => some (Value.bool b)) hb) ?_
          refine JL.gval rfl rfl (yl_move rfl) rfl ?_
          obtain ⟨x37, hx37, hres⟩ := bind_some hres
          refine JL.geff rfl rfl (ef_callms (caps := []) (vs := [ptrAt (some ⟨g4, 0, none⟩) 0, .int .i64 2]) (T := T93 g4 a_0 q0.length c_0 x37) [1] [0, 2, 3, 4] [boxO 163 g4 [.slice a_0 q0.length c_0, .int .i64 j19.2.1, .int .u64 j19.2.2]] [boxO 26 g1 [.int .i64 0, .int .i64 0, .slice none 0 0], boxO 26 g10 [.int .i64 x6.1.W, .int .i64 x6.1.H, .slice a7 x6.1.Breaks.length cp8], rowT 2 eI64 a7 x6.1.Breaks.length cp8 x6.1.Breaks, rowT 88 eSToolMove a13 x12.1.length cp14 x12.1] rfl Go.Proofs.Try.func93 rfl (by kernel_rfl) rfl (by decide) rfl rfl (fun w N hF hS => c93 (q0 := Sl00Src.mk q0 j19.2.1 j19.2.2) (RdS.pass0 hF g_0) rfl k_0 hS hx37)) rfl ?_
          rintro _ _ ⟨_, _, ⟨rfl, rfl, rfl⟩, rfl⟩
          refine JL.val (yl_pick_true rfl rfl) rfl ?_
          have hj := Option.some.inj hres
          exact JL.weak [0, 4, 1, 2, 3] (K) ⟨(by subst hj; rfl), (by subst hj; rfl), (by subst hj; rfl), (by subst hj; rfl), (by subst hj; rfl), (by subst hj; rfl), (by subst hj; rfl), (by subst hj; rfl), trivial⟩ (by decide) (by subst hj; rfl)
        · refine JL.set (d := 38) (v := .bool false) (congrArg (fun b => some (Value.bool b)) hb) ?_
          refine JL.gskip rfl rfl rfl rfl ?_
          refine JL.gskip rfl rfl rfl rfl ?_
          refine JL.val (yl_pick_false rfl rfl) rfl ?_
          have hj := Option.some.inj hres
          exact JL.weak [0, 1, 2, 3, 4] (K) ⟨(by subst hj; rfl), (by subst hj; rfl), (by subst hj; rfl), (by subst hj; rfl), (by subst hj; rfl), (by subst hj; rfl), (by subst hj; rfl), (by subst hj; rfl), trivial⟩ (by decide) (by subst hj; rfl)
    · intro K
      rcases cond_some hcb21 with ⟨hb, hres⟩ | ⟨hb, hres⟩
      · refine JL.set (d := 34) (v := .bool true) (congrArg (fun b => some (Value.bool b)) hb) ?_
        refine JL.gval rfl rfl (yl_move rfl) rfl ?_
        obtain ⟨x22, hx22, hres⟩ := bind_some hres
        refine JL.geff rfl rfl (ef_call (T := T100 x22) Go.Proofs.Try.func100 rfl (by kernel_rfl) rfl (fun w hC => c100  hx22)) rfl ?_
        rintro _ _ ⟨_, ⟨rfl, rfl⟩, rfl⟩
        refine JL.val (yl_pick_true rfl rfl) rfl ?_
        have he := Option.some.inj hres
        exact JL.weak [0, 1, 2, 3, 4] K ⟨rfl, rfl, rfl, rfl, rfl, rfl, rfl, (by rw [← he]; rfl), trivial⟩ (by decide) rfl
      · refine JL.set (d := 34) (v := .bool false) (congrArg (fun b => some (Value.bool b)) hb) ?_
        refine JL.gskip rfl rfl rfl rfl ?_
        refine JL.gskip rfl rfl rfl rfl ?_
        refine JL.val (yl_pick_false rfl rfl) rfl ?_
        have he := Option.some.inj hres
        exact JL.weak [0, 1, 2, 3, 4] K ⟨rfl, rfl, rfl, rfl, rfl, rfl, rfl, (by rw [← he]; rfl), trivial⟩ (by decide) rfl
  · intro K
    rcases cond_some hj19 with ⟨hb, hres⟩ | ⟨hb, hres⟩
    · refine JX.condT rfl hb ?_
      refine JX.region ?_
      refine JL.val (yl_move rfl) rfl ?_
      refine JL.eff (ef_buildSlice (E := 2) (k := eI64.k) (us := eI64.fl [(-1), 0, 200, 201]) rfl (fun w => bsl24_4 (-1) 0 200 201 w) rfl (by decide)) rfl ?_
      rintro _ _ ⟨a38, rfl, rfl⟩
      obtain ⟨x40, hx40, hres⟩ := bind_some hres
      refine JL.eff (ef_callms (caps := []) (vs := [ptrAt (some ⟨g4, 0, none⟩) 0, .slice a38 4 4]) (T := T94 g4 a_0 q0.length c_0 x40) [4] [0, 1, 2, 3, 5] [boxO 163 g4 [.slice a_0 q0.length c_0, .int .i64 x18.2.1, .int .u64 x18.2.2]] [boxO 26 g1 [.int .i64 0, .int .i64 0, .slice none 0 0], boxO 26 g10 [.int .i64 x6.1.W, .int .i64 x6.1.H, .slice a7 x6.1.Breaks.length cp8], rowT 2 eI64 a7 x6.1.Breaks.length cp8 x6.1.Breaks, rowT 88 eSToolMove a13 x12.1.length cp14 x12.1, rowT 2 eI64 a38 4 4 [(-1), 0, 200, 201]] rfl Go.Proofs.Try.func94 rfl (by kernel_rfl) rfl (by decide) rfl rfl (fun w N hF hS => c94 (q0 := Sl00Src.mk q0 x18.2.1 x18.2.2) (RdS.pass0 hF g_0) rfl k_0 (RdS.row hF 5 rfl rfl) rfl (ln_row hF.cl 5 rfl) hS hx40)) rfl ?_
      rintro _ _ ⟨_, _, ⟨rfl, rfl, rfl⟩, rfl⟩
      refine JL.val (yl_assign rfl) rfl ?_
      refine JL.nil ?_
      refine JE.weak (env' := [(2, ptrAt (some ⟨g1, 0, none⟩) 0), (7, ptrAt (some ⟨g4, 0, none⟩) 0), (8, ptrAt (some ⟨g10, 0, none⟩) 0), (9, .slice a13 x12.1.length cp14), (10, .int .i64 x16.1), (11, .int .i64 x16.2.1), (13, .int .i64 x40.1)]) (es' := [boxO 26 g1 [.int .i64 0, .int .i64 0, .slice none 0 0], boxO 163 g4 [.slice a_0 q0.length c_0, .int .i64 x40.2.1, .int .u64 x40.2.2], boxO 26 g10 [.int .i64 x6.1.W, .int .i64 x6.1.H, .slice a7 x6.1.Breaks.length cp8], rowT 2 eI64 a7 x6.1.Breaks.length cp8 x6.1.Breaks, rowT 88 eSToolMove a13 x12.1.length cp14 x12.1]) [0, 5, 1, 2, 3] ?_ ⟨rfl, rfl, rfl, rfl, rfl, rfl, rfl, trivial⟩ (by decide) rfl
      have hj := Option.some.inj hres
      exact JE.weak [0, 1, 2, 3, 4] (K) ⟨(by subst hj; rfl), (by subst hj; rfl), (by subst hj; rfl), (by subst hj; rfl), (by subst hj; rfl), (by subst hj; rfl), (by subst hj; rfl), trivial⟩ (by decide) (by subst hj; rfl)
    · refine JX.condF rfl hb ?_
      refine JX.skip ?_
      have hj := Option.some.inj hres
      exact JE.weak [0, 4, 1, 2, 3] (K) ⟨(by subst hj; rfl), (by subst hj; rfl), (by subst hj; rfl), (by subst hj; rfl), (by subst hj; rfl), (by subst hj; rfl), (by subst hj; rfl), trivial⟩ (by decide) (by subst hj; rfl)

/- impl.isCorner -/
def sh106 (q0 : SPoint) : Option (Bool) := Option.bind (sh107 q0.X (-100000) 100000) fun x3 => Option.bind (bif x3 then (Option.bind (sh107 q0.Y (-100000) 100000) fun x5 => some x5) else (some false)) fun cb4 => (some cb4)
def T106 (r : Bool) (v : Value) (rs : List Own) : Prop := v = rets [.bool r] ∧ rs = []
set_option maxRecDepth 100000 in
theorem c106 {w : World} {q0 : SPoint} {r : Bool} (hres : sh106 q0 = some r) : Calls Go.Proofs.Try.prog 106 [.agg #[.int .i64 q0.X, .int .i64 q0.Y]].toArray w (Ret w (T106 r)) := by
  unfold sh106 at hres
  refine calls_of (n := 11) (M := []) (es := []) Go.Proofs.Try.func106 rfl rfl rfl (Sep.nil _ _ _) ?_
  refine JX.seq ?_
  refine JX.region ?_
  refine JL.eff (ef_box rfl rfl) rfl ?_
  rintro _ _ ⟨g1, rfl, rfl⟩
  refine JL.val (yl_assign rfl) rfl ?_
  refine JL.nil ?_
  refine JE.code ?_
  refine JX.seq ?_
  refine JX.region ?_
  refine JL.val (yl_fieldAt (a := some _) Go.Proofs.Try.underlying42 rfl i2 i2n rfl rfl) rfl ?_
  refine JL.val (yl_load1 Go.Proofs.Try.underlying2 rfl rfl (fun w hC => rd_box hC 0 rfl) rfl) rfl ?_
  obtain ⟨x3, hx3, hres⟩ := bind_some hres
  refine JL.eff (ef_call (T := T107 x3) Go.Proofs.Try.func107 rfl (by kernel_rfl) rfl (fun w hC => c107  hx3)) rfl ?_
  rintro _ _ ⟨_, ⟨rfl, rfl⟩, rfl⟩
  refine JL.val (yl_move rfl) rfl ?_
  obtain ⟨cb4, hcb4, hres⟩ := bind_some hres
  refine JL.cut (K := fun J => J [(10, .bool cb4)] []) 4 ?_ ?_
  · refine JL.val (yl_assign rfl) rfl ?_
    refine JL.nil ?_
    refine JE.weak (env' := [(2, .bool cb4)]) (es' := []) [] ?_ ⟨rfl, trivial⟩ (by decide) rfl
    refine JE.code ?_
    refine JX.ret ?_
    obtain rfl := Option.some.inj hres
    refine JE.ret (rs := [.tmp 2]) (vs := [.bool cb4]) rfl ⟨rfl, trivial⟩ ?_
    exact fun w' hb hs => ⟨_, _, ⟨rfl, rfl⟩, rfl, hb, hs.sel [] _ (by decide) rfl⟩
  · intro K
    rcases cond_some hcb4 with ⟨hb, hres⟩ | ⟨hb, hres⟩
    · refine JL.set (d := 6) (v := .bool true) (congrArg (fun b => some (Value.bool b)) hb) ?_
      refine JL.gval rfl rfl (yl_fieldAt (a := some _) Go.Proofs.Try.underlying42 rfl i2 i2n rfl rfl) rfl ?_
      refine JL.gval rfl rfl (yl_load1 Go.Proofs.Try.underlying2 rfl rfl (fun w hC => rd_box hC 0 rfl) rfl) rfl ?_
      obtain ⟨x5, hx5, hres⟩ := bind_some hres
      refine JL.geff rfl rfl (ef_call (T := T107 x5) Go.Proofs.Try.func107 rfl (by kernel_rfl) rfl (fun w hC => c107  hx5)) rfl ?_
      rintro _ _ ⟨_, ⟨rfl, rfl⟩, rfl⟩
      refine JL.val (yl_pick_true rfl rfl) rfl ?_
      have he := Option.some.inj hres
      exact JL.weak [] K ⟨(by rw [← he]; rfl), trivial⟩ (by decide) rfl
    · refine JL.set (d := 6) (v := .bool false) (congrArg (fun b => some (Value.bool b)) hb) ?_
      refine JL.gskip rfl rfl rfl rfl ?_
      refine JL.gskip rfl rfl rfl rfl ?_
      refine JL.gskip rfl rfl rfl rfl ?_
      refine JL.val (yl_pick_false rfl rfl) rfl ?_
      have he := Option.some.inj hres
      exact JL.weak [] K ⟨(by rw [← he]; rfl), trivial⟩ (by decide) rfl

/- impl.validMoves -/
def sh151_1 (q0 : List SToolMove) : Int → Option (Int ⊕ (Unit ⊕ Bool))
  | x1 => bif decide (x1 < (q0.length : Int)) then (Option.bind (getI q0 x1) fun x2 => Option.bind (sh106 (SPoint.mk x2.X x2.Y)) fun x5 => Option.bind (bif !x5 then (some true) else (Option.bind (sh107 x2.Z (-500) 500) fun x7 => some !x7)) fun cb6 => (bif cb6 then (some (.inr (.inr false))) else (some (.inl (w64 (x1 + 1)))))) else (some (.inr (.inl ())))
def sh151 (q0 : List SToolMove) : Option (Bool) := Option.bind (iter (sh151_1 q0) 0) fun y1 => elimS y1 (fun r => some r) fun b1 => (some (decide ((q0.length : Int) ≤ 700)))
def T151 (r : Bool) (v : Value) (rs : List Own) : Prop := v = rets [.bool r] ∧ rs = []
set_option maxRecDepth 100000 in
theorem c151 {w : World} {q0 : List SToolMove} {a_0 : Option Addr} {n_0 c_0 : Nat} (g_0 : Rd w a_0 (eSToolMove.fl q0)) (l_0 : q0.length = n_0) (k_0 : n_0 ≤ c_0) {r : Bool} (hres : sh151 q0 = some r) : Calls Go.Proofs.Try.prog 151 [.slice a_0 n_0 c_0].toArray w (Ret w (T151 r)) := by
  subst l_0
  unfold sh151 at hres
  refine calls_of (n := 28) (M := []) (es := []) Go.Proofs.Try.func151 rfl rfl rfl (Sep.nil _ _ _) ?_
  refine JX.seq ?_
  refine JX.region ?_
  refine JL.val (yl_assign rfl) rfl ?_
  refine JL.nil ?_
  refine JE.code ?_
  refine JX.seq ?_
  refine JX.seq ?_
  refine JX.region ?_
  refine JL.val (yl_move rfl) rfl ?_
  refine JL.val (yl_len_slice Go.Proofs.Try.underlying65 rfl) rfl ?_
  refine JL.val (yl_move rfl) rfl ?_
  refine JL.nil ?_
  refine JE.code ?_
  refine JX.block ?_
  obtain ⟨y1, hy1, hresO1⟩ := bind_some hres
  refine JX.loop (I := fun (s1 : Int) aa ww => St w [] 28 [(0, .slice a_0 q0.length c_0), (5, .slice a_0 q0.length c_0), (6, .int .i64 (q0.length : Int)), (7, .int .i64 s1)] [] aa ww) (sh151_1 q0) hy1 (fun a w h => h.weak ⟨rfl, rfl, rfl, rfl, trivial⟩ [] (by decide) rfl) ?_
  rintro x1 o1 hres hox1 aa ww hS
  refine (?_ : JX Go.Proofs.Try.prog w [] 28 _ _ [(0, .slice a_0 q0.length c_0), (5, .slice a_0 q0.length c_0), (6, .int .i64 (q0.length : Int)), (7, .int .i64 x1)] [] _) aa ww hS
  clear hS
  unfold sh151_1 at hres
  refine JX.seq ?_
  refine JX.region ?_
  refine JL.val (yl_lss rfl rfl) rfl ?_
  refine JL.nil ?_
  refine JE.code ?_
  refine JX.seq ?_
  rcases cond_some hres with ⟨hb, hres⟩ | ⟨hb, hres⟩
  · refine JX.condT rfl hb ?_
    refine JX.skip ?_
    refine JE.code ?_
    refine JX.seq ?_
    refine JX.block ?_
    refine JX.seq ?_
    refine JX.region ?_
    obtain ⟨x2, hx2, hres⟩ := bind_some hres
    refine JL.val (yl_idxT Go.Proofs.Try.underlying65 i88 i88s rfl rfl hx2 rfl (fun w hC => rd_arg g_0 hC)) rfl ?_
    refine JL.val (yl_loadTn Go.Proofs.Try.underlying88 rfl i88 i88s rfl hx2 (fun w hC => rd_arg g_0 hC)) rfl ?_
    refine JL.eff (ef_alloc i88 i88z rfl) rfl ?_
    rintro _ _ ⟨g3, rfl, rfl⟩
    refine JL.eff (ef_store_box (i := 0) (v := .agg #[.int .i64 x2.X, .int .i64 x2.Y, .int .i64 x2.Z]) i88 rfl rfl rfl (i88s).symm (Nat.le_of_ble_eq_true rfl) (by simp [Value.cells, Value.oneCell'])) rfl ?_
    rintro _ _ rfl
    refine JL.nil ?_
    refine JE.weak (env' := [(0, .slice a_0 q0.length c_0), (4, ptrAt (some ⟨g3, 0, none⟩) 0), (5, .slice a_0 q0.length c_0), (6, .int .i64 (q0.length : Int)), (7, .int .i64 x1)]) (es' := [boxO 88 g3 [.int .i64 x2.X, .int .i64 x2.Y, .int .i64 x2.Z]]) [0] ?_ ⟨rfl, rfl, rfl, rfl, rfl, trivial⟩ (by decide) rfl
    refine JE.code ?_
    refine JX.seq ?_
    refine JX.region ?_
    refine JL.val (yl_fieldAt (a := some _) Go.Proofs.Try.underlying88 rfl i2 i2n rfl rfl) rfl ?_
    refine JL.val (yl_load1 Go.Proofs.Try.underlying2 rfl rfl (fun w hC => rd_box hC 0 rfl) rfl) rfl ?_
    refine JL.val (yl_fieldAt (a := some _) Go.Proofs.Try.underlying88 rfl i2 i2n rfl rfl) rfl ?_
    refine JL.val (yl_load1 Go.Proofs.Try.underlying2 rfl rfl (fun w hC => rd_box hC 0 rfl) rfl) rfl ?_
    refine JL.val (yl_build rfl (fun w => bld42_0_1 x2.X x2.Y w)) rfl ?_
    obtain ⟨x5, hx5, hres⟩ := bind_some hres
    refine JL.eff (ef_call (vs := [.agg #[.int .i64 x2.X, .int .i64 x2.Y]]) (T := T106 x5) Go.Proofs.Try.func106 rfl (by kernel_rfl) rfl (fun w hC => c106 (q0 := SPoint.mk x2.X x2.Y) hx5)) rfl ?_
    rintro _ _ ⟨_, ⟨rfl, rfl⟩, rfl⟩
    refine JL.val (yl_not rfl) rfl ?_
    refine JL.val (yl_move rfl) rfl ?_
    obtain ⟨cb6, hcb6, hres⟩ := bind_some hres
    refine JL.cut (K := fun J => J [(0, .slice a_0 q0.length c_0), (5, .slice a_0 q0.length c_0), (6, .int .i64 (q0.length : Int)), (7, .int .i64 x1), (23, .bool cb6)] []) 5 ?_ ?_
    · refine JL.nil ?_
      refine JE.weak (env' := [(0, .slice a_0 q0.length c_0), (5, .slice a_0 q0.length c_0), (6, .int .i64 (q0.length : Int)), (7, .int .i64 x1), (23, .bool cb6)]) (es' := []) [] ?_ ⟨rfl, rfl, rfl, rfl, rfl, trivial⟩ (by decide) rfl
      refine JE.code ?_
      rcases cond_some hres with ⟨hb, hres⟩ | ⟨hb, hres⟩
      · refine JX.condT rfl hb ?_
        refine JX.seq ?_
        refine JX.region ?_
        refine JL.val (yl_assign rfl) rfl ?_
        refine JL.nil ?_
        refine JE.code ?_
        refine JX.ret ?_
        refine JE.qbr ?_
        refine JE.qbr ?_
        have hres := elimS_inr hresO1 (hox1 _ (Option.some.inj hres).symm)
        obtain rfl := Option.some.inj hres
        refine JE.ret (rs := [.tmp 2]) (vs := [.bool false]) rfl ⟨rfl, trivial⟩ ?_
        exact fun w' hb hs => ⟨_, _, ⟨rfl, rfl⟩, rfl, hb, hs.sel [] _ (by decide) rfl⟩
      · refine JX.condF rfl hb ?_
        refine JX.skip ?_
        refine JE.code ?_
        refine JX.region ?_
        refine JL.val (yl_add rfl rfl) rfl ?_
        refine JL.val (yl_move rfl) rfl ?_
        refine JL.nil ?_
        refine JE.cont hres ?_
        exact fun a w h => h.weak ⟨rfl, rfl, rfl, rfl, trivial⟩ [] (by decide) rfl
    · intro K
      rcases cond_some hcb6 with ⟨hb, hres⟩ | ⟨hb, hres⟩
      · refine JL.set (d := 18) (v := .bool true) (congrArg (fun b => some (Value.bool b)) hb) ?_
        refine JL.gskip rfl rfl rfl rfl ?_
        refine JL.gskip rfl rfl rfl rfl ?_
        refine JL.gskip rfl rfl rfl rfl ?_
        refine JL.gskip rfl rfl rfl rfl ?_
        refine JL.val (yl_pick_true rfl rfl) rfl ?_
        have he := Option.some.inj hres
        exact JL.weak [] K ⟨rfl, rfl, rfl, rfl, (by rw [← he]; rfl), trivial⟩ (by decide) rfl
      · refine JL.set (d := 18) (v := .bool false) (congrArg (fun b => some (Value.bool b)) hb) ?_
        refine JL.gval rfl rfl (yl_fieldAt (a := some _) Go.Proofs.Try.underlying88 rfl i2 i2n rfl rfl) rfl ?_
        refine JL.gval rfl rfl (yl_load1 Go.Proofs.Try.underlying2 rfl rfl (fun w hC => rd_box hC 0 rfl) rfl) rfl ?_
        obtain ⟨x7, hx7, hres⟩ := bind_some hres
        refine JL.geff rfl rfl (ef_call (T := T107 x7) Go.Proofs.Try.func107 rfl (by kernel_rfl) rfl (fun w hC => c107  hx7)) rfl ?_
        rintro _ _ ⟨_, ⟨rfl, rfl⟩, rfl⟩
        refine JL.gval rfl rfl (yl_not rfl) rfl ?_
        refine JL.val (yl_pick_false rfl rfl) rfl ?_
        have he := Option.some.inj hres
        exact JL.weak [] K ⟨rfl, rfl, rfl, rfl, (by rw [← he]; rfl), trivial⟩ (by decide) rfl
  · refine JX.condF rfl hb ?_
    refine JX.exit ?_
    refine JE.qb rfl ?_
    obtain ⟨b1, hb1⟩ : ∃ b : Unit, b = () := ⟨_, rfl⟩
    have hy1 : Sum.inl b1 = y1 := by rw [hb1]; exact hox1 _ (Option.some.inj hres).symm
    have hres := elimS_inl hresO1 hy1
    refine JE.weak (env' := [(0, .slice a_0 q0.length c_0)]) (es' := []) [] ?_ ⟨(by subst hb1; rfl), trivial⟩ (by decide) (by subst hb1; rfl)
    refine JE.code ?_
    refine JX.seq ?_
    refine JX.region ?_
    refine JL.val (yl_move rfl) rfl ?_
    refine JL.val (yl_len_slice Go.Proofs.Try.underlying65 rfl) rfl ?_
    refine JL.val (yl_leq rfl rfl) rfl ?_
    refine JL.val (yl_assign rfl) rfl ?_
    refine JL.nil ?_
    refine JE.weak (env' := [(2, .bool (decide ((q0.length : Int) ≤ 700)))]) (es' := []) [] ?_ ⟨rfl, trivial⟩ (by decide) rfl
    refine JE.code ?_
    refine JX.ret ?_
    obtain rfl := Option.some.inj hres
    refine JE.ret (rs := [.tmp 2]) (vs := [.bool (decide ((q0.length : Int) ≤ 700))]) rfl ⟨rfl, trivial⟩ ?_
    exact fun w' hb hs => ⟨_, _, ⟨rfl, rfl⟩, rfl, hb, hs.sel [] _ (by decide) rfl⟩

end Go.Sh
