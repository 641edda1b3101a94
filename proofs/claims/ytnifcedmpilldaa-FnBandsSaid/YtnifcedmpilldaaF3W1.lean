/- Walks through functions that the law reaches, printed by program. -/
import Derived.Test.YtnifcedmpilldaaF3W0
set_option linter.unusedVariables false
set_option linter.unusedSimpArgs false
namespace Go.Sh
open Go Go.RowKit
/- (impl.Panel).trace -/
def sh97_3 (q0 : SPanel) (x23 : List (List SWalker)) : (List Int × List SWalker × SWalker) → Option ((List Int × List SWalker × SWalker) ⊕ (List Int × List SWalker))
  | (x40, x41, x42) => Option.bind (sh177 q0 x42) fun x47 => Option.bind (getI x40 x47) fun x48 => bif decide (x48 < 0) then (Option.bind (sh177 q0 x42) fun x49 => Option.bind (getI x40 x49) fun x50 => Option.bind (appL x41 [x42]) fun x53 => Option.bind (sh178 q0 x42) fun x58 => some (.inl (x40.set (x49).toNat ((x23.length : Nat) : Int), x53, x58.1))) else (some (.inr (x40, x41)))
def sh97_2 (q0 : SPanel) (x16 : Int) : (Int × List (List SWalker) × List Int) → Option ((Int × List (List SWalker) × List Int) ⊕ (List (List SWalker) × List Int))
  | (x22, x23, x24) => bif decide (x22 < x16) then (Option.bind (getI x24 x22) fun x30 => bif decide (0 ≤ x30) then (some (.inl (w64 (x22 + 1), x23, x24))) else (Option.bind (sh176 q0 x22) fun x33 => Option.bind (iter (sh97_3 q0 x23) (x24, ([] : List SWalker), x33)) fun b3 => (Option.bind (appL x23 [b3.2]) fun x64 => some (.inl (w64 (x22 + 1), x64, b3.1))))) else (some (.inr (x23, x24)))
def sh97_1 (x7 : List Int) : (Int × List Int) → Option ((Int × List Int) ⊕ (List Int))
  | (x11, x12) => bif decide (x11 < (x7.length : Int)) then (Option.bind (getI x12 x11) fun x14 => some (.inl (w64 (x11 + 1), x12.set (x11).toNat (-1)))) else (some (.inr x12))
def sh97 (q0 : SPanel) : Option (List (List SWalker) × List Int) := Option.bind (sh175 q0) fun x6 => Option.bind (mkL x6 0) fun x7 => Option.bind (iter (sh97_1 x7) (0, x7)) fun b1 => (Option.bind (sh175 q0) fun x16 => Option.bind (iter (sh97_2 q0 x16) (0, ([] : List (List SWalker)), b1)) fun b2 => (some (b2.1, b2.2)))
def T97 (r : List (List SWalker) × List Int) (v : Value) (rs : List Own) : Prop := ∃ (a0 : Option Addr) (n0 c0 : Nat) (h0 : List Hd), r.1.length = n0 ∧ Inn h0 r.1 ∧ ∃ (a1 : Option Addr) (n1 c1 : Nat), r.2.length = n1 ∧ v = rets [.slice a0 n0 c0, .slice a1 n1 c1] ∧ rs = [rowT 102 eHd a0 n0 c0 h0, innO 104 eSWalker none h0 r.1, rowT 2 eI64 a1 n1 c1 r.2]
set_option maxRecDepth 100000 in
set_option maxHeartbeats 1000000 in
theorem c97 {w : World} {q0 : SPanel} {a_0_2 : Option Addr} {n_0_2 c_0_2 : Nat} (g_0_2 : Rd w a_0_2 (eI64.fl q0.Breaks)) (l_0_2 : q0.Breaks.length = n_0_2) (k_0_2 : n_0_2 ≤ c_0_2) {r : List (List SWalker) × List Int} (hres : sh97 q0 = some r) : Calls Go.Proofs.Try.prog 97 [.agg #[.int .i64 q0.W, .int .i64 q0.H, .slice a_0_2 n_0_2 c_0_2]].toArray w (Ret w (T97 r)) := by
  subst l_0_2
  unfold sh97 at hres
  refine calls_of (n := 69) (M := []) (es := []) Go.Proofs.Try.func97 rfl rfl rfl (Sep.nil _ _ _) ?_
  refine JX.seq ?_
  refine JX.region ?_
  refine JL.eff (ef_box rfl rfl) rfl ?_
  rintro _ _ ⟨g1, rfl, rfl⟩
  refine JL.val (yl_assign rfl) rfl ?_
  refine JL.val (yl_assign rfl) rfl ?_
  refine JL.nil ?_
  refine JE.code ?_
  refine JX.seq ?_
  refine JX.region ?_
  refine JL.eff (ef_buildSlice (E := 102) (k := eHd.k) (us := eHd.fl ([] : List Hd)) rfl (fun w => bsl99_0  w) rfl (by decide)) rfl ?_
  rintro _ _ ⟨a3, rfl, rfl⟩
  refine JL.nilinn 104 eSWalker ?_
  refine JL.val (yl_assign rfl) rfl ?_
  refine JL.nil ?_
  refine JE.code ?_
  refine JX.seq ?_
  refine JX.region ?_
  refine JL.val (yl_loadn Go.Proofs.Try.underlying26 rfl i26 rfl (fun w hC => rd_box hC 0 rfl) rfl (i26s).symm i26p) rfl ?_
  obtain ⟨x6, hx6, hres⟩ := bind_some hres
  refine JL.eff (ef_call (vs := [.agg #[.int .i64 q0.W, .int .i64 q0.H, .slice a_0_2 q0.Breaks.length c_0_2]]) (T := T175 x6) Go.Proofs.Try.func175 rfl (by kernel_rfl) rfl (fun w hC => c175 (q0 := q0) (rd_arg g_0_2 hC) rfl k_0_2 hx6)) rfl ?_
  rintro _ _ ⟨_, ⟨rfl, rfl⟩, rfl⟩
  obtain ⟨x7, hx7, hres⟩ := bind_some hres
  refine JL.eff (ef_makeS (e := eI64) Go.Proofs.Try.underlying24 i2 i2s i2z rfl i2b1 rfl rfl hx7) rfl ?_
  rintro _ _ ⟨a8, rfl, rfl⟩
  refine JL.val (yl_assign rfl) rfl ?_
  refine JL.nil ?_
  refine JE.weak (env' := [(1, ptrAt (some ⟨g1, 0, none⟩) 0), (4, .slice a3 0 0), (5, .slice a8 x7.length x7.length)]) (es' := [boxO 26 g1 [.int .i64 q0.W, .int .i64 q0.H, .slice a_0_2 q0.Breaks.length c_0_2], rowT 102 eHd a3 0 0 ([] : List Hd), innO 104 eSWalker none ([] : List Hd) ([] : List (List SWalker)), rowT 2 eI64 a8 x7.length x7.length x7]) [0, 1, 2, 3] ?_ ⟨rfl, rfl, rfl, trivial⟩ (by decide) rfl
  refine JE.code ?_
  refine JX.seq ?_
  refine JX.seq ?_
  refine JX.region ?_
  refine JL.val (yl_move rfl) rfl ?_
  refine JL.val (yl_len_slice Go.Proofs.Try.underlying24 rfl) rfl ?_
  refine JL.val (yl_move rfl) rfl ?_
  refine JL.nil ?_
  refine JE.code ?_
  refine JX.block ?_
  obtain ⟨y1, hy1, hresO1⟩ := bind_some hres
  refine JX.loop (I := fun (s1 : Int × List Int) aa ww => ∃ (l10 : s1.2.length = x7.length), St w [] 69 [(1, ptrAt (some ⟨g1, 0, none⟩) 0), (4, .slice a3 0 0), (5, .slice a8 x7.length x7.length), (15, .int .i64 (x7.length : Int)), (16, .int .i64 s1.1)] [boxO 26 g1 [.int .i64 q0.W, .int .i64 q0.H, .slice a_0_2 q0.Breaks.length c_0_2], rowT 102 eHd a3 0 0 ([] : List Hd), innO 104 eSWalker none ([] : List Hd) ([] : List (List SWalker)), rowT 2 eI64 a8 x7.length x7.length s1.2] aa ww) (sh97_1 x7) hy1 (fun a w h => ⟨rfl, h.weak ⟨rfl, rfl, rfl, rfl, rfl, trivial⟩ [0, 1, 2, 3] (by decide) rfl⟩) ?_
  rintro ⟨x11, x12⟩ o1 hres hox1 aa ww ⟨l13, hS⟩
  refine (?_ : JX Go.Proofs.Try.prog w [] 69 _ _ [(1, ptrAt (some ⟨g1, 0, none⟩) 0), (4, .slice a3 0 0), (5, .slice a8 x7.length x7.length), (15, .int .i64 (x7.length : Int)), (16, .int .i64 x11)] [boxO 26 g1 [.int .i64 q0.W, .int .i64 q0.H, .slice a_0_2 q0.Breaks.length c_0_2], rowT 102 eHd a3 0 0 ([] : List Hd), innO 104 eSWalker none ([] : List Hd) ([] : List (List SWalker)), rowT 2 eI64 a8 x7.length x7.length x12] _) aa ww hS
  clear hS
  simp only [sh97_1] at hres
  refine JX.seq ?_
  refine JX.region ?_
  refine JL.val (yl_lss rfl rfl) rfl ?_
  refine JL.nil ?_
  refine JE.code ?_
  refine JX.seq ?_
  rcases cond_some hres with ⟨hb, hres⟩ | ⟨hb, hres⟩
  · refine JX.condT rfl hb ?_
    refine JX.skip ?_
    refine JE.code ?_
    refine JX.seq ?_
    refine JX.block ?_
    refine JX.seq ?_
    refine JX.region ?_
    refine JL.val (yl_move rfl) rfl ?_
    refine JL.val (yl_assign rfl) rfl ?_
    refine JL.nil ?_
    refine JE.code ?_
    refine JX.region ?_
    refine JL.val (yl_move rfl) rfl ?_
    refine JL.val (yl_move rfl) rfl ?_
    obtain ⟨x14, hx14, hres⟩ := bind_some hres
    refine JL.val (yl_idxT Go.Proofs.Try.underlying24 i2 i2s rfl rfl hx14 l13 (fun w hC => rd_row hC 3 rfl)) rfl ?_
    refine JL.eff (ef_storeT (ix := 3) (u := (-1)) i2 i2s rfl rfl rfl hx14 rfl) rfl ?_
    rintro _ _ rfl
    refine JL.nil ?_
    refine JE.weak (env' := [(1, ptrAt (some ⟨g1, 0, none⟩) 0), (4, .slice a3 0 0), (5, .slice a8 x7.length x7.length), (15, .int .i64 (x7.length : Int)), (16, .int .i64 x11)]) (es' := [boxO 26 g1 [.int .i64 q0.W, .int .i64 q0.H, .slice a_0_2 q0.Breaks.length c_0_2], rowT 102 eHd a3 0 0 ([] : List Hd), innO 104 eSWalker none ([] : List Hd) ([] : List (List SWalker)), rowT 2 eI64 a8 x7.length x7.length (x12.set (x11).toNat (-1))]) [0, 1, 2, 3] ?_ ⟨rfl, rfl, rfl, rfl, rfl, trivial⟩ (by decide) rfl
    refine JE.code ?_
    refine JX.region ?_
    refine JL.val (yl_add rfl rfl) rfl ?_
    refine JL.val (yl_move rfl) rfl ?_
    refine JL.nil ?_
    refine JE.cont hres ?_
    exact fun a w h => ⟨(List.length_set.trans l13), h.weak ⟨rfl, rfl, rfl, rfl, rfl, trivial⟩ [0, 1, 2, 3] (by decide) rfl⟩
  · refine JX.condF rfl hb ?_
    refine JX.exit ?_
    refine JE.qb rfl ?_
    obtain ⟨b1, hb1⟩ : ∃ b : List Int, b = x12 := ⟨_, rfl⟩
    have hy1 : b1 = y1 := by rw [hb1]; exact hox1 _ (Option.some.inj hres).symm
    have hres := hresO1
    rw [← hy1] at hres
    have l15 : b1.length = x7.length := by subst hb1; exact l13
    refine JE.weak (env' := [(1, ptrAt (some ⟨g1, 0, none⟩) 0), (4, .slice a3 0 0), (5, .slice a8 x7.length x7.length)]) (es' := [boxO 26 g1 [.int .i64 q0.W, .int .i64 q0.H, .slice a_0_2 q0.Breaks.length c_0_2], rowT 102 eHd a3 0 0 ([] : List Hd), innO 104 eSWalker none ([] : List Hd) ([] : List (List SWalker)), rowT 2 eI64 a8 x7.length x7.length b1]) [0, 1, 2, 3] ?_ ⟨(by subst hb1; rfl), (by subst hb1; rfl), (by subst hb1; rfl), trivial⟩ (by decide) (by subst hb1; rfl)
    refine JE.code ?_
    refine JX.seq ?_
    refine JX.seq ?_
    refine JX.region ?_
    refine JL.val (yl_loadn Go.Proofs.Try.underlying26 rfl i26 rfl (fun w hC => rd_box hC 0 rfl) rfl (i26s).symm i26p) rfl ?_
    obtain ⟨x16, hx16, hres⟩ := bind_some hres
    refine JL.eff (ef_call (vs := [.agg #[.int .i64 q0.W, .int .i64 q0.H, .slice a_0_2 q0.Breaks.length c_0_2]]) (T := T175 x16) Go.Proofs.Try.func175 rfl (by kernel_rfl) rfl (fun w hC => c175 (q0 := q0) (rd_arg g_0_2 hC) rfl k_0_2 hx16)) rfl ?_
    rintro _ _ ⟨_, ⟨rfl, rfl⟩, rfl⟩
    refine JL.val (yl_move rfl) rfl ?_
    refine JL.nil ?_
    refine JE.code ?_
    refine JX.block ?_
    obtain ⟨y2, hy2, hresO2⟩ := bind_some hres
    refine JX.loop (I := fun (s2 : Int × List (List SWalker) × List Int) aa ww => ∃ (a17 : Option Addr) (cp18 : Nat) (hs19 : List Hd) (hi20 : Inn hs19 s2.2.1) (l21 : s2.2.2.length = x7.length), St w [] 69 [(1, ptrAt (some ⟨g1, 0, none⟩) 0), (4, .slice a17 s2.2.1.length cp18), (5, .slice a8 x7.length x7.length), (24, .int .i64 x16), (25, .int .i64 s2.1)] [boxO 26 g1 [.int .i64 q0.W, .int .i64 q0.H, .slice a_0_2 q0.Breaks.length c_0_2], rowT 102 eHd a17 s2.2.1.length cp18 hs19, innO 104 eSWalker none hs19 s2.2.1, rowT 2 eI64 a8 x7.length x7.length s2.2.2] aa ww) (sh97_2 q0 x16) hy2 (fun a w h => ⟨a3, 0, ([] : List Hd), (Inn.nil (T := SWalker)), l15, h.weak ⟨rfl, rfl, rfl, rfl, rfl, trivial⟩ [0, 1, 2, 3] (by decide) rfl⟩) ?_
    rintro ⟨x22, x23, x24⟩ o2 hres hox2 aa ww ⟨a25, cp26, hs27, hi28, l29, hS⟩
    refine (?_ : JX Go.Proofs.Try.prog w [] 69 _ _ [(1, ptrAt (some ⟨g1, 0, none⟩) 0), (4, .slice a25 x23.length cp26), (5, .slice a8 x7.length x7.length), (24, .int .i64 x16), (25, .int .i64 x22)] [boxO 26 g1 [.int .i64 q0.W, .int .i64 q0.H, .slice a_0_2 q0.Breaks.length c_0_2], rowT 102 eHd a25 x23.length cp26 hs27, innO 104 eSWalker none hs27 x23, rowT 2 eI64 a8 x7.length x7.length x24] _) aa ww hS
    clear hS
    simp only [sh97_2] at hres
    refine JX.seq ?_
    refine JX.region ?_
    refine JL.val (yl_lss rfl rfl) rfl ?_
    refine JL.nil ?_
    refine JE.code ?_
    refine JX.seq ?_
    rcases cond_some hres with ⟨hb, hres⟩ | ⟨hb, hres⟩
    · refine JX.condT rfl hb ?_
      refine JX.skip ?_
      refine JE.code ?_
      refine JX.seq ?_
      refine JX.block ?_
      refine JX.seq ?_
      refine JX.region ?_
      refine JL.val (yl_move rfl) rfl ?_
      refine JL.val (yl_assign rfl) rfl ?_
      refine JL.nil ?_
      refine JE.code ?_
      refine JX.seq ?_
      refine JX.seq ?_
      refine JX.region ?_
      refine JL.val (yl_move rfl) rfl ?_
      refine JL.val (yl_move rfl) rfl ?_
      obtain ⟨x30, hx30, hres⟩ := bind_some hres
      refine JL.val (yl_idxT Go.Proofs.Try.underlying24 i2 i2s rfl rfl hx30 l29 (fun w hC => rd_row hC 3 rfl)) rfl ?_
      refine JL.val (yl_loadT0 Go.Proofs.Try.underlying2 rfl rfl hx30 (fun w hC => rd_row hC 3 rfl) rfl) rfl ?_
      refine JL.val (yl_geq rfl rfl) rfl ?_
      refine JL.nil ?_
      refine JE.weak (env' := [(1, ptrAt (some ⟨g1, 0, none⟩) 0), (4, .slice a25 x23.length cp26), (5, .slice a8 x7.length x7.length), (7, .int .i64 x22), (24, .int .i64 x16), (25, .int .i64 x22), (32, .bool (decide (0 ≤ x30)))]) (es' := [boxO 26 g1 [.int .i64 q0.W, .int .i64 q0.H, .slice a_0_2 q0.Breaks.length c_0_2], rowT 102 eHd a25 x23.length cp26 hs27, innO 104 eSWalker none hs27 x23, rowT 2 eI64 a8 x7.length x7.length x24]) [0, 1, 2, 3] ?_ ⟨rfl, rfl, rfl, rfl, rfl, rfl, rfl, trivial⟩ (by decide) rfl
      refine JE.code ?_
      rcases cond_some hres with ⟨hb, hres⟩ | ⟨hb, hres⟩
      · refine JX.condT rfl hb ?_
        refine JX.exit ?_
        refine JE.qb rfl ?_
        refine JE.code ?_
        refine JX.region ?_
        refine JL.val (yl_add rfl rfl) rfl ?_
        refine JL.val (yl_move rfl) rfl ?_
        refine JL.nil ?_
        refine JE.cont hres ?_
        exact fun a w h => ⟨a25, cp26, hs27, hi28, l29, h.weak ⟨rfl, (by first | rfl | (simp only [List.length_set, l29]; rfl) | simp only [List.length_set, l29]), rfl, rfl, rfl, trivial⟩ [0, 1, 2, 3] (by decide) (by first | rfl | (simp only [List.length_set, l29]; rfl) | simp only [List.length_set, l29])⟩
      · refine JX.condF rfl hb ?_
        refine JX.skip ?_
        refine JE.code ?_
        refine JX.seq ?_
        refine JX.region ?_
        refine JL.eff (ef_buildSlice (E := 104) (k := eSWalker.k) (us := eSWalker.fl ([] : List SWalker)) rfl (fun w => bsl102_0  w) rfl (by decide)) rfl ?_
        rintro _ _ ⟨a31, rfl, rfl⟩
        refine JL.val (yl_assign rfl) rfl ?_
        refine JL.nil ?_
        refine JE.code ?_
        refine JX.seq ?_
        refine JX.seq ?_
        refine JX.region ?_
        refine JL.val (yl_loadn Go.Proofs.Try.underlying26 rfl i26 rfl (fun w hC => rd_box hC 0 rfl) rfl (i26s).symm i26p) rfl ?_
        refine JL.val (yl_move rfl) rfl ?_
        obtain ⟨x33, hx33, hres⟩ := bind_some hres
        refine JL.eff (ef_call (vs := [.agg #[.int .i64 q0.W, .int .i64 q0.H, .slice a_0_2 q0.Breaks.length c_0_2], .int .i64 x22]) (T := T176 x33) Go.Proofs.Try.func176 rfl (by kernel_rfl) rfl (fun w hC => c176 (q0 := q0) (rd_arg g_0_2 hC) rfl k_0_2 hx33)) rfl ?_
        rintro _ _ ⟨_, ⟨rfl, rfl⟩, rfl⟩
        refine JL.eff (ef_alloc i104 i104z rfl) rfl ?_
        rintro _ _ ⟨g34, rfl, rfl⟩
        refine JL.eff (ef_store_box (i := 5) (v := .agg #[.int .i64 x33.At.X, .int .i64 x33.At.Y, .int .i64 x33.DX, .int .i64 x33.DY]) i104 rfl rfl rfl (i104s).symm (Nat.le_of_ble_eq_true rfl) (by simp [Value.cells, Value.oneCell'])) rfl ?_
        rintro _ _ rfl
        refine JL.nil ?_
        refine JE.weak (env' := [(1, ptrAt (some ⟨g1, 0, none⟩) 0), (4, .slice a25 x23.length cp26), (5, .slice a8 x7.length x7.length), (8, .slice a31 0 0), (9, ptrAt (some ⟨g34, 0, none⟩) 0), (24, .int .i64 x16), (25, .int .i64 x22)]) (es' := [boxO 26 g1 [.int .i64 q0.W, .int .i64 q0.H, .slice a_0_2 q0.Breaks.length c_0_2], rowT 102 eHd a25 x23.length cp26 hs27, innO 104 eSWalker none hs27 x23, rowT 2 eI64 a8 x7.length x7.length x24, rowT 104 eSWalker a31 0 0 ([] : List SWalker), boxO 104 g34 [.int .i64 x33.At.X, .int .i64 x33.At.Y, .int .i64 x33.DX, .int .i64 x33.DY]]) [0, 1, 2, 3, 4, 5] ?_ ⟨rfl, rfl, rfl, rfl, rfl, rfl, rfl, trivial⟩ (by decide) rfl
        refine JE.code ?_
        refine JX.block ?_
        obtain ⟨y3, hy3, hresO3⟩ := bind_some hres
        refine JX.loop (I := fun (s3 : List Int × List SWalker × SWalker) aa ww => ∃ (l36 : s3.1.length = x7.length) (a37 : Option Addr) (cp38 : Nat) (g39 : Nat), St w [] 69 [(1, ptrAt (some ⟨g1, 0, none⟩) 0), (4, .slice a25 x23.length cp26), (5, .slice a8 x7.length x7.length), (8, .slice a37 s3.2.1.length cp38), (9, ptrAt (some ⟨g39, 0, none⟩) 0), (24, .int .i64 x16), (25, .int .i64 x22)] [boxO 26 g1 [.int .i64 q0.W, .int .i64 q0.H, .slice a_0_2 q0.Breaks.length c_0_2], rowT 102 eHd a25 x23.length cp26 hs27, innO 104 eSWalker none hs27 x23, rowT 2 eI64 a8 x7.length x7.length s3.1, rowT 104 eSWalker a37 s3.2.1.length cp38 s3.2.1, boxO 104 g39 [.int .i64 s3.2.2.At.X, .int .i64 s3.2.2.At.Y, .int .i64 s3.2.2.DX, .int .i64 s3.2.2.DY]] aa ww) (sh97_3 q0 x23) hy3 (fun a w h => ⟨l29, a31, 0, g34, h.weak ⟨rfl, rfl, rfl, rfl, rfl, rfl, rfl, trivial⟩ [0, 1, 2, 3, 4, 5] (by decide) rfl⟩) ?_
        rintro ⟨x40, x41, x42⟩ o3 hres hox3 aa ww ⟨l43, a44, cp45, g46, hS⟩
        refine (?_ : JX Go.Proofs.Try.prog w [] 69 _ _ [(1, ptrAt (some ⟨g1, 0, none⟩) 0), (4, .slice a25 x23.length cp26), (5, .slice a8 x7.length x7.length), (8, .slice a44 x41.length cp45), (9, ptrAt (some ⟨g46, 0, none⟩) 0), (24, .int .i64 x16), (25, .int .i64 x22)] [boxO 26 g1 [.int .i64 q0.W, .int .i64 q0.H, .slice a_0_2 q0.Breaks.length c_0_2], rowT 102 eHd a25 x23.length cp26 hs27, innO 104 eSWalker none hs27 x23, rowT 2 eI64 a8 x7.length x7.length x40, rowT 104 eSWalker a44 x41.length cp45 x41, boxO 104 g46 [.int .i64 x42.At.X, .int .i64 x42.At.Y, .int .i64 x42.DX, .int .i64 x42.DY]] _) aa ww hS
        clear hS
        simp only [sh97_3] at hres
        refine JX.seq ?_
        refine JX.seq ?_
        refine JX.region ?_
        refine JL.val (yl_move rfl) rfl ?_
        refine JL.val (yl_loadn Go.Proofs.Try.underlying26 rfl i26 rfl (fun w hC => rd_box hC 0 rfl) rfl (i26s).symm i26p) rfl ?_
        refine JL.val (yl_loadn Go.Proofs.Try.underlying104 rfl i104 rfl (fun w hC => rd_box hC 5 rfl) rfl (i104s).symm i104p) rfl ?_
        obtain ⟨x47, hx47, hres⟩ := bind_some hres
        refine JL.eff (ef_call (vs := [.agg #[.int .i64 q0.W, .int .i64 q0.H, .slice a_0_2 q0.Breaks.length c_0_2], .agg #[.int .i64 x42.At.X, .int .i64 x42.At.Y, .int .i64 x42.DX, .int .i64 x42.DY]]) (T := T177 x47) Go.Proofs.Try.func177 rfl (by kernel_rfl) rfl (fun w hC => c177 (q0 := q0) (q1 := x42) (rd_arg g_0_2 hC) rfl k_0_2 hx47)) rfl ?_
        rintro _ _ ⟨_, ⟨rfl, rfl⟩, rfl⟩
        obtain ⟨x48, hx48, hres⟩ := bind_some hres
        refine JL.val (yl_idxT Go.Proofs.Try.underlying24 i2 i2s rfl rfl hx48 l43 (fun w hC => rd_row hC 3 rfl)) rfl ?_
        refine JL.val (yl_loadT0 Go.Proofs.Try.underlying2 rfl rfl hx48 (fun w hC => rd_row hC 3 rfl) rfl) rfl ?_
        refine JL.val (yl_lss rfl rfl) rfl ?_
        refine JL.nil ?_
        refine JE.weak (env' := [(1, ptrAt (some ⟨g1, 0, none⟩) 0), (4, .slice a25 x23.length cp26), (5, .slice a8 x7.length x7.length), (8, .slice a44 x41.length cp45), (9, ptrAt (some ⟨g46, 0, none⟩) 0), (24, .int .i64 x16), (25, .int .i64 x22), (43, .bool (decide (x48 < 0)))]) (es' := [boxO 26 g1 [.int .i64 q0.W, .int .i64 q0.H, .slice a_0_2 q0.Breaks.length c_0_2], rowT 102 eHd a25 x23.length cp26 hs27, innO 104 eSWalker none hs27 x23, rowT 2 eI64 a8 x7.length x7.length x40, rowT 104 eSWalker a44 x41.length cp45 x41, boxO 104 g46 [.int .i64 x42.At.X, .int .i64 x42.At.Y, .int .i64 x42.DX, .int .i64 x42.DY]]) [0, 1, 2, 3, 4, 5] ?_ ⟨rfl, rfl, rfl, rfl, rfl, rfl, rfl, rfl, trivial⟩ (by decide) rfl
        refine JE.code ?_
        rcases cond_some hres with ⟨hb, hres⟩ | ⟨hb, hres⟩
        · refine JX.condT rfl hb ?_
          refine JX.skip ?_
          refine JE.code ?_
          refine JX.seq ?_
          refine JX.block ?_
          refine JX.seq ?_
          refine JX.region ?_
          refine JL.val (yl_move rfl) rfl ?_
          refine JL.val (yl_loadn Go.Proofs.Try.underlying26 rfl i26 rfl (fun w hC => rd_box hC 0 rfl) rfl (i26s).symm i26p) rfl ?_
          refine JL.val (yl_loadn Go.Proofs.Try.underlying104 rfl i104 rfl (fun w hC => rd_box hC 5 rfl) rfl (i104s).symm i104p) rfl ?_
          obtain ⟨x49, hx49, hres⟩ := bind_some hres
          refine JL.eff (ef_call (vs := [.agg #[.int .i64 q0.W, .int .i64 q0.H, .slice a_0_2 q0.Breaks.length c_0_2], .agg #[.int .i64 x42.At.X, .int .i64 x42.At.Y, .int .i64 x42.DX, .int .i64 x42.DY]]) (T := T177 x49) Go.Proofs.Try.func177 rfl (by kernel_rfl) rfl (fun w hC => c177 (q0 := q0) (q1 := x42) (rd_arg g_0_2 hC) rfl k_0_2 hx49)) rfl ?_
          rintro _ _ ⟨_, ⟨rfl, rfl⟩, rfl⟩
          refine JL.val (yl_move rfl) rfl ?_
          refine JL.val (yl_len_slice Go.Proofs.Try.underlying99 rfl) rfl ?_
          obtain ⟨x50, hx50, hres⟩ := bind_some hres
          refine JL.val (yl_idxT Go.Proofs.Try.underlying24 i2 i2s rfl rfl hx50 l43 (fun w hC => rd_row hC 3 rfl)) rfl ?_
          refine JL.eff (ef_storeT (ix := 3) (u := ((x23.length : Nat) : Int)) i2 i2s rfl rfl rfl hx50 rfl) rfl ?_
          rintro _ _ rfl
          refine JL.nil ?_
          refine JE.weak (env' := [(1, ptrAt (some ⟨g1, 0, none⟩) 0), (4, .slice a25 x23.length cp26), (5, .slice a8 x7.length x7.length), (8, .slice a44 x41.length cp45), (9, ptrAt (some ⟨g46, 0, none⟩) 0), (24, .int .i64 x16), (25, .int .i64 x22)]) (es' := [boxO 26 g1 [.int .i64 q0.W, .int .i64 q0.H, .slice a_0_2 q0.Breaks.length c_0_2], rowT 102 eHd a25 x23.length cp26 hs27, innO 104 eSWalker none hs27 x23, rowT 2 eI64 a8 x7.length x7.length (x40.set (x49).toNat ((x23.length : Nat) : Int)), rowT 104 eSWalker a44 x41.length cp45 x41, boxO 104 g46 [.int .i64 x42.At.X, .int .i64 x42.At.Y, .int .i64 x42.DX, .int .i64 x42.DY]]) [0, 1, 2, 3, 4, 5] ?_ ⟨rfl, rfl, rfl, rfl, rfl, rfl, rfl, trivial⟩ (by decide) rfl
          refine JE.code ?_
          refine JX.region ?_
          refine JL.val (yl_move rfl) rfl ?_
          refine JL.val (yl_loadn Go.Proofs.Try.underlying104 rfl i104 rfl (fun w hC => rd_box hC 5 rfl) rfl (i104s).symm i104p) rfl ?_
          refine JL.eff (ef_buildSlice (E := 104) (k := eSWalker.k) (us := eSWalker.fl [x42]) rfl (fun w => bsl102_1 x42.At.X x42.At.Y x42.DX x42.DY w) rfl (by decide)) rfl ?_
          rintro _ _ ⟨a51, rfl, rfl⟩
          obtain ⟨x53, hx53, hres⟩ := bind_some hres
          refine JL.eff (ef_appendT (ix := 4) Go.Proofs.Try.underlying102 i104 i104z i104s rfl i104b0 i104b1 rfl rfl rfl rfl rfl (fun w hC => rd_row hC 6 rfl) hx53) rfl ?_
          rintro _ _ ⟨a54, cp55, rfl, rfl⟩
          refine JL.val (yl_assign rfl) rfl ?_
          refine JL.nil ?_
          refine JE.weak (env' := [(1, ptrAt (some ⟨g1, 0, none⟩) 0), (4, .slice a25 x23.length cp26), (5, .slice a8 x7.length x7.length), (8, .slice a54 x53.length cp55), (9, ptrAt (some ⟨g46, 0, none⟩) 0), (24, .int .i64 x16), (25, .int .i64 x22)]) (es' := [boxO 26 g1 [.int .i64 q0.W, .int .i64 q0.H, .slice a_0_2 q0.Breaks.length c_0_2], rowT 102 eHd a25 x23.length cp26 hs27, innO 104 eSWalker none hs27 x23, rowT 2 eI64 a8 x7.length x7.length (x40.set (x49).toNat ((x23.length : Nat) : Int)), rowT 104 eSWalker a54 x53.length cp55 x53, boxO 104 g46 [.int .i64 x42.At.X, .int .i64 x42.At.Y, .int .i64 x42.DX, .int .i64 x42.DY]]) [0, 1, 2, 3, 4, 5] ?_ ⟨rfl, rfl, rfl, rfl, rfl, rfl, rfl, trivial⟩ (by decide) rfl
          refine JE.code ?_
          refine JX.seq ?_
          refine JX.seq ?_
          refine JX.region ?_
          refine JL.val (yl_loadn Go.Proofs.Try.underlying104 rfl i104 rfl (fun w hC => rd_box hC 5 rfl) rfl (i104s).symm i104p) rfl ?_
          refine JL.nil ?_
          refine JE.weak (env' := [(1, ptrAt (some ⟨g1, 0, none⟩) 0), (4, .slice a25 x23.length cp26), (5, .slice a8 x7.length x7.length), (8, .slice a54 x53.length cp55), (24, .int .i64 x16), (25, .int .i64 x22), (61, .agg #[.int .i64 x42.At.X, .int .i64 x42.At.Y, .int .i64 x42.DX, .int .i64 x42.DY])]) (es' := [boxO 26 g1 [.int .i64 q0.W, .int .i64 q0.H, .slice a_0_2 q0.Breaks.length c_0_2], rowT 102 eHd a25 x23.length cp26 hs27, innO 104 eSWalker none hs27 x23, rowT 2 eI64 a8 x7.length x7.length (x40.set (x49).toNat ((x23.length : Nat) : Int)), rowT 104 eSWalker a54 x53.length cp55 x53]) [0, 1, 2, 3, 4] ?_ ⟨rfl, rfl, rfl, rfl, rfl, rfl, rfl, trivial⟩ (by decide) rfl
          refine JE.code ?_
          refine JX.region ?_
          refine JL.eff (ef_alloc i104 i104z rfl) rfl ?_
          rintro _ _ ⟨g56, rfl, rfl⟩
          refine JL.eff (ef_store_box (i := 5) (v := .agg #[.int .i64 x42.At.X, .int .i64 x42.At.Y, .int .i64 x42.DX, .int .i64 x42.DY]) i104 rfl rfl rfl (i104s).symm (Nat.le_of_ble_eq_true rfl) (by simp [Value.cells, Value.oneCell'])) rfl ?_
          rintro _ _ rfl
          refine JL.nil ?_
          refine JE.code ?_
          refine JX.region ?_
          refine JL.val (yl_loadn Go.Proofs.Try.underlying26 rfl i26 rfl (fun w hC => rd_box hC 0 rfl) rfl (i26s).symm i26p) rfl ?_
          refine JL.val (yl_loadn Go.Proofs.Try.underlying104 rfl i104 rfl (fun w hC => rd_box hC 5 rfl) rfl (i104s).symm i104p) rfl ?_
          obtain ⟨x58, hx58, hres⟩ := bind_some hres
          refine JL.eff (ef_call (vs := [.agg #[.int .i64 q0.W, .int .i64 q0.H, .slice a_0_2 q0.Breaks.length c_0_2], .agg #[.int .i64 x42.At.X, .int .i64 x42.At.Y, .int .i64 x42.DX, .int .i64 x42.DY]]) (T := T178 x58) Go.Proofs.Try.func178 rfl (by kernel_rfl) rfl (fun w hC => c178 (q0 := q0) (q1 := x42) (rd_arg g_0_2 hC) rfl k_0_2 hx58)) rfl ?_
          rintro _ _ ⟨_, ⟨rfl, rfl⟩, rfl⟩
          refine JL.val (yl_move rfl) rfl ?_
          refine JL.val (yl_extract rfl rfl) rfl ?_
          refine JL.val (yl_extract rfl rfl) rfl ?_
          refine JL.eff (ef_store_box (i := 5) (v := .agg #[.int .i64 x58.1.At.X, .int .i64 x58.1.At.Y, .int .i64 x58.1.DX, .int .i64 x58.1.DY]) i104 rfl rfl rfl (i104s).symm (Nat.le_of_ble_eq_true rfl) (by simp [Value.cells, Value.oneCell'])) rfl ?_
          rintro _ _ rfl
          refine JL.nil ?_
          refine JE.weak (env' := [(1, ptrAt (some ⟨g1, 0, none⟩) 0), (4, .slice a25 x23.length cp26), (5, .slice a8 x7.length x7.length), (8, .slice a54 x53.length cp55), (9, ptrAt (some ⟨g56, 0, none⟩) 0), (24, .int .i64 x16), (25, .int .i64 x22)]) (es' := [boxO 26 g1 [.int .i64 q0.W, .int .i64 q0.H, .slice a_0_2 q0.Breaks.length c_0_2], rowT 102 eHd a25 x23.length cp26 hs27, innO 104 eSWalker none hs27 x23, rowT 2 eI64 a8 x7.length x7.length (x40.set (x49).toNat ((x23.length : Nat) : Int)), rowT 104 eSWalker a54 x53.length cp55 x53, boxO 104 g56 [.int .i64 x58.1.At.X, .int .i64 x58.1.At.Y, .int .i64 x58.1.DX, .int .i64 x58.1.DY]]) [0, 1, 2, 3, 4, 5] ?_ ⟨rfl, rfl, rfl, rfl, rfl, rfl, rfl, trivial⟩ (by decide) rfl
          refine JE.cont hres ?_
          exact fun a w h => ⟨(List.length_set.trans l43), a54, cp55, g56, h.weak ⟨rfl, rfl, rfl, rfl, rfl, rfl, rfl, trivial⟩ [0, 1, 2, 3, 4, 5] (by decide) rfl⟩
        · refine JX.condF rfl hb ?_
          refine JX.exit ?_
          refine JE.qb rfl ?_
          obtain ⟨b3, hb3⟩ : ∃ b : List Int × List SWalker, b = (x40, x41) := ⟨_, rfl⟩
          have hy3 : b3 = y3 := by rw [hb3]; exact hox3 _ (Option.some.inj hres).symm
          have hres := hresO3
          rw [← hy3] at hres
          have l59 : b3.1.length = x7.length := by subst hb3; exact l43
          refine JE.weak (env' := [(1, ptrAt (some ⟨g1, 0, none⟩) 0), (4, .slice a25 x23.length cp26), (5, .slice a8 x7.length x7.length), (8, .slice a44 b3.2.length cp45), (24, .int .i64 x16), (25, .int .i64 x22)]) (es' := [boxO 26 g1 [.int .i64 q0.W, .int .i64 q0.H, .slice a_0_2 q0.Breaks.length c_0_2], rowT 102 eHd a25 x23.length cp26 hs27, innO 104 eSWalker none hs27 x23, rowT 2 eI64 a8 x7.length x7.length b3.1, rowT 104 eSWalker a44 b3.2.length cp45 b3.2]) [0, 1, 2, 3, 4] ?_ ⟨(by subst hb3; rfl), (by subst hb3; rfl), (by subst hb3; rfl), (by subst hb3; rfl), (by subst hb3; rfl), (by subst hb3; rfl), trivial⟩ (by decide) (by subst hb3; rfl)
          refine JE.code ?_
          refine JX.region ?_
          refine JL.val (yl_move rfl) rfl ?_
          refine JL.val (yl_move rfl) rfl ?_
          refine JL.eff (ef_buildSlice (E := 102) (k := eHd.k) (us := eHd.fl [⟨a44, b3.2.length, cp45⟩]) rfl (fun w => bsl99_1 a44 b3.2.length cp45 w) rfl (by decide)) rfl ?_
          rintro _ _ ⟨a62, rfl, rfl⟩
          obtain ⟨x64, hx64, hres⟩ := bind_some hres
          refine JL.eff (ef_appendH (ix := 1) Go.Proofs.Try.underlying99 i102 i102z i102s rfl i102b0 i102b1 rfl rfl (Inn.len hi28) rfl rfl (fun w hC => rd_row hC 5 rfl) hx64 hi28) rfl ?_
          rintro _ _ ⟨a65, cp66, rfl, rfl⟩
          refine JL.absorb (es' := [boxO 26 g1 [.int .i64 q0.W, .int .i64 q0.H, .slice a_0_2 q0.Breaks.length c_0_2], rowT 102 eHd a65 x64.length cp66 (hs27 ++ [⟨a44, b3.2.length, cp45⟩]), rowT 2 eI64 a8 x7.length x7.length b3.1, rowT 102 eHd a62 1 1 [⟨a44, b3.2.length, cp45⟩]]) [0, 1, 3, 5, 2, 4] (by decide) rfl (appL_some hx64).2 ?_
          refine JL.val (yl_assign rfl) rfl ?_
          refine JL.nil ?_
          refine JE.weak (env' := [(1, ptrAt (some ⟨g1, 0, none⟩) 0), (4, .slice a65 x64.length cp66), (5, .slice a8 x7.length x7.length), (24, .int .i64 x16), (25, .int .i64 x22)]) (es' := [boxO 26 g1 [.int .i64 q0.W, .int .i64 q0.H, .slice a_0_2 q0.Breaks.length c_0_2], rowT 102 eHd a65 x64.length cp66 (hs27 ++ [⟨a44, b3.2.length, cp45⟩]), innO 104 eSWalker none (hs27 ++ [⟨a44, b3.2.length, cp45⟩]) x64, rowT 2 eI64 a8 x7.length x7.length b3.1]) [0, 1, 4, 2] ?_ ⟨rfl, rfl, rfl, rfl, rfl, trivial⟩ (by decide) rfl
          refine JE.code ?_
          refine JX.region ?_
          refine JL.val (yl_add rfl rfl) rfl ?_
          refine JL.val (yl_move rfl) rfl ?_
          refine JL.nil ?_
          refine JE.cont hres ?_
          exact fun a w h => ⟨a65, cp66, hs27 ++ [⟨a44, b3.2.length, cp45⟩], (Inn.appZ hi28 rfl (appL_some hx64).2), l59, h.weak ⟨rfl, (by first | rfl | (simp only [List.length_set, l59]; rfl) | simp only [List.length_set, l59]), rfl, rfl, rfl, trivial⟩ [0, 1, 2, 3] (by decide) (by first | rfl | (simp only [List.length_set, l59]; rfl) | simp only [List.length_set, l59])⟩
    · refine JX.condF rfl hb ?_
      refine JX.exit ?_
      refine JE.qb rfl ?_
      obtain ⟨b2, hb2⟩ : ∃ b : List (List SWalker) × List Int, b = (x23, x24) := ⟨_, rfl⟩
      have hy2 : b2 = y2 := by rw [hb2]; exact hox2 _ (Option.some.inj hres).symm
      have hres := hresO2
      rw [← hy2] at hres
      have hi70 : Inn hs27 b2.1 := by subst hb2; exact hi28
      have l71 : b2.2.length = x7.length := by subst hb2; exact l29
      refine JE.weak (env' := [(4, .slice a25 b2.1.length cp26), (5, .slice a8 x7.length x7.length)]) (es' := [rowT 102 eHd a25 b2.1.length cp26 hs27, innO 104 eSWalker none hs27 b2.1, rowT 2 eI64 a8 x7.length x7.length b2.2]) [1, 2, 3] ?_ ⟨(by subst hb2; first | rfl | (simp only [List.length_set, l29]; rfl) | simp only [List.length_set, l29]), (by subst hb2; rfl), trivial⟩ (by decide) (by subst hb2; first | rfl | (simp only [List.length_set, l29]; rfl) | simp only [List.length_set, l29])
      refine JE.code ?_
      refine JX.seq ?_
      refine JX.region ?_
      refine JL.val (yl_move rfl) rfl ?_
      refine JL.val (yl_move rfl) rfl ?_
      refine JL.val (yl_assign rfl) rfl ?_
      refine JL.val (yl_assign rfl) rfl ?_
      refine JL.nil ?_
      refine JE.weak (env' := [(2, .slice a25 b2.1.length cp26), (3, .slice a8 x7.length x7.length)]) (es' := [rowT 102 eHd a25 b2.1.length cp26 hs27, innO 104 eSWalker none hs27 b2.1, rowT 2 eI64 a8 x7.length x7.length b2.2]) [0, 1, 2] ?_ ⟨rfl, rfl, trivial⟩ (by decide) rfl
      refine JE.code ?_
      refine JX.ret ?_
      obtain rfl := Option.some.inj hres
      refine JE.ret (rs := [.tmp 2, .tmp 3]) (vs := [.slice a25 b2.1.length cp26, .slice a8 x7.length x7.length]) rfl ⟨rfl, rfl, trivial⟩ ?_
      exact fun w' hb hs => ⟨_, _, ⟨a25, b2.1.length, cp26, hs27, rfl, hi70, a8, x7.length, x7.length, l71, rfl, rfl⟩, rfl, hb, hs.sel [0, 1, 2] _ (by decide) rfl⟩

/- impl.countCurves -/
def sh174 (q0 : SPanel) : Option (Int) := Option.bind (sh97 q0) fun x3 => some ((x3.1.length : Nat) : Int)
def T174 (r : Int) (v : Value) (rs : List Own) : Prop := v = rets [.int .i64 r] ∧ rs = []
set_option maxRecDepth 100000 in
theorem c174 {w : World} {q0 : SPanel} {a_0_2 : Option Addr} {n_0_2 c_0_2 : Nat} (g_0_2 : Rd w a_0_2 (eI64.fl q0.Breaks)) (l_0_2 : q0.Breaks.length = n_0_2) (k_0_2 : n_0_2 ≤ c_0_2) {r : Int} (hres : sh174 q0 = some r) : Calls Go.Proofs.Try.prog 174 [.agg #[.int .i64 q0.W, .int .i64 q0.H, .slice a_0_2 n_0_2 c_0_2]].toArray w (Ret w (T174 r)) := by
  subst l_0_2
  unfold sh174 at hres
  refine calls_of (n := 12) (M := []) (es := []) Go.Proofs.Try.func174 rfl rfl rfl (Sep.nil _ _ _) ?_
  refine JX.seq ?_
  refine JX.region ?_
  refine JL.eff (ef_box rfl rfl) rfl ?_
  rintro _ _ ⟨g1, rfl, rfl⟩
  refine JL.val (yl_assign rfl) rfl ?_
  refine JL.nil ?_
  refine JE.code ?_
  refine JX.seq ?_
  refine JX.region ?_
  refine JL.val (yl_loadn Go.Proofs.Try.underlying26 rfl i26 rfl (fun w hC => rd_box hC 0 rfl) rfl (i26s).symm i26p) rfl ?_
  obtain ⟨x3, hx3, hres⟩ := bind_some hres
  refine JL.eff (ef_call (vs := [.agg #[.int .i64 q0.W, .int .i64 q0.H, .slice a_0_2 q0.Breaks.length c_0_2]]) (T := T97 x3) Go.Proofs.Try.func97 rfl (by kernel_rfl) rfl (fun w hC => c97 (q0 := q0) (rd_arg g_0_2 hC) rfl k_0_2 hx3)) rfl ?_
  rintro _ _ ⟨_, ⟨a4, _, cp5, hs7, rfl, hi8, a10, _, cp11, rfl, rfl, rfl⟩, rfl⟩
  refine JL.val (yl_move rfl) rfl ?_
  refine JL.val (yl_extract rfl rfl) rfl ?_
  refine JL.val (yl_extract rfl rfl) rfl ?_
  refine JL.val (yl_assign rfl) rfl ?_
  refine JL.val (yl_assign rfl) rfl ?_
  refine JL.nil ?_
  refine JE.weak (env' := [(3, .slice a4 x3.1.length cp5)]) (es' := [rowT 102 eHd a4 x3.1.length cp5 hs7, innO 104 eSWalker none hs7 x3.1]) [1, 2] ?_ ⟨rfl, trivial⟩ (by decide) rfl
  refine JE.code ?_
  refine JX.seq ?_
  refine JX.region ?_
  refine JL.val (yl_move rfl) rfl ?_
  refine JL.val (yl_len_slice Go.Proofs.Try.underlying99 rfl) rfl ?_
  refine JL.val (yl_assign rfl) rfl ?_
  refine JL.nil ?_
  refine JE.weak (env' := [(2, .int .i64 ((x3.1.length : Nat) : Int))]) (es' := []) [] ?_ ⟨rfl, trivial⟩ (by decide) rfl
  refine JE.code ?_
  refine JX.ret ?_
  obtain rfl := Option.some.inj hres
  refine JE.ret (rs := [.tmp 2]) (vs := [.int .i64 ((x3.1.length : Nat) : Int)]) rfl ⟨rfl, trivial⟩ ?_
  exact fun w' hb hs => ⟨_, _, ⟨rfl, rfl⟩, rfl, hb, hs.sel [] _ (by decide) rfl⟩

/- impl.curveCode -/
def sh95_1 (q0 : SPanel) (q1 : List Int) : Int → Option (Int ⊕ (Unit ⊕ Int))
  | x4 => bif decide (x4 < (q1.length : Int)) then (Option.bind (getI q1 x4) fun x5 => Option.bind (sh174 q0) fun x6 => Option.bind (sh107 x5 0 (w64 (x6 - 1))) fun x7 => bif !x7 then (some (.inr (.inr 2))) else (some (.inl (w64 (x4 + 1))))) else (some (.inr (.inl ())))
def sh95 (q0 : SPanel) (q1 : List Int) : Option (Int) := Option.bind (sh128 q0) fun x3 => bif !x3 then (some 1) else (Option.bind (iter (sh95_1 q0 q1) 0) fun y1 => elimS y1 (fun r => some r) fun b1 => (some 0))
def T95 (r : Int) (v : Value) (rs : List Own) : Prop := v = rets [.int .i64 r] ∧ rs = []
set_option maxRecDepth 100000 in
theorem c95 {w : World} {q0 : SPanel} {a_0_2 : Option Addr} {n_0_2 c_0_2 : Nat} (g_0_2 : Rd w a_0_2 (eI64.fl q0.Breaks)) (l_0_2 : q0.Breaks.length = n_0_2) (k_0_2 : n_0_2 ≤ c_0_2) {q1 : List Int} {a_1 : Option Addr} {n_1 c_1 : Nat} (g_1 : Rd w a_1 (eI64.fl q1)) (l_1 : q1.length = n_1) (k_1 : n_1 ≤ c_1) {r : Int} (hres : sh95 q0 q1 = some r) : Calls Go.Proofs.Try.prog 95 [.agg #[.int .i64 q0.W, .int .i64 q0.H, .slice a_0_2 n_0_2 c_0_2], .slice a_1 n_1 c_1].toArray w (Ret w (T95 r)) := by
  subst l_0_2
  subst l_1
  unfold sh95 at hres
  refine calls_of (n := 23) (M := []) (es := []) Go.Proofs.Try.func95 rfl rfl rfl (Sep.nil _ _ _) ?_
  refine JX.seq ?_
  refine JX.region ?_
  refine JL.eff (ef_box rfl rfl) rfl ?_
  rintro _ _ ⟨g1, rfl, rfl⟩
  refine JL.val (yl_assign rfl) rfl ?_
  refine JL.nil ?_
  refine JE.code ?_
  refine JX.seq ?_
  refine JX.seq ?_
  refine JX.region ?_
  refine JL.val (yl_loadn Go.Proofs.Try.underlying26 rfl i26 rfl (fun w hC => rd_box hC 0 rfl) rfl (i26s).symm i26p) rfl ?_
  obtain ⟨x3, hx3, hres⟩ := bind_some hres
  refine JL.eff (ef_call (vs := [.agg #[.int .i64 q0.W, .int .i64 q0.H, .slice a_0_2 q0.Breaks.length c_0_2]]) (T := T128 x3) Go.Proofs.Try.func128 rfl (by kernel_rfl) rfl (fun w hC => c128 (q0 := q0) (rd_arg g_0_2 hC) rfl k_0_2 hx3)) rfl ?_
  rintro _ _ ⟨_, ⟨rfl, rfl⟩, rfl⟩
  refine JL.val (yl_not rfl) rfl ?_
  refine JL.nil ?_
  refine JE.code ?_
  rcases cond_some hres with ⟨hb, hres⟩ | ⟨hb, hres⟩
  · refine JX.condT rfl hb ?_
    refine JX.seq ?_
    refine JX.region ?_
    refine JL.val (yl_assign rfl) rfl ?_
    refine JL.nil ?_
    refine JE.weak (env' := [(4, .int .i64 1)]) (es' := []) [] ?_ ⟨rfl, trivial⟩ (by decide) rfl
    refine JE.code ?_
    refine JX.ret ?_
    obtain rfl := Option.some.inj hres
    refine JE.ret (rs := [.tmp 4]) (vs := [.int .i64 1]) rfl ⟨rfl, trivial⟩ ?_
    exact fun w' hb hs => ⟨_, _, ⟨rfl, rfl⟩, rfl, hb, hs.sel [] _ (by decide) rfl⟩
  · refine JX.condF rfl hb ?_
    refine JX.skip ?_
    refine JE.code ?_
    refine JX.seq ?_
    refine JX.seq ?_
    refine JX.region ?_
    refine JL.val (yl_move rfl) rfl ?_
    refine JL.val (yl_len_slice Go.Proofs.Try.underlying24 rfl) rfl ?_
    refine JL.val (yl_move rfl) rfl ?_
    refine JL.nil ?_
    refine JE.code ?_
    refine JX.block ?_
    obtain ⟨y1, hy1, hresO1⟩ := bind_some hres
    refine JX.loop (I := fun (s1 : Int) aa ww => St w [] 23 [(2, ptrAt (some ⟨g1, 0, none⟩) 0), (10, .slice a_1 q1.length c_1), (11, .int .i64 (q1.length : Int)), (12, .int .i64 s1)] [boxO 26 g1 [.int .i64 q0.W, .int .i64 q0.H, .slice a_0_2 q0.Breaks.length c_0_2]] aa ww) (sh95_1 q0 q1) hy1 (fun a w h => h.weak ⟨rfl, rfl, rfl, rfl, trivial⟩ [0] (by decide) rfl) ?_
    rintro x4 o1 hres hox1 aa ww hS
    refine (?_ : JX Go.Proofs.Try.prog w [] 23 _ _ [(2, ptrAt (some ⟨g1, 0, none⟩) 0), (10, .slice a_1 q1.length c_1), (11, .int .i64 (q1.length : Int)), (12, .int .i64 x4)] [boxO 26 g1 [.int .i64 q0.W, .int .i64 q0.H, .slice a_0_2 q0.Breaks.length c_0_2]] _) aa ww hS
    clear hS
    unfold sh95_1 at hres
    refine JX.seq ?_
    refine JX.region ?_
    refine JL.val (yl_lss rfl rfl) rfl ?_
    refine JL.nil ?_
    refine JE.code ?_
    refine JX.seq ?_
    rcases cond_some hres with ⟨hb, hres⟩ | ⟨hb, hres⟩
    · refine JX.condT rfl hb ?_
      refine JX.skip ?_
      refine JE.code ?_
      refine JX.seq ?_
      refine JX.block ?_
      refine JX.seq ?_
      refine JX.region ?_
      obtain ⟨x5, hx5, hres⟩ := bind_some hres
      refine JL.val (yl_idxT Go.Proofs.Try.underlying24 i2 i2s rfl rfl hx5 rfl (fun w hC => rd_arg g_1 hC)) rfl ?_
      refine JL.val (yl_loadT0 Go.Proofs.Try.underlying2 rfl rfl hx5 (fun w hC => rd_arg g_1 hC) rfl) rfl ?_
      refine JL.val (yl_assign rfl) rfl ?_
      refine JL.nil ?_
      refine JE.code ?_
      refine JX.seq ?_
      refine JX.region ?_
      refine JL.val (yl_move rfl) rfl ?_
      refine JL.val (yl_loadn Go.Proofs.Try.underlying26 rfl i26 rfl (fun w hC => rd_box hC 0 rfl) rfl (i26s).symm i26p) rfl ?_
      obtain ⟨x6, hx6, hres⟩ := bind_some hres
      refine JL.eff (ef_call (vs := [.agg #[.int .i64 q0.W, .int .i64 q0.H, .slice a_0_2 q0.Breaks.length c_0_2]]) (T := T174 x6) Go.Proofs.Try.func174 rfl (by kernel_rfl) rfl (fun w hC => c174 (q0 := q0) (rd_arg g_0_2 hC) rfl k_0_2 hx6)) rfl ?_
      rintro _ _ ⟨_, ⟨rfl, rfl⟩, rfl⟩
      refine JL.val (yl_sub rfl rfl) rfl ?_
      obtain ⟨x7, hx7, hres⟩ := bind_some hres
      refine JL.eff (ef_call (T := T107 x7) Go.Proofs.Try.func107 rfl (by kernel_rfl) rfl (fun w hC => c107  hx7)) rfl ?_
      rintro _ _ ⟨_, ⟨rfl, rfl⟩, rfl⟩
      refine JL.val (yl_not rfl) rfl ?_
      refine JL.nil ?_
      refine JE.weak (env' := [(2, ptrAt (some ⟨g1, 0, none⟩) 0), (10, .slice a_1 q1.length c_1), (11, .int .i64 (q1.length : Int)), (12, .int .i64 x4), (21, .bool !x7)]) (es' := [boxO 26 g1 [.int .i64 q0.W, .int .i64 q0.H, .slice a_0_2 q0.Breaks.length c_0_2]]) [0] ?_ ⟨rfl, rfl, rfl, rfl, rfl, trivial⟩ (by decide) rfl
      refine JE.code ?_
      rcases cond_some hres with ⟨hb, hres⟩ | ⟨hb, hres⟩
      · refine JX.condT rfl hb ?_
        refine JX.seq ?_
        refine JX.region ?_
        refine JL.val (yl_assign rfl) rfl ?_
        refine JL.nil ?_
        refine JE.weak (env' := [(4, .int .i64 2)]) (es' := []) [] ?_ ⟨rfl, trivial⟩ (by decide) rfl
        refine JE.code ?_
        refine JX.ret ?_
        refine JE.qbr ?_
        refine JE.qbr ?_
        have hres := elimS_inr hresO1 (hox1 _ (Option.some.inj hres).symm)
        obtain rfl := Option.some.inj hres
        refine JE.ret (rs := [.tmp 4]) (vs := [.int .i64 2]) rfl ⟨rfl, trivial⟩ ?_
        exact fun w' hb hs => ⟨_, _, ⟨rfl, rfl⟩, rfl, hb, hs.sel [] _ (by decide) rfl⟩
      · refine JX.condF rfl hb ?_
        refine JX.skip ?_
        refine JE.code ?_
        refine JX.region ?_
        refine JL.val (yl_add rfl rfl) rfl ?_
        refine JL.val (yl_move rfl) rfl ?_
        refine JL.nil ?_
        refine JE.cont hres ?_
        exact fun a w h => h.weak ⟨rfl, rfl, rfl, rfl, trivial⟩ [0] (by decide) rfl
    · refine JX.condF rfl hb ?_
      refine JX.exit ?_
      refine JE.qb rfl ?_
      obtain ⟨b1, hb1⟩ : ∃ b : Unit, b = () := ⟨_, rfl⟩
      have hy1 : Sum.inl b1 = y1 := by rw [hb1]; exact hox1 _ (Option.some.inj hres).symm
      have hres := elimS_inl hresO1 hy1
      refine JE.weak (env' := []) (es' := []) [] ?_ trivial (by decide) (by subst hb1; rfl)
      refine JE.code ?_
      refine JX.seq ?_
      refine JX.region ?_
      refine JL.val (yl_assign rfl) rfl ?_
      refine JL.nil ?_
      refine JE.code ?_
      refine JX.ret ?_
      obtain rfl := Option.some.inj hres
      refine JE.ret (rs := [.tmp 4]) (vs := [.int .i64 0]) rfl ⟨rfl, trivial⟩ ?_
      exact fun w' hb hs => ⟨_, _, ⟨rfl, rfl⟩, rfl, hb, hs.sel [] _ (by decide) rfl⟩

/- impl.validUnit -/
def sh96 (q0 : Int) : Option (Bool) := Option.bind (sh107 q0 1 1000) fun x1 => some x1
def T96 (r : Bool) (v : Value) (rs : List Own) : Prop := v = rets [.bool r] ∧ rs = []
set_option maxRecDepth 100000 in
theorem c96 {w : World} {q0 : Int} {r : Bool} (hres : sh96 q0 = some r) : Calls Go.Proofs.Try.prog 96 [.int .i64 q0].toArray w (Ret w (T96 r)) := by
  unfold sh96 at hres
  refine calls_of (n := 5) (M := []) (es := []) Go.Proofs.Try.func96 rfl rfl rfl (Sep.nil _ _ _) ?_
  refine JX.seq ?_
  refine JX.region ?_
  refine JL.val (yl_assign rfl) rfl ?_
  refine JL.nil ?_
  refine JE.code ?_
  refine JX.seq ?_
  refine JX.region ?_
  refine JL.val (yl_move rfl) rfl ?_
  obtain ⟨x1, hx1, hres⟩ := bind_some hres
  refine JL.eff (ef_call (T := T107 x1) Go.Proofs.Try.func107 rfl (by kernel_rfl) rfl (fun w hC => c107  hx1)) rfl ?_
  rintro _ _ ⟨_, ⟨rfl, rfl⟩, rfl⟩
  refine JL.val (yl_assign rfl) rfl ?_
  refine JL.nil ?_
  refine JE.code ?_
  refine JX.ret ?_
  obtain rfl := Option.some.inj hres
  refine JE.ret (rs := [.tmp 2]) (vs := [.bool x1]) rfl ⟨rfl, trivial⟩ ?_
  exact fun w' hb hs => ⟨_, _, ⟨rfl, rfl⟩, rfl, hb, hs.sel [] _ (by decide) rfl⟩

/- impl.BandOf -/
def sh11_1 (q2 : Int) (q3 : Int) (x28 : List SWalker) : (Int × List (List SPoint)) → Option ((Int × List (List SPoint)) ⊕ (List (List SPoint)))
  | (x36, x37) => bif decide (x36 < (x28.length : Int)) then (Option.bind (getI x28 x36) fun x42 => Option.bind (sh98 x42) fun x46 => Option.bind (sh98 x42) fun x946 => Option.bind (appL x37 [[SPoint.mk (w64 ((w64 (x42.At.X * q2)) + (w64 ((w64 (0 - q3)) * x42.DY)))) (w64 ((w64 (x42.At.Y * q2)) + (w64 (q3 * x42.DX)))), SPoint.mk (w64 ((w64 (x46.X * q2)) + (w64 ((w64 (0 - q3)) * x42.DY)))) (w64 ((w64 (x946.Y * q2)) + (w64 (q3 * x42.DX)))), SPoint.mk (w64 ((w64 (x46.X * q2)) - (w64 ((w64 (0 - q3)) * x42.DY)))) (w64 ((w64 (x946.Y * q2)) - (w64 (q3 * x42.DX)))), SPoint.mk (w64 ((w64 (x42.At.X * q2)) - (w64 ((w64 (0 - q3)) * x42.DY)))) (w64 ((w64 (x42.At.Y * q2)) - (w64 (q3 * x42.DX))))]]) fun x2752 => some (.inl (w64 (x36 + 1), x2752))) else (some (.inr x37))
def sh11 (q0 : SPanel) (q1 : Int) (q2 : Int) (q3 : Int) : Option (List (List SPoint) × Int) := Option.bind (sh95 q0 [q1]) fun x5 => bif x5 != 0 then (some (([] : List (List SPoint)), x5)) else (Option.bind (sh96 q2) fun x8 => Option.bind (bif !x8 then (some true) else (Option.bind (sh96 q3) fun x10 => some !x10)) fun cb9 => (bif cb9 then (some (([] : List (List SPoint)), 2)) else (bif decide (q2 < (w64 (2 * q3))) then (some (([] : List (List SPoint)), 6)) else (Option.bind (sh97 q0) fun x18 => Option.bind (getI x18.1 q1) fun x28 => Option.bind (iter (sh11_1 q2 q3 x28) (0, ([] : List (List SPoint)))) fun b1 => (some (b1, 0))))))
def T11 (r : List (List SPoint) × Int) (v : Value) (rs : List Own) : Prop := ∃ (a0 : Option Addr) (n0 c0 : Nat) (h0 : List Hd), r.1.length = n0 ∧ Inn h0 r.1 ∧ v = rets [.slice a0 n0 c0, .int .i64 r.2] ∧ rs = [rowT 34 eHd a0 n0 c0 h0, innO 42 eSPoint none h0 r.1]
set_option maxRecDepth 100000 in
set_option maxHeartbeats 1000000 in
theorem c11 {w : World} {q0 : SPanel} {a_0_2 : Option Addr} {n_0_2 c_0_2 : Nat} (g_0_2 : Rd w a_0_2 (eI64.fl q0.Breaks)) (l_0_2 : q0.Breaks.length = n_0_2) (k_0_2 : n_0_2 ≤ c_0_2) {q1 : Int} {q2 : Int} {q3 : Int} {r : List (List SPoint) × Int} (hres : sh11 q0 q1 q2 q3 = some r) : Calls Go.Proofs.Try.prog 11 [.agg #[.int .i64 q0.W, .int .i64 q0.H, .slice a_0_2 n_0_2 c_0_2], .int .i64 q1, .int .i64 q2, .int .i64 q3].toArray w (Ret w (T11 r)) := by
  subst l_0_2
  unfold sh11 at hres
  refine calls_of (n := 135) (M := []) (es := []) Go.Proofs.Try.func11 rfl rfl rfl (Sep.nil _ _ _) ?_
  refine JX.seq ?_
  refine JX.region ?_
  refine JL.eff (ef_box rfl rfl) rfl ?_
  rintro _ _ ⟨g1, rfl, rfl⟩
  refine JL.val (yl_assign rfl) rfl ?_
  refine JL.val (yl_assign rfl) rfl ?_
  refine JL.nil ?_
  refine JE.code ?_
  refine JX.seq ?_
  refine JX.seq ?_
  refine JX.region ?_
  refine JL.val (yl_loadn Go.Proofs.Try.underlying26 rfl i26 rfl (fun w hC => rd_box hC 0 rfl) rfl (i26s).symm i26p) rfl ?_
  refine JL.val (yl_move rfl) rfl ?_
  refine JL.eff (ef_buildSlice (E := 2) (k := eI64.k) (us := eI64.fl [q1]) rfl (fun w => bsl24_1 q1 w) rfl (by decide)) rfl ?_
  rintro _ _ ⟨a3, rfl, rfl⟩
  obtain ⟨x5, hx5, hres⟩ := bind_some hres
  refine JL.eff (ef_call (vs := [.agg #[.int .i64 q0.W, .int .i64 q0.H, .slice a_0_2 q0.Breaks.length c_0_2], .slice a3 1 1]) (T := T95 x5) Go.Proofs.Try.func95 rfl (by kernel_rfl) rfl (fun w hC => c95 (q0 := q0) (rd_arg g_0_2 hC) rfl k_0_2 (rd_row hC 1 rfl) rfl (Nat.le_refl _) hx5)) rfl ?_
  rintro _ _ ⟨_, ⟨rfl, rfl⟩, rfl⟩
  refine JL.val (yl_assign rfl) rfl ?_
  refine JL.nil ?_
  refine JE.weak (env' := [(1, .int .i64 q1), (2, .int .i64 q2), (3, .int .i64 q3), (4, ptrAt (some ⟨g1, 0, none⟩) 0), (10, .int .i64 x5)]) (es' := [boxO 26 g1 [.int .i64 q0.W, .int .i64 q0.H, .slice a_0_2 q0.Breaks.length c_0_2]]) [0] ?_ ⟨rfl, rfl, rfl, rfl, rfl, trivial⟩ (by decide) rfl
  refine JE.code ?_
  refine JX.seq ?_
  refine JX.region ?_
  refine JL.val (yl_move rfl) rfl ?_
  refine JL.val (yl_neq rfl rfl) rfl ?_
  refine JL.nil ?_
  refine JE.code ?_
  rcases cond_some hres with ⟨hb, hres⟩ | ⟨hb, hres⟩
  · refine JX.condT rfl hb ?_
    refine JX.seq ?_
    refine JX.region ?_
    refine JL.val (yl_move rfl) rfl ?_
    refine JL.val (yl_assign rfl) rfl ?_
    refine JL.val (yl_assign rfl) rfl ?_
    refine JL.nil ?_
    refine JE.weak (env' := [(8, .slice none 0 0), (9, .int .i64 x5)]) (es' := []) [] ?_ ⟨rfl, rfl, trivial⟩ (by decide) rfl
    refine JE.code ?_
    refine JX.ret ?_
    refine JE.nilrow 34 eHd ?_
    refine JE.nilinn 42 eSPoint ?_
    obtain rfl := Option.some.inj hres
    refine JE.ret (rs := [.tmp 8, .tmp 9]) (vs := [.slice none 0 0, .int .i64 x5]) rfl ⟨rfl, rfl, trivial⟩ ?_
    exact fun w' hb hs => ⟨_, _, ⟨none, 0, 0, ([] : List Hd), ((Inn.len (Inn.nil (T := SPoint))).symm.trans rfl), (Inn.nil (T := SPoint)), rfl, rfl⟩, rfl, hb, hs.sel [0, 1] _ (by decide) rfl⟩
  · refine JX.condF rfl hb ?_
    refine JX.skip ?_
    refine JE.code ?_
    refine JX.seq ?_
    refine JX.seq ?_
    refine JX.region ?_
    refine JL.val (yl_move rfl) rfl ?_
    obtain ⟨x8, hx8, hres⟩ := bind_some hres
    refine JL.eff (ef_call (T := T96 x8) Go.Proofs.Try.func96 rfl (by kernel_rfl) rfl (fun w hC => c96  hx8)) rfl ?_
    rintro _ _ ⟨_, ⟨rfl, rfl⟩, rfl⟩
    refine JL.val (yl_not rfl) rfl ?_
    refine JL.val (yl_move rfl) rfl ?_
    obtain ⟨cb9, hcb9, hres⟩ := bind_some hres
    refine JL.cut (K := fun J => J [(1, .int .i64 q1), (2, .int .i64 q2), (3, .int .i64 q3), (4, ptrAt (some ⟨g1, 0, none⟩) 0), (33, .bool cb9)] [boxO 26 g1 [.int .i64 q0.W, .int .i64 q0.H, .slice a_0_2 q0.Breaks.length c_0_2]]) 4 ?_ ?_
    · refine JL.nil ?_
      refine JE.weak (env' := [(1, .int .i64 q1), (2, .int .i64 q2), (3, .int .i64 q3), (4, ptrAt (some ⟨g1, 0, none⟩) 0), (33, .bool cb9)]) (es' := [boxO 26 g1 [.int .i64 q0.W, .int .i64 q0.H, .slice a_0_2 q0.Breaks.length c_0_2]]) [0] ?_ ⟨rfl, rfl, rfl, rfl, rfl, trivial⟩ (by decide) rfl
      refine JE.code ?_
      rcases cond_some hres with ⟨hb, hres⟩ | ⟨hb, hres⟩
      · refine JX.condT rfl hb ?_
        refine JX.seq ?_
        refine JX.region ?_
        refine JL.val (yl_assign rfl) rfl ?_
        refine JL.val (yl_assign rfl) rfl ?_
        refine JL.nil ?_
        refine JE.weak (env' := [(8, .slice none 0 0), (9, .int .i64 2)]) (es' := []) [] ?_ ⟨rfl, rfl, trivial⟩ (by decide) rfl
        refine JE.code ?_
        refine JX.ret ?_
        refine JE.nilrow 34 eHd ?_
        refine JE.nilinn 42 eSPoint ?_
        obtain rfl := Option.some.inj hres
        refine JE.ret (rs := [.tmp 8, .tmp 9]) (vs := [.slice none 0 0, .int .i64 2]) rfl ⟨rfl, rfl, trivial⟩ ?_
        exact fun w' hb hs => ⟨_, _, ⟨none, 0, 0, ([] : List Hd), ((Inn.len (Inn.nil (T := SPoint))).symm.trans rfl), (Inn.nil (T := SPoint)), rfl, rfl⟩, rfl, hb, hs.sel [0, 1] _ (by decide) rfl⟩
      · refine JX.condF rfl hb ?_
        refine JX.skip ?_
        refine JE.code ?_
        refine JX.seq ?_
        refine JX.seq ?_
        refine JX.region ?_
        refine JL.val (yl_move rfl) rfl ?_
        refine JL.val (yl_mul rfl rfl) rfl ?_
        refine JL.val (yl_move rfl) rfl ?_
        refine JL.val (yl_gtr rfl rfl) rfl ?_
        refine JL.nil ?_
        refine JE.weak (env' := [(1, .int .i64 q1), (2, .int .i64 q2), (3, .int .i64 q3), (4, ptrAt (some ⟨g1, 0, none⟩) 0), (37, .bool (decide (q2 < (w64 (2 * q3)))))]) (es' := [boxO 26 g1 [.int .i64 q0.W, .int .i64 q0.H, .slice a_0_2 q0.Breaks.length c_0_2]]) [0] ?_ ⟨rfl, rfl, rfl, rfl, rfl, trivial⟩ (by decide) rfl
        refine JE.code ?_
        rcases cond_some hres with ⟨hb, hres⟩ | ⟨hb, hres⟩
        · refine JX.condT rfl hb ?_
          refine JX.seq ?_
          refine JX.region ?_
          refine JL.val (yl_assign rfl) rfl ?_
          refine JL.val (yl_assign rfl) rfl ?_
          refine JL.nil ?_
          refine JE.weak (env' := [(8, .slice none 0 0), (9, .int .i64 6)]) (es' := []) [] ?_ ⟨rfl, rfl, trivial⟩ (by decide) rfl
          refine JE.code ?_
          refine JX.ret ?_
          refine JE.nilrow 34 eHd ?_
          refine JE.nilinn 42 eSPoint ?_
          obtain rfl := Option.some.inj hres
          refine JE.ret (rs := [.tmp 8, .tmp 9]) (vs := [.slice none 0 0, .int .i64 6]) rfl ⟨rfl, rfl, trivial⟩ ?_
          exact fun w' hb hs => ⟨_, _, ⟨none, 0, 0, ([] : List Hd), ((Inn.len (Inn.nil (T := SPoint))).symm.trans rfl), (Inn.nil (T := SPoint)), rfl, rfl⟩, rfl, hb, hs.sel [0, 1] _ (by decide) rfl⟩
        · refine JX.condF rfl hb ?_
          refine JX.skip ?_
          refine JE.code ?_
          refine JX.seq ?_
          refine JX.region ?_
          refine JL.eff (ef_buildSlice (E := 34) (k := eHd.k) (us := eHd.fl ([] : List Hd)) rfl (fun w => bsl29_0  w) rfl (by decide)) rfl ?_
          rintro _ _ ⟨a15, rfl, rfl⟩
          refine JL.nilinn 42 eSPoint ?_
          refine JL.val (yl_assign rfl) rfl ?_
          refine JL.nil ?_
          refine JE.code ?_
          refine JX.seq ?_
          refine JX.region ?_
          refine JL.val (yl_loadn Go.Proofs.Try.underlying26 rfl i26 rfl (fun w hC => rd_box hC 0 rfl) rfl (i26s).symm i26p) rfl ?_
          obtain ⟨x18, hx18, hres⟩ := bind_some hres
          refine JL.eff (ef_call (vs := [.agg #[.int .i64 q0.W, .int .i64 q0.H, .slice a_0_2 q0.Breaks.length c_0_2]]) (T := T97 x18) Go.Proofs.Try.func97 rfl (by kernel_rfl) rfl (fun w hC => c97 (q0 := q0) (rd_arg g_0_2 hC) rfl k_0_2 hx18)) rfl ?_
          rintro _ _ ⟨_, ⟨a19, _, cp20, hs22, rfl, hi23, a25, _, cp26, rfl, rfl, rfl⟩, rfl⟩
          refine JL.val (yl_move rfl) rfl ?_
          refine JL.val (yl_extract rfl rfl) rfl ?_
          refine JL.val (yl_extract rfl rfl) rfl ?_
          refine JL.val (yl_assign rfl) rfl ?_
          refine JL.val (yl_assign rfl) rfl ?_
          refine JL.nil ?_
          refine JE.weak (env' := [(1, .int .i64 q1), (2, .int .i64 q2), (3, .int .i64 q3), (11, .slice a15 0 0), (12, .slice a19 x18.1.length cp20)]) (es' := [rowT 34 eHd a15 0 0 ([] : List Hd), innO 42 eSPoint none ([] : List Hd) ([] : List (List SPoint)), rowT 102 eHd a19 x18.1.length cp20 hs22, innO 104 eSWalker none hs22 x18.1]) [1, 2, 3, 4] ?_ ⟨rfl, rfl, rfl, rfl, rfl, trivial⟩ (by decide) rfl
          refine JE.code ?_
          refine JX.seq ?_
          refine JX.seq ?_
          refine JX.region ?_
          refine JL.val (yl_move rfl) rfl ?_
          refine JL.val (yl_move rfl) rfl ?_
          obtain ⟨x28, hx28, hres⟩ := bind_some hres
          obtain ⟨ha29, hc30, hhx28⟩ := Inn.sub hi23 hx28
          refine JL.val (yl_idxT Go.Proofs.Try.underlying99 i102 i102s rfl rfl hhx28 (Inn.len hi23) (fun w hC => rd_row hC 2 rfl)) rfl ?_
          refine JL.val (yl_loadT0 (z := ⟨ha29, x28.length, hc30⟩) Go.Proofs.Try.underlying102 rfl rfl hhx28 (fun w hC => rd_row hC 2 rfl) rfl) rfl ?_
          refine JL.val (yl_len_slice Go.Proofs.Try.underlying102 rfl) rfl ?_
          refine JL.val (yl_move rfl) rfl ?_
          refine JL.nil ?_
          refine JE.weak (env' := [(2, .int .i64 q2), (3, .int .i64 q3), (11, .slice a15 0 0), (47, .slice ha29 x28.length hc30), (48, .int .i64 (x28.length : Int)), (49, .int .i64 0)]) (es' := [rowT 34 eHd a15 0 0 ([] : List Hd), innO 42 eSPoint none ([] : List Hd) ([] : List (List SPoint)), rowT 102 eHd a19 x18.1.length cp20 hs22, innO 104 eSWalker none hs22 x18.1]) [0, 1, 2, 3] ?_ ⟨rfl, rfl, rfl, rfl, rfl, rfl, trivial⟩ (by decide) rfl
          refine JE.code ?_
          refine JX.block ?_
          obtain ⟨y1, hy1, hresO1⟩ := bind_some hres
          refine JX.loop (I := fun (s1 : Int × List (List SPoint)) aa ww => ∃ (a32 : Option Addr) (cp33 : Nat) (hs34 : List Hd) (hi35 : Inn hs34 s1.2), St w [] 135 [(2, .int .i64 q2), (3, .int .i64 q3), (11, .slice a32 s1.2.length cp33), (47, .slice ha29 x28.length hc30), (48, .int .i64 (x28.length : Int)), (49, .int .i64 s1.1)] [rowT 34 eHd a32 s1.2.length cp33 hs34, innO 42 eSPoint none hs34 s1.2, rowT 102 eHd a19 x18.1.length cp20 hs22, innO 104 eSWalker none hs22 x18.1] aa ww) (sh11_1 q2 q3 x28) hy1 (fun a w h => ⟨a15, 0, ([] : List Hd), (Inn.nil (T := SPoint)), h.weak ⟨rfl, rfl, rfl, rfl, rfl, rfl, trivial⟩ [0, 1, 2, 3] (by decide) rfl⟩) ?_
          rintro ⟨x36, x37⟩ o1 hres hox1 aa ww ⟨a38, cp39, hs40, hi41, hS⟩
          refine (?_ : JX Go.Proofs.Try.prog w [] 135 _ _ [(2, .int .i64 q2), (3, .int .i64 q3), (11, .slice a38 x37.length cp39), (47, .slice ha29 x28.length hc30), (48, .int .i64 (x28.length : Int)), (49, .int .i64 x36)] [rowT 34 eHd a38 x37.length cp39 hs40, innO 42 eSPoint none hs40 x37, rowT 102 eHd a19 x18.1.length cp20 hs22, innO 104 eSWalker none hs22 x18.1] _) aa ww hS
          clear hS
          simp only [sh11_1] at hres
          refine JX.seq ?_
          refine JX.region ?_
          refine JL.val (yl_lss rfl rfl) rfl ?_
          refine JL.nil ?_
          refine JE.code ?_
          refine JX.seq ?_
          rcases cond_some hres with ⟨hb, hres⟩ | ⟨hb, hres⟩
          · refine JX.condT rfl hb ?_
            refine JX.skip ?_
            refine JE.code ?_
            refine JX.seq ?_
            refine JX.block ?_
            refine JX.seq ?_
            refine JX.region ?_
            obtain ⟨x42, hx42, hres⟩ := bind_some hres
            refine JL.val (yl_idxT Go.Proofs.Try.underlying102 i104 i104s rfl rfl hx42 rfl (fun w hC => (RdI.sub (rd_inn hC 3 rfl) hx28 hhx28))) rfl ?_
            refine JL.val (yl_loadTn Go.Proofs.Try.underlying104 rfl i104 i104s rfl hx42 (fun w hC => (RdI.sub (rd_inn hC 3 rfl) hx28 hhx28))) rfl ?_
            refine JL.eff (ef_alloc i104 i104z rfl) rfl ?_
            rintro _ _ ⟨g43, rfl, rfl⟩
            refine JL.eff (ef_store_box (i := 4) (v := .agg #[.int .i64 x42.At.X, .int .i64 x42.At.Y, .int .i64 x42.DX, .int .i64 x42.DY]) i104 rfl rfl rfl (i104s).symm (Nat.le_of_ble_eq_true rfl) (by simp [Value.cells, Value.oneCell'])) rfl ?_
            rintro _ _ rfl
            refine JL.nil ?_
            refine JE.weak (env' := [(2, .int .i64 q2), (3, .int .i64 q3), (11, .slice a38 x37.length cp39), (15, ptrAt (some ⟨g43, 0, none⟩) 0), (47, .slice ha29 x28.length hc30), (48, .int .i64 (x28.length : Int)), (49, .int .i64 x36)]) (es' := [rowT 34 eHd a38 x37.length cp39 hs40, innO 42 eSPoint none hs40 x37, boxO 104 g43 [.int .i64 x42.At.X, .int .i64 x42.At.Y, .int .i64 x42.DX, .int .i64 x42.DY], rowT 102 eHd a19 x18.1.length cp20 hs22, innO 104 eSWalker none hs22 x18.1]) [0, 1, 4, 2, 3] ?_ ⟨rfl, rfl, rfl, rfl, rfl, rfl, rfl, trivial⟩ (by decide) rfl
            refine JE.code ?_
            refine JX.seq ?_
            refine JX.drawH [(0, .pure), (1, .pure), (2, .read), (3, .pure), (4, .pure), (5, .pure), (6, .pure), (7, .read), (8, .pure), (9, .pure), (10, .pure), (11, .read), (14, .pure), (16, .read), (19, .pure), (0, .tree (.alt 12 (.pure 13 (.pure 15 (.alt 17 (.pure 18 (.pure 20 (.pure 21 (.alt 22 (.alt 23 .done .nil) (.alt 23 (.alt 22 .done .nil) .nil))))) (.alt 22 (.alt 17 (.pure 18 (.pure 20 (.pure 21 (.alt 23 .done .nil)))) (.alt 23 (.alt 17 (.pure 18 (.pure 20 (.pure 21 .done))) .nil) .nil)) (.alt 23 (.alt 17 (.pure 18 (.pure 20 (.pure 21 (.alt 22 .done .nil)))) (.alt 22 (.alt 17 (.pure 18 (.pure 20 (.pure 21 .done))) .nil) .nil)) .nil))))) (.alt 22 (.alt 12 (.pure 13 (.pure 15 (.alt 17 (.pure 18 (.pure 20 (.pure 21 (.alt 23 .done .nil)))) (.alt 23 (.alt 17 (.pure 18 (.pure 20 (.pure 21 .done))) .nil) .nil)))) (.alt 23 (.alt 12 (.pure 13 (.pure 15 (.alt 17 (.pure 18 (.pure 20 (.pure 21 .done))) .nil))) .nil) .nil)) (.alt 23 (.alt 12 (.pure 13 (.pure 15 (.alt 17 (.pure 18 (.pure 20 (.pure 21 (.alt 22 .done .nil)))) (.alt 22 (.alt 17 (.pure 18 (.pure 20 (.pure 21 .done))) .nil) .nil)))) (.alt 22 (.alt 12 (.pure 13 (.pure 15 (.alt 17 (.pure 18 (.pure 20 (.pure 21 .done))) .nil))) .nil) .nil)) .nil)))), (24, .must), (25, .must)] [24, 25] [] [0, 1, 2, 3, 4] [] [rowT 34 eHd a38 x37.length cp39 hs40, innO 42 eSPoint none hs40 x37, boxO 104 g43 [.int .i64 x42.At.X, .int .i64 x42.At.Y, .int .i64 x42.DX, .int .i64 x42.DY], rowT 102 eHd a19 x18.1.length cp20 hs22, innO 104 eSWalker none hs22 x18.1] mixedP (by kernel_rfl) (by kernel_rfl) (by decide) rfl rfl ?_
            intro wrr45 Nr45 hFr45
            refine JH.pure rfl (yl_fieldAt (a := some _) Go.Proofs.Try.underlying104 rfl i42 i42n rfl rfl) rfl ?_
            refine JH.pure rfl (yl_fieldAt (a := some _) Go.Proofs.Try.underlying42 rfl i2 i2n rfl rfl) rfl ?_
            refine JH.read rfl (yl_load1 Go.Proofs.Try.underlying2 rfl rfl (fun w hw => hFr45.box 2 rfl rfl hw) rfl) rfl ?_
            refine JH.pure rfl (yl_move rfl) rfl ?_
            refine JH.pure rfl (yl_mul rfl rfl) rfl ?_
            refine JH.pure rfl (yl_fieldAt (a := some _) Go.Proofs.Try.underlying104 rfl i42 i42n rfl rfl) rfl ?_
            refine JH.pure rfl (yl_fieldAt (a := some _) Go.Proofs.Try.underlying42 rfl i2 i2n rfl rfl) rfl ?_
            refine JH.read rfl (yl_load1 Go.Proofs.Try.underlying2 rfl rfl (fun w hw => hFr45.box 2 rfl rfl hw) rfl) rfl ?_
            refine JH.pure rfl (yl_move rfl) rfl ?_
            refine JH.pure rfl (yl_mul rfl rfl) rfl ?_
            refine JH.pure rfl (yl_build rfl (fun w => bld42_0_1 (w64 (x42.At.X * q2)) (w64 (x42.At.Y * q2)) w)) rfl ?_
            refine JH.read rfl (yl_loadn Go.Proofs.Try.underlying104 rfl i104 rfl (fun w hw => hFr45.box 2 rfl rfl hw) rfl (i104s).symm i104p) rfl ?_
            refine JH.pure rfl (yl_move rfl) rfl ?_
            refine JH.read rfl (yl_loadn Go.Proofs.Try.underlying104 rfl i104 rfl (fun w hw => hFr45.box 2 rfl rfl hw) rfl (i104s).symm i104p) rfl ?_
            refine JH.pure rfl (yl_move rfl) rfl ?_
            obtain ⟨x46, hx46, hres⟩ := bind_some hres
            obtain ⟨x946, hx946, hres⟩ := bind_some hres
            refine JH.cut (K := fun J => ∀ (g2146 : Nat) (g2446 : Nat), J [(2, .int .i64 q2), (3, .int .i64 q3), (11, .slice a38 x37.length cp39), (15, ptrAt (some ⟨g43, 0, none⟩) 0), (16, ptrAt (some ⟨g2146, 0, none⟩) 0), (17, ptrAt (some ⟨g2446, 0, none⟩) 0), (47, .slice ha29 x28.length hc30), (48, .int .i64 (x28.length : Int)), (49, .int .i64 x36), (63, .agg #[.int .i64 (w64 (x42.At.X * q2)), .int .i64 (w64 (x42.At.Y * q2))]), (74, .agg #[.int .i64 (w64 (x46.X * q2)), .int .i64 (w64 (x946.Y * q2))])] [boxO 42 g2146 [.int .i64 0, .int .i64 0], boxO 42 g2446 [.int .i64 0, .int .i64 0]]) 1 ?_ ?_
            · intro g2146 g2446
              refine JH.must rfl (ef_store_box (i := 0) (v := .agg #[.int .i64 (w64 (x42.At.X * q2)), .int .i64 (w64 (x42.At.Y * q2))]) i42 rfl rfl rfl (i42s).symm (Nat.le_of_ble_eq_true rfl) (by simp [Value.cells, Value.oneCell'])) rfl rfl ?_
              rintro _ _ rfl
              refine JH.must rfl (ef_store_box (i := 1) (v := .agg #[.int .i64 (w64 (x46.X * q2)), .int .i64 (w64 (x946.Y * q2))]) i42 rfl rfl rfl (i42s).symm (Nat.le_of_ble_eq_true rfl) (by simp [Value.cells, Value.oneCell'])) rfl rfl ?_
              rintro _ _ rfl
              refine JH.nil ?_
              refine JE.weak (env' := [(2, .int .i64 q2), (3, .int .i64 q3), (11, .slice a38 x37.length cp39), (15, ptrAt (some ⟨g43, 0, none⟩) 0), (16, ptrAt (some ⟨g2146, 0, none⟩) 0), (17, ptrAt (some ⟨g2446, 0, none⟩) 0), (47, .slice ha29 x28.length hc30), (48, .int .i64 (x28.length : Int)), (49, .int .i64 x36)]) (es' := [rowT 34 eHd a38 x37.length cp39 hs40, innO 42 eSPoint none hs40 x37, boxO 104 g43 [.int .i64 x42.At.X, .int .i64 x42.At.Y, .int .i64 x42.DX, .int .i64 x42.DY], boxO 42 g2146 [.int .i64 (w64 (x42.At.X * q2)), .int .i64 (w64 (x42.At.Y * q2))], boxO 42 g2446 [.int .i64 (w64 (x46.X * q2)), .int .i64 (w64 (x946.Y * q2))], rowT 102 eHd a19 x18.1.length cp20 hs22, innO 104 eSWalker none hs22 x18.1]) [0, 1, 2, 5, 6, 3, 4] ?_ ⟨rfl, rfl, rfl, rfl, rfl, rfl, rfl, rfl, rfl, trivial⟩ (by decide) rfl
              refine JE.code ?_
              refine JX.seq ?_
              refine JX.region ?_
              refine JL.val (yl_move rfl) rfl ?_
              refine JL.val (yl_neg rfl) rfl ?_
              refine JL.val (yl_fieldAt (a := some _) Go.Proofs.Try.underlying104 rfl i2 i2n rfl rfl) rfl ?_
              refine JL.val (yl_load1 Go.Proofs.Try.underlying2 rfl rfl (fun w hC => rd_box hC 2 rfl) rfl) rfl ?_
              refine JL.val (yl_mul rfl rfl) rfl ?_
              refine JL.val (yl_move rfl) rfl ?_
              refine JL.val (yl_fieldAt (a := some _) Go.Proofs.Try.underlying104 rfl i2 i2n rfl rfl) rfl ?_
              refine JL.val (yl_load1 Go.Proofs.Try.underlying2 rfl rfl (fun w hC => rd_box hC 2 rfl) rfl) rfl ?_
              refine JL.val (yl_mul rfl rfl) rfl ?_
              refine JL.val (yl_build rfl (fun w => bld42_0_1 (w64 ((w64 (0 - q3)) * x42.DY)) (w64 (q3 * x42.DX)) w)) rfl ?_
              refine JL.eff (ef_alloc i42 i42z rfl) rfl ?_
              rintro _ _ ⟨g2746, rfl, rfl⟩
              refine JL.eff (ef_store_box (i := 7) (v := .agg #[.int .i64 (w64 ((w64 (0 - q3)) * x42.DY)), .int .i64 (w64 (q3 * x42.DX))]) i42 rfl rfl rfl (i42s).symm (Nat.le_of_ble_eq_true rfl) (by simp [Value.cells, Value.oneCell'])) rfl ?_
              rintro _ _ rfl
              refine JL.nil ?_
              refine JE.weak (env' := [(2, .int .i64 q2), (3, .int .i64 q3), (11, .slice a38 x37.length cp39), (16, ptrAt (some ⟨g2146, 0, none⟩) 0), (17, ptrAt (some ⟨g2446, 0, none⟩) 0), (18, ptrAt (some ⟨g2746, 0, none⟩) 0), (47, .slice ha29 x28.length hc30), (48, .int .i64 (x28.length : Int)), (49, .int .i64 x36)]) (es' := [rowT 34 eHd a38 x37.length cp39 hs40, innO 42 eSPoint none hs40 x37, boxO 42 g2146 [.int .i64 (w64 (x42.At.X * q2)), .int .i64 (w64 (x42.At.Y * q2))], boxO 42 g2446 [.int .i64 (w64 (x46.X * q2)), .int .i64 (w64 (x946.Y * q2))], boxO 42 g2746 [.int .i64 (w64 ((w64 (0 - q3)) * x42.DY)), .int .i64 (w64 (q3 * x42.DX))], rowT 102 eHd a19 x18.1.length cp20 hs22, innO 104 eSWalker none hs22 x18.1]) [0, 1, 3, 4, 7, 5, 6] ?_ ⟨rfl, rfl, rfl, rfl, rfl, rfl, rfl, rfl, rfl, trivial⟩ (by decide) rfl
              refine JE.code ?_
              refine JX.region ?_
              refine JL.val (yl_move rfl) rfl ?_
              refine JL.val (yl_fieldAt (a := some _) Go.Proofs.Try.underlying42 rfl i2 i2n rfl rfl) rfl ?_
              refine JL.val (yl_load1 Go.Proofs.Try.underlying2 rfl rfl (fun w hC => rd_box hC 2 rfl) rfl) rfl ?_
              refine JL.val (yl_fieldAt (a := some _) Go.Proofs.Try.underlying42 rfl i2 i2n rfl rfl) rfl ?_
              refine JL.val (yl_load1 Go.Proofs.Try.underlying2 rfl rfl (fun w hC => rd_box hC 4 rfl) rfl) rfl ?_
              refine JL.val (yl_add rfl rfl) rfl ?_
              refine JL.val (yl_fieldAt (a := some _) Go.Proofs.Try.underlying42 rfl i2 i2n rfl rfl) rfl ?_
              refine JL.val (yl_load1 Go.Proofs.Try.underlying2 rfl rfl (fun w hC => rd_box hC 2 rfl) rfl) rfl ?_
              refine JL.val (yl_fieldAt (a := some _) Go.Proofs.Try.underlying42 rfl i2 i2n rfl rfl) rfl ?_
              refine JL.val (yl_load1 Go.Proofs.Try.underlying2 rfl rfl (fun w hC => rd_box hC 4 rfl) rfl) rfl ?_
              refine JL.val (yl_add rfl rfl) rfl ?_
              refine JL.val (yl_build rfl (fun w => bld42_0_1 (w64 ((w64 (x42.At.X * q2)) + (w64 ((w64 (0 - q3)) * x42.DY)))) (w64 ((w64 (x42.At.Y * q2)) + (w64 (q3 * x42.DX)))) w)) rfl ?_
              refine JL.val (yl_fieldAt (a := some _) Go.Proofs.Try.underlying42 rfl i2 i2n rfl rfl) rfl ?_
              refine JL.val (yl_load1 Go.Proofs.Try.underlying2 rfl rfl (fun w hC => rd_box hC 3 rfl) rfl) rfl ?_
              refine JL.val (yl_fieldAt (a := some _) Go.Proofs.Try.underlying42 rfl i2 i2n rfl rfl) rfl ?_
              refine JL.val (yl_load1 Go.Proofs.Try.underlying2 rfl rfl (fun w hC => rd_box hC 4 rfl) rfl) rfl ?_
              refine JL.val (yl_add rfl rfl) rfl ?_
              refine JL.val (yl_fieldAt (a := some _) Go.Proofs.Try.underlying42 rfl i2 i2n rfl rfl) rfl ?_
              refine JL.val (yl_load1 Go.Proofs.Try.underlying2 rfl rfl (fun w hC => rd_box hC 3 rfl) rfl) rfl ?_
              refine JL.val (yl_fieldAt (a := some _) Go.Proofs.Try.underlying42 rfl i2 i2n rfl rfl) rfl ?_
              refine JL.val (yl_load1 Go.Proofs.Try.underlying2 rfl rfl (fun w hC => rd_box hC 4 rfl) rfl) rfl ?_
              refine JL.val (yl_add rfl rfl) rfl ?_
              refine JL.val (yl_build rfl (fun w => bld42_0_1 (w64 ((w64 (x46.X * q2)) + (w64 ((w64 (0 - q3)) * x42.DY)))) (w64 ((w64 (x946.Y * q2)) + (w64 (q3 * x42.DX)))) w)) rfl ?_
              refine JL.val (yl_fieldAt (a := some _) Go.Proofs.Try.underlying42 rfl i2 i2n rfl rfl) rfl ?_
              refine JL.val (yl_load1 Go.Proofs.Try.underlying2 rfl rfl (fun w hC => rd_box hC 3 rfl) rfl) rfl ?_
              refine JL.val (yl_fieldAt (a := some _) Go.Proofs.Try.underlying42 rfl i2 i2n rfl rfl) rfl ?_
              refine JL.val (yl_load1 Go.Proofs.Try.underlying2 rfl rfl (fun w hC => rd_box hC 4 rfl) rfl) rfl ?_
              refine JL.val (yl_sub rfl rfl) rfl ?_
              refine JL.val (yl_fieldAt (a := some _) Go.Proofs.Try.underlying42 rfl i2 i2n rfl rfl) rfl ?_
              refine JL.val (yl_load1 Go.Proofs.Try.underlying2 rfl rfl (fun w hC => rd_box hC 3 rfl) rfl) rfl ?_
              refine JL.val (yl_fieldAt (a := some _) Go.Proofs.Try.underlying42 rfl i2 i2n rfl rfl) rfl ?_
              refine JL.val (yl_load1 Go.Proofs.Try.underlying2 rfl rfl (fun w hC => rd_box hC 4 rfl) rfl) rfl ?_
              refine JL.val (yl_sub rfl rfl) rfl ?_
              refine JL.val (yl_build rfl (fun w => bld42_0_1 (w64 ((w64 (x46.X * q2)) - (w64 ((w64 (0 - q3)) * x42.DY)))) (w64 ((w64 (x946.Y * q2)) - (w64 (q3 * x42.DX)))) w)) rfl ?_
              refine JL.val (yl_fieldAt (a := some _) Go.Proofs.Try.underlying42 rfl i2 i2n rfl rfl) rfl ?_
              refine JL.val (yl_load1 Go.Proofs.Try.underlying2 rfl rfl (fun w hC => rd_box hC 2 rfl) rfl) rfl ?_
              refine JL.val (yl_fieldAt (a := some _) Go.Proofs.Try.underlying42 rfl i2 i2n rfl rfl) rfl ?_
              refine JL.val (yl_load1 Go.Proofs.Try.underlying2 rfl rfl (fun w hC => rd_box hC 4 rfl) rfl) rfl ?_
              refine JL.val (yl_sub rfl rfl) rfl ?_
              refine JL.val (yl_fieldAt (a := some _) Go.Proofs.Try.underlying42 rfl i2 i2n rfl rfl) rfl ?_
              refine JL.val (yl_load1 Go.Proofs.Try.underlying2 rfl rfl (fun w hC => rd_box hC 2 rfl) rfl) rfl ?_
              refine JL.val (yl_fieldAt (a := some _) Go.Proofs.Try.underlying42 rfl i2 i2n rfl rfl) rfl ?_
              refine JL.val (yl_load1 Go.Proofs.Try.underlying2 rfl rfl (fun w hC => rd_box hC 4 rfl) rfl) rfl ?_
              refine JL.val (yl_sub rfl rfl) rfl ?_
              refine JL.val (yl_build rfl (fun w => bld42_0_1 (w64 ((w64 (x42.At.X * q2)) - (w64 ((w64 (0 - q3)) * x42.DY)))) (w64 ((w64 (x42.At.Y * q2)) - (w64 (q3 * x42.DX)))) w)) rfl ?_
              refine JL.eff (ef_buildSlice (E := 42) (k := eSPoint.k) (us := eSPoint.fl [SPoint.mk (w64 ((w64 (x42.At.X * q2)) + (w64 ((w64 (0 - q3)) * x42.DY)))) (w64 ((w64 (x42.At.Y * q2)) + (w64 (q3 * x42.DX)))), SPoint.mk (w64 ((w64 (x46.X * q2)) + (w64 ((w64 (0 - q3)) * x42.DY)))) (w64 ((w64 (x946.Y * q2)) + (w64 (q3 * x42.DX)))), SPoint.mk (w64 ((w64 (x46.X * q2)) - (w64 ((w64 (0 - q3)) * x42.DY)))) (w64 ((w64 (x946.Y * q2)) - (w64 (q3 * x42.DX)))), SPoint.mk (w64 ((w64 (x42.At.X * q2)) - (w64 ((w64 (0 - q3)) * x42.DY)))) (w64 ((w64 (x42.At.Y * q2)) - (w64 (q3 * x42.DX))))]) rfl (fun w => bsl34_4 (w64 ((w64 (x42.At.X * q2)) + (w64 ((w64 (0 - q3)) * x42.DY)))) (w64 ((w64 (x42.At.Y * q2)) + (w64 (q3 * x42.DX)))) (w64 ((w64 (x46.X * q2)) + (w64 ((w64 (0 - q3)) * x42.DY)))) (w64 ((w64 (x946.Y * q2)) + (w64 (q3 * x42.DX)))) (w64 ((w64 (x46.X * q2)) - (w64 ((w64 (0 - q3)) * x42.DY)))) (w64 ((w64 (x946.Y * q2)) - (w64 (q3 * x42.DX)))) (w64 ((w64 (x42.At.X * q2)) - (w64 ((w64 (0 - q3)) * x42.DY)))) (w64 ((w64 (x42.At.Y * q2)) - (w64 (q3 * x42.DX)))) w) rfl (by decide)) rfl ?_
              rintro _ _ ⟨a2748, rfl, rfl⟩
              refine JL.eff (ef_buildSlice (E := 34) (k := eHd.k) (us := eHd.fl [⟨a2748, 4, 4⟩]) rfl (fun w => bsl29_1 a2748 4 4 w) rfl (by decide)) rfl ?_
              rintro _ _ ⟨a2750, rfl, rfl⟩
              obtain ⟨x2752, hx2752, hres⟩ := bind_some hres
              refine JL.eff (ef_appendH (ix := 0) Go.Proofs.Try.underlying29 i34 i34z i34s rfl i34b0 i34b1 rfl rfl (Inn.len hi41) rfl rfl (fun w hC => rd_row hC 8 rfl) hx2752 hi41) rfl ?_
              rintro _ _ ⟨a2753, cp2754, rfl, rfl⟩
              refine JL.absorb (es' := [rowT 34 eHd a2753 x2752.length cp2754 (hs40 ++ [⟨a2748, 4, 4⟩]), boxO 42 g2146 [.int .i64 (w64 (x42.At.X * q2)), .int .i64 (w64 (x42.At.Y * q2))], boxO 42 g2446 [.int .i64 (w64 (x46.X * q2)), .int .i64 (w64 (x946.Y * q2))], boxO 42 g2746 [.int .i64 (w64 ((w64 (0 - q3)) * x42.DY)), .int .i64 (w64 (q3 * x42.DX))], rowT 102 eHd a19 x18.1.length cp20 hs22, innO 104 eSWalker none hs22 x18.1, rowT 34 eHd a2750 1 1 [⟨a2748, 4, 4⟩]]) [0, 2, 3, 4, 5, 6, 8, 1, 7] (by decide) rfl (appL_some hx2752).2 ?_
              refine JL.val (yl_assign rfl) rfl ?_
              refine JL.nil ?_
              refine JE.weak (env' := [(2, .int .i64 q2), (3, .int .i64 q3), (11, .slice a2753 x2752.length cp2754), (47, .slice ha29 x28.length hc30), (48, .int .i64 (x28.length : Int)), (49, .int .i64 x36)]) (es' := [rowT 34 eHd a2753 x2752.length cp2754 (hs40 ++ [⟨a2748, 4, 4⟩]), innO 42 eSPoint none (hs40 ++ [⟨a2748, 4, 4⟩]) x2752, rowT 102 eHd a19 x18.1.length cp20 hs22, innO 104 eSWalker none hs22 x18.1]) [0, 7, 4, 5] ?_ ⟨rfl, rfl, rfl, rfl, rfl, rfl, trivial⟩ (by decide) rfl
              refine JE.code ?_
              refine JX.region ?_
              refine JL.val (yl_add rfl rfl) rfl ?_
              refine JL.val (yl_move rfl) rfl ?_
              refine JL.nil ?_
              refine JE.cont hres ?_
              exact fun a w h => ⟨a2753, cp2754, hs40 ++ [⟨a2748, 4, 4⟩], (Inn.appZ hi41 rfl (appL_some hx2752).2), h.weak ⟨rfl, rfl, (by first | rfl | (simp only [List.length_set]; rfl) | simp only [List.length_set]), rfl, rfl, rfl, trivial⟩ [0, 1, 2, 3] (by decide) (by first | rfl | (simp only [List.length_set]; rfl) | simp only [List.length_set])⟩
            · intro K
              refine JH.talt ?_ ?_
              · refine JH.must rfl (ef_call (vs := [.agg #[.int .i64 x42.At.X, .int .i64 x42.At.Y, .int .i64 x42.DX, .int .i64 x42.DY]]) (T := T98 x46) Go.Proofs.Try.func98 rfl (by kernel_rfl) rfl (fun w hC => c98 (q0 := x42) hx46)) rfl rfl ?_
                rintro _ _ ⟨_, ⟨rfl, rfl⟩, rfl⟩
                refine JH.tpure ?_
                refine JH.pure rfl (yl_field rfl (fun w => fld42_0 _ _ w)) rfl ?_
                refine JH.tpure ?_
                refine JH.pure rfl (yl_mul rfl rfl) rfl ?_
                refine JH.talt ?_ ?_
                · refine JH.must rfl (ef_call (vs := [.agg #[.int .i64 x42.At.X, .int .i64 x42.At.Y, .int .i64 x42.DX, .int .i64 x42.DY]]) (T := T98 x946) Go.Proofs.Try.func98 rfl (by kernel_rfl) rfl (fun w hC => c98 (q0 := x42) hx946)) rfl rfl ?_
                  rintro _ _ ⟨_, ⟨rfl, rfl⟩, rfl⟩
                  refine JH.tpure ?_
                  refine JH.pure rfl (yl_field rfl (fun w => fld42_1 _ _ w)) rfl ?_
                  refine JH.tpure ?_
                  refine JH.pure rfl (yl_mul rfl rfl) rfl ?_
                  refine JH.tpure ?_
                  refine JH.pure rfl (yl_build rfl (fun w => bld42_0_1 (w64 (x46.X * q2)) (w64 (x946.Y * q2)) w)) rfl ?_
                  refine JH.talt ?_ ?_
                  · refine JH.must rfl (ef_alloc i42 i42z rfl) rfl rfl ?_
                    rintro _ _ ⟨g2146, rfl, rfl⟩
                    refine JH.talt ?_ ?_
                    · refine JH.must rfl (ef_alloc i42 i42z rfl) rfl rfl ?_
                      rintro _ _ ⟨g2446, rfl, rfl⟩
                      refine JH.tdone ?_
                      exact JH.weak [0, 1] (K g2146 g2446) ⟨rfl, rfl, rfl, rfl, rfl, rfl, rfl, rfl, rfl, rfl, rfl, trivial⟩ (by decide) rfl
                    · exact JH.tnil
                  · refine JH.talt ?_ ?_
                    · refine JH.must rfl (ef_alloc i42 i42z rfl) rfl rfl ?_
                      rintro _ _ ⟨g2446, rfl, rfl⟩
                      refine JH.talt ?_ ?_
                      · refine JH.must rfl (ef_alloc i42 i42z rfl) rfl rfl ?_
                        rintro _ _ ⟨g2146, rfl, rfl⟩
                        refine JH.tdone ?_
                        exact JH.weak [1, 0] (K g2146 g2446) ⟨rfl, rfl, rfl, rfl, rfl, rfl, rfl, rfl, rfl, rfl, rfl, trivial⟩ (by decide) rfl
                      · exact JH.tnil
                    · exact JH.tnil
                · refine JH.talt ?_ ?_
                  · refine JH.must rfl (ef_alloc i42 i42z rfl) rfl rfl ?_
                    rintro _ _ ⟨g2146, rfl, rfl⟩
                    refine JH.talt ?_ ?_
                    · refine JH.must rfl (ef_call (vs := [.agg #[.int .i64 x42.At.X, .int .i64 x42.At.Y, .int .i64 x42.DX, .int .i64 x42.DY]]) (T := T98 x946) Go.Proofs.Try.func98 rfl (by kernel_rfl) rfl (fun w hC => c98 (q0 := x42) hx946)) rfl rfl ?_
                      rintro _ _ ⟨_, ⟨rfl, rfl⟩, rfl⟩
                      refine JH.tpure ?_
                      refine JH.pure rfl (yl_field rfl (fun w => fld42_1 _ _ w)) rfl ?_
                      refine JH.tpure ?_
                      refine JH.pure rfl (yl_mul rfl rfl) rfl ?_
                      refine JH.tpure ?_
                      refine JH.pure rfl (yl_build rfl (fun w => bld42_0_1 (w64 (x46.X * q2)) (w64 (x946.Y * q2)) w)) rfl ?_
                      refine JH.talt ?_ ?_
                      · refine JH.must rfl (ef_alloc i42 i42z rfl) rfl rfl ?_
                        rintro _ _ ⟨g2446, rfl, rfl⟩
                        refine JH.tdone ?_
                        exact JH.weak [0, 1] (K g2146 g2446) ⟨rfl, rfl, rfl, rfl, rfl, rfl, rfl, rfl, rfl, rfl, rfl, trivial⟩ (by decide) rfl
                      · exact JH.tnil
                    · refine JH.talt ?_ ?_
                      · refine JH.must rfl (ef_alloc i42 i42z rfl) rfl rfl ?_
                        rintro _ _ ⟨g2446, rfl, rfl⟩
                        refine JH.talt ?_ ?_
                        · refine JH.must rfl (ef_call (vs := [.agg #[.int .i64 x42.At.X, .int .i64 x42.At.Y, .int .i64 x42.DX, .int .i64 x42.DY]]) (T := T98 x946) Go.Proofs.Try.func98 rfl (by kernel_rfl) rfl (fun w hC => c98 (q0 := x42) hx946)) rfl rfl ?_
                          rintro _ _ ⟨_, ⟨rfl, rfl⟩, rfl⟩
                          refine JH.tpure ?_
                          refine JH.pure rfl (yl_field rfl (fun w => fld42_1 _ _ w)) rfl ?_
                          refine JH.tpure ?_
                          refine JH.pure rfl (yl_mul rfl rfl) rfl ?_
                          refine JH.tpure ?_
                          refine JH.pure rfl (yl_build rfl (fun w => bld42_0_1 (w64 (x46.X * q2)) (w64 (x946.Y * q2)) w)) rfl ?_
                          refine JH.tdone ?_
                          exact JH.weak [0, 1] (K g2146 g2446) ⟨rfl, rfl, rfl, rfl, rfl, rfl, rfl, rfl, rfl, rfl, rfl, trivial⟩ (by decide) rfl
                        · exact JH.tnil
                      · exact JH.tnil
                  · refine JH.talt ?_ ?_
                    · refine JH.must rfl (ef_alloc i42 i42z rfl) rfl rfl ?_
                      rintro _ _ ⟨g2446, rfl, rfl⟩
                      refine JH.talt ?_ ?_
                      · refine JH.must rfl (ef_call (vs := [.agg #[.int .i64 x42.At.X, .int .i64 x42.At.Y, .int .i64 x42.DX, .int .i64 x42.DY]]) (T := T98 x946) Go.Proofs.Try.func98 rfl (by kernel_rfl) rfl (fun w hC => c98 (q0 := x42) hx946)) rfl rfl ?_
                        rintro _ _ ⟨_, ⟨rfl, rfl⟩, rfl⟩
                        refine JH.tpure ?_
                        refine JH.pure rfl (yl_field rfl (fun w => fld42_1 _ _ w)) rfl ?_
                        refine JH.tpure ?_
                        refine JH.pure rfl (yl_mul rfl rfl) rfl ?_
                        refine JH.tpure ?_
                        refine JH.pure rfl (yl_build rfl (fun w => bld42_0_1 (w64 (x46.X * q2)) (w64 (x946.Y * q2)) w)) rfl ?_
                        refine JH.talt ?_ ?_
                        · refine JH.must rfl (ef_alloc i42 i42z rfl) rfl rfl ?_
                          rintro _ _ ⟨g2146, rfl, rfl⟩
                          refine JH.tdone ?_
                          exact JH.weak [1, 0] (K g2146 g2446) ⟨rfl, rfl, rfl, rfl, rfl, rfl, rfl, rfl, rfl, rfl, rfl, trivial⟩ (by decide) rfl
                        · exact JH.tnil
                      · refine JH.talt ?_ ?_
                        · refine JH.must rfl (ef_alloc i42 i42z rfl) rfl rfl ?_
                          rintro _ _ ⟨g2146, rfl, rfl⟩
                          refine JH.talt ?_ ?_
                          · refine JH.must rfl (ef_call (vs := [.agg #[.int .i64 x42.At.X, .int .i64 x42.At.Y, .int .i64 x42.DX, .int .i64 x42.DY]]) (T := T98 x946) Go.Proofs.Try.func98 rfl (by kernel_rfl) rfl (fun w hC => c98 (q0 := x42) hx946)) rfl rfl ?_
                            rintro _ _ ⟨_, ⟨rfl, rfl⟩, rfl⟩
                            refine JH.tpure ?_
                            refine JH.pure rfl (yl_field rfl (fun w => fld42_1 _ _ w)) rfl ?_
                            refine JH.tpure ?_
                            refine JH.pure rfl (yl_mul rfl rfl) rfl ?_
                            refine JH.tpure ?_
                            refine JH.pure rfl (yl_build rfl (fun w => bld42_0_1 (w64 (x46.X * q2)) (w64 (x946.Y * q2)) w)) rfl ?_
                            refine JH.tdone ?_
                            exact JH.weak [1, 0] (K g2146 g2446) ⟨rfl, rfl, rfl, rfl, rfl, rfl, rfl, rfl, rfl, rfl, rfl, trivial⟩ (by decide) rfl
                          · exact JH.tnil
                        · exact JH.tnil
                    · exact JH.tnil
              · refine JH.talt ?_ ?_
                · refine JH.must rfl (ef_alloc i42 i42z rfl) rfl rfl ?_
                  rintro _ _ ⟨g2146, rfl, rfl⟩
                  refine JH.talt ?_ ?_
                  · refine JH.must rfl (ef_call (vs := [.agg #[.int .i64 x42.At.X, .int .i64 x42.At.Y, .int .i64 x42.DX, .int .i64 x42.DY]]) (T := T98 x46) Go.Proofs.Try.func98 rfl (by kernel_rfl) rfl (fun w hC => c98 (q0 := x42) hx46)) rfl rfl ?_
                    rintro _ _ ⟨_, ⟨rfl, rfl⟩, rfl⟩
                    refine JH.tpure ?_
                    refine JH.pure rfl (yl_field rfl (fun w => fld42_0 _ _ w)) rfl ?_
                    refine JH.tpure ?_
                    refine JH.pure rfl (yl_mul rfl rfl) rfl ?_
                    refine JH.talt ?_ ?_
                    · refine JH.must rfl (ef_call (vs := [.agg #[.int .i64 x42.At.X, .int .i64 x42.At.Y, .int .i64 x42.DX, .int .i64 x42.DY]]) (T := T98 x946) Go.Proofs.Try.func98 rfl (by kernel_rfl) rfl (fun w hC => c98 (q0 := x42) hx946)) rfl rfl ?_
                      rintro _ _ ⟨_, ⟨rfl, rfl⟩, rfl⟩
                      refine JH.tpure ?_
                      refine JH.pure rfl (yl_field rfl (fun w => fld42_1 _ _ w)) rfl ?_
                      refine JH.tpure ?_
                      refine JH.pure rfl (yl_mul rfl rfl) rfl ?_
                      refine JH.tpure ?_
                      refine JH.pure rfl (yl_build rfl (fun w => bld42_0_1 (w64 (x46.X * q2)) (w64 (x946.Y * q2)) w)) rfl ?_
                      refine JH.talt ?_ ?_
                      · refine JH.must rfl (ef_alloc i42 i42z rfl) rfl rfl ?_
                        rintro _ _ ⟨g2446, rfl, rfl⟩
                        refine JH.tdone ?_
                        exact JH.weak [0, 1] (K g2146 g2446) ⟨rfl, rfl, rfl, rfl, rfl, rfl, rfl, rfl, rfl, rfl, rfl, trivial⟩ (by decide) rfl
                      · exact JH.tnil
                    · refine JH.talt ?_ ?_
                      · refine JH.must rfl (ef_alloc i42 i42z rfl) rfl rfl ?_
                        rintro _ _ ⟨g2446, rfl, rfl⟩
                        refine JH.talt ?_ ?_
                        · refine JH.must rfl (ef_call (vs := [.agg #[.int .i64 x42.At.X, .int .i64 x42.At.Y, .int .i64 x42.DX, .int .i64 x42.DY]]) (T := T98 x946) Go.Proofs.Try.func98 rfl (by kernel_rfl) rfl (fun w hC => c98 (q0 := x42) hx946)) rfl rfl ?_
                          rintro _ _ ⟨_, ⟨rfl, rfl⟩, rfl⟩
                          refine JH.tpure ?_
                          refine JH.pure rfl (yl_field rfl (fun w => fld42_1 _ _ w)) rfl ?_
                          refine JH.tpure ?_
                          refine JH.pure rfl (yl_mul rfl rfl) rfl ?_
                          refine JH.tpure ?_
                          refine JH.pure rfl (yl_build rfl (fun w => bld42_0_1 (w64 (x46.X * q2)) (w64 (x946.Y * q2)) w)) rfl ?_
                          refine JH.tdone ?_
                          exact JH.weak [0, 1] (K g2146 g2446) ⟨rfl, rfl, rfl, rfl, rfl, rfl, rfl, rfl, rfl, rfl, rfl, trivial⟩ (by decide) rfl
                        · exact JH.tnil
                      · exact JH.tnil
                  · refine JH.talt ?_ ?_
                    · refine JH.must rfl (ef_alloc i42 i42z rfl) rfl rfl ?_
                      rintro _ _ ⟨g2446, rfl, rfl⟩
                      refine JH.talt ?_ ?_
                      · refine JH.must rfl (ef_call (vs := [.agg #[.int .i64 x42.At.X, .int .i64 x42.At.Y, .int .i64 x42.DX, .int .i64 x42.DY]]) (T := T98 x46) Go.Proofs.Try.func98 rfl (by kernel_rfl) rfl (fun w hC => c98 (q0 := x42) hx46)) rfl rfl ?_
                        rintro _ _ ⟨_, ⟨rfl, rfl⟩, rfl⟩
                        refine JH.tpure ?_
                        refine JH.pure rfl (yl_field rfl (fun w => fld42_0 _ _ w)) rfl ?_
                        refine JH.tpure ?_
                        refine JH.pure rfl (yl_mul rfl rfl) rfl ?_
                        refine JH.talt ?_ ?_
                        · refine JH.must rfl (ef_call (vs := [.agg #[.int .i64 x42.At.X, .int .i64 x42.At.Y, .int .i64 x42.DX, .int .i64 x42.DY]]) (T := T98 x946) Go.Proofs.Try.func98 rfl (by kernel_rfl) rfl (fun w hC => c98 (q0 := x42) hx946)) rfl rfl ?_
                          rintro _ _ ⟨_, ⟨rfl, rfl⟩, rfl⟩
                          refine JH.tpure ?_
                          refine JH.pure rfl (yl_field rfl (fun w => fld42_1 _ _ w)) rfl ?_
                          refine JH.tpure ?_
                          refine JH.pure rfl (yl_mul rfl rfl) rfl ?_
                          refine JH.tpure ?_
                          refine JH.pure rfl (yl_build rfl (fun w => bld42_0_1 (w64 (x46.X * q2)) (w64 (x946.Y * q2)) w)) rfl ?_
                          refine JH.tdone ?_
                          exact JH.weak [0, 1] (K g2146 g2446) ⟨rfl, rfl, rfl, rfl, rfl, rfl, rfl, rfl, rfl, rfl, rfl, trivial⟩ (by decide) rfl
                        · exact JH.tnil
                      · exact JH.tnil
                    · exact JH.tnil
                · refine JH.talt ?_ ?_
                  · refine JH.must rfl (ef_alloc i42 i42z rfl) rfl rfl ?_
                    rintro _ _ ⟨g2446, rfl, rfl⟩
                    refine JH.talt ?_ ?_
                    · refine JH.must rfl (ef_call (vs := [.agg #[.int .i64 x42.At.X, .int .i64 x42.At.Y, .int .i64 x42.DX, .int .i64 x42.DY]]) (T := T98 x46) Go.Proofs.Try.func98 rfl (by kernel_rfl) rfl (fun w hC => c98 (q0 := x42) hx46)) rfl rfl ?_
                      rintro _ _ ⟨_, ⟨rfl, rfl⟩, rfl⟩
                      refine JH.tpure ?_
                      refine JH.pure rfl (yl_field rfl (fun w => fld42_0 _ _ w)) rfl ?_
                      refine JH.tpure ?_
                      refine JH.pure rfl (yl_mul rfl rfl) rfl ?_
                      refine JH.talt ?_ ?_
                      · refine JH.must rfl (ef_call (vs := [.agg #[.int .i64 x42.At.X, .int .i64 x42.At.Y, .int .i64 x42.DX, .int .i64 x42.DY]]) (T := T98 x946) Go.Proofs.Try.func98 rfl (by kernel_rfl) rfl (fun w hC => c98 (q0 := x42) hx946)) rfl rfl ?_
                        rintro _ _ ⟨_, ⟨rfl, rfl⟩, rfl⟩
                        refine JH.tpure ?_
                        refine JH.pure rfl (yl_field rfl (fun w => fld42_1 _ _ w)) rfl ?_
                        refine JH.tpure ?_
                        refine JH.pure rfl (yl_mul rfl rfl) rfl ?_
                        refine JH.tpure ?_
                        refine JH.pure rfl (yl_build rfl (fun w => bld42_0_1 (w64 (x46.X * q2)) (w64 (x946.Y * q2)) w)) rfl ?_
                        refine JH.talt ?_ ?_
                        · refine JH.must rfl (ef_alloc i42 i42z rfl) rfl rfl ?_
                          rintro _ _ ⟨g2146, rfl, rfl⟩
                          refine JH.tdone ?_
                          exact JH.weak [1, 0] (K g2146 g2446) ⟨rfl, rfl, rfl, rfl, rfl, rfl, rfl, rfl, rfl, rfl, rfl, trivial⟩ (by decide) rfl
                        · exact JH.tnil
                      · refine JH.talt ?_ ?_
                        · refine JH.must rfl (ef_alloc i42 i42z rfl) rfl rfl ?_
                          rintro _ _ ⟨g2146, rfl, rfl⟩
                          refine JH.talt ?_ ?_
                          · refine JH.must rfl (ef_call (vs := [.agg #[.int .i64 x42.At.X, .int .i64 x42.At.Y, .int .i64 x42.DX, .int .i64 x42.DY]]) (T := T98 x946) Go.Proofs.Try.func98 rfl (by kernel_rfl) rfl (fun w hC => c98 (q0 := x42) hx946)) rfl rfl ?_
                            rintro _ _ ⟨_, ⟨rfl, rfl⟩, rfl⟩
                            refine JH.tpure ?_
                            refine JH.pure rfl (yl_field rfl (fun w => fld42_1 _ _ w)) rfl ?_
                            refine JH.tpure ?_
                            refine JH.pure rfl (yl_mul rfl rfl) rfl ?_
                            refine JH.tpure ?_
                            refine JH.pure rfl (yl_build rfl (fun w => bld42_0_1 (w64 (x46.X * q2)) (w64 (x946.Y * q2)) w)) rfl ?_
                            refine JH.tdone ?_
                            exact JH.weak [1, 0] (K g2146 g2446) ⟨rfl, rfl, rfl, rfl, rfl, rfl, rfl, rfl, rfl, rfl, rfl, trivial⟩ (by decide) rfl
                          · exact JH.tnil
                        · exact JH.tnil
                    · refine JH.talt ?_ ?_
                      · refine JH.must rfl (ef_alloc i42 i42z rfl) rfl rfl ?_
                        rintro _ _ ⟨g2146, rfl, rfl⟩
                        refine JH.talt ?_ ?_
                        · refine JH.must rfl (ef_call (vs := [.agg #[.int .i64 x42.At.X, .int .i64 x42.At.Y, .int .i64 x42.DX, .int .i64 x42.DY]]) (T := T98 x46) Go.Proofs.Try.func98 rfl (by kernel_rfl) rfl (fun w hC => c98 (q0 := x42) hx46)) rfl rfl ?_
                          rintro _ _ ⟨_, ⟨rfl, rfl⟩, rfl⟩
                          refine JH.tpure ?_
                          refine JH.pure rfl (yl_field rfl (fun w => fld42_0 _ _ w)) rfl ?_
                          refine JH.tpure ?_
                          refine JH.pure rfl (yl_mul rfl rfl) rfl ?_
                          refine JH.talt ?_ ?_
                          · refine JH.must rfl (ef_call (vs := [.agg #[.int .i64 x42.At.X, .int .i64 x42.At.Y, .int .i64 x42.DX, .int .i64 x42.DY]]) (T := T98 x946) Go.Proofs.Try.func98 rfl (by kernel_rfl) rfl (fun w hC => c98 (q0 := x42) hx946)) rfl rfl ?_
                            rintro _ _ ⟨_, ⟨rfl, rfl⟩, rfl⟩
                            refine JH.tpure ?_
                            refine JH.pure rfl (yl_field rfl (fun w => fld42_1 _ _ w)) rfl ?_
                            refine JH.tpure ?_
                            refine JH.pure rfl (yl_mul rfl rfl) rfl ?_
                            refine JH.tpure ?_
                            refine JH.pure rfl (yl_build rfl (fun w => bld42_0_1 (w64 (x46.X * q2)) (w64 (x946.Y * q2)) w)) rfl ?_
                            refine JH.tdone ?_
                            exact JH.weak [1, 0] (K g2146 g2446) ⟨rfl, rfl, rfl, rfl, rfl, rfl, rfl, rfl, rfl, rfl, rfl, trivial⟩ (by decide) rfl
                          · exact JH.tnil
                        · exact JH.tnil
                      · exact JH.tnil
                  · exact JH.tnil
          · refine JX.condF rfl hb ?_
            refine JX.exit ?_
            refine JE.qb rfl ?_
            obtain ⟨b1, hb1⟩ : ∃ b : List (List SPoint), b = x37 := ⟨_, rfl⟩
            have hy1 : b1 = y1 := by rw [hb1]; exact hox1 _ (Option.some.inj hres).symm
            have hres := hresO1
            rw [← hy1] at hres
            have hi2758 : Inn hs40 b1 := by subst hb1; exact hi41
            refine JE.weak (env' := [(11, .slice a38 b1.length cp39)]) (es' := [rowT 34 eHd a38 b1.length cp39 hs40, innO 42 eSPoint none hs40 b1]) [0, 1] ?_ ⟨(by subst hb1; first | rfl | (simp only [List.length_set]; rfl) | simp only [List.length_set]), trivial⟩ (by decide) (by subst hb1; first | rfl | (simp only [List.length_set]; rfl) | simp only [List.length_set])
            refine JE.code ?_
            refine JX.seq ?_
            refine JX.region ?_
            refine JL.val (yl_move rfl) rfl ?_
            refine JL.val (yl_assign rfl) rfl ?_
            refine JL.val (yl_assign rfl) rfl ?_
            refine JL.nil ?_
            refine JE.code ?_
            refine JX.ret ?_
            obtain rfl := Option.some.inj hres
            refine JE.ret (rs := [.tmp 8, .tmp 9]) (vs := [.slice a38 b1.length cp39, .int .i64 0]) rfl ⟨rfl, rfl, trivial⟩ ?_
            exact fun w' hb hs => ⟨_, _, ⟨a38, b1.length, cp39, hs40, rfl, hi2758, rfl, rfl⟩, rfl, hb, hs.sel [0, 1] _ (by decide) rfl⟩
    · intro K
      rcases cond_some hcb9 with ⟨hb, hres⟩ | ⟨hb, hres⟩
      · refine JL.set (d := 29) (v := .bool true) (congrArg (fun b => some (Value.bool b)) hb) ?_
        refine JL.gskip rfl rfl rfl rfl ?_
        refine JL.gskip rfl rfl rfl rfl ?_
        refine JL.gskip rfl rfl rfl rfl ?_
        refine JL.val (yl_pick_true rfl rfl) rfl ?_
        have he := Option.some.inj hres
        exact JL.weak [0] K ⟨rfl, rfl, rfl, rfl, (by rw [← he]; rfl), trivial⟩ (by decide) rfl
      · refine JL.set (d := 29) (v := .bool false) (congrArg (fun b => some (Value.bool b)) hb) ?_
        refine JL.gval rfl rfl (yl_move rfl) rfl ?_
        obtain ⟨x10, hx10, hres⟩ := bind_some hres
        refine JL.geff rfl rfl (ef_call (T := T96 x10) Go.Proofs.Try.func96 rfl (by kernel_rfl) rfl (fun w hC => c96  hx10)) rfl ?_
        rintro _ _ ⟨_, ⟨rfl, rfl⟩, rfl⟩
        refine JL.gval rfl rfl (yl_not rfl) rfl ?_
        refine JL.val (yl_pick_false rfl rfl) rfl ?_
        have he := Option.some.inj hres
        exact JL.weak [0] K ⟨rfl, rfl, rfl, rfl, (by rw [← he]; rfl), trivial⟩ (by decide) rfl

/- spec.l00In -/
def sh100 (q0 : Int) (q1 : Int) (q2 : Int) : Option (Bool) := some ((decide (q1 ≤ q0)) && (decide (q0 ≤ q2)))
def T100 (r : Bool) (v : Value) (rs : List Own) : Prop := v = rets [.bool r] ∧ rs = []
set_option maxRecDepth 100000 in
theorem c100 {w : World} {q0 : Int} {q1 : Int} {q2 : Int} {r : Bool} (hres : sh100 q0 q1 q2 = some r) : Calls Go.Proofs.Try.prog 100 [.int .i64 q0, .int .i64 q1, .int .i64 q2].toArray w (Ret w (T100 r)) := by
  unfold sh100 at hres
  refine calls_of (n := 15) (M := []) (es := []) Go.Proofs.Try.func100 rfl rfl rfl (Sep.nil _ _ _) ?_
  refine JX.seq ?_
  refine JX.region ?_
  refine JL.val (yl_assign rfl) rfl ?_
  refine JL.nil ?_
  refine JE.code ?_
  refine JX.seq ?_
  refine JX.region ?_
  refine JL.val (yl_move rfl) rfl ?_
  refine JL.val (yl_move rfl) rfl ?_
  refine JL.val (yl_geq rfl rfl) rfl ?_
  refine JL.val (yl_move rfl) rfl ?_
  refine JL.cut (K := fun J => J [(14, .bool ((decide (q1 ≤ q0)) && (decide (q0 ≤ q2))))] []) 4 ?_ ?_
  · refine JL.val (yl_assign rfl) rfl ?_
    refine JL.nil ?_
    refine JE.weak (env' := [(6, .bool ((decide (q1 ≤ q0)) && (decide (q0 ≤ q2))))]) (es' := []) [] ?_ ⟨rfl, trivial⟩ (by decide) rfl
    refine JE.code ?_
    refine JX.ret ?_
    obtain rfl := Option.some.inj hres
    refine JE.ret (rs := [.tmp 6]) (vs := [.bool ((decide (q1 ≤ q0)) && (decide (q0 ≤ q2)))]) rfl ⟨rfl, trivial⟩ ?_
    exact fun w' hb hs => ⟨_, _, ⟨rfl, rfl⟩, rfl, hb, hs.sel [] _ (by decide) rfl⟩
  · intro K
    rcases Bool.eq_false_or_eq_true (decide (q1 ≤ q0)) with hb | hb
    · refine JL.set (d := 10) (v := .bool true) (congrArg (fun b => some (Value.bool b)) hb) ?_
      refine JL.gval rfl rfl (yl_move rfl) rfl ?_
      refine JL.gval rfl rfl (yl_move rfl) rfl ?_
      refine JL.gval rfl rfl (yl_leq rfl rfl) rfl ?_
      refine JL.val (yl_pick_true rfl rfl) rfl ?_
      exact JL.weak [] K ⟨(by rw [hb]; rfl), trivial⟩ (by decide) rfl
    · refine JL.set (d := 10) (v := .bool false) (congrArg (fun b => some (Value.bool b)) hb) ?_
      refine JL.gskip rfl rfl rfl rfl ?_
      refine JL.gskip rfl rfl rfl rfl ?_
      refine JL.gskip rfl rfl rfl rfl ?_
      refine JL.val (yl_pick_false rfl rfl) rfl ?_
      exact JL.weak [] K ⟨(by rw [hb]; rfl), trivial⟩ (by decide) rfl

/- spec.l02Side -/
def sh201 (q0 : Int) : Option (Bool) := Option.bind (sh100 q0 1 8) fun x1 => some x1
def T201 (r : Bool) (v : Value) (rs : List Own) : Prop := v = rets [.bool r] ∧ rs = []
set_option maxRecDepth 100000 in
theorem c201 {w : World} {q0 : Int} {r : Bool} (hres : sh201 q0 = some r) : Calls Go.Proofs.Try.prog 201 [.int .i64 q0].toArray w (Ret w (T201 r)) := by
  unfold sh201 at hres
  refine calls_of (n := 5) (M := []) (es := []) Go.Proofs.Try.func201 rfl rfl rfl (Sep.nil _ _ _) ?_
  refine JX.seq ?_
  refine JX.region ?_
  refine JL.val (yl_assign rfl) rfl ?_
  refine JL.nil ?_
  refine JE.code ?_
  refine JX.seq ?_
  refine JX.region ?_
  refine JL.val (yl_move rfl) rfl ?_
  obtain ⟨x1, hx1, hres⟩ := bind_some hres
  refine JL.eff (ef_call (T := T100 x1) Go.Proofs.Try.func100 rfl (by kernel_rfl) rfl (fun w hC => c100  hx1)) rfl ?_
  rintro _ _ ⟨_, ⟨rfl, rfl⟩, rfl⟩
  refine JL.val (yl_assign rfl) rfl ?_
  refine JL.nil ?_
  refine JE.code ?_
  refine JX.ret ?_
  obtain rfl := Option.some.inj hres
  refine JE.ret (rs := [.tmp 2]) (vs := [.bool x1]) rfl ⟨rfl, trivial⟩ ?_
  exact fun w' hb hs => ⟨_, _, ⟨rfl, rfl⟩, rfl, hb, hs.sel [] _ (by decide) rfl⟩

/- spec.l02Ok -/
def sh139_1 (q0 : SPanel) : Int → Option (Int ⊕ (Unit ⊕ Bool))
  | x7 => bif decide (x7 < (q0.Breaks.length : Int)) then (Option.bind (getI q0.Breaks x7) fun x8 => Option.bind (sh100 x8 0 2) fun x9 => bif !x9 then (some (.inr (.inr false))) else (some (.inl (w64 (x7 + 1))))) else (some (.inr (.inl ())))
def sh139 (q0 : SPanel) : Option (Bool) := Option.bind (sh201 q0.W) fun x2 => Option.bind (bif !x2 then (some true) else (Option.bind (sh201 q0.H) fun x4 => some !x4)) fun cb3 => (Option.bind (bif cb3 then (some true) else (Option.bind (sh202 q0.W q0.H) fun x6 => some ((q0.Breaks.length : Int) != x6))) fun cb5 => (bif cb5 then (some false) else (Option.bind (iter (sh139_1 q0) 0) fun y1 => elimS y1 (fun r => some r) fun b1 => (some true))))
def T139 (r : Bool) (v : Value) (rs : List Own) : Prop := v = rets [.bool r] ∧ rs = []
set_option maxRecDepth 100000 in
theorem c139 {w : World} {q0 : SPanel} {a_0 : Option Addr} {n_0 : Nat} {a_0_2 : Option Addr} {n_0_2 c_0_2 : Nat} (g_0 : RdAt w a_0 n_0 [.int .i64 q0.W, .int .i64 q0.H, .slice a_0_2 n_0_2 c_0_2]) (g_0_2 : Rd w a_0_2 (eI64.fl q0.Breaks)) (l_0_2 : q0.Breaks.length = n_0_2) (k_0_2 : n_0_2 ≤ c_0_2) {r : Bool} (hres : sh139 q0 = some r) : Calls Go.Proofs.Try.prog 139 [ptrAt a_0 n_0].toArray w (Ret w (T139 r)) := by
  subst l_0_2
  obtain ⟨b_0, e_0, g_0⟩ := g_0.norm0
  rw [e_0]
  unfold sh139 at hres
  refine calls_of (n := 53) (M := []) (es := []) Go.Proofs.Try.func139 rfl rfl rfl (Sep.nil _ _ _) ?_
  refine JX.seq ?_
  refine JX.region ?_
  refine JL.val (yl_assign rfl) rfl ?_
  refine JL.nil ?_
  refine JE.code ?_
  refine JX.seq ?_
  refine JX.seq ?_
  refine JX.drawH [(0, .pure), (1, .pure), (2, .pure), (3, .read), (4, .must), (5, .pure), (6, .pure), (7, .pure), (8, .pure), (9, .pure), (10, .read), (11, .must), (12, .pure), (13, .pure), (14, .pure), (15, .pure), (16, .pure), (17, .pure), (18, .read), (19, .pure), (20, .pure), (21, .pure), (22, .pure), (23, .read), (24, .pure), (25, .pure), (26, .pure), (27, .read), (28, .must), (29, .pure), (30, .pure)] [] [] [] [] [] mixedP (by kernel_rfl) (by kernel_rfl) (by decide) rfl rfl ?_
  intro wrr1 Nr1 hFr1
  refine JH.pure rfl (yl_move rfl) rfl ?_
  refine JH.pure rfl (yl_nilCheckAt rfl (Rd.some g_0 (j := 0) rfl)) rfl ?_
  refine JH.pure rfl (yl_fieldAt Go.Proofs.Try.underlying26 rfl i2 i2n rfl (Rd.some g_0 (j := 0) rfl)) rfl ?_
  refine JH.read rfl (yl_load1 Go.Proofs.Try.underlying2 rfl rfl (fun w hw => hFr1.arg g_0 hw) rfl) rfl ?_
  obtain ⟨x2, hx2, hres⟩ := bind_some hres
  refine JH.must rfl (ef_call (T := T201 x2) Go.Proofs.Try.func201 rfl (by kernel_rfl) rfl (fun w hC => c201  hx2)) rfl rfl ?_
  rintro _ _ ⟨_, ⟨rfl, rfl⟩, rfl⟩
  refine JH.pure rfl (yl_not rfl) rfl ?_
  refine JH.pure rfl (yl_move rfl) rfl ?_
  obtain ⟨cb3, hcb3, hres⟩ := bind_some hres
  refine JH.cut (K := fun J => J [(0, ptrAt b_0 0), (17, .bool cb3)] []) 7 ?_ ?_
  · refine JH.pure rfl (yl_move rfl) rfl ?_
    obtain ⟨cb5, hcb5, hres⟩ := bind_some hres
    refine JH.cut (K := fun J => J [(0, ptrAt b_0 0), (34, .bool cb5)] []) 16 ?_ ?_
    · refine JH.nil ?_
      refine JE.weak (env' := [(0, ptrAt b_0 0), (34, .bool cb5)]) (es' := []) [] ?_ ⟨rfl, rfl, trivial⟩ (by decide) rfl
      refine JE.code ?_
      rcases cond_some hres with ⟨hb, hres⟩ | ⟨hb, hres⟩
      · refine JX.condT rfl hb ?_
        refine JX.seq ?_
        refine JX.region ?_
        refine JL.val (yl_assign rfl) rfl ?_
        refine JL.nil ?_
        refine JE.code ?_
        refine JX.ret ?_
        obtain rfl := Option.some.inj hres
        refine JE.ret (rs := [.tmp 2]) (vs := [.bool false]) rfl ⟨rfl, trivial⟩ ?_
        exact fun w' hb hs => ⟨_, _, ⟨rfl, rfl⟩, rfl, hb, hs.sel [] _ (by decide) rfl⟩
      · refine JX.condF rfl hb ?_
        refine JX.skip ?_
        refine JE.code ?_
        refine JX.seq ?_
        refine JX.seq ?_
        refine JX.region ?_
        refine JL.val (yl_assign rfl) rfl ?_
        refine JL.nil ?_
        refine JE.code ?_
        refine JX.block ?_
        obtain ⟨y1, hy1, hresO1⟩ := bind_some hres
        refine JX.loop (I := fun (s1 : Int) aa ww => St w [] 53 [(0, ptrAt b_0 0), (3, .int .i64 s1)] [] aa ww) (sh139_1 q0) hy1 (fun a w h => h.weak ⟨rfl, rfl, trivial⟩ [] (by decide) rfl) ?_
        rintro x7 o1 hres hox1 aa ww hS
        refine (?_ : JX Go.Proofs.Try.prog w [] 53 _ _ [(0, ptrAt b_0 0), (3, .int .i64 x7)] [] _) aa ww hS
        clear hS
        unfold sh139_1 at hres
        refine JX.seq ?_
        refine JX.seq ?_
        refine JX.region ?_
        refine JL.val (yl_move rfl) rfl ?_
        refine JL.val (yl_move rfl) rfl ?_
        refine JL.val (yl_nilCheckAt rfl (Rd.some g_0 (j := 0) rfl)) rfl ?_
        refine JL.val (yl_fieldAt Go.Proofs.Try.underlying26 rfl i24 i24n rfl (Rd.some g_0 (j := 0) rfl)) rfl ?_
        refine JL.val (yl_load1 Go.Proofs.Try.underlying24 rfl rfl (fun w hC => rd_arg g_0 hC) rfl) rfl ?_
        refine JL.val (yl_len_slice Go.Proofs.Try.underlying24 rfl) rfl ?_
        refine JL.val (yl_lss rfl rfl) rfl ?_
        refine JL.nil ?_
        refine JE.weak (env' := [(0, ptrAt b_0 0), (3, .int .i64 x7), (41, .bool (decide (x7 < (q0.Breaks.length : Int))))]) (es' := []) [] ?_ ⟨rfl, rfl, rfl, trivial⟩ (by decide) rfl
        refine JE.code ?_
        rcases cond_some hres with ⟨hb, hres⟩ | ⟨hb, hres⟩
        · refine JX.condT rfl hb ?_
          refine JX.skip ?_
          refine JE.code ?_
          refine JX.seq ?_
          refine JX.block ?_
          refine JX.seq ?_
          refine JX.region ?_
          refine JL.val (yl_move rfl) rfl ?_
          refine JL.val (yl_nilCheckAt rfl (Rd.some g_0 (j := 0) rfl)) rfl ?_
          refine JL.val (yl_fieldAt Go.Proofs.Try.underlying26 rfl i24 i24n rfl (Rd.some g_0 (j := 0) rfl)) rfl ?_
          refine JL.val (yl_load1 Go.Proofs.Try.underlying24 rfl rfl (fun w hC => rd_arg g_0 hC) rfl) rfl ?_
          refine JL.val (yl_move rfl) rfl ?_
          obtain ⟨x8, hx8, hres⟩ := bind_some hres
          refine JL.val (yl_idxT Go.Proofs.Try.underlying24 i2 i2s rfl rfl hx8 rfl (fun w hC => rd_arg g_0_2 hC)) rfl ?_
          refine JL.val (yl_loadT0 Go.Proofs.Try.underlying2 rfl rfl hx8 (fun w hC => rd_arg g_0_2 hC) rfl) rfl ?_
          obtain ⟨x9, hx9, hres⟩ := bind_some hres
          refine JL.eff (ef_call (T := T100 x9) Go.Proofs.Try.func100 rfl (by kernel_rfl) rfl (fun w hC => c100  hx9)) rfl ?_
          rintro _ _ ⟨_, ⟨rfl, rfl⟩, rfl⟩
          refine JL.val (yl_not rfl) rfl ?_
          refine JL.nil ?_
          refine JE.weak (env' := [(0, ptrAt b_0 0), (3, .int .i64 x7), (52, .bool !x9)]) (es' := []) [] ?_ ⟨rfl, rfl, rfl, trivial⟩ (by decide) rfl
          refine JE.code ?_
          rcases cond_some hres with ⟨hb, hres⟩ | ⟨hb, hres⟩
          · refine JX.condT rfl hb ?_
            refine JX.seq ?_
            refine JX.region ?_
            refine JL.val (yl_assign rfl) rfl ?_
            refine JL.nil ?_
            refine JE.code ?_
            refine JX.ret ?_
            refine JE.qbr ?_
            refine JE.qbr ?_
            have hres := elimS_inr hresO1 (hox1 _ (Option.some.inj hres).symm)
            obtain rfl := Option.some.inj hres
            refine JE.ret (rs := [.tmp 2]) (vs := [.bool false]) rfl ⟨rfl, trivial⟩ ?_
            exact fun w' hb hs => ⟨_, _, ⟨rfl, rfl⟩, rfl, hb, hs.sel [] _ (by decide) rfl⟩
          · refine JX.condF rfl hb ?_
            refine JX.skip ?_
            refine JE.code ?_
            refine JX.region ?_
            refine JL.val (yl_move rfl) rfl ?_
            refine JL.val (yl_add rfl rfl) rfl ?_
            refine JL.val (yl_assign rfl) rfl ?_
            refine JL.nil ?_
            refine JE.cont hres ?_
            exact fun a w h => h.weak ⟨rfl, rfl, trivial⟩ [] (by decide) rfl
        · refine JX.condF rfl hb ?_
          refine JX.exit ?_
          refine JE.qb rfl ?_
          obtain ⟨b1, hb1⟩ : ∃ b : Unit, b = () := ⟨_, rfl⟩
          have hy1 : Sum.inl b1 = y1 := by rw [hb1]; exact hox1 _ (Option.some.inj hres).symm
          have hres := elimS_inl hresO1 hy1
          refine JE.weak (env' := []) (es' := []) [] ?_ trivial (by decide) (by subst hb1; rfl)
          refine JE.code ?_
          refine JX.seq ?_
          refine JX.region ?_
          refine JL.val (yl_assign rfl) rfl ?_
          refine JL.nil ?_
          refine JE.code ?_
          refine JX.ret ?_
          obtain rfl := Option.some.inj hres
          refine JE.ret (rs := [.tmp 2]) (vs := [.bool true]) rfl ⟨rfl, trivial⟩ ?_
          exact fun w' hb hs => ⟨_, _, ⟨rfl, rfl⟩, rfl, hb, hs.sel [] _ (by decide) rfl⟩
    · intro K
      rcases cond_some hcb5 with ⟨hb, hres⟩ | ⟨hb, hres⟩
      · refine JH.set (d := 18) (v := .bool true) (congrArg (fun b => some (Value.bool b)) hb) ?_
        refine JH.gskip rfl rfl rfl rfl rfl rfl ?_
        refine JH.gskip rfl rfl rfl rfl rfl rfl ?_
        refine JH.gskip rfl rfl rfl rfl rfl rfl ?_
        refine JH.gskip rfl rfl rfl rfl rfl rfl ?_
        refine JH.gskip rfl rfl rfl rfl rfl rfl ?_
        refine JH.gskip rfl rfl rfl rfl rfl rfl ?_
        refine JH.gskip rfl rfl rfl rfl rfl rfl ?_
        refine JH.gskip rfl rfl rfl rfl rfl rfl ?_
        refine JH.gskip rfl rfl rfl rfl rfl rfl ?_
        refine JH.gskip rfl rfl rfl rfl rfl rfl ?_
        refine JH.gskip rfl rfl rfl rfl rfl rfl ?_
        refine JH.gskip rfl rfl rfl rfl rfl rfl ?_
        refine JH.gskip rfl rfl rfl rfl rfl rfl ?_
        refine JH.gskip rfl rfl rfl rfl rfl rfl ?_
        refine JH.gskip rfl rfl rfl rfl rfl rfl ?_
        refine JH.pure rfl (yl_pick_true rfl rfl) rfl ?_
        have he := Option.some.inj hres
        exact JH.weak [] K ⟨rfl, (by rw [← he]; rfl), trivial⟩ (by decide) rfl
      · refine JH.set (d := 18) (v := .bool false) (congrArg (fun b => some (Value.bool b)) hb) ?_
        refine JH.gpure rfl rfl rfl (yl_move rfl) rfl ?_
        refine JH.gpure rfl rfl rfl (yl_nilCheckAt rfl (Rd.some g_0 (j := 0) rfl)) rfl ?_
        refine JH.gpure rfl rfl rfl (yl_fieldAt Go.Proofs.Try.underlying26 rfl i24 i24n rfl (Rd.some g_0 (j := 0) rfl)) rfl ?_
        refine JH.gread rfl rfl rfl (yl_load1 Go.Proofs.Try.underlying24 rfl rfl (fun w hw => hFr1.arg g_0 hw) rfl) rfl ?_
        refine JH.gpure rfl rfl rfl (yl_len_slice Go.Proofs.Try.underlying24 rfl) rfl ?_
        refine JH.gpure rfl rfl rfl (yl_move rfl) rfl ?_
        refine JH.gpure rfl rfl rfl (yl_nilCheckAt rfl (Rd.some g_0 (j := 0) rfl)) rfl ?_
        refine JH.gpure rfl rfl rfl (yl_fieldAt Go.Proofs.Try.underlying26 rfl i2 i2n rfl (Rd.some g_0 (j := 0) rfl)) rfl ?_
        refine JH.gread rfl rfl rfl (yl_load1 Go.Proofs.Try.underlying2 rfl rfl (fun w hw => hFr1.arg g_0 hw) rfl) rfl ?_
        refine JH.gpure rfl rfl rfl (yl_move rfl) rfl ?_
        refine JH.gpure rfl rfl rfl (yl_nilCheckAt rfl (Rd.some g_0 (j := 0) rfl)) rfl ?_
        refine JH.gpure rfl rfl rfl (yl_fieldAt Go.Proofs.Try.underlying26 rfl i2 i2n rfl (Rd.some g_0 (j := 0) rfl)) rfl ?_
        refine JH.gread rfl rfl rfl (yl_load1 Go.Proofs.Try.underlying2 rfl rfl (fun w hw => hFr1.arg g_0 hw) rfl) rfl ?_
        obtain ⟨x6, hx6, hres⟩ := bind_some hres
        refine JH.gmust rfl rfl rfl (ef_call (T := T202 x6) Go.Proofs.Try.func202 rfl (by kernel_rfl) rfl (fun w hC => c202  hx6)) rfl rfl ?_
        rintro _ _ ⟨_, ⟨rfl, rfl⟩, rfl⟩
        refine JH.gpure rfl rfl rfl (yl_neq rfl rfl) rfl ?_
        refine JH.pure rfl (yl_pick_false rfl rfl) rfl ?_
        have he := Option.some.inj hres
        exact JH.weak [] K ⟨rfl, (by rw [← he]; rfl), trivial⟩ (by decide) rfl
  · intro K
    rcases cond_some hcb3 with ⟨hb, hres⟩ | ⟨hb, hres⟩
    · refine JH.set (d := 10) (v := .bool true) (congrArg (fun b => some (Value.bool b)) hb) ?_
      refine JH.gskip rfl rfl rfl rfl rfl rfl ?_
      refine JH.gskip rfl rfl rfl rfl rfl rfl ?_
      refine JH.gskip rfl rfl rfl rfl rfl rfl ?_
      refine JH.gskip rfl rfl rfl rfl rfl rfl ?_
      refine JH.gskip rfl rfl rfl rfl rfl rfl ?_
      refine JH.gskip rfl rfl rfl rfl rfl rfl ?_
      refine JH.pure rfl (yl_pick_true rfl rfl) rfl ?_
      have he := Option.some.inj hres
      exact JH.weak [] K ⟨rfl, (by rw [← he]; rfl), trivial⟩ (by decide) rfl
    · refine JH.set (d := 10) (v := .bool false) (congrArg (fun b => some (Value.bool b)) hb) ?_
      refine JH.gpure rfl rfl rfl (yl_move rfl) rfl ?_
      refine JH.gpure rfl rfl rfl (yl_nilCheckAt rfl (Rd.some g_0 (j := 0) rfl)) rfl ?_
      refine JH.gpure rfl rfl rfl (yl_fieldAt Go.Proofs.Try.underlying26 rfl i2 i2n rfl (Rd.some g_0 (j := 0) rfl)) rfl ?_
      refine JH.gread rfl rfl rfl (yl_load1 Go.Proofs.Try.underlying2 rfl rfl (fun w hw => hFr1.arg g_0 hw) rfl) rfl ?_
      obtain ⟨x4, hx4, hres⟩ := bind_some hres
      refine JH.gmust rfl rfl rfl (ef_call (T := T201 x4) Go.Proofs.Try.func201 rfl (by kernel_rfl) rfl (fun w hC => c201  hx4)) rfl rfl ?_
      rintro _ _ ⟨_, ⟨rfl, rfl⟩, rfl⟩
      refine JH.gpure rfl rfl rfl (yl_not rfl) rfl ?_
      refine JH.pure rfl (yl_pick_false rfl rfl) rfl ?_
      have he := Option.some.inj hres
      exact JH.weak [] K ⟨rfl, (by rw [← he]; rfl), trivial⟩ (by decide) rfl

/- spec.l02Row -/
def sh203_1 (q0 : SPanel) (q1 : Int) : (Int × Int) → Option ((Int × Int) ⊕ (Int))
  | (x1, x2) => bif decide (x2 < q1) then (Option.bind (bif (x2.tmod 2) == 1 then (some (w64 ((w64 (x1 + q0.W)) - 1))) else (some (w64 (x1 + q0.W)))) fun j3 => (some (.inl (j3, w64 (x2 + 1))))) else (some (.inr x1))
def sh203 (q0 : SPanel) (q1 : Int) : Option (Int) := Option.bind (iter (sh203_1 q0 q1) (0, 1)) fun b1 => (some b1)
def T203 (r : Int) (v : Value) (rs : List Own) : Prop := v = rets [.int .i64 r] ∧ rs = []
set_option maxRecDepth 100000 in
theorem c203 {w : World} {q0 : SPanel} {a_0 : Option Addr} {n_0 : Nat} {a_0_2 : Option Addr} {n_0_2 c_0_2 : Nat} (g_0 : RdAt w a_0 n_0 [.int .i64 q0.W, .int .i64 q0.H, .slice a_0_2 n_0_2 c_0_2]) (g_0_2 : Rd w a_0_2 (eI64.fl q0.Breaks)) (l_0_2 : q0.Breaks.length = n_0_2) (k_0_2 : n_0_2 ≤ c_0_2) {q1 : Int} {r : Int} (hres : sh203 q0 q1 = some r) : Calls Go.Proofs.Try.prog 203 [ptrAt a_0 n_0, .int .i64 q1].toArray w (Ret w (T203 r)) := by
  subst l_0_2
  obtain ⟨b_0, e_0, g_0⟩ := g_0.norm0
  rw [e_0]
  unfold sh203 at hres
  refine calls_of (n := 24) (M := []) (es := []) Go.Proofs.Try.func203 rfl rfl rfl (Sep.nil _ _ _) ?_
  refine JX.seq ?_
  refine JX.region ?_
  refine JL.val (yl_assign rfl) rfl ?_
  refine JL.nil ?_
  refine JE.code ?_
  refine JX.seq ?_
  refine JX.region ?_
  refine JL.val (yl_assign rfl) rfl ?_
  refine JL.nil ?_
  refine JE.code ?_
  refine JX.seq ?_
  refine JX.seq ?_
  refine JX.region ?_
  refine JL.val (yl_assign rfl) rfl ?_
  refine JL.nil ?_
  refine JE.code ?_
  refine JX.block ?_
  obtain ⟨y1, hy1, hresO1⟩ := bind_some hres
  refine JX.loop (I := fun (s1 : Int × Int) aa ww => St w [] 24 [(0, ptrAt b_0 0), (1, .int .i64 q1), (5, .int .i64 s1.1), (6, .int .i64 s1.2)] [] aa ww) (sh203_1 q0 q1) hy1 (fun a w h => h.weak ⟨rfl, rfl, rfl, rfl, trivial⟩ [] (by decide) rfl) ?_
  rintro ⟨x1, x2⟩ o1 hres hox1 aa ww hS
  refine (?_ : JX Go.Proofs.Try.prog w [] 24 _ _ [(0, ptrAt b_0 0), (1, .int .i64 q1), (5, .int .i64 x1), (6, .int .i64 x2)] [] _) aa ww hS
  clear hS
  simp only [sh203_1] at hres
  refine JX.seq ?_
  refine JX.seq ?_
  refine JX.region ?_
  refine JL.val (yl_move rfl) rfl ?_
  refine JL.val (yl_move rfl) rfl ?_
  refine JL.val (yl_lss rfl rfl) rfl ?_
  refine JL.nil ?_
  refine JE.code ?_
  rcases cond_some hres with ⟨hb, hres⟩ | ⟨hb, hres⟩
  · refine JX.condT rfl hb ?_
    refine JX.skip ?_
    refine JE.code ?_
    refine JX.seq ?_
    refine JX.block ?_
    refine JX.seq ?_
    refine JX.region ?_
    refine JL.val (yl_move rfl) rfl ?_
    refine JL.val (yl_move rfl) rfl ?_
    refine JL.val (yl_nilCheckAt rfl (Rd.some g_0 (j := 0) rfl)) rfl ?_
    refine JL.val (yl_fieldAt Go.Proofs.Try.underlying26 rfl i2 i2n rfl (Rd.some g_0 (j := 0) rfl)) rfl ?_
    refine JL.val (yl_load1 Go.Proofs.Try.underlying2 rfl rfl (fun w hC => rd_arg g_0 hC) rfl) rfl ?_
    refine JL.val (yl_add rfl rfl) rfl ?_
    refine JL.val (yl_assign rfl) rfl ?_
    refine JL.nil ?_
    refine JE.weak (env' := [(0, ptrAt b_0 0), (1, .int .i64 q1), (5, .int .i64 (w64 (x1 + q0.W))), (6, .int .i64 x2)]) (es' := []) [] ?_ ⟨rfl, rfl, rfl, rfl, trivial⟩ (by decide) rfl
    refine JE.code ?_
    refine JX.seq ?_
    refine JX.region ?_
    refine JL.val (yl_move rfl) rfl ?_
    refine JL.val (yl_rem rfl rfl (by decide)) rfl ?_
    refine JL.val (yl_eql rfl rfl) rfl ?_
    refine JL.nil ?_
    refine JE.code ?_
    obtain ⟨j3, hj3, hresj3⟩ := bind_some hres
    refine JX.cut (K := fun J => J [(0, ptrAt b_0 0), (1, .int .i64 q1), (5, .int .i64 j3), (6, .int .i64 x2)] []) ?_ ?_
    · have hres := hresj3
      refine JE.code ?_
      refine JX.region ?_
      refine JL.val (yl_move rfl) rfl ?_
      refine JL.val (yl_add rfl rfl) rfl ?_
      refine JL.val (yl_assign rfl) rfl ?_
      refine JL.nil ?_
      refine JE.cont hres ?_
      exact fun a w h => h.weak ⟨rfl, rfl, rfl, rfl, trivial⟩ [] (by decide) rfl
    · intro K
      rcases cond_some hj3 with ⟨hb, hres⟩ | ⟨hb, hres⟩
      · refine JX.condT rfl hb ?_
        refine JX.region ?_
        refine JL.val (yl_move rfl) rfl ?_
        refine JL.val (yl_sub rfl rfl) rfl ?_
        refine JL.val (yl_assign rfl) rfl ?_
        refine JL.nil ?_
        have hj := Option.some.inj hres
        exact JE.weak [] (K) ⟨(by subst hj; rfl), (by subst hj; rfl), (by subst hj; rfl), (by subst hj; rfl), trivial⟩ (by decide) (by subst hj; rfl)
      · refine JX.condF rfl hb ?_
        refine JX.skip ?_
        have hj := Option.some.inj hres
        exact JE.weak [] (K) ⟨(by subst hj; rfl), (by subst hj; rfl), (by subst hj; rfl), (by subst hj; rfl), trivial⟩ (by decide) (by subst hj; rfl)
  · refine JX.condF rfl hb ?_
    refine JX.exit ?_
    refine JE.qb rfl ?_
    obtain ⟨b1, hb1⟩ : ∃ b : Int, b = x1 := ⟨_, rfl⟩
    have hy1 : b1 = y1 := by rw [hb1]; exact hox1 _ (Option.some.inj hres).symm
    have hres := hresO1
    rw [← hy1] at hres
    refine JE.weak (env' := [(5, .int .i64 b1)]) (es' := []) [] ?_ ⟨(by subst hb1; rfl), trivial⟩ (by decide) (by subst hb1; rfl)
    refine JE.code ?_
    refine JX.seq ?_
    refine JX.region ?_
    refine JL.val (yl_move rfl) rfl ?_
    refine JL.val (yl_assign rfl) rfl ?_
    refine JL.nil ?_
    refine JE.code ?_
    refine JX.ret ?_
    obtain rfl := Option.some.inj hres
    refine JE.ret (rs := [.tmp 4]) (vs := [.int .i64 b1]) rfl ⟨rfl, trivial⟩ ?_
    exact fun w' hb hs => ⟨_, _, ⟨rfl, rfl⟩, rfl, hb, hs.sel [] _ (by decide) rfl⟩

/- spec.l02Number -/
def sh141 (q0 : SPanel) (q1 : SPoint) : Option (Int) := Option.bind (sh203 q0 q1.Y) fun x4 => some (w64 (x4 + (w64 ((w64 (q1.X - 1)).tdiv 2))))
def T141 (r : Int) (v : Value) (rs : List Own) : Prop := v = rets [.int .i64 r] ∧ rs = []
set_option maxRecDepth 100000 in
theorem c141 {w : World} {q0 : SPanel} {a_0 : Option Addr} {n_0 : Nat} {a_0_2 : Option Addr} {n_0_2 c_0_2 : Nat} (g_0 : RdAt w a_0 n_0 [.int .i64 q0.W, .int .i64 q0.H, .slice a_0_2 n_0_2 c_0_2]) (g_0_2 : Rd w a_0_2 (eI64.fl q0.Breaks)) (l_0_2 : q0.Breaks.length = n_0_2) (k_0_2 : n_0_2 ≤ c_0_2) {q1 : SPoint} {r : Int} (hres : sh141 q0 q1 = some r) : Calls Go.Proofs.Try.prog 141 [ptrAt a_0 n_0, .agg #[.int .i64 q1.X, .int .i64 q1.Y]].toArray w (Ret w (T141 r)) := by
  subst l_0_2
  obtain ⟨b_0, e_0, g_0⟩ := g_0.norm0
  rw [e_0]
  unfold sh141 at hres
  refine calls_of (n := 14) (M := []) (es := []) Go.Proofs.Try.func141 rfl rfl rfl (Sep.nil _ _ _) ?_
  refine JX.seq ?_
  refine JX.region ?_
  refine JL.eff (ef_box rfl rfl) rfl ?_
  rintro _ _ ⟨g1, rfl, rfl⟩
  refine JL.val (yl_assign rfl) rfl ?_
  refine JL.nil ?_
  refine JE.code ?_
  refine JX.seq ?_
  refine JX.drawH [(0, .pure), (1, .pure), (2, .read), (4, .pure), (5, .read), (6, .pure), (7, .pure), (3, .must), (8, .pure), (9, .pure)] [] [] [0] [] [boxO 42 g1 [.int .i64 q1.X, .int .i64 q1.Y]] mixedP (by kernel_rfl) (by kernel_rfl) (by decide) rfl rfl ?_
  intro wrr3 Nr3 hFr3
  refine JH.pure rfl (yl_move rfl) rfl ?_
  refine JH.pure rfl (yl_fieldAt (a := some _) Go.Proofs.Try.underlying42 rfl i2 i2n rfl rfl) rfl ?_
  refine JH.read rfl (yl_load1 Go.Proofs.Try.underlying2 rfl rfl (fun w hw => hFr3.box 0 rfl rfl hw) rfl) rfl ?_
  refine JH.pure rfl (yl_fieldAt (a := some _) Go.Proofs.Try.underlying42 rfl i2 i2n rfl rfl) rfl ?_
  refine JH.read rfl (yl_load1 Go.Proofs.Try.underlying2 rfl rfl (fun w hw => hFr3.box 0 rfl rfl hw) rfl) rfl ?_
  refine JH.pure rfl (yl_sub rfl rfl) rfl ?_
  refine JH.pure rfl (yl_quo rfl rfl (by decide)) rfl ?_
  obtain ⟨x4, hx4, hres⟩ := bind_some hres
  refine JH.must rfl (ef_call (T := T203 x4) Go.Proofs.Try.func203 rfl (by kernel_rfl) rfl (fun w hC => c203 (RdAt.of0 (hFr3.arg g_0 hC.1)) (hFr3.arg g_0_2 hC.1) rfl k_0_2 hx4)) rfl rfl ?_
  rintro _ _ ⟨_, ⟨rfl, rfl⟩, rfl⟩
  refine JH.pure rfl (yl_add rfl rfl) rfl ?_
  refine JH.pure rfl (yl_assign rfl) rfl ?_
  refine JH.nil ?_
  refine JE.weak (env' := [(4, .int .i64 (w64 (x4 + (w64 ((w64 (q1.X - 1)).tdiv 2)))))]) (es' := []) [] ?_ ⟨rfl, trivial⟩ (by decide) rfl
  refine JE.code ?_
  refine JX.ret ?_
  obtain rfl := Option.some.inj hres
  refine JE.ret (rs := [.tmp 4]) (vs := [.int .i64 (w64 (x4 + (w64 ((w64 (q1.X - 1)).tdiv 2))))]) rfl ⟨rfl, trivial⟩ ?_
  exact fun w' hb hs => ⟨_, _, ⟨rfl, rfl⟩, rfl, hb, hs.sel [] _ (by decide) rfl⟩

/- spec.l02Edge -/
def sh188 (q0 : SPanel) (q1 : SPoint) : Option (Bool) := some ((((q1.X == 0) || (q1.Y == 0)) || (q1.X == (w64 (2 * q0.W)))) || (q1.Y == (w64 (2 * q0.H))))
def T188 (r : Bool) (v : Value) (rs : List Own) : Prop := v = rets [.bool r] ∧ rs = []
set_option maxRecDepth 100000 in
theorem c188 {w : World} {q0 : SPanel} {a_0 : Option Addr} {n_0 : Nat} {a_0_2 : Option Addr} {n_0_2 c_0_2 : Nat} (g_0 : RdAt w a_0 n_0 [.int .i64 q0.W, .int .i64 q0.H, .slice a_0_2 n_0_2 c_0_2]) (g_0_2 : Rd w a_0_2 (eI64.fl q0.Breaks)) (l_0_2 : q0.Breaks.length = n_0_2) (k_0_2 : n_0_2 ≤ c_0_2) {q1 : SPoint} {r : Bool} (hres : sh188 q0 q1 = some r) : Calls Go.Proofs.Try.prog 188 [ptrAt a_0 n_0, .agg #[.int .i64 q1.X, .int .i64 q1.Y]].toArray w (Ret w (T188 r)) := by
  subst l_0_2
  obtain ⟨b_0, e_0, g_0⟩ := g_0.norm0
  rw [e_0]
  unfold sh188 at hres
  refine calls_of (n := 33) (M := []) (es := []) Go.Proofs.Try.func188 rfl rfl rfl (Sep.nil _ _ _) ?_
  refine JX.seq ?_
  refine JX.region ?_
  refine JL.eff (ef_box rfl rfl) rfl ?_
  rintro _ _ ⟨g1, rfl, rfl⟩
  refine JL.val (yl_assign rfl) rfl ?_
  refine JL.nil ?_
  refine JE.code ?_
  refine JX.seq ?_
  refine JX.drawH [(0, .pure), (1, .read), (2, .pure), (3, .pure), (4, .pure), (5, .read), (6, .pure), (7, .pure), (8, .pure), (9, .pure), (10, .read), (11, .pure), (12, .pure), (13, .pure), (14, .read), (15, .pure), (16, .pure), (17, .pure), (18, .pure), (19, .pure), (20, .read), (21, .pure), (22, .pure), (23, .pure), (24, .read), (25, .pure), (26, .pure), (27, .pure), (28, .pure)] [] [] [0] [] [boxO 42 g1 [.int .i64 q1.X, .int .i64 q1.Y]] mixedP (by kernel_rfl) (by kernel_rfl) (by decide) rfl rfl ?_
  intro wrr3 Nr3 hFr3
  refine JH.pure rfl (yl_fieldAt (a := some _) Go.Proofs.Try.underlying42 rfl i2 i2n rfl rfl) rfl ?_
  refine JH.read rfl (yl_load1 Go.Proofs.Try.underlying2 rfl rfl (fun w hw => hFr3.box 0 rfl rfl hw) rfl) rfl ?_
  refine JH.pure rfl (yl_eql rfl rfl) rfl ?_
  refine JH.pure rfl (yl_move rfl) rfl ?_
  refine JH.cut (K := fun J => J [(0, ptrAt b_0 0), (3, ptrAt (some ⟨g1, 0, none⟩) 0), (12, .bool ((q1.X == 0) || (q1.Y == 0)))] []) 4 ?_ ?_
  · refine JH.pure rfl (yl_move rfl) rfl ?_
    refine JH.cut (K := fun J => J [(0, ptrAt b_0 0), (3, ptrAt (some ⟨g1, 0, none⟩) 0), (22, .bool (((q1.X == 0) || (q1.Y == 0)) || (q1.X == (w64 (2 * q0.W)))))] []) 9 ?_ ?_
    · refine JH.pure rfl (yl_move rfl) rfl ?_
      refine JH.cut (K := fun J => J [(32, .bool ((((q1.X == 0) || (q1.Y == 0)) || (q1.X == (w64 (2 * q0.W)))) || (q1.Y == (w64 (2 * q0.H)))))] []) 9 ?_ ?_
      · refine JH.pure rfl (yl_assign rfl) rfl ?_
        refine JH.nil ?_
        refine JE.weak (env' := [(4, .bool ((((q1.X == 0) || (q1.Y == 0)) || (q1.X == (w64 (2 * q0.W)))) || (q1.Y == (w64 (2 * q0.H)))))]) (es' := []) [] ?_ ⟨rfl, trivial⟩ (by decide) rfl
        refine JE.code ?_
        refine JX.ret ?_
        obtain rfl := Option.some.inj hres
        refine JE.ret (rs := [.tmp 4]) (vs := [.bool ((((q1.X == 0) || (q1.Y == 0)) || (q1.X == (w64 (2 * q0.W)))) || (q1.Y == (w64 (2 * q0.H))))]) rfl ⟨rfl, trivial⟩ ?_
        exact fun w' hb hs => ⟨_, _, ⟨rfl, rfl⟩, rfl, hb, hs.sel [] _ (by decide) rfl⟩
      · intro K
        rcases Bool.eq_false_or_eq_true (((q1.X == 0) || (q1.Y == 0)) || (q1.X == (w64 (2 * q0.W)))) with hb | hb
        · refine JH.set (d := 23) (v := .bool true) (congrArg (fun b => some (Value.bool b)) hb) ?_
          refine JH.gskip rfl rfl rfl rfl rfl rfl ?_
          refine JH.gskip rfl rfl rfl rfl rfl rfl ?_
          refine JH.gskip rfl rfl rfl rfl rfl rfl ?_
          refine JH.gskip rfl rfl rfl rfl rfl rfl ?_
          refine JH.gskip rfl rfl rfl rfl rfl rfl ?_
          refine JH.gskip rfl rfl rfl rfl rfl rfl ?_
          refine JH.gskip rfl rfl rfl rfl rfl rfl ?_
          refine JH.gskip rfl rfl rfl rfl rfl rfl ?_
          refine JH.pure rfl (yl_pick_true rfl rfl) rfl ?_
          exact JH.weak [] K ⟨(by rw [hb]; rfl), trivial⟩ (by decide) rfl
        · refine JH.set (d := 23) (v := .bool false) (congrArg (fun b => some (Value.bool b)) hb) ?_
          refine JH.gpure rfl rfl rfl (yl_fieldAt (a := some _) Go.Proofs.Try.underlying42 rfl i2 i2n rfl rfl) rfl ?_
          refine JH.gread rfl rfl rfl (yl_load1 Go.Proofs.Try.underlying2 rfl rfl (fun w hw => hFr3.box 0 rfl rfl hw) rfl) rfl ?_
          refine JH.gpure rfl rfl rfl (yl_move rfl) rfl ?_
          refine JH.gpure rfl rfl rfl (yl_nilCheckAt rfl (Rd.some g_0 (j := 0) rfl)) rfl ?_
          refine JH.gpure rfl rfl rfl (yl_fieldAt Go.Proofs.Try.underlying26 rfl i2 i2n rfl (Rd.some g_0 (j := 0) rfl)) rfl ?_
          refine JH.gread rfl rfl rfl (yl_load1 Go.Proofs.Try.underlying2 rfl rfl (fun w hw => hFr3.arg g_0 hw) rfl) rfl ?_
          refine JH.gpure rfl rfl rfl (yl_mul rfl rfl) rfl ?_
          refine JH.gpure rfl rfl rfl (yl_eql rfl rfl) rfl ?_
          refine JH.pure rfl (yl_pick_false rfl rfl) rfl ?_
          exact JH.weak [] K ⟨(by rw [hb]; rfl), trivial⟩ (by decide) rfl
    · intro K
      rcases Bool.eq_false_or_eq_true ((q1.X == 0) || (q1.Y == 0)) with hb | hb
      · refine JH.set (d := 13) (v := .bool true) (congrArg (fun b => some (Value.bool b)) hb) ?_
        refine JH.gskip rfl rfl rfl rfl rfl rfl ?_
        refine JH.gskip rfl rfl rfl rfl rfl rfl ?_
        refine JH.gskip rfl rfl rfl rfl rfl rfl ?_
        refine JH.gskip rfl rfl rfl rfl rfl rfl ?_
        refine JH.gskip rfl rfl rfl rfl rfl rfl ?_
        refine JH.gskip rfl rfl rfl rfl rfl rfl ?_
        refine JH.gskip rfl rfl rfl rfl rfl rfl ?_
        refine JH.gskip rfl rfl rfl rfl rfl rfl ?_
        refine JH.pure rfl (yl_pick_true rfl rfl) rfl ?_
        exact JH.weak [] K ⟨rfl, rfl, (by rw [hb]; rfl), trivial⟩ (by decide) rfl
      · refine JH.set (d := 13) (v := .bool false) (congrArg (fun b => some (Value.bool b)) hb) ?_
        refine JH.gpure rfl rfl rfl (yl_fieldAt (a := some _) Go.Proofs.Try.underlying42 rfl i2 i2n rfl rfl) rfl ?_
        refine JH.gread rfl rfl rfl (yl_load1 Go.Proofs.Try.underlying2 rfl rfl (fun w hw => hFr3.box 0 rfl rfl hw) rfl) rfl ?_
        refine JH.gpure rfl rfl rfl (yl_move rfl) rfl ?_
        refine JH.gpure rfl rfl rfl (yl_nilCheckAt rfl (Rd.some g_0 (j := 0) rfl)) rfl ?_
        refine JH.gpure rfl rfl rfl (yl_fieldAt Go.Proofs.Try.underlying26 rfl i2 i2n rfl (Rd.some g_0 (j := 0) rfl)) rfl ?_
        refine JH.gread rfl rfl rfl (yl_load1 Go.Proofs.Try.underlying2 rfl rfl (fun w hw => hFr3.arg g_0 hw) rfl) rfl ?_
        refine JH.gpure rfl rfl rfl (yl_mul rfl rfl) rfl ?_
        refine JH.gpure rfl rfl rfl (yl_eql rfl rfl) rfl ?_
        refine JH.pure rfl (yl_pick_false rfl rfl) rfl ?_
        exact JH.weak [] K ⟨rfl, rfl, (by rw [hb]; rfl), trivial⟩ (by decide) rfl
  · intro K
    rcases Bool.eq_false_or_eq_true (q1.X == 0) with hb | hb
    · refine JH.set (d := 8) (v := .bool true) (congrArg (fun b => some (Value.bool b)) hb) ?_
      refine JH.gskip rfl rfl rfl rfl rfl rfl ?_
      refine JH.gskip rfl rfl rfl rfl rfl rfl ?_
      refine JH.gskip rfl rfl rfl rfl rfl rfl ?_
      refine JH.pure rfl (yl_pick_true rfl rfl) rfl ?_
      exact JH.weak [] K ⟨rfl, rfl, (by rw [hb]; rfl), trivial⟩ (by decide) rfl
    · refine JH.set (d := 8) (v := .bool false) (congrArg (fun b => some (Value.bool b)) hb) ?_
      refine JH.gpure rfl rfl rfl (yl_fieldAt (a := some _) Go.Proofs.Try.underlying42 rfl i2 i2n rfl rfl) rfl ?_
      refine JH.gread rfl rfl rfl (yl_load1 Go.Proofs.Try.underlying2 rfl rfl (fun w hw => hFr3.box 0 rfl rfl hw) rfl) rfl ?_
      refine JH.gpure rfl rfl rfl (yl_eql rfl rfl) rfl ?_
      refine JH.pure rfl (yl_pick_false rfl rfl) rfl ?_
      exact JH.weak [] K ⟨rfl, rfl, (by rw [hb]; rfl), trivial⟩ (by decide) rfl

/- spec.l03Next -/
def sh216 (q0 : SWalker) : Option (SPoint) := some (SPoint.mk (w64 (q0.At.X + q0.DX)) (w64 (q0.At.Y + q0.DY)))
def T216 (r : SPoint) (v : Value) (rs : List Own) : Prop := v = rets [.agg #[.int .i64 r.X, .int .i64 r.Y]] ∧ rs = []
set_option maxRecDepth 100000 in
theorem c216 {w : World} {q0 : SWalker} {r : SPoint} (hres : sh216 q0 = some r) : Calls Go.Proofs.Try.prog 216 [.agg #[.int .i64 q0.At.X, .int .i64 q0.At.Y, .int .i64 q0.DX, .int .i64 q0.DY]].toArray w (Ret w (T216 r)) := by
  unfold sh216 at hres
  refine calls_of (n := 16) (M := []) (es := []) Go.Proofs.Try.func216 rfl rfl rfl (Sep.nil _ _ _) ?_
  refine JX.seq ?_
  refine JX.region ?_
  refine JL.eff (ef_box rfl rfl) rfl ?_
  rintro _ _ ⟨g1, rfl, rfl⟩
  refine JL.eff (ef_alloc i42 i42z rfl) rfl ?_
  rintro _ _ ⟨g3, rfl, rfl⟩
  refine JL.nil ?_
  refine JE.code ?_
  refine JX.seq ?_
  refine JX.region ?_
  refine JL.val (yl_fieldAt (a := some _) Go.Proofs.Try.underlying104 rfl i42 i42n rfl rfl) rfl ?_
  refine JL.val (yl_fieldAt (a := some _) Go.Proofs.Try.underlying42 rfl i2 i2n rfl rfl) rfl ?_
  refine JL.val (yl_load1 Go.Proofs.Try.underlying2 rfl rfl (fun w hC => rd_box hC 0 rfl) rfl) rfl ?_
  refine JL.val (yl_fieldAt (a := some _) Go.Proofs.Try.underlying104 rfl i2 i2n rfl rfl) rfl ?_
  refine JL.val (yl_load1 Go.Proofs.Try.underlying2 rfl rfl (fun w hC => rd_box hC 0 rfl) rfl) rfl ?_
  refine JL.val (yl_add rfl rfl) rfl ?_
  refine JL.val (yl_fieldAt (a := some _) Go.Proofs.Try.underlying104 rfl i42 i42n rfl rfl) rfl ?_
  refine JL.val (yl_fieldAt (a := some _) Go.Proofs.Try.underlying42 rfl i2 i2n rfl rfl) rfl ?_
  refine JL.val (yl_load1 Go.Proofs.Try.underlying2 rfl rfl (fun w hC => rd_box hC 0 rfl) rfl) rfl ?_
  refine JL.val (yl_fieldAt (a := some _) Go.Proofs.Try.underlying104 rfl i2 i2n rfl rfl) rfl ?_
  refine JL.val (yl_load1 Go.Proofs.Try.underlying2 rfl rfl (fun w hC => rd_box hC 0 rfl) rfl) rfl ?_
  refine JL.val (yl_add rfl rfl) rfl ?_
  refine JL.val (yl_build rfl (fun w => bld42_0_1 (w64 (q0.At.X + q0.DX)) (w64 (q0.At.Y + q0.DY)) w)) rfl ?_
  refine JL.eff (ef_store_box (i := 1) (v := .agg #[.int .i64 (w64 (q0.At.X + q0.DX)), .int .i64 (w64 (q0.At.Y + q0.DY))]) i42 rfl rfl rfl (i42s).symm (Nat.le_of_ble_eq_true rfl) (by simp [Value.cells, Value.oneCell'])) rfl ?_
  rintro _ _ rfl
  refine JL.nil ?_
  refine JE.weak (env' := [(2, ptrAt (some ⟨g3, 0, none⟩) 0)]) (es' := [boxO 42 g3 [.int .i64 (w64 (q0.At.X + q0.DX)), .int .i64 (w64 (q0.At.Y + q0.DY))]]) [1] ?_ ⟨rfl, trivial⟩ (by decide) rfl
  refine JE.code ?_
  refine JX.ret ?_
  obtain rfl := Option.some.inj hres
  refine JE.ret (rs := [.cell 2 42]) (vs := [.agg #[.int .i64 (w64 (q0.At.X + q0.DX)), .int .i64 (w64 (q0.At.Y + q0.DY))]]) rfl ⟨rv_box 0 rfl rfl Go.Proofs.Try.underlying42 rfl i42 (i42s).symm, trivial⟩ ?_
  exact fun w' hb hs => ⟨_, _, ⟨rfl, rfl⟩, rfl, hb, hs.sel [] _ (by decide) rfl⟩

/- spec.l03Step -/
def sh213 (q0 : SPanel) (q1 : SWalker) : Option (SWalker) := Option.bind (sh216 q1) fun x5 => Option.bind (bif (x5.X == 0) || (x5.X == (w64 (2 * q0.W))) then (some (SWalker.mk x5 (w64 (0 - q1.DX)) q1.DY)) else (some (SWalker.mk x5 q1.DX q1.DY))) fun j11 => (Option.bind (bif (x5.Y == 0) || (x5.Y == (w64 (2 * q0.H))) then (some (SWalker.mk j11.At j11.DX (w64 (0 - j11.DY)))) else (some j11)) fun j13 => (Option.bind (sh188 q0 x5) fun x14 => Option.bind (bif !x14 then (Option.bind (sh141 q0 x5) fun x17 => Option.bind (getI q0.Breaks x17) fun x18 => Option.bind (bif x18 == 1 then (some (SWalker.mk j13.At (w64 (0 - j13.DX)) j13.DY)) else (Option.bind (bif x18 == 2 then (some (SWalker.mk j13.At j13.DX (w64 (0 - j13.DY)))) else (some j13)) fun j20 => (some j20))) fun j19 => (some j19)) else (some j13)) fun j15 => (some j15)))
def T213 (r : SWalker) (v : Value) (rs : List Own) : Prop := v = rets [.agg #[.int .i64 r.At.X, .int .i64 r.At.Y, .int .i64 r.DX, .int .i64 r.DY]] ∧ rs = []
set_option maxRecDepth 100000 in
set_option maxHeartbeats 1000000 in
theorem c213 {w : World} {q0 : SPanel} {a_0 : Option Addr} {n_0 : Nat} {a_0_2 : Option Addr} {n_0_2 c_0_2 : Nat} (g_0 : RdAt w a_0 n_0 [.int .i64 q0.W, .int .i64 q0.H, .slice a_0_2 n_0_2 c_0_2]) (g_0_2 : Rd w a_0_2 (eI64.fl q0.Breaks)) (l_0_2 : q0.Breaks.length = n_0_2) (k_0_2 : n_0_2 ≤ c_0_2) {q1 : SWalker} {r : SWalker} (hres : sh213 q0 q1 = some r) : Calls Go.Proofs.Try.prog 213 [ptrAt a_0 n_0, .agg #[.int .i64 q1.At.X, .int .i64 q1.At.Y, .int .i64 q1.DX, .int .i64 q1.DY]].toArray w (Ret w (T213 r)) := by
  subst l_0_2
  obtain ⟨b_0, e_0, g_0⟩ := g_0.norm0
  rw [e_0]
  unfold sh213 at hres
  refine calls_of (n := 75) (M := []) (es := []) Go.Proofs.Try.func213 rfl rfl rfl (Sep.nil _ _ _) ?_
  refine JX.seq ?_
  refine JX.region ?_
  refine JL.eff (ef_box rfl rfl) rfl ?_
  rintro _ _ ⟨g1, rfl, rfl⟩
  refine JL.eff (ef_alloc i104 i104z rfl) rfl ?_
  rintro _ _ ⟨g3, rfl, rfl⟩
  refine JL.nil ?_
  refine JE.code ?_
  refine JX.seq ?_
  refine JX.region ?_
  refine JL.val (yl_loadn Go.Proofs.Try.underlying104 rfl i104 rfl (fun w hC => rd_box hC 0 rfl) rfl (i104s).symm i104p) rfl ?_
  obtain ⟨x5, hx5, hres⟩ := bind_some hres
  refine JL.eff (ef_call (vs := [.agg #[.int .i64 q1.At.X, .int .i64 q1.At.Y, .int .i64 q1.DX, .int .i64 q1.DY]]) (T := T216 x5) Go.Proofs.Try.func216 rfl (by kernel_rfl) rfl (fun w hC => c216 (q0 := q1) hx5)) rfl ?_
  rintro _ _ ⟨_, ⟨rfl, rfl⟩, rfl⟩
  refine JL.eff (ef_alloc i42 i42z rfl) rfl ?_
  rintro _ _ ⟨g6, rfl, rfl⟩
  refine JL.eff (ef_store_box (i := 2) (v := .agg #[.int .i64 x5.X, .int .i64 x5.Y]) i42 rfl rfl rfl (i42s).symm (Nat.le_of_ble_eq_true rfl) (by simp [Value.cells, Value.oneCell'])) rfl ?_
  rintro _ _ rfl
  refine JL.nil ?_
  refine JE.weak (env' := [(0, ptrAt b_0 0), (3, ptrAt (some ⟨g1, 0, none⟩) 0), (4, ptrAt (some ⟨g3, 0, none⟩) 0), (5, ptrAt (some ⟨g6, 0, none⟩) 0)]) (es' := [boxO 104 g1 [.int .i64 q1.At.X, .int .i64 q1.At.Y, .int .i64 q1.DX, .int .i64 q1.DY], boxO 104 g3 [.int .i64 0, .int .i64 0, .int .i64 0, .int .i64 0], boxO 42 g6 [.int .i64 x5.X, .int .i64 x5.Y]]) [0, 1, 2] ?_ ⟨rfl, rfl, rfl, rfl, trivial⟩ (by decide) rfl
  refine JE.code ?_
  refine JX.seq ?_
  refine JX.region ?_
  refine JL.val (yl_loadn Go.Proofs.Try.underlying42 rfl i42 rfl (fun w hC => rd_box hC 2 rfl) rfl (i42s).symm i42p) rfl ?_
  refine JL.val (yl_fieldAt (a := some _) Go.Proofs.Try.underlying104 rfl i2 i2n rfl rfl) rfl ?_
  refine JL.val (yl_load1 Go.Proofs.Try.underlying2 rfl rfl (fun w hC => rd_box hC 0 rfl) rfl) rfl ?_
  refine JL.val (yl_fieldAt (a := some _) Go.Proofs.Try.underlying104 rfl i2 i2n rfl rfl) rfl ?_
  refine JL.val (yl_load1 Go.Proofs.Try.underlying2 rfl rfl (fun w hC => rd_box hC 0 rfl) rfl) rfl ?_
  refine JL.val (yl_build rfl (fun w => bld104_0_1_2 x5.X x5.Y q1.DX q1.DY w)) rfl ?_
  refine JL.eff (ef_alloc i104 i104z rfl) rfl ?_
  rintro _ _ ⟨g8, rfl, rfl⟩
  refine JL.eff (ef_store_box (i := 3) (v := .agg #[.int .i64 x5.X, .int .i64 x5.Y, .int .i64 q1.DX, .int .i64 q1.DY]) i104 rfl rfl rfl (i104s).symm (Nat.le_of_ble_eq_true rfl) (by simp [Value.cells, Value.oneCell'])) rfl ?_
  rintro _ _ rfl
  refine JL.nil ?_
  refine JE.weak (env' := [(0, ptrAt b_0 0), (4, ptrAt (some ⟨g3, 0, none⟩) 0), (5, ptrAt (some ⟨g6, 0, none⟩) 0), (6, ptrAt (some ⟨g8, 0, none⟩) 0)]) (es' := [boxO 104 g3 [.int .i64 0, .int .i64 0, .int .i64 0, .int .i64 0], boxO 42 g6 [.int .i64 x5.X, .int .i64 x5.Y], boxO 104 g8 [.int .i64 x5.X, .int .i64 x5.Y, .int .i64 q1.DX, .int .i64 q1.DY]]) [1, 2, 3] ?_ ⟨rfl, rfl, rfl, rfl, trivial⟩ (by decide) rfl
  refine JE.code ?_
  refine JX.seq ?_
  refine JX.seq ?_
  refine JX.drawH [(0, .pure), (1, .read), (2, .pure), (3, .pure), (4, .pure), (5, .read), (6, .pure), (7, .pure), (8, .pure), (9, .read), (10, .pure), (11, .pure), (12, .pure)] [] [] [0, 1, 2] [] [boxO 104 g3 [.int .i64 0, .int .i64 0, .int .i64 0, .int .i64 0], boxO 42 g6 [.int .i64 x5.X, .int .i64 x5.Y], boxO 104 g8 [.int .i64 x5.X, .int .i64 x5.Y, .int .i64 q1.DX, .int .i64 q1.DY]] mixedP (by kernel_rfl) (by kernel_rfl) (by decide) rfl rfl ?_
  intro wrr10 Nr10 hFr10
  refine JH.pure rfl (yl_fieldAt (a := some _) Go.Proofs.Try.underlying42 rfl i2 i2n rfl rfl) rfl ?_
  refine JH.read rfl (yl_load1 Go.Proofs.Try.underlying2 rfl rfl (fun w hw => hFr10.box 1 rfl rfl hw) rfl) rfl ?_
  refine JH.pure rfl (yl_eql rfl rfl) rfl ?_
  refine JH.pure rfl (yl_move rfl) rfl ?_
  refine JH.cut (K := fun J => J [(0, ptrAt b_0 0), (4, ptrAt (some ⟨g3, 0, none⟩) 0), (5, ptrAt (some ⟨g6, 0, none⟩) 0), (6, ptrAt (some ⟨g8, 0, none⟩) 0), (27, .bool ((x5.X == 0) || (x5.X == (w64 (2 * q0.W)))))] []) 9 ?_ ?_
  · refine JH.nil ?_
    refine JE.weak (env' := [(0, ptrAt b_0 0), (4, ptrAt (some ⟨g3, 0, none⟩) 0), (5, ptrAt (some ⟨g6, 0, none⟩) 0), (6, ptrAt (some ⟨g8, 0, none⟩) 0), (27, .bool ((x5.X == 0) || (x5.X == (w64 (2 * q0.W)))))]) (es' := [boxO 104 g3 [.int .i64 0, .int .i64 0, .int .i64 0, .int .i64 0], boxO 42 g6 [.int .i64 x5.X, .int .i64 x5.Y], boxO 104 g8 [.int .i64 x5.X, .int .i64 x5.Y, .int .i64 q1.DX, .int .i64 q1.DY]]) [0, 1, 2] ?_ ⟨rfl, rfl, rfl, rfl, rfl, trivial⟩ (by decide) rfl
    refine JE.code ?_
    obtain ⟨j11, hj11, hresj11⟩ := bind_some hres
    refine JX.cut (K := fun J => J [(0, ptrAt b_0 0), (4, ptrAt (some ⟨g3, 0, none⟩) 0), (5, ptrAt (some ⟨g6, 0, none⟩) 0), (6, ptrAt (some ⟨g8, 0, none⟩) 0)] [boxO 104 g3 [.int .i64 0, .int .i64 0, .int .i64 0, .int .i64 0], boxO 42 g6 [.int .i64 x5.X, .int .i64 x5.Y], boxO 104 g8 [.int .i64 j11.At.X, .int .i64 j11.At.Y, .int .i64 j11.DX, .int .i64 j11.DY]]) ?_ ?_
    · have hres := hresj11
      refine JE.code ?_
      refine JX.seq ?_
      refine JX.seq ?_
      refine JX.drawH [(0, .pure), (1, .read), (2, .pure), (3, .pure), (4, .pure), (5, .read), (6, .pure), (7, .pure), (8, .pure), (9, .read), (10, .pure), (11, .pure), (12, .pure)] [] [] [0, 1, 2] [] [boxO 104 g3 [.int .i64 0, .int .i64 0, .int .i64 0, .int .i64 0], boxO 42 g6 [.int .i64 x5.X, .int .i64 x5.Y], boxO 104 g8 [.int .i64 j11.At.X, .int .i64 j11.At.Y, .int .i64 j11.DX, .int .i64 j11.DY]] mixedP (by kernel_rfl) (by kernel_rfl) (by decide) rfl rfl ?_
      intro wrr12 Nr12 hFr12
      refine JH.pure rfl (yl_fieldAt (a := some _) Go.Proofs.Try.underlying42 rfl i2 i2n rfl rfl) rfl ?_
      refine JH.read rfl (yl_load1 Go.Proofs.Try.underlying2 rfl rfl (fun w hw => hFr12.box 1 rfl rfl hw) rfl) rfl ?_
      refine JH.pure rfl (yl_eql rfl rfl) rfl ?_
      refine JH.pure rfl (yl_move rfl) rfl ?_
      refine JH.cut (K := fun J => J [(0, ptrAt b_0 0), (4, ptrAt (some ⟨g3, 0, none⟩) 0), (5, ptrAt (some ⟨g6, 0, none⟩) 0), (6, ptrAt (some ⟨g8, 0, none⟩) 0), (44, .bool ((x5.Y == 0) || (x5.Y == (w64 (2 * q0.H)))))] []) 9 ?_ ?_
      · refine JH.nil ?_
        refine JE.weak (env' := [(0, ptrAt b_0 0), (4, ptrAt (some ⟨g3, 0, none⟩) 0), (5, ptrAt (some ⟨g6, 0, none⟩) 0), (6, ptrAt (some ⟨g8, 0, none⟩) 0), (44, .bool ((x5.Y == 0) || (x5.Y == (w64 (2 * q0.H)))))]) (es' := [boxO 104 g3 [.int .i64 0, .int .i64 0, .int .i64 0, .int .i64 0], boxO 42 g6 [.int .i64 x5.X, .int .i64 x5.Y], boxO 104 g8 [.int .i64 j11.At.X, .int .i64 j11.At.Y, .int .i64 j11.DX, .int .i64 j11.DY]]) [0, 1, 2] ?_ ⟨rfl, rfl, rfl, rfl, rfl, trivial⟩ (by decide) rfl
        refine JE.code ?_
        obtain ⟨j13, hj13, hresj13⟩ := bind_some hres
        refine JX.cut (K := fun J => J [(0, ptrAt b_0 0), (4, ptrAt (some ⟨g3, 0, none⟩) 0), (5, ptrAt (some ⟨g6, 0, none⟩) 0), (6, ptrAt (some ⟨g8, 0, none⟩) 0)] [boxO 104 g3 [.int .i64 0, .int .i64 0, .int .i64 0, .int .i64 0], boxO 42 g6 [.int .i64 x5.X, .int .i64 x5.Y], boxO 104 g8 [.int .i64 j13.At.X, .int .i64 j13.At.Y, .int .i64 j13.DX, .int .i64 j13.DY]]) ?_ ?_
        · have hres := hresj13
          refine JE.code ?_
          refine JX.seq ?_
          refine JX.seq ?_
          refine JX.region ?_
          refine JL.val (yl_move rfl) rfl ?_
          refine JL.val (yl_loadn Go.Proofs.Try.underlying42 rfl i42 rfl (fun w hC => rd_box hC 1 rfl) rfl (i42s).symm i42p) rfl ?_
          obtain ⟨x14, hx14, hres⟩ := bind_some hres
          refine JL.eff (ef_call (vs := [ptrAt b_0 0, .agg #[.int .i64 x5.X, .int .i64 x5.Y]]) (T := T188 x14) Go.Proofs.Try.func188 rfl (by kernel_rfl) rfl (fun w hC => c188 (q1 := x5) (RdAt.of0 (rd_arg g_0 hC)) (rd_arg g_0_2 hC) rfl k_0_2 hx14)) rfl ?_
          rintro _ _ ⟨_, ⟨rfl, rfl⟩, rfl⟩
          refine JL.val (yl_not rfl) rfl ?_
          refine JL.nil ?_
          refine JE.weak (env' := [(0, ptrAt b_0 0), (4, ptrAt (some ⟨g3, 0, none⟩) 0), (5, ptrAt (some ⟨g6, 0, none⟩) 0), (6, ptrAt (some ⟨g8, 0, none⟩) 0), (52, .bool !x14)]) (es' := [boxO 104 g3 [.int .i64 0, .int .i64 0, .int .i64 0, .int .i64 0], boxO 42 g6 [.int .i64 x5.X, .int .i64 x5.Y], boxO 104 g8 [.int .i64 j13.At.X, .int .i64 j13.At.Y, .int .i64 j13.DX, .int .i64 j13.DY]]) [0, 1, 2] ?_ ⟨rfl, rfl, rfl, rfl, rfl, trivial⟩ (by decide) rfl
          refine JE.code ?_
          obtain ⟨j15, hj15, hresj15⟩ := bind_some hres
          refine JX.cut (K := fun J => J [(4, ptrAt (some ⟨g3, 0, none⟩) 0), (6, ptrAt (some ⟨g8, 0, none⟩) 0)] [boxO 104 g3 [.int .i64 0, .int .i64 0, .int .i64 0, .int .i64 0], boxO 104 g8 [.int .i64 j15.At.X, .int .i64 j15.At.Y, .int .i64 j15.DX, .int .i64 j15.DY]]) ?_ ?_
          · have hres := hresj15
            refine JE.code ?_
            refine JX.seq ?_
            refine JX.region ?_
            refine JL.val (yl_loadn Go.Proofs.Try.underlying104 rfl i104 rfl (fun w hC => rd_box hC 1 rfl) rfl (i104s).symm i104p) rfl ?_
            refine JL.eff (ef_store_box (i := 0) (v := .agg #[.int .i64 j15.At.X, .int .i64 j15.At.Y, .int .i64 j15.DX, .int .i64 j15.DY]) i104 rfl rfl rfl (i104s).symm (Nat.le_of_ble_eq_true rfl) (by simp [Value.cells, Value.oneCell'])) rfl ?_
            rintro _ _ rfl
            refine JL.nil ?_
            refine JE.weak (env' := [(4, ptrAt (some ⟨g3, 0, none⟩) 0)]) (es' := [boxO 104 g3 [.int .i64 j15.At.X, .int .i64 j15.At.Y, .int .i64 j15.DX, .int .i64 j15.DY]]) [0] ?_ ⟨rfl, trivial⟩ (by decide) rfl
            refine JE.code ?_
            refine JX.ret ?_
            obtain rfl := Option.some.inj hres
            refine JE.ret (rs := [.cell 4 104]) (vs := [.agg #[.int .i64 j15.At.X, .int .i64 j15.At.Y, .int .i64 j15.DX, .int .i64 j15.DY]]) rfl ⟨rv_box 0 rfl rfl Go.Proofs.Try.underlying104 rfl i104 (i104s).symm, trivial⟩ ?_
            exact fun w' hb hs => ⟨_, _, ⟨rfl, rfl⟩, rfl, hb, hs.sel [] _ (by decide) rfl⟩
          · intro K
            rcases cond_some hj15 with ⟨hb, hres⟩ | ⟨hb, hres⟩
            · refine JX.condT rfl hb ?_
              refine JX.seq ?_
              refine JX.drawH [(0, .pure), (1, .pure), (2, .pure), (3, .read), (4, .pure), (5, .read), (6, .must), (7, .pure), (8, .read)] [] [] [0, 1, 2] [] [boxO 104 g3 [.int .i64 0, .int .i64 0, .int .i64 0, .int .i64 0], boxO 42 g6 [.int .i64 x5.X, .int .i64 x5.Y], boxO 104 g8 [.int .i64 j13.At.X, .int .i64 j13.At.Y, .int .i64 j13.DX, .int .i64 j13.DY]] mixedP (by kernel_rfl) (by kernel_rfl) (by decide) rfl rfl ?_
              intro wrr16 Nr16 hFr16
              refine JH.pure rfl (yl_move rfl) rfl ?_
              refine JH.pure rfl (yl_nilCheckAt rfl (Rd.some g_0 (j := 0) rfl)) rfl ?_
              refine JH.pure rfl (yl_fieldAt Go.Proofs.Try.underlying26 rfl i24 i24n rfl (Rd.some g_0 (j := 0) rfl)) rfl ?_
              refine JH.read rfl (yl_load1 Go.Proofs.Try.underlying24 rfl rfl (fun w hw => hFr16.arg g_0 hw) rfl) rfl ?_
              refine JH.pure rfl (yl_move rfl) rfl ?_
              refine JH.read rfl (yl_loadn Go.Proofs.Try.underlying42 rfl i42 rfl (fun w hw => hFr16.box 1 rfl rfl hw) rfl (i42s).symm i42p) rfl ?_
              obtain ⟨x17, hx17, hres⟩ := bind_some hres
              refine JH.must rfl (ef_call (vs := [ptrAt b_0 0, .agg #[.int .i64 x5.X, .int .i64 x5.Y]]) (T := T141 x17) Go.Proofs.Try.func141 rfl (by kernel_rfl) rfl (fun w hC => c141 (q1 := x5) (RdAt.of0 (hFr16.arg g_0 hC.1)) (hFr16.arg g_0_2 hC.1) rfl k_0_2 hx17)) rfl rfl ?_
              rintro _ _ ⟨_, ⟨rfl, rfl⟩, rfl⟩
              obtain ⟨x18, hx18, hres⟩ := bind_some hres
              refine JH.pure rfl (yl_idxQ Go.Proofs.Try.underlying24 i2 i2s rfl rfl hx18 rfl (rd_arg g_0_2 hFr16.cl) rfl) rfl ?_
              refine JH.read rfl (yl_loadT0 Go.Proofs.Try.underlying2 rfl rfl hx18 (fun w hw => hFr16.arg g_0_2 hw) rfl) rfl ?_
              refine JH.nil ?_
              refine JE.weak (env' := [(4, ptrAt (some ⟨g3, 0, none⟩) 0), (6, ptrAt (some ⟨g8, 0, none⟩) 0), (61, .int .i64 x18)]) (es' := [boxO 104 g3 [.int .i64 0, .int .i64 0, .int .i64 0, .int .i64 0], boxO 104 g8 [.int .i64 j13.At.X, .int .i64 j13.At.Y, .int .i64 j13.DX, .int .i64 j13.DY]]) [0, 2] ?_ ⟨rfl, rfl, rfl, trivial⟩ (by decide) rfl
              refine JE.code ?_
              refine JX.block ?_
              refine JX.seq ?_
              refine JX.region ?_
              refine JL.val (yl_eql rfl rfl) rfl ?_
              refine JL.val (yl_assign rfl) rfl ?_
              refine JL.nil ?_
              refine JE.code ?_
              obtain ⟨j19, hj19, hresj19⟩ := bind_some hres
              refine JX.cut (K := fun J => J [(4, ptrAt (some ⟨g3, 0, none⟩) 0), (6, ptrAt (some ⟨g8, 0, none⟩) 0)] [boxO 104 g3 [.int .i64 0, .int .i64 0, .int .i64 0, .int .i64 0], boxO 104 g8 [.int .i64 j19.At.X, .int .i64 j19.At.Y, .int .i64 j19.DX, .int .i64 j19.DY]]) ?_ ?_
              · have hres := hresj19
                have hj := Option.some.inj hres
                exact JE.weak [0, 1] (K) ⟨(by subst hj; rfl), (by subst hj; rfl), trivial⟩ (by decide) (by subst hj; rfl)
              · intro K
                rcases cond_some hj19 with ⟨hb, hres⟩ | ⟨hb, hres⟩
                · refine JX.condT rfl hb ?_
                  refine JX.region ?_
                  refine JL.val (yl_fieldAt (a := some _) Go.Proofs.Try.underlying104 rfl i2 i2n rfl rfl) rfl ?_
                  refine JL.val (yl_load1 Go.Proofs.Try.underlying2 rfl rfl (fun w hC => rd_box hC 1 rfl) rfl) rfl ?_
                  refine JL.val (yl_neg rfl) rfl ?_
                  refine JL.val (yl_fieldAt (a := some _) Go.Proofs.Try.underlying104 rfl i2 i2n rfl rfl) rfl ?_
                  refine JL.eff (ef_store_box (i := 1) (v := .int .i64 (w64 (0 - j13.DX))) i2 rfl rfl rfl (i2s).symm (Nat.le_of_ble_eq_true rfl) (by simp [Value.cells, Value.oneCell'])) rfl ?_
                  rintro _ _ rfl
                  refine JL.nil ?_
                  refine JE.weak (env' := [(4, ptrAt (some ⟨g3, 0, none⟩) 0), (6, ptrAt (some ⟨g8, 0, none⟩) 0)]) (es' := [boxO 104 g3 [.int .i64 0, .int .i64 0, .int .i64 0, .int .i64 0], boxO 104 g8 [.int .i64 j13.At.X, .int .i64 j13.At.Y, .int .i64 (w64 (0 - j13.DX)), .int .i64 j13.DY]]) [0, 1] ?_ ⟨rfl, rfl, trivial⟩ (by decide) rfl
                  have hj := Option.some.inj hres
                  exact JE.weak [0, 1] (K) ⟨(by subst hj; rfl), (by subst hj; rfl), trivial⟩ (by decide) (by subst hj; rfl)
                · refine JX.condF rfl hb ?_
                  refine JX.seq ?_
                  refine JX.region ?_
                  refine JL.val (yl_eql rfl rfl) rfl ?_
                  refine JL.val (yl_assign rfl) rfl ?_
                  refine JL.nil ?_
                  refine JE.code ?_
                  obtain ⟨j20, hj20, hresj20⟩ := bind_some hres
                  refine JX.cut (K := fun J => J [(4, ptrAt (some ⟨g3, 0, none⟩) 0), (6, ptrAt (some ⟨g8, 0, none⟩) 0)] [boxO 104 g3 [.int .i64 0, .int .i64 0, .int .i64 0, .int .i64 0], boxO 104 g8 [.int .i64 j20.At.X, .int .i64 j20.At.Y, .int .i64 j20.DX, .int .i64 j20.DY]]) ?_ ?_
                  · have hres := hresj20
                    have hj := Option.some.inj hres
                    exact JE.weak [0, 1] (K) ⟨(by subst hj; rfl), (by subst hj; rfl), trivial⟩ (by decide) (by subst hj; rfl)
                  · intro K
                    rcases cond_some hj20 with ⟨hb, hres⟩ | ⟨hb, hres⟩
                    · refine JX.condT rfl hb ?_
                      refine JX.region ?_
                      refine JL.val (yl_fieldAt (a := some _) Go.Proofs.Try.underlying104 rfl i2 i2n rfl rfl) rfl ?_
                      refine JL.val (yl_load1 Go.Proofs.Try.underlying2 rfl rfl (fun w hC => rd_box hC 1 rfl) rfl) rfl ?_
                      refine JL.val (yl_neg rfl) rfl ?_
                      refine JL.val (yl_fieldAt (a := some _) Go.Proofs.Try.underlying104 rfl i2 i2n rfl rfl) rfl ?_
                      refine JL.eff (ef_store_box (i := 1) (v := .int .i64 (w64 (0 - j13.DY))) i2 rfl rfl rfl (i2s).symm (Nat.le_of_ble_eq_true rfl) (by simp [Value.cells, Value.oneCell'])) rfl ?_
                      rintro _ _ rfl
                      refine JL.nil ?_
                      refine JE.weak (env' := [(4, ptrAt (some ⟨g3, 0, none⟩) 0), (6, ptrAt (some ⟨g8, 0, none⟩) 0)]) (es' := [boxO 104 g3 [.int .i64 0, .int .i64 0, .int .i64 0, .int .i64 0], boxO 104 g8 [.int .i64 j13.At.X, .int .i64 j13.At.Y, .int .i64 j13.DX, .int .i64 (w64 (0 - j13.DY))]]) [0, 1] ?_ ⟨rfl, rfl, trivial⟩ (by decide) rfl
                      have hj := Option.some.inj hres
                      exact JE.weak [0, 1] (K) ⟨(by subst hj; rfl), (by subst hj; rfl), trivial⟩ (by decide) (by subst hj; rfl)
                    · refine JX.condF rfl hb ?_
                      refine JX.skip ?_
                      have hj := Option.some.inj hres
                      exact JE.weak [0, 1] (K) ⟨(by subst hj; rfl), (by subst hj; rfl), trivial⟩ (by decide) (by subst hj; rfl)
            · refine JX.condF rfl hb ?_
              refine JX.skip ?_
              have hj := Option.some.inj hres
              exact JE.weak [0, 2] (K) ⟨(by subst hj; rfl), (by subst hj; rfl), trivial⟩ (by decide) (by subst hj; rfl)
        · intro K
          rcases cond_some hj13 with ⟨hb, hres⟩ | ⟨hb, hres⟩
          · refine JX.condT rfl hb ?_
            refine JX.region ?_
            refine JL.val (yl_fieldAt (a := some _) Go.Proofs.Try.underlying104 rfl i2 i2n rfl rfl) rfl ?_
            refine JL.val (yl_load1 Go.Proofs.Try.underlying2 rfl rfl (fun w hC => rd_box hC 2 rfl) rfl) rfl ?_
            refine JL.val (yl_neg rfl) rfl ?_
            refine JL.val (yl_fieldAt (a := some _) Go.Proofs.Try.underlying104 rfl i2 i2n rfl rfl) rfl ?_
            refine JL.eff (ef_store_box (i := 2) (v := .int .i64 (w64 (0 - j11.DY))) i2 rfl rfl rfl (i2s).symm (Nat.le_of_ble_eq_true rfl) (by simp [Value.cells, Value.oneCell'])) rfl ?_
            rintro _ _ rfl
            refine JL.nil ?_
            refine JE.weak (env' := [(0, ptrAt b_0 0), (4, ptrAt (some ⟨g3, 0, none⟩) 0), (5, ptrAt (some ⟨g6, 0, none⟩) 0), (6, ptrAt (some ⟨g8, 0, none⟩) 0)]) (es' := [boxO 104 g3 [.int .i64 0, .int .i64 0, .int .i64 0, .int .i64 0], boxO 42 g6 [.int .i64 x5.X, .int .i64 x5.Y], boxO 104 g8 [.int .i64 j11.At.X, .int .i64 j11.At.Y, .int .i64 j11.DX, .int .i64 (w64 (0 - j11.DY))]]) [0, 1, 2] ?_ ⟨rfl, rfl, rfl, rfl, trivial⟩ (by decide) rfl
            have hj := Option.some.inj hres
            exact JE.weak [0, 1, 2] (K) ⟨(by subst hj; rfl), (by subst hj; rfl), (by subst hj; rfl), (by subst hj; rfl), trivial⟩ (by decide) (by subst hj; rfl)
          · refine JX.condF rfl hb ?_
            refine JX.skip ?_
            have hj := Option.some.inj hres
            exact JE.weak [0, 1, 2] (K) ⟨(by subst hj; rfl), (by subst hj; rfl), (by subst hj; rfl), (by subst hj; rfl), trivial⟩ (by decide) (by subst hj; rfl)
      · intro K
        rcases Bool.eq_false_or_eq_true (x5.Y == 0) with hb | hb
        · refine JH.set (d := 35) (v := .bool true) (congrArg (fun b => some (Value.bool b)) hb) ?_
          refine JH.gskip rfl rfl rfl rfl rfl rfl ?_
          refine JH.gskip rfl rfl rfl rfl rfl rfl ?_
          refine JH.gskip rfl rfl rfl rfl rfl rfl ?_
          refine JH.gskip rfl rfl rfl rfl rfl rfl ?_
          refine JH.gskip rfl rfl rfl rfl rfl rfl ?_
          refine JH.gskip rfl rfl rfl rfl rfl rfl ?_
          refine JH.gskip rfl rfl rfl rfl rfl rfl ?_
          refine JH.gskip rfl rfl rfl rfl rfl rfl ?_
          refine JH.pure rfl (yl_pick_true rfl rfl) rfl ?_
          exact JH.weak [] K ⟨rfl, rfl, rfl, rfl, (by rw [hb]; rfl), trivial⟩ (by decide) rfl
        · refine JH.set (d := 35) (v := .bool false) (congrArg (fun b => some (Value.bool b)) hb) ?_
          refine JH.gpure rfl rfl rfl (yl_fieldAt (a := some _) Go.Proofs.Try.underlying42 rfl i2 i2n rfl rfl) rfl ?_
          refine JH.gread rfl rfl rfl (yl_load1 Go.Proofs.Try.underlying2 rfl rfl (fun w hw => hFr12.box 1 rfl rfl hw) rfl) rfl ?_
          refine JH.gpure rfl rfl rfl (yl_move rfl) rfl ?_
          refine JH.gpure rfl rfl rfl (yl_nilCheckAt rfl (Rd.some g_0 (j := 0) rfl)) rfl ?_
          refine JH.gpure rfl rfl rfl (yl_fieldAt Go.Proofs.Try.underlying26 rfl i2 i2n rfl (Rd.some g_0 (j := 0) rfl)) rfl ?_
          refine JH.gread rfl rfl rfl (yl_load1 Go.Proofs.Try.underlying2 rfl rfl (fun w hw => hFr12.arg g_0 hw) rfl) rfl ?_
          refine JH.gpure rfl rfl rfl (yl_mul rfl rfl) rfl ?_
          refine JH.gpure rfl rfl rfl (yl_eql rfl rfl) rfl ?_
          refine JH.pure rfl (yl_pick_false rfl rfl) rfl ?_
          exact JH.weak [] K ⟨rfl, rfl, rfl, rfl, (by rw [hb]; rfl), trivial⟩ (by decide) rfl
    · intro K
      rcases cond_some hj11 with ⟨hb, hres⟩ | ⟨hb, hres⟩
      · refine JX.condT rfl hb ?_
        refine JX.region ?_
        refine JL.val (yl_fieldAt (a := some _) Go.Proofs.Try.underlying104 rfl i2 i2n rfl rfl) rfl ?_
        refine JL.val (yl_load1 Go.Proofs.Try.underlying2 rfl rfl (fun w hC => rd_box hC 2 rfl) rfl) rfl ?_
        refine JL.val (yl_neg rfl) rfl ?_
        refine JL.val (yl_fieldAt (a := some _) Go.Proofs.Try.underlying104 rfl i2 i2n rfl rfl) rfl ?_
        refine JL.eff (ef_store_box (i := 2) (v := .int .i64 (w64 (0 - q1.DX))) i2 rfl rfl rfl (i2s).symm (Nat.le_of_ble_eq_true rfl) (by simp [Value.cells, Value.oneCell'])) rfl ?_
        rintro _ _ rfl
        refine JL.nil ?_
        refine JE.weak (env' := [(0, ptrAt b_0 0), (4, ptrAt (some ⟨g3, 0, none⟩) 0), (5, ptrAt (some ⟨g6, 0, none⟩) 0), (6, ptrAt (some ⟨g8, 0, none⟩) 0)]) (es' := [boxO 104 g3 [.int .i64 0, .int .i64 0, .int .i64 0, .int .i64 0], boxO 42 g6 [.int .i64 x5.X, .int .i64 x5.Y], boxO 104 g8 [.int .i64 x5.X, .int .i64 x5.Y, .int .i64 (w64 (0 - q1.DX)), .int .i64 q1.DY]]) [0, 1, 2] ?_ ⟨rfl, rfl, rfl, rfl, trivial⟩ (by decide) rfl
        have hj := Option.some.inj hres
        exact JE.weak [0, 1, 2] (K) ⟨(by subst hj; rfl), (by subst hj; rfl), (by subst hj; rfl), (by subst hj; rfl), trivial⟩ (by decide) (by subst hj; rfl)
      · refine JX.condF rfl hb ?_
        refine JX.skip ?_
        have hj := Option.some.inj hres
        exact JE.weak [0, 1, 2] (K) ⟨(by subst hj; rfl), (by subst hj; rfl), (by subst hj; rfl), (by subst hj; rfl), trivial⟩ (by decide) (by subst hj; rfl)
  · intro K
    rcases Bool.eq_false_or_eq_true (x5.X == 0) with hb | hb
    · refine JH.set (d := 18) (v := .bool true) (congrArg (fun b => some (Value.bool b)) hb) ?_
      refine JH.gskip rfl rfl rfl rfl rfl rfl ?_
      refine JH.gskip rfl rfl rfl rfl rfl rfl ?_
      refine JH.gskip rfl rfl rfl rfl rfl rfl ?_
      refine JH.gskip rfl rfl rfl rfl rfl rfl ?_
      refine JH.gskip rfl rfl rfl rfl rfl rfl ?_
      refine JH.gskip rfl rfl rfl rfl rfl rfl ?_
      refine JH.gskip rfl rfl rfl rfl rfl rfl ?_
      refine JH.gskip rfl rfl rfl rfl rfl rfl ?_
      refine JH.pure rfl (yl_pick_true rfl rfl) rfl ?_
      exact JH.weak [] K ⟨rfl, rfl, rfl, rfl, (by rw [hb]; rfl), trivial⟩ (by decide) rfl
    · refine JH.set (d := 18) (v := .bool false) (congrArg (fun b => some (Value.bool b)) hb) ?_
      refine JH.gpure rfl rfl rfl (yl_fieldAt (a := some _) Go.Proofs.Try.underlying42 rfl i2 i2n rfl rfl) rfl ?_
      refine JH.gread rfl rfl rfl (yl_load1 Go.Proofs.Try.underlying2 rfl rfl (fun w hw => hFr10.box 1 rfl rfl hw) rfl) rfl ?_
      refine JH.gpure rfl rfl rfl (yl_move rfl) rfl ?_
      refine JH.gpure rfl rfl rfl (yl_nilCheckAt rfl (Rd.some g_0 (j := 0) rfl)) rfl ?_
      refine JH.gpure rfl rfl rfl (yl_fieldAt Go.Proofs.Try.underlying26 rfl i2 i2n rfl (Rd.some g_0 (j := 0) rfl)) rfl ?_
      refine JH.gread rfl rfl rfl (yl_load1 Go.Proofs.Try.underlying2 rfl rfl (fun w hw => hFr10.arg g_0 hw) rfl) rfl ?_
      refine JH.gpure rfl rfl rfl (yl_mul rfl rfl) rfl ?_
      refine JH.gpure rfl rfl rfl (yl_eql rfl rfl) rfl ?_
      refine JH.pure rfl (yl_pick_false rfl rfl) rfl ?_
      exact JH.weak [] K ⟨rfl, rfl, rfl, rfl, (by rw [hb]; rfl), trivial⟩ (by decide) rfl

/- spec.l03Left -/
def sh217 (q0 : SWalker) : Option (SPoint × Int) := Option.bind (sh216 q0) fun x5 => bif q0.DX == 1 then (some (q0.At, x5.Y)) else (some (x5, q0.At.Y))
def T217 (r : SPoint × Int) (v : Value) (rs : List Own) : Prop := v = rets [.agg #[.int .i64 r.1.X, .int .i64 r.1.Y], .int .i64 r.2] ∧ rs = []
set_option maxRecDepth 100000 in
theorem c217 {w : World} {q0 : SWalker} {r : SPoint × Int} (hres : sh217 q0 = some r) : Calls Go.Proofs.Try.prog 217 [.agg #[.int .i64 q0.At.X, .int .i64 q0.At.Y, .int .i64 q0.DX, .int .i64 q0.DY]].toArray w (Ret w (T217 r)) := by
  unfold sh217 at hres
  refine calls_of (n := 18) (M := []) (es := []) Go.Proofs.Try.func217 rfl rfl rfl (Sep.nil _ _ _) ?_
  refine JX.seq ?_
  refine JX.region ?_
  refine JL.eff (ef_box rfl rfl) rfl ?_
  rintro _ _ ⟨g1, rfl, rfl⟩
  refine JL.eff (ef_alloc i42 i42z rfl) rfl ?_
  rintro _ _ ⟨g3, rfl, rfl⟩
  refine JL.val (yl_assign rfl) rfl ?_
  refine JL.nil ?_
  refine JE.code ?_
  refine JX.seq ?_
  refine JX.region ?_
  refine JL.val (yl_loadn Go.Proofs.Try.underlying104 rfl i104 rfl (fun w hC => rd_box hC 0 rfl) rfl (i104s).symm i104p) rfl ?_
  obtain ⟨x5, hx5, hres⟩ := bind_some hres
  refine JL.eff (ef_call (vs := [.agg #[.int .i64 q0.At.X, .int .i64 q0.At.Y, .int .i64 q0.DX, .int .i64 q0.DY]]) (T := T216 x5) Go.Proofs.Try.func216 rfl (by kernel_rfl) rfl (fun w hC => c216 (q0 := q0) hx5)) rfl ?_
  rintro _ _ ⟨_, ⟨rfl, rfl⟩, rfl⟩
  refine JL.eff (ef_alloc i42 i42z rfl) rfl ?_
  rintro _ _ ⟨g6, rfl, rfl⟩
  refine JL.eff (ef_store_box (i := 2) (v := .agg #[.int .i64 x5.X, .int .i64 x5.Y]) i42 rfl rfl rfl (i42s).symm (Nat.le_of_ble_eq_true rfl) (by simp [Value.cells, Value.oneCell'])) rfl ?_
  rintro _ _ rfl
  refine JL.nil ?_
  refine JE.weak (env' := [(1, ptrAt (some ⟨g1, 0, none⟩) 0), (2, ptrAt (some ⟨g3, 0, none⟩) 0), (4, ptrAt (some ⟨g6, 0, none⟩) 0)]) (es' := [boxO 104 g1 [.int .i64 q0.At.X, .int .i64 q0.At.Y, .int .i64 q0.DX, .int .i64 q0.DY], boxO 42 g3 [.int .i64 0, .int .i64 0], boxO 42 g6 [.int .i64 x5.X, .int .i64 x5.Y]]) [0, 1, 2] ?_ ⟨rfl, rfl, rfl, trivial⟩ (by decide) rfl
  refine JE.code ?_
  refine JX.seq ?_
  refine JX.seq ?_
  refine JX.region ?_
  refine JL.val (yl_fieldAt (a := some _) Go.Proofs.Try.underlying104 rfl i2 i2n rfl rfl) rfl ?_
  refine JL.val (yl_load1 Go.Proofs.Try.underlying2 rfl rfl (fun w hC => rd_box hC 0 rfl) rfl) rfl ?_
  refine JL.val (yl_eql rfl rfl) rfl ?_
  refine JL.nil ?_
  refine JE.code ?_
  rcases cond_some hres with ⟨hb, hres⟩ | ⟨hb, hres⟩
  · refine JX.condT rfl hb ?_
    refine JX.seq ?_
    refine JX.drawH [(0, .pure), (1, .read), (2, .pure), (3, .read), (4, .must), (5, .pure)] [4] [1] [0, 2] [boxO 42 g3 [.int .i64 0, .int .i64 0]] [boxO 104 g1 [.int .i64 q0.At.X, .int .i64 q0.At.Y, .int .i64 q0.DX, .int .i64 q0.DY], boxO 42 g6 [.int .i64 x5.X, .int .i64 x5.Y]] mixedP (by kernel_rfl) (by kernel_rfl) (by decide) rfl rfl ?_
    intro wrr8 Nr8 hFr8
    refine JH.pure rfl (yl_fieldAt (a := some _) Go.Proofs.Try.underlying104 rfl i42 i42n rfl rfl) rfl ?_
    refine JH.read rfl (yl_loadn Go.Proofs.Try.underlying42 rfl i42 rfl (fun w hw => hFr8.box 0 rfl rfl hw) rfl (i42s).symm i42p) rfl ?_
    refine JH.pure rfl (yl_fieldAt (a := some _) Go.Proofs.Try.underlying42 rfl i2 i2n rfl rfl) rfl ?_
    refine JH.read rfl (yl_load1 Go.Proofs.Try.underlying2 rfl rfl (fun w hw => hFr8.box 2 rfl rfl hw) rfl) rfl ?_
    refine JH.must rfl (ef_store_box (i := 0) (v := .agg #[.int .i64 q0.At.X, .int .i64 q0.At.Y]) i42 rfl rfl rfl (i42s).symm (Nat.le_of_ble_eq_true rfl) (by simp [Value.cells, Value.oneCell'])) rfl rfl ?_
    rintro _ _ rfl
    refine JH.pure rfl (yl_assign rfl) rfl ?_
    refine JH.nil ?_
    refine JE.weak (env' := [(2, ptrAt (some ⟨g3, 0, none⟩) 0), (3, .int .i64 x5.Y)]) (es' := [boxO 42 g3 [.int .i64 q0.At.X, .int .i64 q0.At.Y]]) [2] ?_ ⟨rfl, rfl, trivial⟩ (by decide) rfl
    refine JE.code ?_
    refine JX.ret ?_
    obtain rfl := Option.some.inj hres
    refine JE.ret (rs := [.cell 2 42, .tmp 3]) (vs := [.agg #[.int .i64 q0.At.X, .int .i64 q0.At.Y], .int .i64 x5.Y]) rfl ⟨rv_box 0 rfl rfl Go.Proofs.Try.underlying42 rfl i42 (i42s).symm, rfl, trivial⟩ ?_
    exact fun w' hb hs => ⟨_, _, ⟨rfl, rfl⟩, rfl, hb, hs.sel [] _ (by decide) rfl⟩
  · refine JX.condF rfl hb ?_
    refine JX.skip ?_
    refine JE.code ?_
    refine JX.seq ?_
    refine JX.drawH [(0, .read), (1, .pure), (2, .pure), (3, .read), (4, .must), (5, .pure)] [4] [1] [0, 2] [boxO 42 g3 [.int .i64 0, .int .i64 0]] [boxO 104 g1 [.int .i64 q0.At.X, .int .i64 q0.At.Y, .int .i64 q0.DX, .int .i64 q0.DY], boxO 42 g6 [.int .i64 x5.X, .int .i64 x5.Y]] mixedP (by kernel_rfl) (by kernel_rfl) (by decide) rfl rfl ?_
    intro wrr9 Nr9 hFr9
    refine JH.read rfl (yl_loadn Go.Proofs.Try.underlying42 rfl i42 rfl (fun w hw => hFr9.box 2 rfl rfl hw) rfl (i42s).symm i42p) rfl ?_
    refine JH.pure rfl (yl_fieldAt (a := some _) Go.Proofs.Try.underlying104 rfl i42 i42n rfl rfl) rfl ?_
    refine JH.pure rfl (yl_fieldAt (a := some _) Go.Proofs.Try.underlying42 rfl i2 i2n rfl rfl) rfl ?_
    refine JH.read rfl (yl_load1 Go.Proofs.Try.underlying2 rfl rfl (fun w hw => hFr9.box 0 rfl rfl hw) rfl) rfl ?_
    refine JH.must rfl (ef_store_box (i := 0) (v := .agg #[.int .i64 x5.X, .int .i64 x5.Y]) i42 rfl rfl rfl (i42s).symm (Nat.le_of_ble_eq_true rfl) (by simp [Value.cells, Value.oneCell'])) rfl rfl ?_
    rintro _ _ rfl
    refine JH.pure rfl (yl_assign rfl) rfl ?_
    refine JH.nil ?_
    refine JE.weak (env' := [(2, ptrAt (some ⟨g3, 0, none⟩) 0), (3, .int .i64 q0.At.Y)]) (es' := [boxO 42 g3 [.int .i64 x5.X, .int .i64 x5.Y]]) [2] ?_ ⟨rfl, rfl, trivial⟩ (by decide) rfl
    refine JE.code ?_
    refine JX.ret ?_
    obtain rfl := Option.some.inj hres
    refine JE.ret (rs := [.cell 2 42, .tmp 3]) (vs := [.agg #[.int .i64 x5.X, .int .i64 x5.Y], .int .i64 q0.At.Y]) rfl ⟨rv_box 0 rfl rfl Go.Proofs.Try.underlying42 rfl i42 (i42s).symm, rfl, trivial⟩ ?_
    exact fun w' hb hs => ⟨_, _, ⟨rfl, rfl⟩, rfl, hb, hs.sel [] _ (by decide) rfl⟩

/- spec.l03Segment -/
def sh214 (q0 : SPanel) (q1 : SWalker) : Option (Int) := Option.bind (sh217 q1) fun x3 => Option.bind (bif decide (x3.1.Y < x3.2) then (some (w64 ((w64 ((w64 ((w64 ((w64 (x3.1.X * 2)) * q0.H)) + x3.1.Y)) - 1)) + 1))) else (some (w64 ((w64 ((w64 ((w64 (x3.1.X * 2)) * q0.H)) + x3.1.Y)) - 1)))) fun j7 => (some j7)
def T214 (r : Int) (v : Value) (rs : List Own) : Prop := v = rets [.int .i64 r] ∧ rs = []
set_option maxRecDepth 100000 in
theorem c214 {w : World} {q0 : SPanel} {a_0 : Option Addr} {n_0 : Nat} {a_0_2 : Option Addr} {n_0_2 c_0_2 : Nat} (g_0 : RdAt w a_0 n_0 [.int .i64 q0.W, .int .i64 q0.H, .slice a_0_2 n_0_2 c_0_2]) (g_0_2 : Rd w a_0_2 (eI64.fl q0.Breaks)) (l_0_2 : q0.Breaks.length = n_0_2) (k_0_2 : n_0_2 ≤ c_0_2) {q1 : SWalker} {r : Int} (hres : sh214 q0 q1 = some r) : Calls Go.Proofs.Try.prog 214 [ptrAt a_0 n_0, .agg #[.int .i64 q1.At.X, .int .i64 q1.At.Y, .int .i64 q1.DX, .int .i64 q1.DY]].toArray w (Ret w (T214 r)) := by
  subst l_0_2
  obtain ⟨b_0, e_0, g_0⟩ := g_0.norm0
  rw [e_0]
  unfold sh214 at hres
  refine calls_of (n := 32) (M := []) (es := []) Go.Proofs.Try.func214 rfl rfl rfl (Sep.nil _ _ _) ?_
  refine JX.seq ?_
  refine JX.region ?_
  refine JL.eff (ef_box rfl rfl) rfl ?_
  rintro _ _ ⟨g1, rfl, rfl⟩
  refine JL.val (yl_assign rfl) rfl ?_
  refine JL.nil ?_
  refine JE.code ?_
  refine JX.seq ?_
  refine JX.region ?_
  refine JL.val (yl_loadn Go.Proofs.Try.underlying104 rfl i104 rfl (fun w hC => rd_box hC 0 rfl) rfl (i104s).symm i104p) rfl ?_
  obtain ⟨x3, hx3, hres⟩ := bind_some hres
  refine JL.eff (ef_call (vs := [.agg #[.int .i64 q1.At.X, .int .i64 q1.At.Y, .int .i64 q1.DX, .int .i64 q1.DY]]) (T := T217 x3) Go.Proofs.Try.func217 rfl (by kernel_rfl) rfl (fun w hC => c217 (q0 := q1) hx3)) rfl ?_
  rintro _ _ ⟨_, ⟨rfl, rfl⟩, rfl⟩
  refine JL.val (yl_move rfl) rfl ?_
  refine JL.val (yl_extract rfl rfl) rfl ?_
  refine JL.val (yl_extract rfl rfl) rfl ?_
  refine JL.eff (ef_alloc i42 i42z rfl) rfl ?_
  rintro _ _ ⟨g4, rfl, rfl⟩
  refine JL.eff (ef_store_box (i := 1) (v := .agg #[.int .i64 x3.1.X, .int .i64 x3.1.Y]) i42 rfl rfl rfl (i42s).symm (Nat.le_of_ble_eq_true rfl) (by simp [Value.cells, Value.oneCell'])) rfl ?_
  rintro _ _ rfl
  refine JL.val (yl_assign rfl) rfl ?_
  refine JL.nil ?_
  refine JE.weak (env' := [(0, ptrAt b_0 0), (5, ptrAt (some ⟨g4, 0, none⟩) 0), (6, .int .i64 x3.2)]) (es' := [boxO 42 g4 [.int .i64 x3.1.X, .int .i64 x3.1.Y]]) [1] ?_ ⟨rfl, rfl, rfl, trivial⟩ (by decide) rfl
  refine JE.code ?_
  refine JX.seq ?_
  refine JX.drawH [(0, .pure), (1, .read), (2, .pure), (3, .pure), (4, .pure), (5, .pure), (6, .read), (7, .pure), (8, .pure), (9, .read), (10, .pure), (11, .pure), (12, .pure)] [] [] [0] [] [boxO 42 g4 [.int .i64 x3.1.X, .int .i64 x3.1.Y]] mixedP (by kernel_rfl) (by kernel_rfl) (by decide) rfl rfl ?_
  intro wrr6 Nr6 hFr6
  refine JH.pure rfl (yl_fieldAt (a := some _) Go.Proofs.Try.underlying42 rfl i2 i2n rfl rfl) rfl ?_
  refine JH.read rfl (yl_load1 Go.Proofs.Try.underlying2 rfl rfl (fun w hw => hFr6.box 0 rfl rfl hw) rfl) rfl ?_
  refine JH.pure rfl (yl_mul rfl rfl) rfl ?_
  refine JH.pure rfl (yl_move rfl) rfl ?_
  refine JH.pure rfl (yl_nilCheckAt rfl (Rd.some g_0 (j := 0) rfl)) rfl ?_
  refine JH.pure rfl (yl_fieldAt Go.Proofs.Try.underlying26 rfl i2 i2n rfl (Rd.some g_0 (j := 0) rfl)) rfl ?_
  refine JH.read rfl (yl_load1 Go.Proofs.Try.underlying2 rfl rfl (fun w hw => hFr6.arg g_0 hw) rfl) rfl ?_
  refine JH.pure rfl (yl_mul rfl rfl) rfl ?_
  refine JH.pure rfl (yl_fieldAt (a := some _) Go.Proofs.Try.underlying42 rfl i2 i2n rfl rfl) rfl ?_
  refine JH.read rfl (yl_load1 Go.Proofs.Try.underlying2 rfl rfl (fun w hw => hFr6.box 0 rfl rfl hw) rfl) rfl ?_
  refine JH.pure rfl (yl_add rfl rfl) rfl ?_
  refine JH.pure rfl (yl_sub rfl rfl) rfl ?_
  refine JH.pure rfl (yl_assign rfl) rfl ?_
  refine JH.nil ?_
  refine JE.weak (env' := [(5, ptrAt (some ⟨g4, 0, none⟩) 0), (6, .int .i64 x3.2), (7, .int .i64 (w64 ((w64 ((w64 ((w64 (x3.1.X * 2)) * q0.H)) + x3.1.Y)) - 1)))]) (es' := [boxO 42 g4 [.int .i64 x3.1.X, .int .i64 x3.1.Y]]) [0] ?_ ⟨rfl, rfl, rfl, trivial⟩ (by decide) rfl
  refine JE.code ?_
  refine JX.seq ?_
  refine JX.seq ?_
  refine JX.region ?_
  refine JL.val (yl_move rfl) rfl ?_
  refine JL.val (yl_fieldAt (a := some _) Go.Proofs.Try.underlying42 rfl i2 i2n rfl rfl) rfl ?_
  refine JL.val (yl_load1 Go.Proofs.Try.underlying2 rfl rfl (fun w hC => rd_box hC 0 rfl) rfl) rfl ?_
  refine JL.val (yl_gtr rfl rfl) rfl ?_
  refine JL.nil ?_
  refine JE.weak (env' := [(7, .int .i64 (w64 ((w64 ((w64 ((w64 (x3.1.X * 2)) * q0.H)) + x3.1.Y)) - 1))), (28, .bool (decide (x3.1.Y < x3.2)))]) (es' := []) [] ?_ ⟨rfl, rfl, trivial⟩ (by decide) rfl
  refine JE.code ?_
  obtain ⟨j7, hj7, hresj7⟩ := bind_some hres
  refine JX.cut (K := fun J => J [(7, .int .i64 j7)] []) ?_ ?_
  · have hres := hresj7
    refine JE.code ?_
    refine JX.seq ?_
    refine JX.region ?_
    refine JL.val (yl_move rfl) rfl ?_
    refine JL.val (yl_assign rfl) rfl ?_
    refine JL.nil ?_
    refine JE.code ?_
    refine JX.ret ?_
    obtain rfl := Option.some.inj hres
    refine JE.ret (rs := [.tmp 4]) (vs := [.int .i64 j7]) rfl ⟨rfl, trivial⟩ ?_
    exact fun w' hb hs => ⟨_, _, ⟨rfl, rfl⟩, rfl, hb, hs.sel [] _ (by decide) rfl⟩
  · intro K
    rcases cond_some hj7 with ⟨hb, hres⟩ | ⟨hb, hres⟩
    · refine JX.condT rfl hb ?_
      refine JX.region ?_
      refine JL.val (yl_move rfl) rfl ?_
      refine JL.val (yl_add rfl rfl) rfl ?_
      refine JL.val (yl_assign rfl) rfl ?_
      refine JL.nil ?_
      have hj := Option.some.inj hres
      exact JE.weak [] (K) ⟨(by subst hj; rfl), trivial⟩ (by decide) (by subst hj; rfl)
    · refine JX.condF rfl hb ?_
      refine JX.skip ?_
      have hj := Option.some.inj hres
      exact JE.weak [] (K) ⟨(by subst hj; rfl), trivial⟩ (by decide) (by subst hj; rfl)

/- spec.l04Trace -/
def sh205_1 (q0 : SPanel) (q1 : SWalker) : (List SPoint × List Int × SWalker) → Option ((List SPoint × List Int × SWalker) ⊕ (List SPoint × List Int))
  | (x14, x15, x16) => bif ((x14.length : Int) == 0) || (!((((x16.At.X == q1.At.X) && ((x16.At.Y == q1.At.Y) && true)) && ((x16.DX == q1.DX) && ((x16.DY == q1.DY) && true))))) then (Option.bind (appL x14 [x16.At]) fun x24 => Option.bind (sh214 q0 x16) fun x27 => Option.bind (appL x15 [x27]) fun x30 => Option.bind (sh213 q0 x16) fun x35 => some (.inl (x24, x30, x35))) else (some (.inr (x14, x15)))
def sh205 (q0 : SPanel) (q1 : SWalker) : Option (List SPoint × List Int) := Option.bind (iter (sh205_1 q0 q1) (([] : List SPoint), ([] : List Int), q1)) fun b1 => (some (b1.1, b1.2))
def T205 (r : List SPoint × List Int) (v : Value) (rs : List Own) : Prop := ∃ (a0 : Option Addr) (n0 c0 : Nat), r.1.length = n0 ∧ ∃ (a1 : Option Addr) (n1 c1 : Nat), r.2.length = n1 ∧ v = rets [.slice a0 n0 c0, .slice a1 n1 c1] ∧ rs = [rowT 42 eSPoint a0 n0 c0 r.1, rowT 2 eI64 a1 n1 c1 r.2]
set_option maxRecDepth 100000 in
theorem c205 {w : World} {q0 : SPanel} {a_0 : Option Addr} {n_0 : Nat} {a_0_2 : Option Addr} {n_0_2 c_0_2 : Nat} (g_0 : RdAt w a_0 n_0 [.int .i64 q0.W, .int .i64 q0.H, .slice a_0_2 n_0_2 c_0_2]) (g_0_2 : Rd w a_0_2 (eI64.fl q0.Breaks)) (l_0_2 : q0.Breaks.length = n_0_2) (k_0_2 : n_0_2 ≤ c_0_2) {q1 : SWalker} {r : List SPoint × List Int} (hres : sh205 q0 q1 = some r) : Calls Go.Proofs.Try.prog 205 [ptrAt a_0 n_0, .agg #[.int .i64 q1.At.X, .int .i64 q1.At.Y, .int .i64 q1.DX, .int .i64 q1.DY]].toArray w (Ret w (T205 r)) := by
  subst l_0_2
  obtain ⟨b_0, e_0, g_0⟩ := g_0.norm0
  rw [e_0]
  unfold sh205 at hres
  refine calls_of (n := 37) (M := []) (es := []) Go.Proofs.Try.func205 rfl rfl rfl (Sep.nil _ _ _) ?_
  refine JX.seq ?_
  refine JX.region ?_
  refine JL.eff (ef_box rfl rfl) rfl ?_
  rintro _ _ ⟨g1, rfl, rfl⟩
  refine JL.val (yl_assign rfl) rfl ?_
  refine JL.val (yl_assign rfl) rfl ?_
  refine JL.nil ?_
  refine JE.code ?_
  refine JX.seq ?_
  refine JX.region ?_
  refine JL.eff (ef_buildSlice (E := 42) (k := eSPoint.k) (us := eSPoint.fl ([] : List SPoint)) rfl (fun w => bsl34_0  w) rfl (by decide)) rfl ?_
  rintro _ _ ⟨a3, rfl, rfl⟩
  refine JL.val (yl_assign rfl) rfl ?_
  refine JL.nil ?_
  refine JE.code ?_
  refine JX.seq ?_
  refine JX.region ?_
  refine JL.eff (ef_buildSlice (E := 2) (k := eI64.k) (us := eI64.fl ([] : List Int)) rfl (fun w => bsl24_0  w) rfl (by decide)) rfl ?_
  rintro _ _ ⟨a5, rfl, rfl⟩
  refine JL.val (yl_assign rfl) rfl ?_
  refine JL.nil ?_
  refine JE.code ?_
  refine JX.seq ?_
  refine JX.seq ?_
  refine JX.region ?_
  refine JL.val (yl_loadn Go.Proofs.Try.underlying104 rfl i104 rfl (fun w hC => rd_box hC 0 rfl) rfl (i104s).symm i104p) rfl ?_
  refine JL.eff (ef_alloc i104 i104z rfl) rfl ?_
  rintro _ _ ⟨g7, rfl, rfl⟩
  refine JL.eff (ef_store_box (i := 3) (v := .agg #[.int .i64 q1.At.X, .int .i64 q1.At.Y, .int .i64 q1.DX, .int .i64 q1.DY]) i104 rfl rfl rfl (i104s).symm (Nat.le_of_ble_eq_true rfl) (by simp [Value.cells, Value.oneCell'])) rfl ?_
  rintro _ _ rfl
  refine JL.nil ?_
  refine JE.code ?_
  refine JX.block ?_
  obtain ⟨y1, hy1, hresO1⟩ := bind_some hres
  refine JX.loop (I := fun (s1 : List SPoint × List Int × SWalker) aa ww => ∃ (a9 : Option Addr) (cp10 : Nat) (a11 : Option Addr) (cp12 : Nat) (g13 : Nat), St w [] 37 [(0, ptrAt b_0 0), (3, ptrAt (some ⟨g1, 0, none⟩) 0), (6, .slice a9 s1.1.length cp10), (7, .slice a11 s1.2.1.length cp12), (8, ptrAt (some ⟨g13, 0, none⟩) 0)] [boxO 104 g1 [.int .i64 q1.At.X, .int .i64 q1.At.Y, .int .i64 q1.DX, .int .i64 q1.DY], rowT 42 eSPoint a9 s1.1.length cp10 s1.1, rowT 2 eI64 a11 s1.2.1.length cp12 s1.2.1, boxO 104 g13 [.int .i64 s1.2.2.At.X, .int .i64 s1.2.2.At.Y, .int .i64 s1.2.2.DX, .int .i64 s1.2.2.DY]] aa ww) (sh205_1 q0 q1) hy1 (fun a w h => ⟨a3, 0, a5, 0, g7, h.weak ⟨rfl, rfl, rfl, rfl, rfl, trivial⟩ [0, 1, 2, 3] (by decide) rfl⟩) ?_
  rintro ⟨x14, x15, x16⟩ o1 hres hox1 aa ww ⟨a17, cp18, a19, cp20, g21, hS⟩
  refine (?_ : JX Go.Proofs.Try.prog w [] 37 _ _ [(0, ptrAt b_0 0), (3, ptrAt (some ⟨g1, 0, none⟩) 0), (6, .slice a17 x14.length cp18), (7, .slice a19 x15.length cp20), (8, ptrAt (some ⟨g21, 0, none⟩) 0)] [boxO 104 g1 [.int .i64 q1.At.X, .int .i64 q1.At.Y, .int .i64 q1.DX, .int .i64 q1.DY], rowT 42 eSPoint a17 x14.length cp18 x14, rowT 2 eI64 a19 x15.length cp20 x15, boxO 104 g21 [.int .i64 x16.At.X, .int .i64 x16.At.Y, .int .i64 x16.DX, .int .i64 x16.DY]] _) aa ww hS
  clear hS
  simp only [sh205_1] at hres
  refine JX.seq ?_
  refine JX.seq ?_
  refine JX.region ?_
  refine JL.val (yl_move rfl) rfl ?_
  refine JL.val (yl_len_slice Go.Proofs.Try.underlying34 rfl) rfl ?_
  refine JL.val (yl_eql rfl rfl) rfl ?_
  refine JL.val (yl_move rfl) rfl ?_
  refine JL.cut (K := fun J => J [(0, ptrAt b_0 0), (3, ptrAt (some ⟨g1, 0, none⟩) 0), (6, .slice a17 x14.length cp18), (7, .slice a19 x15.length cp20), (8, ptrAt (some ⟨g21, 0, none⟩) 0), (19, .bool (((x14.length : Int) == 0) || (!((((x16.At.X == q1.At.X) && ((x16.At.Y == q1.At.Y) && true)) && ((x16.DX == q1.DX) && ((x16.DY == q1.DY) && true)))))))] [boxO 104 g1 [.int .i64 q1.At.X, .int .i64 q1.At.Y, .int .i64 q1.DX, .int .i64 q1.DY], rowT 42 eSPoint a17 x14.length cp18 x14, rowT 2 eI64 a19 x15.length cp20 x15, boxO 104 g21 [.int .i64 x16.At.X, .int .i64 x16.At.Y, .int .i64 x16.DX, .int .i64 x16.DY]]) 4 ?_ ?_
  · refine JL.nil ?_
    refine JE.weak (env' := [(0, ptrAt b_0 0), (3, ptrAt (some ⟨g1, 0, none⟩) 0), (6, .slice a17 x14.length cp18), (7, .slice a19 x15.length cp20), (8, ptrAt (some ⟨g21, 0, none⟩) 0), (19, .bool (((x14.length : Int) == 0) || (!((((x16.At.X == q1.At.X) && ((x16.At.Y == q1.At.Y) && true)) && ((x16.DX == q1.DX) && ((x16.DY == q1.DY) && true)))))))]) (es' := [boxO 104 g1 [.int .i64 q1.At.X, .int .i64 q1.At.Y, .int .i64 q1.DX, .int .i64 q1.DY], rowT 42 eSPoint a17 x14.length cp18 x14, rowT 2 eI64 a19 x15.length cp20 x15, boxO 104 g21 [.int .i64 x16.At.X, .int .i64 x16.At.Y, .int .i64 x16.DX, .int .i64 x16.DY]]) [0, 1, 2, 3] ?_ ⟨rfl, rfl, rfl, rfl, rfl, rfl, trivial⟩ (by decide) rfl
    refine JE.code ?_
    rcases cond_some hres with ⟨hb, hres⟩ | ⟨hb, hres⟩
    · refine JX.condT rfl hb ?_
      refine JX.skip ?_
      refine JE.code ?_
      refine JX.seq ?_
      refine JX.block ?_
      refine JX.seq ?_
      refine JX.region ?_
      refine JL.val (yl_move rfl) rfl ?_
      refine JL.val (yl_fieldAt (a := some _) Go.Proofs.Try.underlying104 rfl i42 i42n rfl rfl) rfl ?_
      refine JL.val (yl_loadn Go.Proofs.Try.underlying42 rfl i42 rfl (fun w hC => rd_box hC 3 rfl) rfl (i42s).symm i42p) rfl ?_
      refine JL.eff (ef_buildSlice (E := 42) (k := eSPoint.k) (us := eSPoint.fl [x16.At]) rfl (fun w => bsl34_1 x16.At.X x16.At.Y w) rfl (by decide)) rfl ?_
      rintro _ _ ⟨a22, rfl, rfl⟩
      obtain ⟨x24, hx24, hres⟩ := bind_some hres
      refine JL.eff (ef_appendT (ix := 1) Go.Proofs.Try.underlying34 i42 i42z i42s rfl i42b0 i42b1 rfl rfl rfl rfl rfl (fun w hC => rd_row hC 4 rfl) hx24) rfl ?_
      rintro _ _ ⟨a25, cp26, rfl, rfl⟩
      refine JL.val (yl_assign rfl) rfl ?_
      refine JL.nil ?_
      refine JE.weak (env' := [(0, ptrAt b_0 0), (3, ptrAt (some ⟨g1, 0, none⟩) 0), (6, .slice a25 x24.length cp26), (7, .slice a19 x15.length cp20), (8, ptrAt (some ⟨g21, 0, none⟩) 0)]) (es' := [boxO 104 g1 [.int .i64 q1.At.X, .int .i64 q1.At.Y, .int .i64 q1.DX, .int .i64 q1.DY], rowT 42 eSPoint a25 x24.length cp26 x24, rowT 2 eI64 a19 x15.length cp20 x15, boxO 104 g21 [.int .i64 x16.At.X, .int .i64 x16.At.Y, .int .i64 x16.DX, .int .i64 x16.DY]]) [0, 1, 2, 3] ?_ ⟨rfl, rfl, rfl, rfl, rfl, trivial⟩ (by decide) rfl
      refine JE.code ?_
      refine JX.region ?_
      refine JL.val (yl_move rfl) rfl ?_
      refine JL.val (yl_move rfl) rfl ?_
      refine JL.val (yl_loadn Go.Proofs.Try.underlying104 rfl i104 rfl (fun w hC => rd_box hC 3 rfl) rfl (i104s).symm i104p) rfl ?_
      obtain ⟨x27, hx27, hres⟩ := bind_some hres
      refine JL.eff (ef_call (vs := [ptrAt b_0 0, .agg #[.int .i64 x16.At.X, .int .i64 x16.At.Y, .int .i64 x16.DX, .int .i64 x16.DY]]) (T := T214 x27) Go.Proofs.Try.func214 rfl (by kernel_rfl) rfl (fun w hC => c214 (q1 := x16) (RdAt.of0 (rd_arg g_0 hC)) (rd_arg g_0_2 hC) rfl k_0_2 hx27)) rfl ?_
      rintro _ _ ⟨_, ⟨rfl, rfl⟩, rfl⟩
      refine JL.eff (ef_buildSlice (E := 2) (k := eI64.k) (us := eI64.fl [x27]) rfl (fun w => bsl24_1 x27 w) rfl (by decide)) rfl ?_
      rintro _ _ ⟨a28, rfl, rfl⟩
      obtain ⟨x30, hx30, hres⟩ := bind_some hres
      refine JL.eff (ef_appendT (ix := 2) Go.Proofs.Try.underlying24 i2 i2z i2s rfl i2b0 i2b1 rfl rfl rfl rfl rfl (fun w hC => rd_row hC 4 rfl) hx30) rfl ?_
      rintro _ _ ⟨a31, cp32, rfl, rfl⟩
      refine JL.val (yl_assign rfl) rfl ?_
      refine JL.nil ?_
      refine JE.weak (env' := [(0, ptrAt b_0 0), (3, ptrAt (some ⟨g1, 0, none⟩) 0), (6, .slice a25 x24.length cp26), (7, .slice a31 x30.length cp32), (8, ptrAt (some ⟨g21, 0, none⟩) 0)]) (es' := [boxO 104 g1 [.int .i64 q1.At.X, .int .i64 q1.At.Y, .int .i64 q1.DX, .int .i64 q1.DY], rowT 42 eSPoint a25 x24.length cp26 x24, rowT 2 eI64 a31 x30.length cp32 x30, boxO 104 g21 [.int .i64 x16.At.X, .int .i64 x16.At.Y, .int .i64 x16.DX, .int .i64 x16.DY]]) [0, 1, 2, 3] ?_ ⟨rfl, rfl, rfl, rfl, rfl, trivial⟩ (by decide) rfl
      refine JE.code ?_
      refine JX.seq ?_
      refine JX.seq ?_
      refine JX.region ?_
      refine JL.val (yl_loadn Go.Proofs.Try.underlying104 rfl i104 rfl (fun w hC => rd_box hC 3 rfl) rfl (i104s).symm i104p) rfl ?_
      refine JL.nil ?_
      refine JE.weak (env' := [(0, ptrAt b_0 0), (3, ptrAt (some ⟨g1, 0, none⟩) 0), (6, .slice a25 x24.length cp26), (7, .slice a31 x30.length cp32), (34, .agg #[.int .i64 x16.At.X, .int .i64 x16.At.Y, .int .i64 x16.DX, .int .i64 x16.DY])]) (es' := [boxO 104 g1 [.int .i64 q1.At.X, .int .i64 q1.At.Y, .int .i64 q1.DX, .int .i64 q1.DY], rowT 42 eSPoint a25 x24.length cp26 x24, rowT 2 eI64 a31 x30.length cp32 x30]) [0, 1, 2] ?_ ⟨rfl, rfl, rfl, rfl, rfl, trivial⟩ (by decide) rfl
      refine JE.code ?_
      refine JX.region ?_
      refine JL.eff (ef_alloc i104 i104z rfl) rfl ?_
      rintro _ _ ⟨g33, rfl, rfl⟩
      refine JL.eff (ef_store_box (i := 3) (v := .agg #[.int .i64 x16.At.X, .int .i64 x16.At.Y, .int .i64 x16.DX, .int .i64 x16.DY]) i104 rfl rfl rfl (i104s).symm (Nat.le_of_ble_eq_true rfl) (by simp [Value.cells, Value.oneCell'])) rfl ?_
      rintro _ _ rfl
      refine JL.nil ?_
      refine JE.code ?_
      refine JX.region ?_
      refine JL.val (yl_move rfl) rfl ?_
      refine JL.val (yl_loadn Go.Proofs.Try.underlying104 rfl i104 rfl (fun w hC => rd_box hC 3 rfl) rfl (i104s).symm i104p) rfl ?_
      obtain ⟨x35, hx35, hres⟩ := bind_some hres
      refine JL.eff (ef_call (vs := [ptrAt b_0 0, .agg #[.int .i64 x16.At.X, .int .i64 x16.At.Y, .int .i64 x16.DX, .int .i64 x16.DY]]) (T := T213 x35) Go.Proofs.Try.func213 rfl (by kernel_rfl) rfl (fun w hC => c213 (q1 := x16) (RdAt.of0 (rd_arg g_0 hC)) (rd_arg g_0_2 hC) rfl k_0_2 hx35)) rfl ?_
      rintro _ _ ⟨_, ⟨rfl, rfl⟩, rfl⟩
      refine JL.eff (ef_store_box (i := 3) (v := .agg #[.int .i64 x35.At.X, .int .i64 x35.At.Y, .int .i64 x35.DX, .int .i64 x35.DY]) i104 rfl rfl rfl (i104s).symm (Nat.le_of_ble_eq_true rfl) (by simp [Value.cells, Value.oneCell'])) rfl ?_
      rintro _ _ rfl
      refine JL.nil ?_
      refine JE.weak (env' := [(0, ptrAt b_0 0), (3, ptrAt (some ⟨g1, 0, none⟩) 0), (6, .slice a25 x24.length cp26), (7, .slice a31 x30.length cp32), (8, ptrAt (some ⟨g33, 0, none⟩) 0)]) (es' := [boxO 104 g1 [.int .i64 q1.At.X, .int .i64 q1.At.Y, .int .i64 q1.DX, .int .i64 q1.DY], rowT 42 eSPoint a25 x24.length cp26 x24, rowT 2 eI64 a31 x30.length cp32 x30, boxO 104 g33 [.int .i64 x35.At.X, .int .i64 x35.At.Y, .int .i64 x35.DX, .int .i64 x35.DY]]) [0, 1, 2, 3] ?_ ⟨rfl, rfl, rfl, rfl, rfl, trivial⟩ (by decide) rfl
      refine JE.cont hres ?_
      exact fun a w h => ⟨a25, cp26, a31, cp32, g33, h.weak ⟨rfl, rfl, rfl, rfl, rfl, trivial⟩ [0, 1, 2, 3] (by decide) rfl⟩
    · refine JX.condF rfl hb ?_
      refine JX.exit ?_
      refine JE.qb rfl ?_
      obtain ⟨b1, hb1⟩ : ∃ b : List SPoint × List Int, b = (x14, x15) := ⟨_, rfl⟩
      have hy1 : b1 = y1 := by rw [hb1]; exact hox1 _ (Option.some.inj hres).symm
      have hres := hresO1
      rw [← hy1] at hres
      refine JE.weak (env' := [(6, .slice a17 b1.1.length cp18), (7, .slice a19 b1.2.length cp20)]) (es' := [rowT 42 eSPoint a17 b1.1.length cp18 b1.1, rowT 2 eI64 a19 b1.2.length cp20 b1.2]) [1, 2] ?_ ⟨(by subst hb1; rfl), (by subst hb1; rfl), trivial⟩ (by decide) (by subst hb1; rfl)
      refine JE.code ?_
      refine JX.seq ?_
      refine JX.region ?_
      refine JL.val (yl_move rfl) rfl ?_
      refine JL.val (yl_move rfl) rfl ?_
      refine JL.val (yl_assign rfl) rfl ?_
      refine JL.val (yl_assign rfl) rfl ?_
      refine JL.nil ?_
      refine JE.weak (env' := [(4, .slice a17 b1.1.length cp18), (5, .slice a19 b1.2.length cp20)]) (es' := [rowT 42 eSPoint a17 b1.1.length cp18 b1.1, rowT 2 eI64 a19 b1.2.length cp20 b1.2]) [0, 1] ?_ ⟨rfl, rfl, trivial⟩ (by decide) rfl
      refine JE.code ?_
      refine JX.ret ?_
      obtain rfl := Option.some.inj hres
      refine JE.ret (rs := [.tmp 4, .tmp 5]) (vs := [.slice a17 b1.1.length cp18, .slice a19 b1.2.length cp20]) rfl ⟨rfl, rfl, trivial⟩ ?_
      exact fun w' hb hs => ⟨_, _, ⟨a17, b1.1.length, cp18, rfl, a19, b1.2.length, cp20, rfl, rfl, rfl⟩, rfl, hb, hs.sel [0, 1] _ (by decide) rfl⟩
  · intro K
    rcases Bool.eq_false_or_eq_true ((x14.length : Int) == 0) with hb | hb
    · refine JL.set (d := 15) (v := .bool true) (congrArg (fun b => some (Value.bool b)) hb) ?_
      refine JL.gskip rfl rfl rfl rfl ?_
      refine JL.gskip rfl rfl rfl rfl ?_
      refine JL.gskip rfl rfl rfl rfl ?_
      refine JL.val (yl_pick_true rfl rfl) rfl ?_
      exact JL.weak [0, 1, 2, 3] K ⟨rfl, rfl, rfl, rfl, rfl, (by rw [hb]; rfl), trivial⟩ (by decide) rfl
    · refine JL.set (d := 15) (v := .bool false) (congrArg (fun b => some (Value.bool b)) hb) ?_
      refine JL.gval rfl rfl (yl_loadn Go.Proofs.Try.underlying104 rfl i104 rfl (fun w hC => rd_box hC 3 rfl) rfl (i104s).symm i104p) rfl ?_
      refine JL.gval rfl rfl (yl_loadn Go.Proofs.Try.underlying104 rfl i104 rfl (fun w hC => rd_box hC 0 rfl) rfl (i104s).symm i104p) rfl ?_
      refine JL.gval rfl rfl (yl_binop_of rfl rfl (fun w => eqs104_g _ _ _ _ _ w) (fun w => eqs104_neq x16.At.X x16.At.Y x16.DX x16.DY q1.At.X q1.At.Y q1.DX q1.DY w)) rfl ?_
      refine JL.val (yl_pick_false rfl rfl) rfl ?_
      exact JL.weak [0, 1, 2, 3] K ⟨rfl, rfl, rfl, rfl, rfl, (by rw [hb]; rfl), trivial⟩ (by decide) rfl

/- spec.l03Walker -/
def sh206 (q0 : SPanel) (q1 : Int) : Option (SWalker) := Option.bind (nzI (w64 (2 * q0.H))) fun x3 => Option.bind (nzI (w64 (2 * q0.H))) fun x4 => bif ((w64 (q1.tdiv (w64 (2 * q0.H)))).tmod 2) == 0 then (some (SWalker.mk (SPoint.mk (w64 (q1.tdiv (w64 (2 * q0.H)))) (w64 ((w64 ((w64 ((q1.tmod (w64 (2 * q0.H))).tdiv 2)) * 2)) + 1))) 1 (w64 ((w64 (2 * ((q1.tmod (w64 (2 * q0.H))).tmod 2))) - 1)))) else (Option.bind (bif ((q1.tmod (w64 (2 * q0.H))).tmod 2) == 1 then (some (SWalker.mk (SPoint.mk (w64 (q1.tdiv (w64 (2 * q0.H)))) (w64 ((w64 ((w64 ((q1.tmod (w64 (2 * q0.H))) + 1)).tdiv 2)) * 2))) 1 (-1))) else (some (SWalker.mk (SPoint.mk (w64 (q1.tdiv (w64 (2 * q0.H)))) (w64 ((w64 ((w64 ((q1.tmod (w64 (2 * q0.H))) + 1)).tdiv 2)) * 2))) 1 1))) fun j7 => (some j7))
def T206 (r : SWalker) (v : Value) (rs : List Own) : Prop := v = rets [.agg #[.int .i64 r.At.X, .int .i64 r.At.Y, .int .i64 r.DX, .int .i64 r.DY]] ∧ rs = []
set_option maxRecDepth 100000 in
theorem c206 {w : World} {q0 : SPanel} {a_0 : Option Addr} {n_0 : Nat} {a_0_2 : Option Addr} {n_0_2 c_0_2 : Nat} (g_0 : RdAt w a_0 n_0 [.int .i64 q0.W, .int .i64 q0.H, .slice a_0_2 n_0_2 c_0_2]) (g_0_2 : Rd w a_0_2 (eI64.fl q0.Breaks)) (l_0_2 : q0.Breaks.length = n_0_2) (k_0_2 : n_0_2 ≤ c_0_2) {q1 : Int} {r : SWalker} (hres : sh206 q0 q1 = some r) : Calls Go.Proofs.Try.prog 206 [ptrAt a_0 n_0, .int .i64 q1].toArray w (Ret w (T206 r)) := by
  subst l_0_2
  obtain ⟨b_0, e_0, g_0⟩ := g_0.norm0
  rw [e_0]
  unfold sh206 at hres
  refine calls_of (n := 48) (M := []) (es := []) Go.Proofs.Try.func206 rfl rfl rfl (Sep.nil _ _ _) ?_
  refine JX.seq ?_
  refine JX.region ?_
  refine JL.eff (ef_alloc i104 i104z rfl) rfl ?_
  rintro _ _ ⟨g1, rfl, rfl⟩
  refine JL.nil ?_
  refine JE.code ?_
  refine JX.seq ?_
  refine JX.region ?_
  refine JL.val (yl_move rfl) rfl ?_
  refine JL.val (yl_move rfl) rfl ?_
  refine JL.val (yl_nilCheckAt rfl (Rd.some g_0 (j := 0) rfl)) rfl ?_
  refine JL.val (yl_fieldAt Go.Proofs.Try.underlying26 rfl i2 i2n rfl (Rd.some g_0 (j := 0) rfl)) rfl ?_
  refine JL.val (yl_load1 Go.Proofs.Try.underlying2 rfl rfl (fun w hC => rd_arg g_0 hC) rfl) rfl ?_
  refine JL.val (yl_mul rfl rfl) rfl ?_
  obtain ⟨x3, hx3, hres⟩ := bind_some hres
  refine JL.val (yl_quo rfl rfl (nzI_some hx3)) rfl ?_
  refine JL.val (yl_assign rfl) rfl ?_
  refine JL.nil ?_
  refine JE.weak (env' := [(0, ptrAt b_0 0), (1, .int .i64 q1), (4, ptrAt (some ⟨g1, 0, none⟩) 0), (5, .int .i64 (w64 (q1.tdiv (w64 (2 * q0.H)))))]) (es' := [boxO 104 g1 [.int .i64 0, .int .i64 0, .int .i64 0, .int .i64 0]]) [0] ?_ ⟨rfl, rfl, rfl, rfl, trivial⟩ (by decide) rfl
  refine JE.code ?_
  refine JX.seq ?_
  refine JX.region ?_
  refine JL.val (yl_move rfl) rfl ?_
  refine JL.val (yl_move rfl) rfl ?_
  refine JL.val (yl_nilCheckAt rfl (Rd.some g_0 (j := 0) rfl)) rfl ?_
  refine JL.val (yl_fieldAt Go.Proofs.Try.underlying26 rfl i2 i2n rfl (Rd.some g_0 (j := 0) rfl)) rfl ?_
  refine JL.val (yl_load1 Go.Proofs.Try.underlying2 rfl rfl (fun w hC => rd_arg g_0 hC) rfl) rfl ?_
  refine JL.val (yl_mul rfl rfl) rfl ?_
  obtain ⟨x4, hx4, hres⟩ := bind_some hres
  refine JL.val (yl_rem rfl rfl (nzI_some hx4)) rfl ?_
  refine JL.val (yl_assign rfl) rfl ?_
  refine JL.nil ?_
  refine JE.weak (env' := [(4, ptrAt (some ⟨g1, 0, none⟩) 0), (5, .int .i64 (w64 (q1.tdiv (w64 (2 * q0.H))))), (6, .int .i64 (q1.tmod (w64 (2 * q0.H))))]) (es' := [boxO 104 g1 [.int .i64 0, .int .i64 0, .int .i64 0, .int .i64 0]]) [0] ?_ ⟨rfl, rfl, rfl, trivial⟩ (by decide) rfl
  refine JE.code ?_
  refine JX.seq ?_
  refine JX.seq ?_
  refine JX.region ?_
  refine JL.val (yl_move rfl) rfl ?_
  refine JL.val (yl_rem rfl rfl (by decide)) rfl ?_
  refine JL.val (yl_eql rfl rfl) rfl ?_
  refine JL.nil ?_
  refine JE.code ?_
  rcases cond_some hres with ⟨hb, hres⟩ | ⟨hb, hres⟩
  · refine JX.condT rfl hb ?_
    refine JX.seq ?_
    refine JX.region ?_
    refine JL.val (yl_move rfl) rfl ?_
    refine JL.val (yl_move rfl) rfl ?_
    refine JL.val (yl_quo rfl rfl (by decide)) rfl ?_
    refine JL.val (yl_mul rfl rfl) rfl ?_
    refine JL.val (yl_add rfl rfl) rfl ?_
    refine JL.val (yl_build rfl (fun w => bld42_0_1 (w64 (q1.tdiv (w64 (2 * q0.H)))) (w64 ((w64 ((w64 ((q1.tmod (w64 (2 * q0.H))).tdiv 2)) * 2)) + 1)) w)) rfl ?_
    refine JL.val (yl_move rfl) rfl ?_
    refine JL.val (yl_rem rfl rfl (by decide)) rfl ?_
    refine JL.val (yl_mul rfl rfl) rfl ?_
    refine JL.val (yl_sub rfl rfl) rfl ?_
    refine JL.val (yl_build rfl (fun w => bld104_0_1_2 (w64 (q1.tdiv (w64 (2 * q0.H)))) (w64 ((w64 ((w64 ((q1.tmod (w64 (2 * q0.H))).tdiv 2)) * 2)) + 1)) 1 (w64 ((w64 (2 * ((q1.tmod (w64 (2 * q0.H))).tmod 2))) - 1)) w)) rfl ?_
    refine JL.eff (ef_store_box (i := 0) (v := .agg #[.int .i64 (w64 (q1.tdiv (w64 (2 * q0.H)))), .int .i64 (w64 ((w64 ((w64 ((q1.tmod (w64 (2 * q0.H))).tdiv 2)) * 2)) + 1)), .int .i64 1, .int .i64 (w64 ((w64 (2 * ((q1.tmod (w64 (2 * q0.H))).tmod 2))) - 1))]) i104 rfl rfl rfl (i104s).symm (Nat.le_of_ble_eq_true rfl) (by simp [Value.cells, Value.oneCell'])) rfl ?_
    rintro _ _ rfl
    refine JL.nil ?_
    refine JE.weak (env' := [(4, ptrAt (some ⟨g1, 0, none⟩) 0)]) (es' := [boxO 104 g1 [.int .i64 (w64 (q1.tdiv (w64 (2 * q0.H)))), .int .i64 (w64 ((w64 ((w64 ((q1.tmod (w64 (2 * q0.H))).tdiv 2)) * 2)) + 1)), .int .i64 1, .int .i64 (w64 ((w64 (2 * ((q1.tmod (w64 (2 * q0.H))).tmod 2))) - 1))]]) [0] ?_ ⟨rfl, trivial⟩ (by decide) rfl
    refine JE.code ?_
    refine JX.ret ?_
    obtain rfl := Option.some.inj hres
    refine JE.ret (rs := [.cell 4 104]) (vs := [.agg #[.int .i64 (w64 (q1.tdiv (w64 (2 * q0.H)))), .int .i64 (w64 ((w64 ((w64 ((q1.tmod (w64 (2 * q0.H))).tdiv 2)) * 2)) + 1)), .int .i64 1, .int .i64 (w64 ((w64 (2 * ((q1.tmod (w64 (2 * q0.H))).tmod 2))) - 1))]]) rfl ⟨rv_box 0 rfl rfl Go.Proofs.Try.underlying104 rfl i104 (i104s).symm, trivial⟩ ?_
    exact fun w' hb hs => ⟨_, _, ⟨rfl, rfl⟩, rfl, hb, hs.sel [] _ (by decide) rfl⟩
  · refine JX.condF rfl hb ?_
    refine JX.skip ?_
    refine JE.code ?_
    refine JX.seq ?_
    refine JX.region ?_
    refine JL.val (yl_move rfl) rfl ?_
    refine JL.val (yl_move rfl) rfl ?_
    refine JL.val (yl_add rfl rfl) rfl ?_
    refine JL.val (yl_quo rfl rfl (by decide)) rfl ?_
    refine JL.val (yl_mul rfl rfl) rfl ?_
    refine JL.val (yl_build rfl (fun w => bld42_0_1 (w64 (q1.tdiv (w64 (2 * q0.H)))) (w64 ((w64 ((w64 ((q1.tmod (w64 (2 * q0.H))) + 1)).tdiv 2)) * 2)) w)) rfl ?_
    refine JL.val (yl_build rfl (fun w => bld104_0_1_2 (w64 (q1.tdiv (w64 (2 * q0.H)))) (w64 ((w64 ((w64 ((q1.tmod (w64 (2 * q0.H))) + 1)).tdiv 2)) * 2)) 1 1 w)) rfl ?_
    refine JL.eff (ef_alloc i104 i104z rfl) rfl ?_
    rintro _ _ ⟨g5, rfl, rfl⟩
    refine JL.eff (ef_store_box (i := 1) (v := .agg #[.int .i64 (w64 (q1.tdiv (w64 (2 * q0.H)))), .int .i64 (w64 ((w64 ((w64 ((q1.tmod (w64 (2 * q0.H))) + 1)).tdiv 2)) * 2)), .int .i64 1, .int .i64 1]) i104 rfl rfl rfl (i104s).symm (Nat.le_of_ble_eq_true rfl) (by simp [Value.cells, Value.oneCell'])) rfl ?_
    rintro _ _ rfl
    refine JL.nil ?_
    refine JE.weak (env' := [(4, ptrAt (some ⟨g1, 0, none⟩) 0), (6, .int .i64 (q1.tmod (w64 (2 * q0.H)))), (7, ptrAt (some ⟨g5, 0, none⟩) 0)]) (es' := [boxO 104 g1 [.int .i64 0, .int .i64 0, .int .i64 0, .int .i64 0], boxO 104 g5 [.int .i64 (w64 (q1.tdiv (w64 (2 * q0.H)))), .int .i64 (w64 ((w64 ((w64 ((q1.tmod (w64 (2 * q0.H))) + 1)).tdiv 2)) * 2)), .int .i64 1, .int .i64 1]]) [0, 1] ?_ ⟨rfl, rfl, rfl, trivial⟩ (by decide) rfl
    refine JE.code ?_
    refine JX.seq ?_
    refine JX.seq ?_
    refine JX.region ?_
    refine JL.val (yl_move rfl) rfl ?_
    refine JL.val (yl_rem rfl rfl (by decide)) rfl ?_
    refine JL.val (yl_eql rfl rfl) rfl ?_
    refine JL.nil ?_
    refine JE.code ?_
    obtain ⟨j7, hj7, hresj7⟩ := bind_some hres
    refine JX.cut (K := fun J => J [(4, ptrAt (some ⟨g1, 0, none⟩) 0), (7, ptrAt (some ⟨g5, 0, none⟩) 0)] [boxO 104 g1 [.int .i64 0, .int .i64 0, .int .i64 0, .int .i64 0], boxO 104 g5 [.int .i64 j7.At.X, .int .i64 j7.At.Y, .int .i64 j7.DX, .int .i64 j7.DY]]) ?_ ?_
    · have hres := hresj7
      refine JE.code ?_
      refine JX.seq ?_
      refine JX.region ?_
      refine JL.val (yl_loadn Go.Proofs.Try.underlying104 rfl i104 rfl (fun w hC => rd_box hC 1 rfl) rfl (i104s).symm i104p) rfl ?_
      refine JL.eff (ef_store_box (i := 0) (v := .agg #[.int .i64 j7.At.X, .int .i64 j7.At.Y, .int .i64 j7.DX, .int .i64 j7.DY]) i104 rfl rfl rfl (i104s).symm (Nat.le_of_ble_eq_true rfl) (by simp [Value.cells, Value.oneCell'])) rfl ?_
      rintro _ _ rfl
      refine JL.nil ?_
      refine JE.weak (env' := [(4, ptrAt (some ⟨g1, 0, none⟩) 0)]) (es' := [boxO 104 g1 [.int .i64 j7.At.X, .int .i64 j7.At.Y, .int .i64 j7.DX, .int .i64 j7.DY]]) [0] ?_ ⟨rfl, trivial⟩ (by decide) rfl
      refine JE.code ?_
      refine JX.ret ?_
      obtain rfl := Option.some.inj hres
      refine JE.ret (rs := [.cell 4 104]) (vs := [.agg #[.int .i64 j7.At.X, .int .i64 j7.At.Y, .int .i64 j7.DX, .int .i64 j7.DY]]) rfl ⟨rv_box 0 rfl rfl Go.Proofs.Try.underlying104 rfl i104 (i104s).symm, trivial⟩ ?_
      exact fun w' hb hs => ⟨_, _, ⟨rfl, rfl⟩, rfl, hb, hs.sel [] _ (by decide) rfl⟩
    · intro K
      rcases cond_some hj7 with ⟨hb, hres⟩ | ⟨hb, hres⟩
      · refine JX.condT rfl hb ?_
        refine JX.region ?_
        refine JL.val (yl_fieldAt (a := some _) Go.Proofs.Try.underlying104 rfl i2 i2n rfl rfl) rfl ?_
        refine JL.eff (ef_store_box (i := 1) (v := .int .i64 (-1)) i2 rfl rfl rfl (i2s).symm (Nat.le_of_ble_eq_true rfl) (by simp [Value.cells, Value.oneCell'])) rfl ?_
        rintro _ _ rfl
        refine JL.nil ?_
        have hj := Option.some.inj hres
        exact JE.weak [0, 1] (K) ⟨(by subst hj; rfl), (by subst hj; rfl), trivial⟩ (by decide) (by subst hj; rfl)
      · refine JX.condF rfl hb ?_
        refine JX.skip ?_
        have hj := Option.some.inj hres
        exact JE.weak [0, 1] (K) ⟨(by subst hj; rfl), (by subst hj; rfl), trivial⟩ (by decide) (by subst hj; rfl)

end Go.Sh
