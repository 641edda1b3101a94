/- Walks through functions that the law reaches, printed by program. -/
import Derived.Test.YtnaekndnmnbonaaF13W1
set_option linter.unusedVariables false
set_option linter.unusedSimpArgs false
namespace Go.Sh
open Go Go.RowKit
/- impl.ApplyStrokes -/
def sh61_1 (q1 : List (List SPoint)) (q2 : Int) : (Int × (Int × Int) × List Int × List Int) → Option ((Int × (Int × Int) × List Int × List Int) ⊕ ((Int × Int) × List Int × List Int))
  | (x23, x24, x25, x26) => bif decide (x23 < ((q1.length : Nat) : Int)) then (Option.bind (getI q1 x23) fun x31 => Option.bind (sh54 (SPanel.mk x24.1 x24.2 x25) x31 q2) fun x35 => bif x35.2 != 0 then (Option.bind (appL x26 [x23]) fun x43 => some (.inl (w64 (x23 + 1), (x24.1, x24.2), x25, x43))) else (some (.inl (w64 (x23 + 1), (x35.1.W, x35.1.H), x35.1.Breaks, x26)))) else (some (.inr ((x24.1, x24.2), x25, x26)))
def sh61 (q0 : SPanel) (q1 : List (List SPoint)) (q2 : Int) : Option (SPanel × List Int × Int) := Option.bind (sh99 q0) fun x5 => bif !x5 then (some (SPanel.mk 0 0 ([] : List Int), ([] : List Int), 1)) else (Option.bind (sh121 q2) fun x8 => bif !x8 then (some (SPanel.mk 0 0 ([] : List Int), ([] : List Int), 2)) else (Option.bind (sh123 q0) fun x11 => Option.bind (iter (sh61_1 q1 q2) (0, (x11.W, x11.H), x11.Breaks, ([] : List Int))) fun b1 => (some (SPanel.mk b1.1.1 b1.1.2 b1.2.1, b1.2.2, 0))))
def T61 (r : SPanel × List Int × Int) (v : Value) (rs : List Own) : Prop := ∃ (a0_2 : Option Addr) (n0_2 c0_2 : Nat), r.1.Breaks.length = n0_2 ∧ ∃ (a1 : Option Addr) (n1 c1 : Nat), r.2.1.length = n1 ∧ v = rets [.agg #[.int .i64 r.1.W, .int .i64 r.1.H, .slice a0_2 n0_2 c0_2], .slice a1 n1 c1, .int .i64 r.2.2] ∧ rs = [rowT 2 eI64 a0_2 n0_2 c0_2 r.1.Breaks, rowT 2 eI64 a1 n1 c1 r.2.1]
set_option maxRecDepth 100000 in
theorem c61 {w : World} {q0 : SPanel} {a_0_2 : Option Addr} {n_0_2 c_0_2 : Nat} (g_0_2 : Rd w a_0_2 (eI64.fl q0.Breaks)) (l_0_2 : q0.Breaks.length = n_0_2) (k_0_2 : n_0_2 ≤ c_0_2) {q1 : List (List SPoint)} {a_1 : Option Addr} {n_1 c_1 : Nat} {h_1 : List Hd} (g_1 : Rd w a_1 (eHd.fl h_1)) (r_1 : RdI w eSPoint h_1 q1) (i_1 : Inn h_1 q1) (l_1 : q1.length = n_1) (k_1 : n_1 ≤ c_1) {q2 : Int} {r : SPanel × List Int × Int} (hres : sh61 q0 q1 q2 = some r) : Calls Go.Proofs.Try.prog 61 [.agg #[.int .i64 q0.W, .int .i64 q0.H, .slice a_0_2 n_0_2 c_0_2], .slice a_1 n_1 c_1, .int .i64 q2].toArray w (Ret w (T61 r)) := by
  subst l_0_2
  subst l_1
  unfold sh61 at hres
  refine calls_of (n := 50) (M := []) (es := []) Go.Proofs.Try.func61 rfl rfl rfl (Sep.nil _ _ _) ?_
  refine JX.seq ?_
  refine JX.region ?_
  refine JL.eff (ef_box rfl rfl) rfl ?_
  rintro _ _ ⟨g1, rfl, rfl⟩
  refine JL.eff (ef_alloc i39 i39z rfl) rfl ?_
  rintro _ _ ⟨g3, rfl, rfl⟩
  refine JL.val (yl_assign rfl) rfl ?_
  refine JL.val (yl_assign rfl) rfl ?_
  refine JL.nil ?_
  refine JE.weak (env' := [(1, .slice a_1 q1.length c_1), (2, .int .i64 q2), (3, ptrAt (some ⟨g1, 0, none⟩) 0), (6, ptrAt (some ⟨g3, 0, none⟩) 0)]) (es' := [boxO 39 g1 [.int .i64 q0.W, .int .i64 q0.H, .slice a_0_2 q0.Breaks.length c_0_2], boxO 39 g3 [.int .i64 0, .int .i64 0, .slice none 0 0]]) [0, 1] ?_ ⟨rfl, rfl, rfl, rfl, trivial⟩ (by decide) rfl
  refine JE.code ?_
  refine JX.seq ?_
  refine JX.seq ?_
  refine JX.region ?_
  refine JL.val (yl_loadn Go.Proofs.Try.underlying39 rfl i39 rfl (fun w hC => rd_box hC 0 rfl) rfl (i39s).symm i39p) rfl ?_
  obtain ⟨x5, hx5, hres⟩ := bind_some hres
  refine JL.eff (ef_call (vs := [.agg #[.int .i64 q0.W, .int .i64 q0.H, .slice a_0_2 q0.Breaks.length c_0_2]]) (T := T99 x5) Go.Proofs.Try.func99 rfl (by kernel_rfl) rfl (fun w hC => c99 (q0 := q0) (rd_arg g_0_2 hC) rfl k_0_2 hx5)) rfl ?_
  rintro _ _ ⟨_, ⟨rfl, rfl⟩, rfl⟩
  refine JL.val (yl_not rfl) rfl ?_
  refine JL.nil ?_
  refine JE.code ?_
  rcases cond_some hres with ⟨hb, hres⟩ | ⟨hb, hres⟩
  · refine JX.condT rfl hb ?_
    refine JX.seq ?_
    refine JX.region ?_
    refine JL.val (yl_build rfl (fun w => bld39_  w)) rfl ?_
    refine JL.eff (ef_store_box (i := 1) (v := .agg #[.int .i64 0, .int .i64 0, .slice none 0 0]) i39 rfl rfl rfl (i39s).symm (Nat.le_of_ble_eq_true rfl) (by simp [Value.cells, Value.oneCell'])) rfl ?_
    rintro _ _ rfl
    refine JL.val (yl_assign rfl) rfl ?_
    refine JL.val (yl_assign rfl) rfl ?_
    refine JL.nil ?_
    refine JE.weak (env' := [(6, ptrAt (some ⟨g3, 0, none⟩) 0), (7, .slice none 0 0), (8, .int .i64 1)]) (es' := [boxO 39 g3 [.int .i64 0, .int .i64 0, .slice none 0 0]]) [1] ?_ ⟨rfl, rfl, rfl, trivial⟩ (by decide) rfl
    refine JE.code ?_
    refine JX.ret ?_
    refine JE.nilrow 2 eI64 ?_
    refine JE.nilrow 2 eI64 ?_
    obtain rfl := Option.some.inj hres
    refine JE.ret (rs := [.cell 6 39, .tmp 7, .tmp 8]) (vs := [.agg #[.int .i64 0, .int .i64 0, .slice none 0 0], .slice none 0 0, .int .i64 1]) rfl ⟨rv_box 0 rfl rfl Go.Proofs.Try.underlying39 rfl i39 (i39s).symm, rfl, rfl, trivial⟩ ?_
    exact fun w' hb hs => ⟨_, _, ⟨none, 0, 0, rfl, none, 0, 0, rfl, rfl, rfl⟩, rfl, hb, hs.sel [1, 2] _ (by decide) rfl⟩
  · refine JX.condF rfl hb ?_
    refine JX.skip ?_
    refine JE.code ?_
    refine JX.seq ?_
    refine JX.seq ?_
    refine JX.region ?_
    refine JL.val (yl_move rfl) rfl ?_
    obtain ⟨x8, hx8, hres⟩ := bind_some hres
    refine JL.eff (ef_call (T := T121 x8) Go.Proofs.Try.func121 rfl (by kernel_rfl) rfl (fun w hC => c121  hx8)) rfl ?_
    rintro _ _ ⟨_, ⟨rfl, rfl⟩, rfl⟩
    refine JL.val (yl_not rfl) rfl ?_
    refine JL.nil ?_
    refine JE.code ?_
    rcases cond_some hres with ⟨hb, hres⟩ | ⟨hb, hres⟩
    · refine JX.condT rfl hb ?_
      refine JX.seq ?_
      refine JX.region ?_
      refine JL.val (yl_build rfl (fun w => bld39_  w)) rfl ?_
      refine JL.eff (ef_store_box (i := 1) (v := .agg #[.int .i64 0, .int .i64 0, .slice none 0 0]) i39 rfl rfl rfl (i39s).symm (Nat.le_of_ble_eq_true rfl) (by simp [Value.cells, Value.oneCell'])) rfl ?_
      rintro _ _ rfl
      refine JL.val (yl_assign rfl) rfl ?_
      refine JL.val (yl_assign rfl) rfl ?_
      refine JL.nil ?_
      refine JE.weak (env' := [(6, ptrAt (some ⟨g3, 0, none⟩) 0), (7, .slice none 0 0), (8, .int .i64 2)]) (es' := [boxO 39 g3 [.int .i64 0, .int .i64 0, .slice none 0 0]]) [1] ?_ ⟨rfl, rfl, rfl, trivial⟩ (by decide) rfl
      refine JE.code ?_
      refine JX.ret ?_
      refine JE.nilrow 2 eI64 ?_
      refine JE.nilrow 2 eI64 ?_
      obtain rfl := Option.some.inj hres
      refine JE.ret (rs := [.cell 6 39, .tmp 7, .tmp 8]) (vs := [.agg #[.int .i64 0, .int .i64 0, .slice none 0 0], .slice none 0 0, .int .i64 2]) rfl ⟨rv_box 0 rfl rfl Go.Proofs.Try.underlying39 rfl i39 (i39s).symm, rfl, rfl, trivial⟩ ?_
      exact fun w' hb hs => ⟨_, _, ⟨none, 0, 0, rfl, none, 0, 0, rfl, rfl, rfl⟩, rfl, hb, hs.sel [1, 2] _ (by decide) rfl⟩
    · refine JX.condF rfl hb ?_
      refine JX.skip ?_
      refine JE.code ?_
      refine JX.seq ?_
      refine JX.region ?_
      refine JL.val (yl_loadn Go.Proofs.Try.underlying39 rfl i39 rfl (fun w hC => rd_box hC 0 rfl) rfl (i39s).symm i39p) rfl ?_
      obtain ⟨x11, hx11, hres⟩ := bind_some hres
      refine JL.eff (ef_call (vs := [.agg #[.int .i64 q0.W, .int .i64 q0.H, .slice a_0_2 q0.Breaks.length c_0_2]]) (T := T123 x11) Go.Proofs.Try.func123 rfl (by kernel_rfl) rfl (fun w hC => c123 (q0 := q0) (rd_arg g_0_2 hC) rfl k_0_2 hx11)) rfl ?_
      rintro _ _ ⟨_, ⟨a12, _, cp13, rfl, rfl, rfl⟩, rfl⟩
      refine JL.eff (ef_buildSlice (E := 2) (k := eI64.k) (us := eI64.fl ([] : List Int)) rfl (fun w => bsl33_0  w) rfl (by decide)) rfl ?_
      rintro _ _ ⟨a15, rfl, rfl⟩
      refine JL.eff (ef_alloc i39 i39z rfl) rfl ?_
      rintro _ _ ⟨g17, rfl, rfl⟩
      refine JL.eff (ef_store_box (i := 4) (v := .agg #[.int .i64 x11.W, .int .i64 x11.H, .slice a12 x11.Breaks.length cp13]) i39 rfl rfl rfl (i39s).symm (Nat.le_of_ble_eq_true rfl) (by simp [Value.cells, Value.oneCell'])) rfl ?_
      rintro _ _ rfl
      refine JL.val (yl_assign rfl) rfl ?_
      refine JL.nil ?_
      refine JE.weak (env' := [(1, .slice a_1 q1.length c_1), (2, .int .i64 q2), (6, ptrAt (some ⟨g3, 0, none⟩) 0), (9, ptrAt (some ⟨g17, 0, none⟩) 0), (10, .slice a15 0 0)]) (es' := [boxO 39 g3 [.int .i64 0, .int .i64 0, .slice none 0 0], boxO 39 g17 [.int .i64 x11.W, .int .i64 x11.H, .slice a12 x11.Breaks.length cp13], rowT 2 eI64 a12 x11.Breaks.length cp13 x11.Breaks, rowT 2 eI64 a15 0 0 ([] : List Int)]) [1, 4, 2, 3] ?_ ⟨rfl, rfl, rfl, rfl, rfl, trivial⟩ (by decide) rfl
      refine JE.code ?_
      refine JX.seq ?_
      refine JX.seq ?_
      refine JX.region ?_
      refine JL.val (yl_move rfl) rfl ?_
      refine JL.val (yl_len_slice Go.Proofs.Try.underlying59 rfl) rfl ?_
      refine JL.val (yl_move rfl) rfl ?_
      refine JL.nil ?_
      refine JE.code ?_
      refine JX.block ?_
      obtain ⟨y1, hy1, hresO1⟩ := bind_some hres
      refine JX.loop (I := fun (s1 : Int × (Int × Int) × List Int × List Int) aa ww => ∃ (a19 : Option Addr) (cp20 : Nat) (a21 : Option Addr) (cp22 : Nat), St w [] 50 [(2, .int .i64 q2), (6, ptrAt (some ⟨g3, 0, none⟩) 0), (9, ptrAt (some ⟨g17, 0, none⟩) 0), (10, .slice a21 s1.2.2.2.length cp22), (26, .slice a_1 q1.length c_1), (27, .int .i64 ((q1.length : Nat) : Int)), (28, .int .i64 s1.1)] [boxO 39 g3 [.int .i64 0, .int .i64 0, .slice none 0 0], boxO 39 g17 [.int .i64 s1.2.1.1, .int .i64 s1.2.1.2, .slice a19 s1.2.2.1.length cp20], rowT 2 eI64 a19 s1.2.2.1.length cp20 s1.2.2.1, rowT 2 eI64 a21 s1.2.2.2.length cp22 s1.2.2.2] aa ww) (sh61_1 q1 q2) hy1 (fun a w h => ⟨a12, cp13, a15, 0, h.weak ⟨rfl, rfl, rfl, rfl, rfl, rfl, rfl, trivial⟩ [0, 1, 2, 3] (by decide) rfl⟩) ?_
      rintro ⟨x23, x24, x25, x26⟩ o1 hres hox1 aa ww ⟨a27, cp28, a29, cp30, hS⟩
      refine (?_ : JX Go.Proofs.Try.prog w [] 50 _ _ [(2, .int .i64 q2), (6, ptrAt (some ⟨g3, 0, none⟩) 0), (9, ptrAt (some ⟨g17, 0, none⟩) 0), (10, .slice a29 x26.length cp30), (26, .slice a_1 q1.length c_1), (27, .int .i64 ((q1.length : Nat) : Int)), (28, .int .i64 x23)] [boxO 39 g3 [.int .i64 0, .int .i64 0, .slice none 0 0], boxO 39 g17 [.int .i64 x24.1, .int .i64 x24.2, .slice a27 x25.length cp28], rowT 2 eI64 a27 x25.length cp28 x25, rowT 2 eI64 a29 x26.length cp30 x26] _) aa ww hS
      clear hS
      simp only [sh61_1] at hres
      refine JX.seq ?_
      refine JX.region ?_
      refine JL.val (yl_lss rfl rfl) rfl ?_
      refine JL.nil ?_
      refine JE.code ?_
      refine JX.seq ?_
      rcases cond_some hres with ⟨hb, hres⟩ | ⟨hb, hres⟩
      · refine JX.condT rfl hb ?_
        refine JX.skip ?_
        refine JE.code ?_
        refine JX.seq ?_
        refine JX.block ?_
        refine JX.seq ?_
        refine JX.region ?_
        refine JL.val (yl_move rfl) rfl ?_
        obtain ⟨x31, hx31, hres⟩ := bind_some hres
        obtain ⟨ha32, hc33, hhx31⟩ := Inn.sub i_1 hx31
        refine JL.val (yl_idxT Go.Proofs.Try.underlying59 i22 i22s rfl rfl hhx31 (Inn.len i_1) (fun w hC => rd_arg g_1 hC)) rfl ?_
        refine JL.val (yl_loadT0 (z := ⟨ha32, x31.length, hc33⟩) Go.Proofs.Try.underlying22 rfl rfl hhx31 (fun w hC => rd_arg g_1 hC) rfl) rfl ?_
        refine JL.val (yl_assign rfl) rfl ?_
        refine JL.val (yl_assign rfl) rfl ?_
        refine JL.nil ?_
        refine JE.weak (env' := [(2, .int .i64 q2), (6, ptrAt (some ⟨g3, 0, none⟩) 0), (9, ptrAt (some ⟨g17, 0, none⟩) 0), (10, .slice a29 x26.length cp30), (11, .int .i64 x23), (12, .slice ha32 x31.length hc33), (26, .slice a_1 q1.length c_1), (27, .int .i64 ((q1.length : Nat) : Int)), (28, .int .i64 x23)]) (es' := [boxO 39 g3 [.int .i64 0, .int .i64 0, .slice none 0 0], boxO 39 g17 [.int .i64 x24.1, .int .i64 x24.2, .slice a27 x25.length cp28], rowT 2 eI64 a27 x25.length cp28 x25, rowT 2 eI64 a29 x26.length cp30 x26]) [0, 1, 2, 3] ?_ ⟨rfl, rfl, rfl, rfl, rfl, rfl, rfl, rfl, rfl, trivial⟩ (by decide) rfl
        refine JE.code ?_
        refine JX.seq ?_
        refine JX.region ?_
        refine JL.val (yl_loadn Go.Proofs.Try.underlying39 rfl i39 rfl (fun w hC => rd_box hC 1 rfl) rfl (i39s).symm i39p) rfl ?_
        refine JL.val (yl_move rfl) rfl ?_
        refine JL.val (yl_move rfl) rfl ?_
        obtain ⟨x35, hx35, hres⟩ := bind_some hres
        refine JL.eff (ef_call (vs := [.agg #[.int .i64 x24.1, .int .i64 x24.2, .slice a27 x25.length cp28], .slice ha32 x31.length hc33, .int .i64 q2]) (T := T54 x35) Go.Proofs.Try.func54 rfl (by kernel_rfl) rfl (fun w hC => c54 (q0 := SPanel.mk x24.1 x24.2 x25) (rd_row hC 2 rfl) rfl (ln_row hC 2 rfl) (rd_arg (RdI.sub r_1 hx31 hhx31) hC) rfl (RdI.ln r_1 hx31 hhx31) hx35)) rfl ?_
        rintro _ _ ⟨_, ⟨a36, _, cp37, rfl, rfl, rfl⟩, rfl⟩
        refine JL.val (yl_move rfl) rfl ?_
        refine JL.val (yl_extract rfl rfl) rfl ?_
        refine JL.val (yl_extract rfl rfl) rfl ?_
        refine JL.eff (ef_alloc i39 i39z rfl) rfl ?_
        rintro _ _ ⟨g39, rfl, rfl⟩
        refine JL.eff (ef_store_box (i := 5) (v := .agg #[.int .i64 x35.1.W, .int .i64 x35.1.H, .slice a36 x35.1.Breaks.length cp37]) i39 rfl rfl rfl (i39s).symm (Nat.le_of_ble_eq_true rfl) (by simp [Value.cells, Value.oneCell'])) rfl ?_
        rintro _ _ rfl
        refine JL.val (yl_assign rfl) rfl ?_
        refine JL.nil ?_
        refine JE.weak (env' := [(2, .int .i64 q2), (6, ptrAt (some ⟨g3, 0, none⟩) 0), (9, ptrAt (some ⟨g17, 0, none⟩) 0), (10, .slice a29 x26.length cp30), (11, .int .i64 x23), (13, ptrAt (some ⟨g39, 0, none⟩) 0), (14, .int .i64 x35.2), (26, .slice a_1 q1.length c_1), (27, .int .i64 ((q1.length : Nat) : Int)), (28, .int .i64 x23)]) (es' := [boxO 39 g3 [.int .i64 0, .int .i64 0, .slice none 0 0], boxO 39 g17 [.int .i64 x24.1, .int .i64 x24.2, .slice a27 x25.length cp28], rowT 2 eI64 a27 x25.length cp28 x25, rowT 2 eI64 a29 x26.length cp30 x26, boxO 39 g39 [.int .i64 x35.1.W, .int .i64 x35.1.H, .slice a36 x35.1.Breaks.length cp37], rowT 2 eI64 a36 x35.1.Breaks.length cp37 x35.1.Breaks]) [0, 1, 2, 3, 5, 4] ?_ ⟨rfl, rfl, rfl, rfl, rfl, rfl, rfl, rfl, rfl, rfl, trivial⟩ (by decide) rfl
        refine JE.code ?_
        refine JX.seq ?_
        refine JX.seq ?_
        refine JX.region ?_
        refine JL.val (yl_move rfl) rfl ?_
        refine JL.val (yl_neq rfl rfl) rfl ?_
        refine JL.nil ?_
        refine JE.code ?_
        rcases cond_some hres with ⟨hb, hres⟩ | ⟨hb, hres⟩
        · refine JX.condT rfl hb ?_
          refine JX.seq ?_
          refine JX.region ?_
          refine JL.val (yl_move rfl) rfl ?_
          refine JL.val (yl_move rfl) rfl ?_
          refine JL.eff (ef_buildSlice (E := 2) (k := eI64.k) (us := eI64.fl [x23]) rfl (fun w => bsl33_1 x23 w) rfl (by decide)) rfl ?_
          rintro _ _ ⟨a41, rfl, rfl⟩
          obtain ⟨x43, hx43, hres⟩ := bind_some hres
          refine JL.eff (ef_appendT (ix := 3) Go.Proofs.Try.underlying33 i2 i2z i2s rfl i2b0 i2b1 rfl rfl rfl rfl rfl (fun w hC => rd_row hC 6 rfl) hx43) rfl ?_
          rintro _ _ ⟨a44, cp45, rfl, rfl⟩
          refine JL.val (yl_assign rfl) rfl ?_
          refine JL.nil ?_
          refine JE.weak (env' := [(2, .int .i64 q2), (6, ptrAt (some ⟨g3, 0, none⟩) 0), (9, ptrAt (some ⟨g17, 0, none⟩) 0), (10, .slice a44 x43.length cp45), (26, .slice a_1 q1.length c_1), (27, .int .i64 ((q1.length : Nat) : Int)), (28, .int .i64 x23)]) (es' := [boxO 39 g3 [.int .i64 0, .int .i64 0, .slice none 0 0], boxO 39 g17 [.int .i64 x24.1, .int .i64 x24.2, .slice a27 x25.length cp28], rowT 2 eI64 a27 x25.length cp28 x25, rowT 2 eI64 a44 x43.length cp45 x43]) [0, 1, 2, 3] ?_ ⟨rfl, rfl, rfl, rfl, rfl, rfl, rfl, trivial⟩ (by decide) rfl
          refine JE.code ?_
          refine JX.exit ?_
          refine JE.qb rfl ?_
          refine JE.code ?_
          refine JX.region ?_
          refine JL.val (yl_add rfl rfl) rfl ?_
          refine JL.val (yl_move rfl) rfl ?_
          refine JL.nil ?_
          refine JE.cont hres ?_
          exact fun a w h => ⟨a27, cp28, a44, cp45, h.weak ⟨rfl, rfl, rfl, rfl, rfl, rfl, rfl, trivial⟩ [0, 1, 2, 3] (by decide) rfl⟩
        · refine JX.condF rfl hb ?_
          refine JX.skip ?_
          refine JE.code ?_
          refine JX.region ?_
          refine JL.val (yl_loadn Go.Proofs.Try.underlying39 rfl i39 rfl (fun w hC => rd_box hC 4 rfl) rfl (i39s).symm i39p) rfl ?_
          refine JL.eff (ef_store_box (i := 1) (v := .agg #[.int .i64 x35.1.W, .int .i64 x35.1.H, .slice a36 x35.1.Breaks.length cp37]) i39 rfl rfl rfl (i39s).symm (Nat.le_of_ble_eq_true rfl) (by simp [Value.cells, Value.oneCell'])) rfl ?_
          rintro _ _ rfl
          refine JL.nil ?_
          refine JE.weak (env' := [(2, .int .i64 q2), (6, ptrAt (some ⟨g3, 0, none⟩) 0), (9, ptrAt (some ⟨g17, 0, none⟩) 0), (10, .slice a29 x26.length cp30), (26, .slice a_1 q1.length c_1), (27, .int .i64 ((q1.length : Nat) : Int)), (28, .int .i64 x23)]) (es' := [boxO 39 g3 [.int .i64 0, .int .i64 0, .slice none 0 0], boxO 39 g17 [.int .i64 x35.1.W, .int .i64 x35.1.H, .slice a36 x35.1.Breaks.length cp37], rowT 2 eI64 a36 x35.1.Breaks.length cp37 x35.1.Breaks, rowT 2 eI64 a29 x26.length cp30 x26]) [0, 1, 5, 3] ?_ ⟨rfl, rfl, rfl, rfl, rfl, rfl, rfl, trivial⟩ (by decide) rfl
          refine JE.code ?_
          refine JX.region ?_
          refine JL.val (yl_add rfl rfl) rfl ?_
          refine JL.val (yl_move rfl) rfl ?_
          refine JL.nil ?_
          refine JE.cont hres ?_
          exact fun a w h => ⟨a36, cp37, a29, cp30, h.weak ⟨rfl, rfl, rfl, rfl, rfl, rfl, rfl, trivial⟩ [0, 1, 2, 3] (by decide) rfl⟩
      · refine JX.condF rfl hb ?_
        refine JX.exit ?_
        refine JE.qb rfl ?_
        obtain ⟨b1, hb1⟩ : ∃ b : (Int × Int) × List Int × List Int, b = ((x24.1, x24.2), x25, x26) := ⟨_, rfl⟩
        have hy1 : b1 = y1 := by rw [hb1]; exact hox1 _ (Option.some.inj hres).symm
        have hres := hresO1
        rw [← hy1] at hres
        refine JE.weak (env' := [(6, ptrAt (some ⟨g3, 0, none⟩) 0), (9, ptrAt (some ⟨g17, 0, none⟩) 0), (10, .slice a29 b1.2.2.length cp30)]) (es' := [boxO 39 g3 [.int .i64 0, .int .i64 0, .slice none 0 0], boxO 39 g17 [.int .i64 b1.1.1, .int .i64 b1.1.2, .slice a27 b1.2.1.length cp28], rowT 2 eI64 a27 b1.2.1.length cp28 b1.2.1, rowT 2 eI64 a29 b1.2.2.length cp30 b1.2.2]) [0, 1, 2, 3] ?_ ⟨(by subst hb1; rfl), (by subst hb1; rfl), (by subst hb1; rfl), trivial⟩ (by decide) (by subst hb1; rfl)
        refine JE.code ?_
        refine JX.seq ?_
        refine JX.region ?_
        refine JL.val (yl_loadn Go.Proofs.Try.underlying39 rfl i39 rfl (fun w hC => rd_box hC 1 rfl) rfl (i39s).symm i39p) rfl ?_
        refine JL.val (yl_move rfl) rfl ?_
        refine JL.eff (ef_store_box (i := 0) (v := .agg #[.int .i64 b1.1.1, .int .i64 b1.1.2, .slice a27 b1.2.1.length cp28]) i39 rfl rfl rfl (i39s).symm (Nat.le_of_ble_eq_true rfl) (by simp [Value.cells, Value.oneCell'])) rfl ?_
        rintro _ _ rfl
        refine JL.val (yl_assign rfl) rfl ?_
        refine JL.val (yl_assign rfl) rfl ?_
        refine JL.nil ?_
        refine JE.weak (env' := [(6, ptrAt (some ⟨g3, 0, none⟩) 0), (7, .slice a29 b1.2.2.length cp30), (8, .int .i64 0)]) (es' := [boxO 39 g3 [.int .i64 b1.1.1, .int .i64 b1.1.2, .slice a27 b1.2.1.length cp28], rowT 2 eI64 a27 b1.2.1.length cp28 b1.2.1, rowT 2 eI64 a29 b1.2.2.length cp30 b1.2.2]) [0, 2, 3] ?_ ⟨rfl, rfl, rfl, trivial⟩ (by decide) rfl
        refine JE.code ?_
        refine JX.ret ?_
        obtain rfl := Option.some.inj hres
        refine JE.ret (rs := [.cell 6 39, .tmp 7, .tmp 8]) (vs := [.agg #[.int .i64 b1.1.1, .int .i64 b1.1.2, .slice a27 b1.2.1.length cp28], .slice a29 b1.2.2.length cp30, .int .i64 0]) rfl ⟨rv_box 0 rfl rfl Go.Proofs.Try.underlying39 rfl i39 (i39s).symm, rfl, rfl, trivial⟩ ?_
        exact fun w' hb hs => ⟨_, _, ⟨a27, b1.2.1.length, cp28, rfl, a29, b1.2.2.length, cp30, rfl, rfl, rfl⟩, rfl, hb, hs.sel [1, 2] _ (by decide) rfl⟩

/- laws.FnExactApplyStrokes -/
def sh13 (q0 : SPanel) (q1 : List (List SPoint)) (q2 : Int) : Option (Bool) := Option.bind (sh27 q0 1048576) fun x3 => bif decide (x3 < 0) then (some true) else (Option.bind (sh58 q1 x3) fun x4 => bif decide (x4 < 0) then (some true) else (Option.bind (sh29 q0) fun x5 => Option.bind (sh60 q1) fun x9 => Option.bind (sh59 x5 x9 q2) fun x16 => Option.bind (sh29 q0) fun x25 => Option.bind (sh60 q1) fun x31 => Option.bind (sh61 x25 x31 q2) fun x38 => Option.bind (sh32 x38.1 x16.1) fun x47 => Option.bind (bif !x47 then (some true) else (Option.bind (sh31 x38.2.1 x16.2.1) fun x49 => some !x49)) fun cb48 => (bif cb48 || (x38.2.2 != x16.2.2) then (some false) else (Option.bind (sh29 q0) fun x51 => Option.bind (sh32 x25 x51) fun x55 => bif !x55 then (some false) else (Option.bind (sh60 q1) fun x56 => Option.bind (sh48 x31 x56) fun x63 => bif !x63 then (some false) else (Option.bind (sh33 x25 1) fun x64 => Option.bind (sh49 x31 x64.1) fun x66 => Option.bind (bif decide (x66.1 < 0) then (some true) else (Option.bind (sh32 x38.1 x16.1) fun x70 => some !x70)) fun cb69 => (Option.bind (bif cb69 then (some true) else (Option.bind (sh31 x38.2.1 x16.2.1) fun x72 => some !x72)) fun cb71 => (bif cb71 || (x38.2.2 != x16.2.2) then (some false) else (Option.bind (sh33 x38.1 1) fun x73 => Option.bind (sh34 x38.2.1 x73.1) fun x75 => Option.bind (sh55 (SPanel.mk x38.1.W x38.1.H x73.2) 1) fun x77 => bif decide (x77 < 0) then (some false) else (Option.bind (sh35 x75.2 x77) fun x78 => bif decide (x78 < 0) then (some false) else (bif x78 != x75.1 then (some false) else (Option.bind (sh29 q0) fun x79 => Option.bind (sh60 q1) fun x83 => Option.bind (sh61 x79 x83 q2) fun x90 => Option.bind (sh32 x90.1 x16.1) fun x99 => Option.bind (bif !x99 then (some true) else (Option.bind (sh31 x90.2.1 x16.2.1) fun x101 => some !x101)) fun cb100 => (bif cb100 || (x90.2.2 != x16.2.2) then (some false) else (Option.bind (sh55 (SPanel.mk x38.1.W x38.1.H x73.2) 1) fun x102 => bif decide (x102 < 0) then (some false) else (Option.bind (sh35 x75.2 x102) fun x103 => bif decide (x103 < 0) then (some false) else (bif x103 != x75.1 then (some false) else (some true)))))))))))))))))
def T13 (r : Bool) (v : Value) (rs : List Own) : Prop := v = rets [.bool r] ∧ rs = []
set_option maxRecDepth 100000 in
set_option maxHeartbeats 1000000 in
theorem c13 {w : World} {q0 : SPanel} {a_0_2 : Option Addr} {n_0_2 c_0_2 : Nat} (g_0_2 : Rd w a_0_2 (eI64.fl q0.Breaks)) (l_0_2 : q0.Breaks.length = n_0_2) (k_0_2 : n_0_2 ≤ c_0_2) {q1 : List (List SPoint)} {a_1 : Option Addr} {n_1 c_1 : Nat} {h_1 : List Hd} (g_1 : Rd w a_1 (eHd.fl h_1)) (r_1 : RdI w eSPoint h_1 q1) (i_1 : Inn h_1 q1) (l_1 : q1.length = n_1) (k_1 : n_1 ≤ c_1) {q2 : Int} {r : Bool} (hres : sh13 q0 q1 q2 = some r) : Calls Go.Proofs.Try.prog 13 [.agg #[.int .i64 q0.W, .int .i64 q0.H, .slice a_0_2 n_0_2 c_0_2], .slice a_1 n_1 c_1, .int .i64 q2].toArray w (Ret w (T13 r)) := by
  subst l_0_2
  subst l_1
  unfold sh13 at hres
  refine calls_of (n := 161) (M := []) (es := []) Go.Proofs.Try.func13 rfl rfl rfl (Sep.nil _ _ _) ?_
  refine JX.seq ?_
  refine JX.region ?_
  refine JL.eff (ef_box rfl rfl) rfl ?_
  rintro _ _ ⟨g1, rfl, rfl⟩
  refine JL.val (yl_assign rfl) rfl ?_
  refine JL.nil ?_
  refine JE.code ?_
  refine JX.seq ?_
  refine JX.region ?_
  refine JL.val (yl_assign rfl) rfl ?_
  refine JL.nil ?_
  refine JE.code ?_
  refine JX.seq ?_
  refine JX.region ?_
  refine JL.val (yl_loadn Go.Proofs.Try.underlying35 rfl i35 rfl (fun w hC => rd_box hC 0 rfl) rfl (i35s).symm i35p) rfl ?_
  refine JL.val (yl_move rfl) rfl ?_
  obtain ⟨x3, hx3, hres⟩ := bind_some hres
  refine JL.eff (ef_call (vs := [.agg #[.int .i64 q0.W, .int .i64 q0.H, .slice a_0_2 q0.Breaks.length c_0_2], .int .i64 1048576]) (T := T27 x3) Go.Proofs.Try.func27 rfl (by kernel_rfl) rfl (fun w hC => c27 (q0 := q0) (rd_arg g_0_2 hC) rfl k_0_2 hx3)) rfl ?_
  rintro _ _ ⟨_, ⟨rfl, rfl⟩, rfl⟩
  refine JL.val (yl_assign rfl) rfl ?_
  refine JL.nil ?_
  refine JE.weak (env' := [(1, .slice a_1 q1.length c_1), (2, .int .i64 q2), (3, ptrAt (some ⟨g1, 0, none⟩) 0), (7, .int .i64 x3)]) (es' := [boxO 35 g1 [.int .i64 q0.W, .int .i64 q0.H, .slice a_0_2 q0.Breaks.length c_0_2]]) [0] ?_ ⟨rfl, rfl, rfl, rfl, trivial⟩ (by decide) rfl
  refine JE.code ?_
  refine JX.seq ?_
  refine JX.seq ?_
  refine JX.region ?_
  refine JL.val (yl_move rfl) rfl ?_
  refine JL.val (yl_lss rfl rfl) rfl ?_
  refine JL.nil ?_
  refine JE.code ?_
  rcases cond_some hres with ⟨hb, hres⟩ | ⟨hb, hres⟩
  · refine JX.condT rfl hb ?_
    refine JX.seq ?_
    refine JX.region ?_
    refine JL.val (yl_assign rfl) rfl ?_
    refine JL.nil ?_
    refine JE.weak (env' := [(6, .bool true)]) (es' := []) [] ?_ ⟨rfl, trivial⟩ (by decide) rfl
    refine JE.code ?_
    refine JX.ret ?_
    obtain rfl := Option.some.inj hres
    refine JE.ret (rs := [.tmp 6]) (vs := [.bool true]) rfl ⟨rfl, trivial⟩ ?_
    exact fun w' hb hs => ⟨_, _, ⟨rfl, rfl⟩, rfl, hb, hs.sel [] _ (by decide) rfl⟩
  · refine JX.condF rfl hb ?_
    refine JX.skip ?_
    refine JE.code ?_
    refine JX.seq ?_
    refine JX.region ?_
    refine JL.val (yl_move rfl) rfl ?_
    refine JL.val (yl_move rfl) rfl ?_
    obtain ⟨x4, hx4, hres⟩ := bind_some hres
    refine JL.eff (ef_call (T := T58 x4) Go.Proofs.Try.func58 rfl (by kernel_rfl) rfl (fun w hC => c58 (rd_arg g_1 hC) (rdI_arg r_1 hC) i_1 rfl k_1 hx4)) rfl ?_
    rintro _ _ ⟨_, ⟨rfl, rfl⟩, rfl⟩
    refine JL.val (yl_assign rfl) rfl ?_
    refine JL.nil ?_
    refine JE.weak (env' := [(1, .slice a_1 q1.length c_1), (2, .int .i64 q2), (3, ptrAt (some ⟨g1, 0, none⟩) 0), (7, .int .i64 x4)]) (es' := [boxO 35 g1 [.int .i64 q0.W, .int .i64 q0.H, .slice a_0_2 q0.Breaks.length c_0_2]]) [0] ?_ ⟨rfl, rfl, rfl, rfl, trivial⟩ (by decide) rfl
    refine JE.code ?_
    refine JX.seq ?_
    refine JX.seq ?_
    refine JX.region ?_
    refine JL.val (yl_move rfl) rfl ?_
    refine JL.val (yl_lss rfl rfl) rfl ?_
    refine JL.nil ?_
    refine JE.code ?_
    rcases cond_some hres with ⟨hb, hres⟩ | ⟨hb, hres⟩
    · refine JX.condT rfl hb ?_
      refine JX.seq ?_
      refine JX.region ?_
      refine JL.val (yl_assign rfl) rfl ?_
      refine JL.nil ?_
      refine JE.weak (env' := [(6, .bool true)]) (es' := []) [] ?_ ⟨rfl, trivial⟩ (by decide) rfl
      refine JE.code ?_
      refine JX.ret ?_
      obtain rfl := Option.some.inj hres
      refine JE.ret (rs := [.tmp 6]) (vs := [.bool true]) rfl ⟨rfl, trivial⟩ ?_
      exact fun w' hb hs => ⟨_, _, ⟨rfl, rfl⟩, rfl, hb, hs.sel [] _ (by decide) rfl⟩
    · refine JX.condF rfl hb ?_
      refine JX.skip ?_
      refine JE.code ?_
      refine JX.seq ?_
      refine JX.region ?_
      refine JL.val (yl_loadn Go.Proofs.Try.underlying35 rfl i35 rfl (fun w hC => rd_box hC 0 rfl) rfl (i35s).symm i35p) rfl ?_
      obtain ⟨x5, hx5, hres⟩ := bind_some hres
      refine JL.eff (ef_call (vs := [.agg #[.int .i64 q0.W, .int .i64 q0.H, .slice a_0_2 q0.Breaks.length c_0_2]]) (T := T29 x5) Go.Proofs.Try.func29 rfl (by kernel_rfl) rfl (fun w hC => c29 (q0 := q0) (rd_arg g_0_2 hC) rfl k_0_2 hx5)) rfl ?_
      rintro _ _ ⟨_, ⟨a6, _, cp7, rfl, rfl, rfl⟩, rfl⟩
      refine JL.val (yl_move rfl) rfl ?_
      obtain ⟨x9, hx9, hres⟩ := bind_some hres
      refine JL.eff (ef_call (T := T60 x9) Go.Proofs.Try.func60 rfl (by kernel_rfl) rfl (fun w hC => c60 (rd_arg g_1 hC) (rdI_arg r_1 hC) i_1 rfl k_1 hx9)) rfl ?_
      rintro _ _ ⟨_, ⟨a10, _, cp11, hs13, rfl, hi14, rfl, rfl⟩, rfl⟩
      refine JL.val (yl_move rfl) rfl ?_
      obtain ⟨x16, hx16, hres⟩ := bind_some hres
      refine JL.eff (ef_call (vs := [.agg #[.int .i64 x5.W, .int .i64 x5.H, .slice a6 x5.Breaks.length cp7], .slice a10 x9.length cp11, .int .i64 q2]) (T := T59 x16) Go.Proofs.Try.func59 rfl (by kernel_rfl) rfl (fun w hC => c59 (q0 := x5) (rd_row hC 1 rfl) rfl (ln_row hC 1 rfl) (rd_row hC 2 rfl) (rd_inn hC 3 rfl) hi14 rfl (ln_row hC 2 rfl) hx16)) rfl ?_
      rintro _ _ ⟨_, ⟨a17, _, cp18, rfl, a20, _, cp21, rfl, rfl, rfl⟩, rfl⟩
      refine JL.val (yl_move rfl) rfl ?_
      refine JL.val (yl_extract rfl rfl) rfl ?_
      refine JL.val (yl_extract rfl rfl) rfl ?_
      refine JL.val (yl_extract rfl rfl) rfl ?_
      refine JL.eff (ef_alloc i39 i39z rfl) rfl ?_
      rintro _ _ ⟨g23, rfl, rfl⟩
      refine JL.eff (ef_store_box (i := 6) (v := .agg #[.int .i64 x16.1.W, .int .i64 x16.1.H, .slice a17 x16.1.Breaks.length cp18]) i39 rfl rfl rfl (i39s).symm (Nat.le_of_ble_eq_true rfl) (by simp [Value.cells, Value.oneCell'])) rfl ?_
      rintro _ _ rfl
      refine JL.val (yl_assign rfl) rfl ?_
      refine JL.val (yl_assign rfl) rfl ?_
      refine JL.nil ?_
      refine JE.weak (env' := [(1, .slice a_1 q1.length c_1), (2, .int .i64 q2), (3, ptrAt (some ⟨g1, 0, none⟩) 0), (8, ptrAt (some ⟨g23, 0, none⟩) 0), (9, .slice a20 x16.2.1.length cp21), (10, .int .i64 x16.2.2)]) (es' := [boxO 35 g1 [.int .i64 q0.W, .int .i64 q0.H, .slice a_0_2 q0.Breaks.length c_0_2], boxO 39 g23 [.int .i64 x16.1.W, .int .i64 x16.1.H, .slice a17 x16.1.Breaks.length cp18], rowT 2 eI64 a17 x16.1.Breaks.length cp18 x16.1.Breaks, rowT 2 eI64 a20 x16.2.1.length cp21 x16.2.1]) [0, 6, 4, 5] ?_ ⟨rfl, rfl, rfl, rfl, rfl, rfl, trivial⟩ (by decide) rfl
      refine JE.code ?_
      refine JX.seq ?_
      refine JX.region ?_
      refine JL.val (yl_loadn Go.Proofs.Try.underlying35 rfl i35 rfl (fun w hC => rd_box hC 0 rfl) rfl (i35s).symm i35p) rfl ?_
      obtain ⟨x25, hx25, hres⟩ := bind_some hres
      refine JL.eff (ef_call (vs := [.agg #[.int .i64 q0.W, .int .i64 q0.H, .slice a_0_2 q0.Breaks.length c_0_2]]) (T := T29 x25) Go.Proofs.Try.func29 rfl (by kernel_rfl) rfl (fun w hC => c29 (q0 := q0) (rd_arg g_0_2 hC) rfl k_0_2 hx25)) rfl ?_
      rintro _ _ ⟨_, ⟨a26, _, cp27, rfl, rfl, rfl⟩, rfl⟩
      refine JL.eff (ef_alloc i39 i39z rfl) rfl ?_
      rintro _ _ ⟨g29, rfl, rfl⟩
      refine JL.eff (ef_store_box (i := 5) (v := .agg #[.int .i64 x25.W, .int .i64 x25.H, .slice a26 x25.Breaks.length cp27]) i39 rfl rfl rfl (i39s).symm (Nat.le_of_ble_eq_true rfl) (by simp [Value.cells, Value.oneCell'])) rfl ?_
      rintro _ _ rfl
      refine JL.nil ?_
      refine JE.weak (env' := [(1, .slice a_1 q1.length c_1), (2, .int .i64 q2), (3, ptrAt (some ⟨g1, 0, none⟩) 0), (8, ptrAt (some ⟨g23, 0, none⟩) 0), (9, .slice a20 x16.2.1.length cp21), (10, .int .i64 x16.2.2), (11, ptrAt (some ⟨g29, 0, none⟩) 0)]) (es' := [boxO 35 g1 [.int .i64 q0.W, .int .i64 q0.H, .slice a_0_2 q0.Breaks.length c_0_2], boxO 39 g23 [.int .i64 x16.1.W, .int .i64 x16.1.H, .slice a17 x16.1.Breaks.length cp18], rowT 2 eI64 a17 x16.1.Breaks.length cp18 x16.1.Breaks, rowT 2 eI64 a20 x16.2.1.length cp21 x16.2.1, boxO 39 g29 [.int .i64 x25.W, .int .i64 x25.H, .slice a26 x25.Breaks.length cp27], rowT 2 eI64 a26 x25.Breaks.length cp27 x25.Breaks]) [0, 1, 2, 3, 5, 4] ?_ ⟨rfl, rfl, rfl, rfl, rfl, rfl, rfl, trivial⟩ (by decide) rfl
      refine JE.code ?_
      refine JX.seq ?_
      refine JX.region ?_
      refine JL.val (yl_move rfl) rfl ?_
      obtain ⟨x31, hx31, hres⟩ := bind_some hres
      refine JL.eff (ef_call (T := T60 x31) Go.Proofs.Try.func60 rfl (by kernel_rfl) rfl (fun w hC => c60 (rd_arg g_1 hC) (rdI_arg r_1 hC) i_1 rfl k_1 hx31)) rfl ?_
      rintro _ _ ⟨_, ⟨a32, _, cp33, hs35, rfl, hi36, rfl, rfl⟩, rfl⟩
      refine JL.val (yl_assign rfl) rfl ?_
      refine JL.nil ?_
      refine JE.code ?_
      refine JX.seq ?_
      refine JX.region ?_
      refine JL.val (yl_loadn Go.Proofs.Try.underlying39 rfl i39 rfl (fun w hC => rd_box hC 4 rfl) rfl (i39s).symm i39p) rfl ?_
      refine JL.val (yl_move rfl) rfl ?_
      refine JL.val (yl_move rfl) rfl ?_
      obtain ⟨x38, hx38, hres⟩ := bind_some hres
      refine JL.eff (ef_call (vs := [.agg #[.int .i64 x25.W, .int .i64 x25.H, .slice a26 x25.Breaks.length cp27], .slice a32 x31.length cp33, .int .i64 q2]) (T := T61 x38) Go.Proofs.Try.func61 rfl (by kernel_rfl) rfl (fun w hC => c61 (q0 := x25) (rd_row hC 5 rfl) rfl (ln_row hC 5 rfl) (rd_row hC 6 rfl) (rd_inn hC 7 rfl) hi36 rfl (ln_row hC 6 rfl) hx38)) rfl ?_
      rintro _ _ ⟨_, ⟨a39, _, cp40, rfl, a42, _, cp43, rfl, rfl, rfl⟩, rfl⟩
      refine JL.val (yl_move rfl) rfl ?_
      refine JL.val (yl_extract rfl rfl) rfl ?_
      refine JL.val (yl_extract rfl rfl) rfl ?_
      refine JL.val (yl_extract rfl rfl) rfl ?_
      refine JL.eff (ef_alloc i39 i39z rfl) rfl ?_
      rintro _ _ ⟨g45, rfl, rfl⟩
      refine JL.eff (ef_store_box (i := 10) (v := .agg #[.int .i64 x38.1.W, .int .i64 x38.1.H, .slice a39 x38.1.Breaks.length cp40]) i39 rfl rfl rfl (i39s).symm (Nat.le_of_ble_eq_true rfl) (by simp [Value.cells, Value.oneCell'])) rfl ?_
      rintro _ _ rfl
      refine JL.val (yl_assign rfl) rfl ?_
      refine JL.val (yl_assign rfl) rfl ?_
      refine JL.nil ?_
      refine JE.weak (env' := [(1, .slice a_1 q1.length c_1), (2, .int .i64 q2), (3, ptrAt (some ⟨g1, 0, none⟩) 0), (8, ptrAt (some ⟨g23, 0, none⟩) 0), (9, .slice a20 x16.2.1.length cp21), (10, .int .i64 x16.2.2), (11, ptrAt (some ⟨g29, 0, none⟩) 0), (12, .slice a32 x31.length cp33), (13, ptrAt (some ⟨g45, 0, none⟩) 0), (14, .slice a42 x38.2.1.length cp43), (15, .int .i64 x38.2.2)]) (es' := [boxO 35 g1 [.int .i64 q0.W, .int .i64 q0.H, .slice a_0_2 q0.Breaks.length c_0_2], boxO 39 g23 [.int .i64 x16.1.W, .int .i64 x16.1.H, .slice a17 x16.1.Breaks.length cp18], rowT 2 eI64 a17 x16.1.Breaks.length cp18 x16.1.Breaks, rowT 2 eI64 a20 x16.2.1.length cp21 x16.2.1, boxO 39 g29 [.int .i64 x25.W, .int .i64 x25.H, .slice a26 x25.Breaks.length cp27], rowT 2 eI64 a26 x25.Breaks.length cp27 x25.Breaks, rowT 22 eHd a32 x31.length cp33 hs35, innO 93 eSPoint none hs35 x31, boxO 39 g45 [.int .i64 x38.1.W, .int .i64 x38.1.H, .slice a39 x38.1.Breaks.length cp40], rowT 2 eI64 a39 x38.1.Breaks.length cp40 x38.1.Breaks, rowT 2 eI64 a42 x38.2.1.length cp43 x38.2.1]) [0, 1, 2, 3, 4, 5, 6, 7, 10, 8, 9] ?_ ⟨rfl, rfl, rfl, rfl, rfl, rfl, rfl, rfl, rfl, rfl, rfl, trivial⟩ (by decide) rfl
      refine JE.code ?_
      refine JX.seq ?_
      refine JX.seq ?_
      refine JX.region ?_
      refine JL.val (yl_loadn Go.Proofs.Try.underlying39 rfl i39 rfl (fun w hC => rd_box hC 8 rfl) rfl (i39s).symm i39p) rfl ?_
      refine JL.val (yl_loadn Go.Proofs.Try.underlying39 rfl i39 rfl (fun w hC => rd_box hC 1 rfl) rfl (i39s).symm i39p) rfl ?_
      obtain ⟨x47, hx47, hres⟩ := bind_some hres
      refine JL.eff (ef_call (vs := [.agg #[.int .i64 x38.1.W, .int .i64 x38.1.H, .slice a39 x38.1.Breaks.length cp40], .agg #[.int .i64 x16.1.W, .int .i64 x16.1.H, .slice a17 x16.1.Breaks.length cp18]]) (T := T32 x47) Go.Proofs.Try.func32 rfl (by kernel_rfl) rfl (fun w hC => c32 (q0 := x38.1) (q1 := x16.1) (rd_row hC 9 rfl) rfl (ln_row hC 9 rfl) (rd_row hC 2 rfl) rfl (ln_row hC 2 rfl) hx47)) rfl ?_
      rintro _ _ ⟨_, ⟨rfl, rfl⟩, rfl⟩
      refine JL.val (yl_not rfl) rfl ?_
      refine JL.val (yl_move rfl) rfl ?_
      obtain ⟨cb48, hcb48, hres⟩ := bind_some hres
      refine JL.cut (K := fun J => J [(1, .slice a_1 q1.length c_1), (2, .int .i64 q2), (3, ptrAt (some ⟨g1, 0, none⟩) 0), (8, ptrAt (some ⟨g23, 0, none⟩) 0), (9, .slice a20 x16.2.1.length cp21), (10, .int .i64 x16.2.2), (11, ptrAt (some ⟨g29, 0, none⟩) 0), (12, .slice a32 x31.length cp33), (13, ptrAt (some ⟨g45, 0, none⟩) 0), (14, .slice a42 x38.2.1.length cp43), (15, .int .i64 x38.2.2), (63, .bool cb48)] [boxO 35 g1 [.int .i64 q0.W, .int .i64 q0.H, .slice a_0_2 q0.Breaks.length c_0_2], boxO 39 g23 [.int .i64 x16.1.W, .int .i64 x16.1.H, .slice a17 x16.1.Breaks.length cp18], rowT 2 eI64 a17 x16.1.Breaks.length cp18 x16.1.Breaks, rowT 2 eI64 a20 x16.2.1.length cp21 x16.2.1, boxO 39 g29 [.int .i64 x25.W, .int .i64 x25.H, .slice a26 x25.Breaks.length cp27], rowT 2 eI64 a26 x25.Breaks.length cp27 x25.Breaks, rowT 22 eHd a32 x31.length cp33 hs35, innO 93 eSPoint none hs35 x31, boxO 39 g45 [.int .i64 x38.1.W, .int .i64 x38.1.H, .slice a39 x38.1.Breaks.length cp40], rowT 2 eI64 a39 x38.1.Breaks.length cp40 x38.1.Breaks, rowT 2 eI64 a42 x38.2.1.length cp43 x38.2.1]) 5 ?_ ?_
      · refine JL.val (yl_move rfl) rfl ?_
        refine JL.cut (K := fun J => J [(1, .slice a_1 q1.length c_1), (2, .int .i64 q2), (3, ptrAt (some ⟨g1, 0, none⟩) 0), (8, ptrAt (some ⟨g23, 0, none⟩) 0), (9, .slice a20 x16.2.1.length cp21), (10, .int .i64 x16.2.2), (11, ptrAt (some ⟨g29, 0, none⟩) 0), (12, .slice a32 x31.length cp33), (13, ptrAt (some ⟨g45, 0, none⟩) 0), (14, .slice a42 x38.2.1.length cp43), (15, .int .i64 x38.2.2), (68, .bool (cb48 || (x38.2.2 != x16.2.2)))] [boxO 35 g1 [.int .i64 q0.W, .int .i64 q0.H, .slice a_0_2 q0.Breaks.length c_0_2], boxO 39 g23 [.int .i64 x16.1.W, .int .i64 x16.1.H, .slice a17 x16.1.Breaks.length cp18], rowT 2 eI64 a17 x16.1.Breaks.length cp18 x16.1.Breaks, rowT 2 eI64 a20 x16.2.1.length cp21 x16.2.1, boxO 39 g29 [.int .i64 x25.W, .int .i64 x25.H, .slice a26 x25.Breaks.length cp27], rowT 2 eI64 a26 x25.Breaks.length cp27 x25.Breaks, rowT 22 eHd a32 x31.length cp33 hs35, innO 93 eSPoint none hs35 x31, boxO 39 g45 [.int .i64 x38.1.W, .int .i64 x38.1.H, .slice a39 x38.1.Breaks.length cp40], rowT 2 eI64 a39 x38.1.Breaks.length cp40 x38.1.Breaks, rowT 2 eI64 a42 x38.2.1.length cp43 x38.2.1]) 4 ?_ ?_
        · refine JL.nil ?_
          refine JE.weak (env' := [(1, .slice a_1 q1.length c_1), (2, .int .i64 q2), (3, ptrAt (some ⟨g1, 0, none⟩) 0), (8, ptrAt (some ⟨g23, 0, none⟩) 0), (9, .slice a20 x16.2.1.length cp21), (10, .int .i64 x16.2.2), (11, ptrAt (some ⟨g29, 0, none⟩) 0), (12, .slice a32 x31.length cp33), (13, ptrAt (some ⟨g45, 0, none⟩) 0), (14, .slice a42 x38.2.1.length cp43), (15, .int .i64 x38.2.2), (68, .bool (cb48 || (x38.2.2 != x16.2.2)))]) (es' := [boxO 35 g1 [.int .i64 q0.W, .int .i64 q0.H, .slice a_0_2 q0.Breaks.length c_0_2], boxO 39 g23 [.int .i64 x16.1.W, .int .i64 x16.1.H, .slice a17 x16.1.Breaks.length cp18], rowT 2 eI64 a17 x16.1.Breaks.length cp18 x16.1.Breaks, rowT 2 eI64 a20 x16.2.1.length cp21 x16.2.1, boxO 39 g29 [.int .i64 x25.W, .int .i64 x25.H, .slice a26 x25.Breaks.length cp27], rowT 2 eI64 a26 x25.Breaks.length cp27 x25.Breaks, rowT 22 eHd a32 x31.length cp33 hs35, innO 93 eSPoint none hs35 x31, boxO 39 g45 [.int .i64 x38.1.W, .int .i64 x38.1.H, .slice a39 x38.1.Breaks.length cp40], rowT 2 eI64 a39 x38.1.Breaks.length cp40 x38.1.Breaks, rowT 2 eI64 a42 x38.2.1.length cp43 x38.2.1]) [0, 1, 2, 3, 4, 5, 6, 7, 8, 9, 10] ?_ ⟨rfl, rfl, rfl, rfl, rfl, rfl, rfl, rfl, rfl, rfl, rfl, rfl, trivial⟩ (by decide) rfl
          refine JE.code ?_
          rcases cond_some hres with ⟨hb, hres⟩ | ⟨hb, hres⟩
          · refine JX.condT rfl hb ?_
            refine JX.seq ?_
            refine JX.region ?_
            refine JL.val (yl_assign rfl) rfl ?_
            refine JL.nil ?_
            refine JE.weak (env' := [(6, .bool false)]) (es' := []) [] ?_ ⟨rfl, trivial⟩ (by decide) rfl
            refine JE.code ?_
            refine JX.ret ?_
            obtain rfl := Option.some.inj hres
            refine JE.ret (rs := [.tmp 6]) (vs := [.bool false]) rfl ⟨rfl, trivial⟩ ?_
            exact fun w' hb hs => ⟨_, _, ⟨rfl, rfl⟩, rfl, hb, hs.sel [] _ (by decide) rfl⟩
          · refine JX.condF rfl hb ?_
            refine JX.skip ?_
            refine JE.code ?_
            refine JX.seq ?_
            refine JX.seq ?_
            refine JX.drawH [(0, .read), (1, .read), (2, .must), (3, .must), (4, .pure)] [] [] [0, 1, 2, 3, 4, 5, 6, 7, 8, 9, 10] [] [boxO 35 g1 [.int .i64 q0.W, .int .i64 q0.H, .slice a_0_2 q0.Breaks.length c_0_2], boxO 39 g23 [.int .i64 x16.1.W, .int .i64 x16.1.H, .slice a17 x16.1.Breaks.length cp18], rowT 2 eI64 a17 x16.1.Breaks.length cp18 x16.1.Breaks, rowT 2 eI64 a20 x16.2.1.length cp21 x16.2.1, boxO 39 g29 [.int .i64 x25.W, .int .i64 x25.H, .slice a26 x25.Breaks.length cp27], rowT 2 eI64 a26 x25.Breaks.length cp27 x25.Breaks, rowT 22 eHd a32 x31.length cp33 hs35, innO 93 eSPoint none hs35 x31, boxO 39 g45 [.int .i64 x38.1.W, .int .i64 x38.1.H, .slice a39 x38.1.Breaks.length cp40], rowT 2 eI64 a39 x38.1.Breaks.length cp40 x38.1.Breaks, rowT 2 eI64 a42 x38.2.1.length cp43 x38.2.1] mixedP (by kernel_rfl) (by kernel_rfl) (by decide) rfl rfl ?_
            intro wrr50 Nr50 hFr50
            refine JH.read rfl (yl_loadn Go.Proofs.Try.underlying39 rfl i39 rfl (fun w hw => hFr50.box 4 rfl rfl hw) rfl (i39s).symm i39p) rfl ?_
            refine JH.read rfl (yl_loadn Go.Proofs.Try.underlying35 rfl i35 rfl (fun w hw => hFr50.box 0 rfl rfl hw) rfl (i35s).symm i35p) rfl ?_
            obtain ⟨x51, hx51, hres⟩ := bind_some hres
            refine JH.must rfl (ef_call (vs := [.agg #[.int .i64 q0.W, .int .i64 q0.H, .slice a_0_2 q0.Breaks.length c_0_2]]) (T := T29 x51) Go.Proofs.Try.func29 rfl (by kernel_rfl) rfl (fun w hC => c29 (q0 := q0) (hFr50.arg g_0_2 hC.1) rfl k_0_2 hx51)) rfl rfl ?_
            rintro _ _ ⟨_, ⟨a52, _, cp53, rfl, rfl, rfl⟩, rfl⟩
            obtain ⟨x55, hx55, hres⟩ := bind_some hres
            refine JH.must rfl (ef_call (vs := [.agg #[.int .i64 x25.W, .int .i64 x25.H, .slice a26 x25.Breaks.length cp27], .agg #[.int .i64 x51.W, .int .i64 x51.H, .slice a52 x51.Breaks.length cp53]]) (T := T32 x55) Go.Proofs.Try.func32 rfl (by kernel_rfl) rfl (fun w hC => c32 (q0 := x25) (q1 := x51) (hFr50.row 5 rfl rfl hC.1) rfl (ln_row hFr50.cl 5 rfl) (rd_row hC 0 rfl) rfl (ln_row hC 0 rfl) hx55)) rfl rfl ?_
            rintro _ _ ⟨_, ⟨rfl, rfl⟩, rfl⟩
            refine JH.pure rfl (yl_not rfl) rfl ?_
            refine JH.nil ?_
            refine JE.weak (env' := [(1, .slice a_1 q1.length c_1), (2, .int .i64 q2), (3, ptrAt (some ⟨g1, 0, none⟩) 0), (8, ptrAt (some ⟨g23, 0, none⟩) 0), (9, .slice a20 x16.2.1.length cp21), (10, .int .i64 x16.2.2), (11, ptrAt (some ⟨g29, 0, none⟩) 0), (12, .slice a32 x31.length cp33), (13, ptrAt (some ⟨g45, 0, none⟩) 0), (14, .slice a42 x38.2.1.length cp43), (15, .int .i64 x38.2.2), (73, .bool !x55)]) (es' := [boxO 35 g1 [.int .i64 q0.W, .int .i64 q0.H, .slice a_0_2 q0.Breaks.length c_0_2], boxO 39 g23 [.int .i64 x16.1.W, .int .i64 x16.1.H, .slice a17 x16.1.Breaks.length cp18], rowT 2 eI64 a17 x16.1.Breaks.length cp18 x16.1.Breaks, rowT 2 eI64 a20 x16.2.1.length cp21 x16.2.1, boxO 39 g29 [.int .i64 x25.W, .int .i64 x25.H, .slice a26 x25.Breaks.length cp27], rowT 2 eI64 a26 x25.Breaks.length cp27 x25.Breaks, rowT 22 eHd a32 x31.length cp33 hs35, innO 93 eSPoint none hs35 x31, boxO 39 g45 [.int .i64 x38.1.W, .int .i64 x38.1.H, .slice a39 x38.1.Breaks.length cp40], rowT 2 eI64 a39 x38.1.Breaks.length cp40 x38.1.Breaks, rowT 2 eI64 a42 x38.2.1.length cp43 x38.2.1]) [0, 1, 2, 3, 4, 5, 6, 7, 8, 9, 10] ?_ ⟨rfl, rfl, rfl, rfl, rfl, rfl, rfl, rfl, rfl, rfl, rfl, rfl, trivial⟩ (by decide) rfl
            refine JE.code ?_
            rcases cond_some hres with ⟨hb, hres⟩ | ⟨hb, hres⟩
            · refine JX.condT rfl hb ?_
              refine JX.seq ?_
              refine JX.region ?_
              refine JL.val (yl_assign rfl) rfl ?_
              refine JL.nil ?_
              refine JE.weak (env' := [(6, .bool false)]) (es' := []) [] ?_ ⟨rfl, trivial⟩ (by decide) rfl
              refine JE.code ?_
              refine JX.ret ?_
              obtain rfl := Option.some.inj hres
              refine JE.ret (rs := [.tmp 6]) (vs := [.bool false]) rfl ⟨rfl, trivial⟩ ?_
              exact fun w' hb hs => ⟨_, _, ⟨rfl, rfl⟩, rfl, hb, hs.sel [] _ (by decide) rfl⟩
            · refine JX.condF rfl hb ?_
              refine JX.skip ?_
              refine JE.code ?_
              refine JX.seq ?_
              refine JX.seq ?_
              refine JX.region ?_
              refine JL.val (yl_move rfl) rfl ?_
              refine JL.val (yl_move rfl) rfl ?_
              obtain ⟨x56, hx56, hres⟩ := bind_some hres
              refine JL.eff (ef_call (T := T60 x56) Go.Proofs.Try.func60 rfl (by kernel_rfl) rfl (fun w hC => c60 (rd_arg g_1 hC) (rdI_arg r_1 hC) i_1 rfl k_1 hx56)) rfl ?_
              rintro _ _ ⟨_, ⟨a57, _, cp58, hs60, rfl, hi61, rfl, rfl⟩, rfl⟩
              obtain ⟨x63, hx63, hres⟩ := bind_some hres
              refine JL.eff (ef_call (T := T48 x63) Go.Proofs.Try.func48 rfl (by kernel_rfl) rfl (fun w hC => c48 (rd_row hC 6 rfl) (rd_inn hC 7 rfl) hi36 rfl (ln_row hC 6 rfl) (rd_row hC 11 rfl) (rd_inn hC 12 rfl) hi61 rfl (ln_row hC 11 rfl) hx63)) rfl ?_
              rintro _ _ ⟨_, ⟨rfl, rfl⟩, rfl⟩
              refine JL.val (yl_not rfl) rfl ?_
              refine JL.nil ?_
              refine JE.weak (env' := [(1, .slice a_1 q1.length c_1), (2, .int .i64 q2), (3, ptrAt (some ⟨g1, 0, none⟩) 0), (8, ptrAt (some ⟨g23, 0, none⟩) 0), (9, .slice a20 x16.2.1.length cp21), (10, .int .i64 x16.2.2), (11, ptrAt (some ⟨g29, 0, none⟩) 0), (12, .slice a32 x31.length cp33), (13, ptrAt (some ⟨g45, 0, none⟩) 0), (14, .slice a42 x38.2.1.length cp43), (15, .int .i64 x38.2.2), (78, .bool !x63)]) (es' := [boxO 35 g1 [.int .i64 q0.W, .int .i64 q0.H, .slice a_0_2 q0.Breaks.length c_0_2], boxO 39 g23 [.int .i64 x16.1.W, .int .i64 x16.1.H, .slice a17 x16.1.Breaks.length cp18], rowT 2 eI64 a17 x16.1.Breaks.length cp18 x16.1.Breaks, rowT 2 eI64 a20 x16.2.1.length cp21 x16.2.1, boxO 39 g29 [.int .i64 x25.W, .int .i64 x25.H, .slice a26 x25.Breaks.length cp27], rowT 2 eI64 a26 x25.Breaks.length cp27 x25.Breaks, rowT 22 eHd a32 x31.length cp33 hs35, innO 93 eSPoint none hs35 x31, boxO 39 g45 [.int .i64 x38.1.W, .int .i64 x38.1.H, .slice a39 x38.1.Breaks.length cp40], rowT 2 eI64 a39 x38.1.Breaks.length cp40 x38.1.Breaks, rowT 2 eI64 a42 x38.2.1.length cp43 x38.2.1]) [0, 1, 2, 3, 4, 5, 6, 7, 8, 9, 10] ?_ ⟨rfl, rfl, rfl, rfl, rfl, rfl, rfl, rfl, rfl, rfl, rfl, rfl, trivial⟩ (by decide) rfl
              refine JE.code ?_
              rcases cond_some hres with ⟨hb, hres⟩ | ⟨hb, hres⟩
              · refine JX.condT rfl hb ?_
                refine JX.seq ?_
                refine JX.region ?_
                refine JL.val (yl_assign rfl) rfl ?_
                refine JL.nil ?_
                refine JE.weak (env' := [(6, .bool false)]) (es' := []) [] ?_ ⟨rfl, trivial⟩ (by decide) rfl
                refine JE.code ?_
                refine JX.ret ?_
                obtain rfl := Option.some.inj hres
                refine JE.ret (rs := [.tmp 6]) (vs := [.bool false]) rfl ⟨rfl, trivial⟩ ?_
                exact fun w' hb hs => ⟨_, _, ⟨rfl, rfl⟩, rfl, hb, hs.sel [] _ (by decide) rfl⟩
              · refine JX.condF rfl hb ?_
                refine JX.skip ?_
                refine JE.code ?_
                refine JX.seq ?_
                refine JX.region ?_
                refine JL.val (yl_assign rfl) rfl ?_
                refine JL.nil ?_
                refine JE.code ?_
                refine JX.seq ?_
                refine JX.region ?_
                refine JL.val (yl_loadn Go.Proofs.Try.underlying39 rfl i39 rfl (fun w hC => rd_box hC 4 rfl) rfl (i39s).symm i39p) rfl ?_
                refine JL.val (yl_move rfl) rfl ?_
                obtain ⟨x64, hx64, hres⟩ := bind_some hres
                refine JL.eff (ef_callms (caps := []) (vs := [.agg #[.int .i64 x25.W, .int .i64 x25.H, .slice a26 x25.Breaks.length cp27], .int .i64 1]) (T := T33 a26 x25.Breaks.length cp27 x64) [5] [0, 1, 2, 3, 4, 6, 7, 8, 9, 10] [rowT 2 eI64 a26 x25.Breaks.length cp27 x25.Breaks] [boxO 35 g1 [.int .i64 q0.W, .int .i64 q0.H, .slice a_0_2 q0.Breaks.length c_0_2], boxO 39 g23 [.int .i64 x16.1.W, .int .i64 x16.1.H, .slice a17 x16.1.Breaks.length cp18], rowT 2 eI64 a17 x16.1.Breaks.length cp18 x16.1.Breaks, rowT 2 eI64 a20 x16.2.1.length cp21 x16.2.1, boxO 39 g29 [.int .i64 x25.W, .int .i64 x25.H, .slice a26 x25.Breaks.length cp27], rowT 22 eHd a32 x31.length cp33 hs35, innO 93 eSPoint none hs35 x31, boxO 39 g45 [.int .i64 x38.1.W, .int .i64 x38.1.H, .slice a39 x38.1.Breaks.length cp40], rowT 2 eI64 a39 x38.1.Breaks.length cp40 x38.1.Breaks, rowT 2 eI64 a42 x38.2.1.length cp43 x38.2.1] rfl Go.Proofs.Try.func33 rfl (by kernel_rfl) rfl (by decide) rfl rfl (fun w N hF hS => c33 (q0 := x25) rfl hS hx64)) rfl ?_
                rintro _ _ ⟨_, _, ⟨l65, rfl, rfl, rfl⟩, rfl⟩
                refine JL.val (yl_assign rfl) rfl ?_
                refine JL.nil ?_
                refine JE.weak (env' := [(1, .slice a_1 q1.length c_1), (2, .int .i64 q2), (3, ptrAt (some ⟨g1, 0, none⟩) 0), (8, ptrAt (some ⟨g23, 0, none⟩) 0), (9, .slice a20 x16.2.1.length cp21), (10, .int .i64 x16.2.2), (12, .slice a32 x31.length cp33), (13, ptrAt (some ⟨g45, 0, none⟩) 0), (14, .slice a42 x38.2.1.length cp43), (15, .int .i64 x38.2.2), (16, .int .i64 x64.1)]) (es' := [boxO 35 g1 [.int .i64 q0.W, .int .i64 q0.H, .slice a_0_2 q0.Breaks.length c_0_2], boxO 39 g23 [.int .i64 x16.1.W, .int .i64 x16.1.H, .slice a17 x16.1.Breaks.length cp18], rowT 2 eI64 a17 x16.1.Breaks.length cp18 x16.1.Breaks, rowT 2 eI64 a20 x16.2.1.length cp21 x16.2.1, rowT 22 eHd a32 x31.length cp33 hs35, innO 93 eSPoint none hs35 x31, boxO 39 g45 [.int .i64 x38.1.W, .int .i64 x38.1.H, .slice a39 x38.1.Breaks.length cp40], rowT 2 eI64 a39 x38.1.Breaks.length cp40 x38.1.Breaks, rowT 2 eI64 a42 x38.2.1.length cp43 x38.2.1]) [0, 1, 2, 3, 5, 6, 7, 8, 9] ?_ ⟨rfl, rfl, rfl, rfl, rfl, rfl, rfl, rfl, rfl, rfl, rfl, trivial⟩ (by decide) rfl
                refine JE.code ?_
                refine JX.seq ?_
                refine JX.region ?_
                refine JL.val (yl_move rfl) rfl ?_
                refine JL.val (yl_move rfl) rfl ?_
                obtain ⟨x66, hx66, hres⟩ := bind_some hres
                refine JL.eff (ef_callms (caps := []) (vs := [.slice a32 x31.length cp33, .int .i64 x64.1]) (T := T49 a32 x31.length cp33 hs35 x66) [4, 5] [0, 1, 2, 3, 6, 7, 8] [rowT 22 eHd a32 x31.length cp33 hs35, innO 93 eSPoint none hs35 x31] [boxO 35 g1 [.int .i64 q0.W, .int .i64 q0.H, .slice a_0_2 q0.Breaks.length c_0_2], boxO 39 g23 [.int .i64 x16.1.W, .int .i64 x16.1.H, .slice a17 x16.1.Breaks.length cp18], rowT 2 eI64 a17 x16.1.Breaks.length cp18 x16.1.Breaks, rowT 2 eI64 a20 x16.2.1.length cp21 x16.2.1, boxO 39 g45 [.int .i64 x38.1.W, .int .i64 x38.1.H, .slice a39 x38.1.Breaks.length cp40], rowT 2 eI64 a39 x38.1.Breaks.length cp40 x38.1.Breaks, rowT 2 eI64 a42 x38.2.1.length cp43 x38.2.1] rfl Go.Proofs.Try.func49 rfl (by kernel_rfl) rfl (by decide) rfl rfl (fun w N hF hS => c49  hi36 rfl hS hx66)) rfl ?_
                rintro _ _ ⟨_, _, ⟨l67, hi68, rfl, rfl, rfl⟩, rfl⟩
                refine JL.val (yl_assign rfl) rfl ?_
                refine JL.nil ?_
                refine JE.weak (env' := [(1, .slice a_1 q1.length c_1), (2, .int .i64 q2), (3, ptrAt (some ⟨g1, 0, none⟩) 0), (8, ptrAt (some ⟨g23, 0, none⟩) 0), (9, .slice a20 x16.2.1.length cp21), (10, .int .i64 x16.2.2), (13, ptrAt (some ⟨g45, 0, none⟩) 0), (14, .slice a42 x38.2.1.length cp43), (15, .int .i64 x38.2.2), (16, .int .i64 x66.1)]) (es' := [boxO 35 g1 [.int .i64 q0.W, .int .i64 q0.H, .slice a_0_2 q0.Breaks.length c_0_2], boxO 39 g23 [.int .i64 x16.1.W, .int .i64 x16.1.H, .slice a17 x16.1.Breaks.length cp18], rowT 2 eI64 a17 x16.1.Breaks.length cp18 x16.1.Breaks, rowT 2 eI64 a20 x16.2.1.length cp21 x16.2.1, boxO 39 g45 [.int .i64 x38.1.W, .int .i64 x38.1.H, .slice a39 x38.1.Breaks.length cp40], rowT 2 eI64 a39 x38.1.Breaks.length cp40 x38.1.Breaks, rowT 2 eI64 a42 x38.2.1.length cp43 x38.2.1]) [0, 1, 2, 3, 4, 5, 6] ?_ ⟨rfl, rfl, rfl, rfl, rfl, rfl, rfl, rfl, rfl, rfl, trivial⟩ (by decide) rfl
                refine JE.code ?_
                refine JX.seq ?_
                refine JX.seq ?_
                refine JX.region ?_
                refine JL.val (yl_move rfl) rfl ?_
                refine JL.val (yl_lss rfl rfl) rfl ?_
                refine JL.val (yl_move rfl) rfl ?_
                obtain ⟨cb69, hcb69, hres⟩ := bind_some hres
                refine JL.cut (K := fun J => J [(1, .slice a_1 q1.length c_1), (2, .int .i64 q2), (3, ptrAt (some ⟨g1, 0, none⟩) 0), (8, ptrAt (some ⟨g23, 0, none⟩) 0), (9, .slice a20 x16.2.1.length cp21), (10, .int .i64 x16.2.2), (13, ptrAt (some ⟨g45, 0, none⟩) 0), (14, .slice a42 x38.2.1.length cp43), (15, .int .i64 x38.2.2), (92, .bool cb69)] [boxO 35 g1 [.int .i64 q0.W, .int .i64 q0.H, .slice a_0_2 q0.Breaks.length c_0_2], boxO 39 g23 [.int .i64 x16.1.W, .int .i64 x16.1.H, .slice a17 x16.1.Breaks.length cp18], rowT 2 eI64 a17 x16.1.Breaks.length cp18 x16.1.Breaks, rowT 2 eI64 a20 x16.2.1.length cp21 x16.2.1, boxO 39 g45 [.int .i64 x38.1.W, .int .i64 x38.1.H, .slice a39 x38.1.Breaks.length cp40], rowT 2 eI64 a39 x38.1.Breaks.length cp40 x38.1.Breaks, rowT 2 eI64 a42 x38.2.1.length cp43 x38.2.1]) 5 ?_ ?_
                · refine JL.val (yl_move rfl) rfl ?_
                  obtain ⟨cb71, hcb71, hres⟩ := bind_some hres
                  refine JL.cut (K := fun J => J [(1, .slice a_1 q1.length c_1), (2, .int .i64 q2), (3, ptrAt (some ⟨g1, 0, none⟩) 0), (8, ptrAt (some ⟨g23, 0, none⟩) 0), (9, .slice a20 x16.2.1.length cp21), (10, .int .i64 x16.2.2), (13, ptrAt (some ⟨g45, 0, none⟩) 0), (14, .slice a42 x38.2.1.length cp43), (15, .int .i64 x38.2.2), (98, .bool cb71)] [boxO 35 g1 [.int .i64 q0.W, .int .i64 q0.H, .slice a_0_2 q0.Breaks.length c_0_2], boxO 39 g23 [.int .i64 x16.1.W, .int .i64 x16.1.H, .slice a17 x16.1.Breaks.length cp18], rowT 2 eI64 a17 x16.1.Breaks.length cp18 x16.1.Breaks, rowT 2 eI64 a20 x16.2.1.length cp21 x16.2.1, boxO 39 g45 [.int .i64 x38.1.W, .int .i64 x38.1.H, .slice a39 x38.1.Breaks.length cp40], rowT 2 eI64 a39 x38.1.Breaks.length cp40 x38.1.Breaks, rowT 2 eI64 a42 x38.2.1.length cp43 x38.2.1]) 5 ?_ ?_
                  · refine JL.val (yl_move rfl) rfl ?_
                    refine JL.cut (K := fun J => J [(1, .slice a_1 q1.length c_1), (2, .int .i64 q2), (3, ptrAt (some ⟨g1, 0, none⟩) 0), (8, ptrAt (some ⟨g23, 0, none⟩) 0), (9, .slice a20 x16.2.1.length cp21), (10, .int .i64 x16.2.2), (13, ptrAt (some ⟨g45, 0, none⟩) 0), (14, .slice a42 x38.2.1.length cp43), (103, .bool (cb71 || (x38.2.2 != x16.2.2)))] [boxO 35 g1 [.int .i64 q0.W, .int .i64 q0.H, .slice a_0_2 q0.Breaks.length c_0_2], boxO 39 g23 [.int .i64 x16.1.W, .int .i64 x16.1.H, .slice a17 x16.1.Breaks.length cp18], rowT 2 eI64 a17 x16.1.Breaks.length cp18 x16.1.Breaks, rowT 2 eI64 a20 x16.2.1.length cp21 x16.2.1, boxO 39 g45 [.int .i64 x38.1.W, .int .i64 x38.1.H, .slice a39 x38.1.Breaks.length cp40], rowT 2 eI64 a39 x38.1.Breaks.length cp40 x38.1.Breaks, rowT 2 eI64 a42 x38.2.1.length cp43 x38.2.1]) 4 ?_ ?_
                    · refine JL.nil ?_
                      refine JE.weak (env' := [(1, .slice a_1 q1.length c_1), (2, .int .i64 q2), (3, ptrAt (some ⟨g1, 0, none⟩) 0), (8, ptrAt (some ⟨g23, 0, none⟩) 0), (9, .slice a20 x16.2.1.length cp21), (10, .int .i64 x16.2.2), (13, ptrAt (some ⟨g45, 0, none⟩) 0), (14, .slice a42 x38.2.1.length cp43), (103, .bool (cb71 || (x38.2.2 != x16.2.2)))]) (es' := [boxO 35 g1 [.int .i64 q0.W, .int .i64 q0.H, .slice a_0_2 q0.Breaks.length c_0_2], boxO 39 g23 [.int .i64 x16.1.W, .int .i64 x16.1.H, .slice a17 x16.1.Breaks.length cp18], rowT 2 eI64 a17 x16.1.Breaks.length cp18 x16.1.Breaks, rowT 2 eI64 a20 x16.2.1.length cp21 x16.2.1, boxO 39 g45 [.int .i64 x38.1.W, .int .i64 x38.1.H, .slice a39 x38.1.Breaks.length cp40], rowT 2 eI64 a39 x38.1.Breaks.length cp40 x38.1.Breaks, rowT 2 eI64 a42 x38.2.1.length cp43 x38.2.1]) [0, 1, 2, 3, 4, 5, 6] ?_ ⟨rfl, rfl, rfl, rfl, rfl, rfl, rfl, rfl, rfl, trivial⟩ (by decide) rfl
                      refine JE.code ?_
                      rcases cond_some hres with ⟨hb, hres⟩ | ⟨hb, hres⟩
                      · refine JX.condT rfl hb ?_
                        refine JX.seq ?_
                        refine JX.region ?_
                        refine JL.val (yl_assign rfl) rfl ?_
                        refine JL.nil ?_
                        refine JE.weak (env' := [(6, .bool false)]) (es' := []) [] ?_ ⟨rfl, trivial⟩ (by decide) rfl
                        refine JE.code ?_
                        refine JX.ret ?_
                        obtain rfl := Option.some.inj hres
                        refine JE.ret (rs := [.tmp 6]) (vs := [.bool false]) rfl ⟨rfl, trivial⟩ ?_
                        exact fun w' hb hs => ⟨_, _, ⟨rfl, rfl⟩, rfl, hb, hs.sel [] _ (by decide) rfl⟩
                      · refine JX.condF rfl hb ?_
                        refine JX.skip ?_
                        refine JE.code ?_
                        refine JX.seq ?_
                        refine JX.region ?_
                        refine JL.val (yl_assign rfl) rfl ?_
                        refine JL.nil ?_
                        refine JE.code ?_
                        refine JX.seq ?_
                        refine JX.region ?_
                        refine JL.val (yl_loadn Go.Proofs.Try.underlying39 rfl i39 rfl (fun w hC => rd_box hC 4 rfl) rfl (i39s).symm i39p) rfl ?_
                        refine JL.val (yl_move rfl) rfl ?_
                        obtain ⟨x73, hx73, hres⟩ := bind_some hres
                        refine JL.eff (ef_callms (caps := []) (vs := [.agg #[.int .i64 x38.1.W, .int .i64 x38.1.H, .slice a39 x38.1.Breaks.length cp40], .int .i64 1]) (T := T33 a39 x38.1.Breaks.length cp40 x73) [5] [0, 1, 2, 3, 4, 6] [rowT 2 eI64 a39 x38.1.Breaks.length cp40 x38.1.Breaks] [boxO 35 g1 [.int .i64 q0.W, .int .i64 q0.H, .slice a_0_2 q0.Breaks.length c_0_2], boxO 39 g23 [.int .i64 x16.1.W, .int .i64 x16.1.H, .slice a17 x16.1.Breaks.length cp18], rowT 2 eI64 a17 x16.1.Breaks.length cp18 x16.1.Breaks, rowT 2 eI64 a20 x16.2.1.length cp21 x16.2.1, boxO 39 g45 [.int .i64 x38.1.W, .int .i64 x38.1.H, .slice a39 x38.1.Breaks.length cp40], rowT 2 eI64 a42 x38.2.1.length cp43 x38.2.1] rfl Go.Proofs.Try.func33 rfl (by kernel_rfl) rfl (by decide) rfl rfl (fun w N hF hS => c33 (q0 := x38.1) rfl hS hx73)) rfl ?_
                        rintro _ _ ⟨_, _, ⟨l74, rfl, rfl, rfl⟩, rfl⟩
                        refine JL.val (yl_assign rfl) rfl ?_
                        refine JL.nil ?_
                        refine JE.weak (env' := [(1, .slice a_1 q1.length c_1), (2, .int .i64 q2), (3, ptrAt (some ⟨g1, 0, none⟩) 0), (8, ptrAt (some ⟨g23, 0, none⟩) 0), (9, .slice a20 x16.2.1.length cp21), (10, .int .i64 x16.2.2), (13, ptrAt (some ⟨g45, 0, none⟩) 0), (14, .slice a42 x38.2.1.length cp43), (17, .int .i64 x73.1)]) (es' := [boxO 35 g1 [.int .i64 q0.W, .int .i64 q0.H, .slice a_0_2 q0.Breaks.length c_0_2], boxO 39 g23 [.int .i64 x16.1.W, .int .i64 x16.1.H, .slice a17 x16.1.Breaks.length cp18], rowT 2 eI64 a17 x16.1.Breaks.length cp18 x16.1.Breaks, rowT 2 eI64 a20 x16.2.1.length cp21 x16.2.1, boxO 39 g45 [.int .i64 x38.1.W, .int .i64 x38.1.H, .slice a39 x38.1.Breaks.length cp40], rowT 2 eI64 a39 x38.1.Breaks.length cp40 x73.2, rowT 2 eI64 a42 x38.2.1.length cp43 x38.2.1]) [0, 1, 2, 3, 4, 6, 5] ?_ ⟨rfl, rfl, rfl, rfl, rfl, rfl, rfl, rfl, rfl, trivial⟩ (by decide) rfl
                        refine JE.code ?_
                        refine JX.seq ?_
                        refine JX.region ?_
                        refine JL.val (yl_move rfl) rfl ?_
                        refine JL.val (yl_move rfl) rfl ?_
                        obtain ⟨x75, hx75, hres⟩ := bind_some hres
                        refine JL.eff (ef_callm (T := T34 a42 x38.2.1.length cp43 x75) 6 Go.Proofs.Try.func34 rfl (by kernel_rfl) rfl rfl (fun w fp hs => c34 hs rfl hx75)) rfl ?_
                        rintro _ _ ⟨_, _, ⟨l76, rfl, rfl, rfl⟩, rfl⟩
                        refine JL.val (yl_assign rfl) rfl ?_
                        refine JL.nil ?_
                        refine JE.weak (env' := [(1, .slice a_1 q1.length c_1), (2, .int .i64 q2), (3, ptrAt (some ⟨g1, 0, none⟩) 0), (8, ptrAt (some ⟨g23, 0, none⟩) 0), (9, .slice a20 x16.2.1.length cp21), (10, .int .i64 x16.2.2), (13, ptrAt (some ⟨g45, 0, none⟩) 0), (14, .slice a42 x38.2.1.length cp43), (17, .int .i64 x75.1)]) (es' := [boxO 35 g1 [.int .i64 q0.W, .int .i64 q0.H, .slice a_0_2 q0.Breaks.length c_0_2], boxO 39 g23 [.int .i64 x16.1.W, .int .i64 x16.1.H, .slice a17 x16.1.Breaks.length cp18], rowT 2 eI64 a17 x16.1.Breaks.length cp18 x16.1.Breaks, rowT 2 eI64 a20 x16.2.1.length cp21 x16.2.1, boxO 39 g45 [.int .i64 x38.1.W, .int .i64 x38.1.H, .slice a39 x38.1.Breaks.length cp40], rowT 2 eI64 a39 x38.1.Breaks.length cp40 x73.2, rowT 2 eI64 a42 x38.2.1.length cp43 x75.2]) [0, 1, 2, 3, 4, 5, 6] ?_ ⟨rfl, rfl, rfl, rfl, rfl, rfl, rfl, rfl, rfl, trivial⟩ (by decide) rfl
                        refine JE.code ?_
                        refine JX.seq ?_
                        refine JX.region ?_
                        refine JL.val (yl_assign rfl) rfl ?_
                        refine JL.nil ?_
                        refine JE.code ?_
                        refine JX.seq ?_
                        refine JX.region ?_
                        refine JL.val (yl_loadn Go.Proofs.Try.underlying39 rfl i39 rfl (fun w hC => rd_box hC 4 rfl) rfl (i39s).symm i39p) rfl ?_
                        refine JL.val (yl_move rfl) rfl ?_
                        obtain ⟨x77, hx77, hres⟩ := bind_some hres
                        refine JL.eff (ef_call (vs := [.agg #[.int .i64 x38.1.W, .int .i64 x38.1.H, .slice a39 x38.1.Breaks.length cp40], .int .i64 1]) (T := T55 x77) Go.Proofs.Try.func55 rfl (by kernel_rfl) rfl (fun w hC => c55 (q0 := SPanel.mk x38.1.W x38.1.H x73.2) (rd_row hC 5 rfl) l74 (ln_row hC 5 rfl) hx77)) rfl ?_
                        rintro _ _ ⟨_, ⟨rfl, rfl⟩, rfl⟩
                        refine JL.val (yl_assign rfl) rfl ?_
                        refine JL.nil ?_
                        refine JE.weak (env' := [(1, .slice a_1 q1.length c_1), (2, .int .i64 q2), (3, ptrAt (some ⟨g1, 0, none⟩) 0), (8, ptrAt (some ⟨g23, 0, none⟩) 0), (9, .slice a20 x16.2.1.length cp21), (10, .int .i64 x16.2.2), (13, ptrAt (some ⟨g45, 0, none⟩) 0), (14, .slice a42 x38.2.1.length cp43), (17, .int .i64 x75.1), (18, .int .i64 x77)]) (es' := [boxO 35 g1 [.int .i64 q0.W, .int .i64 q0.H, .slice a_0_2 q0.Breaks.length c_0_2], boxO 39 g23 [.int .i64 x16.1.W, .int .i64 x16.1.H, .slice a17 x16.1.Breaks.length cp18], rowT 2 eI64 a17 x16.1.Breaks.length cp18 x16.1.Breaks, rowT 2 eI64 a20 x16.2.1.length cp21 x16.2.1, boxO 39 g45 [.int .i64 x38.1.W, .int .i64 x38.1.H, .slice a39 x38.1.Breaks.length cp40], rowT 2 eI64 a39 x38.1.Breaks.length cp40 x73.2, rowT 2 eI64 a42 x38.2.1.length cp43 x75.2]) [0, 1, 2, 3, 4, 5, 6] ?_ ⟨rfl, rfl, rfl, rfl, rfl, rfl, rfl, rfl, rfl, rfl, trivial⟩ (by decide) rfl
                        refine JE.code ?_
                        refine JX.seq ?_
                        refine JX.seq ?_
                        refine JX.region ?_
                        refine JL.val (yl_move rfl) rfl ?_
                        refine JL.val (yl_lss rfl rfl) rfl ?_
                        refine JL.nil ?_
                        refine JE.code ?_
                        rcases cond_some hres with ⟨hb, hres⟩ | ⟨hb, hres⟩
                        · refine JX.condT rfl hb ?_
                          refine JX.seq ?_
                          refine JX.region ?_
                          refine JL.val (yl_assign rfl) rfl ?_
                          refine JL.nil ?_
                          refine JE.weak (env' := [(6, .bool false)]) (es' := []) [] ?_ ⟨rfl, trivial⟩ (by decide) rfl
                          refine JE.code ?_
                          refine JX.ret ?_
                          obtain rfl := Option.some.inj hres
                          refine JE.ret (rs := [.tmp 6]) (vs := [.bool false]) rfl ⟨rfl, trivial⟩ ?_
                          exact fun w' hb hs => ⟨_, _, ⟨rfl, rfl⟩, rfl, hb, hs.sel [] _ (by decide) rfl⟩
                        · refine JX.condF rfl hb ?_
                          refine JX.skip ?_
                          refine JE.code ?_
                          refine JX.seq ?_
                          refine JX.region ?_
                          refine JL.val (yl_move rfl) rfl ?_
                          refine JL.val (yl_move rfl) rfl ?_
                          obtain ⟨x78, hx78, hres⟩ := bind_some hres
                          refine JL.eff (ef_call (T := T35 x78) Go.Proofs.Try.func35 rfl (by kernel_rfl) rfl (fun w hC => c35 (rd_row hC 6 rfl) l76 (ln_row hC 6 rfl) hx78)) rfl ?_
                          rintro _ _ ⟨_, ⟨rfl, rfl⟩, rfl⟩
                          refine JL.val (yl_assign rfl) rfl ?_
                          refine JL.nil ?_
                          refine JE.weak (env' := [(1, .slice a_1 q1.length c_1), (2, .int .i64 q2), (3, ptrAt (some ⟨g1, 0, none⟩) 0), (8, ptrAt (some ⟨g23, 0, none⟩) 0), (9, .slice a20 x16.2.1.length cp21), (10, .int .i64 x16.2.2), (13, ptrAt (some ⟨g45, 0, none⟩) 0), (14, .slice a42 x38.2.1.length cp43), (17, .int .i64 x75.1), (18, .int .i64 x78)]) (es' := [boxO 35 g1 [.int .i64 q0.W, .int .i64 q0.H, .slice a_0_2 q0.Breaks.length c_0_2], boxO 39 g23 [.int .i64 x16.1.W, .int .i64 x16.1.H, .slice a17 x16.1.Breaks.length cp18], rowT 2 eI64 a17 x16.1.Breaks.length cp18 x16.1.Breaks, rowT 2 eI64 a20 x16.2.1.length cp21 x16.2.1, boxO 39 g45 [.int .i64 x38.1.W, .int .i64 x38.1.H, .slice a39 x38.1.Breaks.length cp40], rowT 2 eI64 a39 x38.1.Breaks.length cp40 x73.2, rowT 2 eI64 a42 x38.2.1.length cp43 x75.2]) [0, 1, 2, 3, 4, 5, 6] ?_ ⟨rfl, rfl, rfl, rfl, rfl, rfl, rfl, rfl, rfl, rfl, trivial⟩ (by decide) rfl
                          refine JE.code ?_
                          refine JX.seq ?_
                          refine JX.seq ?_
                          refine JX.region ?_
                          refine JL.val (yl_move rfl) rfl ?_
                          refine JL.val (yl_lss rfl rfl) rfl ?_
                          refine JL.nil ?_
                          refine JE.code ?_
                          rcases cond_some hres with ⟨hb, hres⟩ | ⟨hb, hres⟩
                          · refine JX.condT rfl hb ?_
                            refine JX.seq ?_
                            refine JX.region ?_
                            refine JL.val (yl_assign rfl) rfl ?_
                            refine JL.nil ?_
                            refine JE.weak (env' := [(6, .bool false)]) (es' := []) [] ?_ ⟨rfl, trivial⟩ (by decide) rfl
                            refine JE.code ?_
                            refine JX.ret ?_
                            obtain rfl := Option.some.inj hres
                            refine JE.ret (rs := [.tmp 6]) (vs := [.bool false]) rfl ⟨rfl, trivial⟩ ?_
                            exact fun w' hb hs => ⟨_, _, ⟨rfl, rfl⟩, rfl, hb, hs.sel [] _ (by decide) rfl⟩
                          · refine JX.condF rfl hb ?_
                            refine JX.skip ?_
                            refine JE.code ?_
                            refine JX.seq ?_
                            refine JX.seq ?_
                            refine JX.region ?_
                            refine JL.val (yl_move rfl) rfl ?_
                            refine JL.val (yl_move rfl) rfl ?_
                            refine JL.val (yl_neq rfl rfl) rfl ?_
                            refine JL.nil ?_
                            refine JE.code ?_
                            rcases cond_some hres with ⟨hb, hres⟩ | ⟨hb, hres⟩
                            · refine JX.condT rfl hb ?_
                              refine JX.seq ?_
                              refine JX.region ?_
                              refine JL.val (yl_assign rfl) rfl ?_
                              refine JL.nil ?_
                              refine JE.weak (env' := [(6, .bool false)]) (es' := []) [] ?_ ⟨rfl, trivial⟩ (by decide) rfl
                              refine JE.code ?_
                              refine JX.ret ?_
                              obtain rfl := Option.some.inj hres
                              refine JE.ret (rs := [.tmp 6]) (vs := [.bool false]) rfl ⟨rfl, trivial⟩ ?_
                              exact fun w' hb hs => ⟨_, _, ⟨rfl, rfl⟩, rfl, hb, hs.sel [] _ (by decide) rfl⟩
                            · refine JX.condF rfl hb ?_
                              refine JX.skip ?_
                              refine JE.code ?_
                              refine JX.seq ?_
                              refine JX.region ?_
                              refine JL.val (yl_loadn Go.Proofs.Try.underlying35 rfl i35 rfl (fun w hC => rd_box hC 0 rfl) rfl (i35s).symm i35p) rfl ?_
                              obtain ⟨x79, hx79, hres⟩ := bind_some hres
                              refine JL.eff (ef_call (vs := [.agg #[.int .i64 q0.W, .int .i64 q0.H, .slice a_0_2 q0.Breaks.length c_0_2]]) (T := T29 x79) Go.Proofs.Try.func29 rfl (by kernel_rfl) rfl (fun w hC => c29 (q0 := q0) (rd_arg g_0_2 hC) rfl k_0_2 hx79)) rfl ?_
                              rintro _ _ ⟨_, ⟨a80, _, cp81, rfl, rfl, rfl⟩, rfl⟩
                              refine JL.val (yl_move rfl) rfl ?_
                              obtain ⟨x83, hx83, hres⟩ := bind_some hres
                              refine JL.eff (ef_call (T := T60 x83) Go.Proofs.Try.func60 rfl (by kernel_rfl) rfl (fun w hC => c60 (rd_arg g_1 hC) (rdI_arg r_1 hC) i_1 rfl k_1 hx83)) rfl ?_
                              rintro _ _ ⟨_, ⟨a84, _, cp85, hs87, rfl, hi88, rfl, rfl⟩, rfl⟩
                              refine JL.val (yl_move rfl) rfl ?_
                              obtain ⟨x90, hx90, hres⟩ := bind_some hres
                              refine JL.eff (ef_call (vs := [.agg #[.int .i64 x79.W, .int .i64 x79.H, .slice a80 x79.Breaks.length cp81], .slice a84 x83.length cp85, .int .i64 q2]) (T := T61 x90) Go.Proofs.Try.func61 rfl (by kernel_rfl) rfl (fun w hC => c61 (q0 := x79) (rd_row hC 7 rfl) rfl (ln_row hC 7 rfl) (rd_row hC 8 rfl) (rd_inn hC 9 rfl) hi88 rfl (ln_row hC 8 rfl) hx90)) rfl ?_
                              rintro _ _ ⟨_, ⟨a91, _, cp92, rfl, a94, _, cp95, rfl, rfl, rfl⟩, rfl⟩
                              refine JL.val (yl_move rfl) rfl ?_
                              refine JL.val (yl_extract rfl rfl) rfl ?_
                              refine JL.val (yl_extract rfl rfl) rfl ?_
                              refine JL.val (yl_extract rfl rfl) rfl ?_
                              refine JL.eff (ef_alloc i39 i39z rfl) rfl ?_
                              rintro _ _ ⟨g97, rfl, rfl⟩
                              refine JL.eff (ef_store_box (i := 12) (v := .agg #[.int .i64 x90.1.W, .int .i64 x90.1.H, .slice a91 x90.1.Breaks.length cp92]) i39 rfl rfl rfl (i39s).symm (Nat.le_of_ble_eq_true rfl) (by simp [Value.cells, Value.oneCell'])) rfl ?_
                              rintro _ _ rfl
                              refine JL.val (yl_assign rfl) rfl ?_
                              refine JL.val (yl_assign rfl) rfl ?_
                              refine JL.nil ?_
                              refine JE.weak (env' := [(8, ptrAt (some ⟨g23, 0, none⟩) 0), (9, .slice a20 x16.2.1.length cp21), (10, .int .i64 x16.2.2), (13, ptrAt (some ⟨g45, 0, none⟩) 0), (14, .slice a42 x38.2.1.length cp43), (17, .int .i64 x75.1), (19, ptrAt (some ⟨g97, 0, none⟩) 0), (20, .slice a94 x90.2.1.length cp95), (21, .int .i64 x90.2.2)]) (es' := [boxO 39 g23 [.int .i64 x16.1.W, .int .i64 x16.1.H, .slice a17 x16.1.Breaks.length cp18], rowT 2 eI64 a17 x16.1.Breaks.length cp18 x16.1.Breaks, rowT 2 eI64 a20 x16.2.1.length cp21 x16.2.1, boxO 39 g45 [.int .i64 x38.1.W, .int .i64 x38.1.H, .slice a39 x38.1.Breaks.length cp40], rowT 2 eI64 a39 x38.1.Breaks.length cp40 x73.2, rowT 2 eI64 a42 x38.2.1.length cp43 x75.2, boxO 39 g97 [.int .i64 x90.1.W, .int .i64 x90.1.H, .slice a91 x90.1.Breaks.length cp92], rowT 2 eI64 a91 x90.1.Breaks.length cp92 x90.1.Breaks, rowT 2 eI64 a94 x90.2.1.length cp95 x90.2.1]) [1, 2, 3, 4, 5, 6, 12, 10, 11] ?_ ⟨rfl, rfl, rfl, rfl, rfl, rfl, rfl, rfl, rfl, trivial⟩ (by decide) rfl
                              refine JE.code ?_
                              refine JX.seq ?_
                              refine JX.seq ?_
                              refine JX.region ?_
                              refine JL.val (yl_loadn Go.Proofs.Try.underlying39 rfl i39 rfl (fun w hC => rd_box hC 6 rfl) rfl (i39s).symm i39p) rfl ?_
                              refine JL.val (yl_loadn Go.Proofs.Try.underlying39 rfl i39 rfl (fun w hC => rd_box hC 0 rfl) rfl (i39s).symm i39p) rfl ?_
                              obtain ⟨x99, hx99, hres⟩ := bind_some hres
                              refine JL.eff (ef_call (vs := [.agg #[.int .i64 x90.1.W, .int .i64 x90.1.H, .slice a91 x90.1.Breaks.length cp92], .agg #[.int .i64 x16.1.W, .int .i64 x16.1.H, .slice a17 x16.1.Breaks.length cp18]]) (T := T32 x99) Go.Proofs.Try.func32 rfl (by kernel_rfl) rfl (fun w hC => c32 (q0 := x90.1) (q1 := x16.1) (rd_row hC 7 rfl) rfl (ln_row hC 7 rfl) (rd_row hC 1 rfl) rfl (ln_row hC 1 rfl) hx99)) rfl ?_
                              rintro _ _ ⟨_, ⟨rfl, rfl⟩, rfl⟩
                              refine JL.val (yl_not rfl) rfl ?_
                              refine JL.val (yl_move rfl) rfl ?_
                              obtain ⟨cb100, hcb100, hres⟩ := bind_some hres
                              refine JL.cut (K := fun J => J [(10, .int .i64 x16.2.2), (13, ptrAt (some ⟨g45, 0, none⟩) 0), (14, .slice a42 x38.2.1.length cp43), (17, .int .i64 x75.1), (21, .int .i64 x90.2.2), (142, .bool cb100)] [boxO 39 g45 [.int .i64 x38.1.W, .int .i64 x38.1.H, .slice a39 x38.1.Breaks.length cp40], rowT 2 eI64 a39 x38.1.Breaks.length cp40 x73.2, rowT 2 eI64 a42 x38.2.1.length cp43 x75.2]) 5 ?_ ?_
                              · refine JL.val (yl_move rfl) rfl ?_
                                refine JL.cut (K := fun J => J [(13, ptrAt (some ⟨g45, 0, none⟩) 0), (14, .slice a42 x38.2.1.length cp43), (17, .int .i64 x75.1), (147, .bool (cb100 || (x90.2.2 != x16.2.2)))] [boxO 39 g45 [.int .i64 x38.1.W, .int .i64 x38.1.H, .slice a39 x38.1.Breaks.length cp40], rowT 2 eI64 a39 x38.1.Breaks.length cp40 x73.2, rowT 2 eI64 a42 x38.2.1.length cp43 x75.2]) 4 ?_ ?_
                                · refine JL.nil ?_
                                  refine JE.weak (env' := [(13, ptrAt (some ⟨g45, 0, none⟩) 0), (14, .slice a42 x38.2.1.length cp43), (17, .int .i64 x75.1), (147, .bool (cb100 || (x90.2.2 != x16.2.2)))]) (es' := [boxO 39 g45 [.int .i64 x38.1.W, .int .i64 x38.1.H, .slice a39 x38.1.Breaks.length cp40], rowT 2 eI64 a39 x38.1.Breaks.length cp40 x73.2, rowT 2 eI64 a42 x38.2.1.length cp43 x75.2]) [0, 1, 2] ?_ ⟨rfl, rfl, rfl, rfl, trivial⟩ (by decide) rfl
                                  refine JE.code ?_
                                  rcases cond_some hres with ⟨hb, hres⟩ | ⟨hb, hres⟩
                                  · refine JX.condT rfl hb ?_
                                    refine JX.seq ?_
                                    refine JX.region ?_
                                    refine JL.val (yl_assign rfl) rfl ?_
                                    refine JL.nil ?_
                                    refine JE.weak (env' := [(6, .bool false)]) (es' := []) [] ?_ ⟨rfl, trivial⟩ (by decide) rfl
                                    refine JE.code ?_
                                    refine JX.ret ?_
                                    obtain rfl := Option.some.inj hres
                                    refine JE.ret (rs := [.tmp 6]) (vs := [.bool false]) rfl ⟨rfl, trivial⟩ ?_
                                    exact fun w' hb hs => ⟨_, _, ⟨rfl, rfl⟩, rfl, hb, hs.sel [] _ (by decide) rfl⟩
                                  · refine JX.condF rfl hb ?_
                                    refine JX.skip ?_
                                    refine JE.code ?_
                                    refine JX.seq ?_
                                    refine JX.region ?_
                                    refine JL.val (yl_assign rfl) rfl ?_
                                    refine JL.nil ?_
                                    refine JE.code ?_
                                    refine JX.seq ?_
                                    refine JX.region ?_
                                    refine JL.val (yl_loadn Go.Proofs.Try.underlying39 rfl i39 rfl (fun w hC => rd_box hC 0 rfl) rfl (i39s).symm i39p) rfl ?_
                                    refine JL.val (yl_move rfl) rfl ?_
                                    obtain ⟨x102, hx102, hres⟩ := bind_some hres
                                    refine JL.eff (ef_call (vs := [.agg #[.int .i64 x38.1.W, .int .i64 x38.1.H, .slice a39 x38.1.Breaks.length cp40], .int .i64 1]) (T := T55 x102) Go.Proofs.Try.func55 rfl (by kernel_rfl) rfl (fun w hC => c55 (q0 := SPanel.mk x38.1.W x38.1.H x73.2) (rd_row hC 1 rfl) l74 (ln_row hC 1 rfl) hx102)) rfl ?_
                                    rintro _ _ ⟨_, ⟨rfl, rfl⟩, rfl⟩
                                    refine JL.val (yl_assign rfl) rfl ?_
                                    refine JL.nil ?_
                                    refine JE.weak (env' := [(14, .slice a42 x38.2.1.length cp43), (17, .int .i64 x75.1), (18, .int .i64 x102)]) (es' := [rowT 2 eI64 a42 x38.2.1.length cp43 x75.2]) [2] ?_ ⟨rfl, rfl, rfl, trivial⟩ (by decide) rfl
                                    refine JE.code ?_
                                    refine JX.seq ?_
                                    refine JX.seq ?_
                                    refine JX.region ?_
                                    refine JL.val (yl_move rfl) rfl ?_
                                    refine JL.val (yl_lss rfl rfl) rfl ?_
                                    refine JL.nil ?_
                                    refine JE.code ?_
                                    rcases cond_some hres with ⟨hb, hres⟩ | ⟨hb, hres⟩
                                    · refine JX.condT rfl hb ?_
                                      refine JX.seq ?_
                                      refine JX.region ?_
                                      refine JL.val (yl_assign rfl) rfl ?_
                                      refine JL.nil ?_
                                      refine JE.weak (env' := [(6, .bool false)]) (es' := []) [] ?_ ⟨rfl, trivial⟩ (by decide) rfl
                                      refine JE.code ?_
                                      refine JX.ret ?_
                                      obtain rfl := Option.some.inj hres
                                      refine JE.ret (rs := [.tmp 6]) (vs := [.bool false]) rfl ⟨rfl, trivial⟩ ?_
                                      exact fun w' hb hs => ⟨_, _, ⟨rfl, rfl⟩, rfl, hb, hs.sel [] _ (by decide) rfl⟩
                                    · refine JX.condF rfl hb ?_
                                      refine JX.skip ?_
                                      refine JE.code ?_
                                      refine JX.seq ?_
                                      refine JX.region ?_
                                      refine JL.val (yl_move rfl) rfl ?_
                                      refine JL.val (yl_move rfl) rfl ?_
                                      obtain ⟨x103, hx103, hres⟩ := bind_some hres
                                      refine JL.eff (ef_call (T := T35 x103) Go.Proofs.Try.func35 rfl (by kernel_rfl) rfl (fun w hC => c35 (rd_row hC 0 rfl) l76 (ln_row hC 0 rfl) hx103)) rfl ?_
                                      rintro _ _ ⟨_, ⟨rfl, rfl⟩, rfl⟩
                                      refine JL.val (yl_assign rfl) rfl ?_
                                      refine JL.nil ?_
                                      refine JE.weak (env' := [(17, .int .i64 x75.1), (18, .int .i64 x103)]) (es' := []) [] ?_ ⟨rfl, rfl, trivial⟩ (by decide) rfl
                                      refine JE.code ?_
                                      refine JX.seq ?_
                                      refine JX.seq ?_
                                      refine JX.region ?_
                                      refine JL.val (yl_move rfl) rfl ?_
                                      refine JL.val (yl_lss rfl rfl) rfl ?_
                                      refine JL.nil ?_
                                      refine JE.code ?_
                                      rcases cond_some hres with ⟨hb, hres⟩ | ⟨hb, hres⟩
                                      · refine JX.condT rfl hb ?_
                                        refine JX.seq ?_
                                        refine JX.region ?_
                                        refine JL.val (yl_assign rfl) rfl ?_
                                        refine JL.nil ?_
                                        refine JE.code ?_
                                        refine JX.ret ?_
                                        obtain rfl := Option.some.inj hres
                                        refine JE.ret (rs := [.tmp 6]) (vs := [.bool false]) rfl ⟨rfl, trivial⟩ ?_
                                        exact fun w' hb hs => ⟨_, _, ⟨rfl, rfl⟩, rfl, hb, hs.sel [] _ (by decide) rfl⟩
                                      · refine JX.condF rfl hb ?_
                                        refine JX.skip ?_
                                        refine JE.code ?_
                                        refine JX.seq ?_
                                        refine JX.seq ?_
                                        refine JX.region ?_
                                        refine JL.val (yl_move rfl) rfl ?_
                                        refine JL.val (yl_move rfl) rfl ?_
                                        refine JL.val (yl_neq rfl rfl) rfl ?_
                                        refine JL.nil ?_
                                        refine JE.code ?_
                                        rcases cond_some hres with ⟨hb, hres⟩ | ⟨hb, hres⟩
                                        · refine JX.condT rfl hb ?_
                                          refine JX.seq ?_
                                          refine JX.region ?_
                                          refine JL.val (yl_assign rfl) rfl ?_
                                          refine JL.nil ?_
                                          refine JE.code ?_
                                          refine JX.ret ?_
                                          obtain rfl := Option.some.inj hres
                                          refine JE.ret (rs := [.tmp 6]) (vs := [.bool false]) rfl ⟨rfl, trivial⟩ ?_
                                          exact fun w' hb hs => ⟨_, _, ⟨rfl, rfl⟩, rfl, hb, hs.sel [] _ (by decide) rfl⟩
                                        · refine JX.condF rfl hb ?_
                                          refine JX.skip ?_
                                          refine JE.code ?_
                                          refine JX.seq ?_
                                          refine JX.region ?_
                                          refine JL.val (yl_assign rfl) rfl ?_
                                          refine JL.nil ?_
                                          refine JE.code ?_
                                          refine JX.ret ?_
                                          obtain rfl := Option.some.inj hres
                                          refine JE.ret (rs := [.tmp 6]) (vs := [.bool true]) rfl ⟨rfl, trivial⟩ ?_
                                          exact fun w' hb hs => ⟨_, _, ⟨rfl, rfl⟩, rfl, hb, hs.sel [] _ (by decide) rfl⟩
                                · intro K
                                  rcases Bool.eq_false_or_eq_true (cb100) with hb | hb
                                  · refine JL.set (d := 143) (v := .bool true) (congrArg (fun b => some (Value.bool b)) hb) ?_
                                    refine JL.gskip rfl rfl rfl rfl ?_
                                    refine JL.gskip rfl rfl rfl rfl ?_
                                    refine JL.gskip rfl rfl rfl rfl ?_
                                    refine JL.val (yl_pick_true rfl rfl) rfl ?_
                                    exact JL.weak [0, 1, 2] K ⟨rfl, rfl, rfl, (by rw [hb]; rfl), trivial⟩ (by decide) rfl
                                  · refine JL.set (d := 143) (v := .bool false) (congrArg (fun b => some (Value.bool b)) hb) ?_
                                    refine JL.gval rfl rfl (yl_move rfl) rfl ?_
                                    refine JL.gval rfl rfl (yl_move rfl) rfl ?_
                                    refine JL.gval rfl rfl (yl_neq rfl rfl) rfl ?_
                                    refine JL.val (yl_pick_false rfl rfl) rfl ?_
                                    exact JL.weak [0, 1, 2] K ⟨rfl, rfl, rfl, (by rw [hb]; rfl), trivial⟩ (by decide) rfl
                              · intro K
                                rcases cond_some hcb100 with ⟨hb, hres⟩ | ⟨hb, hres⟩
                                · refine JL.set (d := 137) (v := .bool true) (congrArg (fun b => some (Value.bool b)) hb) ?_
                                  refine JL.gskip rfl rfl rfl rfl ?_
                                  refine JL.gskip rfl rfl rfl rfl ?_
                                  refine JL.gskip rfl rfl rfl rfl ?_
                                  refine JL.gskip rfl rfl rfl rfl ?_
                                  refine JL.val (yl_pick_true rfl rfl) rfl ?_
                                  have he := Option.some.inj hres
                                  exact JL.weak [3, 4, 5] K ⟨rfl, rfl, rfl, rfl, rfl, (by rw [← he]; rfl), trivial⟩ (by decide) rfl
                                · refine JL.set (d := 137) (v := .bool false) (congrArg (fun b => some (Value.bool b)) hb) ?_
                                  refine JL.gval rfl rfl (yl_move rfl) rfl ?_
                                  refine JL.gval rfl rfl (yl_move rfl) rfl ?_
                                  obtain ⟨x101, hx101, hres⟩ := bind_some hres
                                  refine JL.geff rfl rfl (ef_call (T := T31 x101) Go.Proofs.Try.func31 rfl (by kernel_rfl) rfl (fun w hC => c31 (rd_row hC 8 rfl) rfl (ln_row hC 8 rfl) (rd_row hC 2 rfl) rfl (ln_row hC 2 rfl) hx101)) rfl ?_
                                  rintro _ _ ⟨_, ⟨rfl, rfl⟩, rfl⟩
                                  refine JL.gval rfl rfl (yl_not rfl) rfl ?_
                                  refine JL.val (yl_pick_false rfl rfl) rfl ?_
                                  have he := Option.some.inj hres
                                  exact JL.weak [3, 4, 5] K ⟨rfl, rfl, rfl, rfl, rfl, (by rw [← he]; rfl), trivial⟩ (by decide) rfl
                    · intro K
                      rcases Bool.eq_false_or_eq_true (cb71) with hb | hb
                      · refine JL.set (d := 99) (v := .bool true) (congrArg (fun b => some (Value.bool b)) hb) ?_
                        refine JL.gskip rfl rfl rfl rfl ?_
                        refine JL.gskip rfl rfl rfl rfl ?_
                        refine JL.gskip rfl rfl rfl rfl ?_
                        refine JL.val (yl_pick_true rfl rfl) rfl ?_
                        exact JL.weak [0, 1, 2, 3, 4, 5, 6] K ⟨rfl, rfl, rfl, rfl, rfl, rfl, rfl, rfl, (by rw [hb]; rfl), trivial⟩ (by decide) rfl
                      · refine JL.set (d := 99) (v := .bool false) (congrArg (fun b => some (Value.bool b)) hb) ?_
                        refine JL.gval rfl rfl (yl_move rfl) rfl ?_
                        refine JL.gval rfl rfl (yl_move rfl) rfl ?_
                        refine JL.gval rfl rfl (yl_neq rfl rfl) rfl ?_
                        refine JL.val (yl_pick_false rfl rfl) rfl ?_
                        exact JL.weak [0, 1, 2, 3, 4, 5, 6] K ⟨rfl, rfl, rfl, rfl, rfl, rfl, rfl, rfl, (by rw [hb]; rfl), trivial⟩ (by decide) rfl
                  · intro K
                    rcases cond_some hcb71 with ⟨hb, hres⟩ | ⟨hb, hres⟩
                    · refine JL.set (d := 93) (v := .bool true) (congrArg (fun b => some (Value.bool b)) hb) ?_
                      refine JL.gskip rfl rfl rfl rfl ?_
                      refine JL.gskip rfl rfl rfl rfl ?_
                      refine JL.gskip rfl rfl rfl rfl ?_
                      refine JL.gskip rfl rfl rfl rfl ?_
                      refine JL.val (yl_pick_true rfl rfl) rfl ?_
                      have he := Option.some.inj hres
                      exact JL.weak [0, 1, 2, 3, 4, 5, 6] K ⟨rfl, rfl, rfl, rfl, rfl, rfl, rfl, rfl, rfl, (by rw [← he]; rfl), trivial⟩ (by decide) rfl
                    · refine JL.set (d := 93) (v := .bool false) (congrArg (fun b => some (Value.bool b)) hb) ?_
                      refine JL.gval rfl rfl (yl_move rfl) rfl ?_
                      refine JL.gval rfl rfl (yl_move rfl) rfl ?_
                      obtain ⟨x72, hx72, hres⟩ := bind_some hres
                      refine JL.geff rfl rfl (ef_call (T := T31 x72) Go.Proofs.Try.func31 rfl (by kernel_rfl) rfl (fun w hC => c31 (rd_row hC 6 rfl) rfl (ln_row hC 6 rfl) (rd_row hC 3 rfl) rfl (ln_row hC 3 rfl) hx72)) rfl ?_
                      rintro _ _ ⟨_, ⟨rfl, rfl⟩, rfl⟩
                      refine JL.gval rfl rfl (yl_not rfl) rfl ?_
                      refine JL.val (yl_pick_false rfl rfl) rfl ?_
                      have he := Option.some.inj hres
                      exact JL.weak [0, 1, 2, 3, 4, 5, 6] K ⟨rfl, rfl, rfl, rfl, rfl, rfl, rfl, rfl, rfl, (by rw [← he]; rfl), trivial⟩ (by decide) rfl
                · intro K
                  rcases cond_some hcb69 with ⟨hb, hres⟩ | ⟨hb, hres⟩
                  · refine JL.set (d := 87) (v := .bool true) (congrArg (fun b => some (Value.bool b)) hb) ?_
                    refine JL.gskip rfl rfl rfl rfl ?_
                    refine JL.gskip rfl rfl rfl rfl ?_
                    refine JL.gskip rfl rfl rfl rfl ?_
                    refine JL.gskip rfl rfl rfl rfl ?_
                    refine JL.val (yl_pick_true rfl rfl) rfl ?_
                    have he := Option.some.inj hres
                    exact JL.weak [0, 1, 2, 3, 4, 5, 6] K ⟨rfl, rfl, rfl, rfl, rfl, rfl, rfl, rfl, rfl, (by rw [← he]; rfl), trivial⟩ (by decide) rfl
                  · refine JL.set (d := 87) (v := .bool false) (congrArg (fun b => some (Value.bool b)) hb) ?_
                    refine JL.gval rfl rfl (yl_loadn Go.Proofs.Try.underlying39 rfl i39 rfl (fun w hC => rd_box hC 4 rfl) rfl (i39s).symm i39p) rfl ?_
                    refine JL.gval rfl rfl (yl_loadn Go.Proofs.Try.underlying39 rfl i39 rfl (fun w hC => rd_box hC 1 rfl) rfl (i39s).symm i39p) rfl ?_
                    obtain ⟨x70, hx70, hres⟩ := bind_some hres
                    refine JL.geff rfl rfl (ef_call (vs := [.agg #[.int .i64 x38.1.W, .int .i64 x38.1.H, .slice a39 x38.1.Breaks.length cp40], .agg #[.int .i64 x16.1.W, .int .i64 x16.1.H, .slice a17 x16.1.Breaks.length cp18]]) (T := T32 x70) Go.Proofs.Try.func32 rfl (by kernel_rfl) rfl (fun w hC => c32 (q0 := x38.1) (q1 := x16.1) (rd_row hC 5 rfl) rfl (ln_row hC 5 rfl) (rd_row hC 2 rfl) rfl (ln_row hC 2 rfl) hx70)) rfl ?_
                    rintro _ _ ⟨_, ⟨rfl, rfl⟩, rfl⟩
                    refine JL.gval rfl rfl (yl_not rfl) rfl ?_
                    refine JL.val (yl_pick_false rfl rfl) rfl ?_
                    have he := Option.some.inj hres
                    exact JL.weak [0, 1, 2, 3, 4, 5, 6] K ⟨rfl, rfl, rfl, rfl, rfl, rfl, rfl, rfl, rfl, (by rw [← he]; rfl), trivial⟩ (by decide) rfl
        · intro K
          rcases Bool.eq_false_or_eq_true (cb48) with hb | hb
          · refine JL.set (d := 64) (v := .bool true) (congrArg (fun b => some (Value.bool b)) hb) ?_
            refine JL.gskip rfl rfl rfl rfl ?_
            refine JL.gskip rfl rfl rfl rfl ?_
            refine JL.gskip rfl rfl rfl rfl ?_
            refine JL.val (yl_pick_true rfl rfl) rfl ?_
            exact JL.weak [0, 1, 2, 3, 4, 5, 6, 7, 8, 9, 10] K ⟨rfl, rfl, rfl, rfl, rfl, rfl, rfl, rfl, rfl, rfl, rfl, (by rw [hb]; rfl), trivial⟩ (by decide) rfl
          · refine JL.set (d := 64) (v := .bool false) (congrArg (fun b => some (Value.bool b)) hb) ?_
            refine JL.gval rfl rfl (yl_move rfl) rfl ?_
            refine JL.gval rfl rfl (yl_move rfl) rfl ?_
            refine JL.gval rfl rfl (yl_neq rfl rfl) rfl ?_
            refine JL.val (yl_pick_false rfl rfl) rfl ?_
            exact JL.weak [0, 1, 2, 3, 4, 5, 6, 7, 8, 9, 10] K ⟨rfl, rfl, rfl, rfl, rfl, rfl, rfl, rfl, rfl, rfl, rfl, (by rw [hb]; rfl), trivial⟩ (by decide) rfl
      · intro K
        rcases cond_some hcb48 with ⟨hb, hres⟩ | ⟨hb, hres⟩
        · refine JL.set (d := 58) (v := .bool true) (congrArg (fun b => some (Value.bool b)) hb) ?_
          refine JL.gskip rfl rfl rfl rfl ?_
          refine JL.gskip rfl rfl rfl rfl ?_
          refine JL.gskip rfl rfl rfl rfl ?_
          refine JL.gskip rfl rfl rfl rfl ?_
          refine JL.val (yl_pick_true rfl rfl) rfl ?_
          have he := Option.some.inj hres
          exact JL.weak [0, 1, 2, 3, 4, 5, 6, 7, 8, 9, 10] K ⟨rfl, rfl, rfl, rfl, rfl, rfl, rfl, rfl, rfl, rfl, rfl, (by rw [← he]; rfl), trivial⟩ (by decide) rfl
        · refine JL.set (d := 58) (v := .bool false) (congrArg (fun b => some (Value.bool b)) hb) ?_
          refine JL.gval rfl rfl (yl_move rfl) rfl ?_
          refine JL.gval rfl rfl (yl_move rfl) rfl ?_
          obtain ⟨x49, hx49, hres⟩ := bind_some hres
          refine JL.geff rfl rfl (ef_call (T := T31 x49) Go.Proofs.Try.func31 rfl (by kernel_rfl) rfl (fun w hC => c31 (rd_row hC 10 rfl) rfl (ln_row hC 10 rfl) (rd_row hC 3 rfl) rfl (ln_row hC 3 rfl) hx49)) rfl ?_
          rintro _ _ ⟨_, ⟨rfl, rfl⟩, rfl⟩
          refine JL.gval rfl rfl (yl_not rfl) rfl ?_
          refine JL.val (yl_pick_false rfl rfl) rfl ?_
          have he := Option.some.inj hres
          exact JL.weak [0, 1, 2, 3, 4, 5, 6, 7, 8, 9, 10] K ⟨rfl, rfl, rfl, rfl, rfl, rfl, rfl, rfl, rfl, rfl, rfl, (by rw [← he]; rfl), trivial⟩ (by decide) rfl

end Go.Sh
