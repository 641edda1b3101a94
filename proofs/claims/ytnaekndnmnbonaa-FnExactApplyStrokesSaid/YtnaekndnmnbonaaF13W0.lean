/- Walks through functions that the law reaches, printed by program. -/
import Derived.Test.YtnaekndnmnbonaaF13T
set_option linter.unusedVariables false
set_option linter.unusedSimpArgs false
namespace Go.Sh
open Go Go.RowKit
/- laws.szInt64S -/
def sh95 (q0 : List Int) (q1 : Int) : Option (Int) := bif decide ((w64 (q1 - (q0.length : Int))) < 0) then (some (-1)) else (some (w64 (q1 - (q0.length : Int))))
def T95 (r : Int) (v : Value) (rs : List Own) : Prop := v = rets [.int .i64 r] ∧ rs = []
set_option maxRecDepth 100000 in
theorem c95 {w : World} {q0 : List Int} {a_0 : Option Addr} {n_0 c_0 : Nat} (g_0 : Rd w a_0 (eI64.fl q0)) (l_0 : q0.length = n_0) (k_0 : n_0 ≤ c_0) {q1 : Int} {r : Int} (hres : sh95 q0 q1 = some r) : Calls Go.Proofs.Try.prog 95 [.slice a_0 n_0 c_0, .int .i64 q1].toArray w (Ret w (T95 r)) := by
  subst l_0
  unfold sh95 at hres
  refine calls_of (n := 12) (M := []) (es := []) Go.Proofs.Try.func95 rfl rfl rfl (Sep.nil _ _ _) ?_
  refine JX.seq ?_
  refine JX.region ?_
  refine JL.val (yl_assign rfl) rfl ?_
  refine JL.nil ?_
  refine JE.code ?_
  refine JX.seq ?_
  refine JX.region ?_
  refine JL.val (yl_move rfl) rfl ?_
  refine JL.val (yl_move rfl) rfl ?_
  refine JL.val (yl_len_slice Go.Proofs.Try.underlying33 rfl) rfl ?_
  refine JL.val (yl_sub rfl rfl) rfl ?_
  refine JL.val (yl_assign rfl) rfl ?_
  refine JL.nil ?_
  refine JE.weak (env' := [(1, .int .i64 (w64 (q1 - (q0.length : Int))))]) (es' := []) [] ?_ ⟨rfl, trivial⟩ (by decide) rfl
  refine JE.code ?_
  refine JX.seq ?_
  refine JX.seq ?_
  refine JX.region ?_
  refine JL.val (yl_move rfl) rfl ?_
  refine JL.val (yl_lss rfl rfl) rfl ?_
  refine JL.nil ?_
  refine JE.code ?_
  rcases cond_some hres with ⟨hb, hres⟩ | ⟨hb, hres⟩
  · refine JX.condT rfl hb ?_
    refine JX.seq ?_
    refine JX.region ?_
    refine JL.val (yl_assign rfl) rfl ?_
    refine JL.nil ?_
    refine JE.code ?_
    refine JX.ret ?_
    obtain rfl := Option.some.inj hres
    refine JE.ret (rs := [.tmp 4]) (vs := [.int .i64 (-1)]) rfl ⟨rfl, trivial⟩ ?_
    exact fun w' hb hs => ⟨_, _, ⟨rfl, rfl⟩, rfl, hb, hs.sel [] _ (by decide) rfl⟩
  · refine JX.condF rfl hb ?_
    refine JX.skip ?_
    refine JE.code ?_
    refine JX.seq ?_
    refine JX.region ?_
    refine JL.val (yl_move rfl) rfl ?_
    refine JL.val (yl_assign rfl) rfl ?_
    refine JL.nil ?_
    refine JE.code ?_
    refine JX.ret ?_
    obtain rfl := Option.some.inj hres
    refine JE.ret (rs := [.tmp 4]) (vs := [.int .i64 (w64 (q1 - (q0.length : Int)))]) rfl ⟨rfl, trivial⟩ ?_
    exact fun w' hb hs => ⟨_, _, ⟨rfl, rfl⟩, rfl, hb, hs.sel [] _ (by decide) rfl⟩

/- laws.szPanel -/
def sh27 (q0 : SPanel) (q1 : Int) : Option (Int) := Option.bind (sh95 q0.Breaks q1) fun x3 => bif decide (x3 < 0) then (some (-1)) else (some x3)
def T27 (r : Int) (v : Value) (rs : List Own) : Prop := v = rets [.int .i64 r] ∧ rs = []
set_option maxRecDepth 100000 in
theorem c27 {w : World} {q0 : SPanel} {a_0_2 : Option Addr} {n_0_2 c_0_2 : Nat} (g_0_2 : Rd w a_0_2 (eI64.fl q0.Breaks)) (l_0_2 : q0.Breaks.length = n_0_2) (k_0_2 : n_0_2 ≤ c_0_2) {q1 : Int} {r : Int} (hres : sh27 q0 q1 = some r) : Calls Go.Proofs.Try.prog 27 [.agg #[.int .i64 q0.W, .int .i64 q0.H, .slice a_0_2 n_0_2 c_0_2], .int .i64 q1].toArray w (Ret w (T27 r)) := by
  subst l_0_2
  unfold sh27 at hres
  refine calls_of (n := 12) (M := []) (es := []) Go.Proofs.Try.func27 rfl rfl rfl (Sep.nil _ _ _) ?_
  refine JX.seq ?_
  refine JX.region ?_
  refine JL.eff (ef_box rfl rfl) rfl ?_
  rintro _ _ ⟨g1, rfl, rfl⟩
  refine JL.val (yl_assign rfl) rfl ?_
  refine JL.nil ?_
  refine JE.code ?_
  refine JX.seq ?_
  refine JX.region ?_
  refine JL.val (yl_fieldAt (a := some _) Go.Proofs.Try.underlying35 rfl i33 i33n rfl rfl) rfl ?_
  refine JL.val (yl_load1 Go.Proofs.Try.underlying33 rfl rfl (fun w hC => rd_box hC 0 rfl) rfl) rfl ?_
  refine JL.val (yl_move rfl) rfl ?_
  obtain ⟨x3, hx3, hres⟩ := bind_some hres
  refine JL.eff (ef_call (T := T95 x3) Go.Proofs.Try.func95 rfl (by kernel_rfl) rfl (fun w hC => c95 (rd_arg g_0_2 hC) rfl k_0_2 hx3)) rfl ?_
  rintro _ _ ⟨_, ⟨rfl, rfl⟩, rfl⟩
  refine JL.val (yl_assign rfl) rfl ?_
  refine JL.nil ?_
  refine JE.weak (env' := [(1, .int .i64 x3)]) (es' := []) [] ?_ ⟨rfl, trivial⟩ (by decide) rfl
  refine JE.code ?_
  refine JX.seq ?_
  refine JX.seq ?_
  refine JX.region ?_
  refine JL.val (yl_move rfl) rfl ?_
  refine JL.val (yl_lss rfl rfl) rfl ?_
  refine JL.nil ?_
  refine JE.code ?_
  rcases cond_some hres with ⟨hb, hres⟩ | ⟨hb, hres⟩
  · refine JX.condT rfl hb ?_
    refine JX.seq ?_
    refine JX.region ?_
    refine JL.val (yl_assign rfl) rfl ?_
    refine JL.nil ?_
    refine JE.code ?_
    refine JX.ret ?_
    obtain rfl := Option.some.inj hres
    refine JE.ret (rs := [.tmp 4]) (vs := [.int .i64 (-1)]) rfl ⟨rfl, trivial⟩ ?_
    exact fun w' hb hs => ⟨_, _, ⟨rfl, rfl⟩, rfl, hb, hs.sel [] _ (by decide) rfl⟩
  · refine JX.condF rfl hb ?_
    refine JX.skip ?_
    refine JE.code ?_
    refine JX.seq ?_
    refine JX.region ?_
    refine JL.val (yl_move rfl) rfl ?_
    refine JL.val (yl_assign rfl) rfl ?_
    refine JL.nil ?_
    refine JE.code ?_
    refine JX.ret ?_
    obtain rfl := Option.some.inj hres
    refine JE.ret (rs := [.tmp 4]) (vs := [.int .i64 x3]) rfl ⟨rfl, trivial⟩ ?_
    exact fun w' hb hs => ⟨_, _, ⟨rfl, rfl⟩, rfl, hb, hs.sel [] _ (by decide) rfl⟩

/- laws.toInt64S -/
def sh39_1 (q0 : List Int) : (Int × List Int) → Option ((Int × List Int) ⊕ (List Int))
  | (x5, x6) => bif decide (x5 < (q0.length : Int)) then (Option.bind (getI q0 x5) fun x8 => Option.bind (getI x6 x5) fun x9 => some (.inl (w64 (x5 + 1), x6.set (x5).toNat x8))) else (some (.inr x6))
def sh39 (q0 : List Int) : Option (List Int) := Option.bind (mkL (q0.length : Int) 0) fun x1 => Option.bind (iter (sh39_1 q0) (0, x1)) fun b1 => (some b1)
def T39 (r : List Int) (v : Value) (rs : List Own) : Prop := ∃ (a0 : Option Addr) (n0 c0 : Nat), r.length = n0 ∧ v = rets [.slice a0 n0 c0] ∧ rs = [rowT 2 eI64 a0 n0 c0 r]
set_option maxRecDepth 100000 in
theorem c39 {w : World} {q0 : List Int} {a_0 : Option Addr} {n_0 c_0 : Nat} (g_0 : Rd w a_0 (eI64.fl q0)) (l_0 : q0.length = n_0) (k_0 : n_0 ≤ c_0) {r : List Int} (hres : sh39 q0 = some r) : Calls Go.Proofs.Try.prog 39 [.slice a_0 n_0 c_0].toArray w (Ret w (T39 r)) := by
  subst l_0
  unfold sh39 at hres
  refine calls_of (n := 22) (M := []) (es := []) Go.Proofs.Try.func39 rfl rfl rfl (Sep.nil _ _ _) ?_
  refine JX.seq ?_
  refine JX.region ?_
  refine JL.val (yl_assign rfl) rfl ?_
  refine JL.nil ?_
  refine JE.code ?_
  refine JX.seq ?_
  refine JX.region ?_
  refine JL.val (yl_move rfl) rfl ?_
  refine JL.val (yl_len_slice Go.Proofs.Try.underlying33 rfl) rfl ?_
  obtain ⟨x1, hx1, hres⟩ := bind_some hres
  refine JL.eff (ef_makeS (e := eI64) Go.Proofs.Try.underlying33 i2 i2s i2z rfl i2b1 rfl rfl hx1) rfl ?_
  rintro _ _ ⟨a2, rfl, rfl⟩
  refine JL.val (yl_assign rfl) rfl ?_
  refine JL.nil ?_
  refine JE.weak (env' := [(0, .slice a_0 q0.length c_0), (3, .slice a2 x1.length x1.length)]) (es' := [rowT 2 eI64 a2 x1.length x1.length x1]) [0] ?_ ⟨rfl, rfl, trivial⟩ (by decide) rfl
  refine JE.code ?_
  refine JX.seq ?_
  refine JX.seq ?_
  refine JX.region ?_
  refine JL.val (yl_assign rfl) rfl ?_
  refine JL.nil ?_
  refine JE.code ?_
  refine JX.block ?_
  obtain ⟨y1, hy1, hresO1⟩ := bind_some hres
  refine JX.loop (I := fun (s1 : Int × List Int) aa ww => ∃ (l4 : s1.2.length = x1.length), St w [] 22 [(0, .slice a_0 q0.length c_0), (3, .slice a2 x1.length x1.length), (4, .int .i64 s1.1)] [rowT 2 eI64 a2 x1.length x1.length s1.2] aa ww) (sh39_1 q0) hy1 (fun a w h => ⟨rfl, h.weak ⟨rfl, rfl, rfl, trivial⟩ [0] (by decide) rfl⟩) ?_
  rintro ⟨x5, x6⟩ o1 hres hox1 aa ww ⟨l7, hS⟩
  refine (?_ : JX Go.Proofs.Try.prog w [] 22 _ _ [(0, .slice a_0 q0.length c_0), (3, .slice a2 x1.length x1.length), (4, .int .i64 x5)] [rowT 2 eI64 a2 x1.length x1.length x6] _) aa ww hS
  clear hS
  simp only [sh39_1] at hres
  refine JX.seq ?_
  refine JX.seq ?_
  refine JX.region ?_
  refine JL.val (yl_move rfl) rfl ?_
  refine JL.val (yl_move rfl) rfl ?_
  refine JL.val (yl_len_slice Go.Proofs.Try.underlying33 rfl) rfl ?_
  refine JL.val (yl_lss rfl rfl) rfl ?_
  refine JL.nil ?_
  refine JE.weak (env' := [(0, .slice a_0 q0.length c_0), (3, .slice a2 x1.length x1.length), (4, .int .i64 x5), (11, .bool (decide (x5 < (q0.length : Int))))]) (es' := [rowT 2 eI64 a2 x1.length x1.length x6]) [0] ?_ ⟨rfl, rfl, rfl, rfl, trivial⟩ (by decide) rfl
  refine JE.code ?_
  rcases cond_some hres with ⟨hb, hres⟩ | ⟨hb, hres⟩
  · refine JX.condT rfl hb ?_
    refine JX.skip ?_
    refine JE.code ?_
    refine JX.seq ?_
    refine JX.block ?_
    refine JX.region ?_
    refine JL.val (yl_move rfl) rfl ?_
    refine JL.val (yl_move rfl) rfl ?_
    refine JL.val (yl_move rfl) rfl ?_
    refine JL.val (yl_move rfl) rfl ?_
    obtain ⟨x8, hx8, hres⟩ := bind_some hres
    refine JL.val (yl_idxT Go.Proofs.Try.underlying33 i2 i2s rfl rfl hx8 rfl (fun w hC => rd_arg g_0 hC)) rfl ?_
    refine JL.val (yl_loadT0 Go.Proofs.Try.underlying2 rfl rfl hx8 (fun w hC => rd_arg g_0 hC) rfl) rfl ?_
    obtain ⟨x9, hx9, hres⟩ := bind_some hres
    refine JL.val (yl_idxT Go.Proofs.Try.underlying33 i2 i2s rfl rfl hx9 l7 (fun w hC => rd_row hC 0 rfl)) rfl ?_
    refine JL.eff (ef_storeT (ix := 0) (u := x8) i2 i2s rfl rfl rfl hx9 rfl) rfl ?_
    rintro _ _ rfl
    refine JL.nil ?_
    refine JE.weak (env' := [(0, .slice a_0 q0.length c_0), (3, .slice a2 x1.length x1.length), (4, .int .i64 x5)]) (es' := [rowT 2 eI64 a2 x1.length x1.length (x6.set (x5).toNat x8)]) [0] ?_ ⟨rfl, rfl, rfl, trivial⟩ (by decide) rfl
    refine JE.code ?_
    refine JX.region ?_
    refine JL.val (yl_move rfl) rfl ?_
    refine JL.val (yl_add rfl rfl) rfl ?_
    refine JL.val (yl_assign rfl) rfl ?_
    refine JL.nil ?_
    refine JE.cont hres ?_
    exact fun a w h => ⟨(List.length_set.trans l7), h.weak ⟨rfl, rfl, rfl, trivial⟩ [0] (by decide) rfl⟩
  · refine JX.condF rfl hb ?_
    refine JX.exit ?_
    refine JE.qb rfl ?_
    obtain ⟨b1, hb1⟩ : ∃ b : List Int, b = x6 := ⟨_, rfl⟩
    have hy1 : b1 = y1 := by rw [hb1]; exact hox1 _ (Option.some.inj hres).symm
    have hres := hresO1
    rw [← hy1] at hres
    have l10 : b1.length = x1.length := by subst hb1; exact l7
    refine JE.weak (env' := [(3, .slice a2 x1.length x1.length)]) (es' := [rowT 2 eI64 a2 x1.length x1.length b1]) [0] ?_ ⟨(by subst hb1; rfl), trivial⟩ (by decide) (by subst hb1; rfl)
    refine JE.code ?_
    refine JX.seq ?_
    refine JX.region ?_
    refine JL.val (yl_move rfl) rfl ?_
    refine JL.val (yl_assign rfl) rfl ?_
    refine JL.nil ?_
    refine JE.code ?_
    refine JX.ret ?_
    obtain rfl := Option.some.inj hres
    refine JE.ret (rs := [.tmp 2]) (vs := [.slice a2 x1.length x1.length]) rfl ⟨rfl, trivial⟩ ?_
    exact fun w' hb hs => ⟨_, _, ⟨a2, x1.length, x1.length, l10, rfl, rfl⟩, rfl, hb, hs.sel [0] _ (by decide) rfl⟩

/- laws.toPanel -/
def sh29 (q0 : SPanel) : Option (SPanel) := Option.bind (sh39 q0.Breaks) fun x7 => some (SPanel.mk q0.W q0.H x7)
def T29 (r : SPanel) (v : Value) (rs : List Own) : Prop := ∃ (a0_2 : Option Addr) (n0_2 c0_2 : Nat), r.Breaks.length = n0_2 ∧ v = rets [.agg #[.int .i64 r.W, .int .i64 r.H, .slice a0_2 n0_2 c0_2]] ∧ rs = [rowT 2 eI64 a0_2 n0_2 c0_2 r.Breaks]
set_option maxRecDepth 100000 in
theorem c29 {w : World} {q0 : SPanel} {a_0_2 : Option Addr} {n_0_2 c_0_2 : Nat} (g_0_2 : Rd w a_0_2 (eI64.fl q0.Breaks)) (l_0_2 : q0.Breaks.length = n_0_2) (k_0_2 : n_0_2 ≤ c_0_2) {r : SPanel} (hres : sh29 q0 = some r) : Calls Go.Proofs.Try.prog 29 [.agg #[.int .i64 q0.W, .int .i64 q0.H, .slice a_0_2 n_0_2 c_0_2]].toArray w (Ret w (T29 r)) := by
  subst l_0_2
  unfold sh29 at hres
  refine calls_of (n := 15) (M := []) (es := []) Go.Proofs.Try.func29 rfl rfl rfl (Sep.nil _ _ _) ?_
  refine JX.seq ?_
  refine JX.region ?_
  refine JL.eff (ef_box rfl rfl) rfl ?_
  rintro _ _ ⟨g1, rfl, rfl⟩
  refine JL.eff (ef_alloc i39 i39z rfl) rfl ?_
  rintro _ _ ⟨g3, rfl, rfl⟩
  refine JL.nil ?_
  refine JE.code ?_
  refine JX.seq ?_
  refine JX.region ?_
  refine JL.eff (ef_alloc i39 i39z rfl) rfl ?_
  rintro _ _ ⟨g5, rfl, rfl⟩
  refine JL.nil ?_
  refine JE.code ?_
  refine JX.seq ?_
  refine JX.region ?_
  refine JL.val (yl_fieldAt (a := some _) Go.Proofs.Try.underlying35 rfl i2 i2n rfl rfl) rfl ?_
  refine JL.val (yl_load1 Go.Proofs.Try.underlying2 rfl rfl (fun w hC => rd_box hC 0 rfl) rfl) rfl ?_
  refine JL.val (yl_fieldAt (a := some _) Go.Proofs.Try.underlying39 rfl i2 i2n rfl rfl) rfl ?_
  refine JL.eff (ef_store_box (i := 2) (v := .int .i64 q0.W) i2 rfl rfl rfl (i2s).symm (Nat.le_of_ble_eq_true rfl) (by simp [Value.cells, Value.oneCell'])) rfl ?_
  rintro _ _ rfl
  refine JL.nil ?_
  refine JE.weak (env' := [(1, ptrAt (some ⟨g1, 0, none⟩) 0), (2, ptrAt (some ⟨g3, 0, none⟩) 0), (3, ptrAt (some ⟨g5, 0, none⟩) 0)]) (es' := [boxO 35 g1 [.int .i64 q0.W, .int .i64 q0.H, .slice a_0_2 q0.Breaks.length c_0_2], boxO 39 g3 [.int .i64 0, .int .i64 0, .slice none 0 0], boxO 39 g5 [.int .i64 q0.W, .int .i64 0, .slice none 0 0]]) [0, 1, 2] ?_ ⟨rfl, rfl, rfl, trivial⟩ (by decide) rfl
  refine JE.code ?_
  refine JX.seq ?_
  refine JX.region ?_
  refine JL.val (yl_fieldAt (a := some _) Go.Proofs.Try.underlying35 rfl i2 i2n rfl rfl) rfl ?_
  refine JL.val (yl_load1 Go.Proofs.Try.underlying2 rfl rfl (fun w hC => rd_box hC 0 rfl) rfl) rfl ?_
  refine JL.val (yl_fieldAt (a := some _) Go.Proofs.Try.underlying39 rfl i2 i2n rfl rfl) rfl ?_
  refine JL.eff (ef_store_box (i := 2) (v := .int .i64 q0.H) i2 rfl rfl rfl (i2s).symm (Nat.le_of_ble_eq_true rfl) (by simp [Value.cells, Value.oneCell'])) rfl ?_
  rintro _ _ rfl
  refine JL.nil ?_
  refine JE.weak (env' := [(1, ptrAt (some ⟨g1, 0, none⟩) 0), (2, ptrAt (some ⟨g3, 0, none⟩) 0), (3, ptrAt (some ⟨g5, 0, none⟩) 0)]) (es' := [boxO 35 g1 [.int .i64 q0.W, .int .i64 q0.H, .slice a_0_2 q0.Breaks.length c_0_2], boxO 39 g3 [.int .i64 0, .int .i64 0, .slice none 0 0], boxO 39 g5 [.int .i64 q0.W, .int .i64 q0.H, .slice none 0 0]]) [0, 1, 2] ?_ ⟨rfl, rfl, rfl, trivial⟩ (by decide) rfl
  refine JE.code ?_
  refine JX.seq ?_
  refine JX.region ?_
  refine JL.val (yl_fieldAt (a := some _) Go.Proofs.Try.underlying35 rfl i33 i33n rfl rfl) rfl ?_
  refine JL.val (yl_load1 Go.Proofs.Try.underlying33 rfl rfl (fun w hC => rd_box hC 0 rfl) rfl) rfl ?_
  obtain ⟨x7, hx7, hres⟩ := bind_some hres
  refine JL.eff (ef_call (T := T39 x7) Go.Proofs.Try.func39 rfl (by kernel_rfl) rfl (fun w hC => c39 (rd_arg g_0_2 hC) rfl k_0_2 hx7)) rfl ?_
  rintro _ _ ⟨_, ⟨a8, _, cp9, rfl, rfl, rfl⟩, rfl⟩
  refine JL.val (yl_fieldAt (a := some _) Go.Proofs.Try.underlying39 rfl i33 i33n rfl rfl) rfl ?_
  refine JL.eff (ef_store_box (i := 2) (v := .slice a8 x7.length cp9) i33 rfl rfl rfl (i33s).symm (Nat.le_of_ble_eq_true rfl) (by simp [Value.cells, Value.oneCell'])) rfl ?_
  rintro _ _ rfl
  refine JL.nil ?_
  refine JE.weak (env' := [(2, ptrAt (some ⟨g3, 0, none⟩) 0), (3, ptrAt (some ⟨g5, 0, none⟩) 0)]) (es' := [boxO 39 g3 [.int .i64 0, .int .i64 0, .slice none 0 0], boxO 39 g5 [.int .i64 q0.W, .int .i64 q0.H, .slice a8 x7.length cp9], rowT 2 eI64 a8 x7.length cp9 x7]) [1, 2, 3] ?_ ⟨rfl, rfl, trivial⟩ (by decide) rfl
  refine JE.code ?_
  refine JX.seq ?_
  refine JX.region ?_
  refine JL.val (yl_loadn Go.Proofs.Try.underlying39 rfl i39 rfl (fun w hC => rd_box hC 1 rfl) rfl (i39s).symm i39p) rfl ?_
  refine JL.eff (ef_store_box (i := 0) (v := .agg #[.int .i64 q0.W, .int .i64 q0.H, .slice a8 x7.length cp9]) i39 rfl rfl rfl (i39s).symm (Nat.le_of_ble_eq_true rfl) (by simp [Value.cells, Value.oneCell'])) rfl ?_
  rintro _ _ rfl
  refine JL.nil ?_
  refine JE.weak (env' := [(2, ptrAt (some ⟨g3, 0, none⟩) 0)]) (es' := [boxO 39 g3 [.int .i64 q0.W, .int .i64 q0.H, .slice a8 x7.length cp9], rowT 2 eI64 a8 x7.length cp9 x7]) [0, 2] ?_ ⟨rfl, trivial⟩ (by decide) rfl
  refine JE.code ?_
  refine JX.ret ?_
  obtain rfl := Option.some.inj hres
  refine JE.ret (rs := [.cell 2 39]) (vs := [.agg #[.int .i64 q0.W, .int .i64 q0.H, .slice a8 x7.length cp9]]) rfl ⟨rv_box 0 rfl rfl Go.Proofs.Try.underlying39 rfl i39 (i39s).symm, trivial⟩ ?_
  exact fun w' hb hs => ⟨_, _, ⟨a8, x7.length, cp9, rfl, rfl, rfl⟩, rfl, hb, hs.sel [1] _ (by decide) rfl⟩

/- laws.eqInt64S -/
def sh31_1 (q0 : List Int) (q1 : List Int) : Int → Option (Int ⊕ (Unit ⊕ Bool))
  | x1 => bif decide (x1 < (q0.length : Int)) then (Option.bind (getI q0 x1) fun x3 => Option.bind (getI q1 x1) fun x4 => bif x3 != x4 then (some (.inr (.inr false))) else (some (.inl (w64 (x1 + 1))))) else (some (.inr (.inl ())))
def sh31 (q0 : List Int) (q1 : List Int) : Option (Bool) := bif (q0.length : Int) != (q1.length : Int) then (some false) else (Option.bind (iter (sh31_1 q0 q1) 0) fun y1 => elimS y1 (fun r => some r) fun b1 => (some true))
def T31 (r : Bool) (v : Value) (rs : List Own) : Prop := v = rets [.bool r] ∧ rs = []
set_option maxRecDepth 100000 in
theorem c31 {w : World} {q0 : List Int} {a_0 : Option Addr} {n_0 c_0 : Nat} (g_0 : Rd w a_0 (eI64.fl q0)) (l_0 : q0.length = n_0) (k_0 : n_0 ≤ c_0) {q1 : List Int} {a_1 : Option Addr} {n_1 c_1 : Nat} (g_1 : Rd w a_1 (eI64.fl q1)) (l_1 : q1.length = n_1) (k_1 : n_1 ≤ c_1) {r : Bool} (hres : sh31 q0 q1 = some r) : Calls Go.Proofs.Try.prog 31 [.slice a_0 n_0 c_0, .slice a_1 n_1 c_1].toArray w (Ret w (T31 r)) := by
  subst l_0
  subst l_1
  unfold sh31 at hres
  refine calls_of (n := 26) (M := []) (es := []) Go.Proofs.Try.func31 rfl rfl rfl (Sep.nil _ _ _) ?_
  refine JX.seq ?_
  refine JX.region ?_
  refine JL.val (yl_assign rfl) rfl ?_
  refine JL.nil ?_
  refine JE.code ?_
  refine JX.seq ?_
  refine JX.seq ?_
  refine JX.region ?_
  refine JL.val (yl_move rfl) rfl ?_
  refine JL.val (yl_len_slice Go.Proofs.Try.underlying33 rfl) rfl ?_
  refine JL.val (yl_move rfl) rfl ?_
  refine JL.val (yl_len_slice Go.Proofs.Try.underlying33 rfl) rfl ?_
  refine JL.val (yl_neq rfl rfl) rfl ?_
  refine JL.nil ?_
  refine JE.weak (env' := [(0, .slice a_0 q0.length c_0), (1, .slice a_1 q1.length c_1), (10, .bool ((q0.length : Int) != (q1.length : Int)))]) (es' := []) [] ?_ ⟨rfl, rfl, rfl, trivial⟩ (by decide) rfl
  refine JE.code ?_
  rcases cond_some hres with ⟨hb, hres⟩ | ⟨hb, hres⟩
  · refine JX.condT rfl hb ?_
    refine JX.seq ?_
    refine JX.region ?_
    refine JL.val (yl_assign rfl) rfl ?_
    refine JL.nil ?_
    refine JE.code ?_
    refine JX.ret ?_
    obtain rfl := Option.some.inj hres
    refine JE.ret (rs := [.tmp 4]) (vs := [.bool false]) rfl ⟨rfl, trivial⟩ ?_
    exact fun w' hb hs => ⟨_, _, ⟨rfl, rfl⟩, rfl, hb, hs.sel [] _ (by decide) rfl⟩
  · refine JX.condF rfl hb ?_
    refine JX.skip ?_
    refine JE.code ?_
    refine JX.seq ?_
    refine JX.seq ?_
    refine JX.region ?_
    refine JL.val (yl_assign rfl) rfl ?_
    refine JL.nil ?_
    refine JE.code ?_
    refine JX.block ?_
    obtain ⟨y1, hy1, hresO1⟩ := bind_some hres
    refine JX.loop (I := fun (s1 : Int) aa ww => St w [] 26 [(0, .slice a_0 q0.length c_0), (1, .slice a_1 q1.length c_1), (5, .int .i64 s1)] [] aa ww) (sh31_1 q0 q1) hy1 (fun a w h => h.weak ⟨rfl, rfl, rfl, trivial⟩ [] (by decide) rfl) ?_
    rintro x1 o1 hres hox1 aa ww hS
    refine (?_ : JX Go.Proofs.Try.prog w [] 26 _ _ [(0, .slice a_0 q0.length c_0), (1, .slice a_1 q1.length c_1), (5, .int .i64 x1)] [] _) aa ww hS
    clear hS
    unfold sh31_1 at hres
    refine JX.seq ?_
    refine JX.seq ?_
    refine JX.region ?_
    refine JL.val (yl_move rfl) rfl ?_
    refine JL.val (yl_move rfl) rfl ?_
    refine JL.val (yl_len_slice Go.Proofs.Try.underlying33 rfl) rfl ?_
    refine JL.val (yl_lss rfl rfl) rfl ?_
    refine JL.nil ?_
    refine JE.weak (env' := [(0, .slice a_0 q0.length c_0), (1, .slice a_1 q1.length c_1), (5, .int .i64 x1), (14, .bool (decide (x1 < (q0.length : Int))))]) (es' := []) [] ?_ ⟨rfl, rfl, rfl, rfl, trivial⟩ (by decide) rfl
    refine JE.code ?_
    rcases cond_some hres with ⟨hb, hres⟩ | ⟨hb, hres⟩
    · refine JX.condT rfl hb ?_
      refine JX.skip ?_
      refine JE.code ?_
      refine JX.seq ?_
      refine JX.block ?_
      refine JX.seq ?_
      refine JX.drawH [(0, .pure), (1, .pure), (2, .pure), (3, .read), (4, .pure), (5, .pure), (6, .pure), (7, .read), (8, .pure)] [] [] [] [] [] mixedP (by kernel_rfl) (by kernel_rfl) (by decide) rfl rfl ?_
      intro wrr2 Nr2 hFr2
      refine JH.pure rfl (yl_move rfl) rfl ?_
      refine JH.pure rfl (yl_move rfl) rfl ?_
      obtain ⟨x3, hx3, hres⟩ := bind_some hres
      refine JH.pure rfl (yl_idxQ Go.Proofs.Try.underlying33 i2 i2s rfl rfl hx3 rfl (rd_arg g_0 hFr2.cl) rfl) rfl ?_
      refine JH.read rfl (yl_loadT0 Go.Proofs.Try.underlying2 rfl rfl hx3 (fun w hw => hFr2.arg g_0 hw) rfl) rfl ?_
      refine JH.pure rfl (yl_move rfl) rfl ?_
      refine JH.pure rfl (yl_move rfl) rfl ?_
      obtain ⟨x4, hx4, hres⟩ := bind_some hres
      refine JH.pure rfl (yl_idxQ Go.Proofs.Try.underlying33 i2 i2s rfl rfl hx4 rfl (rd_arg g_1 hFr2.cl) rfl) rfl ?_
      refine JH.read rfl (yl_loadT0 Go.Proofs.Try.underlying2 rfl rfl hx4 (fun w hw => hFr2.arg g_1 hw) rfl) rfl ?_
      refine JH.pure rfl (yl_neq rfl rfl) rfl ?_
      refine JH.nil ?_
      refine JE.weak (env' := [(0, .slice a_0 q0.length c_0), (1, .slice a_1 q1.length c_1), (5, .int .i64 x1), (25, .bool (x3 != x4))]) (es' := []) [] ?_ ⟨rfl, rfl, rfl, rfl, trivial⟩ (by decide) rfl
      refine JE.code ?_
      rcases cond_some hres with ⟨hb, hres⟩ | ⟨hb, hres⟩
      · refine JX.condT rfl hb ?_
        refine JX.seq ?_
        refine JX.region ?_
        refine JL.val (yl_assign rfl) rfl ?_
        refine JL.nil ?_
        refine JE.code ?_
        refine JX.ret ?_
        refine JE.qbr ?_
        refine JE.qbr ?_
        have hres := elimS_inr hresO1 (hox1 _ (Option.some.inj hres).symm)
        obtain rfl := Option.some.inj hres
        refine JE.ret (rs := [.tmp 4]) (vs := [.bool false]) rfl ⟨rfl, trivial⟩ ?_
        exact fun w' hb hs => ⟨_, _, ⟨rfl, rfl⟩, rfl, hb, hs.sel [] _ (by decide) rfl⟩
      · refine JX.condF rfl hb ?_
        refine JX.skip ?_
        refine JE.code ?_
        refine JX.region ?_
        refine JL.val (yl_move rfl) rfl ?_
        refine JL.val (yl_add rfl rfl) rfl ?_
        refine JL.val (yl_assign rfl) rfl ?_
        refine JL.nil ?_
        refine JE.cont hres ?_
        exact fun a w h => h.weak ⟨rfl, rfl, rfl, trivial⟩ [] (by decide) rfl
    · refine JX.condF rfl hb ?_
      refine JX.exit ?_
      refine JE.qb rfl ?_
      obtain ⟨b1, hb1⟩ : ∃ b : Unit, b = () := ⟨_, rfl⟩
      have hy1 : Sum.inl b1 = y1 := by rw [hb1]; exact hox1 _ (Option.some.inj hres).symm
      have hres := elimS_inl hresO1 hy1
      refine JE.weak (env' := []) (es' := []) [] ?_ trivial (by decide) (by subst hb1; rfl)
      refine JE.code ?_
      refine JX.seq ?_
      refine JX.region ?_
      refine JL.val (yl_assign rfl) rfl ?_
      refine JL.nil ?_
      refine JE.code ?_
      refine JX.ret ?_
      obtain rfl := Option.some.inj hres
      refine JE.ret (rs := [.tmp 4]) (vs := [.bool true]) rfl ⟨rfl, trivial⟩ ?_
      exact fun w' hb hs => ⟨_, _, ⟨rfl, rfl⟩, rfl, hb, hs.sel [] _ (by decide) rfl⟩

/- laws.eqPanel -/
def sh32 (q0 : SPanel) (q1 : SPanel) : Option (Bool) := bif q0.W != q1.W then (some false) else (bif q0.H != q1.H then (some false) else (Option.bind (sh31 q0.Breaks q1.Breaks) fun x5 => bif !x5 then (some false) else (some true)))
def T32 (r : Bool) (v : Value) (rs : List Own) : Prop := v = rets [.bool r] ∧ rs = []
set_option maxRecDepth 100000 in
theorem c32 {w : World} {q0 : SPanel} {a_0_2 : Option Addr} {n_0_2 c_0_2 : Nat} (g_0_2 : Rd w a_0_2 (eI64.fl q0.Breaks)) (l_0_2 : q0.Breaks.length = n_0_2) (k_0_2 : n_0_2 ≤ c_0_2) {q1 : SPanel} {a_1_2 : Option Addr} {n_1_2 c_1_2 : Nat} (g_1_2 : Rd w a_1_2 (eI64.fl q1.Breaks)) (l_1_2 : q1.Breaks.length = n_1_2) (k_1_2 : n_1_2 ≤ c_1_2) {r : Bool} (hres : sh32 q0 q1 = some r) : Calls Go.Proofs.Try.prog 32 [.agg #[.int .i64 q0.W, .int .i64 q0.H, .slice a_0_2 n_0_2 c_0_2], .agg #[.int .i64 q1.W, .int .i64 q1.H, .slice a_1_2 n_1_2 c_1_2]].toArray w (Ret w (T32 r)) := by
  subst l_0_2
  subst l_1_2
  unfold sh32 at hres
  refine calls_of (n := 21) (M := []) (es := []) Go.Proofs.Try.func32 rfl rfl rfl (Sep.nil _ _ _) ?_
  refine JX.seq ?_
  refine JX.region ?_
  refine JL.eff (ef_box rfl rfl) rfl ?_
  rintro _ _ ⟨g1, rfl, rfl⟩
  refine JL.eff (ef_box rfl rfl) rfl ?_
  rintro _ _ ⟨g3, rfl, rfl⟩
  refine JL.val (yl_assign rfl) rfl ?_
  refine JL.nil ?_
  refine JE.code ?_
  refine JX.seq ?_
  refine JX.seq ?_
  refine JX.region ?_
  refine JL.val (yl_fieldAt (a := some _) Go.Proofs.Try.underlying39 rfl i2 i2n rfl rfl) rfl ?_
  refine JL.val (yl_load1 Go.Proofs.Try.underlying2 rfl rfl (fun w hC => rd_box hC 0 rfl) rfl) rfl ?_
  refine JL.val (yl_fieldAt (a := some _) Go.Proofs.Try.underlying39 rfl i2 i2n rfl rfl) rfl ?_
  refine JL.val (yl_load1 Go.Proofs.Try.underlying2 rfl rfl (fun w hC => rd_box hC 1 rfl) rfl) rfl ?_
  refine JL.val (yl_neq rfl rfl) rfl ?_
  refine JL.nil ?_
  refine JE.weak (env' := [(2, ptrAt (some ⟨g1, 0, none⟩) 0), (3, ptrAt (some ⟨g3, 0, none⟩) 0), (9, .bool (q0.W != q1.W))]) (es' := [boxO 39 g1 [.int .i64 q0.W, .int .i64 q0.H, .slice a_0_2 q0.Breaks.length c_0_2], boxO 39 g3 [.int .i64 q1.W, .int .i64 q1.H, .slice a_1_2 q1.Breaks.length c_1_2]]) [0, 1] ?_ ⟨rfl, rfl, rfl, trivial⟩ (by decide) rfl
  refine JE.code ?_
  rcases cond_some hres with ⟨hb, hres⟩ | ⟨hb, hres⟩
  · refine JX.condT rfl hb ?_
    refine JX.seq ?_
    refine JX.region ?_
    refine JL.val (yl_assign rfl) rfl ?_
    refine JL.nil ?_
    refine JE.weak (env' := [(4, .bool false)]) (es' := []) [] ?_ ⟨rfl, trivial⟩ (by decide) rfl
    refine JE.code ?_
    refine JX.ret ?_
    obtain rfl := Option.some.inj hres
    refine JE.ret (rs := [.tmp 4]) (vs := [.bool false]) rfl ⟨rfl, trivial⟩ ?_
    exact fun w' hb hs => ⟨_, _, ⟨rfl, rfl⟩, rfl, hb, hs.sel [] _ (by decide) rfl⟩
  · refine JX.condF rfl hb ?_
    refine JX.skip ?_
    refine JE.code ?_
    refine JX.seq ?_
    refine JX.seq ?_
    refine JX.region ?_
    refine JL.val (yl_fieldAt (a := some _) Go.Proofs.Try.underlying39 rfl i2 i2n rfl rfl) rfl ?_
    refine JL.val (yl_load1 Go.Proofs.Try.underlying2 rfl rfl (fun w hC => rd_box hC 0 rfl) rfl) rfl ?_
    refine JL.val (yl_fieldAt (a := some _) Go.Proofs.Try.underlying39 rfl i2 i2n rfl rfl) rfl ?_
    refine JL.val (yl_load1 Go.Proofs.Try.underlying2 rfl rfl (fun w hC => rd_box hC 1 rfl) rfl) rfl ?_
    refine JL.val (yl_neq rfl rfl) rfl ?_
    refine JL.nil ?_
    refine JE.weak (env' := [(2, ptrAt (some ⟨g1, 0, none⟩) 0), (3, ptrAt (some ⟨g3, 0, none⟩) 0), (14, .bool (q0.H != q1.H))]) (es' := [boxO 39 g1 [.int .i64 q0.W, .int .i64 q0.H, .slice a_0_2 q0.Breaks.length c_0_2], boxO 39 g3 [.int .i64 q1.W, .int .i64 q1.H, .slice a_1_2 q1.Breaks.length c_1_2]]) [0, 1] ?_ ⟨rfl, rfl, rfl, trivial⟩ (by decide) rfl
    refine JE.code ?_
    rcases cond_some hres with ⟨hb, hres⟩ | ⟨hb, hres⟩
    · refine JX.condT rfl hb ?_
      refine JX.seq ?_
      refine JX.region ?_
      refine JL.val (yl_assign rfl) rfl ?_
      refine JL.nil ?_
      refine JE.weak (env' := [(4, .bool false)]) (es' := []) [] ?_ ⟨rfl, trivial⟩ (by decide) rfl
      refine JE.code ?_
      refine JX.ret ?_
      obtain rfl := Option.some.inj hres
      refine JE.ret (rs := [.tmp 4]) (vs := [.bool false]) rfl ⟨rfl, trivial⟩ ?_
      exact fun w' hb hs => ⟨_, _, ⟨rfl, rfl⟩, rfl, hb, hs.sel [] _ (by decide) rfl⟩
    · refine JX.condF rfl hb ?_
      refine JX.skip ?_
      refine JE.code ?_
      refine JX.seq ?_
      refine JX.seq ?_
      refine JX.region ?_
      refine JL.val (yl_fieldAt (a := some _) Go.Proofs.Try.underlying39 rfl i33 i33n rfl rfl) rfl ?_
      refine JL.val (yl_load1 Go.Proofs.Try.underlying33 rfl rfl (fun w hC => rd_box hC 0 rfl) rfl) rfl ?_
      refine JL.val (yl_fieldAt (a := some _) Go.Proofs.Try.underlying39 rfl i33 i33n rfl rfl) rfl ?_
      refine JL.val (yl_load1 Go.Proofs.Try.underlying33 rfl rfl (fun w hC => rd_box hC 1 rfl) rfl) rfl ?_
      obtain ⟨x5, hx5, hres⟩ := bind_some hres
      refine JL.eff (ef_call (T := T31 x5) Go.Proofs.Try.func31 rfl (by kernel_rfl) rfl (fun w hC => c31 (rd_arg g_0_2 hC) rfl k_0_2 (rd_arg g_1_2 hC) rfl k_1_2 hx5)) rfl ?_
      rintro _ _ ⟨_, ⟨rfl, rfl⟩, rfl⟩
      refine JL.val (yl_not rfl) rfl ?_
      refine JL.nil ?_
      refine JE.weak (env' := [(20, .bool !x5)]) (es' := []) [] ?_ ⟨rfl, trivial⟩ (by decide) rfl
      refine JE.code ?_
      rcases cond_some hres with ⟨hb, hres⟩ | ⟨hb, hres⟩
      · refine JX.condT rfl hb ?_
        refine JX.seq ?_
        refine JX.region ?_
        refine JL.val (yl_assign rfl) rfl ?_
        refine JL.nil ?_
        refine JE.code ?_
        refine JX.ret ?_
        obtain rfl := Option.some.inj hres
        refine JE.ret (rs := [.tmp 4]) (vs := [.bool false]) rfl ⟨rfl, trivial⟩ ?_
        exact fun w' hb hs => ⟨_, _, ⟨rfl, rfl⟩, rfl, hb, hs.sel [] _ (by decide) rfl⟩
      · refine JX.condF rfl hb ?_
        refine JX.skip ?_
        refine JE.code ?_
        refine JX.seq ?_
        refine JX.region ?_
        refine JL.val (yl_assign rfl) rfl ?_
        refine JL.nil ?_
        refine JE.code ?_
        refine JX.ret ?_
        obtain rfl := Option.some.inj hres
        refine JE.ret (rs := [.tmp 4]) (vs := [.bool true]) rfl ⟨rfl, trivial⟩ ?_
        exact fun w' hb hs => ⟨_, _, ⟨rfl, rfl⟩, rfl, hb, hs.sel [] _ (by decide) rfl⟩

/- laws.markInt64S -/
def sh34_1 (q0 : List Int) : (Int × Int × List Int) → Option ((Int × Int × List Int) ⊕ (Int × List Int))
  | (x2, x3, x4) => bif decide (x3 < ((q0.length : Nat) : Int)) then (Option.bind (getI x4 x3) fun x6 => some (.inl (w64 (x2 + 1), w64 (x3 + 1), x4.set (x3).toNat x2))) else (some (.inr (x2, x4)))
def sh34 (q0 : List Int) (q1 : Int) : Option (Int × List Int) := Option.bind (iter (sh34_1 q0) (q1, 0, q0)) fun b1 => (some (b1.1, b1.2))
def T34 (a_ : Option Addr) (n_ c_ : Nat) (r : Int × List Int) (v : Value) (e' : Own) (rs : List Own) : Prop := r.2.length = n_ ∧ e' = rowT 2 eI64 a_ n_ c_ r.2 ∧ v = rets [.int .i64 r.1] ∧ rs = []
set_option maxRecDepth 100000 in
theorem c34 {w : World} {q0 : List Int} {a_0 : Option Addr} {n_0 c_0 : Nat} {M : List Nat} (g_0 : Sep w.heap.size M w [rowT 2 eI64 a_0 n_0 c_0 q0]) (l_0 : q0.length = n_0) {q1 : Int} {r : Int × List Int} (hres : sh34 q0 q1 = some r) : Calls Go.Proofs.Try.prog 34 [.slice a_0 n_0 c_0, .int .i64 q1].toArray w (RetM w M (T34 a_0 n_0 c_0 r)) := by
  subst l_0
  unfold sh34 at hres
  refine calls_of (n := 19) (M := M) (es := [rowT 2 eI64 a_0 q0.length c_0 q0]) Go.Proofs.Try.func34 rfl rfl rfl g_0 ?_
  refine JX.seq ?_
  refine JX.region ?_
  refine JL.val (yl_assign rfl) rfl ?_
  refine JL.nil ?_
  refine JE.code ?_
  refine JX.seq ?_
  refine JX.seq ?_
  refine JX.region ?_
  refine JL.val (yl_assign rfl) rfl ?_
  refine JL.nil ?_
  refine JE.code ?_
  refine JX.block ?_
  obtain ⟨y1, hy1, hresO1⟩ := bind_some hres
  refine JX.loop (I := fun (s1 : Int × Int × List Int) aa ww => ∃ (l1 : s1.2.2.length = q0.length), St w M 19 [(0, .slice a_0 q0.length c_0), (1, .int .i64 s1.1), (5, .int .i64 s1.2.1)] [rowT 2 eI64 a_0 q0.length c_0 s1.2.2] aa ww) (sh34_1 q0) hy1 (fun a w h => ⟨rfl, h.weak ⟨rfl, rfl, rfl, trivial⟩ [0] (by decide) rfl⟩) ?_
  rintro ⟨x2, x3, x4⟩ o1 hres hox1 aa ww ⟨l5, hS⟩
  refine (?_ : JX Go.Proofs.Try.prog w M 19 _ _ [(0, .slice a_0 q0.length c_0), (1, .int .i64 x2), (5, .int .i64 x3)] [rowT 2 eI64 a_0 q0.length c_0 x4] _) aa ww hS
  clear hS
  simp only [sh34_1] at hres
  refine JX.seq ?_
  refine JX.seq ?_
  refine JX.region ?_
  refine JL.val (yl_move rfl) rfl ?_
  refine JL.val (yl_move rfl) rfl ?_
  refine JL.val (yl_len_slice Go.Proofs.Try.underlying33 rfl) rfl ?_
  refine JL.val (yl_lss rfl rfl) rfl ?_
  refine JL.nil ?_
  refine JE.weak (env' := [(0, .slice a_0 q0.length c_0), (1, .int .i64 x2), (5, .int .i64 x3), (9, .bool (decide (x3 < ((q0.length : Nat) : Int))))]) (es' := [rowT 2 eI64 a_0 q0.length c_0 x4]) [0] ?_ ⟨rfl, rfl, rfl, rfl, trivial⟩ (by decide) rfl
  refine JE.code ?_
  rcases cond_some hres with ⟨hb, hres⟩ | ⟨hb, hres⟩
  · refine JX.condT rfl hb ?_
    refine JX.skip ?_
    refine JE.code ?_
    refine JX.seq ?_
    refine JX.block ?_
    refine JX.seq ?_
    refine JX.region ?_
    refine JL.val (yl_move rfl) rfl ?_
    refine JL.val (yl_move rfl) rfl ?_
    refine JL.val (yl_move rfl) rfl ?_
    obtain ⟨x6, hx6, hres⟩ := bind_some hres
    refine JL.val (yl_idxT Go.Proofs.Try.underlying33 i2 i2s rfl rfl hx6 l5 (fun w hC => rd_row hC 0 rfl)) rfl ?_
    refine JL.eff (ef_storeT (ix := 0) (u := x2) i2 i2s rfl rfl rfl hx6 rfl) rfl ?_
    rintro _ _ rfl
    refine JL.nil ?_
    refine JE.weak (env' := [(0, .slice a_0 q0.length c_0), (1, .int .i64 x2), (5, .int .i64 x3)]) (es' := [rowT 2 eI64 a_0 q0.length c_0 (x4.set (x3).toNat x2)]) [0] ?_ ⟨rfl, rfl, rfl, trivial⟩ (by decide) rfl
    refine JE.code ?_
    refine JX.region ?_
    refine JL.val (yl_move rfl) rfl ?_
    refine JL.val (yl_add rfl rfl) rfl ?_
    refine JL.val (yl_assign rfl) rfl ?_
    refine JL.nil ?_
    refine JE.code ?_
    refine JX.region ?_
    refine JL.val (yl_move rfl) rfl ?_
    refine JL.val (yl_add rfl rfl) rfl ?_
    refine JL.val (yl_assign rfl) rfl ?_
    refine JL.nil ?_
    refine JE.cont hres ?_
    exact fun a w h => ⟨(List.length_set.trans l5), h.weak ⟨rfl, rfl, rfl, trivial⟩ [0] (by decide) rfl⟩
  · refine JX.condF rfl hb ?_
    refine JX.exit ?_
    refine JE.qb rfl ?_
    obtain ⟨b1, hb1⟩ : ∃ b : Int × List Int, b = (x2, x4) := ⟨_, rfl⟩
    have hy1 : b1 = y1 := by rw [hb1]; exact hox1 _ (Option.some.inj hres).symm
    have hres := hresO1
    rw [← hy1] at hres
    have l7 : b1.2.length = q0.length := by subst hb1; exact l5
    refine JE.weak (env' := [(1, .int .i64 b1.1)]) (es' := [rowT 2 eI64 a_0 q0.length c_0 b1.2]) [0] ?_ ⟨(by subst hb1; rfl), trivial⟩ (by decide) (by subst hb1; rfl)
    refine JE.code ?_
    refine JX.seq ?_
    refine JX.region ?_
    refine JL.val (yl_move rfl) rfl ?_
    refine JL.val (yl_assign rfl) rfl ?_
    refine JL.nil ?_
    refine JE.code ?_
    refine JX.ret ?_
    obtain rfl := Option.some.inj hres
    refine JE.ret (rs := [.tmp 4]) (vs := [.int .i64 b1.1]) rfl ⟨rfl, trivial⟩ ?_
    exact fun w' hb hs => ⟨_, _, _, ⟨l7, rfl, rfl, rfl⟩, rfl, hb, hs.sel [0] _ (by decide) rfl⟩

/- laws.markPanel -/
def sh33 (q0 : SPanel) (q1 : Int) : Option (Int × List Int) := Option.bind (sh34 q0.Breaks q1) fun x3 => some (x3.1, x3.2)
def T33 (a_0_2 : Option Addr) (n_0_2 c_0_2 : Nat) (r : Int × List Int) (v : Value) (es' rs : List Own) : Prop := r.2.length = n_0_2 ∧ es' = [rowT 2 eI64 a_0_2 n_0_2 c_0_2 r.2] ∧ v = rets [.int .i64 r.1] ∧ rs = []
set_option maxRecDepth 100000 in
theorem c33 {w : World} {M : List Nat} {q0 : SPanel} {a_0_2 : Option Addr} {n_0_2 c_0_2 : Nat} (l_0_2 : q0.Breaks.length = n_0_2) {q1 : Int} (gs : Sep w.heap.size M w [rowT 2 eI64 a_0_2 n_0_2 c_0_2 q0.Breaks]) {r : Int × List Int} (hres : sh33 q0 q1 = some r) : Calls Go.Proofs.Try.prog 33 [.agg #[.int .i64 q0.W, .int .i64 q0.H, .slice a_0_2 n_0_2 c_0_2], .int .i64 q1].toArray w (RetMs w M (T33 a_0_2 n_0_2 c_0_2 r)) := by
  subst l_0_2
  unfold sh33 at hres
  refine calls_of (n := 10) (M := M) (es := [rowT 2 eI64 a_0_2 q0.Breaks.length c_0_2 q0.Breaks]) Go.Proofs.Try.func33 rfl rfl rfl gs ?_
  refine JX.seq ?_
  refine JX.region ?_
  refine JL.eff (ef_box rfl rfl) rfl ?_
  rintro _ _ ⟨g1, rfl, rfl⟩
  refine JL.val (yl_assign rfl) rfl ?_
  refine JL.nil ?_
  refine JE.code ?_
  refine JX.seq ?_
  refine JX.region ?_
  refine JL.val (yl_fieldAt (a := some _) Go.Proofs.Try.underlying39 rfl i33 i33n rfl rfl) rfl ?_
  refine JL.val (yl_load1 Go.Proofs.Try.underlying33 rfl rfl (fun w hC => rd_box hC 1 rfl) rfl) rfl ?_
  refine JL.val (yl_move rfl) rfl ?_
  obtain ⟨x3, hx3, hres⟩ := bind_some hres
  refine JL.eff (ef_callm (T := T34 a_0_2 q0.Breaks.length c_0_2 x3) 0 Go.Proofs.Try.func34 rfl (by kernel_rfl) rfl rfl (fun w fp hs => c34 hs rfl hx3)) rfl ?_
  rintro _ _ ⟨_, _, ⟨l4, rfl, rfl, rfl⟩, rfl⟩
  refine JL.val (yl_assign rfl) rfl ?_
  refine JL.nil ?_
  refine JE.weak (env' := [(1, .int .i64 x3.1)]) (es' := [rowT 2 eI64 a_0_2 q0.Breaks.length c_0_2 x3.2]) [0] ?_ ⟨rfl, trivial⟩ (by decide) rfl
  refine JE.code ?_
  refine JX.seq ?_
  refine JX.region ?_
  refine JL.val (yl_move rfl) rfl ?_
  refine JL.val (yl_assign rfl) rfl ?_
  refine JL.nil ?_
  refine JE.code ?_
  refine JX.ret ?_
  obtain rfl := Option.some.inj hres
  refine JE.ret (rs := [.tmp 4]) (vs := [.int .i64 x3.1]) rfl ⟨rfl, trivial⟩ ?_
  exact fun w' hb hs => ⟨_, _, _, ⟨l4, rfl, rfl, rfl⟩, rfl, hb, hs.sel [0] _ (by decide) rfl⟩

/- laws.heldInt64S -/
def sh35_1 (q0 : List Int) : (Int × Int) → Option ((Int × Int) ⊕ (Int ⊕ Int))
  | (x1, x2) => bif decide (x2 < (q0.length : Int)) then (Option.bind (getI q0 x2) fun x3 => bif x3 != x1 then (some (.inr (.inr (-1)))) else (some (.inl (w64 (x1 + 1), w64 (x2 + 1))))) else (some (.inr (.inl x1)))
def sh35 (q0 : List Int) (q1 : Int) : Option (Int) := Option.bind (iter (sh35_1 q0) (q1, 0)) fun y1 => elimS y1 (fun r => some r) fun b1 => (some b1)
def T35 (r : Int) (v : Value) (rs : List Own) : Prop := v = rets [.int .i64 r] ∧ rs = []
set_option maxRecDepth 100000 in
theorem c35 {w : World} {q0 : List Int} {a_0 : Option Addr} {n_0 c_0 : Nat} (g_0 : Rd w a_0 (eI64.fl q0)) (l_0 : q0.length = n_0) (k_0 : n_0 ≤ c_0) {q1 : Int} {r : Int} (hres : sh35 q0 q1 = some r) : Calls Go.Proofs.Try.prog 35 [.slice a_0 n_0 c_0, .int .i64 q1].toArray w (Ret w (T35 r)) := by
  subst l_0
  unfold sh35 at hres
  refine calls_of (n := 21) (M := []) (es := []) Go.Proofs.Try.func35 rfl rfl rfl (Sep.nil _ _ _) ?_
  refine JX.seq ?_
  refine JX.region ?_
  refine JL.val (yl_assign rfl) rfl ?_
  refine JL.nil ?_
  refine JE.code ?_
  refine JX.seq ?_
  refine JX.seq ?_
  refine JX.region ?_
  refine JL.val (yl_assign rfl) rfl ?_
  refine JL.nil ?_
  refine JE.code ?_
  refine JX.block ?_
  obtain ⟨y1, hy1, hresO1⟩ := bind_some hres
  refine JX.loop (I := fun (s1 : Int × Int) aa ww => St w [] 21 [(0, .slice a_0 q0.length c_0), (1, .int .i64 s1.1), (5, .int .i64 s1.2)] [] aa ww) (sh35_1 q0) hy1 (fun a w h => h.weak ⟨rfl, rfl, rfl, trivial⟩ [] (by decide) rfl) ?_
  rintro ⟨x1, x2⟩ o1 hres hox1 aa ww hS
  refine (?_ : JX Go.Proofs.Try.prog w [] 21 _ _ [(0, .slice a_0 q0.length c_0), (1, .int .i64 x1), (5, .int .i64 x2)] [] _) aa ww hS
  clear hS
  simp only [sh35_1] at hres
  refine JX.seq ?_
  refine JX.seq ?_
  refine JX.region ?_
  refine JL.val (yl_move rfl) rfl ?_
  refine JL.val (yl_move rfl) rfl ?_
  refine JL.val (yl_len_slice Go.Proofs.Try.underlying33 rfl) rfl ?_
  refine JL.val (yl_lss rfl rfl) rfl ?_
  refine JL.nil ?_
  refine JE.weak (env' := [(0, .slice a_0 q0.length c_0), (1, .int .i64 x1), (5, .int .i64 x2), (9, .bool (decide (x2 < (q0.length : Int))))]) (es' := []) [] ?_ ⟨rfl, rfl, rfl, rfl, trivial⟩ (by decide) rfl
  refine JE.code ?_
  rcases cond_some hres with ⟨hb, hres⟩ | ⟨hb, hres⟩
  · refine JX.condT rfl hb ?_
    refine JX.skip ?_
    refine JE.code ?_
    refine JX.seq ?_
    refine JX.block ?_
    refine JX.seq ?_
    refine JX.seq ?_
    refine JX.region ?_
    refine JL.val (yl_move rfl) rfl ?_
    refine JL.val (yl_move rfl) rfl ?_
    obtain ⟨x3, hx3, hres⟩ := bind_some hres
    refine JL.val (yl_idxT Go.Proofs.Try.underlying33 i2 i2s rfl rfl hx3 rfl (fun w hC => rd_arg g_0 hC)) rfl ?_
    refine JL.val (yl_loadT0 Go.Proofs.Try.underlying2 rfl rfl hx3 (fun w hC => rd_arg g_0 hC) rfl) rfl ?_
    refine JL.val (yl_move rfl) rfl ?_
    refine JL.val (yl_neq rfl rfl) rfl ?_
    refine JL.nil ?_
    refine JE.weak (env' := [(0, .slice a_0 q0.length c_0), (1, .int .i64 x1), (5, .int .i64 x2), (17, .bool (x3 != x1))]) (es' := []) [] ?_ ⟨rfl, rfl, rfl, rfl, trivial⟩ (by decide) rfl
    refine JE.code ?_
    rcases cond_some hres with ⟨hb, hres⟩ | ⟨hb, hres⟩
    · refine JX.condT rfl hb ?_
      refine JX.seq ?_
      refine JX.region ?_
      refine JL.val (yl_assign rfl) rfl ?_
      refine JL.nil ?_
      refine JE.code ?_
      refine JX.ret ?_
      refine JE.qbr ?_
      refine JE.qbr ?_
      have hres := elimS_inr hresO1 (hox1 _ (Option.some.inj hres).symm)
      obtain rfl := Option.some.inj hres
      refine JE.ret (rs := [.tmp 4]) (vs := [.int .i64 (-1)]) rfl ⟨rfl, trivial⟩ ?_
      exact fun w' hb hs => ⟨_, _, ⟨rfl, rfl⟩, rfl, hb, hs.sel [] _ (by decide) rfl⟩
    · refine JX.condF rfl hb ?_
      refine JX.skip ?_
      refine JE.code ?_
      refine JX.region ?_
      refine JL.val (yl_move rfl) rfl ?_
      refine JL.val (yl_add rfl rfl) rfl ?_
      refine JL.val (yl_assign rfl) rfl ?_
      refine JL.nil ?_
      refine JE.code ?_
      refine JX.region ?_
      refine JL.val (yl_move rfl) rfl ?_
      refine JL.val (yl_add rfl rfl) rfl ?_
      refine JL.val (yl_assign rfl) rfl ?_
      refine JL.nil ?_
      refine JE.cont hres ?_
      exact fun a w h => h.weak ⟨rfl, rfl, rfl, trivial⟩ [] (by decide) rfl
  · refine JX.condF rfl hb ?_
    refine JX.exit ?_
    refine JE.qb rfl ?_
    obtain ⟨b1, hb1⟩ : ∃ b : Int, b = x1 := ⟨_, rfl⟩
    have hy1 : Sum.inl b1 = y1 := by rw [hb1]; exact hox1 _ (Option.some.inj hres).symm
    have hres := elimS_inl hresO1 hy1
    refine JE.weak (env' := [(1, .int .i64 b1)]) (es' := []) [] ?_ ⟨(by subst hb1; rfl), trivial⟩ (by decide) (by subst hb1; rfl)
    refine JE.code ?_
    refine JX.seq ?_
    refine JX.region ?_
    refine JL.val (yl_move rfl) rfl ?_
    refine JL.val (yl_assign rfl) rfl ?_
    refine JL.nil ?_
    refine JE.code ?_
    refine JX.ret ?_
    obtain rfl := Option.some.inj hres
    refine JE.ret (rs := [.tmp 4]) (vs := [.int .i64 b1]) rfl ⟨rfl, trivial⟩ ?_
    exact fun w' hb hs => ⟨_, _, ⟨rfl, rfl⟩, rfl, hb, hs.sel [] _ (by decide) rfl⟩

/- laws.eqPoint -/
def sh84 (q0 : SPoint) (q1 : SPoint) : Option (Bool) := bif q0.X != q1.X then (some false) else (bif q0.Y != q1.Y then (some false) else (some true))
def T84 (r : Bool) (v : Value) (rs : List Own) : Prop := v = rets [.bool r] ∧ rs = []
set_option maxRecDepth 100000 in
theorem c84 {w : World} {q0 : SPoint} {q1 : SPoint} {r : Bool} (hres : sh84 q0 q1 = some r) : Calls Go.Proofs.Try.prog 84 [.agg #[.int .i64 q0.X, .int .i64 q0.Y], .agg #[.int .i64 q1.X, .int .i64 q1.Y]].toArray w (Ret w (T84 r)) := by
  unfold sh84 at hres
  refine calls_of (n := 15) (M := []) (es := []) Go.Proofs.Try.func84 rfl rfl rfl (Sep.nil _ _ _) ?_
  refine JX.seq ?_
  refine JX.region ?_
  refine JL.eff (ef_box rfl rfl) rfl ?_
  rintro _ _ ⟨g1, rfl, rfl⟩
  refine JL.eff (ef_box rfl rfl) rfl ?_
  rintro _ _ ⟨g3, rfl, rfl⟩
  refine JL.val (yl_assign rfl) rfl ?_
  refine JL.nil ?_
  refine JE.code ?_
  refine JX.seq ?_
  refine JX.seq ?_
  refine JX.region ?_
  refine JL.val (yl_fieldAt (a := some _) Go.Proofs.Try.underlying93 rfl i2 i2n rfl rfl) rfl ?_
  refine JL.val (yl_load1 Go.Proofs.Try.underlying2 rfl rfl (fun w hC => rd_box hC 0 rfl) rfl) rfl ?_
  refine JL.val (yl_fieldAt (a := some _) Go.Proofs.Try.underlying93 rfl i2 i2n rfl rfl) rfl ?_
  refine JL.val (yl_load1 Go.Proofs.Try.underlying2 rfl rfl (fun w hC => rd_box hC 1 rfl) rfl) rfl ?_
  refine JL.val (yl_neq rfl rfl) rfl ?_
  refine JL.nil ?_
  refine JE.weak (env' := [(2, ptrAt (some ⟨g1, 0, none⟩) 0), (3, ptrAt (some ⟨g3, 0, none⟩) 0), (9, .bool (q0.X != q1.X))]) (es' := [boxO 93 g1 [.int .i64 q0.X, .int .i64 q0.Y], boxO 93 g3 [.int .i64 q1.X, .int .i64 q1.Y]]) [0, 1] ?_ ⟨rfl, rfl, rfl, trivial⟩ (by decide) rfl
  refine JE.code ?_
  rcases cond_some hres with ⟨hb, hres⟩ | ⟨hb, hres⟩
  · refine JX.condT rfl hb ?_
    refine JX.seq ?_
    refine JX.region ?_
    refine JL.val (yl_assign rfl) rfl ?_
    refine JL.nil ?_
    refine JE.weak (env' := [(4, .bool false)]) (es' := []) [] ?_ ⟨rfl, trivial⟩ (by decide) rfl
    refine JE.code ?_
    refine JX.ret ?_
    obtain rfl := Option.some.inj hres
    refine JE.ret (rs := [.tmp 4]) (vs := [.bool false]) rfl ⟨rfl, trivial⟩ ?_
    exact fun w' hb hs => ⟨_, _, ⟨rfl, rfl⟩, rfl, hb, hs.sel [] _ (by decide) rfl⟩
  · refine JX.condF rfl hb ?_
    refine JX.skip ?_
    refine JE.code ?_
    refine JX.seq ?_
    refine JX.seq ?_
    refine JX.region ?_
    refine JL.val (yl_fieldAt (a := some _) Go.Proofs.Try.underlying93 rfl i2 i2n rfl rfl) rfl ?_
    refine JL.val (yl_load1 Go.Proofs.Try.underlying2 rfl rfl (fun w hC => rd_box hC 0 rfl) rfl) rfl ?_
    refine JL.val (yl_fieldAt (a := some _) Go.Proofs.Try.underlying93 rfl i2 i2n rfl rfl) rfl ?_
    refine JL.val (yl_load1 Go.Proofs.Try.underlying2 rfl rfl (fun w hC => rd_box hC 1 rfl) rfl) rfl ?_
    refine JL.val (yl_neq rfl rfl) rfl ?_
    refine JL.nil ?_
    refine JE.weak (env' := [(14, .bool (q0.Y != q1.Y))]) (es' := []) [] ?_ ⟨rfl, trivial⟩ (by decide) rfl
    refine JE.code ?_
    rcases cond_some hres with ⟨hb, hres⟩ | ⟨hb, hres⟩
    · refine JX.condT rfl hb ?_
      refine JX.seq ?_
      refine JX.region ?_
      refine JL.val (yl_assign rfl) rfl ?_
      refine JL.nil ?_
      refine JE.code ?_
      refine JX.ret ?_
      obtain rfl := Option.some.inj hres
      refine JE.ret (rs := [.tmp 4]) (vs := [.bool false]) rfl ⟨rfl, trivial⟩ ?_
      exact fun w' hb hs => ⟨_, _, ⟨rfl, rfl⟩, rfl, hb, hs.sel [] _ (by decide) rfl⟩
    · refine JX.condF rfl hb ?_
      refine JX.skip ?_
      refine JE.code ?_
      refine JX.seq ?_
      refine JX.region ?_
      refine JL.val (yl_assign rfl) rfl ?_
      refine JL.nil ?_
      refine JE.code ?_
      refine JX.ret ?_
      obtain rfl := Option.some.inj hres
      refine JE.ret (rs := [.tmp 4]) (vs := [.bool true]) rfl ⟨rfl, trivial⟩ ?_
      exact fun w' hb hs => ⟨_, _, ⟨rfl, rfl⟩, rfl, hb, hs.sel [] _ (by decide) rfl⟩

/- laws.eqPointS -/
def sh17_1 (q0 : List SPoint) (q1 : List SPoint) : Int → Option (Int ⊕ (Unit ⊕ Bool))
  | x1 => bif decide (x1 < (q0.length : Int)) then (Option.bind (getI q0 x1) fun x3 => Option.bind (getI q1 x1) fun x4 => Option.bind (sh84 x3 x4) fun x5 => bif !x5 then (some (.inr (.inr false))) else (some (.inl (w64 (x1 + 1))))) else (some (.inr (.inl ())))
def sh17 (q0 : List SPoint) (q1 : List SPoint) : Option (Bool) := bif (q0.length : Int) != (q1.length : Int) then (some false) else (Option.bind (iter (sh17_1 q0 q1) 0) fun y1 => elimS y1 (fun r => some r) fun b1 => (some true))
def T17 (r : Bool) (v : Value) (rs : List Own) : Prop := v = rets [.bool r] ∧ rs = []
set_option maxRecDepth 100000 in
theorem c17 {w : World} {q0 : List SPoint} {a_0 : Option Addr} {n_0 c_0 : Nat} (g_0 : Rd w a_0 (eSPoint.fl q0)) (l_0 : q0.length = n_0) (k_0 : n_0 ≤ c_0) {q1 : List SPoint} {a_1 : Option Addr} {n_1 c_1 : Nat} (g_1 : Rd w a_1 (eSPoint.fl q1)) (l_1 : q1.length = n_1) (k_1 : n_1 ≤ c_1) {r : Bool} (hres : sh17 q0 q1 = some r) : Calls Go.Proofs.Try.prog 17 [.slice a_0 n_0 c_0, .slice a_1 n_1 c_1].toArray w (Ret w (T17 r)) := by
  subst l_0
  subst l_1
  unfold sh17 at hres
  refine calls_of (n := 27) (M := []) (es := []) Go.Proofs.Try.func17 rfl rfl rfl (Sep.nil _ _ _) ?_
  refine JX.seq ?_
  refine JX.region ?_
  refine JL.val (yl_assign rfl) rfl ?_
  refine JL.nil ?_
  refine JE.code ?_
  refine JX.seq ?_
  refine JX.seq ?_
  refine JX.region ?_
  refine JL.val (yl_move rfl) rfl ?_
  refine JL.val (yl_len_slice Go.Proofs.Try.underlying22 rfl) rfl ?_
  refine JL.val (yl_move rfl) rfl ?_
  refine JL.val (yl_len_slice Go.Proofs.Try.underlying22 rfl) rfl ?_
  refine JL.val (yl_neq rfl rfl) rfl ?_
  refine JL.nil ?_
  refine JE.weak (env' := [(0, .slice a_0 q0.length c_0), (1, .slice a_1 q1.length c_1), (10, .bool ((q0.length : Int) != (q1.length : Int)))]) (es' := []) [] ?_ ⟨rfl, rfl, rfl, trivial⟩ (by decide) rfl
  refine JE.code ?_
  rcases cond_some hres with ⟨hb, hres⟩ | ⟨hb, hres⟩
  · refine JX.condT rfl hb ?_
    refine JX.seq ?_
    refine JX.region ?_
    refine JL.val (yl_assign rfl) rfl ?_
    refine JL.nil ?_
    refine JE.code ?_
    refine JX.ret ?_
    obtain rfl := Option.some.inj hres
    refine JE.ret (rs := [.tmp 4]) (vs := [.bool false]) rfl ⟨rfl, trivial⟩ ?_
    exact fun w' hb hs => ⟨_, _, ⟨rfl, rfl⟩, rfl, hb, hs.sel [] _ (by decide) rfl⟩
  · refine JX.condF rfl hb ?_
    refine JX.skip ?_
    refine JE.code ?_
    refine JX.seq ?_
    refine JX.seq ?_
    refine JX.region ?_
    refine JL.val (yl_assign rfl) rfl ?_
    refine JL.nil ?_
    refine JE.code ?_
    refine JX.block ?_
    obtain ⟨y1, hy1, hresO1⟩ := bind_some hres
    refine JX.loop (I := fun (s1 : Int) aa ww => St w [] 27 [(0, .slice a_0 q0.length c_0), (1, .slice a_1 q1.length c_1), (5, .int .i64 s1)] [] aa ww) (sh17_1 q0 q1) hy1 (fun a w h => h.weak ⟨rfl, rfl, rfl, trivial⟩ [] (by decide) rfl) ?_
    rintro x1 o1 hres hox1 aa ww hS
    refine (?_ : JX Go.Proofs.Try.prog w [] 27 _ _ [(0, .slice a_0 q0.length c_0), (1, .slice a_1 q1.length c_1), (5, .int .i64 x1)] [] _) aa ww hS
    clear hS
    unfold sh17_1 at hres
    refine JX.seq ?_
    refine JX.seq ?_
    refine JX.region ?_
    refine JL.val (yl_move rfl) rfl ?_
    refine JL.val (yl_move rfl) rfl ?_
    refine JL.val (yl_len_slice Go.Proofs.Try.underlying22 rfl) rfl ?_
    refine JL.val (yl_lss rfl rfl) rfl ?_
    refine JL.nil ?_
    refine JE.weak (env' := [(0, .slice a_0 q0.length c_0), (1, .slice a_1 q1.length c_1), (5, .int .i64 x1), (14, .bool (decide (x1 < (q0.length : Int))))]) (es' := []) [] ?_ ⟨rfl, rfl, rfl, rfl, trivial⟩ (by decide) rfl
    refine JE.code ?_
    rcases cond_some hres with ⟨hb, hres⟩ | ⟨hb, hres⟩
    · refine JX.condT rfl hb ?_
      refine JX.skip ?_
      refine JE.code ?_
      refine JX.seq ?_
      refine JX.block ?_
      refine JX.seq ?_
      refine JX.drawH [(0, .pure), (1, .pure), (2, .pure), (3, .read), (4, .pure), (5, .pure), (6, .pure), (7, .read), (8, .must), (9, .pure)] [] [] [] [] [] mixedP (by kernel_rfl) (by kernel_rfl) (by decide) rfl rfl ?_
      intro wrr2 Nr2 hFr2
      refine JH.pure rfl (yl_move rfl) rfl ?_
      refine JH.pure rfl (yl_move rfl) rfl ?_
      obtain ⟨x3, hx3, hres⟩ := bind_some hres
      refine JH.pure rfl (yl_idxQ Go.Proofs.Try.underlying22 i93 i93s rfl rfl hx3 rfl (rd_arg g_0 hFr2.cl) rfl) rfl ?_
      refine JH.read rfl (yl_loadTn Go.Proofs.Try.underlying93 rfl i93 i93s rfl hx3 (fun w hw => hFr2.arg g_0 hw)) rfl ?_
      refine JH.pure rfl (yl_move rfl) rfl ?_
      refine JH.pure rfl (yl_move rfl) rfl ?_
      obtain ⟨x4, hx4, hres⟩ := bind_some hres
      refine JH.pure rfl (yl_idxQ Go.Proofs.Try.underlying22 i93 i93s rfl rfl hx4 rfl (rd_arg g_1 hFr2.cl) rfl) rfl ?_
      refine JH.read rfl (yl_loadTn Go.Proofs.Try.underlying93 rfl i93 i93s rfl hx4 (fun w hw => hFr2.arg g_1 hw)) rfl ?_
      obtain ⟨x5, hx5, hres⟩ := bind_some hres
      refine JH.must rfl (ef_call (vs := [.agg #[.int .i64 x3.X, .int .i64 x3.Y], .agg #[.int .i64 x4.X, .int .i64 x4.Y]]) (T := T84 x5) Go.Proofs.Try.func84 rfl (by kernel_rfl) rfl (fun w hC => c84 (q0 := x3) (q1 := x4) hx5)) rfl rfl ?_
      rintro _ _ ⟨_, ⟨rfl, rfl⟩, rfl⟩
      refine JH.pure rfl (yl_not rfl) rfl ?_
      refine JH.nil ?_
      refine JE.weak (env' := [(0, .slice a_0 q0.length c_0), (1, .slice a_1 q1.length c_1), (5, .int .i64 x1), (26, .bool !x5)]) (es' := []) [] ?_ ⟨rfl, rfl, rfl, rfl, trivial⟩ (by decide) rfl
      refine JE.code ?_
      rcases cond_some hres with ⟨hb, hres⟩ | ⟨hb, hres⟩
      · refine JX.condT rfl hb ?_
        refine JX.seq ?_
        refine JX.region ?_
        refine JL.val (yl_assign rfl) rfl ?_
        refine JL.nil ?_
        refine JE.code ?_
        refine JX.ret ?_
        refine JE.qbr ?_
        refine JE.qbr ?_
        have hres := elimS_inr hresO1 (hox1 _ (Option.some.inj hres).symm)
        obtain rfl := Option.some.inj hres
        refine JE.ret (rs := [.tmp 4]) (vs := [.bool false]) rfl ⟨rfl, trivial⟩ ?_
        exact fun w' hb hs => ⟨_, _, ⟨rfl, rfl⟩, rfl, hb, hs.sel [] _ (by decide) rfl⟩
      · refine JX.condF rfl hb ?_
        refine JX.skip ?_
        refine JE.code ?_
        refine JX.region ?_
        refine JL.val (yl_move rfl) rfl ?_
        refine JL.val (yl_add rfl rfl) rfl ?_
        refine JL.val (yl_assign rfl) rfl ?_
        refine JL.nil ?_
        refine JE.cont hres ?_
        exact fun a w h => h.weak ⟨rfl, rfl, rfl, trivial⟩ [] (by decide) rfl
    · refine JX.condF rfl hb ?_
      refine JX.exit ?_
      refine JE.qb rfl ?_
      obtain ⟨b1, hb1⟩ : ∃ b : Unit, b = () := ⟨_, rfl⟩
      have hy1 : Sum.inl b1 = y1 := by rw [hb1]; exact hox1 _ (Option.some.inj hres).symm
      have hres := elimS_inl hresO1 hy1
      refine JE.weak (env' := []) (es' := []) [] ?_ trivial (by decide) (by subst hb1; rfl)
      refine JE.code ?_
      refine JX.seq ?_
      refine JX.region ?_
      refine JL.val (yl_assign rfl) rfl ?_
      refine JL.nil ?_
      refine JE.code ?_
      refine JX.ret ?_
      obtain rfl := Option.some.inj hres
      refine JE.ret (rs := [.tmp 4]) (vs := [.bool true]) rfl ⟨rfl, trivial⟩ ?_
      exact fun w' hb hs => ⟨_, _, ⟨rfl, rfl⟩, rfl, hb, hs.sel [] _ (by decide) rfl⟩

/- laws.eqPointSS -/
def sh48_1 (q0 : List (List SPoint)) (q1 : List (List SPoint)) : Int → Option (Int ⊕ (Unit ⊕ Bool))
  | x1 => bif decide (x1 < ((q0.length : Nat) : Int)) then (Option.bind (getI q0 x1) fun x3 => Option.bind (getI q1 x1) fun x7 => Option.bind (sh17 x3 x7) fun x11 => bif !x11 then (some (.inr (.inr false))) else (some (.inl (w64 (x1 + 1))))) else (some (.inr (.inl ())))
def sh48 (q0 : List (List SPoint)) (q1 : List (List SPoint)) : Option (Bool) := bif ((q0.length : Nat) : Int) != ((q1.length : Nat) : Int) then (some false) else (Option.bind (iter (sh48_1 q0 q1) 0) fun y1 => elimS y1 (fun r => some r) fun b1 => (some true))
def T48 (r : Bool) (v : Value) (rs : List Own) : Prop := v = rets [.bool r] ∧ rs = []
set_option maxRecDepth 100000 in
theorem c48 {w : World} {q0 : List (List SPoint)} {a_0 : Option Addr} {n_0 c_0 : Nat} {h_0 : List Hd} (g_0 : Rd w a_0 (eHd.fl h_0)) (r_0 : RdI w eSPoint h_0 q0) (i_0 : Inn h_0 q0) (l_0 : q0.length = n_0) (k_0 : n_0 ≤ c_0) {q1 : List (List SPoint)} {a_1 : Option Addr} {n_1 c_1 : Nat} {h_1 : List Hd} (g_1 : Rd w a_1 (eHd.fl h_1)) (r_1 : RdI w eSPoint h_1 q1) (i_1 : Inn h_1 q1) (l_1 : q1.length = n_1) (k_1 : n_1 ≤ c_1) {r : Bool} (hres : sh48 q0 q1 = some r) : Calls Go.Proofs.Try.prog 48 [.slice a_0 n_0 c_0, .slice a_1 n_1 c_1].toArray w (Ret w (T48 r)) := by
  subst l_0
  subst l_1
  unfold sh48 at hres
  refine calls_of (n := 27) (M := []) (es := []) Go.Proofs.Try.func48 rfl rfl rfl (Sep.nil _ _ _) ?_
  refine JX.seq ?_
  refine JX.region ?_
  refine JL.val (yl_assign rfl) rfl ?_
  refine JL.nil ?_
  refine JE.code ?_
  refine JX.seq ?_
  refine JX.seq ?_
  refine JX.region ?_
  refine JL.val (yl_move rfl) rfl ?_
  refine JL.val (yl_len_slice Go.Proofs.Try.underlying59 rfl) rfl ?_
  refine JL.val (yl_move rfl) rfl ?_
  refine JL.val (yl_len_slice Go.Proofs.Try.underlying59 rfl) rfl ?_
  refine JL.val (yl_neq rfl rfl) rfl ?_
  refine JL.nil ?_
  refine JE.weak (env' := [(0, .slice a_0 q0.length c_0), (1, .slice a_1 q1.length c_1), (10, .bool (((q0.length : Nat) : Int) != ((q1.length : Nat) : Int)))]) (es' := []) [] ?_ ⟨rfl, rfl, rfl, trivial⟩ (by decide) rfl
  refine JE.code ?_
  rcases cond_some hres with ⟨hb, hres⟩ | ⟨hb, hres⟩
  · refine JX.condT rfl hb ?_
    refine JX.seq ?_
    refine JX.region ?_
    refine JL.val (yl_assign rfl) rfl ?_
    refine JL.nil ?_
    refine JE.code ?_
    refine JX.ret ?_
    obtain rfl := Option.some.inj hres
    refine JE.ret (rs := [.tmp 4]) (vs := [.bool false]) rfl ⟨rfl, trivial⟩ ?_
    exact fun w' hb hs => ⟨_, _, ⟨rfl, rfl⟩, rfl, hb, hs.sel [] _ (by decide) rfl⟩
  · refine JX.condF rfl hb ?_
    refine JX.skip ?_
    refine JE.code ?_
    refine JX.seq ?_
    refine JX.seq ?_
    refine JX.region ?_
    refine JL.val (yl_assign rfl) rfl ?_
    refine JL.nil ?_
    refine JE.code ?_
    refine JX.block ?_
    obtain ⟨y1, hy1, hresO1⟩ := bind_some hres
    refine JX.loop (I := fun (s1 : Int) aa ww => St w [] 27 [(0, .slice a_0 q0.length c_0), (1, .slice a_1 q1.length c_1), (5, .int .i64 s1)] [] aa ww) (sh48_1 q0 q1) hy1 (fun a w h => h.weak ⟨rfl, rfl, rfl, trivial⟩ [] (by decide) rfl) ?_
    rintro x1 o1 hres hox1 aa ww hS
    refine (?_ : JX Go.Proofs.Try.prog w [] 27 _ _ [(0, .slice a_0 q0.length c_0), (1, .slice a_1 q1.length c_1), (5, .int .i64 x1)] [] _) aa ww hS
    clear hS
    unfold sh48_1 at hres
    refine JX.seq ?_
    refine JX.seq ?_
    refine JX.region ?_
    refine JL.val (yl_move rfl) rfl ?_
    refine JL.val (yl_move rfl) rfl ?_
    refine JL.val (yl_len_slice Go.Proofs.Try.underlying59 rfl) rfl ?_
    refine JL.val (yl_lss rfl rfl) rfl ?_
    refine JL.nil ?_
    refine JE.weak (env' := [(0, .slice a_0 q0.length c_0), (1, .slice a_1 q1.length c_1), (5, .int .i64 x1), (14, .bool (decide (x1 < ((q0.length : Nat) : Int))))]) (es' := []) [] ?_ ⟨rfl, rfl, rfl, rfl, trivial⟩ (by decide) rfl
    refine JE.code ?_
    rcases cond_some hres with ⟨hb, hres⟩ | ⟨hb, hres⟩
    · refine JX.condT rfl hb ?_
      refine JX.skip ?_
      refine JE.code ?_
      refine JX.seq ?_
      refine JX.block ?_
      refine JX.seq ?_
      refine JX.drawH [(0, .pure), (1, .pure), (2, .pure), (3, .read), (4, .pure), (5, .pure), (6, .pure), (7, .read), (8, .must), (9, .pure)] [] [] [] [] [] mixedP (by kernel_rfl) (by kernel_rfl) (by decide) rfl rfl ?_
      intro wrr2 Nr2 hFr2
      refine JH.pure rfl (yl_move rfl) rfl ?_
      refine JH.pure rfl (yl_move rfl) rfl ?_
      obtain ⟨x3, hx3, hres⟩ := bind_some hres
      obtain ⟨ha4, hc5, hhx3⟩ := Inn.sub i_0 hx3
      refine JH.pure rfl (yl_idxQ Go.Proofs.Try.underlying59 i22 i22s rfl rfl hhx3 (Inn.len i_0) (rd_arg g_0 hFr2.cl) (Inn.len i_0)) rfl ?_
      refine JH.read rfl (yl_loadT0 (z := ⟨ha4, x3.length, hc5⟩) Go.Proofs.Try.underlying22 rfl rfl hhx3 (fun w hw => hFr2.arg g_0 hw) rfl) rfl ?_
      refine JH.pure rfl (yl_move rfl) rfl ?_
      refine JH.pure rfl (yl_move rfl) rfl ?_
      obtain ⟨x7, hx7, hres⟩ := bind_some hres
      obtain ⟨ha8, hc9, hhx7⟩ := Inn.sub i_1 hx7
      refine JH.pure rfl (yl_idxQ Go.Proofs.Try.underlying59 i22 i22s rfl rfl hhx7 (Inn.len i_1) (rd_arg g_1 hFr2.cl) (Inn.len i_1)) rfl ?_
      refine JH.read rfl (yl_loadT0 (z := ⟨ha8, x7.length, hc9⟩) Go.Proofs.Try.underlying22 rfl rfl hhx7 (fun w hw => hFr2.arg g_1 hw) rfl) rfl ?_
      obtain ⟨x11, hx11, hres⟩ := bind_some hres
      refine JH.must rfl (ef_call (T := T17 x11) Go.Proofs.Try.func17 rfl (by kernel_rfl) rfl (fun w hC => c17 (hFr2.arg (RdI.sub r_0 hx3 hhx3) hC.1) rfl (RdI.ln r_0 hx3 hhx3) (hFr2.arg (RdI.sub r_1 hx7 hhx7) hC.1) rfl (RdI.ln r_1 hx7 hhx7) hx11)) rfl rfl ?_
      rintro _ _ ⟨_, ⟨rfl, rfl⟩, rfl⟩
      refine JH.pure rfl (yl_not rfl) rfl ?_
      refine JH.nil ?_
      refine JE.weak (env' := [(0, .slice a_0 q0.length c_0), (1, .slice a_1 q1.length c_1), (5, .int .i64 x1), (26, .bool !x11)]) (es' := []) [] ?_ ⟨rfl, rfl, rfl, rfl, trivial⟩ (by decide) rfl
      refine JE.code ?_
      rcases cond_some hres with ⟨hb, hres⟩ | ⟨hb, hres⟩
      · refine JX.condT rfl hb ?_
        refine JX.seq ?_
        refine JX.region ?_
        refine JL.val (yl_assign rfl) rfl ?_
        refine JL.nil ?_
        refine JE.code ?_
        refine JX.ret ?_
        refine JE.qbr ?_
        refine JE.qbr ?_
        have hres := elimS_inr hresO1 (hox1 _ (Option.some.inj hres).symm)
        obtain rfl := Option.some.inj hres
        refine JE.ret (rs := [.tmp 4]) (vs := [.bool false]) rfl ⟨rfl, trivial⟩ ?_
        exact fun w' hb hs => ⟨_, _, ⟨rfl, rfl⟩, rfl, hb, hs.sel [] _ (by decide) rfl⟩
      · refine JX.condF rfl hb ?_
        refine JX.skip ?_
        refine JE.code ?_
        refine JX.region ?_
        refine JL.val (yl_move rfl) rfl ?_
        refine JL.val (yl_add rfl rfl) rfl ?_
        refine JL.val (yl_assign rfl) rfl ?_
        refine JL.nil ?_
        refine JE.cont hres ?_
        exact fun a w h => h.weak ⟨rfl, rfl, rfl, trivial⟩ [] (by decide) rfl
    · refine JX.condF rfl hb ?_
      refine JX.exit ?_
      refine JE.qb rfl ?_
      obtain ⟨b1, hb1⟩ : ∃ b : Unit, b = () := ⟨_, rfl⟩
      have hy1 : Sum.inl b1 = y1 := by rw [hb1]; exact hox1 _ (Option.some.inj hres).symm
      have hres := elimS_inl hresO1 hy1
      refine JE.weak (env' := []) (es' := []) [] ?_ trivial (by decide) (by subst hb1; rfl)
      refine JE.code ?_
      refine JX.seq ?_
      refine JX.region ?_
      refine JL.val (yl_assign rfl) rfl ?_
      refine JL.nil ?_
      refine JE.code ?_
      refine JX.ret ?_
      obtain rfl := Option.some.inj hres
      refine JE.ret (rs := [.tmp 4]) (vs := [.bool true]) rfl ⟨rfl, trivial⟩ ?_
      exact fun w' hb hs => ⟨_, _, ⟨rfl, rfl⟩, rfl, hb, hs.sel [] _ (by decide) rfl⟩

/- laws.markPointS -/
def sh18_1 (q0 : List SPoint) : (Int × Int × List SPoint) → Option ((Int × Int × List SPoint) ⊕ (Int × List SPoint))
  | (x2, x3, x4) => bif decide (x3 < ((q0.length : Nat) : Int)) then (Option.bind (getI x4 x3) fun x6 => Option.bind (getI (x4.set (x3).toNat (SPoint.mk x2 x6.Y)) x3) fun x7 => some (.inl (w64 ((w64 (x2 + 1)) + 1), w64 (x3 + 1), (x4.set (x3).toNat (SPoint.mk x2 x6.Y)).set (x3).toNat (SPoint.mk x7.X (w64 (x2 + 1)))))) else (some (.inr (x2, x4)))
def sh18 (q0 : List SPoint) (q1 : Int) : Option (Int × List SPoint) := Option.bind (iter (sh18_1 q0) (q1, 0, q0)) fun b1 => (some (b1.1, b1.2))
def T18 (a_ : Option Addr) (n_ c_ : Nat) (r : Int × List SPoint) (v : Value) (e' : Own) (rs : List Own) : Prop := r.2.length = n_ ∧ e' = rowT 93 eSPoint a_ n_ c_ r.2 ∧ v = rets [.int .i64 r.1] ∧ rs = []
set_option maxRecDepth 100000 in
theorem c18 {w : World} {q0 : List SPoint} {a_0 : Option Addr} {n_0 c_0 : Nat} {M : List Nat} (g_0 : Sep w.heap.size M w [rowT 93 eSPoint a_0 n_0 c_0 q0]) (l_0 : q0.length = n_0) {q1 : Int} {r : Int × List SPoint} (hres : sh18 q0 q1 = some r) : Calls Go.Proofs.Try.prog 18 [.slice a_0 n_0 c_0, .int .i64 q1].toArray w (RetM w M (T18 a_0 n_0 c_0 r)) := by
  subst l_0
  unfold sh18 at hres
  refine calls_of (n := 27) (M := M) (es := [rowT 93 eSPoint a_0 q0.length c_0 q0]) Go.Proofs.Try.func18 rfl rfl rfl g_0 ?_
  refine JX.seq ?_
  refine JX.region ?_
  refine JL.val (yl_assign rfl) rfl ?_
  refine JL.nil ?_
  refine JE.code ?_
  refine JX.seq ?_
  refine JX.seq ?_
  refine JX.region ?_
  refine JL.val (yl_assign rfl) rfl ?_
  refine JL.nil ?_
  refine JE.code ?_
  refine JX.block ?_
  obtain ⟨y1, hy1, hresO1⟩ := bind_some hres
  refine JX.loop (I := fun (s1 : Int × Int × List SPoint) aa ww => ∃ (l1 : s1.2.2.length = q0.length), St w M 27 [(0, .slice a_0 q0.length c_0), (1, .int .i64 s1.1), (5, .int .i64 s1.2.1)] [rowT 93 eSPoint a_0 q0.length c_0 s1.2.2] aa ww) (sh18_1 q0) hy1 (fun a w h => ⟨rfl, h.weak ⟨rfl, rfl, rfl, trivial⟩ [0] (by decide) rfl⟩) ?_
  rintro ⟨x2, x3, x4⟩ o1 hres hox1 aa ww ⟨l5, hS⟩
  refine (?_ : JX Go.Proofs.Try.prog w M 27 _ _ [(0, .slice a_0 q0.length c_0), (1, .int .i64 x2), (5, .int .i64 x3)] [rowT 93 eSPoint a_0 q0.length c_0 x4] _) aa ww hS
  clear hS
  simp only [sh18_1] at hres
  refine JX.seq ?_
  refine JX.seq ?_
  refine JX.region ?_
  refine JL.val (yl_move rfl) rfl ?_
  refine JL.val (yl_move rfl) rfl ?_
  refine JL.val (yl_len_slice Go.Proofs.Try.underlying22 rfl) rfl ?_
  refine JL.val (yl_lss rfl rfl) rfl ?_
  refine JL.nil ?_
  refine JE.weak (env' := [(0, .slice a_0 q0.length c_0), (1, .int .i64 x2), (5, .int .i64 x3), (9, .bool (decide (x3 < ((q0.length : Nat) : Int))))]) (es' := [rowT 93 eSPoint a_0 q0.length c_0 x4]) [0] ?_ ⟨rfl, rfl, rfl, rfl, trivial⟩ (by decide) rfl
  refine JE.code ?_
  rcases cond_some hres with ⟨hb, hres⟩ | ⟨hb, hres⟩
  · refine JX.condT rfl hb ?_
    refine JX.skip ?_
    refine JE.code ?_
    refine JX.seq ?_
    refine JX.block ?_
    refine JX.seq ?_
    refine JX.region ?_
    refine JL.val (yl_move rfl) rfl ?_
    refine JL.val (yl_move rfl) rfl ?_
    refine JL.val (yl_move rfl) rfl ?_
    obtain ⟨x6, hx6, hres⟩ := bind_some hres
    refine JL.val (yl_idxT Go.Proofs.Try.underlying22 i93 i93s rfl rfl hx6 l5 (fun w hC => rd_row hC 0 rfl)) rfl ?_
    refine JL.val (yl_fieldAtT Go.Proofs.Try.underlying93 rfl i2 i2n rfl hx6 (fun w hC => rd_row hC 0 rfl)) rfl ?_
    refine JL.eff (ef_storeF (ix := 0) (u := SPoint.mk x2 x6.Y) i2 i2s rfl rfl rfl hx6 (by decide) rfl rfl rfl) rfl ?_
    rintro _ _ rfl
    refine JL.nil ?_
    refine JE.weak (env' := [(0, .slice a_0 q0.length c_0), (1, .int .i64 x2), (5, .int .i64 x3)]) (es' := [rowT 93 eSPoint a_0 q0.length c_0 (x4.set (x3).toNat (SPoint.mk x2 x6.Y))]) [0] ?_ ⟨rfl, rfl, rfl, trivial⟩ (by decide) rfl
    refine JE.code ?_
    refine JX.seq ?_
    refine JX.region ?_
    refine JL.val (yl_move rfl) rfl ?_
    refine JL.val (yl_add rfl rfl) rfl ?_
    refine JL.val (yl_assign rfl) rfl ?_
    refine JL.nil ?_
    refine JE.code ?_
    refine JX.seq ?_
    refine JX.region ?_
    refine JL.val (yl_move rfl) rfl ?_
    refine JL.val (yl_move rfl) rfl ?_
    refine JL.val (yl_move rfl) rfl ?_
    obtain ⟨x7, hx7, hres⟩ := bind_some hres
    refine JL.val (yl_idxT Go.Proofs.Try.underlying22 i93 i93s rfl rfl hx7 (List.length_set.trans l5) (fun w hC => rd_row hC 0 rfl)) rfl ?_
    refine JL.val (yl_fieldAtT Go.Proofs.Try.underlying93 rfl i2 i2n rfl hx7 (fun w hC => rd_row hC 0 rfl)) rfl ?_
    refine JL.eff (ef_storeF (ix := 0) (u := SPoint.mk x7.X (w64 (x2 + 1))) i2 i2s rfl rfl rfl hx7 (by decide) rfl rfl rfl) rfl ?_
    rintro _ _ rfl
    refine JL.nil ?_
    refine JE.weak (env' := [(0, .slice a_0 q0.length c_0), (1, .int .i64 (w64 (x2 + 1))), (5, .int .i64 x3)]) (es' := [rowT 93 eSPoint a_0 q0.length c_0 ((x4.set (x3).toNat (SPoint.mk x2 x6.Y)).set (x3).toNat (SPoint.mk x7.X (w64 (x2 + 1))))]) [0] ?_ ⟨rfl, rfl, rfl, trivial⟩ (by decide) rfl
    refine JE.code ?_
    refine JX.region ?_
    refine JL.val (yl_move rfl) rfl ?_
    refine JL.val (yl_add rfl rfl) rfl ?_
    refine JL.val (yl_assign rfl) rfl ?_
    refine JL.nil ?_
    refine JE.code ?_
    refine JX.region ?_
    refine JL.val (yl_move rfl) rfl ?_
    refine JL.val (yl_add rfl rfl) rfl ?_
    refine JL.val (yl_assign rfl) rfl ?_
    refine JL.nil ?_
    refine JE.cont hres ?_
    exact fun a w h => ⟨(List.length_set.trans (List.length_set.trans l5)), h.weak ⟨rfl, rfl, rfl, trivial⟩ [0] (by decide) rfl⟩
  · refine JX.condF rfl hb ?_
    refine JX.exit ?_
    refine JE.qb rfl ?_
    obtain ⟨b1, hb1⟩ : ∃ b : Int × List SPoint, b = (x2, x4) := ⟨_, rfl⟩
    have hy1 : b1 = y1 := by rw [hb1]; exact hox1 _ (Option.some.inj hres).symm
    have hres := hresO1
    rw [← hy1] at hres
    have l8 : b1.2.length = q0.length := by subst hb1; exact l5
    refine JE.weak (env' := [(1, .int .i64 b1.1)]) (es' := [rowT 93 eSPoint a_0 q0.length c_0 b1.2]) [0] ?_ ⟨(by subst hb1; rfl), trivial⟩ (by decide) (by subst hb1; rfl)
    refine JE.code ?_
    refine JX.seq ?_
    refine JX.region ?_
    refine JL.val (yl_move rfl) rfl ?_
    refine JL.val (yl_assign rfl) rfl ?_
    refine JL.nil ?_
    refine JE.code ?_
    refine JX.ret ?_
    obtain rfl := Option.some.inj hres
    refine JE.ret (rs := [.tmp 4]) (vs := [.int .i64 b1.1]) rfl ⟨rfl, trivial⟩ ?_
    exact fun w' hb hs => ⟨_, _, _, ⟨l8, rfl, rfl, rfl⟩, rfl, hb, hs.sel [0] _ (by decide) rfl⟩

/- laws.markPointSS -/
def sh49_1 (q0 : List (List SPoint)) : (Int × Int × List (List SPoint)) → Option ((Int × Int × List (List SPoint)) ⊕ (Int × List (List SPoint)))
  | (x2, x3, x4) => bif decide (x3 < ((q0.length : Nat) : Int)) then (Option.bind (getI x4 x3) fun x6 => Option.bind (sh18 x6 x2) fun x10 => some (.inl (x10.1, w64 (x3 + 1), x4.set (x3).toNat x10.2))) else (some (.inr (x2, x4)))
def sh49 (q0 : List (List SPoint)) (q1 : Int) : Option (Int × List (List SPoint)) := Option.bind (iter (sh49_1 q0) (q1, 0, q0)) fun b1 => (some (b1.1, b1.2))
def T49 (a_0 : Option Addr) (n_0 c_0 : Nat) (h_0 : List Hd) (r : Int × List (List SPoint)) (v : Value) (es' rs : List Own) : Prop := r.2.length = n_0 ∧ Inn h_0 r.2 ∧ es' = [rowT 22 eHd a_0 n_0 c_0 h_0, innO 93 eSPoint none h_0 r.2] ∧ v = rets [.int .i64 r.1] ∧ rs = []
set_option maxRecDepth 100000 in
theorem c49 {w : World} {M : List Nat} {q0 : List (List SPoint)} {a_0 : Option Addr} {n_0 c_0 : Nat} {h_0 : List Hd} (i_0 : Inn h_0 q0) (l_0 : q0.length = n_0) {q1 : Int} (gs : Sep w.heap.size M w [rowT 22 eHd a_0 n_0 c_0 h_0, innO 93 eSPoint none h_0 q0]) {r : Int × List (List SPoint)} (hres : sh49 q0 q1 = some r) : Calls Go.Proofs.Try.prog 49 [.slice a_0 n_0 c_0, .int .i64 q1].toArray w (RetMs w M (T49 a_0 n_0 c_0 h_0 r)) := by
  subst l_0
  unfold sh49 at hres
  refine calls_of (n := 19) (M := M) (es := [rowT 22 eHd a_0 q0.length c_0 h_0, innO 93 eSPoint none h_0 q0]) Go.Proofs.Try.func49 rfl rfl rfl gs ?_
  refine JX.seq ?_
  refine JX.region ?_
  refine JL.val (yl_assign rfl) rfl ?_
  refine JL.nil ?_
  refine JE.code ?_
  refine JX.seq ?_
  refine JX.seq ?_
  refine JX.region ?_
  refine JL.val (yl_assign rfl) rfl ?_
  refine JL.nil ?_
  refine JE.code ?_
  refine JX.block ?_
  obtain ⟨y1, hy1, hresO1⟩ := bind_some hres
  refine JX.loop (I := fun (s1 : Int × Int × List (List SPoint)) aa ww => ∃ (hi1 : Inn h_0 s1.2.2), St w M 19 [(0, .slice a_0 q0.length c_0), (1, .int .i64 s1.1), (5, .int .i64 s1.2.1)] [rowT 22 eHd a_0 q0.length c_0 h_0, innO 93 eSPoint none h_0 s1.2.2] aa ww) (sh49_1 q0) hy1 (fun a w h => ⟨i_0, h.weak ⟨rfl, rfl, rfl, trivial⟩ [0, 1] (by decide) rfl⟩) ?_
  rintro ⟨x2, x3, x4⟩ o1 hres hox1 aa ww ⟨hi5, hS⟩
  refine (?_ : JX Go.Proofs.Try.prog w M 19 _ _ [(0, .slice a_0 q0.length c_0), (1, .int .i64 x2), (5, .int .i64 x3)] [rowT 22 eHd a_0 q0.length c_0 h_0, innO 93 eSPoint none h_0 x4] _) aa ww hS
  clear hS
  simp only [sh49_1] at hres
  refine JX.seq ?_
  refine JX.seq ?_
  refine JX.region ?_
  refine JL.val (yl_move rfl) rfl ?_
  refine JL.val (yl_move rfl) rfl ?_
  refine JL.val (yl_len_slice Go.Proofs.Try.underlying59 rfl) rfl ?_
  refine JL.val (yl_lss rfl rfl) rfl ?_
  refine JL.nil ?_
  refine JE.weak (env' := [(0, .slice a_0 q0.length c_0), (1, .int .i64 x2), (5, .int .i64 x3), (9, .bool (decide (x3 < ((q0.length : Nat) : Int))))]) (es' := [rowT 22 eHd a_0 q0.length c_0 h_0, innO 93 eSPoint none h_0 x4]) [0, 1] ?_ ⟨rfl, rfl, rfl, rfl, trivial⟩ (by decide) rfl
  refine JE.code ?_
  rcases cond_some hres with ⟨hb, hres⟩ | ⟨hb, hres⟩
  · refine JX.condT rfl hb ?_
    refine JX.skip ?_
    refine JE.code ?_
    refine JX.seq ?_
    refine JX.block ?_
    refine JX.region ?_
    refine JL.val (yl_move rfl) rfl ?_
    refine JL.val (yl_move rfl) rfl ?_
    obtain ⟨x6, hx6, hres⟩ := bind_some hres
    obtain ⟨ha7, hc8, hhx6⟩ := Inn.sub hi5 hx6
    refine JL.val (yl_idxT Go.Proofs.Try.underlying59 i22 i22s rfl rfl hhx6 (Inn.len i_0) (fun w hC => rd_row hC 0 rfl)) rfl ?_
    refine JL.val (yl_loadT0 (z := ⟨ha7, x6.length, hc8⟩) Go.Proofs.Try.underlying22 rfl rfl hhx6 (fun w hC => rd_row hC 0 rfl) rfl) rfl ?_
    refine JL.val (yl_move rfl) rfl ?_
    obtain ⟨x10, hx10, hres⟩ := bind_some hres
    refine JL.focus (es' := [rowT 22 eHd a_0 q0.length c_0 h_0]) [0, 1] (by decide) rfl hhx6 hx6 ?_
    refine JL.eff (ef_callm (T := T18 ha7 x6.length hc8 x10) 2 Go.Proofs.Try.func18 rfl (by kernel_rfl) rfl rfl (fun w fp hs => c18 hs rfl hx10)) rfl ?_
    rintro _ _ ⟨_, _, ⟨l12, rfl, rfl, rfl⟩, rfl⟩
    refine JL.unfocus0 (es' := [rowT 22 eHd a_0 q0.length c_0 h_0]) [0, 1, 2] (by decide) rfl hhx6 ?_
    refine JL.val (yl_assign rfl) rfl ?_
    refine JL.nil ?_
    refine JE.weak (env' := [(0, .slice a_0 q0.length c_0), (1, .int .i64 x10.1), (5, .int .i64 x3)]) (es' := [rowT 22 eHd a_0 q0.length c_0 h_0, innO 93 eSPoint none h_0 (x4.set (x3).toNat x10.2)]) [0, 1] ?_ ⟨rfl, rfl, rfl, trivial⟩ (by decide) rfl
    refine JE.code ?_
    refine JX.region ?_
    refine JL.val (yl_move rfl) rfl ?_
    refine JL.val (yl_add rfl rfl) rfl ?_
    refine JL.val (yl_assign rfl) rfl ?_
    refine JL.nil ?_
    refine JE.cont hres ?_
    exact fun a w h => ⟨(Inn.set0 hi5 hx6 l12), h.weak ⟨rfl, rfl, rfl, trivial⟩ [0, 1] (by decide) rfl⟩
  · refine JX.condF rfl hb ?_
    refine JX.exit ?_
    refine JE.qb rfl ?_
    obtain ⟨b1, hb1⟩ : ∃ b : Int × List (List SPoint), b = (x2, x4) := ⟨_, rfl⟩
    have hy1 : b1 = y1 := by rw [hb1]; exact hox1 _ (Option.some.inj hres).symm
    have hres := hresO1
    rw [← hy1] at hres
    have hi13 : Inn h_0 b1.2 := by subst hb1; exact hi5
    refine JE.weak (env' := [(1, .int .i64 b1.1)]) (es' := [rowT 22 eHd a_0 q0.length c_0 h_0, innO 93 eSPoint none h_0 b1.2]) [0, 1] ?_ ⟨(by subst hb1; rfl), trivial⟩ (by decide) (by subst hb1; rfl)
    refine JE.code ?_
    refine JX.seq ?_
    refine JX.region ?_
    refine JL.val (yl_move rfl) rfl ?_
    refine JL.val (yl_assign rfl) rfl ?_
    refine JL.nil ?_
    refine JE.code ?_
    refine JX.ret ?_
    obtain rfl := Option.some.inj hres
    refine JE.ret (rs := [.tmp 4]) (vs := [.int .i64 b1.1]) rfl ⟨rfl, trivial⟩ ?_
    exact fun w' hb hs => ⟨_, _, _, ⟨((Inn.len hi13).symm.trans (Inn.len i_0)), hi13, rfl, rfl, rfl⟩, rfl, hb, hs.sel [0, 1] _ (by decide) rfl⟩

/- laws.heldPanel -/
def sh55 (q0 : SPanel) (q1 : Int) : Option (Int) := Option.bind (sh35 q0.Breaks q1) fun x3 => bif decide (x3 < 0) then (some (-1)) else (some x3)
def T55 (r : Int) (v : Value) (rs : List Own) : Prop := v = rets [.int .i64 r] ∧ rs = []
set_option maxRecDepth 100000 in
theorem c55 {w : World} {q0 : SPanel} {a_0_2 : Option Addr} {n_0_2 c_0_2 : Nat} (g_0_2 : Rd w a_0_2 (eI64.fl q0.Breaks)) (l_0_2 : q0.Breaks.length = n_0_2) (k_0_2 : n_0_2 ≤ c_0_2) {q1 : Int} {r : Int} (hres : sh55 q0 q1 = some r) : Calls Go.Proofs.Try.prog 55 [.agg #[.int .i64 q0.W, .int .i64 q0.H, .slice a_0_2 n_0_2 c_0_2], .int .i64 q1].toArray w (Ret w (T55 r)) := by
  subst l_0_2
  unfold sh55 at hres
  refine calls_of (n := 12) (M := []) (es := []) Go.Proofs.Try.func55 rfl rfl rfl (Sep.nil _ _ _) ?_
  refine JX.seq ?_
  refine JX.region ?_
  refine JL.eff (ef_box rfl rfl) rfl ?_
  rintro _ _ ⟨g1, rfl, rfl⟩
  refine JL.val (yl_assign rfl) rfl ?_
  refine JL.nil ?_
  refine JE.code ?_
  refine JX.seq ?_
  refine JX.region ?_
  refine JL.val (yl_fieldAt (a := some _) Go.Proofs.Try.underlying39 rfl i33 i33n rfl rfl) rfl ?_
  refine JL.val (yl_load1 Go.Proofs.Try.underlying33 rfl rfl (fun w hC => rd_box hC 0 rfl) rfl) rfl ?_
  refine JL.val (yl_move rfl) rfl ?_
  obtain ⟨x3, hx3, hres⟩ := bind_some hres
  refine JL.eff (ef_call (T := T35 x3) Go.Proofs.Try.func35 rfl (by kernel_rfl) rfl (fun w hC => c35 (rd_arg g_0_2 hC) rfl k_0_2 hx3)) rfl ?_
  rintro _ _ ⟨_, ⟨rfl, rfl⟩, rfl⟩
  refine JL.val (yl_assign rfl) rfl ?_
  refine JL.nil ?_
  refine JE.weak (env' := [(1, .int .i64 x3)]) (es' := []) [] ?_ ⟨rfl, trivial⟩ (by decide) rfl
  refine JE.code ?_
  refine JX.seq ?_
  refine JX.seq ?_
  refine JX.region ?_
  refine JL.val (yl_move rfl) rfl ?_
  refine JL.val (yl_lss rfl rfl) rfl ?_
  refine JL.nil ?_
  refine JE.code ?_
  rcases cond_some hres with ⟨hb, hres⟩ | ⟨hb, hres⟩
  · refine JX.condT rfl hb ?_
    refine JX.seq ?_
    refine JX.region ?_
    refine JL.val (yl_assign rfl) rfl ?_
    refine JL.nil ?_
    refine JE.code ?_
    refine JX.ret ?_
    obtain rfl := Option.some.inj hres
    refine JE.ret (rs := [.tmp 4]) (vs := [.int .i64 (-1)]) rfl ⟨rfl, trivial⟩ ?_
    exact fun w' hb hs => ⟨_, _, ⟨rfl, rfl⟩, rfl, hb, hs.sel [] _ (by decide) rfl⟩
  · refine JX.condF rfl hb ?_
    refine JX.skip ?_
    refine JE.code ?_
    refine JX.seq ?_
    refine JX.region ?_
    refine JL.val (yl_move rfl) rfl ?_
    refine JL.val (yl_assign rfl) rfl ?_
    refine JL.nil ?_
    refine JE.code ?_
    refine JX.ret ?_
    obtain rfl := Option.some.inj hres
    refine JE.ret (rs := [.tmp 4]) (vs := [.int .i64 x3]) rfl ⟨rfl, trivial⟩ ?_
    exact fun w' hb hs => ⟨_, _, ⟨rfl, rfl⟩, rfl, hb, hs.sel [] _ (by decide) rfl⟩

/- laws.szPointS -/
def sh51 (q0 : List SPoint) (q1 : Int) : Option (Int) := bif decide ((w64 (q1 - (q0.length : Int))) < 0) then (some (-1)) else (some (w64 (q1 - (q0.length : Int))))
def T51 (r : Int) (v : Value) (rs : List Own) : Prop := v = rets [.int .i64 r] ∧ rs = []
set_option maxRecDepth 100000 in
theorem c51 {w : World} {q0 : List SPoint} {a_0 : Option Addr} {n_0 c_0 : Nat} (g_0 : Rd w a_0 (eSPoint.fl q0)) (l_0 : q0.length = n_0) (k_0 : n_0 ≤ c_0) {q1 : Int} {r : Int} (hres : sh51 q0 q1 = some r) : Calls Go.Proofs.Try.prog 51 [.slice a_0 n_0 c_0, .int .i64 q1].toArray w (Ret w (T51 r)) := by
  subst l_0
  unfold sh51 at hres
  refine calls_of (n := 12) (M := []) (es := []) Go.Proofs.Try.func51 rfl rfl rfl (Sep.nil _ _ _) ?_
  refine JX.seq ?_
  refine JX.region ?_
  refine JL.val (yl_assign rfl) rfl ?_
  refine JL.nil ?_
  refine JE.code ?_
  refine JX.seq ?_
  refine JX.region ?_
  refine JL.val (yl_move rfl) rfl ?_
  refine JL.val (yl_move rfl) rfl ?_
  refine JL.val (yl_len_slice Go.Proofs.Try.underlying65 rfl) rfl ?_
  refine JL.val (yl_sub rfl rfl) rfl ?_
  refine JL.val (yl_assign rfl) rfl ?_
  refine JL.nil ?_
  refine JE.weak (env' := [(1, .int .i64 (w64 (q1 - (q0.length : Int))))]) (es' := []) [] ?_ ⟨rfl, trivial⟩ (by decide) rfl
  refine JE.code ?_
  refine JX.seq ?_
  refine JX.seq ?_
  refine JX.region ?_
  refine JL.val (yl_move rfl) rfl ?_
  refine JL.val (yl_lss rfl rfl) rfl ?_
  refine JL.nil ?_
  refine JE.code ?_
  rcases cond_some hres with ⟨hb, hres⟩ | ⟨hb, hres⟩
  · refine JX.condT rfl hb ?_
    refine JX.seq ?_
    refine JX.region ?_
    refine JL.val (yl_assign rfl) rfl ?_
    refine JL.nil ?_
    refine JE.code ?_
    refine JX.ret ?_
    obtain rfl := Option.some.inj hres
    refine JE.ret (rs := [.tmp 4]) (vs := [.int .i64 (-1)]) rfl ⟨rfl, trivial⟩ ?_
    exact fun w' hb hs => ⟨_, _, ⟨rfl, rfl⟩, rfl, hb, hs.sel [] _ (by decide) rfl⟩
  · refine JX.condF rfl hb ?_
    refine JX.skip ?_
    refine JE.code ?_
    refine JX.seq ?_
    refine JX.region ?_
    refine JL.val (yl_move rfl) rfl ?_
    refine JL.val (yl_assign rfl) rfl ?_
    refine JL.nil ?_
    refine JE.code ?_
    refine JX.ret ?_
    obtain rfl := Option.some.inj hres
    refine JE.ret (rs := [.tmp 4]) (vs := [.int .i64 (w64 (q1 - (q0.length : Int)))]) rfl ⟨rfl, trivial⟩ ?_
    exact fun w' hb hs => ⟨_, _, ⟨rfl, rfl⟩, rfl, hb, hs.sel [] _ (by decide) rfl⟩

/- laws.szPointSS -/
def sh58_1 (q0 : List (List SPoint)) : (Int × Int) → Option ((Int × Int) ⊕ (Int ⊕ Int))
  | (x1, x2) => bif decide (x2 < ((q0.length : Nat) : Int)) then (Option.bind (getI q0 x2) fun x3 => Option.bind (sh51 x3 x1) fun x7 => bif decide (x7 < 0) then (some (.inr (.inr (-1)))) else (some (.inl (x7, w64 (x2 + 1))))) else (some (.inr (.inl x1)))
def sh58 (q0 : List (List SPoint)) (q1 : Int) : Option (Int) := bif decide ((w64 (q1 - ((q0.length : Nat) : Int))) < 0) then (some (-1)) else (Option.bind (iter (sh58_1 q0) (w64 (q1 - ((q0.length : Nat) : Int)), 0)) fun y1 => elimS y1 (fun r => some r) fun b1 => (some b1))
def T58 (r : Int) (v : Value) (rs : List Own) : Prop := v = rets [.int .i64 r] ∧ rs = []
set_option maxRecDepth 100000 in
theorem c58 {w : World} {q0 : List (List SPoint)} {a_0 : Option Addr} {n_0 c_0 : Nat} {h_0 : List Hd} (g_0 : Rd w a_0 (eHd.fl h_0)) (r_0 : RdI w eSPoint h_0 q0) (i_0 : Inn h_0 q0) (l_0 : q0.length = n_0) (k_0 : n_0 ≤ c_0) {q1 : Int} {r : Int} (hres : sh58 q0 q1 = some r) : Calls Go.Proofs.Try.prog 58 [.slice a_0 n_0 c_0, .int .i64 q1].toArray w (Ret w (T58 r)) := by
  subst l_0
  unfold sh58 at hres
  refine calls_of (n := 27) (M := []) (es := []) Go.Proofs.Try.func58 rfl rfl rfl (Sep.nil _ _ _) ?_
  refine JX.seq ?_
  refine JX.region ?_
  refine JL.val (yl_assign rfl) rfl ?_
  refine JL.nil ?_
  refine JE.code ?_
  refine JX.seq ?_
  refine JX.region ?_
  refine JL.val (yl_move rfl) rfl ?_
  refine JL.val (yl_move rfl) rfl ?_
  refine JL.val (yl_len_slice Go.Proofs.Try.underlying72 rfl) rfl ?_
  refine JL.val (yl_sub rfl rfl) rfl ?_
  refine JL.val (yl_assign rfl) rfl ?_
  refine JL.nil ?_
  refine JE.weak (env' := [(0, .slice a_0 q0.length c_0), (1, .int .i64 (w64 (q1 - ((q0.length : Nat) : Int))))]) (es' := []) [] ?_ ⟨rfl, rfl, trivial⟩ (by decide) rfl
  refine JE.code ?_
  refine JX.seq ?_
  refine JX.seq ?_
  refine JX.region ?_
  refine JL.val (yl_move rfl) rfl ?_
  refine JL.val (yl_lss rfl rfl) rfl ?_
  refine JL.nil ?_
  refine JE.code ?_
  rcases cond_some hres with ⟨hb, hres⟩ | ⟨hb, hres⟩
  · refine JX.condT rfl hb ?_
    refine JX.seq ?_
    refine JX.region ?_
    refine JL.val (yl_assign rfl) rfl ?_
    refine JL.nil ?_
    refine JE.code ?_
    refine JX.ret ?_
    obtain rfl := Option.some.inj hres
    refine JE.ret (rs := [.tmp 4]) (vs := [.int .i64 (-1)]) rfl ⟨rfl, trivial⟩ ?_
    exact fun w' hb hs => ⟨_, _, ⟨rfl, rfl⟩, rfl, hb, hs.sel [] _ (by decide) rfl⟩
  · refine JX.condF rfl hb ?_
    refine JX.skip ?_
    refine JE.code ?_
    refine JX.seq ?_
    refine JX.seq ?_
    refine JX.region ?_
    refine JL.val (yl_assign rfl) rfl ?_
    refine JL.nil ?_
    refine JE.code ?_
    refine JX.block ?_
    obtain ⟨y1, hy1, hresO1⟩ := bind_some hres
    refine JX.loop (I := fun (s1 : Int × Int) aa ww => St w [] 27 [(0, .slice a_0 q0.length c_0), (1, .int .i64 s1.1), (5, .int .i64 s1.2)] [] aa ww) (sh58_1 q0) hy1 (fun a w h => h.weak ⟨rfl, rfl, rfl, trivial⟩ [] (by decide) rfl) ?_
    rintro ⟨x1, x2⟩ o1 hres hox1 aa ww hS
    refine (?_ : JX Go.Proofs.Try.prog w [] 27 _ _ [(0, .slice a_0 q0.length c_0), (1, .int .i64 x1), (5, .int .i64 x2)] [] _) aa ww hS
    clear hS
    simp only [sh58_1] at hres
    refine JX.seq ?_
    refine JX.seq ?_
    refine JX.region ?_
    refine JL.val (yl_move rfl) rfl ?_
    refine JL.val (yl_move rfl) rfl ?_
    refine JL.val (yl_len_slice Go.Proofs.Try.underlying72 rfl) rfl ?_
    refine JL.val (yl_lss rfl rfl) rfl ?_
    refine JL.nil ?_
    refine JE.weak (env' := [(0, .slice a_0 q0.length c_0), (1, .int .i64 x1), (5, .int .i64 x2), (15, .bool (decide (x2 < ((q0.length : Nat) : Int))))]) (es' := []) [] ?_ ⟨rfl, rfl, rfl, rfl, trivial⟩ (by decide) rfl
    refine JE.code ?_
    rcases cond_some hres with ⟨hb, hres⟩ | ⟨hb, hres⟩
    · refine JX.condT rfl hb ?_
      refine JX.skip ?_
      refine JE.code ?_
      refine JX.seq ?_
      refine JX.block ?_
      refine JX.seq ?_
      refine JX.region ?_
      refine JL.val (yl_move rfl) rfl ?_
      refine JL.val (yl_move rfl) rfl ?_
      obtain ⟨x3, hx3, hres⟩ := bind_some hres
      obtain ⟨ha4, hc5, hhx3⟩ := Inn.sub i_0 hx3
      refine JL.val (yl_idxT Go.Proofs.Try.underlying72 i65 i65s rfl rfl hhx3 (Inn.len i_0) (fun w hC => rd_arg g_0 hC)) rfl ?_
      refine JL.val (yl_loadT0 (z := ⟨ha4, x3.length, hc5⟩) Go.Proofs.Try.underlying65 rfl rfl hhx3 (fun w hC => rd_arg g_0 hC) rfl) rfl ?_
      refine JL.val (yl_move rfl) rfl ?_
      obtain ⟨x7, hx7, hres⟩ := bind_some hres
      refine JL.eff (ef_call (T := T51 x7) Go.Proofs.Try.func51 rfl (by kernel_rfl) rfl (fun w hC => c51 (rd_arg (RdI.sub r_0 hx3 hhx3) hC) rfl (RdI.ln r_0 hx3 hhx3) hx7)) rfl ?_
      rintro _ _ ⟨_, ⟨rfl, rfl⟩, rfl⟩
      refine JL.val (yl_assign rfl) rfl ?_
      refine JL.nil ?_
      refine JE.weak (env' := [(0, .slice a_0 q0.length c_0), (1, .int .i64 x7), (5, .int .i64 x2)]) (es' := []) [] ?_ ⟨rfl, rfl, rfl, trivial⟩ (by decide) rfl
      refine JE.code ?_
      refine JX.seq ?_
      refine JX.region ?_
      refine JL.val (yl_move rfl) rfl ?_
      refine JL.val (yl_lss rfl rfl) rfl ?_
      refine JL.nil ?_
      refine JE.code ?_
      rcases cond_some hres with ⟨hb, hres⟩ | ⟨hb, hres⟩
      · refine JX.condT rfl hb ?_
        refine JX.seq ?_
        refine JX.region ?_
        refine JL.val (yl_assign rfl) rfl ?_
        refine JL.nil ?_
        refine JE.code ?_
        refine JX.ret ?_
        refine JE.qbr ?_
        refine JE.qbr ?_
        have hres := elimS_inr hresO1 (hox1 _ (Option.some.inj hres).symm)
        obtain rfl := Option.some.inj hres
        refine JE.ret (rs := [.tmp 4]) (vs := [.int .i64 (-1)]) rfl ⟨rfl, trivial⟩ ?_
        exact fun w' hb hs => ⟨_, _, ⟨rfl, rfl⟩, rfl, hb, hs.sel [] _ (by decide) rfl⟩
      · refine JX.condF rfl hb ?_
        refine JX.skip ?_
        refine JE.code ?_
        refine JX.region ?_
        refine JL.val (yl_move rfl) rfl ?_
        refine JL.val (yl_add rfl rfl) rfl ?_
        refine JL.val (yl_assign rfl) rfl ?_
        refine JL.nil ?_
        refine JE.cont hres ?_
        exact fun a w h => h.weak ⟨rfl, rfl, rfl, trivial⟩ [] (by decide) rfl
    · refine JX.condF rfl hb ?_
      refine JX.exit ?_
      refine JE.qb rfl ?_
      obtain ⟨b1, hb1⟩ : ∃ b : Int, b = x1 := ⟨_, rfl⟩
      have hy1 : Sum.inl b1 = y1 := by rw [hb1]; exact hox1 _ (Option.some.inj hres).symm
      have hres := elimS_inl hresO1 hy1
      refine JE.weak (env' := [(1, .int .i64 b1)]) (es' := []) [] ?_ ⟨(by subst hb1; rfl), trivial⟩ (by decide) (by subst hb1; rfl)
      refine JE.code ?_
      refine JX.seq ?_
      refine JX.region ?_
      refine JL.val (yl_move rfl) rfl ?_
      refine JL.val (yl_assign rfl) rfl ?_
      refine JL.nil ?_
      refine JE.code ?_
      refine JX.ret ?_
      obtain rfl := Option.some.inj hres
      refine JE.ret (rs := [.tmp 4]) (vs := [.int .i64 b1]) rfl ⟨rfl, trivial⟩ ?_
      exact fun w' hb hs => ⟨_, _, ⟨rfl, rfl⟩, rfl, hb, hs.sel [] _ (by decide) rfl⟩

/- spec.l00In -/
def sh115 (q0 : Int) (q1 : Int) (q2 : Int) : Option (Bool) := some ((decide (q1 ≤ q0)) && (decide (q0 ≤ q2)))
def T115 (r : Bool) (v : Value) (rs : List Own) : Prop := v = rets [.bool r] ∧ rs = []
set_option maxRecDepth 100000 in
theorem c115 {w : World} {q0 : Int} {q1 : Int} {q2 : Int} {r : Bool} (hres : sh115 q0 q1 q2 = some r) : Calls Go.Proofs.Try.prog 115 [.int .i64 q0, .int .i64 q1, .int .i64 q2].toArray w (Ret w (T115 r)) := by
  unfold sh115 at hres
  refine calls_of (n := 15) (M := []) (es := []) Go.Proofs.Try.func115 rfl rfl rfl (Sep.nil _ _ _) ?_
  refine JX.seq ?_
  refine JX.region ?_
  refine JL.val (yl_assign rfl) rfl ?_
  refine JL.nil ?_
  refine JE.code ?_
  refine JX.seq ?_
  refine JX.region ?_
  refine JL.val (yl_move rfl) rfl ?_
  refine JL.val (yl_move rfl) rfl ?_
  refine JL.val (yl_geq rfl rfl) rfl ?_
  refine JL.val (yl_move rfl) rfl ?_
  refine JL.cut (K := fun J => J [(14, .bool ((decide (q1 ≤ q0)) && (decide (q0 ≤ q2))))] []) 4 ?_ ?_
  · refine JL.val (yl_assign rfl) rfl ?_
    refine JL.nil ?_
    refine JE.weak (env' := [(6, .bool ((decide (q1 ≤ q0)) && (decide (q0 ≤ q2))))]) (es' := []) [] ?_ ⟨rfl, trivial⟩ (by decide) rfl
    refine JE.code ?_
    refine JX.ret ?_
    obtain rfl := Option.some.inj hres
    refine JE.ret (rs := [.tmp 6]) (vs := [.bool ((decide (q1 ≤ q0)) && (decide (q0 ≤ q2)))]) rfl ⟨rfl, trivial⟩ ?_
    exact fun w' hb hs => ⟨_, _, ⟨rfl, rfl⟩, rfl, hb, hs.sel [] _ (by decide) rfl⟩
  · intro K
    rcases Bool.eq_false_or_eq_true (decide (q1 ≤ q0)) with hb | hb
    · refine JL.set (d := 10) (v := .bool true) (congrArg (fun b => some (Value.bool b)) hb) ?_
      refine JL.gval rfl rfl (yl_move rfl) rfl ?_
      refine JL.gval rfl rfl (yl_move rfl) rfl ?_
      refine JL.gval rfl rfl (yl_leq rfl rfl) rfl ?_
      refine JL.val (yl_pick_true rfl rfl) rfl ?_
      exact JL.weak [] K ⟨(by rw [hb]; rfl), trivial⟩ (by decide) rfl
    · refine JL.set (d := 10) (v := .bool false) (congrArg (fun b => some (Value.bool b)) hb) ?_
      refine JL.gskip rfl rfl rfl rfl ?_
      refine JL.gskip rfl rfl rfl rfl ?_
      refine JL.gskip rfl rfl rfl rfl ?_
      refine JL.val (yl_pick_false rfl rfl) rfl ?_
      exact JL.weak [] K ⟨(by rw [hb]; rfl), trivial⟩ (by decide) rfl

/- spec.l19Ok -/
def sh79_1 (q0 : List SPoint) : Int → Option (Int ⊕ (Unit ⊕ Bool))
  | x1 => bif decide (x1 < (q0.length : Int)) then (Option.bind (getI q0 x1) fun x2 => Option.bind (sh115 x2.X 0 2000) fun x3 => Option.bind (bif !x3 then (some true) else (Option.bind (getI q0 x1) fun x5 => Option.bind (sh115 x5.Y 0 2000) fun x6 => some !x6)) fun cb4 => (bif cb4 then (some (.inr (.inr false))) else (some (.inl (w64 (x1 + 1)))))) else (some (.inr (.inl ())))
def sh79 (q0 : List SPoint) : Option (Bool) := Option.bind (iter (sh79_1 q0) 0) fun y1 => elimS y1 (fun r => some r) fun b1 => (Option.bind (sh115 (q0.length : Int) 1 60) fun x7 => some x7)
def T79 (r : Bool) (v : Value) (rs : List Own) : Prop := v = rets [.bool r] ∧ rs = []
set_option maxRecDepth 100000 in
theorem c79 {w : World} {q0 : List SPoint} {a_0 : Option Addr} {n_0 c_0 : Nat} (g_0 : Rd w a_0 (eSPoint.fl q0)) (l_0 : q0.length = n_0) (k_0 : n_0 ≤ c_0) {r : Bool} (hres : sh79 q0 = some r) : Calls Go.Proofs.Try.prog 79 [.slice a_0 n_0 c_0].toArray w (Ret w (T79 r)) := by
  subst l_0
  unfold sh79 at hres
  refine calls_of (n := 29) (M := []) (es := []) Go.Proofs.Try.func79 rfl rfl rfl (Sep.nil _ _ _) ?_
  refine JX.seq ?_
  refine JX.region ?_
  refine JL.val (yl_assign rfl) rfl ?_
  refine JL.nil ?_
  refine JE.code ?_
  refine JX.seq ?_
  refine JX.seq ?_
  refine JX.region ?_
  refine JL.val (yl_assign rfl) rfl ?_
  refine JL.nil ?_
  refine JE.code ?_
  refine JX.block ?_
  obtain ⟨y1, hy1, hresO1⟩ := bind_some hres
  refine JX.loop (I := fun (s1 : Int) aa ww => St w [] 29 [(0, .slice a_0 q0.length c_0), (3, .int .i64 s1)] [] aa ww) (sh79_1 q0) hy1 (fun a w h => h.weak ⟨rfl, rfl, trivial⟩ [] (by decide) rfl) ?_
  rintro x1 o1 hres hox1 aa ww hS
  refine (?_ : JX Go.Proofs.Try.prog w [] 29 _ _ [(0, .slice a_0 q0.length c_0), (3, .int .i64 x1)] [] _) aa ww hS
  clear hS
  unfold sh79_1 at hres
  refine JX.seq ?_
  refine JX.seq ?_
  refine JX.region ?_
  refine JL.val (yl_move rfl) rfl ?_
  refine JL.val (yl_move rfl) rfl ?_
  refine JL.val (yl_len_slice Go.Proofs.Try.underlying22 rfl) rfl ?_
  refine JL.val (yl_lss rfl rfl) rfl ?_
  refine JL.nil ?_
  refine JE.weak (env' := [(0, .slice a_0 q0.length c_0), (3, .int .i64 x1), (7, .bool (decide (x1 < (q0.length : Int))))]) (es' := []) [] ?_ ⟨rfl, rfl, rfl, trivial⟩ (by decide) rfl
  refine JE.code ?_
  rcases cond_some hres with ⟨hb, hres⟩ | ⟨hb, hres⟩
  · refine JX.condT rfl hb ?_
    refine JX.skip ?_
    refine JE.code ?_
    refine JX.seq ?_
    refine JX.block ?_
    refine JX.seq ?_
    refine JX.region ?_
    refine JL.val (yl_move rfl) rfl ?_
    refine JL.val (yl_move rfl) rfl ?_
    obtain ⟨x2, hx2, hres⟩ := bind_some hres
    refine JL.val (yl_idxT Go.Proofs.Try.underlying22 i93 i93s rfl rfl hx2 rfl (fun w hC => rd_arg g_0 hC)) rfl ?_
    refine JL.val (yl_fieldAtT Go.Proofs.Try.underlying93 rfl i2 i2n rfl hx2 (fun w hC => rd_arg g_0 hC)) rfl ?_
    refine JL.val (yl_loadT1 Go.Proofs.Try.underlying2 rfl rfl hx2 (fun w hC => rd_arg g_0 hC) rfl) rfl ?_
    obtain ⟨x3, hx3, hres⟩ := bind_some hres
    refine JL.eff (ef_call (T := T115 x3) Go.Proofs.Try.func115 rfl (by kernel_rfl) rfl (fun w hC => c115  hx3)) rfl ?_
    rintro _ _ ⟨_, ⟨rfl, rfl⟩, rfl⟩
    refine JL.val (yl_not rfl) rfl ?_
    refine JL.val (yl_move rfl) rfl ?_
    obtain ⟨cb4, hcb4, hres⟩ := bind_some hres
    refine JL.cut (K := fun J => J [(0, .slice a_0 q0.length c_0), (3, .int .i64 x1), (25, .bool cb4)] []) 8 ?_ ?_
    · refine JL.nil ?_
      refine JE.weak (env' := [(0, .slice a_0 q0.length c_0), (3, .int .i64 x1), (25, .bool cb4)]) (es' := []) [] ?_ ⟨rfl, rfl, rfl, trivial⟩ (by decide) rfl
      refine JE.code ?_
      rcases cond_some hres with ⟨hb, hres⟩ | ⟨hb, hres⟩
      · refine JX.condT rfl hb ?_
        refine JX.seq ?_
        refine JX.region ?_
        refine JL.val (yl_assign rfl) rfl ?_
        refine JL.nil ?_
        refine JE.code ?_
        refine JX.ret ?_
        refine JE.qbr ?_
        refine JE.qbr ?_
        have hres := elimS_inr hresO1 (hox1 _ (Option.some.inj hres).symm)
        obtain rfl := Option.some.inj hres
        refine JE.ret (rs := [.tmp 2]) (vs := [.bool false]) rfl ⟨rfl, trivial⟩ ?_
        exact fun w' hb hs => ⟨_, _, ⟨rfl, rfl⟩, rfl, hb, hs.sel [] _ (by decide) rfl⟩
      · refine JX.condF rfl hb ?_
        refine JX.skip ?_
        refine JE.code ?_
        refine JX.region ?_
        refine JL.val (yl_move rfl) rfl ?_
        refine JL.val (yl_add rfl rfl) rfl ?_
        refine JL.val (yl_assign rfl) rfl ?_
        refine JL.nil ?_
        refine JE.cont hres ?_
        exact fun a w h => h.weak ⟨rfl, rfl, trivial⟩ [] (by decide) rfl
    · intro K
      rcases cond_some hcb4 with ⟨hb, hres⟩ | ⟨hb, hres⟩
      · refine JL.set (d := 17) (v := .bool true) (congrArg (fun b => some (Value.bool b)) hb) ?_
        refine JL.gskip rfl rfl rfl rfl ?_
        refine JL.gskip rfl rfl rfl rfl ?_
        refine JL.gskip rfl rfl rfl rfl ?_
        refine JL.gskip rfl rfl rfl rfl ?_
        refine JL.gskip rfl rfl rfl rfl ?_
        refine JL.gskip rfl rfl rfl rfl ?_
        refine JL.gskip rfl rfl rfl rfl ?_
        refine JL.val (yl_pick_true rfl rfl) rfl ?_
        have he := Option.some.inj hres
        exact JL.weak [] K ⟨rfl, rfl, (by rw [← he]; rfl), trivial⟩ (by decide) rfl
      · refine JL.set (d := 17) (v := .bool false) (congrArg (fun b => some (Value.bool b)) hb) ?_
        refine JL.gval rfl rfl (yl_move rfl) rfl ?_
        refine JL.gval rfl rfl (yl_move rfl) rfl ?_
        obtain ⟨x5, hx5, hres⟩ := bind_some hres
        refine JL.gval rfl rfl (yl_idxT Go.Proofs.Try.underlying22 i93 i93s rfl rfl hx5 rfl (fun w hC => rd_arg g_0 hC)) rfl ?_
        refine JL.gval rfl rfl (yl_fieldAtT Go.Proofs.Try.underlying93 rfl i2 i2n rfl hx5 (fun w hC => rd_arg g_0 hC)) rfl ?_
        refine JL.gval rfl rfl (yl_loadT1 Go.Proofs.Try.underlying2 rfl rfl hx5 (fun w hC => rd_arg g_0 hC) rfl) rfl ?_
        obtain ⟨x6, hx6, hres⟩ := bind_some hres
        refine JL.geff rfl rfl (ef_call (T := T115 x6) Go.Proofs.Try.func115 rfl (by kernel_rfl) rfl (fun w hC => c115  hx6)) rfl ?_
        rintro _ _ ⟨_, ⟨rfl, rfl⟩, rfl⟩
        refine JL.gval rfl rfl (yl_not rfl) rfl ?_
        refine JL.val (yl_pick_false rfl rfl) rfl ?_
        have he := Option.some.inj hres
        exact JL.weak [] K ⟨rfl, rfl, (by rw [← he]; rfl), trivial⟩ (by decide) rfl
  · refine JX.condF rfl hb ?_
    refine JX.exit ?_
    refine JE.qb rfl ?_
    obtain ⟨b1, hb1⟩ : ∃ b : Unit, b = () := ⟨_, rfl⟩
    have hy1 : Sum.inl b1 = y1 := by rw [hb1]; exact hox1 _ (Option.some.inj hres).symm
    have hres := elimS_inl hresO1 hy1
    refine JE.weak (env' := [(0, .slice a_0 q0.length c_0)]) (es' := []) [] ?_ ⟨(by subst hb1; rfl), trivial⟩ (by decide) (by subst hb1; rfl)
    refine JE.code ?_
    refine JX.seq ?_
    refine JX.region ?_
    refine JL.val (yl_move rfl) rfl ?_
    refine JL.val (yl_len_slice Go.Proofs.Try.underlying22 rfl) rfl ?_
    obtain ⟨x7, hx7, hres⟩ := bind_some hres
    refine JL.eff (ef_call (T := T115 x7) Go.Proofs.Try.func115 rfl (by kernel_rfl) rfl (fun w hC => c115  hx7)) rfl ?_
    rintro _ _ ⟨_, ⟨rfl, rfl⟩, rfl⟩
    refine JL.val (yl_assign rfl) rfl ?_
    refine JL.nil ?_
    refine JE.weak (env' := [(2, .bool x7)]) (es' := []) [] ?_ ⟨rfl, trivial⟩ (by decide) rfl
    refine JE.code ?_
    refine JX.ret ?_
    obtain rfl := Option.some.inj hres
    refine JE.ret (rs := [.tmp 2]) (vs := [.bool x7]) rfl ⟨rfl, trivial⟩ ?_
    exact fun w' hb hs => ⟨_, _, ⟨rfl, rfl⟩, rfl, hb, hs.sel [] _ (by decide) rfl⟩

/- spec.l02Side -/
def sh147 (q0 : Int) : Option (Bool) := Option.bind (sh115 q0 1 8) fun x1 => some x1
def T147 (r : Bool) (v : Value) (rs : List Own) : Prop := v = rets [.bool r] ∧ rs = []
set_option maxRecDepth 100000 in
theorem c147 {w : World} {q0 : Int} {r : Bool} (hres : sh147 q0 = some r) : Calls Go.Proofs.Try.prog 147 [.int .i64 q0].toArray w (Ret w (T147 r)) := by
  unfold sh147 at hres
  refine calls_of (n := 5) (M := []) (es := []) Go.Proofs.Try.func147 rfl rfl rfl (Sep.nil _ _ _) ?_
  refine JX.seq ?_
  refine JX.region ?_
  refine JL.val (yl_assign rfl) rfl ?_
  refine JL.nil ?_
  refine JE.code ?_
  refine JX.seq ?_
  refine JX.region ?_
  refine JL.val (yl_move rfl) rfl ?_
  obtain ⟨x1, hx1, hres⟩ := bind_some hres
  refine JL.eff (ef_call (T := T115 x1) Go.Proofs.Try.func115 rfl (by kernel_rfl) rfl (fun w hC => c115  hx1)) rfl ?_
  rintro _ _ ⟨_, ⟨rfl, rfl⟩, rfl⟩
  refine JL.val (yl_assign rfl) rfl ?_
  refine JL.nil ?_
  refine JE.code ?_
  refine JX.ret ?_
  obtain rfl := Option.some.inj hres
  refine JE.ret (rs := [.tmp 2]) (vs := [.bool x1]) rfl ⟨rfl, trivial⟩ ?_
  exact fun w' hb hs => ⟨_, _, ⟨rfl, rfl⟩, rfl, hb, hs.sel [] _ (by decide) rfl⟩

/- spec.l02Inner -/
def sh148 (q0 : Int) (q1 : Int) : Option (Int) := some (w64 ((w64 (q0 * (w64 (q1 - 1)))) + (w64 (q1 * (w64 (q0 - 1))))))
def T148 (r : Int) (v : Value) (rs : List Own) : Prop := v = rets [.int .i64 r] ∧ rs = []
set_option maxRecDepth 100000 in
theorem c148 {w : World} {q0 : Int} {q1 : Int} {r : Int} (hres : sh148 q0 q1 = some r) : Calls Go.Proofs.Try.prog 148 [.int .i64 q0, .int .i64 q1].toArray w (Ret w (T148 r)) := by
  unfold sh148 at hres
  refine calls_of (n := 14) (M := []) (es := []) Go.Proofs.Try.func148 rfl rfl rfl (Sep.nil _ _ _) ?_
  refine JX.seq ?_
  refine JX.region ?_
  refine JL.val (yl_assign rfl) rfl ?_
  refine JL.nil ?_
  refine JE.code ?_
  refine JX.seq ?_
  refine JX.region ?_
  refine JL.val (yl_move rfl) rfl ?_
  refine JL.val (yl_move rfl) rfl ?_
  refine JL.val (yl_sub rfl rfl) rfl ?_
  refine JL.val (yl_mul rfl rfl) rfl ?_
  refine JL.val (yl_move rfl) rfl ?_
  refine JL.val (yl_move rfl) rfl ?_
  refine JL.val (yl_sub rfl rfl) rfl ?_
  refine JL.val (yl_mul rfl rfl) rfl ?_
  refine JL.val (yl_add rfl rfl) rfl ?_
  refine JL.val (yl_assign rfl) rfl ?_
  refine JL.nil ?_
  refine JE.weak (env' := [(4, .int .i64 (w64 ((w64 (q0 * (w64 (q1 - 1)))) + (w64 (q1 * (w64 (q0 - 1)))))))]) (es' := []) [] ?_ ⟨rfl, trivial⟩ (by decide) rfl
  refine JE.code ?_
  refine JX.ret ?_
  obtain rfl := Option.some.inj hres
  refine JE.ret (rs := [.tmp 4]) (vs := [.int .i64 (w64 ((w64 (q0 * (w64 (q1 - 1)))) + (w64 (q1 * (w64 (q0 - 1))))))]) rfl ⟨rfl, trivial⟩ ?_
  exact fun w' hb hs => ⟨_, _, ⟨rfl, rfl⟩, rfl, hb, hs.sel [] _ (by decide) rfl⟩

/- spec.l02Ok -/
def sh96_1 (q0 : SPanel) : Int → Option (Int ⊕ (Unit ⊕ Bool))
  | x7 => bif decide (x7 < (q0.Breaks.length : Int)) then (Option.bind (getI q0.Breaks x7) fun x8 => Option.bind (sh115 x8 0 2) fun x9 => bif !x9 then (some (.inr (.inr false))) else (some (.inl (w64 (x7 + 1))))) else (some (.inr (.inl ())))
def sh96 (q0 : SPanel) : Option (Bool) := Option.bind (sh147 q0.W) fun x2 => Option.bind (bif !x2 then (some true) else (Option.bind (sh147 q0.H) fun x4 => some !x4)) fun cb3 => (Option.bind (bif cb3 then (some true) else (Option.bind (sh148 q0.W q0.H) fun x6 => some ((q0.Breaks.length : Int) != x6))) fun cb5 => (bif cb5 then (some false) else (Option.bind (iter (sh96_1 q0) 0) fun y1 => elimS y1 (fun r => some r) fun b1 => (some true))))
def T96 (r : Bool) (v : Value) (rs : List Own) : Prop := v = rets [.bool r] ∧ rs = []
set_option maxRecDepth 100000 in
theorem c96 {w : World} {q0 : SPanel} {a_0 : Option Addr} {n_0 : Nat} {a_0_2 : Option Addr} {n_0_2 c_0_2 : Nat} (g_0 : RdAt w a_0 n_0 [.int .i64 q0.W, .int .i64 q0.H, .slice a_0_2 n_0_2 c_0_2]) (g_0_2 : Rd w a_0_2 (eI64.fl q0.Breaks)) (l_0_2 : q0.Breaks.length = n_0_2) (k_0_2 : n_0_2 ≤ c_0_2) {r : Bool} (hres : sh96 q0 = some r) : Calls Go.Proofs.Try.prog 96 [ptrAt a_0 n_0].toArray w (Ret w (T96 r)) := by
  subst l_0_2
  obtain ⟨b_0, e_0, g_0⟩ := g_0.norm0
  rw [e_0]
  unfold sh96 at hres
  refine calls_of (n := 53) (M := []) (es := []) Go.Proofs.Try.func96 rfl rfl rfl (Sep.nil _ _ _) ?_
  refine JX.seq ?_
  refine JX.region ?_
  refine JL.val (yl_assign rfl) rfl ?_
  refine JL.nil ?_
  refine JE.code ?_
  refine JX.seq ?_
  refine JX.seq ?_
  refine JX.drawH [(0, .pure), (1, .pure), (2, .pure), (3, .read), (4, .must), (5, .pure), (6, .pure), (7, .pure), (8, .pure), (9, .pure), (10, .read), (11, .must), (12, .pure), (13, .pure), (14, .pure), (15, .pure), (16, .pure), (17, .pure), (18, .read), (19, .pure), (20, .pure), (21, .pure), (22, .pure), (23, .read), (24, .pure), (25, .pure), (26, .pure), (27, .read), (28, .must), (29, .pure), (30, .pure)] [] [] [] [] [] mixedP (by kernel_rfl) (by kernel_rfl) (by decide) rfl rfl ?_
  intro wrr1 Nr1 hFr1
  refine JH.pure rfl (yl_move rfl) rfl ?_
  refine JH.pure rfl (yl_nilCheckAt rfl (Rd.some g_0 (j := 0) rfl)) rfl ?_
  refine JH.pure rfl (yl_fieldAt Go.Proofs.Try.underlying39 rfl i2 i2n rfl (Rd.some g_0 (j := 0) rfl)) rfl ?_
  refine JH.read rfl (yl_load1 Go.Proofs.Try.underlying2 rfl rfl (fun w hw => hFr1.arg g_0 hw) rfl) rfl ?_
  obtain ⟨x2, hx2, hres⟩ := bind_some hres
  refine JH.must rfl (ef_call (T := T147 x2) Go.Proofs.Try.func147 rfl (by kernel_rfl) rfl (fun w hC => c147  hx2)) rfl rfl ?_
  rintro _ _ ⟨_, ⟨rfl, rfl⟩, rfl⟩
  refine JH.pure rfl (yl_not rfl) rfl ?_
  refine JH.pure rfl (yl_move rfl) rfl ?_
  obtain ⟨cb3, hcb3, hres⟩ := bind_some hres
  refine JH.cut (K := fun J => J [(0, ptrAt b_0 0), (17, .bool cb3)] []) 7 ?_ ?_
  · refine JH.pure rfl (yl_move rfl) rfl ?_
    obtain ⟨cb5, hcb5, hres⟩ := bind_some hres
    refine JH.cut (K := fun J => J [(0, ptrAt b_0 0), (34, .bool cb5)] []) 16 ?_ ?_
    · refine JH.nil ?_
      refine JE.weak (env' := [(0, ptrAt b_0 0), (34, .bool cb5)]) (es' := []) [] ?_ ⟨rfl, rfl, trivial⟩ (by decide) rfl
      refine JE.code ?_
      rcases cond_some hres with ⟨hb, hres⟩ | ⟨hb, hres⟩
      · refine JX.condT rfl hb ?_
        refine JX.seq ?_
        refine JX.region ?_
        refine JL.val (yl_assign rfl) rfl ?_
        refine JL.nil ?_
        refine JE.code ?_
        refine JX.ret ?_
        obtain rfl := Option.some.inj hres
        refine JE.ret (rs := [.tmp 2]) (vs := [.bool false]) rfl ⟨rfl, trivial⟩ ?_
        exact fun w' hb hs => ⟨_, _, ⟨rfl, rfl⟩, rfl, hb, hs.sel [] _ (by decide) rfl⟩
      · refine JX.condF rfl hb ?_
        refine JX.skip ?_
        refine JE.code ?_
        refine JX.seq ?_
        refine JX.seq ?_
        refine JX.region ?_
        refine JL.val (yl_assign rfl) rfl ?_
        refine JL.nil ?_
        refine JE.code ?_
        refine JX.block ?_
        obtain ⟨y1, hy1, hresO1⟩ := bind_some hres
        refine JX.loop (I := fun (s1 : Int) aa ww => St w [] 53 [(0, ptrAt b_0 0), (3, .int .i64 s1)] [] aa ww) (sh96_1 q0) hy1 (fun a w h => h.weak ⟨rfl, rfl, trivial⟩ [] (by decide) rfl) ?_
        rintro x7 o1 hres hox1 aa ww hS
        refine (?_ : JX Go.Proofs.Try.prog w [] 53 _ _ [(0, ptrAt b_0 0), (3, .int .i64 x7)] [] _) aa ww hS
        clear hS
        unfold sh96_1 at hres
        refine JX.seq ?_
        refine JX.seq ?_
        refine JX.region ?_
        refine JL.val (yl_move rfl) rfl ?_
        refine JL.val (yl_move rfl) rfl ?_
        refine JL.val (yl_nilCheckAt rfl (Rd.some g_0 (j := 0) rfl)) rfl ?_
        refine JL.val (yl_fieldAt Go.Proofs.Try.underlying39 rfl i33 i33n rfl (Rd.some g_0 (j := 0) rfl)) rfl ?_
        refine JL.val (yl_load1 Go.Proofs.Try.underlying33 rfl rfl (fun w hC => rd_arg g_0 hC) rfl) rfl ?_
        refine JL.val (yl_len_slice Go.Proofs.Try.underlying33 rfl) rfl ?_
        refine JL.val (yl_lss rfl rfl) rfl ?_
        refine JL.nil ?_
        refine JE.weak (env' := [(0, ptrAt b_0 0), (3, .int .i64 x7), (41, .bool (decide (x7 < (q0.Breaks.length : Int))))]) (es' := []) [] ?_ ⟨rfl, rfl, rfl, trivial⟩ (by decide) rfl
        refine JE.code ?_
        rcases cond_some hres with ⟨hb, hres⟩ | ⟨hb, hres⟩
        · refine JX.condT rfl hb ?_
          refine JX.skip ?_
          refine JE.code ?_
          refine JX.seq ?_
          refine JX.block ?_
          refine JX.seq ?_
          refine JX.region ?_
          refine JL.val (yl_move rfl) rfl ?_
          refine JL.val (yl_nilCheckAt rfl (Rd.some g_0 (j := 0) rfl)) rfl ?_
          refine JL.val (yl_fieldAt Go.Proofs.Try.underlying39 rfl i33 i33n rfl (Rd.some g_0 (j := 0) rfl)) rfl ?_
          refine JL.val (yl_load1 Go.Proofs.Try.underlying33 rfl rfl (fun w hC => rd_arg g_0 hC) rfl) rfl ?_
          refine JL.val (yl_move rfl) rfl ?_
          obtain ⟨x8, hx8, hres⟩ := bind_some hres
          refine JL.val (yl_idxT Go.Proofs.Try.underlying33 i2 i2s rfl rfl hx8 rfl (fun w hC => rd_arg g_0_2 hC)) rfl ?_
          refine JL.val (yl_loadT0 Go.Proofs.Try.underlying2 rfl rfl hx8 (fun w hC => rd_arg g_0_2 hC) rfl) rfl ?_
          obtain ⟨x9, hx9, hres⟩ := bind_some hres
          refine JL.eff (ef_call (T := T115 x9) Go.Proofs.Try.func115 rfl (by kernel_rfl) rfl (fun w hC => c115  hx9)) rfl ?_
          rintro _ _ ⟨_, ⟨rfl, rfl⟩, rfl⟩
          refine JL.val (yl_not rfl) rfl ?_
          refine JL.nil ?_
          refine JE.weak (env' := [(0, ptrAt b_0 0), (3, .int .i64 x7), (52, .bool !x9)]) (es' := []) [] ?_ ⟨rfl, rfl, rfl, trivial⟩ (by decide) rfl
          refine JE.code ?_
          rcases cond_some hres with ⟨hb, hres⟩ | ⟨hb, hres⟩
          · refine JX.condT rfl hb ?_
            refine JX.seq ?_
            refine JX.region ?_
            refine JL.val (yl_assign rfl) rfl ?_
            refine JL.nil ?_
            refine JE.code ?_
            refine JX.ret ?_
            refine JE.qbr ?_
            refine JE.qbr ?_
            have hres := elimS_inr hresO1 (hox1 _ (Option.some.inj hres).symm)
            obtain rfl := Option.some.inj hres
            refine JE.ret (rs := [.tmp 2]) (vs := [.bool false]) rfl ⟨rfl, trivial⟩ ?_
            exact fun w' hb hs => ⟨_, _, ⟨rfl, rfl⟩, rfl, hb, hs.sel [] _ (by decide) rfl⟩
          · refine JX.condF rfl hb ?_
            refine JX.skip ?_
            refine JE.code ?_
            refine JX.region ?_
            refine JL.val (yl_move rfl) rfl ?_
            refine JL.val (yl_add rfl rfl) rfl ?_
            refine JL.val (yl_assign rfl) rfl ?_
            refine JL.nil ?_
            refine JE.cont hres ?_
            exact fun a w h => h.weak ⟨rfl, rfl, trivial⟩ [] (by decide) rfl
        · refine JX.condF rfl hb ?_
          refine JX.exit ?_
          refine JE.qb rfl ?_
          obtain ⟨b1, hb1⟩ : ∃ b : Unit, b = () := ⟨_, rfl⟩
          have hy1 : Sum.inl b1 = y1 := by rw [hb1]; exact hox1 _ (Option.some.inj hres).symm
          have hres := elimS_inl hresO1 hy1
          refine JE.weak (env' := []) (es' := []) [] ?_ trivial (by decide) (by subst hb1; rfl)
          refine JE.code ?_
          refine JX.seq ?_
          refine JX.region ?_
          refine JL.val (yl_assign rfl) rfl ?_
          refine JL.nil ?_
          refine JE.code ?_
          refine JX.ret ?_
          obtain rfl := Option.some.inj hres
          refine JE.ret (rs := [.tmp 2]) (vs := [.bool true]) rfl ⟨rfl, trivial⟩ ?_
          exact fun w' hb hs => ⟨_, _, ⟨rfl, rfl⟩, rfl, hb, hs.sel [] _ (by decide) rfl⟩
    · intro K
      rcases cond_some hcb5 with ⟨hb, hres⟩ | ⟨hb, hres⟩
      · refine JH.set (d := 18) (v := .bool true) (congrArg (fun b => some (Value.bool b)) hb) ?_
        refine JH.gskip rfl rfl rfl rfl rfl rfl ?_
        refine JH.gskip rfl rfl rfl rfl rfl rfl ?_
        refine JH.gskip rfl rfl rfl rfl rfl rfl ?_
        refine JH.gskip rfl rfl rfl rfl rfl rfl ?_
        refine JH.gskip rfl rfl rfl rfl rfl rfl ?_
        refine JH.gskip rfl rfl rfl rfl rfl rfl ?_
        refine JH.gskip rfl rfl rfl rfl rfl rfl ?_
        refine JH.gskip rfl rfl rfl rfl rfl rfl ?_
        refine JH.gskip rfl rfl rfl rfl rfl rfl ?_
        refine JH.gskip rfl rfl rfl rfl rfl rfl ?_
        refine JH.gskip rfl rfl rfl rfl rfl rfl ?_
        refine JH.gskip rfl rfl rfl rfl rfl rfl ?_
        refine JH.gskip rfl rfl rfl rfl rfl rfl ?_
        refine JH.gskip rfl rfl rfl rfl rfl rfl ?_
        refine JH.gskip rfl rfl rfl rfl rfl rfl ?_
        refine JH.pure rfl (yl_pick_true rfl rfl) rfl ?_
        have he := Option.some.inj hres
        exact JH.weak [] K ⟨rfl, (by rw [← he]; rfl), trivial⟩ (by decide) rfl
      · refine JH.set (d := 18) (v := .bool false) (congrArg (fun b => some (Value.bool b)) hb) ?_
        refine JH.gpure rfl rfl rfl (yl_move rfl) rfl ?_
        refine JH.gpure rfl rfl rfl (yl_nilCheckAt rfl (Rd.some g_0 (j := 0) rfl)) rfl ?_
        refine JH.gpure rfl rfl rfl (yl_fieldAt Go.Proofs.Try.underlying39 rfl i33 i33n rfl (Rd.some g_0 (j := 0) rfl)) rfl ?_
        refine JH.gread rfl rfl rfl (yl_load1 Go.Proofs.Try.underlying33 rfl rfl (fun w hw => hFr1.arg g_0 hw) rfl) rfl ?_
        refine JH.gpure rfl rfl rfl (yl_len_slice Go.Proofs.Try.underlying33 rfl) rfl ?_
        refine JH.gpure rfl rfl rfl (yl_move rfl) rfl ?_
        refine JH.gpure rfl rfl rfl (yl_nilCheckAt rfl (Rd.some g_0 (j := 0) rfl)) rfl ?_
        refine JH.gpure rfl rfl rfl (yl_fieldAt Go.Proofs.Try.underlying39 rfl i2 i2n rfl (Rd.some g_0 (j := 0) rfl)) rfl ?_
        refine JH.gread rfl rfl rfl (yl_load1 Go.Proofs.Try.underlying2 rfl rfl (fun w hw => hFr1.arg g_0 hw) rfl) rfl ?_
        refine JH.gpure rfl rfl rfl (yl_move rfl) rfl ?_
        refine JH.gpure rfl rfl rfl (yl_nilCheckAt rfl (Rd.some g_0 (j := 0) rfl)) rfl ?_
        refine JH.gpure rfl rfl rfl (yl_fieldAt Go.Proofs.Try.underlying39 rfl i2 i2n rfl (Rd.some g_0 (j := 0) rfl)) rfl ?_
        refine JH.gread rfl rfl rfl (yl_load1 Go.Proofs.Try.underlying2 rfl rfl (fun w hw => hFr1.arg g_0 hw) rfl) rfl ?_
        obtain ⟨x6, hx6, hres⟩ := bind_some hres
        refine JH.gmust rfl rfl rfl (ef_call (T := T148 x6) Go.Proofs.Try.func148 rfl (by kernel_rfl) rfl (fun w hC => c148  hx6)) rfl rfl ?_
        rintro _ _ ⟨_, ⟨rfl, rfl⟩, rfl⟩
        refine JH.gpure rfl rfl rfl (yl_neq rfl rfl) rfl ?_
        refine JH.pure rfl (yl_pick_false rfl rfl) rfl ?_
        have he := Option.some.inj hres
        exact JH.weak [] K ⟨rfl, (by rw [← he]; rfl), trivial⟩ (by decide) rfl
  · intro K
    rcases cond_some hcb3 with ⟨hb, hres⟩ | ⟨hb, hres⟩
    · refine JH.set (d := 10) (v := .bool true) (congrArg (fun b => some (Value.bool b)) hb) ?_
      refine JH.gskip rfl rfl rfl rfl rfl rfl ?_
      refine JH.gskip rfl rfl rfl rfl rfl rfl ?_
      refine JH.gskip rfl rfl rfl rfl rfl rfl ?_
      refine JH.gskip rfl rfl rfl rfl rfl rfl ?_
      refine JH.gskip rfl rfl rfl rfl rfl rfl ?_
      refine JH.gskip rfl rfl rfl rfl rfl rfl ?_
      refine JH.pure rfl (yl_pick_true rfl rfl) rfl ?_
      have he := Option.some.inj hres
      exact JH.weak [] K ⟨rfl, (by rw [← he]; rfl), trivial⟩ (by decide) rfl
    · refine JH.set (d := 10) (v := .bool false) (congrArg (fun b => some (Value.bool b)) hb) ?_
      refine JH.gpure rfl rfl rfl (yl_move rfl) rfl ?_
      refine JH.gpure rfl rfl rfl (yl_nilCheckAt rfl (Rd.some g_0 (j := 0) rfl)) rfl ?_
      refine JH.gpure rfl rfl rfl (yl_fieldAt Go.Proofs.Try.underlying39 rfl i2 i2n rfl (Rd.some g_0 (j := 0) rfl)) rfl ?_
      refine JH.gread rfl rfl rfl (yl_load1 Go.Proofs.Try.underlying2 rfl rfl (fun w hw => hFr1.arg g_0 hw) rfl) rfl ?_
      obtain ⟨x4, hx4, hres⟩ := bind_some hres
      refine JH.gmust rfl rfl rfl (ef_call (T := T147 x4) Go.Proofs.Try.func147 rfl (by kernel_rfl) rfl (fun w hC => c147  hx4)) rfl rfl ?_
      rintro _ _ ⟨_, ⟨rfl, rfl⟩, rfl⟩
      refine JH.gpure rfl rfl rfl (yl_not rfl) rfl ?_
      refine JH.pure rfl (yl_pick_false rfl rfl) rfl ?_
      have he := Option.some.inj hres
      exact JH.weak [] K ⟨rfl, (by rw [← he]; rfl), trivial⟩ (by decide) rfl

/- spec.l19Scale -/
def sh162 (q0 : Int) : Option (Bool) := Option.bind (sh115 q0 2 100) fun x1 => some x1
def T162 (r : Bool) (v : Value) (rs : List Own) : Prop := v = rets [.bool r] ∧ rs = []
set_option maxRecDepth 100000 in
theorem c162 {w : World} {q0 : Int} {r : Bool} (hres : sh162 q0 = some r) : Calls Go.Proofs.Try.prog 162 [.int .i64 q0].toArray w (Ret w (T162 r)) := by
  unfold sh162 at hres
  refine calls_of (n := 5) (M := []) (es := []) Go.Proofs.Try.func162 rfl rfl rfl (Sep.nil _ _ _) ?_
  refine JX.seq ?_
  refine JX.region ?_
  refine JL.val (yl_assign rfl) rfl ?_
  refine JL.nil ?_
  refine JE.code ?_
  refine JX.seq ?_
  refine JX.region ?_
  refine JL.val (yl_move rfl) rfl ?_
  obtain ⟨x1, hx1, hres⟩ := bind_some hres
  refine JL.eff (ef_call (T := T115 x1) Go.Proofs.Try.func115 rfl (by kernel_rfl) rfl (fun w hC => c115  hx1)) rfl ?_
  rintro _ _ ⟨_, ⟨rfl, rfl⟩, rfl⟩
  refine JL.val (yl_assign rfl) rfl ?_
  refine JL.nil ?_
  refine JE.code ?_
  refine JX.ret ?_
  obtain rfl := Option.some.inj hres
  refine JE.ret (rs := [.tmp 2]) (vs := [.bool x1]) rfl ⟨rfl, trivial⟩ ?_
  exact fun w' hb hs => ⟨_, _, ⟨rfl, rfl⟩, rfl, hb, hs.sel [] _ (by decide) rfl⟩

/- spec.l19Code -/
def sh117 (q0 : SPanel) (q1 : Int) : Option (Int) := Option.bind (sh96 q0) fun x1 => bif !x1 then (some 1) else (Option.bind (sh162 q1) fun x2 => bif !x2 then (some 2) else (some 0))
def T117 (r : Int) (v : Value) (rs : List Own) : Prop := v = rets [.int .i64 r] ∧ rs = []
set_option maxRecDepth 100000 in
theorem c117 {w : World} {q0 : SPanel} {a_0 : Option Addr} {n_0 : Nat} {a_0_2 : Option Addr} {n_0_2 c_0_2 : Nat} (g_0 : RdAt w a_0 n_0 [.int .i64 q0.W, .int .i64 q0.H, .slice a_0_2 n_0_2 c_0_2]) (g_0_2 : Rd w a_0_2 (eI64.fl q0.Breaks)) (l_0_2 : q0.Breaks.length = n_0_2) (k_0_2 : n_0_2 ≤ c_0_2) {q1 : Int} {r : Int} (hres : sh117 q0 q1 = some r) : Calls Go.Proofs.Try.prog 117 [ptrAt a_0 n_0, .int .i64 q1].toArray w (Ret w (T117 r)) := by
  subst l_0_2
  obtain ⟨b_0, e_0, g_0⟩ := g_0.norm0
  rw [e_0]
  unfold sh117 at hres
  refine calls_of (n := 11) (M := []) (es := []) Go.Proofs.Try.func117 rfl rfl rfl (Sep.nil _ _ _) ?_
  refine JX.seq ?_
  refine JX.region ?_
  refine JL.val (yl_assign rfl) rfl ?_
  refine JL.nil ?_
  refine JE.code ?_
  refine JX.seq ?_
  refine JX.seq ?_
  refine JX.region ?_
  refine JL.val (yl_move rfl) rfl ?_
  obtain ⟨x1, hx1, hres⟩ := bind_some hres
  refine JL.eff (ef_call (T := T96 x1) Go.Proofs.Try.func96 rfl (by kernel_rfl) rfl (fun w hC => c96 (RdAt.of0 (rd_arg g_0 hC)) (rd_arg g_0_2 hC) rfl k_0_2 hx1)) rfl ?_
  rintro _ _ ⟨_, ⟨rfl, rfl⟩, rfl⟩
  refine JL.val (yl_not rfl) rfl ?_
  refine JL.nil ?_
  refine JE.code ?_
  rcases cond_some hres with ⟨hb, hres⟩ | ⟨hb, hres⟩
  · refine JX.condT rfl hb ?_
    refine JX.seq ?_
    refine JX.region ?_
    refine JL.val (yl_assign rfl) rfl ?_
    refine JL.nil ?_
    refine JE.code ?_
    refine JX.ret ?_
    obtain rfl := Option.some.inj hres
    refine JE.ret (rs := [.tmp 4]) (vs := [.int .i64 1]) rfl ⟨rfl, trivial⟩ ?_
    exact fun w' hb hs => ⟨_, _, ⟨rfl, rfl⟩, rfl, hb, hs.sel [] _ (by decide) rfl⟩
  · refine JX.condF rfl hb ?_
    refine JX.skip ?_
    refine JE.code ?_
    refine JX.seq ?_
    refine JX.seq ?_
    refine JX.region ?_
    refine JL.val (yl_move rfl) rfl ?_
    obtain ⟨x2, hx2, hres⟩ := bind_some hres
    refine JL.eff (ef_call (T := T162 x2) Go.Proofs.Try.func162 rfl (by kernel_rfl) rfl (fun w hC => c162  hx2)) rfl ?_
    rintro _ _ ⟨_, ⟨rfl, rfl⟩, rfl⟩
    refine JL.val (yl_not rfl) rfl ?_
    refine JL.nil ?_
    refine JE.code ?_
    rcases cond_some hres with ⟨hb, hres⟩ | ⟨hb, hres⟩
    · refine JX.condT rfl hb ?_
      refine JX.seq ?_
      refine JX.region ?_
      refine JL.val (yl_assign rfl) rfl ?_
      refine JL.nil ?_
      refine JE.code ?_
      refine JX.ret ?_
      obtain rfl := Option.some.inj hres
      refine JE.ret (rs := [.tmp 4]) (vs := [.int .i64 2]) rfl ⟨rfl, trivial⟩ ?_
      exact fun w' hb hs => ⟨_, _, ⟨rfl, rfl⟩, rfl, hb, hs.sel [] _ (by decide) rfl⟩
    · refine JX.condF rfl hb ?_
      refine JX.skip ?_
      refine JE.code ?_
      refine JX.seq ?_
      refine JX.region ?_
      refine JL.val (yl_assign rfl) rfl ?_
      refine JL.nil ?_
      refine JE.code ?_
      refine JX.ret ?_
      obtain rfl := Option.some.inj hres
      refine JE.ret (rs := [.tmp 4]) (vs := [.int .i64 0]) rfl ⟨rfl, trivial⟩ ?_
      exact fun w' hb hs => ⟨_, _, ⟨rfl, rfl⟩, rfl, hb, hs.sel [] _ (by decide) rfl⟩

/- spec.l00Own -/
def sh163 (q0 : List Int) : Option (List Int) := Option.bind (appL ([] : List Int) q0) fun x3 => some x3
def T163 (r : List Int) (v : Value) (rs : List Own) : Prop := ∃ (a0 : Option Addr) (n0 c0 : Nat), r.length = n0 ∧ v = rets [.slice a0 n0 c0] ∧ rs = [rowT 2 eI64 a0 n0 c0 r]
set_option maxRecDepth 100000 in
theorem c163 {w : World} {q0 : List Int} {a_0 : Option Addr} {n_0 c_0 : Nat} (g_0 : Rd w a_0 (eI64.fl q0)) (l_0 : q0.length = n_0) (k_0 : n_0 ≤ c_0) {r : List Int} (hres : sh163 q0 = some r) : Calls Go.Proofs.Try.prog 163 [.slice a_0 n_0 c_0].toArray w (Ret w (T163 r)) := by
  subst l_0
  unfold sh163 at hres
  refine calls_of (n := 6) (M := []) (es := []) Go.Proofs.Try.func163 rfl rfl rfl (Sep.nil _ _ _) ?_
  refine JX.seq ?_
  refine JX.region ?_
  refine JL.val (yl_assign rfl) rfl ?_
  refine JL.nil ?_
  refine JE.code ?_
  refine JX.seq ?_
  refine JX.region ?_
  refine JL.eff (ef_buildSlice (E := 2) (k := eI64.k) (us := eI64.fl ([] : List Int)) rfl (fun w => bsl33_0  w) rfl (by decide)) rfl ?_
  rintro _ _ ⟨a1, rfl, rfl⟩
  refine JL.val (yl_move rfl) rfl ?_
  obtain ⟨x3, hx3, hres⟩ := bind_some hres
  refine JL.eff (ef_appendT (ix := 0) Go.Proofs.Try.underlying33 i2 i2z i2s rfl i2b0 i2b1 rfl rfl rfl rfl rfl (fun w hC => rd_arg g_0 hC) hx3) rfl ?_
  rintro _ _ ⟨a4, cp5, rfl, rfl⟩
  refine JL.val (yl_assign rfl) rfl ?_
  refine JL.nil ?_
  refine JE.weak (env' := [(2, .slice a4 x3.length cp5)]) (es' := [rowT 2 eI64 a4 x3.length cp5 x3]) [0] ?_ ⟨rfl, trivial⟩ (by decide) rfl
  refine JE.code ?_
  refine JX.ret ?_
  obtain rfl := Option.some.inj hres
  refine JE.ret (rs := [.tmp 2]) (vs := [.slice a4 x3.length cp5]) rfl ⟨rfl, trivial⟩ ?_
  exact fun w' hb hs => ⟨_, _, ⟨a4, x3.length, cp5, rfl, rfl, rfl⟩, rfl, hb, hs.sel [0] _ (by decide) rfl⟩

/- spec.l02Own -/
def sh118 (q0 : SPanel) : Option (SPanel) := Option.bind (sh163 q0.Breaks) fun x4 => some (SPanel.mk q0.W q0.H x4)
def T118 (r : SPanel) (v : Value) (rs : List Own) : Prop := ∃ (a0_2 : Option Addr) (n0_2 c0_2 : Nat), r.Breaks.length = n0_2 ∧ v = rets [.agg #[.int .i64 r.W, .int .i64 r.H, .slice a0_2 n0_2 c0_2]] ∧ rs = [rowT 2 eI64 a0_2 n0_2 c0_2 r.Breaks]
set_option maxRecDepth 100000 in
theorem c118 {w : World} {q0 : SPanel} {a_0 : Option Addr} {n_0 : Nat} {a_0_2 : Option Addr} {n_0_2 c_0_2 : Nat} (g_0 : RdAt w a_0 n_0 [.int .i64 q0.W, .int .i64 q0.H, .slice a_0_2 n_0_2 c_0_2]) (g_0_2 : Rd w a_0_2 (eI64.fl q0.Breaks)) (l_0_2 : q0.Breaks.length = n_0_2) (k_0_2 : n_0_2 ≤ c_0_2) {r : SPanel} (hres : sh118 q0 = some r) : Calls Go.Proofs.Try.prog 118 [ptrAt a_0 n_0].toArray w (Ret w (T118 r)) := by
  subst l_0_2
  obtain ⟨b_0, e_0, g_0⟩ := g_0.norm0
  rw [e_0]
  unfold sh118 at hres
  refine calls_of (n := 17) (M := []) (es := []) Go.Proofs.Try.func118 rfl rfl rfl (Sep.nil _ _ _) ?_
  refine JX.seq ?_
  refine JX.region ?_
  refine JL.eff (ef_alloc i39 i39z rfl) rfl ?_
  rintro _ _ ⟨g1, rfl, rfl⟩
  refine JL.nil ?_
  refine JE.code ?_
  refine JX.seq ?_
  refine JX.drawH [(0, .pure), (1, .pure), (2, .pure), (3, .read), (4, .pure), (5, .pure), (6, .pure), (7, .read), (8, .pure), (9, .pure), (10, .pure), (11, .read), (12, .must), (13, .pure), (14, .must)] [14] [0] [] [boxO 39 g1 [.int .i64 0, .int .i64 0, .slice none 0 0]] [] mixedP (by kernel_rfl) (by kernel_rfl) (by decide) rfl rfl ?_
  intro wrr3 Nr3 hFr3
  refine JH.pure rfl (yl_move rfl) rfl ?_
  refine JH.pure rfl (yl_nilCheckAt rfl (Rd.some g_0 (j := 0) rfl)) rfl ?_
  refine JH.pure rfl (yl_fieldAt Go.Proofs.Try.underlying39 rfl i2 i2n rfl (Rd.some g_0 (j := 0) rfl)) rfl ?_
  refine JH.read rfl (yl_load1 Go.Proofs.Try.underlying2 rfl rfl (fun w hw => hFr3.arg g_0 hw) rfl) rfl ?_
  refine JH.pure rfl (yl_move rfl) rfl ?_
  refine JH.pure rfl (yl_nilCheckAt rfl (Rd.some g_0 (j := 0) rfl)) rfl ?_
  refine JH.pure rfl (yl_fieldAt Go.Proofs.Try.underlying39 rfl i2 i2n rfl (Rd.some g_0 (j := 0) rfl)) rfl ?_
  refine JH.read rfl (yl_load1 Go.Proofs.Try.underlying2 rfl rfl (fun w hw => hFr3.arg g_0 hw) rfl) rfl ?_
  refine JH.pure rfl (yl_move rfl) rfl ?_
  refine JH.pure rfl (yl_nilCheckAt rfl (Rd.some g_0 (j := 0) rfl)) rfl ?_
  refine JH.pure rfl (yl_fieldAt Go.Proofs.Try.underlying39 rfl i33 i33n rfl (Rd.some g_0 (j := 0) rfl)) rfl ?_
  refine JH.read rfl (yl_load1 Go.Proofs.Try.underlying33 rfl rfl (fun w hw => hFr3.arg g_0 hw) rfl) rfl ?_
  obtain ⟨x4, hx4, hres⟩ := bind_some hres
  refine JH.must rfl (ef_call (T := T163 x4) Go.Proofs.Try.func163 rfl (by kernel_rfl) rfl (fun w hC => c163 (hFr3.arg g_0_2 hC.1) rfl k_0_2 hx4)) rfl rfl ?_
  rintro _ _ ⟨_, ⟨a5, _, cp6, rfl, rfl, rfl⟩, rfl⟩
  refine JH.pure rfl (yl_build rfl (fun w => bld39_0_1_2 q0.W q0.H a5 x4.length cp6 w)) rfl ?_
  refine JH.must rfl (ef_store_box (i := 0) (v := .agg #[.int .i64 q0.W, .int .i64 q0.H, .slice a5 x4.length cp6]) i39 rfl rfl rfl (i39s).symm (Nat.le_of_ble_eq_true rfl) (by simp [Value.cells, Value.oneCell'])) rfl rfl ?_
  rintro _ _ rfl
  refine JH.nil ?_
  refine JE.weak (env' := [(2, ptrAt (some ⟨g1, 0, none⟩) 0)]) (es' := [boxO 39 g1 [.int .i64 q0.W, .int .i64 q0.H, .slice a5 x4.length cp6], rowT 2 eI64 a5 x4.length cp6 x4]) [0, 1] ?_ ⟨rfl, trivial⟩ (by decide) rfl
  refine JE.code ?_
  refine JX.ret ?_
  obtain rfl := Option.some.inj hres
  refine JE.ret (rs := [.cell 2 39]) (vs := [.agg #[.int .i64 q0.W, .int .i64 q0.H, .slice a5 x4.length cp6]]) rfl ⟨rv_box 0 rfl rfl Go.Proofs.Try.underlying39 rfl i39 (i39s).symm, trivial⟩ ?_
  exact fun w' hb hs => ⟨_, _, ⟨a5, x4.length, cp6, rfl, rfl, rfl⟩, rfl, hb, hs.sel [1] _ (by decide) rfl⟩

/- spec.l00Max -/
def sh177 (q0 : Int) (q1 : Int) : Option (Int) := bif decide (q1 < q0) then (some q0) else (some q1)
def T177 (r : Int) (v : Value) (rs : List Own) : Prop := v = rets [.int .i64 r] ∧ rs = []
set_option maxRecDepth 100000 in
theorem c177 {w : World} {q0 : Int} {q1 : Int} {r : Int} (hres : sh177 q0 q1 = some r) : Calls Go.Proofs.Try.prog 177 [.int .i64 q0, .int .i64 q1].toArray w (Ret w (T177 r)) := by
  unfold sh177 at hres
  refine calls_of (n := 10) (M := []) (es := []) Go.Proofs.Try.func177 rfl rfl rfl (Sep.nil _ _ _) ?_
  refine JX.seq ?_
  refine JX.region ?_
  refine JL.val (yl_assign rfl) rfl ?_
  refine JL.nil ?_
  refine JE.code ?_
  refine JX.seq ?_
  refine JX.seq ?_
  refine JX.region ?_
  refine JL.val (yl_move rfl) rfl ?_
  refine JL.val (yl_move rfl) rfl ?_
  refine JL.val (yl_gtr rfl rfl) rfl ?_
  refine JL.nil ?_
  refine JE.code ?_
  rcases cond_some hres with ⟨hb, hres⟩ | ⟨hb, hres⟩
  · refine JX.condT rfl hb ?_
    refine JX.seq ?_
    refine JX.region ?_
    refine JL.val (yl_move rfl) rfl ?_
    refine JL.val (yl_assign rfl) rfl ?_
    refine JL.nil ?_
    refine JE.code ?_
    refine JX.ret ?_
    obtain rfl := Option.some.inj hres
    refine JE.ret (rs := [.tmp 4]) (vs := [.int .i64 q0]) rfl ⟨rfl, trivial⟩ ?_
    exact fun w' hb hs => ⟨_, _, ⟨rfl, rfl⟩, rfl, hb, hs.sel [] _ (by decide) rfl⟩
  · refine JX.condF rfl hb ?_
    refine JX.skip ?_
    refine JE.code ?_
    refine JX.seq ?_
    refine JX.region ?_
    refine JL.val (yl_move rfl) rfl ?_
    refine JL.val (yl_assign rfl) rfl ?_
    refine JL.nil ?_
    refine JE.code ?_
    refine JX.ret ?_
    obtain rfl := Option.some.inj hres
    refine JE.ret (rs := [.tmp 4]) (vs := [.int .i64 q1]) rfl ⟨rfl, trivial⟩ ?_
    exact fun w' hb hs => ⟨_, _, ⟨rfl, rfl⟩, rfl, hb, hs.sel [] _ (by decide) rfl⟩

/- spec.l00Min -/
def sh185 (q0 : Int) (q1 : Int) : Option (Int) := bif decide (q0 < q1) then (some q0) else (some q1)
def T185 (r : Int) (v : Value) (rs : List Own) : Prop := v = rets [.int .i64 r] ∧ rs = []
set_option maxRecDepth 100000 in
theorem c185 {w : World} {q0 : Int} {q1 : Int} {r : Int} (hres : sh185 q0 q1 = some r) : Calls Go.Proofs.Try.prog 185 [.int .i64 q0, .int .i64 q1].toArray w (Ret w (T185 r)) := by
  unfold sh185 at hres
  refine calls_of (n := 10) (M := []) (es := []) Go.Proofs.Try.func185 rfl rfl rfl (Sep.nil _ _ _) ?_
  refine JX.seq ?_
  refine JX.region ?_
  refine JL.val (yl_assign rfl) rfl ?_
  refine JL.nil ?_
  refine JE.code ?_
  refine JX.seq ?_
  refine JX.seq ?_
  refine JX.region ?_
  refine JL.val (yl_move rfl) rfl ?_
  refine JL.val (yl_move rfl) rfl ?_
  refine JL.val (yl_lss rfl rfl) rfl ?_
  refine JL.nil ?_
  refine JE.code ?_
  rcases cond_some hres with ⟨hb, hres⟩ | ⟨hb, hres⟩
  · refine JX.condT rfl hb ?_
    refine JX.seq ?_
    refine JX.region ?_
    refine JL.val (yl_move rfl) rfl ?_
    refine JL.val (yl_assign rfl) rfl ?_
    refine JL.nil ?_
    refine JE.code ?_
    refine JX.ret ?_
    obtain rfl := Option.some.inj hres
    refine JE.ret (rs := [.tmp 4]) (vs := [.int .i64 q0]) rfl ⟨rfl, trivial⟩ ?_
    exact fun w' hb hs => ⟨_, _, ⟨rfl, rfl⟩, rfl, hb, hs.sel [] _ (by decide) rfl⟩
  · refine JX.condF rfl hb ?_
    refine JX.skip ?_
    refine JE.code ?_
    refine JX.seq ?_
    refine JX.region ?_
    refine JL.val (yl_move rfl) rfl ?_
    refine JL.val (yl_assign rfl) rfl ?_
    refine JL.nil ?_
    refine JE.code ?_
    refine JX.ret ?_
    obtain rfl := Option.some.inj hres
    refine JE.ret (rs := [.tmp 4]) (vs := [.int .i64 q1]) rfl ⟨rfl, trivial⟩ ?_
    exact fun w' hb hs => ⟨_, _, ⟨rfl, rfl⟩, rfl, hb, hs.sel [] _ (by decide) rfl⟩

/- spec.l19Box -/
def sh165_1 (q0 : List SPoint) : (Int × SPoint × SPoint) → Option ((Int × SPoint × SPoint) ⊕ (SPoint × SPoint))
  | (x11, x12, x13) => bif decide (x11 < (q0.length : Int)) then (Option.bind (getI q0 x11) fun x15 => Option.bind (sh185 x12.X x15.X) fun x16 => Option.bind (getI q0 x11) fun x18 => Option.bind (sh185 x12.Y x18.Y) fun x19 => Option.bind (getI q0 x11) fun x21 => Option.bind (sh177 x13.X x21.X) fun x22 => Option.bind (getI q0 x11) fun x24 => Option.bind (sh177 x13.Y x24.Y) fun x25 => some (.inl (w64 (x11 + 1), SPoint.mk x16 x19, SPoint.mk x22 x25))) else (some (.inr (x12, x13)))
def sh165 (q0 : List SPoint) : Option (SPoint × SPoint) := Option.bind (getI q0 (0 : Int)) fun x5 => Option.bind (getI q0 (0 : Int)) fun x8 => Option.bind (iter (sh165_1 q0) (1, x5, x8)) fun b1 => (some (b1.1, b1.2))
def T165 (r : SPoint × SPoint) (v : Value) (rs : List Own) : Prop := v = rets [.agg #[.int .i64 r.1.X, .int .i64 r.1.Y], .agg #[.int .i64 r.2.X, .int .i64 r.2.Y]] ∧ rs = []
set_option maxRecDepth 100000 in
theorem c165 {w : World} {q0 : List SPoint} {a_0 : Option Addr} {n_0 c_0 : Nat} (g_0 : Rd w a_0 (eSPoint.fl q0)) (l_0 : q0.length = n_0) (k_0 : n_0 ≤ c_0) {r : SPoint × SPoint} (hres : sh165 q0 = some r) : Calls Go.Proofs.Try.prog 165 [.slice a_0 n_0 c_0].toArray w (Ret w (T165 r)) := by
  subst l_0
  unfold sh165 at hres
  refine calls_of (n := 57) (M := []) (es := []) Go.Proofs.Try.func165 rfl rfl rfl (Sep.nil _ _ _) ?_
  refine JX.seq ?_
  refine JX.region ?_
  refine JL.eff (ef_alloc i93 i93z rfl) rfl ?_
  rintro _ _ ⟨g1, rfl, rfl⟩
  refine JL.eff (ef_alloc i93 i93z rfl) rfl ?_
  rintro _ _ ⟨g3, rfl, rfl⟩
  refine JL.nil ?_
  refine JE.code ?_
  refine JX.seq ?_
  refine JX.region ?_
  refine JL.val (yl_move rfl) rfl ?_
  obtain ⟨x5, hx5, hres⟩ := bind_some hres
  refine JL.val (yl_idxT Go.Proofs.Try.underlying22 i93 i93s rfl rfl hx5 rfl (fun w hC => rd_arg g_0 hC)) rfl ?_
  refine JL.val (yl_loadTn Go.Proofs.Try.underlying93 rfl i93 i93s rfl hx5 (fun w hC => rd_arg g_0 hC)) rfl ?_
  refine JL.eff (ef_alloc i93 i93z rfl) rfl ?_
  rintro _ _ ⟨g6, rfl, rfl⟩
  refine JL.eff (ef_store_box (i := 2) (v := .agg #[.int .i64 x5.X, .int .i64 x5.Y]) i93 rfl rfl rfl (i93s).symm (Nat.le_of_ble_eq_true rfl) (by simp [Value.cells, Value.oneCell'])) rfl ?_
  rintro _ _ rfl
  refine JL.nil ?_
  refine JE.weak (env' := [(0, .slice a_0 q0.length c_0), (2, ptrAt (some ⟨g1, 0, none⟩) 0), (3, ptrAt (some ⟨g3, 0, none⟩) 0), (4, ptrAt (some ⟨g6, 0, none⟩) 0)]) (es' := [boxO 93 g1 [.int .i64 0, .int .i64 0], boxO 93 g3 [.int .i64 0, .int .i64 0], boxO 93 g6 [.int .i64 x5.X, .int .i64 x5.Y]]) [0, 1, 2] ?_ ⟨rfl, rfl, rfl, rfl, trivial⟩ (by decide) rfl
  refine JE.code ?_
  refine JX.seq ?_
  refine JX.region ?_
  refine JL.val (yl_move rfl) rfl ?_
  obtain ⟨x8, hx8, hres⟩ := bind_some hres
  refine JL.val (yl_idxT Go.Proofs.Try.underlying22 i93 i93s rfl rfl hx8 rfl (fun w hC => rd_arg g_0 hC)) rfl ?_
  refine JL.val (yl_loadTn Go.Proofs.Try.underlying93 rfl i93 i93s rfl hx8 (fun w hC => rd_arg g_0 hC)) rfl ?_
  refine JL.eff (ef_alloc i93 i93z rfl) rfl ?_
  rintro _ _ ⟨g9, rfl, rfl⟩
  refine JL.eff (ef_store_box (i := 3) (v := .agg #[.int .i64 x8.X, .int .i64 x8.Y]) i93 rfl rfl rfl (i93s).symm (Nat.le_of_ble_eq_true rfl) (by simp [Value.cells, Value.oneCell'])) rfl ?_
  rintro _ _ rfl
  refine JL.nil ?_
  refine JE.weak (env' := [(0, .slice a_0 q0.length c_0), (2, ptrAt (some ⟨g1, 0, none⟩) 0), (3, ptrAt (some ⟨g3, 0, none⟩) 0), (4, ptrAt (some ⟨g6, 0, none⟩) 0), (5, ptrAt (some ⟨g9, 0, none⟩) 0)]) (es' := [boxO 93 g1 [.int .i64 0, .int .i64 0], boxO 93 g3 [.int .i64 0, .int .i64 0], boxO 93 g6 [.int .i64 x5.X, .int .i64 x5.Y], boxO 93 g9 [.int .i64 x8.X, .int .i64 x8.Y]]) [0, 1, 2, 3] ?_ ⟨rfl, rfl, rfl, rfl, rfl, trivial⟩ (by decide) rfl
  refine JE.code ?_
  refine JX.seq ?_
  refine JX.seq ?_
  refine JX.region ?_
  refine JL.val (yl_assign rfl) rfl ?_
  refine JL.nil ?_
  refine JE.code ?_
  refine JX.block ?_
  obtain ⟨y1, hy1, hresO1⟩ := bind_some hres
  refine JX.loop (I := fun (s1 : Int × SPoint × SPoint) aa ww => St w [] 57 [(0, .slice a_0 q0.length c_0), (2, ptrAt (some ⟨g1, 0, none⟩) 0), (3, ptrAt (some ⟨g3, 0, none⟩) 0), (4, ptrAt (some ⟨g6, 0, none⟩) 0), (5, ptrAt (some ⟨g9, 0, none⟩) 0), (6, .int .i64 s1.1)] [boxO 93 g1 [.int .i64 0, .int .i64 0], boxO 93 g3 [.int .i64 0, .int .i64 0], boxO 93 g6 [.int .i64 s1.2.1.X, .int .i64 s1.2.1.Y], boxO 93 g9 [.int .i64 s1.2.2.X, .int .i64 s1.2.2.Y]] aa ww) (sh165_1 q0) hy1 (fun a w h => h.weak ⟨rfl, rfl, rfl, rfl, rfl, rfl, trivial⟩ [0, 1, 2, 3] (by decide) rfl) ?_
  rintro ⟨x11, x12, x13⟩ o1 hres hox1 aa ww hS
  refine (?_ : JX Go.Proofs.Try.prog w [] 57 _ _ [(0, .slice a_0 q0.length c_0), (2, ptrAt (some ⟨g1, 0, none⟩) 0), (3, ptrAt (some ⟨g3, 0, none⟩) 0), (4, ptrAt (some ⟨g6, 0, none⟩) 0), (5, ptrAt (some ⟨g9, 0, none⟩) 0), (6, .int .i64 x11)] [boxO 93 g1 [.int .i64 0, .int .i64 0], boxO 93 g3 [.int .i64 0, .int .i64 0], boxO 93 g6 [.int .i64 x12.X, .int .i64 x12.Y], boxO 93 g9 [.int .i64 x13.X, .int .i64 x13.Y]] _) aa ww hS
  clear hS
  simp only [sh165_1] at hres
  refine JX.seq ?_
  refine JX.seq ?_
  refine JX.region ?_
  refine JL.val (yl_move rfl) rfl ?_
  refine JL.val (yl_move rfl) rfl ?_
  refine JL.val (yl_len_slice Go.Proofs.Try.underlying22 rfl) rfl ?_
  refine JL.val (yl_lss rfl rfl) rfl ?_
  refine JL.nil ?_
  refine JE.weak (env' := [(0, .slice a_0 q0.length c_0), (2, ptrAt (some ⟨g1, 0, none⟩) 0), (3, ptrAt (some ⟨g3, 0, none⟩) 0), (4, ptrAt (some ⟨g6, 0, none⟩) 0), (5, ptrAt (some ⟨g9, 0, none⟩) 0), (6, .int .i64 x11), (16, .bool (decide (x11 < (q0.length : Int))))]) (es' := [boxO 93 g1 [.int .i64 0, .int .i64 0], boxO 93 g3 [.int .i64 0, .int .i64 0], boxO 93 g6 [.int .i64 x12.X, .int .i64 x12.Y], boxO 93 g9 [.int .i64 x13.X, .int .i64 x13.Y]]) [0, 1, 2, 3] ?_ ⟨rfl, rfl, rfl, rfl, rfl, rfl, rfl, trivial⟩ (by decide) rfl
  refine JE.code ?_
  rcases cond_some hres with ⟨hb, hres⟩ | ⟨hb, hres⟩
  · refine JX.condT rfl hb ?_
    refine JX.skip ?_
    refine JE.code ?_
    refine JX.seq ?_
    refine JX.block ?_
    refine JX.seq ?_
    refine JX.drawH [(0, .pure), (1, .read0), (2, .pure), (3, .pure), (4, .pure), (5, .pure), (6, .read), (7, .must), (8, .pure), (9, .must)] [9] [2] [0, 1, 3] [boxO 93 g6 [.int .i64 x12.X, .int .i64 x12.Y]] [boxO 93 g1 [.int .i64 0, .int .i64 0], boxO 93 g3 [.int .i64 0, .int .i64 0], boxO 93 g9 [.int .i64 x13.X, .int .i64 x13.Y]] mixedP (by kernel_rfl) (by kernel_rfl) (by decide) rfl rfl ?_
    intro wrr14 Nr14 hFr14
    refine JH.pure rfl (yl_fieldAt (a := some _) Go.Proofs.Try.underlying93 rfl i2 i2n rfl rfl) rfl ?_
    refine JH.read0 rfl (yl_load1 Go.Proofs.Try.underlying2 rfl rfl (fun w hw => (rd_box hFr14.cl 2 rfl).bw hw) rfl) rfl ?_
    refine JH.pure rfl (yl_move rfl) rfl ?_
    refine JH.pure rfl (yl_move rfl) rfl ?_
    obtain ⟨x15, hx15, hres⟩ := bind_some hres
    refine JH.pure rfl (yl_idxQ Go.Proofs.Try.underlying22 i93 i93s rfl rfl hx15 rfl (rd_arg g_0 hFr14.cl) rfl) rfl ?_
    refine JH.pure rfl (yl_fieldAt Go.Proofs.Try.underlying93 rfl i2 i2n rfl (RdT.someQ (rd_arg g_0 hFr14.cl) hx15 rfl rfl)) rfl ?_
    refine JH.read rfl (yl_loadT1 Go.Proofs.Try.underlying2 rfl rfl hx15 (fun w hw => hFr14.arg g_0 hw) rfl) rfl ?_
    obtain ⟨x16, hx16, hres⟩ := bind_some hres
    refine JH.must rfl (ef_call (T := T185 x16) Go.Proofs.Try.func185 rfl (by kernel_rfl) rfl (fun w hC => c185  hx16)) rfl rfl ?_
    rintro _ _ ⟨_, ⟨rfl, rfl⟩, rfl⟩
    refine JH.pure rfl (yl_fieldAt (a := some _) Go.Proofs.Try.underlying93 rfl i2 i2n rfl rfl) rfl ?_
    refine JH.must rfl (ef_store_box (i := 0) (v := .int .i64 x16) i2 rfl rfl rfl (i2s).symm (Nat.le_of_ble_eq_true rfl) (by simp [Value.cells, Value.oneCell'])) rfl rfl ?_
    rintro _ _ rfl
    refine JH.nil ?_
    refine JE.weak (env' := [(0, .slice a_0 q0.length c_0), (2, ptrAt (some ⟨g1, 0, none⟩) 0), (3, ptrAt (some ⟨g3, 0, none⟩) 0), (4, ptrAt (some ⟨g6, 0, none⟩) 0), (5, ptrAt (some ⟨g9, 0, none⟩) 0), (6, .int .i64 x11)]) (es' := [boxO 93 g1 [.int .i64 0, .int .i64 0], boxO 93 g3 [.int .i64 0, .int .i64 0], boxO 93 g6 [.int .i64 x16, .int .i64 x12.Y], boxO 93 g9 [.int .i64 x13.X, .int .i64 x13.Y]]) [0, 1, 3, 2] ?_ ⟨rfl, rfl, rfl, rfl, rfl, rfl, trivial⟩ (by decide) rfl
    refine JE.code ?_
    refine JX.seq ?_
    refine JX.drawH [(0, .pure), (1, .read0), (2, .pure), (3, .pure), (4, .pure), (5, .pure), (6, .read), (7, .must), (8, .pure), (9, .must)] [9] [2] [0, 1, 3] [boxO 93 g6 [.int .i64 x16, .int .i64 x12.Y]] [boxO 93 g1 [.int .i64 0, .int .i64 0], boxO 93 g3 [.int .i64 0, .int .i64 0], boxO 93 g9 [.int .i64 x13.X, .int .i64 x13.Y]] mixedP (by kernel_rfl) (by kernel_rfl) (by decide) rfl rfl ?_
    intro wrr17 Nr17 hFr17
    refine JH.pure rfl (yl_fieldAt (a := some _) Go.Proofs.Try.underlying93 rfl i2 i2n rfl rfl) rfl ?_
    refine JH.read0 rfl (yl_load1 Go.Proofs.Try.underlying2 rfl rfl (fun w hw => (rd_box hFr17.cl 2 rfl).bw hw) rfl) rfl ?_
    refine JH.pure rfl (yl_move rfl) rfl ?_
    refine JH.pure rfl (yl_move rfl) rfl ?_
    obtain ⟨x18, hx18, hres⟩ := bind_some hres
    refine JH.pure rfl (yl_idxQ Go.Proofs.Try.underlying22 i93 i93s rfl rfl hx18 rfl (rd_arg g_0 hFr17.cl) rfl) rfl ?_
    refine JH.pure rfl (yl_fieldAt Go.Proofs.Try.underlying93 rfl i2 i2n rfl (RdT.someQ (rd_arg g_0 hFr17.cl) hx18 rfl rfl)) rfl ?_
    refine JH.read rfl (yl_loadT1 Go.Proofs.Try.underlying2 rfl rfl hx18 (fun w hw => hFr17.arg g_0 hw) rfl) rfl ?_
    obtain ⟨x19, hx19, hres⟩ := bind_some hres
    refine JH.must rfl (ef_call (T := T185 x19) Go.Proofs.Try.func185 rfl (by kernel_rfl) rfl (fun w hC => c185  hx19)) rfl rfl ?_
    rintro _ _ ⟨_, ⟨rfl, rfl⟩, rfl⟩
    refine JH.pure rfl (yl_fieldAt (a := some _) Go.Proofs.Try.underlying93 rfl i2 i2n rfl rfl) rfl ?_
    refine JH.must rfl (ef_store_box (i := 0) (v := .int .i64 x19) i2 rfl rfl rfl (i2s).symm (Nat.le_of_ble_eq_true rfl) (by simp [Value.cells, Value.oneCell'])) rfl rfl ?_
    rintro _ _ rfl
    refine JH.nil ?_
    refine JE.weak (env' := [(0, .slice a_0 q0.length c_0), (2, ptrAt (some ⟨g1, 0, none⟩) 0), (3, ptrAt (some ⟨g3, 0, none⟩) 0), (4, ptrAt (some ⟨g6, 0, none⟩) 0), (5, ptrAt (some ⟨g9, 0, none⟩) 0), (6, .int .i64 x11)]) (es' := [boxO 93 g1 [.int .i64 0, .int .i64 0], boxO 93 g3 [.int .i64 0, .int .i64 0], boxO 93 g6 [.int .i64 x16, .int .i64 x19], boxO 93 g9 [.int .i64 x13.X, .int .i64 x13.Y]]) [0, 1, 3, 2] ?_ ⟨rfl, rfl, rfl, rfl, rfl, rfl, trivial⟩ (by decide) rfl
    refine JE.code ?_
    refine JX.seq ?_
    refine JX.drawH [(0, .pure), (1, .read0), (2, .pure), (3, .pure), (4, .pure), (5, .pure), (6, .read), (7, .must), (8, .pure), (9, .must)] [9] [3] [0, 1, 2] [boxO 93 g9 [.int .i64 x13.X, .int .i64 x13.Y]] [boxO 93 g1 [.int .i64 0, .int .i64 0], boxO 93 g3 [.int .i64 0, .int .i64 0], boxO 93 g6 [.int .i64 x16, .int .i64 x19]] mixedP (by kernel_rfl) (by kernel_rfl) (by decide) rfl rfl ?_
    intro wrr20 Nr20 hFr20
    refine JH.pure rfl (yl_fieldAt (a := some _) Go.Proofs.Try.underlying93 rfl i2 i2n rfl rfl) rfl ?_
    refine JH.read0 rfl (yl_load1 Go.Proofs.Try.underlying2 rfl rfl (fun w hw => (rd_box hFr20.cl 3 rfl).bw hw) rfl) rfl ?_
    refine JH.pure rfl (yl_move rfl) rfl ?_
    refine JH.pure rfl (yl_move rfl) rfl ?_
    obtain ⟨x21, hx21, hres⟩ := bind_some hres
    refine JH.pure rfl (yl_idxQ Go.Proofs.Try.underlying22 i93 i93s rfl rfl hx21 rfl (rd_arg g_0 hFr20.cl) rfl) rfl ?_
    refine JH.pure rfl (yl_fieldAt Go.Proofs.Try.underlying93 rfl i2 i2n rfl (RdT.someQ (rd_arg g_0 hFr20.cl) hx21 rfl rfl)) rfl ?_
    refine JH.read rfl (yl_loadT1 Go.Proofs.Try.underlying2 rfl rfl hx21 (fun w hw => hFr20.arg g_0 hw) rfl) rfl ?_
    obtain ⟨x22, hx22, hres⟩ := bind_some hres
    refine JH.must rfl (ef_call (T := T177 x22) Go.Proofs.Try.func177 rfl (by kernel_rfl) rfl (fun w hC => c177  hx22)) rfl rfl ?_
    rintro _ _ ⟨_, ⟨rfl, rfl⟩, rfl⟩
    refine JH.pure rfl (yl_fieldAt (a := some _) Go.Proofs.Try.underlying93 rfl i2 i2n rfl rfl) rfl ?_
    refine JH.must rfl (ef_store_box (i := 0) (v := .int .i64 x22) i2 rfl rfl rfl (i2s).symm (Nat.le_of_ble_eq_true rfl) (by simp [Value.cells, Value.oneCell'])) rfl rfl ?_
    rintro _ _ rfl
    refine JH.nil ?_
    refine JE.weak (env' := [(0, .slice a_0 q0.length c_0), (2, ptrAt (some ⟨g1, 0, none⟩) 0), (3, ptrAt (some ⟨g3, 0, none⟩) 0), (4, ptrAt (some ⟨g6, 0, none⟩) 0), (5, ptrAt (some ⟨g9, 0, none⟩) 0), (6, .int .i64 x11)]) (es' := [boxO 93 g1 [.int .i64 0, .int .i64 0], boxO 93 g3 [.int .i64 0, .int .i64 0], boxO 93 g6 [.int .i64 x16, .int .i64 x19], boxO 93 g9 [.int .i64 x22, .int .i64 x13.Y]]) [0, 1, 2, 3] ?_ ⟨rfl, rfl, rfl, rfl, rfl, rfl, trivial⟩ (by decide) rfl
    refine JE.code ?_
    refine JX.drawH [(0, .pure), (1, .read0), (2, .pure), (3, .pure), (4, .pure), (5, .pure), (6, .read), (7, .must), (8, .pure), (9, .must)] [9] [3] [0, 1, 2] [boxO 93 g9 [.int .i64 x22, .int .i64 x13.Y]] [boxO 93 g1 [.int .i64 0, .int .i64 0], boxO 93 g3 [.int .i64 0, .int .i64 0], boxO 93 g6 [.int .i64 x16, .int .i64 x19]] mixedP (by kernel_rfl) (by kernel_rfl) (by decide) rfl rfl ?_
    intro wrr23 Nr23 hFr23
    refine JH.pure rfl (yl_fieldAt (a := some _) Go.Proofs.Try.underlying93 rfl i2 i2n rfl rfl) rfl ?_
    refine JH.read0 rfl (yl_load1 Go.Proofs.Try.underlying2 rfl rfl (fun w hw => (rd_box hFr23.cl 3 rfl).bw hw) rfl) rfl ?_
    refine JH.pure rfl (yl_move rfl) rfl ?_
    refine JH.pure rfl (yl_move rfl) rfl ?_
    obtain ⟨x24, hx24, hres⟩ := bind_some hres
    refine JH.pure rfl (yl_idxQ Go.Proofs.Try.underlying22 i93 i93s rfl rfl hx24 rfl (rd_arg g_0 hFr23.cl) rfl) rfl ?_
    refine JH.pure rfl (yl_fieldAt Go.Proofs.Try.underlying93 rfl i2 i2n rfl (RdT.someQ (rd_arg g_0 hFr23.cl) hx24 rfl rfl)) rfl ?_
    refine JH.read rfl (yl_loadT1 Go.Proofs.Try.underlying2 rfl rfl hx24 (fun w hw => hFr23.arg g_0 hw) rfl) rfl ?_
    obtain ⟨x25, hx25, hres⟩ := bind_some hres
    refine JH.must rfl (ef_call (T := T177 x25) Go.Proofs.Try.func177 rfl (by kernel_rfl) rfl (fun w hC => c177  hx25)) rfl rfl ?_
    rintro _ _ ⟨_, ⟨rfl, rfl⟩, rfl⟩
    refine JH.pure rfl (yl_fieldAt (a := some _) Go.Proofs.Try.underlying93 rfl i2 i2n rfl rfl) rfl ?_
    refine JH.must rfl (ef_store_box (i := 0) (v := .int .i64 x25) i2 rfl rfl rfl (i2s).symm (Nat.le_of_ble_eq_true rfl) (by simp [Value.cells, Value.oneCell'])) rfl rfl ?_
    rintro _ _ rfl
    refine JH.nil ?_
    refine JE.weak (env' := [(0, .slice a_0 q0.length c_0), (2, ptrAt (some ⟨g1, 0, none⟩) 0), (3, ptrAt (some ⟨g3, 0, none⟩) 0), (4, ptrAt (some ⟨g6, 0, none⟩) 0), (5, ptrAt (some ⟨g9, 0, none⟩) 0), (6, .int .i64 x11)]) (es' := [boxO 93 g1 [.int .i64 0, .int .i64 0], boxO 93 g3 [.int .i64 0, .int .i64 0], boxO 93 g6 [.int .i64 x16, .int .i64 x19], boxO 93 g9 [.int .i64 x22, .int .i64 x25]]) [0, 1, 2, 3] ?_ ⟨rfl, rfl, rfl, rfl, rfl, rfl, trivial⟩ (by decide) rfl
    refine JE.code ?_
    refine JX.region ?_
    refine JL.val (yl_move rfl) rfl ?_
    refine JL.val (yl_add rfl rfl) rfl ?_
    refine JL.val (yl_assign rfl) rfl ?_
    refine JL.nil ?_
    refine JE.cont hres ?_
    exact fun a w h => h.weak ⟨rfl, rfl, rfl, rfl, rfl, rfl, trivial⟩ [0, 1, 2, 3] (by decide) rfl
  · refine JX.condF rfl hb ?_
    refine JX.exit ?_
    refine JE.qb rfl ?_
    obtain ⟨b1, hb1⟩ : ∃ b : SPoint × SPoint, b = (x12, x13) := ⟨_, rfl⟩
    have hy1 : b1 = y1 := by rw [hb1]; exact hox1 _ (Option.some.inj hres).symm
    have hres := hresO1
    rw [← hy1] at hres
    refine JE.weak (env' := [(2, ptrAt (some ⟨g1, 0, none⟩) 0), (3, ptrAt (some ⟨g3, 0, none⟩) 0), (4, ptrAt (some ⟨g6, 0, none⟩) 0), (5, ptrAt (some ⟨g9, 0, none⟩) 0)]) (es' := [boxO 93 g1 [.int .i64 0, .int .i64 0], boxO 93 g3 [.int .i64 0, .int .i64 0], boxO 93 g6 [.int .i64 b1.1.X, .int .i64 b1.1.Y], boxO 93 g9 [.int .i64 b1.2.X, .int .i64 b1.2.Y]]) [0, 1, 2, 3] ?_ ⟨(by subst hb1; rfl), (by subst hb1; rfl), (by subst hb1; rfl), (by subst hb1; rfl), trivial⟩ (by decide) (by subst hb1; rfl)
    refine JE.code ?_
    refine JX.seq ?_
    refine JX.drawH [(0, .read), (1, .read), (2, .must), (3, .must)] [2, 3] [0, 1] [2, 3] [boxO 93 g1 [.int .i64 0, .int .i64 0], boxO 93 g3 [.int .i64 0, .int .i64 0]] [boxO 93 g6 [.int .i64 b1.1.X, .int .i64 b1.1.Y], boxO 93 g9 [.int .i64 b1.2.X, .int .i64 b1.2.Y]] mixedP (by kernel_rfl) (by kernel_rfl) (by decide) rfl rfl ?_
    intro wrr26 Nr26 hFr26
    refine JH.read rfl (yl_loadn Go.Proofs.Try.underlying93 rfl i93 rfl (fun w hw => hFr26.box 2 rfl rfl hw) rfl (i93s).symm i93p) rfl ?_
    refine JH.read rfl (yl_loadn Go.Proofs.Try.underlying93 rfl i93 rfl (fun w hw => hFr26.box 3 rfl rfl hw) rfl (i93s).symm i93p) rfl ?_
    refine JH.must rfl (ef_store_box (i := 0) (v := .agg #[.int .i64 b1.1.X, .int .i64 b1.1.Y]) i93 rfl rfl rfl (i93s).symm (Nat.le_of_ble_eq_true rfl) (by simp [Value.cells, Value.oneCell'])) rfl rfl ?_
    rintro _ _ rfl
    refine JH.must rfl (ef_store_box (i := 1) (v := .agg #[.int .i64 b1.2.X, .int .i64 b1.2.Y]) i93 rfl rfl rfl (i93s).symm (Nat.le_of_ble_eq_true rfl) (by simp [Value.cells, Value.oneCell'])) rfl rfl ?_
    rintro _ _ rfl
    refine JH.nil ?_
    refine JE.weak (env' := [(2, ptrAt (some ⟨g1, 0, none⟩) 0), (3, ptrAt (some ⟨g3, 0, none⟩) 0)]) (es' := [boxO 93 g1 [.int .i64 b1.1.X, .int .i64 b1.1.Y], boxO 93 g3 [.int .i64 b1.2.X, .int .i64 b1.2.Y]]) [2, 3] ?_ ⟨rfl, rfl, trivial⟩ (by decide) rfl
    refine JE.code ?_
    refine JX.ret ?_
    obtain rfl := Option.some.inj hres
    refine JE.ret (rs := [.cell 2 93, .cell 3 93]) (vs := [.agg #[.int .i64 b1.1.X, .int .i64 b1.1.Y], .agg #[.int .i64 b1.2.X, .int .i64 b1.2.Y]]) rfl ⟨rv_box 0 rfl rfl Go.Proofs.Try.underlying93 rfl i93 (i93s).symm, rv_box 1 rfl rfl Go.Proofs.Try.underlying93 rfl i93 (i93s).symm, trivial⟩ ?_
    exact fun w' hb hs => ⟨_, _, ⟨rfl, rfl⟩, rfl, hb, hs.sel [] _ (by decide) rfl⟩

/- spec.l19Kind -/
def sh164 (q0 : List SPoint) (q1 : Int) : Option (Int) := Option.bind (sh165 q0) fun x1 => bif (decide ((w64 (2 * (w64 (x1.2.X - x1.1.X)))) < q1)) && (decide ((w64 (2 * (w64 (x1.2.Y - x1.1.Y)))) < q1)) then (some 0) else (bif decide ((w64 (2 * (w64 (x1.2.X - x1.1.X)))) ≤ (w64 (x1.2.Y - x1.1.Y))) then (some 1) else (bif decide ((w64 (2 * (w64 (x1.2.Y - x1.1.Y)))) ≤ (w64 (x1.2.X - x1.1.X))) then (some 2) else (some 3)))
def T164 (r : Int) (v : Value) (rs : List Own) : Prop := v = rets [.int .i64 r] ∧ rs = []
set_option maxRecDepth 100000 in
theorem c164 {w : World} {q0 : List SPoint} {a_0 : Option Addr} {n_0 c_0 : Nat} (g_0 : Rd w a_0 (eSPoint.fl q0)) (l_0 : q0.length = n_0) (k_0 : n_0 ≤ c_0) {q1 : Int} {r : Int} (hres : sh164 q0 q1 = some r) : Calls Go.Proofs.Try.prog 164 [.slice a_0 n_0 c_0, .int .i64 q1].toArray w (Ret w (T164 r)) := by
  subst l_0
  unfold sh164 at hres
  refine calls_of (n := 45) (M := []) (es := []) Go.Proofs.Try.func164 rfl rfl rfl (Sep.nil _ _ _) ?_
  refine JX.seq ?_
  refine JX.region ?_
  refine JL.val (yl_assign rfl) rfl ?_
  refine JL.nil ?_
  refine JE.code ?_
  refine JX.seq ?_
  refine JX.region ?_
  refine JL.val (yl_move rfl) rfl ?_
  obtain ⟨x1, hx1, hres⟩ := bind_some hres
  refine JL.eff (ef_call (T := T165 x1) Go.Proofs.Try.func165 rfl (by kernel_rfl) rfl (fun w hC => c165 (rd_arg g_0 hC) rfl k_0 hx1)) rfl ?_
  rintro _ _ ⟨_, ⟨rfl, rfl⟩, rfl⟩
  refine JL.val (yl_move rfl) rfl ?_
  refine JL.val (yl_extract rfl rfl) rfl ?_
  refine JL.val (yl_extract rfl rfl) rfl ?_
  refine JL.eff (ef_alloc i93 i93z rfl) rfl ?_
  rintro _ _ ⟨g2, rfl, rfl⟩
  refine JL.eff (ef_alloc i93 i93z rfl) rfl ?_
  rintro _ _ ⟨g4, rfl, rfl⟩
  refine JL.eff (ef_store_box (i := 0) (v := .agg #[.int .i64 x1.1.X, .int .i64 x1.1.Y]) i93 rfl rfl rfl (i93s).symm (Nat.le_of_ble_eq_true rfl) (by simp [Value.cells, Value.oneCell'])) rfl ?_
  rintro _ _ rfl
  refine JL.eff (ef_store_box (i := 1) (v := .agg #[.int .i64 x1.2.X, .int .i64 x1.2.Y]) i93 rfl rfl rfl (i93s).symm (Nat.le_of_ble_eq_true rfl) (by simp [Value.cells, Value.oneCell'])) rfl ?_
  rintro _ _ rfl
  refine JL.nil ?_
  refine JE.weak (env' := [(1, .int .i64 q1), (5, ptrAt (some ⟨g2, 0, none⟩) 0), (6, ptrAt (some ⟨g4, 0, none⟩) 0)]) (es' := [boxO 93 g2 [.int .i64 x1.1.X, .int .i64 x1.1.Y], boxO 93 g4 [.int .i64 x1.2.X, .int .i64 x1.2.Y]]) [0, 1] ?_ ⟨rfl, rfl, rfl, trivial⟩ (by decide) rfl
  refine JE.code ?_
  refine JX.seq ?_
  refine JX.region ?_
  refine JL.val (yl_fieldAt (a := some _) Go.Proofs.Try.underlying93 rfl i2 i2n rfl rfl) rfl ?_
  refine JL.val (yl_load1 Go.Proofs.Try.underlying2 rfl rfl (fun w hC => rd_box hC 1 rfl) rfl) rfl ?_
  refine JL.val (yl_fieldAt (a := some _) Go.Proofs.Try.underlying93 rfl i2 i2n rfl rfl) rfl ?_
  refine JL.val (yl_load1 Go.Proofs.Try.underlying2 rfl rfl (fun w hC => rd_box hC 0 rfl) rfl) rfl ?_
  refine JL.val (yl_sub rfl rfl) rfl ?_
  refine JL.val (yl_assign rfl) rfl ?_
  refine JL.nil ?_
  refine JE.weak (env' := [(1, .int .i64 q1), (5, ptrAt (some ⟨g2, 0, none⟩) 0), (6, ptrAt (some ⟨g4, 0, none⟩) 0), (7, .int .i64 (w64 (x1.2.X - x1.1.X)))]) (es' := [boxO 93 g2 [.int .i64 x1.1.X, .int .i64 x1.1.Y], boxO 93 g4 [.int .i64 x1.2.X, .int .i64 x1.2.Y]]) [0, 1] ?_ ⟨rfl, rfl, rfl, rfl, trivial⟩ (by decide) rfl
  refine JE.code ?_
  refine JX.seq ?_
  refine JX.region ?_
  refine JL.val (yl_fieldAt (a := some _) Go.Proofs.Try.underlying93 rfl i2 i2n rfl rfl) rfl ?_
  refine JL.val (yl_load1 Go.Proofs.Try.underlying2 rfl rfl (fun w hC => rd_box hC 1 rfl) rfl) rfl ?_
  refine JL.val (yl_fieldAt (a := some _) Go.Proofs.Try.underlying93 rfl i2 i2n rfl rfl) rfl ?_
  refine JL.val (yl_load1 Go.Proofs.Try.underlying2 rfl rfl (fun w hC => rd_box hC 0 rfl) rfl) rfl ?_
  refine JL.val (yl_sub rfl rfl) rfl ?_
  refine JL.val (yl_assign rfl) rfl ?_
  refine JL.nil ?_
  refine JE.weak (env' := [(1, .int .i64 q1), (7, .int .i64 (w64 (x1.2.X - x1.1.X))), (8, .int .i64 (w64 (x1.2.Y - x1.1.Y)))]) (es' := []) [] ?_ ⟨rfl, rfl, rfl, trivial⟩ (by decide) rfl
  refine JE.code ?_
  refine JX.seq ?_
  refine JX.block ?_
  refine JX.seq ?_
  refine JX.region ?_
  refine JL.val (yl_move rfl) rfl ?_
  refine JL.val (yl_mul rfl rfl) rfl ?_
  refine JL.val (yl_move rfl) rfl ?_
  refine JL.val (yl_lss rfl rfl) rfl ?_
  refine JL.val (yl_move rfl) rfl ?_
  refine JL.cut (K := fun J => J [(7, .int .i64 (w64 (x1.2.X - x1.1.X))), (8, .int .i64 (w64 (x1.2.Y - x1.1.Y))), (34, .bool ((decide ((w64 (2 * (w64 (x1.2.X - x1.1.X)))) < q1)) && (decide ((w64 (2 * (w64 (x1.2.Y - x1.1.Y)))) < q1))))] []) 5 ?_ ?_
  · refine JL.val (yl_assign rfl) rfl ?_
    refine JL.nil ?_
    refine JE.weak (env' := [(7, .int .i64 (w64 (x1.2.X - x1.1.X))), (8, .int .i64 (w64 (x1.2.Y - x1.1.Y))), (24, .bool ((decide ((w64 (2 * (w64 (x1.2.X - x1.1.X)))) < q1)) && (decide ((w64 (2 * (w64 (x1.2.Y - x1.1.Y)))) < q1))))]) (es' := []) [] ?_ ⟨rfl, rfl, rfl, trivial⟩ (by decide) rfl
    refine JE.code ?_
    rcases cond_some hres with ⟨hb, hres⟩ | ⟨hb, hres⟩
    · refine JX.condT rfl hb ?_
      refine JX.seq ?_
      refine JX.region ?_
      refine JL.val (yl_assign rfl) rfl ?_
      refine JL.nil ?_
      refine JE.code ?_
      refine JX.ret ?_
      refine JE.qbr ?_
      obtain rfl := Option.some.inj hres
      refine JE.ret (rs := [.tmp 4]) (vs := [.int .i64 0]) rfl ⟨rfl, trivial⟩ ?_
      exact fun w' hb hs => ⟨_, _, ⟨rfl, rfl⟩, rfl, hb, hs.sel [] _ (by decide) rfl⟩
    · refine JX.condF rfl hb ?_
      refine JX.seq ?_
      refine JX.region ?_
      refine JL.val (yl_move rfl) rfl ?_
      refine JL.val (yl_move rfl) rfl ?_
      refine JL.val (yl_mul rfl rfl) rfl ?_
      refine JL.val (yl_geq rfl rfl) rfl ?_
      refine JL.val (yl_assign rfl) rfl ?_
      refine JL.nil ?_
      refine JE.weak (env' := [(7, .int .i64 (w64 (x1.2.X - x1.1.X))), (8, .int .i64 (w64 (x1.2.Y - x1.1.Y))), (35, .bool (decide ((w64 (2 * (w64 (x1.2.X - x1.1.X)))) ≤ (w64 (x1.2.Y - x1.1.Y)))))]) (es' := []) [] ?_ ⟨rfl, rfl, rfl, trivial⟩ (by decide) rfl
      refine JE.code ?_
      rcases cond_some hres with ⟨hb, hres⟩ | ⟨hb, hres⟩
      · refine JX.condT rfl hb ?_
        refine JX.seq ?_
        refine JX.region ?_
        refine JL.val (yl_assign rfl) rfl ?_
        refine JL.nil ?_
        refine JE.code ?_
        refine JX.ret ?_
        refine JE.qbr ?_
        obtain rfl := Option.some.inj hres
        refine JE.ret (rs := [.tmp 4]) (vs := [.int .i64 1]) rfl ⟨rfl, trivial⟩ ?_
        exact fun w' hb hs => ⟨_, _, ⟨rfl, rfl⟩, rfl, hb, hs.sel [] _ (by decide) rfl⟩
      · refine JX.condF rfl hb ?_
        refine JX.seq ?_
        refine JX.region ?_
        refine JL.val (yl_move rfl) rfl ?_
        refine JL.val (yl_move rfl) rfl ?_
        refine JL.val (yl_mul rfl rfl) rfl ?_
        refine JL.val (yl_geq rfl rfl) rfl ?_
        refine JL.val (yl_assign rfl) rfl ?_
        refine JL.nil ?_
        refine JE.weak (env' := [(40, .bool (decide ((w64 (2 * (w64 (x1.2.Y - x1.1.Y)))) ≤ (w64 (x1.2.X - x1.1.X)))))]) (es' := []) [] ?_ ⟨rfl, trivial⟩ (by decide) rfl
        refine JE.code ?_
        rcases cond_some hres with ⟨hb, hres⟩ | ⟨hb, hres⟩
        · refine JX.condT rfl hb ?_
          refine JX.seq ?_
          refine JX.region ?_
          refine JL.val (yl_assign rfl) rfl ?_
          refine JL.nil ?_
          refine JE.code ?_
          refine JX.ret ?_
          refine JE.qbr ?_
          obtain rfl := Option.some.inj hres
          refine JE.ret (rs := [.tmp 4]) (vs := [.int .i64 2]) rfl ⟨rfl, trivial⟩ ?_
          exact fun w' hb hs => ⟨_, _, ⟨rfl, rfl⟩, rfl, hb, hs.sel [] _ (by decide) rfl⟩
        · refine JX.condF rfl hb ?_
          refine JX.skip ?_
          refine JE.code ?_
          refine JX.seq ?_
          refine JX.region ?_
          refine JL.val (yl_assign rfl) rfl ?_
          refine JL.nil ?_
          refine JE.code ?_
          refine JX.ret ?_
          obtain rfl := Option.some.inj hres
          refine JE.ret (rs := [.tmp 4]) (vs := [.int .i64 3]) rfl ⟨rfl, trivial⟩ ?_
          exact fun w' hb hs => ⟨_, _, ⟨rfl, rfl⟩, rfl, hb, hs.sel [] _ (by decide) rfl⟩
  · intro K
    rcases Bool.eq_false_or_eq_true (decide ((w64 (2 * (w64 (x1.2.X - x1.1.X)))) < q1)) with hb | hb
    · refine JL.set (d := 29) (v := .bool true) (congrArg (fun b => some (Value.bool b)) hb) ?_
      refine JL.gval rfl rfl (yl_move rfl) rfl ?_
      refine JL.gval rfl rfl (yl_mul rfl rfl) rfl ?_
      refine JL.gval rfl rfl (yl_move rfl) rfl ?_
      refine JL.gval rfl rfl (yl_lss rfl rfl) rfl ?_
      refine JL.val (yl_pick_true rfl rfl) rfl ?_
      exact JL.weak [] K ⟨rfl, rfl, (by rw [hb]; rfl), trivial⟩ (by decide) rfl
    · refine JL.set (d := 29) (v := .bool false) (congrArg (fun b => some (Value.bool b)) hb) ?_
      refine JL.gskip rfl rfl rfl rfl ?_
      refine JL.gskip rfl rfl rfl rfl ?_
      refine JL.gskip rfl rfl rfl rfl ?_
      refine JL.gskip rfl rfl rfl rfl ?_
      refine JL.val (yl_pick_false rfl rfl) rfl ?_
      exact JL.weak [] K ⟨rfl, rfl, (by rw [hb]; rfl), trivial⟩ (by decide) rfl

/- spec.l19Square -/
def sh186 (q0 : SPoint) (q1 : SPoint) (q2 : Int) : Option (Int) := some (w64 ((w64 ((w64 (q0.X - (w64 (q1.X * q2)))) * (w64 (q0.X - (w64 (q1.X * q2)))))) + (w64 ((w64 (q0.Y - (w64 (q1.Y * q2)))) * (w64 (q0.Y - (w64 (q1.Y * q2))))))))
def T186 (r : Int) (v : Value) (rs : List Own) : Prop := v = rets [.int .i64 r] ∧ rs = []
set_option maxRecDepth 100000 in
theorem c186 {w : World} {q0 : SPoint} {q1 : SPoint} {q2 : Int} {r : Int} (hres : sh186 q0 q1 q2 = some r) : Calls Go.Proofs.Try.prog 186 [.agg #[.int .i64 q0.X, .int .i64 q0.Y], .agg #[.int .i64 q1.X, .int .i64 q1.Y], .int .i64 q2].toArray w (Ret w (T186 r)) := by
  unfold sh186 at hres
  refine calls_of (n := 30) (M := []) (es := []) Go.Proofs.Try.func186 rfl rfl rfl (Sep.nil _ _ _) ?_
  refine JX.seq ?_
  refine JX.region ?_
  refine JL.eff (ef_box rfl rfl) rfl ?_
  rintro _ _ ⟨g1, rfl, rfl⟩
  refine JL.eff (ef_box rfl rfl) rfl ?_
  rintro _ _ ⟨g3, rfl, rfl⟩
  refine JL.val (yl_assign rfl) rfl ?_
  refine JL.nil ?_
  refine JE.code ?_
  refine JX.seq ?_
  refine JX.region ?_
  refine JL.val (yl_fieldAt (a := some _) Go.Proofs.Try.underlying93 rfl i2 i2n rfl rfl) rfl ?_
  refine JL.val (yl_load1 Go.Proofs.Try.underlying2 rfl rfl (fun w hC => rd_box hC 0 rfl) rfl) rfl ?_
  refine JL.val (yl_fieldAt (a := some _) Go.Proofs.Try.underlying93 rfl i2 i2n rfl rfl) rfl ?_
  refine JL.val (yl_load1 Go.Proofs.Try.underlying2 rfl rfl (fun w hC => rd_box hC 1 rfl) rfl) rfl ?_
  refine JL.val (yl_move rfl) rfl ?_
  refine JL.val (yl_mul rfl rfl) rfl ?_
  refine JL.val (yl_sub rfl rfl) rfl ?_
  refine JL.val (yl_assign rfl) rfl ?_
  refine JL.nil ?_
  refine JE.weak (env' := [(2, .int .i64 q2), (3, ptrAt (some ⟨g1, 0, none⟩) 0), (4, ptrAt (some ⟨g3, 0, none⟩) 0), (7, .int .i64 (w64 (q0.X - (w64 (q1.X * q2)))))]) (es' := [boxO 93 g1 [.int .i64 q0.X, .int .i64 q0.Y], boxO 93 g3 [.int .i64 q1.X, .int .i64 q1.Y]]) [0, 1] ?_ ⟨rfl, rfl, rfl, rfl, trivial⟩ (by decide) rfl
  refine JE.code ?_
  refine JX.seq ?_
  refine JX.region ?_
  refine JL.val (yl_fieldAt (a := some _) Go.Proofs.Try.underlying93 rfl i2 i2n rfl rfl) rfl ?_
  refine JL.val (yl_load1 Go.Proofs.Try.underlying2 rfl rfl (fun w hC => rd_box hC 0 rfl) rfl) rfl ?_
  refine JL.val (yl_fieldAt (a := some _) Go.Proofs.Try.underlying93 rfl i2 i2n rfl rfl) rfl ?_
  refine JL.val (yl_load1 Go.Proofs.Try.underlying2 rfl rfl (fun w hC => rd_box hC 1 rfl) rfl) rfl ?_
  refine JL.val (yl_move rfl) rfl ?_
  refine JL.val (yl_mul rfl rfl) rfl ?_
  refine JL.val (yl_sub rfl rfl) rfl ?_
  refine JL.val (yl_assign rfl) rfl ?_
  refine JL.nil ?_
  refine JE.weak (env' := [(7, .int .i64 (w64 (q0.X - (w64 (q1.X * q2))))), (8, .int .i64 (w64 (q0.Y - (w64 (q1.Y * q2)))))]) (es' := []) [] ?_ ⟨rfl, rfl, trivial⟩ (by decide) rfl
  refine JE.code ?_
  refine JX.seq ?_
  refine JX.region ?_
  refine JL.val (yl_move rfl) rfl ?_
  refine JL.val (yl_move rfl) rfl ?_
  refine JL.val (yl_mul rfl rfl) rfl ?_
  refine JL.val (yl_move rfl) rfl ?_
  refine JL.val (yl_move rfl) rfl ?_
  refine JL.val (yl_mul rfl rfl) rfl ?_
  refine JL.val (yl_add rfl rfl) rfl ?_
  refine JL.val (yl_assign rfl) rfl ?_
  refine JL.nil ?_
  refine JE.weak (env' := [(6, .int .i64 (w64 ((w64 ((w64 (q0.X - (w64 (q1.X * q2)))) * (w64 (q0.X - (w64 (q1.X * q2)))))) + (w64 ((w64 (q0.Y - (w64 (q1.Y * q2)))) * (w64 (q0.Y - (w64 (q1.Y * q2)))))))))]) (es' := []) [] ?_ ⟨rfl, trivial⟩ (by decide) rfl
  refine JE.code ?_
  refine JX.ret ?_
  obtain rfl := Option.some.inj hres
  refine JE.ret (rs := [.tmp 6]) (vs := [.int .i64 (w64 ((w64 ((w64 (q0.X - (w64 (q1.X * q2)))) * (w64 (q0.X - (w64 (q1.X * q2)))))) + (w64 ((w64 (q0.Y - (w64 (q1.Y * q2)))) * (w64 (q0.Y - (w64 (q1.Y * q2))))))))]) rfl ⟨rfl, trivial⟩ ?_
  exact fun w' hb hs => ⟨_, _, ⟨rfl, rfl⟩, rfl, hb, hs.sel [] _ (by decide) rfl⟩

/- spec.l19Near -/
def sh166_2 (q0 : SPanel) (q1 : SPoint) (q2 : Int) (x8 : Int) : (Int × Int × SPoint) → Option ((Int × Int × SPoint) ⊕ (Int × SPoint))
  | (x10, x11, x12) => bif decide (x11 ≤ (w64 (2 * q0.W))) then (Option.bind (sh186 q1 (SPoint.mk x11 x8) q2) fun x13 => Option.bind (bif decide (x13 < x10) then (some (x13, SPoint.mk x11 x8)) else (some (x10, x12))) fun j14 => (some (.inl (j14.1, w64 (x11 + 2), j14.2)))) else (some (.inr (x10, x12)))
def sh166_1 (q0 : SPanel) (q1 : SPoint) (q2 : Int) : (Int × Int × SPoint) → Option ((Int × Int × SPoint) ⊕ (Int × SPoint))
  | (x7, x8, x9) => bif decide (x8 ≤ (w64 (2 * q0.H))) then (Option.bind (iter (sh166_2 q0 q1 q2 x8) (x7, w64 (1 - (x8.tmod 2)), x9)) fun b2 => (some (.inl (b2.1, w64 (x8 + 1), b2.2)))) else (some (.inr (x7, x9)))
def sh166 (q0 : SPanel) (q1 : SPoint) (q2 : Int) : Option (SPoint × Bool) := Option.bind (iter (sh166_1 q0 q1 q2) (w64 ((w64 (q2 * q2)) + 1), 0, SPoint.mk 0 0)) fun b1 => (some (b1.2, decide (b1.1 ≤ (w64 (q2 * q2)))))
def T166 (r : SPoint × Bool) (v : Value) (rs : List Own) : Prop := v = rets [.agg #[.int .i64 r.1.X, .int .i64 r.1.Y], .bool r.2] ∧ rs = []
set_option maxRecDepth 100000 in
theorem c166 {w : World} {q0 : SPanel} {a_0 : Option Addr} {n_0 : Nat} {a_0_2 : Option Addr} {n_0_2 c_0_2 : Nat} (g_0 : RdAt w a_0 n_0 [.int .i64 q0.W, .int .i64 q0.H, .slice a_0_2 n_0_2 c_0_2]) (g_0_2 : Rd w a_0_2 (eI64.fl q0.Breaks)) (l_0_2 : q0.Breaks.length = n_0_2) (k_0_2 : n_0_2 ≤ c_0_2) {q1 : SPoint} {q2 : Int} {r : SPoint × Bool} (hres : sh166 q0 q1 q2 = some r) : Calls Go.Proofs.Try.prog 166 [ptrAt a_0 n_0, .agg #[.int .i64 q1.X, .int .i64 q1.Y], .int .i64 q2].toArray w (Ret w (T166 r)) := by
  subst l_0_2
  obtain ⟨b_0, e_0, g_0⟩ := g_0.norm0
  rw [e_0]
  unfold sh166 at hres
  refine calls_of (n := 58) (M := []) (es := []) Go.Proofs.Try.func166 rfl rfl rfl (Sep.nil _ _ _) ?_
  refine JX.seq ?_
  refine JX.region ?_
  refine JL.eff (ef_box rfl rfl) rfl ?_
  rintro _ _ ⟨g1, rfl, rfl⟩
  refine JL.eff (ef_alloc i93 i93z rfl) rfl ?_
  rintro _ _ ⟨g3, rfl, rfl⟩
  refine JL.val (yl_assign rfl) rfl ?_
  refine JL.nil ?_
  refine JE.code ?_
  refine JX.seq ?_
  refine JX.region ?_
  refine JL.val (yl_build rfl (fun w => bld93_  w)) rfl ?_
  refine JL.eff (ef_alloc i93 i93z rfl) rfl ?_
  rintro _ _ ⟨g5, rfl, rfl⟩
  refine JL.eff (ef_store_box (i := 2) (v := .agg #[.int .i64 0, .int .i64 0]) i93 rfl rfl rfl (i93s).symm (Nat.le_of_ble_eq_true rfl) (by simp [Value.cells, Value.oneCell'])) rfl ?_
  rintro _ _ rfl
  refine JL.nil ?_
  refine JE.code ?_
  refine JX.seq ?_
  refine JX.region ?_
  refine JL.val (yl_move rfl) rfl ?_
  refine JL.val (yl_move rfl) rfl ?_
  refine JL.val (yl_mul rfl rfl) rfl ?_
  refine JL.val (yl_add rfl rfl) rfl ?_
  refine JL.val (yl_assign rfl) rfl ?_
  refine JL.nil ?_
  refine JE.weak (env' := [(0, ptrAt b_0 0), (2, .int .i64 q2), (4, ptrAt (some ⟨g1, 0, none⟩) 0), (6, ptrAt (some ⟨g3, 0, none⟩) 0), (8, ptrAt (some ⟨g5, 0, none⟩) 0), (9, .int .i64 (w64 ((w64 (q2 * q2)) + 1)))]) (es' := [boxO 93 g1 [.int .i64 q1.X, .int .i64 q1.Y], boxO 93 g3 [.int .i64 0, .int .i64 0], boxO 93 g5 [.int .i64 0, .int .i64 0]]) [0, 1, 2] ?_ ⟨rfl, rfl, rfl, rfl, rfl, rfl, trivial⟩ (by decide) rfl
  refine JE.code ?_
  refine JX.seq ?_
  refine JX.seq ?_
  refine JX.region ?_
  refine JL.val (yl_assign rfl) rfl ?_
  refine JL.nil ?_
  refine JE.code ?_
  refine JX.block ?_
  obtain ⟨y1, hy1, hresO1⟩ := bind_some hres
  refine JX.loop (I := fun (s1 : Int × Int × SPoint) aa ww => St w [] 58 [(0, ptrAt b_0 0), (2, .int .i64 q2), (4, ptrAt (some ⟨g1, 0, none⟩) 0), (6, ptrAt (some ⟨g3, 0, none⟩) 0), (8, ptrAt (some ⟨g5, 0, none⟩) 0), (9, .int .i64 s1.1), (10, .int .i64 s1.2.1)] [boxO 93 g1 [.int .i64 q1.X, .int .i64 q1.Y], boxO 93 g3 [.int .i64 0, .int .i64 0], boxO 93 g5 [.int .i64 s1.2.2.X, .int .i64 s1.2.2.Y]] aa ww) (sh166_1 q0 q1 q2) hy1 (fun a w h => h.weak ⟨rfl, rfl, rfl, rfl, rfl, rfl, rfl, trivial⟩ [0, 1, 2] (by decide) rfl) ?_
  rintro ⟨x7, x8, x9⟩ o1 hres hox1 aa ww hS
  refine (?_ : JX Go.Proofs.Try.prog w [] 58 _ _ [(0, ptrAt b_0 0), (2, .int .i64 q2), (4, ptrAt (some ⟨g1, 0, none⟩) 0), (6, ptrAt (some ⟨g3, 0, none⟩) 0), (8, ptrAt (some ⟨g5, 0, none⟩) 0), (9, .int .i64 x7), (10, .int .i64 x8)] [boxO 93 g1 [.int .i64 q1.X, .int .i64 q1.Y], boxO 93 g3 [.int .i64 0, .int .i64 0], boxO 93 g5 [.int .i64 x9.X, .int .i64 x9.Y]] _) aa ww hS
  clear hS
  simp only [sh166_1] at hres
  refine JX.seq ?_
  refine JX.seq ?_
  refine JX.region ?_
  refine JL.val (yl_move rfl) rfl ?_
  refine JL.val (yl_move rfl) rfl ?_
  refine JL.val (yl_nilCheckAt rfl (Rd.some g_0 (j := 0) rfl)) rfl ?_
  refine JL.val (yl_fieldAt Go.Proofs.Try.underlying39 rfl i2 i2n rfl (Rd.some g_0 (j := 0) rfl)) rfl ?_
  refine JL.val (yl_load1 Go.Proofs.Try.underlying2 rfl rfl (fun w hC => rd_arg g_0 hC) rfl) rfl ?_
  refine JL.val (yl_mul rfl rfl) rfl ?_
  refine JL.val (yl_leq rfl rfl) rfl ?_
  refine JL.nil ?_
  refine JE.weak (env' := [(0, ptrAt b_0 0), (2, .int .i64 q2), (4, ptrAt (some ⟨g1, 0, none⟩) 0), (6, ptrAt (some ⟨g3, 0, none⟩) 0), (8, ptrAt (some ⟨g5, 0, none⟩) 0), (9, .int .i64 x7), (10, .int .i64 x8), (24, .bool (decide (x8 ≤ (w64 (2 * q0.H)))))]) (es' := [boxO 93 g1 [.int .i64 q1.X, .int .i64 q1.Y], boxO 93 g3 [.int .i64 0, .int .i64 0], boxO 93 g5 [.int .i64 x9.X, .int .i64 x9.Y]]) [0, 1, 2] ?_ ⟨rfl, rfl, rfl, rfl, rfl, rfl, rfl, rfl, trivial⟩ (by decide) rfl
  refine JE.code ?_
  rcases cond_some hres with ⟨hb, hres⟩ | ⟨hb, hres⟩
  · refine JX.condT rfl hb ?_
    refine JX.skip ?_
    refine JE.code ?_
    refine JX.seq ?_
    refine JX.block ?_
    refine JX.seq ?_
    refine JX.region ?_
    refine JL.val (yl_move rfl) rfl ?_
    refine JL.val (yl_rem rfl rfl (by decide)) rfl ?_
    refine JL.val (yl_sub rfl rfl) rfl ?_
    refine JL.val (yl_assign rfl) rfl ?_
    refine JL.nil ?_
    refine JE.weak (env' := [(0, ptrAt b_0 0), (2, .int .i64 q2), (4, ptrAt (some ⟨g1, 0, none⟩) 0), (6, ptrAt (some ⟨g3, 0, none⟩) 0), (8, ptrAt (some ⟨g5, 0, none⟩) 0), (9, .int .i64 x7), (10, .int .i64 x8), (11, .int .i64 (w64 (1 - (x8.tmod 2))))]) (es' := [boxO 93 g1 [.int .i64 q1.X, .int .i64 q1.Y], boxO 93 g3 [.int .i64 0, .int .i64 0], boxO 93 g5 [.int .i64 x9.X, .int .i64 x9.Y]]) [0, 1, 2] ?_ ⟨rfl, rfl, rfl, rfl, rfl, rfl, rfl, rfl, trivial⟩ (by decide) rfl
    refine JE.code ?_
    refine JX.block ?_
    obtain ⟨y2, hy2, hresO2⟩ := bind_some hres
    refine JX.loop (I := fun (s2 : Int × Int × SPoint) aa ww => St w [] 58 [(0, ptrAt b_0 0), (2, .int .i64 q2), (4, ptrAt (some ⟨g1, 0, none⟩) 0), (6, ptrAt (some ⟨g3, 0, none⟩) 0), (8, ptrAt (some ⟨g5, 0, none⟩) 0), (9, .int .i64 s2.1), (10, .int .i64 x8), (11, .int .i64 s2.2.1)] [boxO 93 g1 [.int .i64 q1.X, .int .i64 q1.Y], boxO 93 g3 [.int .i64 0, .int .i64 0], boxO 93 g5 [.int .i64 s2.2.2.X, .int .i64 s2.2.2.Y]] aa ww) (sh166_2 q0 q1 q2 x8) hy2 (fun a w h => h.weak ⟨rfl, rfl, rfl, rfl, rfl, rfl, rfl, rfl, trivial⟩ [0, 1, 2] (by decide) rfl) ?_
    rintro ⟨x10, x11, x12⟩ o2 hres hox2 aa ww hS
    refine (?_ : JX Go.Proofs.Try.prog w [] 58 _ _ [(0, ptrAt b_0 0), (2, .int .i64 q2), (4, ptrAt (some ⟨g1, 0, none⟩) 0), (6, ptrAt (some ⟨g3, 0, none⟩) 0), (8, ptrAt (some ⟨g5, 0, none⟩) 0), (9, .int .i64 x10), (10, .int .i64 x8), (11, .int .i64 x11)] [boxO 93 g1 [.int .i64 q1.X, .int .i64 q1.Y], boxO 93 g3 [.int .i64 0, .int .i64 0], boxO 93 g5 [.int .i64 x12.X, .int .i64 x12.Y]] _) aa ww hS
    clear hS
    simp only [sh166_2] at hres
    refine JX.seq ?_
    refine JX.seq ?_
    refine JX.region ?_
    refine JL.val (yl_move rfl) rfl ?_
    refine JL.val (yl_move rfl) rfl ?_
    refine JL.val (yl_nilCheckAt rfl (Rd.some g_0 (j := 0) rfl)) rfl ?_
    refine JL.val (yl_fieldAt Go.Proofs.Try.underlying39 rfl i2 i2n rfl (Rd.some g_0 (j := 0) rfl)) rfl ?_
    refine JL.val (yl_load1 Go.Proofs.Try.underlying2 rfl rfl (fun w hC => rd_arg g_0 hC) rfl) rfl ?_
    refine JL.val (yl_mul rfl rfl) rfl ?_
    refine JL.val (yl_leq rfl rfl) rfl ?_
    refine JL.nil ?_
    refine JE.weak (env' := [(0, ptrAt b_0 0), (2, .int .i64 q2), (4, ptrAt (some ⟨g1, 0, none⟩) 0), (6, ptrAt (some ⟨g3, 0, none⟩) 0), (8, ptrAt (some ⟨g5, 0, none⟩) 0), (9, .int .i64 x10), (10, .int .i64 x8), (11, .int .i64 x11), (36, .bool (decide (x11 ≤ (w64 (2 * q0.W)))))]) (es' := [boxO 93 g1 [.int .i64 q1.X, .int .i64 q1.Y], boxO 93 g3 [.int .i64 0, .int .i64 0], boxO 93 g5 [.int .i64 x12.X, .int .i64 x12.Y]]) [0, 1, 2] ?_ ⟨rfl, rfl, rfl, rfl, rfl, rfl, rfl, rfl, rfl, trivial⟩ (by decide) rfl
    refine JE.code ?_
    rcases cond_some hres with ⟨hb, hres⟩ | ⟨hb, hres⟩
    · refine JX.condT rfl hb ?_
      refine JX.skip ?_
      refine JE.code ?_
      refine JX.seq ?_
      refine JX.block ?_
      refine JX.seq ?_
      refine JX.region ?_
      refine JL.val (yl_loadn Go.Proofs.Try.underlying93 rfl i93 rfl (fun w hC => rd_box hC 0 rfl) rfl (i93s).symm i93p) rfl ?_
      refine JL.val (yl_move rfl) rfl ?_
      refine JL.val (yl_move rfl) rfl ?_
      refine JL.val (yl_build rfl (fun w => bld93_0_1 x11 x8 w)) rfl ?_
      refine JL.val (yl_move rfl) rfl ?_
      obtain ⟨x13, hx13, hres⟩ := bind_some hres
      refine JL.eff (ef_call (vs := [.agg #[.int .i64 q1.X, .int .i64 q1.Y], .agg #[.int .i64 x11, .int .i64 x8], .int .i64 q2]) (T := T186 x13) Go.Proofs.Try.func186 rfl (by kernel_rfl) rfl (fun w hC => c186 (q0 := q1) (q1 := SPoint.mk x11 x8) hx13)) rfl ?_
      rintro _ _ ⟨_, ⟨rfl, rfl⟩, rfl⟩
      refine JL.val (yl_assign rfl) rfl ?_
      refine JL.nil ?_
      refine JE.weak (env' := [(0, ptrAt b_0 0), (2, .int .i64 q2), (4, ptrAt (some ⟨g1, 0, none⟩) 0), (6, ptrAt (some ⟨g3, 0, none⟩) 0), (8, ptrAt (some ⟨g5, 0, none⟩) 0), (9, .int .i64 x10), (10, .int .i64 x8), (11, .int .i64 x11), (12, .int .i64 x13)]) (es' := [boxO 93 g1 [.int .i64 q1.X, .int .i64 q1.Y], boxO 93 g3 [.int .i64 0, .int .i64 0], boxO 93 g5 [.int .i64 x12.X, .int .i64 x12.Y]]) [0, 1, 2] ?_ ⟨rfl, rfl, rfl, rfl, rfl, rfl, rfl, rfl, rfl, trivial⟩ (by decide) rfl
      refine JE.code ?_
      refine JX.seq ?_
      refine JX.region ?_
      refine JL.val (yl_move rfl) rfl ?_
      refine JL.val (yl_move rfl) rfl ?_
      refine JL.val (yl_lss rfl rfl) rfl ?_
      refine JL.nil ?_
      refine JE.code ?_
      obtain ⟨j14, hj14, hresj14⟩ := bind_some hres
      refine JX.cut (K := fun J => J [(0, ptrAt b_0 0), (2, .int .i64 q2), (4, ptrAt (some ⟨g1, 0, none⟩) 0), (6, ptrAt (some ⟨g3, 0, none⟩) 0), (8, ptrAt (some ⟨g5, 0, none⟩) 0), (9, .int .i64 j14.1), (10, .int .i64 x8), (11, .int .i64 x11)] [boxO 93 g1 [.int .i64 q1.X, .int .i64 q1.Y], boxO 93 g3 [.int .i64 0, .int .i64 0], boxO 93 g5 [.int .i64 j14.2.X, .int .i64 j14.2.Y]]) ?_ ?_
      · have hres := hresj14
        refine JE.code ?_
        refine JX.region ?_
        refine JL.val (yl_move rfl) rfl ?_
        refine JL.val (yl_add rfl rfl) rfl ?_
        refine JL.val (yl_assign rfl) rfl ?_
        refine JL.nil ?_
        refine JE.cont hres ?_
        exact fun a w h => h.weak ⟨rfl, rfl, rfl, rfl, rfl, rfl, rfl, rfl, trivial⟩ [0, 1, 2] (by decide) rfl
      · intro K
        rcases cond_some hj14 with ⟨hb, hres⟩ | ⟨hb, hres⟩
        · refine JX.condT rfl hb ?_
          refine JX.seq ?_
          refine JX.region ?_
          refine JL.val (yl_move rfl) rfl ?_
          refine JL.val (yl_assign rfl) rfl ?_
          refine JL.nil ?_
          refine JE.code ?_
          refine JX.region ?_
          refine JL.val (yl_move rfl) rfl ?_
          refine JL.val (yl_move rfl) rfl ?_
          refine JL.val (yl_build rfl (fun w => bld93_0_1 x11 x8 w)) rfl ?_
          refine JL.eff (ef_store_box (i := 2) (v := .agg #[.int .i64 x11, .int .i64 x8]) i93 rfl rfl rfl (i93s).symm (Nat.le_of_ble_eq_true rfl) (by simp [Value.cells, Value.oneCell'])) rfl ?_
          rintro _ _ rfl
          refine JL.nil ?_
          refine JE.weak (env' := [(0, ptrAt b_0 0), (2, .int .i64 q2), (4, ptrAt (some ⟨g1, 0, none⟩) 0), (6, ptrAt (some ⟨g3, 0, none⟩) 0), (8, ptrAt (some ⟨g5, 0, none⟩) 0), (9, .int .i64 x13), (10, .int .i64 x8), (11, .int .i64 x11)]) (es' := [boxO 93 g1 [.int .i64 q1.X, .int .i64 q1.Y], boxO 93 g3 [.int .i64 0, .int .i64 0], boxO 93 g5 [.int .i64 x11, .int .i64 x8]]) [0, 1, 2] ?_ ⟨rfl, rfl, rfl, rfl, rfl, rfl, rfl, rfl, trivial⟩ (by decide) rfl
          have hj := Option.some.inj hres
          exact JE.weak [0, 1, 2] (K) ⟨(by subst hj; rfl), (by subst hj; rfl), (by subst hj; rfl), (by subst hj; rfl), (by subst hj; rfl), (by subst hj; rfl), (by subst hj; rfl), (by subst hj; rfl), trivial⟩ (by decide) (by subst hj; rfl)
        · refine JX.condF rfl hb ?_
          refine JX.skip ?_
          have hj := Option.some.inj hres
          exact JE.weak [0, 1, 2] (K) ⟨(by subst hj; rfl), (by subst hj; rfl), (by subst hj; rfl), (by subst hj; rfl), (by subst hj; rfl), (by subst hj; rfl), (by subst hj; rfl), (by subst hj; rfl), trivial⟩ (by decide) (by subst hj; rfl)
    · refine JX.condF rfl hb ?_
      refine JX.exit ?_
      refine JE.qb rfl ?_
      obtain ⟨b2, hb2⟩ : ∃ b : Int × SPoint, b = (x10, x12) := ⟨_, rfl⟩
      have hy2 : b2 = y2 := by rw [hb2]; exact hox2 _ (Option.some.inj hres).symm
      have hres := hresO2
      rw [← hy2] at hres
      refine JE.weak (env' := [(0, ptrAt b_0 0), (2, .int .i64 q2), (4, ptrAt (some ⟨g1, 0, none⟩) 0), (6, ptrAt (some ⟨g3, 0, none⟩) 0), (8, ptrAt (some ⟨g5, 0, none⟩) 0), (9, .int .i64 b2.1), (10, .int .i64 x8)]) (es' := [boxO 93 g1 [.int .i64 q1.X, .int .i64 q1.Y], boxO 93 g3 [.int .i64 0, .int .i64 0], boxO 93 g5 [.int .i64 b2.2.X, .int .i64 b2.2.Y]]) [0, 1, 2] ?_ ⟨(by subst hb2; rfl), (by subst hb2; rfl), (by subst hb2; rfl), (by subst hb2; rfl), (by subst hb2; rfl), (by subst hb2; rfl), (by subst hb2; rfl), trivial⟩ (by decide) (by subst hb2; rfl)
      refine JE.code ?_
      refine JX.region ?_
      refine JL.val (yl_move rfl) rfl ?_
      refine JL.val (yl_add rfl rfl) rfl ?_
      refine JL.val (yl_assign rfl) rfl ?_
      refine JL.nil ?_
      refine JE.cont hres ?_
      exact fun a w h => h.weak ⟨rfl, rfl, rfl, rfl, rfl, rfl, rfl, trivial⟩ [0, 1, 2] (by decide) rfl
  · refine JX.condF rfl hb ?_
    refine JX.exit ?_
    refine JE.qb rfl ?_
    obtain ⟨b1, hb1⟩ : ∃ b : Int × SPoint, b = (x7, x9) := ⟨_, rfl⟩
    have hy1 : b1 = y1 := by rw [hb1]; exact hox1 _ (Option.some.inj hres).symm
    have hres := hresO1
    rw [← hy1] at hres
    refine JE.weak (env' := [(2, .int .i64 q2), (6, ptrAt (some ⟨g3, 0, none⟩) 0), (8, ptrAt (some ⟨g5, 0, none⟩) 0), (9, .int .i64 b1.1)]) (es' := [boxO 93 g3 [.int .i64 0, .int .i64 0], boxO 93 g5 [.int .i64 b1.2.X, .int .i64 b1.2.Y]]) [1, 2] ?_ ⟨(by subst hb1; rfl), (by subst hb1; rfl), (by subst hb1; rfl), (by subst hb1; rfl), trivial⟩ (by decide) (by subst hb1; rfl)
    refine JE.code ?_
    refine JX.seq ?_
    refine JX.region ?_
    refine JL.val (yl_loadn Go.Proofs.Try.underlying93 rfl i93 rfl (fun w hC => rd_box hC 1 rfl) rfl (i93s).symm i93p) rfl ?_
    refine JL.val (yl_move rfl) rfl ?_
    refine JL.val (yl_move rfl) rfl ?_
    refine JL.val (yl_move rfl) rfl ?_
    refine JL.val (yl_mul rfl rfl) rfl ?_
    refine JL.val (yl_leq rfl rfl) rfl ?_
    refine JL.eff (ef_store_box (i := 0) (v := .agg #[.int .i64 b1.2.X, .int .i64 b1.2.Y]) i93 rfl rfl rfl (i93s).symm (Nat.le_of_ble_eq_true rfl) (by simp [Value.cells, Value.oneCell'])) rfl ?_
    rintro _ _ rfl
    refine JL.val (yl_assign rfl) rfl ?_
    refine JL.nil ?_
    refine JE.weak (env' := [(6, ptrAt (some ⟨g3, 0, none⟩) 0), (7, .bool (decide (b1.1 ≤ (w64 (q2 * q2)))))]) (es' := [boxO 93 g3 [.int .i64 b1.2.X, .int .i64 b1.2.Y]]) [0] ?_ ⟨rfl, rfl, trivial⟩ (by decide) rfl
    refine JE.code ?_
    refine JX.ret ?_
    obtain rfl := Option.some.inj hres
    refine JE.ret (rs := [.cell 6 93, .tmp 7]) (vs := [.agg #[.int .i64 b1.2.X, .int .i64 b1.2.Y], .bool (decide (b1.1 ≤ (w64 (q2 * q2))))]) rfl ⟨rv_box 0 rfl rfl Go.Proofs.Try.underlying93 rfl i93 (i93s).symm, rfl, trivial⟩ ?_
    exact fun w' hb hs => ⟨_, _, ⟨rfl, rfl⟩, rfl, hb, hs.sel [] _ (by decide) rfl⟩

/- spec.l02Edge -/
def sh167 (q0 : SPanel) (q1 : SPoint) : Option (Bool) := some ((((q1.X == 0) || (q1.Y == 0)) || (q1.X == (w64 (2 * q0.W)))) || (q1.Y == (w64 (2 * q0.H))))
def T167 (r : Bool) (v : Value) (rs : List Own) : Prop := v = rets [.bool r] ∧ rs = []
set_option maxRecDepth 100000 in
theorem c167 {w : World} {q0 : SPanel} {a_0 : Option Addr} {n_0 : Nat} {a_0_2 : Option Addr} {n_0_2 c_0_2 : Nat} (g_0 : RdAt w a_0 n_0 [.int .i64 q0.W, .int .i64 q0.H, .slice a_0_2 n_0_2 c_0_2]) (g_0_2 : Rd w a_0_2 (eI64.fl q0.Breaks)) (l_0_2 : q0.Breaks.length = n_0_2) (k_0_2 : n_0_2 ≤ c_0_2) {q1 : SPoint} {r : Bool} (hres : sh167 q0 q1 = some r) : Calls Go.Proofs.Try.prog 167 [ptrAt a_0 n_0, .agg #[.int .i64 q1.X, .int .i64 q1.Y]].toArray w (Ret w (T167 r)) := by
  subst l_0_2
  obtain ⟨b_0, e_0, g_0⟩ := g_0.norm0
  rw [e_0]
  unfold sh167 at hres
  refine calls_of (n := 33) (M := []) (es := []) Go.Proofs.Try.func167 rfl rfl rfl (Sep.nil _ _ _) ?_
  refine JX.seq ?_
  refine JX.region ?_
  refine JL.eff (ef_box rfl rfl) rfl ?_
  rintro _ _ ⟨g1, rfl, rfl⟩
  refine JL.val (yl_assign rfl) rfl ?_
  refine JL.nil ?_
  refine JE.code ?_
  refine JX.seq ?_
  refine JX.drawH [(0, .pure), (1, .read), (2, .pure), (3, .pure), (4, .pure), (5, .read), (6, .pure), (7, .pure), (8, .pure), (9, .pure), (10, .read), (11, .pure), (12, .pure), (13, .pure), (14, .read), (15, .pure), (16, .pure), (17, .pure), (18, .pure), (19, .pure), (20, .read), (21, .pure), (22, .pure), (23, .pure), (24, .read), (25, .pure), (26, .pure), (27, .pure), (28, .pure)] [] [] [0] [] [boxO 93 g1 [.int .i64 q1.X, .int .i64 q1.Y]] mixedP (by kernel_rfl) (by kernel_rfl) (by decide) rfl rfl ?_
  intro wrr3 Nr3 hFr3
  refine JH.pure rfl (yl_fieldAt (a := some _) Go.Proofs.Try.underlying93 rfl i2 i2n rfl rfl) rfl ?_
  refine JH.read rfl (yl_load1 Go.Proofs.Try.underlying2 rfl rfl (fun w hw => hFr3.box 0 rfl rfl hw) rfl) rfl ?_
  refine JH.pure rfl (yl_eql rfl rfl) rfl ?_
  refine JH.pure rfl (yl_move rfl) rfl ?_
  refine JH.cut (K := fun J => J [(0, ptrAt b_0 0), (3, ptrAt (some ⟨g1, 0, none⟩) 0), (12, .bool ((q1.X == 0) || (q1.Y == 0)))] []) 4 ?_ ?_
  · refine JH.pure rfl (yl_move rfl) rfl ?_
    refine JH.cut (K := fun J => J [(0, ptrAt b_0 0), (3, ptrAt (some ⟨g1, 0, none⟩) 0), (22, .bool (((q1.X == 0) || (q1.Y == 0)) || (q1.X == (w64 (2 * q0.W)))))] []) 9 ?_ ?_
    · refine JH.pure rfl (yl_move rfl) rfl ?_
      refine JH.cut (K := fun J => J [(32, .bool ((((q1.X == 0) || (q1.Y == 0)) || (q1.X == (w64 (2 * q0.W)))) || (q1.Y == (w64 (2 * q0.H)))))] []) 9 ?_ ?_
      · refine JH.pure rfl (yl_assign rfl) rfl ?_
        refine JH.nil ?_
        refine JE.weak (env' := [(4, .bool ((((q1.X == 0) || (q1.Y == 0)) || (q1.X == (w64 (2 * q0.W)))) || (q1.Y == (w64 (2 * q0.H)))))]) (es' := []) [] ?_ ⟨rfl, trivial⟩ (by decide) rfl
        refine JE.code ?_
        refine JX.ret ?_
        obtain rfl := Option.some.inj hres
        refine JE.ret (rs := [.tmp 4]) (vs := [.bool ((((q1.X == 0) || (q1.Y == 0)) || (q1.X == (w64 (2 * q0.W)))) || (q1.Y == (w64 (2 * q0.H))))]) rfl ⟨rfl, trivial⟩ ?_
        exact fun w' hb hs => ⟨_, _, ⟨rfl, rfl⟩, rfl, hb, hs.sel [] _ (by decide) rfl⟩
      · intro K
        rcases Bool.eq_false_or_eq_true (((q1.X == 0) || (q1.Y == 0)) || (q1.X == (w64 (2 * q0.W)))) with hb | hb
        · refine JH.set (d := 23) (v := .bool true) (congrArg (fun b => some (Value.bool b)) hb) ?_
          refine JH.gskip rfl rfl rfl rfl rfl rfl ?_
          refine JH.gskip rfl rfl rfl rfl rfl rfl ?_
          refine JH.gskip rfl rfl rfl rfl rfl rfl ?_
          refine JH.gskip rfl rfl rfl rfl rfl rfl ?_
          refine JH.gskip rfl rfl rfl rfl rfl rfl ?_
          refine JH.gskip rfl rfl rfl rfl rfl rfl ?_
          refine JH.gskip rfl rfl rfl rfl rfl rfl ?_
          refine JH.gskip rfl rfl rfl rfl rfl rfl ?_
          refine JH.pure rfl (yl_pick_true rfl rfl) rfl ?_
          exact JH.weak [] K ⟨(by rw [hb]; rfl), trivial⟩ (by decide) rfl
        · refine JH.set (d := 23) (v := .bool false) (congrArg (fun b => some (Value.bool b)) hb) ?_
          refine JH.gpure rfl rfl rfl (yl_fieldAt (a := some _) Go.Proofs.Try.underlying93 rfl i2 i2n rfl rfl) rfl ?_
          refine JH.gread rfl rfl rfl (yl_load1 Go.Proofs.Try.underlying2 rfl rfl (fun w hw => hFr3.box 0 rfl rfl hw) rfl) rfl ?_
          refine JH.gpure rfl rfl rfl (yl_move rfl) rfl ?_
          refine JH.gpure rfl rfl rfl (yl_nilCheckAt rfl (Rd.some g_0 (j := 0) rfl)) rfl ?_
          refine JH.gpure rfl rfl rfl (yl_fieldAt Go.Proofs.Try.underlying39 rfl i2 i2n rfl (Rd.some g_0 (j := 0) rfl)) rfl ?_
          refine JH.gread rfl rfl rfl (yl_load1 Go.Proofs.Try.underlying2 rfl rfl (fun w hw => hFr3.arg g_0 hw) rfl) rfl ?_
          refine JH.gpure rfl rfl rfl (yl_mul rfl rfl) rfl ?_
          refine JH.gpure rfl rfl rfl (yl_eql rfl rfl) rfl ?_
          refine JH.pure rfl (yl_pick_false rfl rfl) rfl ?_
          exact JH.weak [] K ⟨(by rw [hb]; rfl), trivial⟩ (by decide) rfl
    · intro K
      rcases Bool.eq_false_or_eq_true ((q1.X == 0) || (q1.Y == 0)) with hb | hb
      · refine JH.set (d := 13) (v := .bool true) (congrArg (fun b => some (Value.bool b)) hb) ?_
        refine JH.gskip rfl rfl rfl rfl rfl rfl ?_
        refine JH.gskip rfl rfl rfl rfl rfl rfl ?_
        refine JH.gskip rfl rfl rfl rfl rfl rfl ?_
        refine JH.gskip rfl rfl rfl rfl rfl rfl ?_
        refine JH.gskip rfl rfl rfl rfl rfl rfl ?_
        refine JH.gskip rfl rfl rfl rfl rfl rfl ?_
        refine JH.gskip rfl rfl rfl rfl rfl rfl ?_
        refine JH.gskip rfl rfl rfl rfl rfl rfl ?_
        refine JH.pure rfl (yl_pick_true rfl rfl) rfl ?_
        exact JH.weak [] K ⟨rfl, rfl, (by rw [hb]; rfl), trivial⟩ (by decide) rfl
      · refine JH.set (d := 13) (v := .bool false) (congrArg (fun b => some (Value.bool b)) hb) ?_
        refine JH.gpure rfl rfl rfl (yl_fieldAt (a := some _) Go.Proofs.Try.underlying93 rfl i2 i2n rfl rfl) rfl ?_
        refine JH.gread rfl rfl rfl (yl_load1 Go.Proofs.Try.underlying2 rfl rfl (fun w hw => hFr3.box 0 rfl rfl hw) rfl) rfl ?_
        refine JH.gpure rfl rfl rfl (yl_move rfl) rfl ?_
        refine JH.gpure rfl rfl rfl (yl_nilCheckAt rfl (Rd.some g_0 (j := 0) rfl)) rfl ?_
        refine JH.gpure rfl rfl rfl (yl_fieldAt Go.Proofs.Try.underlying39 rfl i2 i2n rfl (Rd.some g_0 (j := 0) rfl)) rfl ?_
        refine JH.gread rfl rfl rfl (yl_load1 Go.Proofs.Try.underlying2 rfl rfl (fun w hw => hFr3.arg g_0 hw) rfl) rfl ?_
        refine JH.gpure rfl rfl rfl (yl_mul rfl rfl) rfl ?_
        refine JH.gpure rfl rfl rfl (yl_eql rfl rfl) rfl ?_
        refine JH.pure rfl (yl_pick_false rfl rfl) rfl ?_
        exact JH.weak [] K ⟨rfl, rfl, (by rw [hb]; rfl), trivial⟩ (by decide) rfl
  · intro K
    rcases Bool.eq_false_or_eq_true (q1.X == 0) with hb | hb
    · refine JH.set (d := 8) (v := .bool true) (congrArg (fun b => some (Value.bool b)) hb) ?_
      refine JH.gskip rfl rfl rfl rfl rfl rfl ?_
      refine JH.gskip rfl rfl rfl rfl rfl rfl ?_
      refine JH.gskip rfl rfl rfl rfl rfl rfl ?_
      refine JH.pure rfl (yl_pick_true rfl rfl) rfl ?_
      exact JH.weak [] K ⟨rfl, rfl, (by rw [hb]; rfl), trivial⟩ (by decide) rfl
    · refine JH.set (d := 8) (v := .bool false) (congrArg (fun b => some (Value.bool b)) hb) ?_
      refine JH.gpure rfl rfl rfl (yl_fieldAt (a := some _) Go.Proofs.Try.underlying93 rfl i2 i2n rfl rfl) rfl ?_
      refine JH.gread rfl rfl rfl (yl_load1 Go.Proofs.Try.underlying2 rfl rfl (fun w hw => hFr3.box 0 rfl rfl hw) rfl) rfl ?_
      refine JH.gpure rfl rfl rfl (yl_eql rfl rfl) rfl ?_
      refine JH.pure rfl (yl_pick_false rfl rfl) rfl ?_
      exact JH.weak [] K ⟨rfl, rfl, (by rw [hb]; rfl), trivial⟩ (by decide) rfl

/- spec.l02Row -/
def sh187_1 (q0 : SPanel) (q1 : Int) : (Int × Int) → Option ((Int × Int) ⊕ (Int))
  | (x1, x2) => bif decide (x2 < q1) then (Option.bind (bif (x2.tmod 2) == 1 then (some (w64 ((w64 (x1 + q0.W)) - 1))) else (some (w64 (x1 + q0.W)))) fun j3 => (some (.inl (j3, w64 (x2 + 1))))) else (some (.inr x1))
def sh187 (q0 : SPanel) (q1 : Int) : Option (Int) := Option.bind (iter (sh187_1 q0 q1) (0, 1)) fun b1 => (some b1)
def T187 (r : Int) (v : Value) (rs : List Own) : Prop := v = rets [.int .i64 r] ∧ rs = []
set_option maxRecDepth 100000 in
theorem c187 {w : World} {q0 : SPanel} {a_0 : Option Addr} {n_0 : Nat} {a_0_2 : Option Addr} {n_0_2 c_0_2 : Nat} (g_0 : RdAt w a_0 n_0 [.int .i64 q0.W, .int .i64 q0.H, .slice a_0_2 n_0_2 c_0_2]) (g_0_2 : Rd w a_0_2 (eI64.fl q0.Breaks)) (l_0_2 : q0.Breaks.length = n_0_2) (k_0_2 : n_0_2 ≤ c_0_2) {q1 : Int} {r : Int} (hres : sh187 q0 q1 = some r) : Calls Go.Proofs.Try.prog 187 [ptrAt a_0 n_0, .int .i64 q1].toArray w (Ret w (T187 r)) := by
  subst l_0_2
  obtain ⟨b_0, e_0, g_0⟩ := g_0.norm0
  rw [e_0]
  unfold sh187 at hres
  refine calls_of (n := 24) (M := []) (es := []) Go.Proofs.Try.func187 rfl rfl rfl (Sep.nil _ _ _) ?_
  refine JX.seq ?_
  refine JX.region ?_
  refine JL.val (yl_assign rfl) rfl ?_
  refine JL.nil ?_
  refine JE.code ?_
  refine JX.seq ?_
  refine JX.region ?_
  refine JL.val (yl_assign rfl) rfl ?_
  refine JL.nil ?_
  refine JE.code ?_
  refine JX.seq ?_
  refine JX.seq ?_
  refine JX.region ?_
  refine JL.val (yl_assign rfl) rfl ?_
  refine JL.nil ?_
  refine JE.code ?_
  refine JX.block ?_
  obtain ⟨y1, hy1, hresO1⟩ := bind_some hres
  refine JX.loop (I := fun (s1 : Int × Int) aa ww => St w [] 24 [(0, ptrAt b_0 0), (1, .int .i64 q1), (5, .int .i64 s1.1), (6, .int .i64 s1.2)] [] aa ww) (sh187_1 q0 q1) hy1 (fun a w h => h.weak ⟨rfl, rfl, rfl, rfl, trivial⟩ [] (by decide) rfl) ?_
  rintro ⟨x1, x2⟩ o1 hres hox1 aa ww hS
  refine (?_ : JX Go.Proofs.Try.prog w [] 24 _ _ [(0, ptrAt b_0 0), (1, .int .i64 q1), (5, .int .i64 x1), (6, .int .i64 x2)] [] _) aa ww hS
  clear hS
  simp only [sh187_1] at hres
  refine JX.seq ?_
  refine JX.seq ?_
  refine JX.region ?_
  refine JL.val (yl_move rfl) rfl ?_
  refine JL.val (yl_move rfl) rfl ?_
  refine JL.val (yl_lss rfl rfl) rfl ?_
  refine JL.nil ?_
  refine JE.code ?_
  rcases cond_some hres with ⟨hb, hres⟩ | ⟨hb, hres⟩
  · refine JX.condT rfl hb ?_
    refine JX.skip ?_
    refine JE.code ?_
    refine JX.seq ?_
    refine JX.block ?_
    refine JX.seq ?_
    refine JX.region ?_
    refine JL.val (yl_move rfl) rfl ?_
    refine JL.val (yl_move rfl) rfl ?_
    refine JL.val (yl_nilCheckAt rfl (Rd.some g_0 (j := 0) rfl)) rfl ?_
    refine JL.val (yl_fieldAt Go.Proofs.Try.underlying39 rfl i2 i2n rfl (Rd.some g_0 (j := 0) rfl)) rfl ?_
    refine JL.val (yl_load1 Go.Proofs.Try.underlying2 rfl rfl (fun w hC => rd_arg g_0 hC) rfl) rfl ?_
    refine JL.val (yl_add rfl rfl) rfl ?_
    refine JL.val (yl_assign rfl) rfl ?_
    refine JL.nil ?_
    refine JE.weak (env' := [(0, ptrAt b_0 0), (1, .int .i64 q1), (5, .int .i64 (w64 (x1 + q0.W))), (6, .int .i64 x2)]) (es' := []) [] ?_ ⟨rfl, rfl, rfl, rfl, trivial⟩ (by decide) rfl
    refine JE.code ?_
    refine JX.seq ?_
    refine JX.region ?_
    refine JL.val (yl_move rfl) rfl ?_
    refine JL.val (yl_rem rfl rfl (by decide)) rfl ?_
    refine JL.val (yl_eql rfl rfl) rfl ?_
    refine JL.nil ?_
    refine JE.code ?_
    obtain ⟨j3, hj3, hresj3⟩ := bind_some hres
    refine JX.cut (K := fun J => J [(0, ptrAt b_0 0), (1, .int .i64 q1), (5, .int .i64 j3), (6, .int .i64 x2)] []) ?_ ?_
    · have hres := hresj3
      refine JE.code ?_
      refine JX.region ?_
      refine JL.val (yl_move rfl) rfl ?_
      refine JL.val (yl_add rfl rfl) rfl ?_
      refine JL.val (yl_assign rfl) rfl ?_
      refine JL.nil ?_
      refine JE.cont hres ?_
      exact fun a w h => h.weak ⟨rfl, rfl, rfl, rfl, trivial⟩ [] (by decide) rfl
    · intro K
      rcases cond_some hj3 with ⟨hb, hres⟩ | ⟨hb, hres⟩
      · refine JX.condT rfl hb ?_
        refine JX.region ?_
        refine JL.val (yl_move rfl) rfl ?_
        refine JL.val (yl_sub rfl rfl) rfl ?_
        refine JL.val (yl_assign rfl) rfl ?_
        refine JL.nil ?_
        have hj := Option.some.inj hres
        exact JE.weak [] (K) ⟨(by subst hj; rfl), (by subst hj; rfl), (by subst hj; rfl), (by subst hj; rfl), trivial⟩ (by decide) (by subst hj; rfl)
      · refine JX.condF rfl hb ?_
        refine JX.skip ?_
        have hj := Option.some.inj hres
        exact JE.weak [] (K) ⟨(by subst hj; rfl), (by subst hj; rfl), (by subst hj; rfl), (by subst hj; rfl), trivial⟩ (by decide) (by subst hj; rfl)
  · refine JX.condF rfl hb ?_
    refine JX.exit ?_
    refine JE.qb rfl ?_
    obtain ⟨b1, hb1⟩ : ∃ b : Int, b = x1 := ⟨_, rfl⟩
    have hy1 : b1 = y1 := by rw [hb1]; exact hox1 _ (Option.some.inj hres).symm
    have hres := hresO1
    rw [← hy1] at hres
    refine JE.weak (env' := [(5, .int .i64 b1)]) (es' := []) [] ?_ ⟨(by subst hb1; rfl), trivial⟩ (by decide) (by subst hb1; rfl)
    refine JE.code ?_
    refine JX.seq ?_
    refine JX.region ?_
    refine JL.val (yl_move rfl) rfl ?_
    refine JL.val (yl_assign rfl) rfl ?_
    refine JL.nil ?_
    refine JE.code ?_
    refine JX.ret ?_
    obtain rfl := Option.some.inj hres
    refine JE.ret (rs := [.tmp 4]) (vs := [.int .i64 b1]) rfl ⟨rfl, trivial⟩ ?_
    exact fun w' hb hs => ⟨_, _, ⟨rfl, rfl⟩, rfl, hb, hs.sel [] _ (by decide) rfl⟩

/- spec.l02Number -/
def sh168 (q0 : SPanel) (q1 : SPoint) : Option (Int) := Option.bind (sh187 q0 q1.Y) fun x4 => some (w64 (x4 + (w64 ((w64 (q1.X - 1)).tdiv 2))))
def T168 (r : Int) (v : Value) (rs : List Own) : Prop := v = rets [.int .i64 r] ∧ rs = []
set_option maxRecDepth 100000 in
theorem c168 {w : World} {q0 : SPanel} {a_0 : Option Addr} {n_0 : Nat} {a_0_2 : Option Addr} {n_0_2 c_0_2 : Nat} (g_0 : RdAt w a_0 n_0 [.int .i64 q0.W, .int .i64 q0.H, .slice a_0_2 n_0_2 c_0_2]) (g_0_2 : Rd w a_0_2 (eI64.fl q0.Breaks)) (l_0_2 : q0.Breaks.length = n_0_2) (k_0_2 : n_0_2 ≤ c_0_2) {q1 : SPoint} {r : Int} (hres : sh168 q0 q1 = some r) : Calls Go.Proofs.Try.prog 168 [ptrAt a_0 n_0, .agg #[.int .i64 q1.X, .int .i64 q1.Y]].toArray w (Ret w (T168 r)) := by
  subst l_0_2
  obtain ⟨b_0, e_0, g_0⟩ := g_0.norm0
  rw [e_0]
  unfold sh168 at hres
  refine calls_of (n := 14) (M := []) (es := []) Go.Proofs.Try.func168 rfl rfl rfl (Sep.nil _ _ _) ?_
  refine JX.seq ?_
  refine JX.region ?_
  refine JL.eff (ef_box rfl rfl) rfl ?_
  rintro _ _ ⟨g1, rfl, rfl⟩
  refine JL.val (yl_assign rfl) rfl ?_
  refine JL.nil ?_
  refine JE.code ?_
  refine JX.seq ?_
  refine JX.drawH [(0, .pure), (1, .pure), (2, .read), (4, .pure), (5, .read), (6, .pure), (7, .pure), (3, .must), (8, .pure), (9, .pure)] [] [] [0] [] [boxO 93 g1 [.int .i64 q1.X, .int .i64 q1.Y]] mixedP (by kernel_rfl) (by kernel_rfl) (by decide) rfl rfl ?_
  intro wrr3 Nr3 hFr3
  refine JH.pure rfl (yl_move rfl) rfl ?_
  refine JH.pure rfl (yl_fieldAt (a := some _) Go.Proofs.Try.underlying93 rfl i2 i2n rfl rfl) rfl ?_
  refine JH.read rfl (yl_load1 Go.Proofs.Try.underlying2 rfl rfl (fun w hw => hFr3.box 0 rfl rfl hw) rfl) rfl ?_
  refine JH.pure rfl (yl_fieldAt (a := some _) Go.Proofs.Try.underlying93 rfl i2 i2n rfl rfl) rfl ?_
  refine JH.read rfl (yl_load1 Go.Proofs.Try.underlying2 rfl rfl (fun w hw => hFr3.box 0 rfl rfl hw) rfl) rfl ?_
  refine JH.pure rfl (yl_sub rfl rfl) rfl ?_
  refine JH.pure rfl (yl_quo rfl rfl (by decide)) rfl ?_
  obtain ⟨x4, hx4, hres⟩ := bind_some hres
  refine JH.must rfl (ef_call (T := T187 x4) Go.Proofs.Try.func187 rfl (by kernel_rfl) rfl (fun w hC => c187 (RdAt.of0 (hFr3.arg g_0 hC.1)) (hFr3.arg g_0_2 hC.1) rfl k_0_2 hx4)) rfl rfl ?_
  rintro _ _ ⟨_, ⟨rfl, rfl⟩, rfl⟩
  refine JH.pure rfl (yl_add rfl rfl) rfl ?_
  refine JH.pure rfl (yl_assign rfl) rfl ?_
  refine JH.nil ?_
  refine JE.weak (env' := [(4, .int .i64 (w64 (x4 + (w64 ((w64 (q1.X - 1)).tdiv 2)))))]) (es' := []) [] ?_ ⟨rfl, trivial⟩ (by decide) rfl
  refine JE.code ?_
  refine JX.ret ?_
  obtain rfl := Option.some.inj hres
  refine JE.ret (rs := [.tmp 4]) (vs := [.int .i64 (w64 (x4 + (w64 ((w64 (q1.X - 1)).tdiv 2))))]) rfl ⟨rfl, trivial⟩ ?_
  exact fun w' hb hs => ⟨_, _, ⟨rfl, rfl⟩, rfl, hb, hs.sel [] _ (by decide) rfl⟩

end Go.Sh
