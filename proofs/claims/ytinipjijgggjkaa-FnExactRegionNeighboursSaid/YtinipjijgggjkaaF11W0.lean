/- Walks through functions that the law reaches, printed by program. -/
import Derived.Test.YtinipjijgggjkaaF11T
set_option linter.unusedVariables false
set_option linter.unusedSimpArgs false
namespace Go.Sh
open Go Go.RowKit
/- laws.szInt64S -/
def sh81 (q0 : List Int) (q1 : Int) : Option (Int) := bif decide ((w64 (q1 - (q0.length : Int))) < 0) then (some (-1)) else (some (w64 (q1 - (q0.length : Int))))
def T81 (r : Int) (v : Value) (rs : List Own) : Prop := v = rets [.int .i64 r] ∧ rs = []
set_option maxRecDepth 100000 in
theorem c81 {w : World} {q0 : List Int} {a_0 : Option Addr} {n_0 c_0 : Nat} (g_0 : Rd w a_0 (eI64.fl q0)) (l_0 : q0.length = n_0) (k_0 : n_0 ≤ c_0) {q1 : Int} {r : Int} (hres : sh81 q0 q1 = some r) : Calls Go.Proofs.Try.prog 81 [.slice a_0 n_0 c_0, .int .i64 q1].toArray w (Ret w (T81 r)) := by
  subst l_0
  unfold sh81 at hres
  refine calls_of (n := 12) (M := []) (es := []) Go.Proofs.Try.func81 rfl rfl rfl (Sep.nil _ _ _) ?_
  refine JX.seq ?_
  refine JX.region ?_
  refine JL.val (yl_assign rfl) rfl ?_
  refine JL.nil ?_
  refine JE.code ?_
  refine JX.seq ?_
  refine JX.region ?_
  refine JL.val (yl_move rfl) rfl ?_
  refine JL.val (yl_move rfl) rfl ?_
  refine JL.val (yl_len_slice Go.Proofs.Try.underlying22 rfl) rfl ?_
  refine JL.val (yl_sub rfl rfl) rfl ?_
  refine JL.val (yl_assign rfl) rfl ?_
  refine JL.nil ?_
  refine JE.weak (env' := [(1, .int .i64 (w64 (q1 - (q0.length : Int))))]) (es' := []) [] ?_ ⟨rfl, trivial⟩ (by decide) rfl
  refine JE.code ?_
  refine JX.seq ?_
  refine JX.seq ?_
  refine JX.region ?_
  refine JL.val (yl_move rfl) rfl ?_
  refine JL.val (yl_lss rfl rfl) rfl ?_
  refine JL.nil ?_
  refine JE.code ?_
  rcases cond_some hres with ⟨hb, hres⟩ | ⟨hb, hres⟩
  · refine JX.condT rfl hb ?_
    refine JX.seq ?_
    refine JX.region ?_
    refine JL.val (yl_assign rfl) rfl ?_
    refine JL.nil ?_
    refine JE.code ?_
    refine JX.ret ?_
    obtain rfl := Option.some.inj hres
    refine JE.ret (rs := [.tmp 4]) (vs := [.int .i64 (-1)]) rfl ⟨rfl, trivial⟩ ?_
    exact fun w' hb hs => ⟨_, _, ⟨rfl, rfl⟩, rfl, hb, hs.sel [] _ (by decide) rfl⟩
  · refine JX.condF rfl hb ?_
    refine JX.skip ?_
    refine JE.code ?_
    refine JX.seq ?_
    refine JX.region ?_
    refine JL.val (yl_move rfl) rfl ?_
    refine JL.val (yl_assign rfl) rfl ?_
    refine JL.nil ?_
    refine JE.code ?_
    refine JX.ret ?_
    obtain rfl := Option.some.inj hres
    refine JE.ret (rs := [.tmp 4]) (vs := [.int .i64 (w64 (q1 - (q0.length : Int)))]) rfl ⟨rfl, trivial⟩ ?_
    exact fun w' hb hs => ⟨_, _, ⟨rfl, rfl⟩, rfl, hb, hs.sel [] _ (by decide) rfl⟩

/- laws.szPanel -/
def sh15 (q0 : SPanel) (q1 : Int) : Option (Int) := Option.bind (sh81 q0.Breaks q1) fun x3 => bif decide (x3 < 0) then (some (-1)) else (some x3)
def T15 (r : Int) (v : Value) (rs : List Own) : Prop := v = rets [.int .i64 r] ∧ rs = []
set_option maxRecDepth 100000 in
theorem c15 {w : World} {q0 : SPanel} {a_0_2 : Option Addr} {n_0_2 c_0_2 : Nat} (g_0_2 : Rd w a_0_2 (eI64.fl q0.Breaks)) (l_0_2 : q0.Breaks.length = n_0_2) (k_0_2 : n_0_2 ≤ c_0_2) {q1 : Int} {r : Int} (hres : sh15 q0 q1 = some r) : Calls Go.Proofs.Try.prog 15 [.agg #[.int .i64 q0.W, .int .i64 q0.H, .slice a_0_2 n_0_2 c_0_2], .int .i64 q1].toArray w (Ret w (T15 r)) := by
  subst l_0_2
  unfold sh15 at hres
  refine calls_of (n := 12) (M := []) (es := []) Go.Proofs.Try.func15 rfl rfl rfl (Sep.nil _ _ _) ?_
  refine JX.seq ?_
  refine JX.region ?_
  refine JL.eff (ef_box rfl rfl) rfl ?_
  rintro _ _ ⟨g1, rfl, rfl⟩
  refine JL.val (yl_assign rfl) rfl ?_
  refine JL.nil ?_
  refine JE.code ?_
  refine JX.seq ?_
  refine JX.region ?_
  refine JL.val (yl_fieldAt (a := some _) Go.Proofs.Try.underlying24 rfl i22 i22n rfl rfl) rfl ?_
  refine JL.val (yl_load1 Go.Proofs.Try.underlying22 rfl rfl (fun w hC => rd_box hC 0 rfl) rfl) rfl ?_
  refine JL.val (yl_move rfl) rfl ?_
  obtain ⟨x3, hx3, hres⟩ := bind_some hres
  refine JL.eff (ef_call (T := T81 x3) Go.Proofs.Try.func81 rfl (by kernel_rfl) rfl (fun w hC => c81 (rd_arg g_0_2 hC) rfl k_0_2 hx3)) rfl ?_
  rintro _ _ ⟨_, ⟨rfl, rfl⟩, rfl⟩
  refine JL.val (yl_assign rfl) rfl ?_
  refine JL.nil ?_
  refine JE.weak (env' := [(1, .int .i64 x3)]) (es' := []) [] ?_ ⟨rfl, trivial⟩ (by decide) rfl
  refine JE.code ?_
  refine JX.seq ?_
  refine JX.seq ?_
  refine JX.region ?_
  refine JL.val (yl_move rfl) rfl ?_
  refine JL.val (yl_lss rfl rfl) rfl ?_
  refine JL.nil ?_
  refine JE.code ?_
  rcases cond_some hres with ⟨hb, hres⟩ | ⟨hb, hres⟩
  · refine JX.condT rfl hb ?_
    refine JX.seq ?_
    refine JX.region ?_
    refine JL.val (yl_assign rfl) rfl ?_
    refine JL.nil ?_
    refine JE.code ?_
    refine JX.ret ?_
    obtain rfl := Option.some.inj hres
    refine JE.ret (rs := [.tmp 4]) (vs := [.int .i64 (-1)]) rfl ⟨rfl, trivial⟩ ?_
    exact fun w' hb hs => ⟨_, _, ⟨rfl, rfl⟩, rfl, hb, hs.sel [] _ (by decide) rfl⟩
  · refine JX.condF rfl hb ?_
    refine JX.skip ?_
    refine JE.code ?_
    refine JX.seq ?_
    refine JX.region ?_
    refine JL.val (yl_move rfl) rfl ?_
    refine JL.val (yl_assign rfl) rfl ?_
    refine JL.nil ?_
    refine JE.code ?_
    refine JX.ret ?_
    obtain rfl := Option.some.inj hres
    refine JE.ret (rs := [.tmp 4]) (vs := [.int .i64 x3]) rfl ⟨rfl, trivial⟩ ?_
    exact fun w' hb hs => ⟨_, _, ⟨rfl, rfl⟩, rfl, hb, hs.sel [] _ (by decide) rfl⟩

/- laws.toInt64S -/
def sh32_1 (q0 : List Int) : (Int × List Int) → Option ((Int × List Int) ⊕ (List Int))
  | (x5, x6) => bif decide (x5 < (q0.length : Int)) then (Option.bind (getI q0 x5) fun x8 => Option.bind (getI x6 x5) fun x9 => some (.inl (w64 (x5 + 1), x6.set (x5).toNat x8))) else (some (.inr x6))
def sh32 (q0 : List Int) : Option (List Int) := Option.bind (mkL (q0.length : Int) 0) fun x1 => Option.bind (iter (sh32_1 q0) (0, x1)) fun b1 => (some b1)
def T32 (r : List Int) (v : Value) (rs : List Own) : Prop := ∃ (a0 : Option Addr) (n0 c0 : Nat), r.length = n0 ∧ v = rets [.slice a0 n0 c0] ∧ rs = [rowT 2 eI64 a0 n0 c0 r]
set_option maxRecDepth 100000 in
theorem c32 {w : World} {q0 : List Int} {a_0 : Option Addr} {n_0 c_0 : Nat} (g_0 : Rd w a_0 (eI64.fl q0)) (l_0 : q0.length = n_0) (k_0 : n_0 ≤ c_0) {r : List Int} (hres : sh32 q0 = some r) : Calls Go.Proofs.Try.prog 32 [.slice a_0 n_0 c_0].toArray w (Ret w (T32 r)) := by
  subst l_0
  unfold sh32 at hres
  refine calls_of (n := 22) (M := []) (es := []) Go.Proofs.Try.func32 rfl rfl rfl (Sep.nil _ _ _) ?_
  refine JX.seq ?_
  refine JX.region ?_
  refine JL.val (yl_assign rfl) rfl ?_
  refine JL.nil ?_
  refine JE.code ?_
  refine JX.seq ?_
  refine JX.region ?_
  refine JL.val (yl_move rfl) rfl ?_
  refine JL.val (yl_len_slice Go.Proofs.Try.underlying22 rfl) rfl ?_
  obtain ⟨x1, hx1, hres⟩ := bind_some hres
  refine JL.eff (ef_makeS (e := eI64) Go.Proofs.Try.underlying22 i2 i2s i2z rfl i2b1 rfl rfl hx1) rfl ?_
  rintro _ _ ⟨a2, rfl, rfl⟩
  refine JL.val (yl_assign rfl) rfl ?_
  refine JL.nil ?_
  refine JE.weak (env' := [(0, .slice a_0 q0.length c_0), (3, .slice a2 x1.length x1.length)]) (es' := [rowT 2 eI64 a2 x1.length x1.length x1]) [0] ?_ ⟨rfl, rfl, trivial⟩ (by decide) rfl
  refine JE.code ?_
  refine JX.seq ?_
  refine JX.seq ?_
  refine JX.region ?_
  refine JL.val (yl_assign rfl) rfl ?_
  refine JL.nil ?_
  refine JE.code ?_
  refine JX.block ?_
  obtain ⟨y1, hy1, hresO1⟩ := bind_some hres
  refine JX.loop (I := fun (s1 : Int × List Int) aa ww => ∃ (l4 : s1.2.length = x1.length), St w [] 22 [(0, .slice a_0 q0.length c_0), (3, .slice a2 x1.length x1.length), (4, .int .i64 s1.1)] [rowT 2 eI64 a2 x1.length x1.length s1.2] aa ww) (sh32_1 q0) hy1 (fun a w h => ⟨rfl, h.weak ⟨rfl, rfl, rfl, trivial⟩ [0] (by decide) rfl⟩) ?_
  rintro ⟨x5, x6⟩ o1 hres hox1 aa ww ⟨l7, hS⟩
  refine (?_ : JX Go.Proofs.Try.prog w [] 22 _ _ [(0, .slice a_0 q0.length c_0), (3, .slice a2 x1.length x1.length), (4, .int .i64 x5)] [rowT 2 eI64 a2 x1.length x1.length x6] _) aa ww hS
  clear hS
  simp only [sh32_1] at hres
  refine JX.seq ?_
  refine JX.seq ?_
  refine JX.region ?_
  refine JL.val (yl_move rfl) rfl ?_
  refine JL.val (yl_move rfl) rfl ?_
  refine JL.val (yl_len_slice Go.Proofs.Try.underlying22 rfl) rfl ?_
  refine JL.val (yl_lss rfl rfl) rfl ?_
  refine JL.nil ?_
  refine JE.weak (env' := [(0, .slice a_0 q0.length c_0), (3, .slice a2 x1.length x1.length), (4, .int .i64 x5), (11, .bool (decide (x5 < (q0.length : Int))))]) (es' := [rowT 2 eI64 a2 x1.length x1.length x6]) [0] ?_ ⟨rfl, rfl, rfl, rfl, trivial⟩ (by decide) rfl
  refine JE.code ?_
  rcases cond_some hres with ⟨hb, hres⟩ | ⟨hb, hres⟩
  · refine JX.condT rfl hb ?_
    refine JX.skip ?_
    refine JE.code ?_
    refine JX.seq ?_
    refine JX.block ?_
    refine JX.region ?_
    refine JL.val (yl_move rfl) rfl ?_
    refine JL.val (yl_move rfl) rfl ?_
    refine JL.val (yl_move rfl) rfl ?_
    refine JL.val (yl_move rfl) rfl ?_
    obtain ⟨x8, hx8, hres⟩ := bind_some hres
    refine JL.val (yl_idxT Go.Proofs.Try.underlying22 i2 i2s rfl rfl hx8 rfl (fun w hC => rd_arg g_0 hC)) rfl ?_
    refine JL.val (yl_loadT0 Go.Proofs.Try.underlying2 rfl rfl hx8 (fun w hC => rd_arg g_0 hC) rfl) rfl ?_
    obtain ⟨x9, hx9, hres⟩ := bind_some hres
    refine JL.val (yl_idxT Go.Proofs.Try.underlying22 i2 i2s rfl rfl hx9 l7 (fun w hC => rd_row hC 0 rfl)) rfl ?_
    refine JL.eff (ef_storeT (ix := 0) (u := x8) i2 i2s rfl rfl rfl hx9 rfl) rfl ?_
    rintro _ _ rfl
    refine JL.nil ?_
    refine JE.weak (env' := [(0, .slice a_0 q0.length c_0), (3, .slice a2 x1.length x1.length), (4, .int .i64 x5)]) (es' := [rowT 2 eI64 a2 x1.length x1.length (x6.set (x5).toNat x8)]) [0] ?_ ⟨rfl, rfl, rfl, trivial⟩ (by decide) rfl
    refine JE.code ?_
    refine JX.region ?_
    refine JL.val (yl_move rfl) rfl ?_
    refine JL.val (yl_add rfl rfl) rfl ?_
    refine JL.val (yl_assign rfl) rfl ?_
    refine JL.nil ?_
    refine JE.cont hres ?_
    exact fun a w h => ⟨(List.length_set.trans l7), h.weak ⟨rfl, rfl, rfl, trivial⟩ [0] (by decide) rfl⟩
  · refine JX.condF rfl hb ?_
    refine JX.exit ?_
    refine JE.qb rfl ?_
    obtain ⟨b1, hb1⟩ : ∃ b : List Int, b = x6 := ⟨_, rfl⟩
    have hy1 : b1 = y1 := by rw [hb1]; exact hox1 _ (Option.some.inj hres).symm
    have hres := hresO1
    rw [← hy1] at hres
    have l10 : b1.length = x1.length := by subst hb1; exact l7
    refine JE.weak (env' := [(3, .slice a2 x1.length x1.length)]) (es' := [rowT 2 eI64 a2 x1.length x1.length b1]) [0] ?_ ⟨(by subst hb1; rfl), trivial⟩ (by decide) (by subst hb1; rfl)
    refine JE.code ?_
    refine JX.seq ?_
    refine JX.region ?_
    refine JL.val (yl_move rfl) rfl ?_
    refine JL.val (yl_assign rfl) rfl ?_
    refine JL.nil ?_
    refine JE.code ?_
    refine JX.ret ?_
    obtain rfl := Option.some.inj hres
    refine JE.ret (rs := [.tmp 2]) (vs := [.slice a2 x1.length x1.length]) rfl ⟨rfl, trivial⟩ ?_
    exact fun w' hb hs => ⟨_, _, ⟨a2, x1.length, x1.length, l10, rfl, rfl⟩, rfl, hb, hs.sel [0] _ (by decide) rfl⟩

/- laws.toPanel -/
def sh17 (q0 : SPanel) : Option (SPanel) := Option.bind (sh32 q0.Breaks) fun x7 => some (SPanel.mk q0.W q0.H x7)
def T17 (r : SPanel) (v : Value) (rs : List Own) : Prop := ∃ (a0_2 : Option Addr) (n0_2 c0_2 : Nat), r.Breaks.length = n0_2 ∧ v = rets [.agg #[.int .i64 r.W, .int .i64 r.H, .slice a0_2 n0_2 c0_2]] ∧ rs = [rowT 2 eI64 a0_2 n0_2 c0_2 r.Breaks]
set_option maxRecDepth 100000 in
theorem c17 {w : World} {q0 : SPanel} {a_0_2 : Option Addr} {n_0_2 c_0_2 : Nat} (g_0_2 : Rd w a_0_2 (eI64.fl q0.Breaks)) (l_0_2 : q0.Breaks.length = n_0_2) (k_0_2 : n_0_2 ≤ c_0_2) {r : SPanel} (hres : sh17 q0 = some r) : Calls Go.Proofs.Try.prog 17 [.agg #[.int .i64 q0.W, .int .i64 q0.H, .slice a_0_2 n_0_2 c_0_2]].toArray w (Ret w (T17 r)) := by
  subst l_0_2
  unfold sh17 at hres
  refine calls_of (n := 15) (M := []) (es := []) Go.Proofs.Try.func17 rfl rfl rfl (Sep.nil _ _ _) ?_
  refine JX.seq ?_
  refine JX.region ?_
  refine JL.eff (ef_box rfl rfl) rfl ?_
  rintro _ _ ⟨g1, rfl, rfl⟩
  refine JL.eff (ef_alloc i28 i28z rfl) rfl ?_
  rintro _ _ ⟨g3, rfl, rfl⟩
  refine JL.nil ?_
  refine JE.code ?_
  refine JX.seq ?_
  refine JX.region ?_
  refine JL.eff (ef_alloc i28 i28z rfl) rfl ?_
  rintro _ _ ⟨g5, rfl, rfl⟩
  refine JL.nil ?_
  refine JE.code ?_
  refine JX.seq ?_
  refine JX.region ?_
  refine JL.val (yl_fieldAt (a := some _) Go.Proofs.Try.underlying24 rfl i2 i2n rfl rfl) rfl ?_
  refine JL.val (yl_load1 Go.Proofs.Try.underlying2 rfl rfl (fun w hC => rd_box hC 0 rfl) rfl) rfl ?_
  refine JL.val (yl_fieldAt (a := some _) Go.Proofs.Try.underlying28 rfl i2 i2n rfl rfl) rfl ?_
  refine JL.eff (ef_store_box (i := 2) (v := .int .i64 q0.W) i2 rfl rfl rfl (i2s).symm (Nat.le_of_ble_eq_true rfl) (by simp [Value.cells, Value.oneCell'])) rfl ?_
  rintro _ _ rfl
  refine JL.nil ?_
  refine JE.weak (env' := [(1, ptrAt (some ⟨g1, 0, none⟩) 0), (2, ptrAt (some ⟨g3, 0, none⟩) 0), (3, ptrAt (some ⟨g5, 0, none⟩) 0)]) (es' := [boxO 24 g1 [.int .i64 q0.W, .int .i64 q0.H, .slice a_0_2 q0.Breaks.length c_0_2], boxO 28 g3 [.int .i64 0, .int .i64 0, .slice none 0 0], boxO 28 g5 [.int .i64 q0.W, .int .i64 0, .slice none 0 0]]) [0, 1, 2] ?_ ⟨rfl, rfl, rfl, trivial⟩ (by decide) rfl
  refine JE.code ?_
  refine JX.seq ?_
  refine JX.region ?_
  refine JL.val (yl_fieldAt (a := some _) Go.Proofs.Try.underlying24 rfl i2 i2n rfl rfl) rfl ?_
  refine JL.val (yl_load1 Go.Proofs.Try.underlying2 rfl rfl (fun w hC => rd_box hC 0 rfl) rfl) rfl ?_
  refine JL.val (yl_fieldAt (a := some _) Go.Proofs.Try.underlying28 rfl i2 i2n rfl rfl) rfl ?_
  refine JL.eff (ef_store_box (i := 2) (v := .int .i64 q0.H) i2 rfl rfl rfl (i2s).symm (Nat.le_of_ble_eq_true rfl) (by simp [Value.cells, Value.oneCell'])) rfl ?_
  rintro _ _ rfl
  refine JL.nil ?_
  refine JE.weak (env' := [(1, ptrAt (some ⟨g1, 0, none⟩) 0), (2, ptrAt (some ⟨g3, 0, none⟩) 0), (3, ptrAt (some ⟨g5, 0, none⟩) 0)]) (es' := [boxO 24 g1 [.int .i64 q0.W, .int .i64 q0.H, .slice a_0_2 q0.Breaks.length c_0_2], boxO 28 g3 [.int .i64 0, .int .i64 0, .slice none 0 0], boxO 28 g5 [.int .i64 q0.W, .int .i64 q0.H, .slice none 0 0]]) [0, 1, 2] ?_ ⟨rfl, rfl, rfl, trivial⟩ (by decide) rfl
  refine JE.code ?_
  refine JX.seq ?_
  refine JX.region ?_
  refine JL.val (yl_fieldAt (a := some _) Go.Proofs.Try.underlying24 rfl i22 i22n rfl rfl) rfl ?_
  refine JL.val (yl_load1 Go.Proofs.Try.underlying22 rfl rfl (fun w hC => rd_box hC 0 rfl) rfl) rfl ?_
  obtain ⟨x7, hx7, hres⟩ := bind_some hres
  refine JL.eff (ef_call (T := T32 x7) Go.Proofs.Try.func32 rfl (by kernel_rfl) rfl (fun w hC => c32 (rd_arg g_0_2 hC) rfl k_0_2 hx7)) rfl ?_
  rintro _ _ ⟨_, ⟨a8, _, cp9, rfl, rfl, rfl⟩, rfl⟩
  refine JL.val (yl_fieldAt (a := some _) Go.Proofs.Try.underlying28 rfl i22 i22n rfl rfl) rfl ?_
  refine JL.eff (ef_store_box (i := 2) (v := .slice a8 x7.length cp9) i22 rfl rfl rfl (i22s).symm (Nat.le_of_ble_eq_true rfl) (by simp [Value.cells, Value.oneCell'])) rfl ?_
  rintro _ _ rfl
  refine JL.nil ?_
  refine JE.weak (env' := [(2, ptrAt (some ⟨g3, 0, none⟩) 0), (3, ptrAt (some ⟨g5, 0, none⟩) 0)]) (es' := [boxO 28 g3 [.int .i64 0, .int .i64 0, .slice none 0 0], boxO 28 g5 [.int .i64 q0.W, .int .i64 q0.H, .slice a8 x7.length cp9], rowT 2 eI64 a8 x7.length cp9 x7]) [1, 2, 3] ?_ ⟨rfl, rfl, trivial⟩ (by decide) rfl
  refine JE.code ?_
  refine JX.seq ?_
  refine JX.region ?_
  refine JL.val (yl_loadn Go.Proofs.Try.underlying28 rfl i28 rfl (fun w hC => rd_box hC 1 rfl) rfl (i28s).symm i28p) rfl ?_
  refine JL.eff (ef_store_box (i := 0) (v := .agg #[.int .i64 q0.W, .int .i64 q0.H, .slice a8 x7.length cp9]) i28 rfl rfl rfl (i28s).symm (Nat.le_of_ble_eq_true rfl) (by simp [Value.cells, Value.oneCell'])) rfl ?_
  rintro _ _ rfl
  refine JL.nil ?_
  refine JE.weak (env' := [(2, ptrAt (some ⟨g3, 0, none⟩) 0)]) (es' := [boxO 28 g3 [.int .i64 q0.W, .int .i64 q0.H, .slice a8 x7.length cp9], rowT 2 eI64 a8 x7.length cp9 x7]) [0, 2] ?_ ⟨rfl, trivial⟩ (by decide) rfl
  refine JE.code ?_
  refine JX.ret ?_
  obtain rfl := Option.some.inj hres
  refine JE.ret (rs := [.cell 2 28]) (vs := [.agg #[.int .i64 q0.W, .int .i64 q0.H, .slice a8 x7.length cp9]]) rfl ⟨rv_box 0 rfl rfl Go.Proofs.Try.underlying28 rfl i28 (i28s).symm, trivial⟩ ?_
  exact fun w' hb hs => ⟨_, _, ⟨a8, x7.length, cp9, rfl, rfl, rfl⟩, rfl, hb, hs.sel [1] _ (by decide) rfl⟩

/- laws.eqInt64S -/
def sh34_1 (q0 : List Int) (q1 : List Int) : Int → Option (Int ⊕ (Unit ⊕ Bool))
  | x1 => bif decide (x1 < (q0.length : Int)) then (Option.bind (getI q0 x1) fun x3 => Option.bind (getI q1 x1) fun x4 => bif x3 != x4 then (some (.inr (.inr false))) else (some (.inl (w64 (x1 + 1))))) else (some (.inr (.inl ())))
def sh34 (q0 : List Int) (q1 : List Int) : Option (Bool) := bif (q0.length : Int) != (q1.length : Int) then (some false) else (Option.bind (iter (sh34_1 q0 q1) 0) fun y1 => elimS y1 (fun r => some r) fun b1 => (some true))
def T34 (r : Bool) (v : Value) (rs : List Own) : Prop := v = rets [.bool r] ∧ rs = []
set_option maxRecDepth 100000 in
theorem c34 {w : World} {q0 : List Int} {a_0 : Option Addr} {n_0 c_0 : Nat} (g_0 : Rd w a_0 (eI64.fl q0)) (l_0 : q0.length = n_0) (k_0 : n_0 ≤ c_0) {q1 : List Int} {a_1 : Option Addr} {n_1 c_1 : Nat} (g_1 : Rd w a_1 (eI64.fl q1)) (l_1 : q1.length = n_1) (k_1 : n_1 ≤ c_1) {r : Bool} (hres : sh34 q0 q1 = some r) : Calls Go.Proofs.Try.prog 34 [.slice a_0 n_0 c_0, .slice a_1 n_1 c_1].toArray w (Ret w (T34 r)) := by
  subst l_0
  subst l_1
  unfold sh34 at hres
  refine calls_of (n := 26) (M := []) (es := []) Go.Proofs.Try.func34 rfl rfl rfl (Sep.nil _ _ _) ?_
  refine JX.seq ?_
  refine JX.region ?_
  refine JL.val (yl_assign rfl) rfl ?_
  refine JL.nil ?_
  refine JE.code ?_
  refine JX.seq ?_
  refine JX.seq ?_
  refine JX.region ?_
  refine JL.val (yl_move rfl) rfl ?_
  refine JL.val (yl_len_slice Go.Proofs.Try.underlying22 rfl) rfl ?_
  refine JL.val (yl_move rfl) rfl ?_
  refine JL.val (yl_len_slice Go.Proofs.Try.underlying22 rfl) rfl ?_
  refine JL.val (yl_neq rfl rfl) rfl ?_
  refine JL.nil ?_
  refine JE.weak (env' := [(0, .slice a_0 q0.length c_0), (1, .slice a_1 q1.length c_1), (10, .bool ((q0.length : Int) != (q1.length : Int)))]) (es' := []) [] ?_ ⟨rfl, rfl, rfl, trivial⟩ (by decide) rfl
  refine JE.code ?_
  rcases cond_some hres with ⟨hb, hres⟩ | ⟨hb, hres⟩
  · refine JX.condT rfl hb ?_
    refine JX.seq ?_
    refine JX.region ?_
    refine JL.val (yl_assign rfl) rfl ?_
    refine JL.nil ?_
    refine JE.code ?_
    refine JX.ret ?_
    obtain rfl := Option.some.inj hres
    refine JE.ret (rs := [.tmp 4]) (vs := [.bool false]) rfl ⟨rfl, trivial⟩ ?_
    exact fun w' hb hs => ⟨_, _, ⟨rfl, rfl⟩, rfl, hb, hs.sel [] _ (by decide) rfl⟩
  · refine JX.condF rfl hb ?_
    refine JX.skip ?_
    refine JE.code ?_
    refine JX.seq ?_
    refine JX.seq ?_
    refine JX.region ?_
    refine JL.val (yl_assign rfl) rfl ?_
    refine JL.nil ?_
    refine JE.code ?_
    refine JX.block ?_
    obtain ⟨y1, hy1, hresO1⟩ := bind_some hres
    refine JX.loop (I := fun (s1 : Int) aa ww => St w [] 26 [(0, .slice a_0 q0.length c_0), (1, .slice a_1 q1.length c_1), (5, .int .i64 s1)] [] aa ww) (sh34_1 q0 q1) hy1 (fun a w h => h.weak ⟨rfl, rfl, rfl, trivial⟩ [] (by decide) rfl) ?_
    rintro x1 o1 hres hox1 aa ww hS
    refine (?_ : JX Go.Proofs.Try.prog w [] 26 _ _ [(0, .slice a_0 q0.length c_0), (1, .slice a_1 q1.length c_1), (5, .int .i64 x1)] [] _) aa ww hS
    clear hS
    unfold sh34_1 at hres
    refine JX.seq ?_
    refine JX.seq ?_
    refine JX.region ?_
    refine JL.val (yl_move rfl) rfl ?_
    refine JL.val (yl_move rfl) rfl ?_
    refine JL.val (yl_len_slice Go.Proofs.Try.underlying22 rfl) rfl ?_
    refine JL.val (yl_lss rfl rfl) rfl ?_
    refine JL.nil ?_
    refine JE.weak (env' := [(0, .slice a_0 q0.length c_0), (1, .slice a_1 q1.length c_1), (5, .int .i64 x1), (14, .bool (decide (x1 < (q0.length : Int))))]) (es' := []) [] ?_ ⟨rfl, rfl, rfl, rfl, trivial⟩ (by decide) rfl
    refine JE.code ?_
    rcases cond_some hres with ⟨hb, hres⟩ | ⟨hb, hres⟩
    · refine JX.condT rfl hb ?_
      refine JX.skip ?_
      refine JE.code ?_
      refine JX.seq ?_
      refine JX.block ?_
      refine JX.seq ?_
      refine JX.drawH [(0, .pure), (1, .pure), (2, .pure), (3, .read), (4, .pure), (5, .pure), (6, .pure), (7, .read), (8, .pure)] [] [] [] [] [] mixedP (by kernel_rfl) (by kernel_rfl) (by decide) rfl rfl ?_
      intro wrr2 Nr2 hFr2
      refine JH.pure rfl (yl_move rfl) rfl ?_
      refine JH.pure rfl (yl_move rfl) rfl ?_
      obtain ⟨x3, hx3, hres⟩ := bind_some hres
      refine JH.pure rfl (yl_idxQ Go.Proofs.Try.underlying22 i2 i2s rfl rfl hx3 rfl (rd_arg g_0 hFr2.cl) rfl) rfl ?_
      refine JH.read rfl (yl_loadT0 Go.Proofs.Try.underlying2 rfl rfl hx3 (fun w hw => hFr2.arg g_0 hw) rfl) rfl ?_
      refine JH.pure rfl (yl_move rfl) rfl ?_
      refine JH.pure rfl (yl_move rfl) rfl ?_
      obtain ⟨x4, hx4, hres⟩ := bind_some hres
      refine JH.pure rfl (yl_idxQ Go.Proofs.Try.underlying22 i2 i2s rfl rfl hx4 rfl (rd_arg g_1 hFr2.cl) rfl) rfl ?_
      refine JH.read rfl (yl_loadT0 Go.Proofs.Try.underlying2 rfl rfl hx4 (fun w hw => hFr2.arg g_1 hw) rfl) rfl ?_
      refine JH.pure rfl (yl_neq rfl rfl) rfl ?_
      refine JH.nil ?_
      refine JE.weak (env' := [(0, .slice a_0 q0.length c_0), (1, .slice a_1 q1.length c_1), (5, .int .i64 x1), (25, .bool (x3 != x4))]) (es' := []) [] ?_ ⟨rfl, rfl, rfl, rfl, trivial⟩ (by decide) rfl
      refine JE.code ?_
      rcases cond_some hres with ⟨hb, hres⟩ | ⟨hb, hres⟩
      · refine JX.condT rfl hb ?_
        refine JX.seq ?_
        refine JX.region ?_
        refine JL.val (yl_assign rfl) rfl ?_
        refine JL.nil ?_
        refine JE.code ?_
        refine JX.ret ?_
        refine JE.qbr ?_
        refine JE.qbr ?_
        have hres := elimS_inr hresO1 (hox1 _ (Option.some.inj hres).symm)
        obtain rfl := Option.some.inj hres
        refine JE.ret (rs := [.tmp 4]) (vs := [.bool false]) rfl ⟨rfl, trivial⟩ ?_
        exact fun w' hb hs => ⟨_, _, ⟨rfl, rfl⟩, rfl, hb, hs.sel [] _ (by decide) rfl⟩
      · refine JX.condF rfl hb ?_
        refine JX.skip ?_
        refine JE.code ?_
        refine JX.region ?_
        refine JL.val (yl_move rfl) rfl ?_
        refine JL.val (yl_add rfl rfl) rfl ?_
        refine JL.val (yl_assign rfl) rfl ?_
        refine JL.nil ?_
        refine JE.cont hres ?_
        exact fun a w h => h.weak ⟨rfl, rfl, rfl, trivial⟩ [] (by decide) rfl
    · refine JX.condF rfl hb ?_
      refine JX.exit ?_
      refine JE.qb rfl ?_
      obtain ⟨b1, hb1⟩ : ∃ b : Unit, b = () := ⟨_, rfl⟩
      have hy1 : Sum.inl b1 = y1 := by rw [hb1]; exact hox1 _ (Option.some.inj hres).symm
      have hres := elimS_inl hresO1 hy1
      refine JE.weak (env' := []) (es' := []) [] ?_ trivial (by decide) (by subst hb1; rfl)
      refine JE.code ?_
      refine JX.seq ?_
      refine JX.region ?_
      refine JL.val (yl_assign rfl) rfl ?_
      refine JL.nil ?_
      refine JE.code ?_
      refine JX.ret ?_
      obtain rfl := Option.some.inj hres
      refine JE.ret (rs := [.tmp 4]) (vs := [.bool true]) rfl ⟨rfl, trivial⟩ ?_
      exact fun w' hb hs => ⟨_, _, ⟨rfl, rfl⟩, rfl, hb, hs.sel [] _ (by decide) rfl⟩

/- laws.eqPanel -/
def sh19 (q0 : SPanel) (q1 : SPanel) : Option (Bool) := bif q0.W != q1.W then (some false) else (bif q0.H != q1.H then (some false) else (Option.bind (sh34 q0.Breaks q1.Breaks) fun x5 => bif !x5 then (some false) else (some true)))
def T19 (r : Bool) (v : Value) (rs : List Own) : Prop := v = rets [.bool r] ∧ rs = []
set_option maxRecDepth 100000 in
theorem c19 {w : World} {q0 : SPanel} {a_0_2 : Option Addr} {n_0_2 c_0_2 : Nat} (g_0_2 : Rd w a_0_2 (eI64.fl q0.Breaks)) (l_0_2 : q0.Breaks.length = n_0_2) (k_0_2 : n_0_2 ≤ c_0_2) {q1 : SPanel} {a_1_2 : Option Addr} {n_1_2 c_1_2 : Nat} (g_1_2 : Rd w a_1_2 (eI64.fl q1.Breaks)) (l_1_2 : q1.Breaks.length = n_1_2) (k_1_2 : n_1_2 ≤ c_1_2) {r : Bool} (hres : sh19 q0 q1 = some r) : Calls Go.Proofs.Try.prog 19 [.agg #[.int .i64 q0.W, .int .i64 q0.H, .slice a_0_2 n_0_2 c_0_2], .agg #[.int .i64 q1.W, .int .i64 q1.H, .slice a_1_2 n_1_2 c_1_2]].toArray w (Ret w (T19 r)) := by
  subst l_0_2
  subst l_1_2
  unfold sh19 at hres
  refine calls_of (n := 21) (M := []) (es := []) Go.Proofs.Try.func19 rfl rfl rfl (Sep.nil _ _ _) ?_
  refine JX.seq ?_
  refine JX.region ?_
  refine JL.eff (ef_box rfl rfl) rfl ?_
  rintro _ _ ⟨g1, rfl, rfl⟩
  refine JL.eff (ef_box rfl rfl) rfl ?_
  rintro _ _ ⟨g3, rfl, rfl⟩
  refine JL.val (yl_assign rfl) rfl ?_
  refine JL.nil ?_
  refine JE.code ?_
  refine JX.seq ?_
  refine JX.seq ?_
  refine JX.region ?_
  refine JL.val (yl_fieldAt (a := some _) Go.Proofs.Try.underlying28 rfl i2 i2n rfl rfl) rfl ?_
  refine JL.val (yl_load1 Go.Proofs.Try.underlying2 rfl rfl (fun w hC => rd_box hC 0 rfl) rfl) rfl ?_
  refine JL.val (yl_fieldAt (a := some _) Go.Proofs.Try.underlying28 rfl i2 i2n rfl rfl) rfl ?_
  refine JL.val (yl_load1 Go.Proofs.Try.underlying2 rfl rfl (fun w hC => rd_box hC 1 rfl) rfl) rfl ?_
  refine JL.val (yl_neq rfl rfl) rfl ?_
  refine JL.nil ?_
  refine JE.weak (env' := [(2, ptrAt (some ⟨g1, 0, none⟩) 0), (3, ptrAt (some ⟨g3, 0, none⟩) 0), (9, .bool (q0.W != q1.W))]) (es' := [boxO 28 g1 [.int .i64 q0.W, .int .i64 q0.H, .slice a_0_2 q0.Breaks.length c_0_2], boxO 28 g3 [.int .i64 q1.W, .int .i64 q1.H, .slice a_1_2 q1.Breaks.length c_1_2]]) [0, 1] ?_ ⟨rfl, rfl, rfl, trivial⟩ (by decide) rfl
  refine JE.code ?_
  rcases cond_some hres with ⟨hb, hres⟩ | ⟨hb, hres⟩
  · refine JX.condT rfl hb ?_
    refine JX.seq ?_
    refine JX.region ?_
    refine JL.val (yl_assign rfl) rfl ?_
    refine JL.nil ?_
    refine JE.weak (env' := [(4, .bool false)]) (es' := []) [] ?_ ⟨rfl, trivial⟩ (by decide) rfl
    refine JE.code ?_
    refine JX.ret ?_
    obtain rfl := Option.some.inj hres
    refine JE.ret (rs := [.tmp 4]) (vs := [.bool false]) rfl ⟨rfl, trivial⟩ ?_
    exact fun w' hb hs => ⟨_, _, ⟨rfl, rfl⟩, rfl, hb, hs.sel [] _ (by decide) rfl⟩
  · refine JX.condF rfl hb ?_
    refine JX.skip ?_
    refine JE.code ?_
    refine JX.seq ?_
    refine JX.seq ?_
    refine JX.region ?_
    refine JL.val (yl_fieldAt (a := some _) Go.Proofs.Try.underlying28 rfl i2 i2n rfl rfl) rfl ?_
    refine JL.val (yl_load1 Go.Proofs.Try.underlying2 rfl rfl (fun w hC => rd_box hC 0 rfl) rfl) rfl ?_
    refine JL.val (yl_fieldAt (a := some _) Go.Proofs.Try.underlying28 rfl i2 i2n rfl rfl) rfl ?_
    refine JL.val (yl_load1 Go.Proofs.Try.underlying2 rfl rfl (fun w hC => rd_box hC 1 rfl) rfl) rfl ?_
    refine JL.val (yl_neq rfl rfl) rfl ?_
    refine JL.nil ?_
    refine JE.weak (env' := [(2, ptrAt (some ⟨g1, 0, none⟩) 0), (3, ptrAt (some ⟨g3, 0, none⟩) 0), (14, .bool (q0.H != q1.H))]) (es' := [boxO 28 g1 [.int .i64 q0.W, .int .i64 q0.H, .slice a_0_2 q0.Breaks.length c_0_2], boxO 28 g3 [.int .i64 q1.W, .int .i64 q1.H, .slice a_1_2 q1.Breaks.length c_1_2]]) [0, 1] ?_ ⟨rfl, rfl, rfl, trivial⟩ (by decide) rfl
    refine JE.code ?_
    rcases cond_some hres with ⟨hb, hres⟩ | ⟨hb, hres⟩
    · refine JX.condT rfl hb ?_
      refine JX.seq ?_
      refine JX.region ?_
      refine JL.val (yl_assign rfl) rfl ?_
      refine JL.nil ?_
      refine JE.weak (env' := [(4, .bool false)]) (es' := []) [] ?_ ⟨rfl, trivial⟩ (by decide) rfl
      refine JE.code ?_
      refine JX.ret ?_
      obtain rfl := Option.some.inj hres
      refine JE.ret (rs := [.tmp 4]) (vs := [.bool false]) rfl ⟨rfl, trivial⟩ ?_
      exact fun w' hb hs => ⟨_, _, ⟨rfl, rfl⟩, rfl, hb, hs.sel [] _ (by decide) rfl⟩
    · refine JX.condF rfl hb ?_
      refine JX.skip ?_
      refine JE.code ?_
      refine JX.seq ?_
      refine JX.seq ?_
      refine JX.region ?_
      refine JL.val (yl_fieldAt (a := some _) Go.Proofs.Try.underlying28 rfl i22 i22n rfl rfl) rfl ?_
      refine JL.val (yl_load1 Go.Proofs.Try.underlying22 rfl rfl (fun w hC => rd_box hC 0 rfl) rfl) rfl ?_
      refine JL.val (yl_fieldAt (a := some _) Go.Proofs.Try.underlying28 rfl i22 i22n rfl rfl) rfl ?_
      refine JL.val (yl_load1 Go.Proofs.Try.underlying22 rfl rfl (fun w hC => rd_box hC 1 rfl) rfl) rfl ?_
      obtain ⟨x5, hx5, hres⟩ := bind_some hres
      refine JL.eff (ef_call (T := T34 x5) Go.Proofs.Try.func34 rfl (by kernel_rfl) rfl (fun w hC => c34 (rd_arg g_0_2 hC) rfl k_0_2 (rd_arg g_1_2 hC) rfl k_1_2 hx5)) rfl ?_
      rintro _ _ ⟨_, ⟨rfl, rfl⟩, rfl⟩
      refine JL.val (yl_not rfl) rfl ?_
      refine JL.nil ?_
      refine JE.weak (env' := [(20, .bool !x5)]) (es' := []) [] ?_ ⟨rfl, trivial⟩ (by decide) rfl
      refine JE.code ?_
      rcases cond_some hres with ⟨hb, hres⟩ | ⟨hb, hres⟩
      · refine JX.condT rfl hb ?_
        refine JX.seq ?_
        refine JX.region ?_
        refine JL.val (yl_assign rfl) rfl ?_
        refine JL.nil ?_
        refine JE.code ?_
        refine JX.ret ?_
        obtain rfl := Option.some.inj hres
        refine JE.ret (rs := [.tmp 4]) (vs := [.bool false]) rfl ⟨rfl, trivial⟩ ?_
        exact fun w' hb hs => ⟨_, _, ⟨rfl, rfl⟩, rfl, hb, hs.sel [] _ (by decide) rfl⟩
      · refine JX.condF rfl hb ?_
        refine JX.skip ?_
        refine JE.code ?_
        refine JX.seq ?_
        refine JX.region ?_
        refine JL.val (yl_assign rfl) rfl ?_
        refine JL.nil ?_
        refine JE.code ?_
        refine JX.ret ?_
        obtain rfl := Option.some.inj hres
        refine JE.ret (rs := [.tmp 4]) (vs := [.bool true]) rfl ⟨rfl, trivial⟩ ?_
        exact fun w' hb hs => ⟨_, _, ⟨rfl, rfl⟩, rfl, hb, hs.sel [] _ (by decide) rfl⟩

/- laws.markInt64S -/
def sh37_1 (q0 : List Int) : (Int × Int × List Int) → Option ((Int × Int × List Int) ⊕ (Int × List Int))
  | (x2, x3, x4) => bif decide (x3 < ((q0.length : Nat) : Int)) then (Option.bind (getI x4 x3) fun x6 => some (.inl (w64 (x2 + 1), w64 (x3 + 1), x4.set (x3).toNat x2))) else (some (.inr (x2, x4)))
def sh37 (q0 : List Int) (q1 : Int) : Option (Int × List Int) := Option.bind (iter (sh37_1 q0) (q1, 0, q0)) fun b1 => (some (b1.1, b1.2))
def T37 (a_ : Option Addr) (n_ c_ : Nat) (r : Int × List Int) (v : Value) (e' : Own) (rs : List Own) : Prop := r.2.length = n_ ∧ e' = rowT 2 eI64 a_ n_ c_ r.2 ∧ v = rets [.int .i64 r.1] ∧ rs = []
set_option maxRecDepth 100000 in
theorem c37 {w : World} {q0 : List Int} {a_0 : Option Addr} {n_0 c_0 : Nat} {M : List Nat} (g_0 : Sep w.heap.size M w [rowT 2 eI64 a_0 n_0 c_0 q0]) (l_0 : q0.length = n_0) {q1 : Int} {r : Int × List Int} (hres : sh37 q0 q1 = some r) : Calls Go.Proofs.Try.prog 37 [.slice a_0 n_0 c_0, .int .i64 q1].toArray w (RetM w M (T37 a_0 n_0 c_0 r)) := by
  subst l_0
  unfold sh37 at hres
  refine calls_of (n := 19) (M := M) (es := [rowT 2 eI64 a_0 q0.length c_0 q0]) Go.Proofs.Try.func37 rfl rfl rfl g_0 ?_
  refine JX.seq ?_
  refine JX.region ?_
  refine JL.val (yl_assign rfl) rfl ?_
  refine JL.nil ?_
  refine JE.code ?_
  refine JX.seq ?_
  refine JX.seq ?_
  refine JX.region ?_
  refine JL.val (yl_assign rfl) rfl ?_
  refine JL.nil ?_
  refine JE.code ?_
  refine JX.block ?_
  obtain ⟨y1, hy1, hresO1⟩ := bind_some hres
  refine JX.loop (I := fun (s1 : Int × Int × List Int) aa ww => ∃ (l1 : s1.2.2.length = q0.length), St w M 19 [(0, .slice a_0 q0.length c_0), (1, .int .i64 s1.1), (5, .int .i64 s1.2.1)] [rowT 2 eI64 a_0 q0.length c_0 s1.2.2] aa ww) (sh37_1 q0) hy1 (fun a w h => ⟨rfl, h.weak ⟨rfl, rfl, rfl, trivial⟩ [0] (by decide) rfl⟩) ?_
  rintro ⟨x2, x3, x4⟩ o1 hres hox1 aa ww ⟨l5, hS⟩
  refine (?_ : JX Go.Proofs.Try.prog w M 19 _ _ [(0, .slice a_0 q0.length c_0), (1, .int .i64 x2), (5, .int .i64 x3)] [rowT 2 eI64 a_0 q0.length c_0 x4] _) aa ww hS
  clear hS
  simp only [sh37_1] at hres
  refine JX.seq ?_
  refine JX.seq ?_
  refine JX.region ?_
  refine JL.val (yl_move rfl) rfl ?_
  refine JL.val (yl_move rfl) rfl ?_
  refine JL.val (yl_len_slice Go.Proofs.Try.underlying22 rfl) rfl ?_
  refine JL.val (yl_lss rfl rfl) rfl ?_
  refine JL.nil ?_
  refine JE.weak (env' := [(0, .slice a_0 q0.length c_0), (1, .int .i64 x2), (5, .int .i64 x3), (9, .bool (decide (x3 < ((q0.length : Nat) : Int))))]) (es' := [rowT 2 eI64 a_0 q0.length c_0 x4]) [0] ?_ ⟨rfl, rfl, rfl, rfl, trivial⟩ (by decide) rfl
  refine JE.code ?_
  rcases cond_some hres with ⟨hb, hres⟩ | ⟨hb, hres⟩
  · refine JX.condT rfl hb ?_
    refine JX.skip ?_
    refine JE.code ?_
    refine JX.seq ?_
    refine JX.block ?_
    refine JX.seq ?_
    refine JX.region ?_
    refine JL.val (yl_move rfl) rfl ?_
    refine JL.val (yl_move rfl) rfl ?_
    refine JL.val (yl_move rfl) rfl ?_
    obtain ⟨x6, hx6, hres⟩ := bind_some hres
    refine JL.val (yl_idxT Go.Proofs.Try.underlying22 i2 i2s rfl rfl hx6 l5 (fun w hC => rd_row hC 0 rfl)) rfl ?_
    refine JL.eff (ef_storeT (ix := 0) (u := x2) i2 i2s rfl rfl rfl hx6 rfl) rfl ?_
    rintro _ _ rfl
    refine JL.nil ?_
    refine JE.weak (env' := [(0, .slice a_0 q0.length c_0), (1, .int .i64 x2), (5, .int .i64 x3)]) (es' := [rowT 2 eI64 a_0 q0.length c_0 (x4.set (x3).toNat x2)]) [0] ?_ ⟨rfl, rfl, rfl, trivial⟩ (by decide) rfl
    refine JE.code ?_
    refine JX.region ?_
    refine JL.val (yl_move rfl) rfl ?_
    refine JL.val (yl_add rfl rfl) rfl ?_
    refine JL.val (yl_assign rfl) rfl ?_
    refine JL.nil ?_
    refine JE.code ?_
    refine JX.region ?_
    refine JL.val (yl_move rfl) rfl ?_
    refine JL.val (yl_add rfl rfl) rfl ?_
    refine JL.val (yl_assign rfl) rfl ?_
    refine JL.nil ?_
    refine JE.cont hres ?_
    exact fun a w h => ⟨(List.length_set.trans l5), h.weak ⟨rfl, rfl, rfl, trivial⟩ [0] (by decide) rfl⟩
  · refine JX.condF rfl hb ?_
    refine JX.exit ?_
    refine JE.qb rfl ?_
    obtain ⟨b1, hb1⟩ : ∃ b : Int × List Int, b = (x2, x4) := ⟨_, rfl⟩
    have hy1 : b1 = y1 := by rw [hb1]; exact hox1 _ (Option.some.inj hres).symm
    have hres := hresO1
    rw [← hy1] at hres
    have l7 : b1.2.length = q0.length := by subst hb1; exact l5
    refine JE.weak (env' := [(1, .int .i64 b1.1)]) (es' := [rowT 2 eI64 a_0 q0.length c_0 b1.2]) [0] ?_ ⟨(by subst hb1; rfl), trivial⟩ (by decide) (by subst hb1; rfl)
    refine JE.code ?_
    refine JX.seq ?_
    refine JX.region ?_
    refine JL.val (yl_move rfl) rfl ?_
    refine JL.val (yl_assign rfl) rfl ?_
    refine JL.nil ?_
    refine JE.code ?_
    refine JX.ret ?_
    obtain rfl := Option.some.inj hres
    refine JE.ret (rs := [.tmp 4]) (vs := [.int .i64 b1.1]) rfl ⟨rfl, trivial⟩ ?_
    exact fun w' hb hs => ⟨_, _, _, ⟨l7, rfl, rfl, rfl⟩, rfl, hb, hs.sel [0] _ (by decide) rfl⟩

/- laws.markPanel -/
def sh28 (q0 : SPanel) (q1 : Int) : Option (Int × List Int) := Option.bind (sh37 q0.Breaks q1) fun x3 => some (x3.1, x3.2)
def T28 (a_0_2 : Option Addr) (n_0_2 c_0_2 : Nat) (r : Int × List Int) (v : Value) (es' rs : List Own) : Prop := r.2.length = n_0_2 ∧ es' = [rowT 2 eI64 a_0_2 n_0_2 c_0_2 r.2] ∧ v = rets [.int .i64 r.1] ∧ rs = []
set_option maxRecDepth 100000 in
theorem c28 {w : World} {M : List Nat} {q0 : SPanel} {a_0_2 : Option Addr} {n_0_2 c_0_2 : Nat} (l_0_2 : q0.Breaks.length = n_0_2) {q1 : Int} (gs : Sep w.heap.size M w [rowT 2 eI64 a_0_2 n_0_2 c_0_2 q0.Breaks]) {r : Int × List Int} (hres : sh28 q0 q1 = some r) : Calls Go.Proofs.Try.prog 28 [.agg #[.int .i64 q0.W, .int .i64 q0.H, .slice a_0_2 n_0_2 c_0_2], .int .i64 q1].toArray w (RetMs w M (T28 a_0_2 n_0_2 c_0_2 r)) := by
  subst l_0_2
  unfold sh28 at hres
  refine calls_of (n := 10) (M := M) (es := [rowT 2 eI64 a_0_2 q0.Breaks.length c_0_2 q0.Breaks]) Go.Proofs.Try.func28 rfl rfl rfl gs ?_
  refine JX.seq ?_
  refine JX.region ?_
  refine JL.eff (ef_box rfl rfl) rfl ?_
  rintro _ _ ⟨g1, rfl, rfl⟩
  refine JL.val (yl_assign rfl) rfl ?_
  refine JL.nil ?_
  refine JE.code ?_
  refine JX.seq ?_
  refine JX.region ?_
  refine JL.val (yl_fieldAt (a := some _) Go.Proofs.Try.underlying28 rfl i22 i22n rfl rfl) rfl ?_
  refine JL.val (yl_load1 Go.Proofs.Try.underlying22 rfl rfl (fun w hC => rd_box hC 1 rfl) rfl) rfl ?_
  refine JL.val (yl_move rfl) rfl ?_
  obtain ⟨x3, hx3, hres⟩ := bind_some hres
  refine JL.eff (ef_callm (T := T37 a_0_2 q0.Breaks.length c_0_2 x3) 0 Go.Proofs.Try.func37 rfl (by kernel_rfl) rfl rfl (fun w fp hs => c37 hs rfl hx3)) rfl ?_
  rintro _ _ ⟨_, _, ⟨l4, rfl, rfl, rfl⟩, rfl⟩
  refine JL.val (yl_assign rfl) rfl ?_
  refine JL.nil ?_
  refine JE.weak (env' := [(1, .int .i64 x3.1)]) (es' := [rowT 2 eI64 a_0_2 q0.Breaks.length c_0_2 x3.2]) [0] ?_ ⟨rfl, trivial⟩ (by decide) rfl
  refine JE.code ?_
  refine JX.seq ?_
  refine JX.region ?_
  refine JL.val (yl_move rfl) rfl ?_
  refine JL.val (yl_assign rfl) rfl ?_
  refine JL.nil ?_
  refine JE.code ?_
  refine JX.ret ?_
  obtain rfl := Option.some.inj hres
  refine JE.ret (rs := [.tmp 4]) (vs := [.int .i64 x3.1]) rfl ⟨rfl, trivial⟩ ?_
  exact fun w' hb hs => ⟨_, _, _, ⟨l4, rfl, rfl, rfl⟩, rfl, hb, hs.sel [0] _ (by decide) rfl⟩

/- laws.heldInt64S -/
def sh38_1 (q0 : List Int) : (Int × Int) → Option ((Int × Int) ⊕ (Int ⊕ Int))
  | (x1, x2) => bif decide (x2 < (q0.length : Int)) then (Option.bind (getI q0 x2) fun x3 => bif x3 != x1 then (some (.inr (.inr (-1)))) else (some (.inl (w64 (x1 + 1), w64 (x2 + 1))))) else (some (.inr (.inl x1)))
def sh38 (q0 : List Int) (q1 : Int) : Option (Int) := Option.bind (iter (sh38_1 q0) (q1, 0)) fun y1 => elimS y1 (fun r => some r) fun b1 => (some b1)
def T38 (r : Int) (v : Value) (rs : List Own) : Prop := v = rets [.int .i64 r] ∧ rs = []
set_option maxRecDepth 100000 in
theorem c38 {w : World} {q0 : List Int} {a_0 : Option Addr} {n_0 c_0 : Nat} (g_0 : Rd w a_0 (eI64.fl q0)) (l_0 : q0.length = n_0) (k_0 : n_0 ≤ c_0) {q1 : Int} {r : Int} (hres : sh38 q0 q1 = some r) : Calls Go.Proofs.Try.prog 38 [.slice a_0 n_0 c_0, .int .i64 q1].toArray w (Ret w (T38 r)) := by
  subst l_0
  unfold sh38 at hres
  refine calls_of (n := 21) (M := []) (es := []) Go.Proofs.Try.func38 rfl rfl rfl (Sep.nil _ _ _) ?_
  refine JX.seq ?_
  refine JX.region ?_
  refine JL.val (yl_assign rfl) rfl ?_
  refine JL.nil ?_
  refine JE.code ?_
  refine JX.seq ?_
  refine JX.seq ?_
  refine JX.region ?_
  refine JL.val (yl_assign rfl) rfl ?_
  refine JL.nil ?_
  refine JE.code ?_
  refine JX.block ?_
  obtain ⟨y1, hy1, hresO1⟩ := bind_some hres
  refine JX.loop (I := fun (s1 : Int × Int) aa ww => St w [] 21 [(0, .slice a_0 q0.length c_0), (1, .int .i64 s1.1), (5, .int .i64 s1.2)] [] aa ww) (sh38_1 q0) hy1 (fun a w h => h.weak ⟨rfl, rfl, rfl, trivial⟩ [] (by decide) rfl) ?_
  rintro ⟨x1, x2⟩ o1 hres hox1 aa ww hS
  refine (?_ : JX Go.Proofs.Try.prog w [] 21 _ _ [(0, .slice a_0 q0.length c_0), (1, .int .i64 x1), (5, .int .i64 x2)] [] _) aa ww hS
  clear hS
  simp only [sh38_1] at hres
  refine JX.seq ?_
  refine JX.seq ?_
  refine JX.region ?_
  refine JL.val (yl_move rfl) rfl ?_
  refine JL.val (yl_move rfl) rfl ?_
  refine JL.val (yl_len_slice Go.Proofs.Try.underlying22 rfl) rfl ?_
  refine JL.val (yl_lss rfl rfl) rfl ?_
  refine JL.nil ?_
  refine JE.weak (env' := [(0, .slice a_0 q0.length c_0), (1, .int .i64 x1), (5, .int .i64 x2), (9, .bool (decide (x2 < (q0.length : Int))))]) (es' := []) [] ?_ ⟨rfl, rfl, rfl, rfl, trivial⟩ (by decide) rfl
  refine JE.code ?_
  rcases cond_some hres with ⟨hb, hres⟩ | ⟨hb, hres⟩
  · refine JX.condT rfl hb ?_
    refine JX.skip ?_
    refine JE.code ?_
    refine JX.seq ?_
    refine JX.block ?_
    refine JX.seq ?_
    refine JX.seq ?_
    refine JX.region ?_
    refine JL.val (yl_move rfl) rfl ?_
    refine JL.val (yl_move rfl) rfl ?_
    obtain ⟨x3, hx3, hres⟩ := bind_some hres
    refine JL.val (yl_idxT Go.Proofs.Try.underlying22 i2 i2s rfl rfl hx3 rfl (fun w hC => rd_arg g_0 hC)) rfl ?_
    refine JL.val (yl_loadT0 Go.Proofs.Try.underlying2 rfl rfl hx3 (fun w hC => rd_arg g_0 hC) rfl) rfl ?_
    refine JL.val (yl_move rfl) rfl ?_
    refine JL.val (yl_neq rfl rfl) rfl ?_
    refine JL.nil ?_
    refine JE.weak (env' := [(0, .slice a_0 q0.length c_0), (1, .int .i64 x1), (5, .int .i64 x2), (17, .bool (x3 != x1))]) (es' := []) [] ?_ ⟨rfl, rfl, rfl, rfl, trivial⟩ (by decide) rfl
    refine JE.code ?_
    rcases cond_some hres with ⟨hb, hres⟩ | ⟨hb, hres⟩
    · refine JX.condT rfl hb ?_
      refine JX.seq ?_
      refine JX.region ?_
      refine JL.val (yl_assign rfl) rfl ?_
      refine JL.nil ?_
      refine JE.code ?_
      refine JX.ret ?_
      refine JE.qbr ?_
      refine JE.qbr ?_
      have hres := elimS_inr hresO1 (hox1 _ (Option.some.inj hres).symm)
      obtain rfl := Option.some.inj hres
      refine JE.ret (rs := [.tmp 4]) (vs := [.int .i64 (-1)]) rfl ⟨rfl, trivial⟩ ?_
      exact fun w' hb hs => ⟨_, _, ⟨rfl, rfl⟩, rfl, hb, hs.sel [] _ (by decide) rfl⟩
    · refine JX.condF rfl hb ?_
      refine JX.skip ?_
      refine JE.code ?_
      refine JX.region ?_
      refine JL.val (yl_move rfl) rfl ?_
      refine JL.val (yl_add rfl rfl) rfl ?_
      refine JL.val (yl_assign rfl) rfl ?_
      refine JL.nil ?_
      refine JE.code ?_
      refine JX.region ?_
      refine JL.val (yl_move rfl) rfl ?_
      refine JL.val (yl_add rfl rfl) rfl ?_
      refine JL.val (yl_assign rfl) rfl ?_
      refine JL.nil ?_
      refine JE.cont hres ?_
      exact fun a w h => h.weak ⟨rfl, rfl, rfl, trivial⟩ [] (by decide) rfl
  · refine JX.condF rfl hb ?_
    refine JX.exit ?_
    refine JE.qb rfl ?_
    obtain ⟨b1, hb1⟩ : ∃ b : Int, b = x1 := ⟨_, rfl⟩
    have hy1 : Sum.inl b1 = y1 := by rw [hb1]; exact hox1 _ (Option.some.inj hres).symm
    have hres := elimS_inl hresO1 hy1
    refine JE.weak (env' := [(1, .int .i64 b1)]) (es' := []) [] ?_ ⟨(by subst hb1; rfl), trivial⟩ (by decide) (by subst hb1; rfl)
    refine JE.code ?_
    refine JX.seq ?_
    refine JX.region ?_
    refine JL.val (yl_move rfl) rfl ?_
    refine JL.val (yl_assign rfl) rfl ?_
    refine JL.nil ?_
    refine JE.code ?_
    refine JX.ret ?_
    obtain rfl := Option.some.inj hres
    refine JE.ret (rs := [.tmp 4]) (vs := [.int .i64 b1]) rfl ⟨rfl, trivial⟩ ?_
    exact fun w' hb hs => ⟨_, _, ⟨rfl, rfl⟩, rfl, hb, hs.sel [] _ (by decide) rfl⟩

/- spec.l00In -/
def sh127 (q0 : Int) (q1 : Int) (q2 : Int) : Option (Bool) := some ((decide (q1 ≤ q0)) && (decide (q0 ≤ q2)))
def T127 (r : Bool) (v : Value) (rs : List Own) : Prop := v = rets [.bool r] ∧ rs = []
set_option maxRecDepth 100000 in
theorem c127 {w : World} {q0 : Int} {q1 : Int} {q2 : Int} {r : Bool} (hres : sh127 q0 q1 q2 = some r) : Calls Go.Proofs.Try.prog 127 [.int .i64 q0, .int .i64 q1, .int .i64 q2].toArray w (Ret w (T127 r)) := by
  unfold sh127 at hres
  refine calls_of (n := 15) (M := []) (es := []) Go.Proofs.Try.func127 rfl rfl rfl (Sep.nil _ _ _) ?_
  refine JX.seq ?_
  refine JX.region ?_
  refine JL.val (yl_assign rfl) rfl ?_
  refine JL.nil ?_
  refine JE.code ?_
  refine JX.seq ?_
  refine JX.region ?_
  refine JL.val (yl_move rfl) rfl ?_
  refine JL.val (yl_move rfl) rfl ?_
  refine JL.val (yl_geq rfl rfl) rfl ?_
  refine JL.val (yl_move rfl) rfl ?_
  refine JL.cut (K := fun J => J [(14, .bool ((decide (q1 ≤ q0)) && (decide (q0 ≤ q2))))] []) 4 ?_ ?_
  · refine JL.val (yl_assign rfl) rfl ?_
    refine JL.nil ?_
    refine JE.weak (env' := [(6, .bool ((decide (q1 ≤ q0)) && (decide (q0 ≤ q2))))]) (es' := []) [] ?_ ⟨rfl, trivial⟩ (by decide) rfl
    refine JE.code ?_
    refine JX.ret ?_
    obtain rfl := Option.some.inj hres
    refine JE.ret (rs := [.tmp 6]) (vs := [.bool ((decide (q1 ≤ q0)) && (decide (q0 ≤ q2)))]) rfl ⟨rfl, trivial⟩ ?_
    exact fun w' hb hs => ⟨_, _, ⟨rfl, rfl⟩, rfl, hb, hs.sel [] _ (by decide) rfl⟩
  · intro K
    rcases Bool.eq_false_or_eq_true (decide (q1 ≤ q0)) with hb | hb
    · refine JL.set (d := 10) (v := .bool true) (congrArg (fun b => some (Value.bool b)) hb) ?_
      refine JL.gval rfl rfl (yl_move rfl) rfl ?_
      refine JL.gval rfl rfl (yl_move rfl) rfl ?_
      refine JL.gval rfl rfl (yl_leq rfl rfl) rfl ?_
      refine JL.val (yl_pick_true rfl rfl) rfl ?_
      exact JL.weak [] K ⟨(by rw [hb]; rfl), trivial⟩ (by decide) rfl
    · refine JL.set (d := 10) (v := .bool false) (congrArg (fun b => some (Value.bool b)) hb) ?_
      refine JL.gskip rfl rfl rfl rfl ?_
      refine JL.gskip rfl rfl rfl rfl ?_
      refine JL.gskip rfl rfl rfl rfl ?_
      refine JL.val (yl_pick_false rfl rfl) rfl ?_
      exact JL.weak [] K ⟨(by rw [hb]; rfl), trivial⟩ (by decide) rfl

/- spec.l21Is -/
def sh84 (q0 : SPanel) (q1 : SPoint) : Option (Bool) := Option.bind (sh127 q1.X 0 (w64 (2 * q0.W))) fun x4 => Option.bind (bif x4 then (Option.bind (sh127 q1.Y 0 (w64 (2 * q0.H))) fun x6 => some x6) else (some false)) fun cb5 => (some (cb5 && (((w64 (q1.X + q1.Y)).tmod 2) == 0)))
def T84 (r : Bool) (v : Value) (rs : List Own) : Prop := v = rets [.bool r] ∧ rs = []
set_option maxRecDepth 100000 in
theorem c84 {w : World} {q0 : SPanel} {a_0 : Option Addr} {n_0 : Nat} {a_0_2 : Option Addr} {n_0_2 c_0_2 : Nat} (g_0 : RdAt w a_0 n_0 [.int .i64 q0.W, .int .i64 q0.H, .slice a_0_2 n_0_2 c_0_2]) (g_0_2 : Rd w a_0_2 (eI64.fl q0.Breaks)) (l_0_2 : q0.Breaks.length = n_0_2) (k_0_2 : n_0_2 ≤ c_0_2) {q1 : SPoint} {r : Bool} (hres : sh84 q0 q1 = some r) : Calls Go.Proofs.Try.prog 84 [ptrAt a_0 n_0, .agg #[.int .i64 q1.X, .int .i64 q1.Y]].toArray w (Ret w (T84 r)) := by
  subst l_0_2
  obtain ⟨b_0, e_0, g_0⟩ := g_0.norm0
  rw [e_0]
  unfold sh84 at hres
  refine calls_of (n := 32) (M := []) (es := []) Go.Proofs.Try.func84 rfl rfl rfl (Sep.nil _ _ _) ?_
  refine JX.seq ?_
  refine JX.region ?_
  refine JL.eff (ef_box rfl rfl) rfl ?_
  rintro _ _ ⟨g1, rfl, rfl⟩
  refine JL.val (yl_assign rfl) rfl ?_
  refine JL.nil ?_
  refine JE.code ?_
  refine JX.seq ?_
  refine JX.drawH [(0, .pure), (1, .read), (2, .pure), (3, .pure), (4, .pure), (5, .read), (6, .pure), (7, .must), (8, .pure), (9, .pure), (10, .read), (11, .pure), (12, .pure), (13, .pure), (14, .read), (15, .pure), (16, .must), (17, .pure), (18, .pure), (19, .pure), (20, .read), (21, .pure), (22, .read), (23, .pure), (24, .pure), (25, .pure), (26, .pure), (27, .pure)] [] [] [0] [] [boxO 35 g1 [.int .i64 q1.X, .int .i64 q1.Y]] mixedP (by kernel_rfl) (by kernel_rfl) (by decide) rfl rfl ?_
  intro wrr3 Nr3 hFr3
  refine JH.pure rfl (yl_fieldAt (a := some _) Go.Proofs.Try.underlying35 rfl i2 i2n rfl rfl) rfl ?_
  refine JH.read rfl (yl_load1 Go.Proofs.Try.underlying2 rfl rfl (fun w hw => hFr3.box 0 rfl rfl hw) rfl) rfl ?_
  refine JH.pure rfl (yl_move rfl) rfl ?_
  refine JH.pure rfl (yl_nilCheckAt rfl (Rd.some g_0 (j := 0) rfl)) rfl ?_
  refine JH.pure rfl (yl_fieldAt Go.Proofs.Try.underlying28 rfl i2 i2n rfl (Rd.some g_0 (j := 0) rfl)) rfl ?_
  refine JH.read rfl (yl_load1 Go.Proofs.Try.underlying2 rfl rfl (fun w hw => hFr3.arg g_0 hw) rfl) rfl ?_
  refine JH.pure rfl (yl_mul rfl rfl) rfl ?_
  obtain ⟨x4, hx4, hres⟩ := bind_some hres
  refine JH.must rfl (ef_call (T := T127 x4) Go.Proofs.Try.func127 rfl (by kernel_rfl) rfl (fun w hC => c127  hx4)) rfl rfl ?_
  rintro _ _ ⟨_, ⟨rfl, rfl⟩, rfl⟩
  refine JH.pure rfl (yl_move rfl) rfl ?_
  obtain ⟨cb5, hcb5, hres⟩ := bind_some hres
  refine JH.cut (K := fun J => J [(3, ptrAt (some ⟨g1, 0, none⟩) 0), (22, .bool cb5)] []) 9 ?_ ?_
  · refine JH.pure rfl (yl_move rfl) rfl ?_
    refine JH.cut (K := fun J => J [(31, .bool (cb5 && (((w64 (q1.X + q1.Y)).tmod 2) == 0)))] []) 8 ?_ ?_
    · refine JH.pure rfl (yl_assign rfl) rfl ?_
      refine JH.nil ?_
      refine JE.weak (env' := [(4, .bool (cb5 && (((w64 (q1.X + q1.Y)).tmod 2) == 0)))]) (es' := []) [] ?_ ⟨rfl, trivial⟩ (by decide) rfl
      refine JE.code ?_
      refine JX.ret ?_
      obtain rfl := Option.some.inj hres
      refine JE.ret (rs := [.tmp 4]) (vs := [.bool (cb5 && (((w64 (q1.X + q1.Y)).tmod 2) == 0))]) rfl ⟨rfl, trivial⟩ ?_
      exact fun w' hb hs => ⟨_, _, ⟨rfl, rfl⟩, rfl, hb, hs.sel [] _ (by decide) rfl⟩
    · intro K
      rcases Bool.eq_false_or_eq_true (cb5) with hb | hb
      · refine JH.set (d := 23) (v := .bool true) (congrArg (fun b => some (Value.bool b)) hb) ?_
        refine JH.gpure rfl rfl rfl (yl_fieldAt (a := some _) Go.Proofs.Try.underlying35 rfl i2 i2n rfl rfl) rfl ?_
        refine JH.gread rfl rfl rfl (yl_load1 Go.Proofs.Try.underlying2 rfl rfl (fun w hw => hFr3.box 0 rfl rfl hw) rfl) rfl ?_
        refine JH.gpure rfl rfl rfl (yl_fieldAt (a := some _) Go.Proofs.Try.underlying35 rfl i2 i2n rfl rfl) rfl ?_
        refine JH.gread rfl rfl rfl (yl_load1 Go.Proofs.Try.underlying2 rfl rfl (fun w hw => hFr3.box 0 rfl rfl hw) rfl) rfl ?_
        refine JH.gpure rfl rfl rfl (yl_add rfl rfl) rfl ?_
        refine JH.gpure rfl rfl rfl (yl_rem rfl rfl (by decide)) rfl ?_
        refine JH.gpure rfl rfl rfl (yl_eql rfl rfl) rfl ?_
        refine JH.pure rfl (yl_pick_true rfl rfl) rfl ?_
        exact JH.weak [] K ⟨(by rw [hb]; rfl), trivial⟩ (by decide) rfl
      · refine JH.set (d := 23) (v := .bool false) (congrArg (fun b => some (Value.bool b)) hb) ?_
        refine JH.gskip rfl rfl rfl rfl rfl rfl ?_
        refine JH.gskip rfl rfl rfl rfl rfl rfl ?_
        refine JH.gskip rfl rfl rfl rfl rfl rfl ?_
        refine JH.gskip rfl rfl rfl rfl rfl rfl ?_
        refine JH.gskip rfl rfl rfl rfl rfl rfl ?_
        refine JH.gskip rfl rfl rfl rfl rfl rfl ?_
        refine JH.gskip rfl rfl rfl rfl rfl rfl ?_
        refine JH.pure rfl (yl_pick_false rfl rfl) rfl ?_
        exact JH.weak [] K ⟨(by rw [hb]; rfl), trivial⟩ (by decide) rfl
  · intro K
    rcases cond_some hcb5 with ⟨hb, hres⟩ | ⟨hb, hres⟩
    · refine JH.set (d := 13) (v := .bool true) (congrArg (fun b => some (Value.bool b)) hb) ?_
      refine JH.gpure rfl rfl rfl (yl_fieldAt (a := some _) Go.Proofs.Try.underlying35 rfl i2 i2n rfl rfl) rfl ?_
      refine JH.gread rfl rfl rfl (yl_load1 Go.Proofs.Try.underlying2 rfl rfl (fun w hw => hFr3.box 0 rfl rfl hw) rfl) rfl ?_
      refine JH.gpure rfl rfl rfl (yl_move rfl) rfl ?_
      refine JH.gpure rfl rfl rfl (yl_nilCheckAt rfl (Rd.some g_0 (j := 0) rfl)) rfl ?_
      refine JH.gpure rfl rfl rfl (yl_fieldAt Go.Proofs.Try.underlying28 rfl i2 i2n rfl (Rd.some g_0 (j := 0) rfl)) rfl ?_
      refine JH.gread rfl rfl rfl (yl_load1 Go.Proofs.Try.underlying2 rfl rfl (fun w hw => hFr3.arg g_0 hw) rfl) rfl ?_
      refine JH.gpure rfl rfl rfl (yl_mul rfl rfl) rfl ?_
      obtain ⟨x6, hx6, hres⟩ := bind_some hres
      refine JH.gmust rfl rfl rfl (ef_call (T := T127 x6) Go.Proofs.Try.func127 rfl (by kernel_rfl) rfl (fun w hC => c127  hx6)) rfl rfl ?_
      rintro _ _ ⟨_, ⟨rfl, rfl⟩, rfl⟩
      refine JH.pure rfl (yl_pick_true rfl rfl) rfl ?_
      have he := Option.some.inj hres
      exact JH.weak [] K ⟨rfl, (by rw [← he]; rfl), trivial⟩ (by decide) rfl
    · refine JH.set (d := 13) (v := .bool false) (congrArg (fun b => some (Value.bool b)) hb) ?_
      refine JH.gskip rfl rfl rfl rfl rfl rfl ?_
      refine JH.gskip rfl rfl rfl rfl rfl rfl ?_
      refine JH.gskip rfl rfl rfl rfl rfl rfl ?_
      refine JH.gskip rfl rfl rfl rfl rfl rfl ?_
      refine JH.gskip rfl rfl rfl rfl rfl rfl ?_
      refine JH.gskip rfl rfl rfl rfl rfl rfl ?_
      refine JH.gskip rfl rfl rfl rfl rfl rfl ?_
      refine JH.gskip rfl rfl rfl rfl rfl rfl ?_
      refine JH.pure rfl (yl_pick_false rfl rfl) rfl ?_
      have he := Option.some.inj hres
      exact JH.weak [] K ⟨rfl, (by rw [← he]; rfl), trivial⟩ (by decide) rfl

/- spec.l21Number -/
def sh85 (q0 : SPanel) (q1 : SPoint) : Option (Int) := some (w64 ((w64 (q1.Y * (w64 ((w64 (2 * q0.W)) + 1)))) + q1.X))
def T85 (r : Int) (v : Value) (rs : List Own) : Prop := v = rets [.int .i64 r] ∧ rs = []
set_option maxRecDepth 100000 in
theorem c85 {w : World} {q0 : SPanel} {a_0 : Option Addr} {n_0 : Nat} {a_0_2 : Option Addr} {n_0_2 c_0_2 : Nat} (g_0 : RdAt w a_0 n_0 [.int .i64 q0.W, .int .i64 q0.H, .slice a_0_2 n_0_2 c_0_2]) (g_0_2 : Rd w a_0_2 (eI64.fl q0.Breaks)) (l_0_2 : q0.Breaks.length = n_0_2) (k_0_2 : n_0_2 ≤ c_0_2) {q1 : SPoint} {r : Int} (hres : sh85 q0 q1 = some r) : Calls Go.Proofs.Try.prog 85 [ptrAt a_0 n_0, .agg #[.int .i64 q1.X, .int .i64 q1.Y]].toArray w (Ret w (T85 r)) := by
  subst l_0_2
  obtain ⟨b_0, e_0, g_0⟩ := g_0.norm0
  rw [e_0]
  unfold sh85 at hres
  refine calls_of (n := 17) (M := []) (es := []) Go.Proofs.Try.func85 rfl rfl rfl (Sep.nil _ _ _) ?_
  refine JX.seq ?_
  refine JX.region ?_
  refine JL.eff (ef_box rfl rfl) rfl ?_
  rintro _ _ ⟨g1, rfl, rfl⟩
  refine JL.val (yl_assign rfl) rfl ?_
  refine JL.nil ?_
  refine JE.code ?_
  refine JX.seq ?_
  refine JX.drawH [(0, .pure), (1, .read), (2, .pure), (3, .pure), (4, .pure), (5, .read), (6, .pure), (7, .pure), (8, .pure), (9, .pure), (10, .read), (11, .pure), (12, .pure)] [] [] [0] [] [boxO 35 g1 [.int .i64 q1.X, .int .i64 q1.Y]] mixedP (by kernel_rfl) (by kernel_rfl) (by decide) rfl rfl ?_
  intro wrr3 Nr3 hFr3
  refine JH.pure rfl (yl_fieldAt (a := some _) Go.Proofs.Try.underlying35 rfl i2 i2n rfl rfl) rfl ?_
  refine JH.read rfl (yl_load1 Go.Proofs.Try.underlying2 rfl rfl (fun w hw => hFr3.box 0 rfl rfl hw) rfl) rfl ?_
  refine JH.pure rfl (yl_move rfl) rfl ?_
  refine JH.pure rfl (yl_nilCheckAt rfl (Rd.some g_0 (j := 0) rfl)) rfl ?_
  refine JH.pure rfl (yl_fieldAt Go.Proofs.Try.underlying28 rfl i2 i2n rfl (Rd.some g_0 (j := 0) rfl)) rfl ?_
  refine JH.read rfl (yl_load1 Go.Proofs.Try.underlying2 rfl rfl (fun w hw => hFr3.arg g_0 hw) rfl) rfl ?_
  refine JH.pure rfl (yl_mul rfl rfl) rfl ?_
  refine JH.pure rfl (yl_add rfl rfl) rfl ?_
  refine JH.pure rfl (yl_mul rfl rfl) rfl ?_
  refine JH.pure rfl (yl_fieldAt (a := some _) Go.Proofs.Try.underlying35 rfl i2 i2n rfl rfl) rfl ?_
  refine JH.read rfl (yl_load1 Go.Proofs.Try.underlying2 rfl rfl (fun w hw => hFr3.box 0 rfl rfl hw) rfl) rfl ?_
  refine JH.pure rfl (yl_add rfl rfl) rfl ?_
  refine JH.pure rfl (yl_assign rfl) rfl ?_
  refine JH.nil ?_
  refine JE.weak (env' := [(4, .int .i64 (w64 ((w64 (q1.Y * (w64 ((w64 (2 * q0.W)) + 1)))) + q1.X)))]) (es' := []) [] ?_ ⟨rfl, trivial⟩ (by decide) rfl
  refine JE.code ?_
  refine JX.ret ?_
  obtain rfl := Option.some.inj hres
  refine JE.ret (rs := [.tmp 4]) (vs := [.int .i64 (w64 ((w64 (q1.Y * (w64 ((w64 (2 * q0.W)) + 1)))) + q1.X))]) rfl ⟨rfl, trivial⟩ ?_
  exact fun w' hb hs => ⟨_, _, ⟨rfl, rfl⟩, rfl, hb, hs.sel [] _ (by decide) rfl⟩

/- spec.l02Side -/
def sh143 (q0 : Int) : Option (Bool) := Option.bind (sh127 q0 1 8) fun x1 => some x1
def T143 (r : Bool) (v : Value) (rs : List Own) : Prop := v = rets [.bool r] ∧ rs = []
set_option maxRecDepth 100000 in
theorem c143 {w : World} {q0 : Int} {r : Bool} (hres : sh143 q0 = some r) : Calls Go.Proofs.Try.prog 143 [.int .i64 q0].toArray w (Ret w (T143 r)) := by
  unfold sh143 at hres
  refine calls_of (n := 5) (M := []) (es := []) Go.Proofs.Try.func143 rfl rfl rfl (Sep.nil _ _ _) ?_
  refine JX.seq ?_
  refine JX.region ?_
  refine JL.val (yl_assign rfl) rfl ?_
  refine JL.nil ?_
  refine JE.code ?_
  refine JX.seq ?_
  refine JX.region ?_
  refine JL.val (yl_move rfl) rfl ?_
  obtain ⟨x1, hx1, hres⟩ := bind_some hres
  refine JL.eff (ef_call (T := T127 x1) Go.Proofs.Try.func127 rfl (by kernel_rfl) rfl (fun w hC => c127  hx1)) rfl ?_
  rintro _ _ ⟨_, ⟨rfl, rfl⟩, rfl⟩
  refine JL.val (yl_assign rfl) rfl ?_
  refine JL.nil ?_
  refine JE.code ?_
  refine JX.ret ?_
  obtain rfl := Option.some.inj hres
  refine JE.ret (rs := [.tmp 2]) (vs := [.bool x1]) rfl ⟨rfl, trivial⟩ ?_
  exact fun w' hb hs => ⟨_, _, ⟨rfl, rfl⟩, rfl, hb, hs.sel [] _ (by decide) rfl⟩

/- spec.l02Inner -/
def sh144 (q0 : Int) (q1 : Int) : Option (Int) := some (w64 ((w64 (q0 * (w64 (q1 - 1)))) + (w64 (q1 * (w64 (q0 - 1))))))
def T144 (r : Int) (v : Value) (rs : List Own) : Prop := v = rets [.int .i64 r] ∧ rs = []
set_option maxRecDepth 100000 in
theorem c144 {w : World} {q0 : Int} {q1 : Int} {r : Int} (hres : sh144 q0 q1 = some r) : Calls Go.Proofs.Try.prog 144 [.int .i64 q0, .int .i64 q1].toArray w (Ret w (T144 r)) := by
  unfold sh144 at hres
  refine calls_of (n := 14) (M := []) (es := []) Go.Proofs.Try.func144 rfl rfl rfl (Sep.nil _ _ _) ?_
  refine JX.seq ?_
  refine JX.region ?_
  refine JL.val (yl_assign rfl) rfl ?_
  refine JL.nil ?_
  refine JE.code ?_
  refine JX.seq ?_
  refine JX.region ?_
  refine JL.val (yl_move rfl) rfl ?_
  refine JL.val (yl_move rfl) rfl ?_
  refine JL.val (yl_sub rfl rfl) rfl ?_
  refine JL.val (yl_mul rfl rfl) rfl ?_
  refine JL.val (yl_move rfl) rfl ?_
  refine JL.val (yl_move rfl) rfl ?_
  refine JL.val (yl_sub rfl rfl) rfl ?_
  refine JL.val (yl_mul rfl rfl) rfl ?_
  refine JL.val (yl_add rfl rfl) rfl ?_
  refine JL.val (yl_assign rfl) rfl ?_
  refine JL.nil ?_
  refine JE.weak (env' := [(4, .int .i64 (w64 ((w64 (q0 * (w64 (q1 - 1)))) + (w64 (q1 * (w64 (q0 - 1)))))))]) (es' := []) [] ?_ ⟨rfl, trivial⟩ (by decide) rfl
  refine JE.code ?_
  refine JX.ret ?_
  obtain rfl := Option.some.inj hres
  refine JE.ret (rs := [.tmp 4]) (vs := [.int .i64 (w64 ((w64 (q0 * (w64 (q1 - 1)))) + (w64 (q1 * (w64 (q0 - 1))))))]) rfl ⟨rfl, trivial⟩ ?_
  exact fun w' hb hs => ⟨_, _, ⟨rfl, rfl⟩, rfl, hb, hs.sel [] _ (by decide) rfl⟩

/- spec.l02Ok -/
def sh82_1 (q0 : SPanel) : Int → Option (Int ⊕ (Unit ⊕ Bool))
  | x7 => bif decide (x7 < (q0.Breaks.length : Int)) then (Option.bind (getI q0.Breaks x7) fun x8 => Option.bind (sh127 x8 0 2) fun x9 => bif !x9 then (some (.inr (.inr false))) else (some (.inl (w64 (x7 + 1))))) else (some (.inr (.inl ())))
def sh82 (q0 : SPanel) : Option (Bool) := Option.bind (sh143 q0.W) fun x2 => Option.bind (bif !x2 then (some true) else (Option.bind (sh143 q0.H) fun x4 => some !x4)) fun cb3 => (Option.bind (bif cb3 then (some true) else (Option.bind (sh144 q0.W q0.H) fun x6 => some ((q0.Breaks.length : Int) != x6))) fun cb5 => (bif cb5 then (some false) else (Option.bind (iter (sh82_1 q0) 0) fun y1 => elimS y1 (fun r => some r) fun b1 => (some true))))
def T82 (r : Bool) (v : Value) (rs : List Own) : Prop := v = rets [.bool r] ∧ rs = []
set_option maxRecDepth 100000 in
theorem c82 {w : World} {q0 : SPanel} {a_0 : Option Addr} {n_0 : Nat} {a_0_2 : Option Addr} {n_0_2 c_0_2 : Nat} (g_0 : RdAt w a_0 n_0 [.int .i64 q0.W, .int .i64 q0.H, .slice a_0_2 n_0_2 c_0_2]) (g_0_2 : Rd w a_0_2 (eI64.fl q0.Breaks)) (l_0_2 : q0.Breaks.length = n_0_2) (k_0_2 : n_0_2 ≤ c_0_2) {r : Bool} (hres : sh82 q0 = some r) : Calls Go.Proofs.Try.prog 82 [ptrAt a_0 n_0].toArray w (Ret w (T82 r)) := by
  subst l_0_2
  obtain ⟨b_0, e_0, g_0⟩ := g_0.norm0
  rw [e_0]
  unfold sh82 at hres
  refine calls_of (n := 53) (M := []) (es := []) Go.Proofs.Try.func82 rfl rfl rfl (Sep.nil _ _ _) ?_
  refine JX.seq ?_
  refine JX.region ?_
  refine JL.val (yl_assign rfl) rfl ?_
  refine JL.nil ?_
  refine JE.code ?_
  refine JX.seq ?_
  refine JX.seq ?_
  refine JX.drawH [(0, .pure), (1, .pure), (2, .pure), (3, .read), (4, .must), (5, .pure), (6, .pure), (7, .pure), (8, .pure), (9, .pure), (10, .read), (11, .must), (12, .pure), (13, .pure), (14, .pure), (15, .pure), (16, .pure), (17, .pure), (18, .read), (19, .pure), (20, .pure), (21, .pure), (22, .pure), (23, .read), (24, .pure), (25, .pure), (26, .pure), (27, .read), (28, .must), (29, .pure), (30, .pure)] [] [] [] [] [] mixedP (by kernel_rfl) (by kernel_rfl) (by decide) rfl rfl ?_
  intro wrr1 Nr1 hFr1
  refine JH.pure rfl (yl_move rfl) rfl ?_
  refine JH.pure rfl (yl_nilCheckAt rfl (Rd.some g_0 (j := 0) rfl)) rfl ?_
  refine JH.pure rfl (yl_fieldAt Go.Proofs.Try.underlying28 rfl i2 i2n rfl (Rd.some g_0 (j := 0) rfl)) rfl ?_
  refine JH.read rfl (yl_load1 Go.Proofs.Try.underlying2 rfl rfl (fun w hw => hFr1.arg g_0 hw) rfl) rfl ?_
  obtain ⟨x2, hx2, hres⟩ := bind_some hres
  refine JH.must rfl (ef_call (T := T143 x2) Go.Proofs.Try.func143 rfl (by kernel_rfl) rfl (fun w hC => c143  hx2)) rfl rfl ?_
  rintro _ _ ⟨_, ⟨rfl, rfl⟩, rfl⟩
  refine JH.pure rfl (yl_not rfl) rfl ?_
  refine JH.pure rfl (yl_move rfl) rfl ?_
  obtain ⟨cb3, hcb3, hres⟩ := bind_some hres
  refine JH.cut (K := fun J => J [(0, ptrAt b_0 0), (17, .bool cb3)] []) 7 ?_ ?_
  · refine JH.pure rfl (yl_move rfl) rfl ?_
    obtain ⟨cb5, hcb5, hres⟩ := bind_some hres
    refine JH.cut (K := fun J => J [(0, ptrAt b_0 0), (34, .bool cb5)] []) 16 ?_ ?_
    · refine JH.nil ?_
      refine JE.weak (env' := [(0, ptrAt b_0 0), (34, .bool cb5)]) (es' := []) [] ?_ ⟨rfl, rfl, trivial⟩ (by decide) rfl
      refine JE.code ?_
      rcases cond_some hres with ⟨hb, hres⟩ | ⟨hb, hres⟩
      · refine JX.condT rfl hb ?_
        refine JX.seq ?_
        refine JX.region ?_
        refine JL.val (yl_assign rfl) rfl ?_
        refine JL.nil ?_
        refine JE.code ?_
        refine JX.ret ?_
        obtain rfl := Option.some.inj hres
        refine JE.ret (rs := [.tmp 2]) (vs := [.bool false]) rfl ⟨rfl, trivial⟩ ?_
        exact fun w' hb hs => ⟨_, _, ⟨rfl, rfl⟩, rfl, hb, hs.sel [] _ (by decide) rfl⟩
      · refine JX.condF rfl hb ?_
        refine JX.skip ?_
        refine JE.code ?_
        refine JX.seq ?_
        refine JX.seq ?_
        refine JX.region ?_
        refine JL.val (yl_assign rfl) rfl ?_
        refine JL.nil ?_
        refine JE.code ?_
        refine JX.block ?_
        obtain ⟨y1, hy1, hresO1⟩ := bind_some hres
        refine JX.loop (I := fun (s1 : Int) aa ww => St w [] 53 [(0, ptrAt b_0 0), (3, .int .i64 s1)] [] aa ww) (sh82_1 q0) hy1 (fun a w h => h.weak ⟨rfl, rfl, trivial⟩ [] (by decide) rfl) ?_
        rintro x7 o1 hres hox1 aa ww hS
        refine (?_ : JX Go.Proofs.Try.prog w [] 53 _ _ [(0, ptrAt b_0 0), (3, .int .i64 x7)] [] _) aa ww hS
        clear hS
        unfold sh82_1 at hres
        refine JX.seq ?_
        refine JX.seq ?_
        refine JX.region ?_
        refine JL.val (yl_move rfl) rfl ?_
        refine JL.val (yl_move rfl) rfl ?_
        refine JL.val (yl_nilCheckAt rfl (Rd.some g_0 (j := 0) rfl)) rfl ?_
        refine JL.val (yl_fieldAt Go.Proofs.Try.underlying28 rfl i22 i22n rfl (Rd.some g_0 (j := 0) rfl)) rfl ?_
        refine JL.val (yl_load1 Go.Proofs.Try.underlying22 rfl rfl (fun w hC => rd_arg g_0 hC) rfl) rfl ?_
        refine JL.val (yl_len_slice Go.Proofs.Try.underlying22 rfl) rfl ?_
        refine JL.val (yl_lss rfl rfl) rfl ?_
        refine JL.nil ?_
        refine JE.weak (env' := [(0, ptrAt b_0 0), (3, .int .i64 x7), (41, .bool (decide (x7 < (q0.Breaks.length : Int))))]) (es' := []) [] ?_ ⟨rfl, rfl, rfl, trivial⟩ (by decide) rfl
        refine JE.code ?_
        rcases cond_some hres with ⟨hb, hres⟩ | ⟨hb, hres⟩
        · refine JX.condT rfl hb ?_
          refine JX.skip ?_
          refine JE.code ?_
          refine JX.seq ?_
          refine JX.block ?_
          refine JX.seq ?_
          refine JX.region ?_
          refine JL.val (yl_move rfl) rfl ?_
          refine JL.val (yl_nilCheckAt rfl (Rd.some g_0 (j := 0) rfl)) rfl ?_
          refine JL.val (yl_fieldAt Go.Proofs.Try.underlying28 rfl i22 i22n rfl (Rd.some g_0 (j := 0) rfl)) rfl ?_
          refine JL.val (yl_load1 Go.Proofs.Try.underlying22 rfl rfl (fun w hC => rd_arg g_0 hC) rfl) rfl ?_
          refine JL.val (yl_move rfl) rfl ?_
          obtain ⟨x8, hx8, hres⟩ := bind_some hres
          refine JL.val (yl_idxT Go.Proofs.Try.underlying22 i2 i2s rfl rfl hx8 rfl (fun w hC => rd_arg g_0_2 hC)) rfl ?_
          refine JL.val (yl_loadT0 Go.Proofs.Try.underlying2 rfl rfl hx8 (fun w hC => rd_arg g_0_2 hC) rfl) rfl ?_
          obtain ⟨x9, hx9, hres⟩ := bind_some hres
          refine JL.eff (ef_call (T := T127 x9) Go.Proofs.Try.func127 rfl (by kernel_rfl) rfl (fun w hC => c127  hx9)) rfl ?_
          rintro _ _ ⟨_, ⟨rfl, rfl⟩, rfl⟩
          refine JL.val (yl_not rfl) rfl ?_
          refine JL.nil ?_
          refine JE.weak (env' := [(0, ptrAt b_0 0), (3, .int .i64 x7), (52, .bool !x9)]) (es' := []) [] ?_ ⟨rfl, rfl, rfl, trivial⟩ (by decide) rfl
          refine JE.code ?_
          rcases cond_some hres with ⟨hb, hres⟩ | ⟨hb, hres⟩
          · refine JX.condT rfl hb ?_
            refine JX.seq ?_
            refine JX.region ?_
            refine JL.val (yl_assign rfl) rfl ?_
            refine JL.nil ?_
            refine JE.code ?_
            refine JX.ret ?_
            refine JE.qbr ?_
            refine JE.qbr ?_
            have hres := elimS_inr hresO1 (hox1 _ (Option.some.inj hres).symm)
            obtain rfl := Option.some.inj hres
            refine JE.ret (rs := [.tmp 2]) (vs := [.bool false]) rfl ⟨rfl, trivial⟩ ?_
            exact fun w' hb hs => ⟨_, _, ⟨rfl, rfl⟩, rfl, hb, hs.sel [] _ (by decide) rfl⟩
          · refine JX.condF rfl hb ?_
            refine JX.skip ?_
            refine JE.code ?_
            refine JX.region ?_
            refine JL.val (yl_move rfl) rfl ?_
            refine JL.val (yl_add rfl rfl) rfl ?_
            refine JL.val (yl_assign rfl) rfl ?_
            refine JL.nil ?_
            refine JE.cont hres ?_
            exact fun a w h => h.weak ⟨rfl, rfl, trivial⟩ [] (by decide) rfl
        · refine JX.condF rfl hb ?_
          refine JX.exit ?_
          refine JE.qb rfl ?_
          obtain ⟨b1, hb1⟩ : ∃ b : Unit, b = () := ⟨_, rfl⟩
          have hy1 : Sum.inl b1 = y1 := by rw [hb1]; exact hox1 _ (Option.some.inj hres).symm
          have hres := elimS_inl hresO1 hy1
          refine JE.weak (env' := []) (es' := []) [] ?_ trivial (by decide) (by subst hb1; rfl)
          refine JE.code ?_
          refine JX.seq ?_
          refine JX.region ?_
          refine JL.val (yl_assign rfl) rfl ?_
          refine JL.nil ?_
          refine JE.code ?_
          refine JX.ret ?_
          obtain rfl := Option.some.inj hres
          refine JE.ret (rs := [.tmp 2]) (vs := [.bool true]) rfl ⟨rfl, trivial⟩ ?_
          exact fun w' hb hs => ⟨_, _, ⟨rfl, rfl⟩, rfl, hb, hs.sel [] _ (by decide) rfl⟩
    · intro K
      rcases cond_some hcb5 with ⟨hb, hres⟩ | ⟨hb, hres⟩
      · refine JH.set (d := 18) (v := .bool true) (congrArg (fun b => some (Value.bool b)) hb) ?_
        refine JH.gskip rfl rfl rfl rfl rfl rfl ?_
        refine JH.gskip rfl rfl rfl rfl rfl rfl ?_
        refine JH.gskip rfl rfl rfl rfl rfl rfl ?_
        refine JH.gskip rfl rfl rfl rfl rfl rfl ?_
        refine JH.gskip rfl rfl rfl rfl rfl rfl ?_
        refine JH.gskip rfl rfl rfl rfl rfl rfl ?_
        refine JH.gskip rfl rfl rfl rfl rfl rfl ?_
        refine JH.gskip rfl rfl rfl rfl rfl rfl ?_
        refine JH.gskip rfl rfl rfl rfl rfl rfl ?_
        refine JH.gskip rfl rfl rfl rfl rfl rfl ?_
        refine JH.gskip rfl rfl rfl rfl rfl rfl ?_
        refine JH.gskip rfl rfl rfl rfl rfl rfl ?_
        refine JH.gskip rfl rfl rfl rfl rfl rfl ?_
        refine JH.gskip rfl rfl rfl rfl rfl rfl ?_
        refine JH.gskip rfl rfl rfl rfl rfl rfl ?_
        refine JH.pure rfl (yl_pick_true rfl rfl) rfl ?_
        have he := Option.some.inj hres
        exact JH.weak [] K ⟨rfl, (by rw [← he]; rfl), trivial⟩ (by decide) rfl
      · refine JH.set (d := 18) (v := .bool false) (congrArg (fun b => some (Value.bool b)) hb) ?_
        refine JH.gpure rfl rfl rfl (yl_move rfl) rfl ?_
        refine JH.gpure rfl rfl rfl (yl_nilCheckAt rfl (Rd.some g_0 (j := 0) rfl)) rfl ?_
        refine JH.gpure rfl rfl rfl (yl_fieldAt Go.Proofs.Try.underlying28 rfl i22 i22n rfl (Rd.some g_0 (j := 0) rfl)) rfl ?_
        refine JH.gread rfl rfl rfl (yl_load1 Go.Proofs.Try.underlying22 rfl rfl (fun w hw => hFr1.arg g_0 hw) rfl) rfl ?_
        refine JH.gpure rfl rfl rfl (yl_len_slice Go.Proofs.Try.underlying22 rfl) rfl ?_
        refine JH.gpure rfl rfl rfl (yl_move rfl) rfl ?_
        refine JH.gpure rfl rfl rfl (yl_nilCheckAt rfl (Rd.some g_0 (j := 0) rfl)) rfl ?_
        refine JH.gpure rfl rfl rfl (yl_fieldAt Go.Proofs.Try.underlying28 rfl i2 i2n rfl (Rd.some g_0 (j := 0) rfl)) rfl ?_
        refine JH.gread rfl rfl rfl (yl_load1 Go.Proofs.Try.underlying2 rfl rfl (fun w hw => hFr1.arg g_0 hw) rfl) rfl ?_
        refine JH.gpure rfl rfl rfl (yl_move rfl) rfl ?_
        refine JH.gpure rfl rfl rfl (yl_nilCheckAt rfl (Rd.some g_0 (j := 0) rfl)) rfl ?_
        refine JH.gpure rfl rfl rfl (yl_fieldAt Go.Proofs.Try.underlying28 rfl i2 i2n rfl (Rd.some g_0 (j := 0) rfl)) rfl ?_
        refine JH.gread rfl rfl rfl (yl_load1 Go.Proofs.Try.underlying2 rfl rfl (fun w hw => hFr1.arg g_0 hw) rfl) rfl ?_
        obtain ⟨x6, hx6, hres⟩ := bind_some hres
        refine JH.gmust rfl rfl rfl (ef_call (T := T144 x6) Go.Proofs.Try.func144 rfl (by kernel_rfl) rfl (fun w hC => c144  hx6)) rfl rfl ?_
        rintro _ _ ⟨_, ⟨rfl, rfl⟩, rfl⟩
        refine JH.gpure rfl rfl rfl (yl_neq rfl rfl) rfl ?_
        refine JH.pure rfl (yl_pick_false rfl rfl) rfl ?_
        have he := Option.some.inj hres
        exact JH.weak [] K ⟨rfl, (by rw [← he]; rfl), trivial⟩ (by decide) rfl
  · intro K
    rcases cond_some hcb3 with ⟨hb, hres⟩ | ⟨hb, hres⟩
    · refine JH.set (d := 10) (v := .bool true) (congrArg (fun b => some (Value.bool b)) hb) ?_
      refine JH.gskip rfl rfl rfl rfl rfl rfl ?_
      refine JH.gskip rfl rfl rfl rfl rfl rfl ?_
      refine JH.gskip rfl rfl rfl rfl rfl rfl ?_
      refine JH.gskip rfl rfl rfl rfl rfl rfl ?_
      refine JH.gskip rfl rfl rfl rfl rfl rfl ?_
      refine JH.gskip rfl rfl rfl rfl rfl rfl ?_
      refine JH.pure rfl (yl_pick_true rfl rfl) rfl ?_
      have he := Option.some.inj hres
      exact JH.weak [] K ⟨rfl, (by rw [← he]; rfl), trivial⟩ (by decide) rfl
    · refine JH.set (d := 10) (v := .bool false) (congrArg (fun b => some (Value.bool b)) hb) ?_
      refine JH.gpure rfl rfl rfl (yl_move rfl) rfl ?_
      refine JH.gpure rfl rfl rfl (yl_nilCheckAt rfl (Rd.some g_0 (j := 0) rfl)) rfl ?_
      refine JH.gpure rfl rfl rfl (yl_fieldAt Go.Proofs.Try.underlying28 rfl i2 i2n rfl (Rd.some g_0 (j := 0) rfl)) rfl ?_
      refine JH.gread rfl rfl rfl (yl_load1 Go.Proofs.Try.underlying2 rfl rfl (fun w hw => hFr1.arg g_0 hw) rfl) rfl ?_
      obtain ⟨x4, hx4, hres⟩ := bind_some hres
      refine JH.gmust rfl rfl rfl (ef_call (T := T143 x4) Go.Proofs.Try.func143 rfl (by kernel_rfl) rfl (fun w hC => c143  hx4)) rfl rfl ?_
      rintro _ _ ⟨_, ⟨rfl, rfl⟩, rfl⟩
      refine JH.gpure rfl rfl rfl (yl_not rfl) rfl ?_
      refine JH.pure rfl (yl_pick_false rfl rfl) rfl ?_
      have he := Option.some.inj hres
      exact JH.weak [] K ⟨rfl, (by rw [← he]; rfl), trivial⟩ (by decide) rfl

/- spec.l02Has -/
def sh177 (q0 : SPanel) (q1 : SPoint) : Option (Bool) := Option.bind (sh127 q1.X 0 (w64 (2 * q0.W))) fun x4 => Option.bind (bif x4 then (Option.bind (sh127 q1.Y 0 (w64 (2 * q0.H))) fun x6 => some x6) else (some false)) fun cb5 => (some (cb5 && (((w64 (q1.X + q1.Y)).tmod 2) == 1)))
def T177 (r : Bool) (v : Value) (rs : List Own) : Prop := v = rets [.bool r] ∧ rs = []
set_option maxRecDepth 100000 in
theorem c177 {w : World} {q0 : SPanel} {a_0 : Option Addr} {n_0 : Nat} {a_0_2 : Option Addr} {n_0_2 c_0_2 : Nat} (g_0 : RdAt w a_0 n_0 [.int .i64 q0.W, .int .i64 q0.H, .slice a_0_2 n_0_2 c_0_2]) (g_0_2 : Rd w a_0_2 (eI64.fl q0.Breaks)) (l_0_2 : q0.Breaks.length = n_0_2) (k_0_2 : n_0_2 ≤ c_0_2) {q1 : SPoint} {r : Bool} (hres : sh177 q0 q1 = some r) : Calls Go.Proofs.Try.prog 177 [ptrAt a_0 n_0, .agg #[.int .i64 q1.X, .int .i64 q1.Y]].toArray w (Ret w (T177 r)) := by
  subst l_0_2
  obtain ⟨b_0, e_0, g_0⟩ := g_0.norm0
  rw [e_0]
  unfold sh177 at hres
  refine calls_of (n := 32) (M := []) (es := []) Go.Proofs.Try.func177 rfl rfl rfl (Sep.nil _ _ _) ?_
  refine JX.seq ?_
  refine JX.region ?_
  refine JL.eff (ef_box rfl rfl) rfl ?_
  rintro _ _ ⟨g1, rfl, rfl⟩
  refine JL.val (yl_assign rfl) rfl ?_
  refine JL.nil ?_
  refine JE.code ?_
  refine JX.seq ?_
  refine JX.drawH [(0, .pure), (1, .read), (2, .pure), (3, .pure), (4, .pure), (5, .read), (6, .pure), (7, .must), (8, .pure), (9, .pure), (10, .read), (11, .pure), (12, .pure), (13, .pure), (14, .read), (15, .pure), (16, .must), (17, .pure), (18, .pure), (19, .pure), (20, .read), (21, .pure), (22, .read), (23, .pure), (24, .pure), (25, .pure), (26, .pure), (27, .pure)] [] [] [0] [] [boxO 35 g1 [.int .i64 q1.X, .int .i64 q1.Y]] mixedP (by kernel_rfl) (by kernel_rfl) (by decide) rfl rfl ?_
  intro wrr3 Nr3 hFr3
  refine JH.pure rfl (yl_fieldAt (a := some _) Go.Proofs.Try.underlying35 rfl i2 i2n rfl rfl) rfl ?_
  refine JH.read rfl (yl_load1 Go.Proofs.Try.underlying2 rfl rfl (fun w hw => hFr3.box 0 rfl rfl hw) rfl) rfl ?_
  refine JH.pure rfl (yl_move rfl) rfl ?_
  refine JH.pure rfl (yl_nilCheckAt rfl (Rd.some g_0 (j := 0) rfl)) rfl ?_
  refine JH.pure rfl (yl_fieldAt Go.Proofs.Try.underlying28 rfl i2 i2n rfl (Rd.some g_0 (j := 0) rfl)) rfl ?_
  refine JH.read rfl (yl_load1 Go.Proofs.Try.underlying2 rfl rfl (fun w hw => hFr3.arg g_0 hw) rfl) rfl ?_
  refine JH.pure rfl (yl_mul rfl rfl) rfl ?_
  obtain ⟨x4, hx4, hres⟩ := bind_some hres
  refine JH.must rfl (ef_call (T := T127 x4) Go.Proofs.Try.func127 rfl (by kernel_rfl) rfl (fun w hC => c127  hx4)) rfl rfl ?_
  rintro _ _ ⟨_, ⟨rfl, rfl⟩, rfl⟩
  refine JH.pure rfl (yl_move rfl) rfl ?_
  obtain ⟨cb5, hcb5, hres⟩ := bind_some hres
  refine JH.cut (K := fun J => J [(3, ptrAt (some ⟨g1, 0, none⟩) 0), (22, .bool cb5)] []) 9 ?_ ?_
  · refine JH.pure rfl (yl_move rfl) rfl ?_
    refine JH.cut (K := fun J => J [(31, .bool (cb5 && (((w64 (q1.X + q1.Y)).tmod 2) == 1)))] []) 8 ?_ ?_
    · refine JH.pure rfl (yl_assign rfl) rfl ?_
      refine JH.nil ?_
      refine JE.weak (env' := [(4, .bool (cb5 && (((w64 (q1.X + q1.Y)).tmod 2) == 1)))]) (es' := []) [] ?_ ⟨rfl, trivial⟩ (by decide) rfl
      refine JE.code ?_
      refine JX.ret ?_
      obtain rfl := Option.some.inj hres
      refine JE.ret (rs := [.tmp 4]) (vs := [.bool (cb5 && (((w64 (q1.X + q1.Y)).tmod 2) == 1))]) rfl ⟨rfl, trivial⟩ ?_
      exact fun w' hb hs => ⟨_, _, ⟨rfl, rfl⟩, rfl, hb, hs.sel [] _ (by decide) rfl⟩
    · intro K
      rcases Bool.eq_false_or_eq_true (cb5) with hb | hb
      · refine JH.set (d := 23) (v := .bool true) (congrArg (fun b => some (Value.bool b)) hb) ?_
        refine JH.gpure rfl rfl rfl (yl_fieldAt (a := some _) Go.Proofs.Try.underlying35 rfl i2 i2n rfl rfl) rfl ?_
        refine JH.gread rfl rfl rfl (yl_load1 Go.Proofs.Try.underlying2 rfl rfl (fun w hw => hFr3.box 0 rfl rfl hw) rfl) rfl ?_
        refine JH.gpure rfl rfl rfl (yl_fieldAt (a := some _) Go.Proofs.Try.underlying35 rfl i2 i2n rfl rfl) rfl ?_
        refine JH.gread rfl rfl rfl (yl_load1 Go.Proofs.Try.underlying2 rfl rfl (fun w hw => hFr3.box 0 rfl rfl hw) rfl) rfl ?_
        refine JH.gpure rfl rfl rfl (yl_add rfl rfl) rfl ?_
        refine JH.gpure rfl rfl rfl (yl_rem rfl rfl (by decide)) rfl ?_
        refine JH.gpure rfl rfl rfl (yl_eql rfl rfl) rfl ?_
        refine JH.pure rfl (yl_pick_true rfl rfl) rfl ?_
        exact JH.weak [] K ⟨(by rw [hb]; rfl), trivial⟩ (by decide) rfl
      · refine JH.set (d := 23) (v := .bool false) (congrArg (fun b => some (Value.bool b)) hb) ?_
        refine JH.gskip rfl rfl rfl rfl rfl rfl ?_
        refine JH.gskip rfl rfl rfl rfl rfl rfl ?_
        refine JH.gskip rfl rfl rfl rfl rfl rfl ?_
        refine JH.gskip rfl rfl rfl rfl rfl rfl ?_
        refine JH.gskip rfl rfl rfl rfl rfl rfl ?_
        refine JH.gskip rfl rfl rfl rfl rfl rfl ?_
        refine JH.gskip rfl rfl rfl rfl rfl rfl ?_
        refine JH.pure rfl (yl_pick_false rfl rfl) rfl ?_
        exact JH.weak [] K ⟨(by rw [hb]; rfl), trivial⟩ (by decide) rfl
  · intro K
    rcases cond_some hcb5 with ⟨hb, hres⟩ | ⟨hb, hres⟩
    · refine JH.set (d := 13) (v := .bool true) (congrArg (fun b => some (Value.bool b)) hb) ?_
      refine JH.gpure rfl rfl rfl (yl_fieldAt (a := some _) Go.Proofs.Try.underlying35 rfl i2 i2n rfl rfl) rfl ?_
      refine JH.gread rfl rfl rfl (yl_load1 Go.Proofs.Try.underlying2 rfl rfl (fun w hw => hFr3.box 0 rfl rfl hw) rfl) rfl ?_
      refine JH.gpure rfl rfl rfl (yl_move rfl) rfl ?_
      refine JH.gpure rfl rfl rfl (yl_nilCheckAt rfl (Rd.some g_0 (j := 0) rfl)) rfl ?_
      refine JH.gpure rfl rfl rfl (yl_fieldAt Go.Proofs.Try.underlying28 rfl i2 i2n rfl (Rd.some g_0 (j := 0) rfl)) rfl ?_
      refine JH.gread rfl rfl rfl (yl_load1 Go.Proofs.Try.underlying2 rfl rfl (fun w hw => hFr3.arg g_0 hw) rfl) rfl ?_
      refine JH.gpure rfl rfl rfl (yl_mul rfl rfl) rfl ?_
      obtain ⟨x6, hx6, hres⟩ := bind_some hres
      refine JH.gmust rfl rfl rfl (ef_call (T := T127 x6) Go.Proofs.Try.func127 rfl (by kernel_rfl) rfl (fun w hC => c127  hx6)) rfl rfl ?_
      rintro _ _ ⟨_, ⟨rfl, rfl⟩, rfl⟩
      refine JH.pure rfl (yl_pick_true rfl rfl) rfl ?_
      have he := Option.some.inj hres
      exact JH.weak [] K ⟨rfl, (by rw [← he]; rfl), trivial⟩ (by decide) rfl
    · refine JH.set (d := 13) (v := .bool false) (congrArg (fun b => some (Value.bool b)) hb) ?_
      refine JH.gskip rfl rfl rfl rfl rfl rfl ?_
      refine JH.gskip rfl rfl rfl rfl rfl rfl ?_
      refine JH.gskip rfl rfl rfl rfl rfl rfl ?_
      refine JH.gskip rfl rfl rfl rfl rfl rfl ?_
      refine JH.gskip rfl rfl rfl rfl rfl rfl ?_
      refine JH.gskip rfl rfl rfl rfl rfl rfl ?_
      refine JH.gskip rfl rfl rfl rfl rfl rfl ?_
      refine JH.gskip rfl rfl rfl rfl rfl rfl ?_
      refine JH.pure rfl (yl_pick_false rfl rfl) rfl ?_
      have he := Option.some.inj hres
      exact JH.weak [] K ⟨rfl, (by rw [← he]; rfl), trivial⟩ (by decide) rfl

/- spec.l02Edge -/
def sh178 (q0 : SPanel) (q1 : SPoint) : Option (Bool) := some ((((q1.X == 0) || (q1.Y == 0)) || (q1.X == (w64 (2 * q0.W)))) || (q1.Y == (w64 (2 * q0.H))))
def T178 (r : Bool) (v : Value) (rs : List Own) : Prop := v = rets [.bool r] ∧ rs = []
set_option maxRecDepth 100000 in
theorem c178 {w : World} {q0 : SPanel} {a_0 : Option Addr} {n_0 : Nat} {a_0_2 : Option Addr} {n_0_2 c_0_2 : Nat} (g_0 : RdAt w a_0 n_0 [.int .i64 q0.W, .int .i64 q0.H, .slice a_0_2 n_0_2 c_0_2]) (g_0_2 : Rd w a_0_2 (eI64.fl q0.Breaks)) (l_0_2 : q0.Breaks.length = n_0_2) (k_0_2 : n_0_2 ≤ c_0_2) {q1 : SPoint} {r : Bool} (hres : sh178 q0 q1 = some r) : Calls Go.Proofs.Try.prog 178 [ptrAt a_0 n_0, .agg #[.int .i64 q1.X, .int .i64 q1.Y]].toArray w (Ret w (T178 r)) := by
  subst l_0_2
  obtain ⟨b_0, e_0, g_0⟩ := g_0.norm0
  rw [e_0]
  unfold sh178 at hres
  refine calls_of (n := 33) (M := []) (es := []) Go.Proofs.Try.func178 rfl rfl rfl (Sep.nil _ _ _) ?_
  refine JX.seq ?_
  refine JX.region ?_
  refine JL.eff (ef_box rfl rfl) rfl ?_
  rintro _ _ ⟨g1, rfl, rfl⟩
  refine JL.val (yl_assign rfl) rfl ?_
  refine JL.nil ?_
  refine JE.code ?_
  refine JX.seq ?_
  refine JX.drawH [(0, .pure), (1, .read), (2, .pure), (3, .pure), (4, .pure), (5, .read), (6, .pure), (7, .pure), (8, .pure), (9, .pure), (10, .read), (11, .pure), (12, .pure), (13, .pure), (14, .read), (15, .pure), (16, .pure), (17, .pure), (18, .pure), (19, .pure), (20, .read), (21, .pure), (22, .pure), (23, .pure), (24, .read), (25, .pure), (26, .pure), (27, .pure), (28, .pure)] [] [] [0] [] [boxO 35 g1 [.int .i64 q1.X, .int .i64 q1.Y]] mixedP (by kernel_rfl) (by kernel_rfl) (by decide) rfl rfl ?_
  intro wrr3 Nr3 hFr3
  refine JH.pure rfl (yl_fieldAt (a := some _) Go.Proofs.Try.underlying35 rfl i2 i2n rfl rfl) rfl ?_
  refine JH.read rfl (yl_load1 Go.Proofs.Try.underlying2 rfl rfl (fun w hw => hFr3.box 0 rfl rfl hw) rfl) rfl ?_
  refine JH.pure rfl (yl_eql rfl rfl) rfl ?_
  refine JH.pure rfl (yl_move rfl) rfl ?_
  refine JH.cut (K := fun J => J [(0, ptrAt b_0 0), (3, ptrAt (some ⟨g1, 0, none⟩) 0), (12, .bool ((q1.X == 0) || (q1.Y == 0)))] []) 4 ?_ ?_
  · refine JH.pure rfl (yl_move rfl) rfl ?_
    refine JH.cut (K := fun J => J [(0, ptrAt b_0 0), (3, ptrAt (some ⟨g1, 0, none⟩) 0), (22, .bool (((q1.X == 0) || (q1.Y == 0)) || (q1.X == (w64 (2 * q0.W)))))] []) 9 ?_ ?_
    · refine JH.pure rfl (yl_move rfl) rfl ?_
      refine JH.cut (K := fun J => J [(32, .bool ((((q1.X == 0) || (q1.Y == 0)) || (q1.X == (w64 (2 * q0.W)))) || (q1.Y == (w64 (2 * q0.H)))))] []) 9 ?_ ?_
      · refine JH.pure rfl (yl_assign rfl) rfl ?_
        refine JH.nil ?_
        refine JE.weak (env' := [(4, .bool ((((q1.X == 0) || (q1.Y == 0)) || (q1.X == (w64 (2 * q0.W)))) || (q1.Y == (w64 (2 * q0.H)))))]) (es' := []) [] ?_ ⟨rfl, trivial⟩ (by decide) rfl
        refine JE.code ?_
        refine JX.ret ?_
        obtain rfl := Option.some.inj hres
        refine JE.ret (rs := [.tmp 4]) (vs := [.bool ((((q1.X == 0) || (q1.Y == 0)) || (q1.X == (w64 (2 * q0.W)))) || (q1.Y == (w64 (2 * q0.H))))]) rfl ⟨rfl, trivial⟩ ?_
        exact fun w' hb hs => ⟨_, _, ⟨rfl, rfl⟩, rfl, hb, hs.sel [] _ (by decide) rfl⟩
      · intro K
        rcases Bool.eq_false_or_eq_true (((q1.X == 0) || (q1.Y == 0)) || (q1.X == (w64 (2 * q0.W)))) with hb | hb
        · refine JH.set (d := 23) (v := .bool true) (congrArg (fun b => some (Value.bool b)) hb) ?_
          refine JH.gskip rfl rfl rfl rfl rfl rfl ?_
          refine JH.gskip rfl rfl rfl rfl rfl rfl ?_
          refine JH.gskip rfl rfl rfl rfl rfl rfl ?_
          refine JH.gskip rfl rfl rfl rfl rfl rfl ?_
          refine JH.gskip rfl rfl rfl rfl rfl rfl ?_
          refine JH.gskip rfl rfl rfl rfl rfl rfl ?_
          refine JH.gskip rfl rfl rfl rfl rfl rfl ?_
          refine JH.gskip rfl rfl rfl rfl rfl rfl ?_
          refine JH.pure rfl (yl_pick_true rfl rfl) rfl ?_
          exact JH.weak [] K ⟨(by rw [hb]; rfl), trivial⟩ (by decide) rfl
        · refine JH.set (d := 23) (v := .bool false) (congrArg (fun b => some (Value.bool b)) hb) ?_
          refine JH.gpure rfl rfl rfl (yl_fieldAt (a := some _) Go.Proofs.Try.underlying35 rfl i2 i2n rfl rfl) rfl ?_
          refine JH.gread rfl rfl rfl (yl_load1 Go.Proofs.Try.underlying2 rfl rfl (fun w hw => hFr3.box 0 rfl rfl hw) rfl) rfl ?_
          refine JH.gpure rfl rfl rfl (yl_move rfl) rfl ?_
          refine JH.gpure rfl rfl rfl (yl_nilCheckAt rfl (Rd.some g_0 (j := 0) rfl)) rfl ?_
          refine JH.gpure rfl rfl rfl (yl_fieldAt Go.Proofs.Try.underlying28 rfl i2 i2n rfl (Rd.some g_0 (j := 0) rfl)) rfl ?_
          refine JH.gread rfl rfl rfl (yl_load1 Go.Proofs.Try.underlying2 rfl rfl (fun w hw => hFr3.arg g_0 hw) rfl) rfl ?_
          refine JH.gpure rfl rfl rfl (yl_mul rfl rfl) rfl ?_
          refine JH.gpure rfl rfl rfl (yl_eql rfl rfl) rfl ?_
          refine JH.pure rfl (yl_pick_false rfl rfl) rfl ?_
          exact JH.weak [] K ⟨(by rw [hb]; rfl), trivial⟩ (by decide) rfl
    · intro K
      rcases Bool.eq_false_or_eq_true ((q1.X == 0) || (q1.Y == 0)) with hb | hb
      · refine JH.set (d := 13) (v := .bool true) (congrArg (fun b => some (Value.bool b)) hb) ?_
        refine JH.gskip rfl rfl rfl rfl rfl rfl ?_
        refine JH.gskip rfl rfl rfl rfl rfl rfl ?_
        refine JH.gskip rfl rfl rfl rfl rfl rfl ?_
        refine JH.gskip rfl rfl rfl rfl rfl rfl ?_
        refine JH.gskip rfl rfl rfl rfl rfl rfl ?_
        refine JH.gskip rfl rfl rfl rfl rfl rfl ?_
        refine JH.gskip rfl rfl rfl rfl rfl rfl ?_
        refine JH.gskip rfl rfl rfl rfl rfl rfl ?_
        refine JH.pure rfl (yl_pick_true rfl rfl) rfl ?_
        exact JH.weak [] K ⟨rfl, rfl, (by rw [hb]; rfl), trivial⟩ (by decide) rfl
      · refine JH.set (d := 13) (v := .bool false) (congrArg (fun b => some (Value.bool b)) hb) ?_
        refine JH.gpure rfl rfl rfl (yl_fieldAt (a := some _) Go.Proofs.Try.underlying35 rfl i2 i2n rfl rfl) rfl ?_
        refine JH.gread rfl rfl rfl (yl_load1 Go.Proofs.Try.underlying2 rfl rfl (fun w hw => hFr3.box 0 rfl rfl hw) rfl) rfl ?_
        refine JH.gpure rfl rfl rfl (yl_move rfl) rfl ?_
        refine JH.gpure rfl rfl rfl (yl_nilCheckAt rfl (Rd.some g_0 (j := 0) rfl)) rfl ?_
        refine JH.gpure rfl rfl rfl (yl_fieldAt Go.Proofs.Try.underlying28 rfl i2 i2n rfl (Rd.some g_0 (j := 0) rfl)) rfl ?_
        refine JH.gread rfl rfl rfl (yl_load1 Go.Proofs.Try.underlying2 rfl rfl (fun w hw => hFr3.arg g_0 hw) rfl) rfl ?_
        refine JH.gpure rfl rfl rfl (yl_mul rfl rfl) rfl ?_
        refine JH.gpure rfl rfl rfl (yl_eql rfl rfl) rfl ?_
        refine JH.pure rfl (yl_pick_false rfl rfl) rfl ?_
        exact JH.weak [] K ⟨rfl, rfl, (by rw [hb]; rfl), trivial⟩ (by decide) rfl
  · intro K
    rcases Bool.eq_false_or_eq_true (q1.X == 0) with hb | hb
    · refine JH.set (d := 8) (v := .bool true) (congrArg (fun b => some (Value.bool b)) hb) ?_
      refine JH.gskip rfl rfl rfl rfl rfl rfl ?_
      refine JH.gskip rfl rfl rfl rfl rfl rfl ?_
      refine JH.gskip rfl rfl rfl rfl rfl rfl ?_
      refine JH.pure rfl (yl_pick_true rfl rfl) rfl ?_
      exact JH.weak [] K ⟨rfl, rfl, (by rw [hb]; rfl), trivial⟩ (by decide) rfl
    · refine JH.set (d := 8) (v := .bool false) (congrArg (fun b => some (Value.bool b)) hb) ?_
      refine JH.gpure rfl rfl rfl (yl_fieldAt (a := some _) Go.Proofs.Try.underlying35 rfl i2 i2n rfl rfl) rfl ?_
      refine JH.gread rfl rfl rfl (yl_load1 Go.Proofs.Try.underlying2 rfl rfl (fun w hw => hFr3.box 0 rfl rfl hw) rfl) rfl ?_
      refine JH.gpure rfl rfl rfl (yl_eql rfl rfl) rfl ?_
      refine JH.pure rfl (yl_pick_false rfl rfl) rfl ?_
      exact JH.weak [] K ⟨rfl, rfl, (by rw [hb]; rfl), trivial⟩ (by decide) rfl

/- spec.l02Row -/
def sh182_1 (q0 : SPanel) (q1 : Int) : (Int × Int) → Option ((Int × Int) ⊕ (Int))
  | (x1, x2) => bif decide (x2 < q1) then (Option.bind (bif (x2.tmod 2) == 1 then (some (w64 ((w64 (x1 + q0.W)) - 1))) else (some (w64 (x1 + q0.W)))) fun j3 => (some (.inl (j3, w64 (x2 + 1))))) else (some (.inr x1))
def sh182 (q0 : SPanel) (q1 : Int) : Option (Int) := Option.bind (iter (sh182_1 q0 q1) (0, 1)) fun b1 => (some b1)
def T182 (r : Int) (v : Value) (rs : List Own) : Prop := v = rets [.int .i64 r] ∧ rs = []
set_option maxRecDepth 100000 in
theorem c182 {w : World} {q0 : SPanel} {a_0 : Option Addr} {n_0 : Nat} {a_0_2 : Option Addr} {n_0_2 c_0_2 : Nat} (g_0 : RdAt w a_0 n_0 [.int .i64 q0.W, .int .i64 q0.H, .slice a_0_2 n_0_2 c_0_2]) (g_0_2 : Rd w a_0_2 (eI64.fl q0.Breaks)) (l_0_2 : q0.Breaks.length = n_0_2) (k_0_2 : n_0_2 ≤ c_0_2) {q1 : Int} {r : Int} (hres : sh182 q0 q1 = some r) : Calls Go.Proofs.Try.prog 182 [ptrAt a_0 n_0, .int .i64 q1].toArray w (Ret w (T182 r)) := by
  subst l_0_2
  obtain ⟨b_0, e_0, g_0⟩ := g_0.norm0
  rw [e_0]
  unfold sh182 at hres
  refine calls_of (n := 24) (M := []) (es := []) Go.Proofs.Try.func182 rfl rfl rfl (Sep.nil _ _ _) ?_
  refine JX.seq ?_
  refine JX.region ?_
  refine JL.val (yl_assign rfl) rfl ?_
  refine JL.nil ?_
  refine JE.code ?_
  refine JX.seq ?_
  refine JX.region ?_
  refine JL.val (yl_assign rfl) rfl ?_
  refine JL.nil ?_
  refine JE.code ?_
  refine JX.seq ?_
  refine JX.seq ?_
  refine JX.region ?_
  refine JL.val (yl_assign rfl) rfl ?_
  refine JL.nil ?_
  refine JE.code ?_
  refine JX.block ?_
  obtain ⟨y1, hy1, hresO1⟩ := bind_some hres
  refine JX.loop (I := fun (s1 : Int × Int) aa ww => St w [] 24 [(0, ptrAt b_0 0), (1, .int .i64 q1), (5, .int .i64 s1.1), (6, .int .i64 s1.2)] [] aa ww) (sh182_1 q0 q1) hy1 (fun a w h => h.weak ⟨rfl, rfl, rfl, rfl, trivial⟩ [] (by decide) rfl) ?_
  rintro ⟨x1, x2⟩ o1 hres hox1 aa ww hS
  refine (?_ : JX Go.Proofs.Try.prog w [] 24 _ _ [(0, ptrAt b_0 0), (1, .int .i64 q1), (5, .int .i64 x1), (6, .int .i64 x2)] [] _) aa ww hS
  clear hS
  simp only [sh182_1] at hres
  refine JX.seq ?_
  refine JX.seq ?_
  refine JX.region ?_
  refine JL.val (yl_move rfl) rfl ?_
  refine JL.val (yl_move rfl) rfl ?_
  refine JL.val (yl_lss rfl rfl) rfl ?_
  refine JL.nil ?_
  refine JE.code ?_
  rcases cond_some hres with ⟨hb, hres⟩ | ⟨hb, hres⟩
  · refine JX.condT rfl hb ?_
    refine JX.skip ?_
    refine JE.code ?_
    refine JX.seq ?_
    refine JX.block ?_
    refine JX.seq ?_
    refine JX.region ?_
    refine JL.val (yl_move rfl) rfl ?_
    refine JL.val (yl_move rfl) rfl ?_
    refine JL.val (yl_nilCheckAt rfl (Rd.some g_0 (j := 0) rfl)) rfl ?_
    refine JL.val (yl_fieldAt Go.Proofs.Try.underlying28 rfl i2 i2n rfl (Rd.some g_0 (j := 0) rfl)) rfl ?_
    refine JL.val (yl_load1 Go.Proofs.Try.underlying2 rfl rfl (fun w hC => rd_arg g_0 hC) rfl) rfl ?_
    refine JL.val (yl_add rfl rfl) rfl ?_
    refine JL.val (yl_assign rfl) rfl ?_
    refine JL.nil ?_
    refine JE.weak (env' := [(0, ptrAt b_0 0), (1, .int .i64 q1), (5, .int .i64 (w64 (x1 + q0.W))), (6, .int .i64 x2)]) (es' := []) [] ?_ ⟨rfl, rfl, rfl, rfl, trivial⟩ (by decide) rfl
    refine JE.code ?_
    refine JX.seq ?_
    refine JX.region ?_
    refine JL.val (yl_move rfl) rfl ?_
    refine JL.val (yl_rem rfl rfl (by decide)) rfl ?_
    refine JL.val (yl_eql rfl rfl) rfl ?_
    refine JL.nil ?_
    refine JE.code ?_
    obtain ⟨j3, hj3, hresj3⟩ := bind_some hres
    refine JX.cut (K := fun J => J [(0, ptrAt b_0 0), (1, .int .i64 q1), (5, .int .i64 j3), (6, .int .i64 x2)] []) ?_ ?_
    · have hres := hresj3
      refine JE.code ?_
      refine JX.region ?_
      refine JL.val (yl_move rfl) rfl ?_
      refine JL.val (yl_add rfl rfl) rfl ?_
      refine JL.val (yl_assign rfl) rfl ?_
      refine JL.nil ?_
      refine JE.cont hres ?_
      exact fun a w h => h.weak ⟨rfl, rfl, rfl, rfl, trivial⟩ [] (by decide) rfl
    · intro K
      rcases cond_some hj3 with ⟨hb, hres⟩ | ⟨hb, hres⟩
      · refine JX.condT rfl hb ?_
        refine JX.region ?_
        refine JL.val (yl_move rfl) rfl ?_
        refine JL.val (yl_sub rfl rfl) rfl ?_
        refine JL.val (yl_assign rfl) rfl ?_
        refine JL.nil ?_
        have hj := Option.some.inj hres
        exact JE.weak [] (K) ⟨(by subst hj; rfl), (by subst hj; rfl), (by subst hj; rfl), (by subst hj; rfl), trivial⟩ (by decide) (by subst hj; rfl)
      · refine JX.condF rfl hb ?_
        refine JX.skip ?_
        have hj := Option.some.inj hres
        exact JE.weak [] (K) ⟨(by subst hj; rfl), (by subst hj; rfl), (by subst hj; rfl), (by subst hj; rfl), trivial⟩ (by decide) (by subst hj; rfl)
  · refine JX.condF rfl hb ?_
    refine JX.exit ?_
    refine JE.qb rfl ?_
    obtain ⟨b1, hb1⟩ : ∃ b : Int, b = x1 := ⟨_, rfl⟩
    have hy1 : b1 = y1 := by rw [hb1]; exact hox1 _ (Option.some.inj hres).symm
    have hres := hresO1
    rw [← hy1] at hres
    refine JE.weak (env' := [(5, .int .i64 b1)]) (es' := []) [] ?_ ⟨(by subst hb1; rfl), trivial⟩ (by decide) (by subst hb1; rfl)
    refine JE.code ?_
    refine JX.seq ?_
    refine JX.region ?_
    refine JL.val (yl_move rfl) rfl ?_
    refine JL.val (yl_assign rfl) rfl ?_
    refine JL.nil ?_
    refine JE.code ?_
    refine JX.ret ?_
    obtain rfl := Option.some.inj hres
    refine JE.ret (rs := [.tmp 4]) (vs := [.int .i64 b1]) rfl ⟨rfl, trivial⟩ ?_
    exact fun w' hb hs => ⟨_, _, ⟨rfl, rfl⟩, rfl, hb, hs.sel [] _ (by decide) rfl⟩

/- spec.l02Number -/
def sh179 (q0 : SPanel) (q1 : SPoint) : Option (Int) := Option.bind (sh182 q0 q1.Y) fun x4 => some (w64 (x4 + (w64 ((w64 (q1.X - 1)).tdiv 2))))
def T179 (r : Int) (v : Value) (rs : List Own) : Prop := v = rets [.int .i64 r] ∧ rs = []
set_option maxRecDepth 100000 in
theorem c179 {w : World} {q0 : SPanel} {a_0 : Option Addr} {n_0 : Nat} {a_0_2 : Option Addr} {n_0_2 c_0_2 : Nat} (g_0 : RdAt w a_0 n_0 [.int .i64 q0.W, .int .i64 q0.H, .slice a_0_2 n_0_2 c_0_2]) (g_0_2 : Rd w a_0_2 (eI64.fl q0.Breaks)) (l_0_2 : q0.Breaks.length = n_0_2) (k_0_2 : n_0_2 ≤ c_0_2) {q1 : SPoint} {r : Int} (hres : sh179 q0 q1 = some r) : Calls Go.Proofs.Try.prog 179 [ptrAt a_0 n_0, .agg #[.int .i64 q1.X, .int .i64 q1.Y]].toArray w (Ret w (T179 r)) := by
  subst l_0_2
  obtain ⟨b_0, e_0, g_0⟩ := g_0.norm0
  rw [e_0]
  unfold sh179 at hres
  refine calls_of (n := 14) (M := []) (es := []) Go.Proofs.Try.func179 rfl rfl rfl (Sep.nil _ _ _) ?_
  refine JX.seq ?_
  refine JX.region ?_
  refine JL.eff (ef_box rfl rfl) rfl ?_
  rintro _ _ ⟨g1, rfl, rfl⟩
  refine JL.val (yl_assign rfl) rfl ?_
  refine JL.nil ?_
  refine JE.code ?_
  refine JX.seq ?_
  refine JX.drawH [(0, .pure), (1, .pure), (2, .read), (4, .pure), (5, .read), (6, .pure), (7, .pure), (3, .must), (8, .pure), (9, .pure)] [] [] [0] [] [boxO 35 g1 [.int .i64 q1.X, .int .i64 q1.Y]] mixedP (by kernel_rfl) (by kernel_rfl) (by decide) rfl rfl ?_
  intro wrr3 Nr3 hFr3
  refine JH.pure rfl (yl_move rfl) rfl ?_
  refine JH.pure rfl (yl_fieldAt (a := some _) Go.Proofs.Try.underlying35 rfl i2 i2n rfl rfl) rfl ?_
  refine JH.read rfl (yl_load1 Go.Proofs.Try.underlying2 rfl rfl (fun w hw => hFr3.box 0 rfl rfl hw) rfl) rfl ?_
  refine JH.pure rfl (yl_fieldAt (a := some _) Go.Proofs.Try.underlying35 rfl i2 i2n rfl rfl) rfl ?_
  refine JH.read rfl (yl_load1 Go.Proofs.Try.underlying2 rfl rfl (fun w hw => hFr3.box 0 rfl rfl hw) rfl) rfl ?_
  refine JH.pure rfl (yl_sub rfl rfl) rfl ?_
  refine JH.pure rfl (yl_quo rfl rfl (by decide)) rfl ?_
  obtain ⟨x4, hx4, hres⟩ := bind_some hres
  refine JH.must rfl (ef_call (T := T182 x4) Go.Proofs.Try.func182 rfl (by kernel_rfl) rfl (fun w hC => c182 (RdAt.of0 (hFr3.arg g_0 hC.1)) (hFr3.arg g_0_2 hC.1) rfl k_0_2 hx4)) rfl rfl ?_
  rintro _ _ ⟨_, ⟨rfl, rfl⟩, rfl⟩
  refine JH.pure rfl (yl_add rfl rfl) rfl ?_
  refine JH.pure rfl (yl_assign rfl) rfl ?_
  refine JH.nil ?_
  refine JE.weak (env' := [(4, .int .i64 (w64 (x4 + (w64 ((w64 (q1.X - 1)).tdiv 2)))))]) (es' := []) [] ?_ ⟨rfl, trivial⟩ (by decide) rfl
  refine JE.code ?_
  refine JX.ret ?_
  obtain rfl := Option.some.inj hres
  refine JE.ret (rs := [.tmp 4]) (vs := [.int .i64 (w64 (x4 + (w64 ((w64 (q1.X - 1)).tdiv 2))))]) rfl ⟨rfl, trivial⟩ ?_
  exact fun w' hb hs => ⟨_, _, ⟨rfl, rfl⟩, rfl, hb, hs.sel [] _ (by decide) rfl⟩

/- spec.l21Joined -/
def sh145_1 (q0 : SPanel) (q1 : SPoint) : (Int × List SPoint) → Option ((Int × List SPoint) ⊕ (List SPoint))
  | (x7, x8) => bif decide (x7 < 4) then (Option.bind (sh177 q0 (SPoint.mk (w64 (q1.X + (w64 ((w64 ((w64 ((x7.tmod 2) * 2)) - 1)) * (w64 (x7.tdiv 2)))))) (w64 (q1.Y + (w64 ((w64 ((w64 ((x7.tmod 2) * 2)) - 1)) * (w64 (1 - (w64 (x7.tdiv 2)))))))))) fun x15 => Option.bind (bif !x15 then (some true) else (Option.bind (sh178 q0 (SPoint.mk (w64 (q1.X + (w64 ((w64 ((w64 ((x7.tmod 2) * 2)) - 1)) * (w64 (x7.tdiv 2)))))) (w64 (q1.Y + (w64 ((w64 ((w64 ((x7.tmod 2) * 2)) - 1)) * (w64 (1 - (w64 (x7.tdiv 2)))))))))) fun x17 => some x17)) fun cb16 => (Option.bind (bif cb16 then (some true) else (Option.bind (sh84 q0 (SPoint.mk (w64 ((w64 (q1.X + (w64 ((w64 ((w64 ((x7.tmod 2) * 2)) - 1)) * (w64 (x7.tdiv 2)))))) + (w64 ((w64 ((w64 ((x7.tmod 2) * 2)) - 1)) * (w64 (x7.tdiv 2)))))) (w64 ((w64 (q1.Y + (w64 ((w64 ((w64 ((x7.tmod 2) * 2)) - 1)) * (w64 (1 - (w64 (x7.tdiv 2)))))))) + (w64 ((w64 ((w64 ((x7.tmod 2) * 2)) - 1)) * (w64 (1 - (w64 (x7.tdiv 2)))))))))) fun x19 => some !x19)) fun cb18 => (bif cb18 then (some (.inl (w64 (x7 + 1), x8))) else (Option.bind (sh179 q0 (SPoint.mk (w64 (q1.X + (w64 ((w64 ((w64 ((x7.tmod 2) * 2)) - 1)) * (w64 (x7.tdiv 2)))))) (w64 (q1.Y + (w64 ((w64 ((w64 ((x7.tmod 2) * 2)) - 1)) * (w64 (1 - (w64 (x7.tdiv 2)))))))))) fun x21 => Option.bind (getI q0.Breaks x21) fun x22 => Option.bind (bif ((x22 == 1) && ((w64 ((w64 ((w64 ((x7.tmod 2) * 2)) - 1)) * (w64 (x7.tdiv 2)))) == 0)) || ((x22 == 2) && ((w64 ((w64 ((w64 ((x7.tmod 2) * 2)) - 1)) * (w64 (1 - (w64 (x7.tdiv 2)))))) == 0)) then (Option.bind (appL x8 [SPoint.mk (w64 ((w64 (q1.X + (w64 ((w64 ((w64 ((x7.tmod 2) * 2)) - 1)) * (w64 (x7.tdiv 2)))))) + (w64 ((w64 ((w64 ((x7.tmod 2) * 2)) - 1)) * (w64 (x7.tdiv 2)))))) (w64 ((w64 (q1.Y + (w64 ((w64 ((w64 ((x7.tmod 2) * 2)) - 1)) * (w64 (1 - (w64 (x7.tdiv 2)))))))) + (w64 ((w64 ((w64 ((x7.tmod 2) * 2)) - 1)) * (w64 (1 - (w64 (x7.tdiv 2))))))))]) fun x28 => some x28) else (some x8)) fun j23 => (some (.inl (w64 (x7 + 1), j23))))))) else (some (.inr x8))
def sh145 (q0 : SPanel) (q1 : SPoint) : Option (List SPoint) := Option.bind (iter (sh145_1 q0 q1) (0, ([] : List SPoint))) fun b1 => (some b1)
def T145 (r : List SPoint) (v : Value) (rs : List Own) : Prop := ∃ (a0 : Option Addr) (n0 c0 : Nat), r.length = n0 ∧ v = rets [.slice a0 n0 c0] ∧ rs = [rowT 35 eSPoint a0 n0 c0 r]
set_option maxRecDepth 100000 in
set_option maxHeartbeats 1000000 in
theorem c145 {w : World} {q0 : SPanel} {a_0 : Option Addr} {n_0 : Nat} {a_0_2 : Option Addr} {n_0_2 c_0_2 : Nat} (g_0 : RdAt w a_0 n_0 [.int .i64 q0.W, .int .i64 q0.H, .slice a_0_2 n_0_2 c_0_2]) (g_0_2 : Rd w a_0_2 (eI64.fl q0.Breaks)) (l_0_2 : q0.Breaks.length = n_0_2) (k_0_2 : n_0_2 ≤ c_0_2) {q1 : SPoint} {r : List SPoint} (hres : sh145 q0 q1 = some r) : Calls Go.Proofs.Try.prog 145 [ptrAt a_0 n_0, .agg #[.int .i64 q1.X, .int .i64 q1.Y]].toArray w (Ret w (T145 r)) := by
  subst l_0_2
  obtain ⟨b_0, e_0, g_0⟩ := g_0.norm0
  rw [e_0]
  unfold sh145 at hres
  refine calls_of (n := 93) (M := []) (es := []) Go.Proofs.Try.func145 rfl rfl rfl (Sep.nil _ _ _) ?_
  refine JX.seq ?_
  refine JX.region ?_
  refine JL.eff (ef_box rfl rfl) rfl ?_
  rintro _ _ ⟨g1, rfl, rfl⟩
  refine JL.val (yl_assign rfl) rfl ?_
  refine JL.nil ?_
  refine JE.code ?_
  refine JX.seq ?_
  refine JX.region ?_
  refine JL.eff (ef_buildSlice (E := 35) (k := eSPoint.k) (us := eSPoint.fl ([] : List SPoint)) rfl (fun w => bsl61_0  w) rfl (by decide)) rfl ?_
  rintro _ _ ⟨a3, rfl, rfl⟩
  refine JL.val (yl_assign rfl) rfl ?_
  refine JL.nil ?_
  refine JE.code ?_
  refine JX.seq ?_
  refine JX.seq ?_
  refine JX.region ?_
  refine JL.val (yl_assign rfl) rfl ?_
  refine JL.nil ?_
  refine JE.code ?_
  refine JX.block ?_
  obtain ⟨y1, hy1, hresO1⟩ := bind_some hres
  refine JX.loop (I := fun (s1 : Int × List SPoint) aa ww => ∃ (a5 : Option Addr) (cp6 : Nat), St w [] 93 [(0, ptrAt b_0 0), (3, ptrAt (some ⟨g1, 0, none⟩) 0), (5, .slice a5 s1.2.length cp6), (6, .int .i64 s1.1)] [boxO 35 g1 [.int .i64 q1.X, .int .i64 q1.Y], rowT 35 eSPoint a5 s1.2.length cp6 s1.2] aa ww) (sh145_1 q0 q1) hy1 (fun a w h => ⟨a3, 0, h.weak ⟨rfl, rfl, rfl, rfl, trivial⟩ [0, 1] (by decide) rfl⟩) ?_
  rintro ⟨x7, x8⟩ o1 hres hox1 aa ww ⟨a9, cp10, hS⟩
  refine (?_ : JX Go.Proofs.Try.prog w [] 93 _ _ [(0, ptrAt b_0 0), (3, ptrAt (some ⟨g1, 0, none⟩) 0), (5, .slice a9 x8.length cp10), (6, .int .i64 x7)] [boxO 35 g1 [.int .i64 q1.X, .int .i64 q1.Y], rowT 35 eSPoint a9 x8.length cp10 x8] _) aa ww hS
  clear hS
  simp only [sh145_1] at hres
  refine JX.seq ?_
  refine JX.seq ?_
  refine JX.region ?_
  refine JL.val (yl_move rfl) rfl ?_
  refine JL.val (yl_lss rfl rfl) rfl ?_
  refine JL.nil ?_
  refine JE.code ?_
  rcases cond_some hres with ⟨hb, hres⟩ | ⟨hb, hres⟩
  · refine JX.condT rfl hb ?_
    refine JX.skip ?_
    refine JE.code ?_
    refine JX.seq ?_
    refine JX.block ?_
    refine JX.seq ?_
    refine JX.region ?_
    refine JL.val (yl_move rfl) rfl ?_
    refine JL.val (yl_rem rfl rfl (by decide)) rfl ?_
    refine JL.val (yl_mul rfl rfl) rfl ?_
    refine JL.val (yl_sub rfl rfl) rfl ?_
    refine JL.val (yl_move rfl) rfl ?_
    refine JL.val (yl_quo rfl rfl (by decide)) rfl ?_
    refine JL.val (yl_mul rfl rfl) rfl ?_
    refine JL.val (yl_assign rfl) rfl ?_
    refine JL.nil ?_
    refine JE.weak (env' := [(0, ptrAt b_0 0), (3, ptrAt (some ⟨g1, 0, none⟩) 0), (5, .slice a9 x8.length cp10), (6, .int .i64 x7), (7, .int .i64 (w64 ((w64 ((w64 ((x7.tmod 2) * 2)) - 1)) * (w64 (x7.tdiv 2)))))]) (es' := [boxO 35 g1 [.int .i64 q1.X, .int .i64 q1.Y], rowT 35 eSPoint a9 x8.length cp10 x8]) [0, 1] ?_ ⟨rfl, rfl, rfl, rfl, rfl, trivial⟩ (by decide) rfl
    refine JE.code ?_
    refine JX.seq ?_
    refine JX.region ?_
    refine JL.val (yl_move rfl) rfl ?_
    refine JL.val (yl_rem rfl rfl (by decide)) rfl ?_
    refine JL.val (yl_mul rfl rfl) rfl ?_
    refine JL.val (yl_sub rfl rfl) rfl ?_
    refine JL.val (yl_move rfl) rfl ?_
    refine JL.val (yl_quo rfl rfl (by decide)) rfl ?_
    refine JL.val (yl_sub rfl rfl) rfl ?_
    refine JL.val (yl_mul rfl rfl) rfl ?_
    refine JL.val (yl_assign rfl) rfl ?_
    refine JL.nil ?_
    refine JE.weak (env' := [(0, ptrAt b_0 0), (3, ptrAt (some ⟨g1, 0, none⟩) 0), (5, .slice a9 x8.length cp10), (6, .int .i64 x7), (7, .int .i64 (w64 ((w64 ((w64 ((x7.tmod 2) * 2)) - 1)) * (w64 (x7.tdiv 2))))), (8, .int .i64 (w64 ((w64 ((w64 ((x7.tmod 2) * 2)) - 1)) * (w64 (1 - (w64 (x7.tdiv 2)))))))]) (es' := [boxO 35 g1 [.int .i64 q1.X, .int .i64 q1.Y], rowT 35 eSPoint a9 x8.length cp10 x8]) [0, 1] ?_ ⟨rfl, rfl, rfl, rfl, rfl, rfl, trivial⟩ (by decide) rfl
    refine JE.code ?_
    refine JX.seq ?_
    refine JX.region ?_
    refine JL.val (yl_fieldAt (a := some _) Go.Proofs.Try.underlying35 rfl i2 i2n rfl rfl) rfl ?_
    refine JL.val (yl_load1 Go.Proofs.Try.underlying2 rfl rfl (fun w hC => rd_box hC 0 rfl) rfl) rfl ?_
    refine JL.val (yl_move rfl) rfl ?_
    refine JL.val (yl_add rfl rfl) rfl ?_
    refine JL.val (yl_fieldAt (a := some _) Go.Proofs.Try.underlying35 rfl i2 i2n rfl rfl) rfl ?_
    refine JL.val (yl_load1 Go.Proofs.Try.underlying2 rfl rfl (fun w hC => rd_box hC 0 rfl) rfl) rfl ?_
    refine JL.val (yl_move rfl) rfl ?_
    refine JL.val (yl_add rfl rfl) rfl ?_
    refine JL.val (yl_build rfl (fun w => bld35_0_1 (w64 (q1.X + (w64 ((w64 ((w64 ((x7.tmod 2) * 2)) - 1)) * (w64 (x7.tdiv 2)))))) (w64 (q1.Y + (w64 ((w64 ((w64 ((x7.tmod 2) * 2)) - 1)) * (w64 (1 - (w64 (x7.tdiv 2)))))))) w)) rfl ?_
    refine JL.eff (ef_alloc i35 i35z rfl) rfl ?_
    rintro _ _ ⟨g11, rfl, rfl⟩
    refine JL.eff (ef_store_box (i := 2) (v := .agg #[.int .i64 (w64 (q1.X + (w64 ((w64 ((w64 ((x7.tmod 2) * 2)) - 1)) * (w64 (x7.tdiv 2)))))), .int .i64 (w64 (q1.Y + (w64 ((w64 ((w64 ((x7.tmod 2) * 2)) - 1)) * (w64 (1 - (w64 (x7.tdiv 2))))))))]) i35 rfl rfl rfl (i35s).symm (Nat.le_of_ble_eq_true rfl) (by simp [Value.cells, Value.oneCell'])) rfl ?_
    rintro _ _ rfl
    refine JL.nil ?_
    refine JE.weak (env' := [(0, ptrAt b_0 0), (3, ptrAt (some ⟨g1, 0, none⟩) 0), (5, .slice a9 x8.length cp10), (6, .int .i64 x7), (7, .int .i64 (w64 ((w64 ((w64 ((x7.tmod 2) * 2)) - 1)) * (w64 (x7.tdiv 2))))), (8, .int .i64 (w64 ((w64 ((w64 ((x7.tmod 2) * 2)) - 1)) * (w64 (1 - (w64 (x7.tdiv 2))))))), (9, ptrAt (some ⟨g11, 0, none⟩) 0)]) (es' := [boxO 35 g1 [.int .i64 q1.X, .int .i64 q1.Y], rowT 35 eSPoint a9 x8.length cp10 x8, boxO 35 g11 [.int .i64 (w64 (q1.X + (w64 ((w64 ((w64 ((x7.tmod 2) * 2)) - 1)) * (w64 (x7.tdiv 2)))))), .int .i64 (w64 (q1.Y + (w64 ((w64 ((w64 ((x7.tmod 2) * 2)) - 1)) * (w64 (1 - (w64 (x7.tdiv 2))))))))]]) [0, 1, 2] ?_ ⟨rfl, rfl, rfl, rfl, rfl, rfl, rfl, trivial⟩ (by decide) rfl
    refine JE.code ?_
    refine JX.seq ?_
    refine JX.region ?_
    refine JL.val (yl_fieldAt (a := some _) Go.Proofs.Try.underlying35 rfl i2 i2n rfl rfl) rfl ?_
    refine JL.val (yl_load1 Go.Proofs.Try.underlying2 rfl rfl (fun w hC => rd_box hC 2 rfl) rfl) rfl ?_
    refine JL.val (yl_move rfl) rfl ?_
    refine JL.val (yl_add rfl rfl) rfl ?_
    refine JL.val (yl_fieldAt (a := some _) Go.Proofs.Try.underlying35 rfl i2 i2n rfl rfl) rfl ?_
    refine JL.val (yl_load1 Go.Proofs.Try.underlying2 rfl rfl (fun w hC => rd_box hC 2 rfl) rfl) rfl ?_
    refine JL.val (yl_move rfl) rfl ?_
    refine JL.val (yl_add rfl rfl) rfl ?_
    refine JL.val (yl_build rfl (fun w => bld35_0_1 (w64 ((w64 (q1.X + (w64 ((w64 ((w64 ((x7.tmod 2) * 2)) - 1)) * (w64 (x7.tdiv 2)))))) + (w64 ((w64 ((w64 ((x7.tmod 2) * 2)) - 1)) * (w64 (x7.tdiv 2)))))) (w64 ((w64 (q1.Y + (w64 ((w64 ((w64 ((x7.tmod 2) * 2)) - 1)) * (w64 (1 - (w64 (x7.tdiv 2)))))))) + (w64 ((w64 ((w64 ((x7.tmod 2) * 2)) - 1)) * (w64 (1 - (w64 (x7.tdiv 2)))))))) w)) rfl ?_
    refine JL.eff (ef_alloc i35 i35z rfl) rfl ?_
    rintro _ _ ⟨g13, rfl, rfl⟩
    refine JL.eff (ef_store_box (i := 3) (v := .agg #[.int .i64 (w64 ((w64 (q1.X + (w64 ((w64 ((w64 ((x7.tmod 2) * 2)) - 1)) * (w64 (x7.tdiv 2)))))) + (w64 ((w64 ((w64 ((x7.tmod 2) * 2)) - 1)) * (w64 (x7.tdiv 2)))))), .int .i64 (w64 ((w64 (q1.Y + (w64 ((w64 ((w64 ((x7.tmod 2) * 2)) - 1)) * (w64 (1 - (w64 (x7.tdiv 2)))))))) + (w64 ((w64 ((w64 ((x7.tmod 2) * 2)) - 1)) * (w64 (1 - (w64 (x7.tdiv 2))))))))]) i35 rfl rfl rfl (i35s).symm (Nat.le_of_ble_eq_true rfl) (by simp [Value.cells, Value.oneCell'])) rfl ?_
    rintro _ _ rfl
    refine JL.nil ?_
    refine JE.weak (env' := [(0, ptrAt b_0 0), (3, ptrAt (some ⟨g1, 0, none⟩) 0), (5, .slice a9 x8.length cp10), (6, .int .i64 x7), (7, .int .i64 (w64 ((w64 ((w64 ((x7.tmod 2) * 2)) - 1)) * (w64 (x7.tdiv 2))))), (8, .int .i64 (w64 ((w64 ((w64 ((x7.tmod 2) * 2)) - 1)) * (w64 (1 - (w64 (x7.tdiv 2))))))), (9, ptrAt (some ⟨g11, 0, none⟩) 0), (10, ptrAt (some ⟨g13, 0, none⟩) 0)]) (es' := [boxO 35 g1 [.int .i64 q1.X, .int .i64 q1.Y], rowT 35 eSPoint a9 x8.length cp10 x8, boxO 35 g11 [.int .i64 (w64 (q1.X + (w64 ((w64 ((w64 ((x7.tmod 2) * 2)) - 1)) * (w64 (x7.tdiv 2)))))), .int .i64 (w64 (q1.Y + (w64 ((w64 ((w64 ((x7.tmod 2) * 2)) - 1)) * (w64 (1 - (w64 (x7.tdiv 2))))))))], boxO 35 g13 [.int .i64 (w64 ((w64 (q1.X + (w64 ((w64 ((w64 ((x7.tmod 2) * 2)) - 1)) * (w64 (x7.tdiv 2)))))) + (w64 ((w64 ((w64 ((x7.tmod 2) * 2)) - 1)) * (w64 (x7.tdiv 2)))))), .int .i64 (w64 ((w64 (q1.Y + (w64 ((w64 ((w64 ((x7.tmod 2) * 2)) - 1)) * (w64 (1 - (w64 (x7.tdiv 2)))))))) + (w64 ((w64 ((w64 ((x7.tmod 2) * 2)) - 1)) * (w64 (1 - (w64 (x7.tdiv 2))))))))]]) [0, 1, 2, 3] ?_ ⟨rfl, rfl, rfl, rfl, rfl, rfl, rfl, rfl, trivial⟩ (by decide) rfl
    refine JE.code ?_
    refine JX.seq ?_
    refine JX.seq ?_
    refine JX.region ?_
    refine JL.val (yl_move rfl) rfl ?_
    refine JL.val (yl_loadn Go.Proofs.Try.underlying35 rfl i35 rfl (fun w hC => rd_box hC 2 rfl) rfl (i35s).symm i35p) rfl ?_
    obtain ⟨x15, hx15, hres⟩ := bind_some hres
    refine JL.eff (ef_call (vs := [ptrAt b_0 0, .agg #[.int .i64 (w64 (q1.X + (w64 ((w64 ((w64 ((x7.tmod 2) * 2)) - 1)) * (w64 (x7.tdiv 2)))))), .int .i64 (w64 (q1.Y + (w64 ((w64 ((w64 ((x7.tmod 2) * 2)) - 1)) * (w64 (1 - (w64 (x7.tdiv 2))))))))]]) (T := T177 x15) Go.Proofs.Try.func177 rfl (by kernel_rfl) rfl (fun w hC => c177 (q1 := SPoint.mk (w64 (q1.X + (w64 ((w64 ((w64 ((x7.tmod 2) * 2)) - 1)) * (w64 (x7.tdiv 2)))))) (w64 (q1.Y + (w64 ((w64 ((w64 ((x7.tmod 2) * 2)) - 1)) * (w64 (1 - (w64 (x7.tdiv 2))))))))) (RdAt.of0 (rd_arg g_0 hC)) (rd_arg g_0_2 hC) rfl k_0_2 hx15)) rfl ?_
    rintro _ _ ⟨_, ⟨rfl, rfl⟩, rfl⟩
    refine JL.val (yl_not rfl) rfl ?_
    refine JL.val (yl_move rfl) rfl ?_
    obtain ⟨cb16, hcb16, hres⟩ := bind_some hres
    refine JL.cut (K := fun J => J [(0, ptrAt b_0 0), (3, ptrAt (some ⟨g1, 0, none⟩) 0), (5, .slice a9 x8.length cp10), (6, .int .i64 x7), (7, .int .i64 (w64 ((w64 ((w64 ((x7.tmod 2) * 2)) - 1)) * (w64 (x7.tdiv 2))))), (8, .int .i64 (w64 ((w64 ((w64 ((x7.tmod 2) * 2)) - 1)) * (w64 (1 - (w64 (x7.tdiv 2))))))), (9, ptrAt (some ⟨g11, 0, none⟩) 0), (10, ptrAt (some ⟨g13, 0, none⟩) 0), (58, .bool cb16)] [boxO 35 g1 [.int .i64 q1.X, .int .i64 q1.Y], rowT 35 eSPoint a9 x8.length cp10 x8, boxO 35 g11 [.int .i64 (w64 (q1.X + (w64 ((w64 ((w64 ((x7.tmod 2) * 2)) - 1)) * (w64 (x7.tdiv 2)))))), .int .i64 (w64 (q1.Y + (w64 ((w64 ((w64 ((x7.tmod 2) * 2)) - 1)) * (w64 (1 - (w64 (x7.tdiv 2))))))))], boxO 35 g13 [.int .i64 (w64 ((w64 (q1.X + (w64 ((w64 ((w64 ((x7.tmod 2) * 2)) - 1)) * (w64 (x7.tdiv 2)))))) + (w64 ((w64 ((w64 ((x7.tmod 2) * 2)) - 1)) * (w64 (x7.tdiv 2)))))), .int .i64 (w64 ((w64 (q1.Y + (w64 ((w64 ((w64 ((x7.tmod 2) * 2)) - 1)) * (w64 (1 - (w64 (x7.tdiv 2)))))))) + (w64 ((w64 ((w64 ((x7.tmod 2) * 2)) - 1)) * (w64 (1 - (w64 (x7.tdiv 2))))))))]]) 4 ?_ ?_
    · refine JL.val (yl_move rfl) rfl ?_
      obtain ⟨cb18, hcb18, hres⟩ := bind_some hres
      refine JL.cut (K := fun J => J [(0, ptrAt b_0 0), (3, ptrAt (some ⟨g1, 0, none⟩) 0), (5, .slice a9 x8.length cp10), (6, .int .i64 x7), (7, .int .i64 (w64 ((w64 ((w64 ((x7.tmod 2) * 2)) - 1)) * (w64 (x7.tdiv 2))))), (8, .int .i64 (w64 ((w64 ((w64 ((x7.tmod 2) * 2)) - 1)) * (w64 (1 - (w64 (x7.tdiv 2))))))), (9, ptrAt (some ⟨g11, 0, none⟩) 0), (10, ptrAt (some ⟨g13, 0, none⟩) 0), (64, .bool cb18)] [boxO 35 g1 [.int .i64 q1.X, .int .i64 q1.Y], rowT 35 eSPoint a9 x8.length cp10 x8, boxO 35 g11 [.int .i64 (w64 (q1.X + (w64 ((w64 ((w64 ((x7.tmod 2) * 2)) - 1)) * (w64 (x7.tdiv 2)))))), .int .i64 (w64 (q1.Y + (w64 ((w64 ((w64 ((x7.tmod 2) * 2)) - 1)) * (w64 (1 - (w64 (x7.tdiv 2))))))))], boxO 35 g13 [.int .i64 (w64 ((w64 (q1.X + (w64 ((w64 ((w64 ((x7.tmod 2) * 2)) - 1)) * (w64 (x7.tdiv 2)))))) + (w64 ((w64 ((w64 ((x7.tmod 2) * 2)) - 1)) * (w64 (x7.tdiv 2)))))), .int .i64 (w64 ((w64 (q1.Y + (w64 ((w64 ((w64 ((x7.tmod 2) * 2)) - 1)) * (w64 (1 - (w64 (x7.tdiv 2)))))))) + (w64 ((w64 ((w64 ((x7.tmod 2) * 2)) - 1)) * (w64 (1 - (w64 (x7.tdiv 2))))))))]]) 5 ?_ ?_
      · refine JL.nil ?_
        refine JE.weak (env' := [(0, ptrAt b_0 0), (3, ptrAt (some ⟨g1, 0, none⟩) 0), (5, .slice a9 x8.length cp10), (6, .int .i64 x7), (7, .int .i64 (w64 ((w64 ((w64 ((x7.tmod 2) * 2)) - 1)) * (w64 (x7.tdiv 2))))), (8, .int .i64 (w64 ((w64 ((w64 ((x7.tmod 2) * 2)) - 1)) * (w64 (1 - (w64 (x7.tdiv 2))))))), (9, ptrAt (some ⟨g11, 0, none⟩) 0), (10, ptrAt (some ⟨g13, 0, none⟩) 0), (64, .bool cb18)]) (es' := [boxO 35 g1 [.int .i64 q1.X, .int .i64 q1.Y], rowT 35 eSPoint a9 x8.length cp10 x8, boxO 35 g11 [.int .i64 (w64 (q1.X + (w64 ((w64 ((w64 ((x7.tmod 2) * 2)) - 1)) * (w64 (x7.tdiv 2)))))), .int .i64 (w64 (q1.Y + (w64 ((w64 ((w64 ((x7.tmod 2) * 2)) - 1)) * (w64 (1 - (w64 (x7.tdiv 2))))))))], boxO 35 g13 [.int .i64 (w64 ((w64 (q1.X + (w64 ((w64 ((w64 ((x7.tmod 2) * 2)) - 1)) * (w64 (x7.tdiv 2)))))) + (w64 ((w64 ((w64 ((x7.tmod 2) * 2)) - 1)) * (w64 (x7.tdiv 2)))))), .int .i64 (w64 ((w64 (q1.Y + (w64 ((w64 ((w64 ((x7.tmod 2) * 2)) - 1)) * (w64 (1 - (w64 (x7.tdiv 2)))))))) + (w64 ((w64 ((w64 ((x7.tmod 2) * 2)) - 1)) * (w64 (1 - (w64 (x7.tdiv 2))))))))]]) [0, 1, 2, 3] ?_ ⟨rfl, rfl, rfl, rfl, rfl, rfl, rfl, rfl, rfl, trivial⟩ (by decide) rfl
        refine JE.code ?_
        rcases cond_some hres with ⟨hb, hres⟩ | ⟨hb, hres⟩
        · refine JX.condT rfl hb ?_
          refine JX.exit ?_
          refine JE.qb rfl ?_
          refine JE.code ?_
          refine JX.region ?_
          refine JL.val (yl_move rfl) rfl ?_
          refine JL.val (yl_add rfl rfl) rfl ?_
          refine JL.val (yl_assign rfl) rfl ?_
          refine JL.nil ?_
          refine JE.weak (env' := [(0, ptrAt b_0 0), (3, ptrAt (some ⟨g1, 0, none⟩) 0), (5, .slice a9 x8.length cp10), (6, .int .i64 (w64 (x7 + 1)))]) (es' := [boxO 35 g1 [.int .i64 q1.X, .int .i64 q1.Y], rowT 35 eSPoint a9 x8.length cp10 x8]) [0, 1] ?_ ⟨rfl, rfl, rfl, rfl, trivial⟩ (by decide) rfl
          refine JE.cont hres ?_
          exact fun a w h => ⟨a9, cp10, h.weak ⟨rfl, rfl, rfl, rfl, trivial⟩ [0, 1] (by decide) rfl⟩
        · refine JX.condF rfl hb ?_
          refine JX.skip ?_
          refine JE.code ?_
          refine JX.seq ?_
          refine JX.drawH [(0, .pure), (1, .pure), (2, .pure), (3, .read), (4, .pure), (5, .read), (6, .must), (7, .pure), (8, .read), (9, .pure)] [] [] [0, 1, 2, 3] [] [boxO 35 g1 [.int .i64 q1.X, .int .i64 q1.Y], rowT 35 eSPoint a9 x8.length cp10 x8, boxO 35 g11 [.int .i64 (w64 (q1.X + (w64 ((w64 ((w64 ((x7.tmod 2) * 2)) - 1)) * (w64 (x7.tdiv 2)))))), .int .i64 (w64 (q1.Y + (w64 ((w64 ((w64 ((x7.tmod 2) * 2)) - 1)) * (w64 (1 - (w64 (x7.tdiv 2))))))))], boxO 35 g13 [.int .i64 (w64 ((w64 (q1.X + (w64 ((w64 ((w64 ((x7.tmod 2) * 2)) - 1)) * (w64 (x7.tdiv 2)))))) + (w64 ((w64 ((w64 ((x7.tmod 2) * 2)) - 1)) * (w64 (x7.tdiv 2)))))), .int .i64 (w64 ((w64 (q1.Y + (w64 ((w64 ((w64 ((x7.tmod 2) * 2)) - 1)) * (w64 (1 - (w64 (x7.tdiv 2)))))))) + (w64 ((w64 ((w64 ((x7.tmod 2) * 2)) - 1)) * (w64 (1 - (w64 (x7.tdiv 2))))))))]] mixedP (by kernel_rfl) (by kernel_rfl) (by decide) rfl rfl ?_
          intro wrr20 Nr20 hFr20
          refine JH.pure rfl (yl_move rfl) rfl ?_
          refine JH.pure rfl (yl_nilCheckAt rfl (Rd.some g_0 (j := 0) rfl)) rfl ?_
          refine JH.pure rfl (yl_fieldAt Go.Proofs.Try.underlying28 rfl i22 i22n rfl (Rd.some g_0 (j := 0) rfl)) rfl ?_
          refine JH.read rfl (yl_load1 Go.Proofs.Try.underlying22 rfl rfl (fun w hw => hFr20.arg g_0 hw) rfl) rfl ?_
          refine JH.pure rfl (yl_move rfl) rfl ?_
          refine JH.read rfl (yl_loadn Go.Proofs.Try.underlying35 rfl i35 rfl (fun w hw => hFr20.box 2 rfl rfl hw) rfl (i35s).symm i35p) rfl ?_
          obtain ⟨x21, hx21, hres⟩ := bind_some hres
          refine JH.must rfl (ef_call (vs := [ptrAt b_0 0, .agg #[.int .i64 (w64 (q1.X + (w64 ((w64 ((w64 ((x7.tmod 2) * 2)) - 1)) * (w64 (x7.tdiv 2)))))), .int .i64 (w64 (q1.Y + (w64 ((w64 ((w64 ((x7.tmod 2) * 2)) - 1)) * (w64 (1 - (w64 (x7.tdiv 2))))))))]]) (T := T179 x21) Go.Proofs.Try.func179 rfl (by kernel_rfl) rfl (fun w hC => c179 (q1 := SPoint.mk (w64 (q1.X + (w64 ((w64 ((w64 ((x7.tmod 2) * 2)) - 1)) * (w64 (x7.tdiv 2)))))) (w64 (q1.Y + (w64 ((w64 ((w64 ((x7.tmod 2) * 2)) - 1)) * (w64 (1 - (w64 (x7.tdiv 2))))))))) (RdAt.of0 (hFr20.arg g_0 hC.1)) (hFr20.arg g_0_2 hC.1) rfl k_0_2 hx21)) rfl rfl ?_
          rintro _ _ ⟨_, ⟨rfl, rfl⟩, rfl⟩
          obtain ⟨x22, hx22, hres⟩ := bind_some hres
          refine JH.pure rfl (yl_idxQ Go.Proofs.Try.underlying22 i2 i2s rfl rfl hx22 rfl (rd_arg g_0_2 hFr20.cl) rfl) rfl ?_
          refine JH.read rfl (yl_loadT0 Go.Proofs.Try.underlying2 rfl rfl hx22 (fun w hw => hFr20.arg g_0_2 hw) rfl) rfl ?_
          refine JH.pure rfl (yl_assign rfl) rfl ?_
          refine JH.nil ?_
          refine JE.weak (env' := [(0, ptrAt b_0 0), (3, ptrAt (some ⟨g1, 0, none⟩) 0), (5, .slice a9 x8.length cp10), (6, .int .i64 x7), (7, .int .i64 (w64 ((w64 ((w64 ((x7.tmod 2) * 2)) - 1)) * (w64 (x7.tdiv 2))))), (8, .int .i64 (w64 ((w64 ((w64 ((x7.tmod 2) * 2)) - 1)) * (w64 (1 - (w64 (x7.tdiv 2))))))), (10, ptrAt (some ⟨g13, 0, none⟩) 0), (11, .int .i64 x22)]) (es' := [boxO 35 g1 [.int .i64 q1.X, .int .i64 q1.Y], rowT 35 eSPoint a9 x8.length cp10 x8, boxO 35 g13 [.int .i64 (w64 ((w64 (q1.X + (w64 ((w64 ((w64 ((x7.tmod 2) * 2)) - 1)) * (w64 (x7.tdiv 2)))))) + (w64 ((w64 ((w64 ((x7.tmod 2) * 2)) - 1)) * (w64 (x7.tdiv 2)))))), .int .i64 (w64 ((w64 (q1.Y + (w64 ((w64 ((w64 ((x7.tmod 2) * 2)) - 1)) * (w64 (1 - (w64 (x7.tdiv 2)))))))) + (w64 ((w64 ((w64 ((x7.tmod 2) * 2)) - 1)) * (w64 (1 - (w64 (x7.tdiv 2))))))))]]) [0, 1, 3] ?_ ⟨rfl, rfl, rfl, rfl, rfl, rfl, rfl, rfl, trivial⟩ (by decide) rfl
          refine JE.code ?_
          refine JX.seq ?_
          refine JX.region ?_
          refine JL.val (yl_move rfl) rfl ?_
          refine JL.val (yl_eql rfl rfl) rfl ?_
          refine JL.val (yl_move rfl) rfl ?_
          refine JL.cut (K := fun J => J [(0, ptrAt b_0 0), (3, ptrAt (some ⟨g1, 0, none⟩) 0), (5, .slice a9 x8.length cp10), (6, .int .i64 x7), (8, .int .i64 (w64 ((w64 ((w64 ((x7.tmod 2) * 2)) - 1)) * (w64 (1 - (w64 (x7.tdiv 2))))))), (10, ptrAt (some ⟨g13, 0, none⟩) 0), (11, .int .i64 x22), (79, .bool ((x22 == 1) && ((w64 ((w64 ((w64 ((x7.tmod 2) * 2)) - 1)) * (w64 (x7.tdiv 2)))) == 0)))] [boxO 35 g1 [.int .i64 q1.X, .int .i64 q1.Y], rowT 35 eSPoint a9 x8.length cp10 x8, boxO 35 g13 [.int .i64 (w64 ((w64 (q1.X + (w64 ((w64 ((w64 ((x7.tmod 2) * 2)) - 1)) * (w64 (x7.tdiv 2)))))) + (w64 ((w64 ((w64 ((x7.tmod 2) * 2)) - 1)) * (w64 (x7.tdiv 2)))))), .int .i64 (w64 ((w64 (q1.Y + (w64 ((w64 ((w64 ((x7.tmod 2) * 2)) - 1)) * (w64 (1 - (w64 (x7.tdiv 2)))))))) + (w64 ((w64 ((w64 ((x7.tmod 2) * 2)) - 1)) * (w64 (1 - (w64 (x7.tdiv 2))))))))]]) 3 ?_ ?_
          · refine JL.val (yl_move rfl) rfl ?_
            refine JL.cut (K := fun J => J [(0, ptrAt b_0 0), (3, ptrAt (some ⟨g1, 0, none⟩) 0), (5, .slice a9 x8.length cp10), (6, .int .i64 x7), (10, ptrAt (some ⟨g13, 0, none⟩) 0), (87, .bool (((x22 == 1) && ((w64 ((w64 ((w64 ((x7.tmod 2) * 2)) - 1)) * (w64 (x7.tdiv 2)))) == 0)) || ((x22 == 2) && ((w64 ((w64 ((w64 ((x7.tmod 2) * 2)) - 1)) * (w64 (1 - (w64 (x7.tdiv 2)))))) == 0))))] [boxO 35 g1 [.int .i64 q1.X, .int .i64 q1.Y], rowT 35 eSPoint a9 x8.length cp10 x8, boxO 35 g13 [.int .i64 (w64 ((w64 (q1.X + (w64 ((w64 ((w64 ((x7.tmod 2) * 2)) - 1)) * (w64 (x7.tdiv 2)))))) + (w64 ((w64 ((w64 ((x7.tmod 2) * 2)) - 1)) * (w64 (x7.tdiv 2)))))), .int .i64 (w64 ((w64 (q1.Y + (w64 ((w64 ((w64 ((x7.tmod 2) * 2)) - 1)) * (w64 (1 - (w64 (x7.tdiv 2)))))))) + (w64 ((w64 ((w64 ((x7.tmod 2) * 2)) - 1)) * (w64 (1 - (w64 (x7.tdiv 2))))))))]]) 7 ?_ ?_
            · refine JL.nil ?_
              refine JE.weak (env' := [(0, ptrAt b_0 0), (3, ptrAt (some ⟨g1, 0, none⟩) 0), (5, .slice a9 x8.length cp10), (6, .int .i64 x7), (10, ptrAt (some ⟨g13, 0, none⟩) 0), (87, .bool (((x22 == 1) && ((w64 ((w64 ((w64 ((x7.tmod 2) * 2)) - 1)) * (w64 (x7.tdiv 2)))) == 0)) || ((x22 == 2) && ((w64 ((w64 ((w64 ((x7.tmod 2) * 2)) - 1)) * (w64 (1 - (w64 (x7.tdiv 2)))))) == 0))))]) (es' := [boxO 35 g1 [.int .i64 q1.X, .int .i64 q1.Y], rowT 35 eSPoint a9 x8.length cp10 x8, boxO 35 g13 [.int .i64 (w64 ((w64 (q1.X + (w64 ((w64 ((w64 ((x7.tmod 2) * 2)) - 1)) * (w64 (x7.tdiv 2)))))) + (w64 ((w64 ((w64 ((x7.tmod 2) * 2)) - 1)) * (w64 (x7.tdiv 2)))))), .int .i64 (w64 ((w64 (q1.Y + (w64 ((w64 ((w64 ((x7.tmod 2) * 2)) - 1)) * (w64 (1 - (w64 (x7.tdiv 2)))))))) + (w64 ((w64 ((w64 ((x7.tmod 2) * 2)) - 1)) * (w64 (1 - (w64 (x7.tdiv 2))))))))]]) [0, 1, 2] ?_ ⟨rfl, rfl, rfl, rfl, rfl, rfl, trivial⟩ (by decide) rfl
              refine JE.code ?_
              obtain ⟨j23, hj23, hresj23⟩ := bind_some hres
              refine JX.cut (K := fun J => ∀ (a24 : Option Addr) (cp25 : Nat), J [(0, ptrAt b_0 0), (3, ptrAt (some ⟨g1, 0, none⟩) 0), (5, .slice a24 j23.length cp25), (6, .int .i64 x7)] [boxO 35 g1 [.int .i64 q1.X, .int .i64 q1.Y], rowT 35 eSPoint a24 j23.length cp25 j23]) ?_ ?_
              · intro a24 cp25
                have hres := hresj23
                refine JE.code ?_
                refine JX.region ?_
                refine JL.val (yl_move rfl) rfl ?_
                refine JL.val (yl_add rfl rfl) rfl ?_
                refine JL.val (yl_assign rfl) rfl ?_
                refine JL.nil ?_
                refine JE.cont hres ?_
                exact fun a w h => ⟨a24, cp25, h.weak ⟨rfl, rfl, rfl, rfl, trivial⟩ [0, 1] (by decide) rfl⟩
              · intro K
                rcases cond_some hj23 with ⟨hb, hres⟩ | ⟨hb, hres⟩
                · refine JX.condT rfl hb ?_
                  refine JX.region ?_
                  refine JL.val (yl_move rfl) rfl ?_
                  refine JL.val (yl_loadn Go.Proofs.Try.underlying35 rfl i35 rfl (fun w hC => rd_box hC 2 rfl) rfl (i35s).symm i35p) rfl ?_
                  refine JL.eff (ef_buildSlice (E := 35) (k := eSPoint.k) (us := eSPoint.fl [SPoint.mk (w64 ((w64 (q1.X + (w64 ((w64 ((w64 ((x7.tmod 2) * 2)) - 1)) * (w64 (x7.tdiv 2)))))) + (w64 ((w64 ((w64 ((x7.tmod 2) * 2)) - 1)) * (w64 (x7.tdiv 2)))))) (w64 ((w64 (q1.Y + (w64 ((w64 ((w64 ((x7.tmod 2) * 2)) - 1)) * (w64 (1 - (w64 (x7.tdiv 2)))))))) + (w64 ((w64 ((w64 ((x7.tmod 2) * 2)) - 1)) * (w64 (1 - (w64 (x7.tdiv 2))))))))]) rfl (fun w => bsl61_1 (w64 ((w64 (q1.X + (w64 ((w64 ((w64 ((x7.tmod 2) * 2)) - 1)) * (w64 (x7.tdiv 2)))))) + (w64 ((w64 ((w64 ((x7.tmod 2) * 2)) - 1)) * (w64 (x7.tdiv 2)))))) (w64 ((w64 (q1.Y + (w64 ((w64 ((w64 ((x7.tmod 2) * 2)) - 1)) * (w64 (1 - (w64 (x7.tdiv 2)))))))) + (w64 ((w64 ((w64 ((x7.tmod 2) * 2)) - 1)) * (w64 (1 - (w64 (x7.tdiv 2)))))))) w) rfl (by decide)) rfl ?_
                  rintro _ _ ⟨a26, rfl, rfl⟩
                  obtain ⟨x28, hx28, hres⟩ := bind_some hres
                  refine JL.eff (ef_appendT (ix := 1) Go.Proofs.Try.underlying61 i35 i35z i35s rfl i35b0 i35b1 rfl rfl rfl rfl rfl (fun w hC => rd_row hC 3 rfl) hx28) rfl ?_
                  rintro _ _ ⟨a29, cp30, rfl, rfl⟩
                  refine JL.val (yl_assign rfl) rfl ?_
                  refine JL.nil ?_
                  refine JE.weak (env' := [(0, ptrAt b_0 0), (3, ptrAt (some ⟨g1, 0, none⟩) 0), (5, .slice a29 x28.length cp30), (6, .int .i64 x7)]) (es' := [boxO 35 g1 [.int .i64 q1.X, .int .i64 q1.Y], rowT 35 eSPoint a29 x28.length cp30 x28]) [0, 1] ?_ ⟨rfl, rfl, rfl, rfl, trivial⟩ (by decide) rfl
                  have hj := Option.some.inj hres
                  exact JE.weak [0, 1] (K a29 cp30) ⟨(by subst hj; rfl), (by subst hj; rfl), (by subst hj; rfl), (by subst hj; rfl), trivial⟩ (by decide) (by subst hj; rfl)
                · refine JX.condF rfl hb ?_
                  refine JX.skip ?_
                  have hj := Option.some.inj hres
                  exact JE.weak [0, 1] (K a9 cp10) ⟨(by subst hj; rfl), (by subst hj; rfl), (by subst hj; rfl), (by subst hj; rfl), trivial⟩ (by decide) (by subst hj; rfl)
            · intro K
              rcases Bool.eq_false_or_eq_true ((x22 == 1) && ((w64 ((w64 ((w64 ((x7.tmod 2) * 2)) - 1)) * (w64 (x7.tdiv 2)))) == 0)) with hb | hb
              · refine JL.set (d := 80) (v := .bool true) (congrArg (fun b => some (Value.bool b)) hb) ?_
                refine JL.gskip rfl rfl rfl rfl ?_
                refine JL.gskip rfl rfl rfl rfl ?_
                refine JL.gskip rfl rfl rfl rfl ?_
                refine JL.gnone rfl rfl rfl ?_
                refine JL.gnone rfl rfl rfl ?_
                refine JL.gskip rfl rfl rfl rfl ?_
                refine JL.val (yl_pick_true rfl rfl) rfl ?_
                exact JL.weak [0, 1, 2] K ⟨rfl, rfl, rfl, rfl, rfl, (by rw [hb]; rfl), trivial⟩ (by decide) rfl
              · refine JL.set (d := 80) (v := .bool false) (congrArg (fun b => some (Value.bool b)) hb) ?_
                refine JL.gval rfl rfl (yl_move rfl) rfl ?_
                refine JL.gval rfl rfl (yl_eql rfl rfl) rfl ?_
                refine JL.gval rfl rfl (yl_move rfl) rfl ?_
                refine JL.cut (K := fun J => J [(0, ptrAt b_0 0), (3, ptrAt (some ⟨g1, 0, none⟩) 0), (5, .slice a9 x8.length cp10), (6, .int .i64 x7), (10, ptrAt (some ⟨g13, 0, none⟩) 0), (80, .bool false), (86, .bool ((x22 == 2) && ((w64 ((w64 ((w64 ((x7.tmod 2) * 2)) - 1)) * (w64 (1 - (w64 (x7.tdiv 2)))))) == 0)))] [boxO 35 g1 [.int .i64 q1.X, .int .i64 q1.Y], rowT 35 eSPoint a9 x8.length cp10 x8, boxO 35 g13 [.int .i64 (w64 ((w64 (q1.X + (w64 ((w64 ((w64 ((x7.tmod 2) * 2)) - 1)) * (w64 (x7.tdiv 2)))))) + (w64 ((w64 ((w64 ((x7.tmod 2) * 2)) - 1)) * (w64 (x7.tdiv 2)))))), .int .i64 (w64 ((w64 (q1.Y + (w64 ((w64 ((w64 ((x7.tmod 2) * 2)) - 1)) * (w64 (1 - (w64 (x7.tdiv 2)))))))) + (w64 ((w64 ((w64 ((x7.tmod 2) * 2)) - 1)) * (w64 (1 - (w64 (x7.tdiv 2))))))))]]) 3 ?_ ?_
                · refine JL.val (yl_pick_false rfl rfl) rfl ?_
                  exact JL.weak [0, 1, 2] K ⟨rfl, rfl, rfl, rfl, rfl, (by rw [hb]; rfl), trivial⟩ (by decide) rfl
                · intro K
                  rcases Bool.eq_false_or_eq_true (x22 == 2) with hb | hb
                  · refine JL.set (d := 83) (v := .bool true) (congrArg (fun b => some (Value.bool b)) hb) ?_
                    refine JL.gval rfl rfl (yl_move rfl) rfl ?_
                    refine JL.gval rfl rfl (yl_eql rfl rfl) rfl ?_
                    refine JL.gval rfl rfl (yl_pick_true rfl rfl) rfl ?_
                    exact JL.weak [0, 1, 2] K ⟨rfl, rfl, rfl, rfl, rfl, rfl, (by rw [hb]; rfl), trivial⟩ (by decide) rfl
                  · refine JL.set (d := 83) (v := .bool false) (congrArg (fun b => some (Value.bool b)) hb) ?_
                    refine JL.gskip rfl rfl rfl rfl ?_
                    refine JL.gskip rfl rfl rfl rfl ?_
                    refine JL.gval rfl rfl (yl_pick_false rfl rfl) rfl ?_
                    exact JL.weak [0, 1, 2] K ⟨rfl, rfl, rfl, rfl, rfl, rfl, (by rw [hb]; rfl), trivial⟩ (by decide) rfl
          · intro K
            rcases Bool.eq_false_or_eq_true (x22 == 1) with hb | hb
            · refine JL.set (d := 76) (v := .bool true) (congrArg (fun b => some (Value.bool b)) hb) ?_
              refine JL.gval rfl rfl (yl_move rfl) rfl ?_
              refine JL.gval rfl rfl (yl_eql rfl rfl) rfl ?_
              refine JL.val (yl_pick_true rfl rfl) rfl ?_
              exact JL.weak [0, 1, 2] K ⟨rfl, rfl, rfl, rfl, rfl, rfl, rfl, (by rw [hb]; rfl), trivial⟩ (by decide) rfl
            · refine JL.set (d := 76) (v := .bool false) (congrArg (fun b => some (Value.bool b)) hb) ?_
              refine JL.gskip rfl rfl rfl rfl ?_
              refine JL.gskip rfl rfl rfl rfl ?_
              refine JL.val (yl_pick_false rfl rfl) rfl ?_
              exact JL.weak [0, 1, 2] K ⟨rfl, rfl, rfl, rfl, rfl, rfl, rfl, (by rw [hb]; rfl), trivial⟩ (by decide) rfl
      · intro K
        rcases cond_some hcb18 with ⟨hb, hres⟩ | ⟨hb, hres⟩
        · refine JL.set (d := 59) (v := .bool true) (congrArg (fun b => some (Value.bool b)) hb) ?_
          refine JL.gskip rfl rfl rfl rfl ?_
          refine JL.gskip rfl rfl rfl rfl ?_
          refine JL.gskip rfl rfl rfl rfl ?_
          refine JL.gskip rfl rfl rfl rfl ?_
          refine JL.val (yl_pick_true rfl rfl) rfl ?_
          have he := Option.some.inj hres
          exact JL.weak [0, 1, 2, 3] K ⟨rfl, rfl, rfl, rfl, rfl, rfl, rfl, rfl, (by rw [← he]; rfl), trivial⟩ (by decide) rfl
        · refine JL.set (d := 59) (v := .bool false) (congrArg (fun b => some (Value.bool b)) hb) ?_
          refine JL.gval rfl rfl (yl_move rfl) rfl ?_
          refine JL.gval rfl rfl (yl_loadn Go.Proofs.Try.underlying35 rfl i35 rfl (fun w hC => rd_box hC 3 rfl) rfl (i35s).symm i35p) rfl ?_
          obtain ⟨x19, hx19, hres⟩ := bind_some hres
          refine JL.geff rfl rfl (ef_call (vs := [ptrAt b_0 0, .agg #[.int .i64 (w64 ((w64 (q1.X + (w64 ((w64 ((w64 ((x7.tmod 2) * 2)) - 1)) * (w64 (x7.tdiv 2)))))) + (w64 ((w64 ((w64 ((x7.tmod 2) * 2)) - 1)) * (w64 (x7.tdiv 2)))))), .int .i64 (w64 ((w64 (q1.Y + (w64 ((w64 ((w64 ((x7.tmod 2) * 2)) - 1)) * (w64 (1 - (w64 (x7.tdiv 2)))))))) + (w64 ((w64 ((w64 ((x7.tmod 2) * 2)) - 1)) * (w64 (1 - (w64 (x7.tdiv 2))))))))]]) (T := T84 x19) Go.Proofs.Try.func84 rfl (by kernel_rfl) rfl (fun w hC => c84 (q1 := SPoint.mk (w64 ((w64 (q1.X + (w64 ((w64 ((w64 ((x7.tmod 2) * 2)) - 1)) * (w64 (x7.tdiv 2)))))) + (w64 ((w64 ((w64 ((x7.tmod 2) * 2)) - 1)) * (w64 (x7.tdiv 2)))))) (w64 ((w64 (q1.Y + (w64 ((w64 ((w64 ((x7.tmod 2) * 2)) - 1)) * (w64 (1 - (w64 (x7.tdiv 2)))))))) + (w64 ((w64 ((w64 ((x7.tmod 2) * 2)) - 1)) * (w64 (1 - (w64 (x7.tdiv 2))))))))) (RdAt.of0 (rd_arg g_0 hC)) (rd_arg g_0_2 hC) rfl k_0_2 hx19)) rfl ?_
          rintro _ _ ⟨_, ⟨rfl, rfl⟩, rfl⟩
          refine JL.gval rfl rfl (yl_not rfl) rfl ?_
          refine JL.val (yl_pick_false rfl rfl) rfl ?_
          have he := Option.some.inj hres
          exact JL.weak [0, 1, 2, 3] K ⟨rfl, rfl, rfl, rfl, rfl, rfl, rfl, rfl, (by rw [← he]; rfl), trivial⟩ (by decide) rfl
    · intro K
      rcases cond_some hcb16 with ⟨hb, hres⟩ | ⟨hb, hres⟩
      · refine JL.set (d := 54) (v := .bool true) (congrArg (fun b => some (Value.bool b)) hb) ?_
        refine JL.gskip rfl rfl rfl rfl ?_
        refine JL.gskip rfl rfl rfl rfl ?_
        refine JL.gskip rfl rfl rfl rfl ?_
        refine JL.val (yl_pick_true rfl rfl) rfl ?_
        have he := Option.some.inj hres
        exact JL.weak [0, 1, 2, 3] K ⟨rfl, rfl, rfl, rfl, rfl, rfl, rfl, rfl, (by rw [← he]; rfl), trivial⟩ (by decide) rfl
      · refine JL.set (d := 54) (v := .bool false) (congrArg (fun b => some (Value.bool b)) hb) ?_
        refine JL.gval rfl rfl (yl_move rfl) rfl ?_
        refine JL.gval rfl rfl (yl_loadn Go.Proofs.Try.underlying35 rfl i35 rfl (fun w hC => rd_box hC 2 rfl) rfl (i35s).symm i35p) rfl ?_
        obtain ⟨x17, hx17, hres⟩ := bind_some hres
        refine JL.geff rfl rfl (ef_call (vs := [ptrAt b_0 0, .agg #[.int .i64 (w64 (q1.X + (w64 ((w64 ((w64 ((x7.tmod 2) * 2)) - 1)) * (w64 (x7.tdiv 2)))))), .int .i64 (w64 (q1.Y + (w64 ((w64 ((w64 ((x7.tmod 2) * 2)) - 1)) * (w64 (1 - (w64 (x7.tdiv 2))))))))]]) (T := T178 x17) Go.Proofs.Try.func178 rfl (by kernel_rfl) rfl (fun w hC => c178 (q1 := SPoint.mk (w64 (q1.X + (w64 ((w64 ((w64 ((x7.tmod 2) * 2)) - 1)) * (w64 (x7.tdiv 2)))))) (w64 (q1.Y + (w64 ((w64 ((w64 ((x7.tmod 2) * 2)) - 1)) * (w64 (1 - (w64 (x7.tdiv 2))))))))) (RdAt.of0 (rd_arg g_0 hC)) (rd_arg g_0_2 hC) rfl k_0_2 hx17)) rfl ?_
        rintro _ _ ⟨_, ⟨rfl, rfl⟩, rfl⟩
        refine JL.val (yl_pick_false rfl rfl) rfl ?_
        have he := Option.some.inj hres
        exact JL.weak [0, 1, 2, 3] K ⟨rfl, rfl, rfl, rfl, rfl, rfl, rfl, rfl, (by rw [← he]; rfl), trivial⟩ (by decide) rfl
  · refine JX.condF rfl hb ?_
    refine JX.exit ?_
    refine JE.qb rfl ?_
    obtain ⟨b1, hb1⟩ : ∃ b : List SPoint, b = x8 := ⟨_, rfl⟩
    have hy1 : b1 = y1 := by rw [hb1]; exact hox1 _ (Option.some.inj hres).symm
    have hres := hresO1
    rw [← hy1] at hres
    refine JE.weak (env' := [(5, .slice a9 b1.length cp10)]) (es' := [rowT 35 eSPoint a9 b1.length cp10 b1]) [1] ?_ ⟨(by subst hb1; rfl), trivial⟩ (by decide) (by subst hb1; rfl)
    refine JE.code ?_
    refine JX.seq ?_
    refine JX.region ?_
    refine JL.val (yl_move rfl) rfl ?_
    refine JL.val (yl_assign rfl) rfl ?_
    refine JL.nil ?_
    refine JE.code ?_
    refine JX.ret ?_
    obtain rfl := Option.some.inj hres
    refine JE.ret (rs := [.tmp 4]) (vs := [.slice a9 b1.length cp10]) rfl ⟨rfl, trivial⟩ ?_
    exact fun w' hb hs => ⟨_, _, ⟨a9, b1.length, cp10, rfl, rfl, rfl⟩, rfl, hb, hs.sel [0] _ (by decide) rfl⟩

/- spec.l21All -/
def sh83_5 (q0 : SPanel) (x58 : List SPoint) (x34 : List (List SPoint)) : (Int × List Int × List SPoint) → Option ((Int × List Int × List SPoint) ⊕ (List Int × List SPoint))
  | (x65, x66, x67) => bif decide (x65 < (x58.length : Int)) then (Option.bind (getI x58 x65) fun x71 => Option.bind (sh85 q0 x71) fun x72 => Option.bind (getI x66 x72) fun x73 => Option.bind (bif decide (x73 < 0) then (Option.bind (getI x66 x72) fun x78 => Option.bind (getI x58 x65) fun x79 => Option.bind (appL x67 [x79]) fun x82 => some (x66.set (x72).toNat ((x34.length : Nat) : Int), x82)) else (some (x66, x67))) fun j74 => (some (.inl (w64 (x65 + 1), j74.1, j74.2)))) else (some (.inr (x66, x67)))
def sh83_4 (q0 : SPanel) (x34 : List (List SPoint)) : (Int × List Int × List SPoint) → Option ((Int × List Int × List SPoint) ⊕ (List Int))
  | (x51, x52, x53) => bif decide (x51 < (x53.length : Int)) then (Option.bind (getI x53 x51) fun x57 => Option.bind (sh145 q0 x57) fun x58 => Option.bind (iter (sh83_5 q0 x58 x34) (0, x52, x53)) fun b5 => (some (.inl (w64 (x51 + 1), b5.1, b5.2)))) else (some (.inr x52))
def sh83_3 (q0 : SPanel) (x19 : Int) : (Int × List Int × List (List SPoint)) → Option ((Int × List Int × List (List SPoint)) ⊕ (List Int × List (List SPoint)))
  | (x32, x33, x34) => bif decide (x32 ≤ (w64 (2 * q0.W))) then (Option.bind (sh85 q0 (SPoint.mk x32 x19)) fun x42 => Option.bind (getI x33 x42) fun x43 => bif decide (0 ≤ x43) then (some (.inl (w64 (x32 + 2), x33, x34))) else (Option.bind (sh85 q0 (SPoint.mk x32 x19)) fun x44 => Option.bind (getI x33 x44) fun x45 => Option.bind (iter (sh83_4 q0 x34) (0, x33.set (x44).toNat ((x34.length : Nat) : Int), [SPoint.mk x32 x19])) fun b4 => (Option.bind (appL x34 [([] : List SPoint)]) fun x92 => some (.inl (w64 (x32 + 2), b4, x92))))) else (some (.inr (x33, x34)))
def sh83_7 (q0 : SPanel) (b2 : List Int × List (List SPoint)) (x109 : Int) : (Int × List (List SPoint)) → Option ((Int × List (List SPoint)) ⊕ (List (List SPoint)))
  | (x119, x120) => bif decide (x119 ≤ (w64 (2 * q0.W))) then (Option.bind (sh85 q0 (SPoint.mk x119 x109)) fun x127 => Option.bind (getI b2.1 x127) fun x128 => Option.bind (getI x120 x128) fun x130 => Option.bind (appL x130 [SPoint.mk x119 x109]) fun x137 => Option.bind (getI x120 x128) fun x140 => some (.inl (w64 (x119 + 2), x120.set (x128).toNat x137))) else (some (.inr x120))
def sh83_6 (q0 : SPanel) (b2 : List Int × List (List SPoint)) : (Int × List (List SPoint)) → Option ((Int × List (List SPoint)) ⊕ (List (List SPoint)))
  | (x109, x110) => bif decide (x109 ≤ (w64 (2 * q0.H))) then (Option.bind (iter (sh83_7 q0 b2 x109) (x109.tmod 2, x110)) fun b7 => (some (.inl (w64 (x109 + 1), b7)))) else (some (.inr x110))
def sh83_2 (q0 : SPanel) : (Int × List Int × List (List SPoint)) → Option ((Int × List Int × List (List SPoint)) ⊕ (List Int × List (List SPoint)))
  | (x19, x20, x21) => bif decide (x19 ≤ (w64 (2 * q0.H))) then (Option.bind (iter (sh83_3 q0 x19) (x19.tmod 2, x20, x21)) fun b3 => (some (.inl (w64 (x19 + 1), b3.1, b3.2)))) else (some (.inr (x20, x21)))
def sh83_1 (x2 : List Int) : (Int × List Int) → Option ((Int × List Int) ⊕ (List Int))
  | (x6, x7) => bif decide (x6 < (x2.length : Int)) then (Option.bind (getI x7 x6) fun x9 => some (.inl (w64 (x6 + 1), x7.set (x6).toNat (-1)))) else (some (.inr x7))
def sh83 (q0 : SPanel) : Option (List (List SPoint) × List Int) := Option.bind (mkL (w64 ((w64 ((w64 (2 * q0.W)) + 1)) * (w64 ((w64 (2 * q0.H)) + 1)))) 0) fun x2 => Option.bind (iter (sh83_1 x2) (0, x2)) fun b1 => (Option.bind (iter (sh83_2 q0) (0, b1, ([] : List (List SPoint)))) fun b2 => (Option.bind (iter (sh83_6 q0 b2) (0, b2.2)) fun b6 => (some (b6, b2.1))))
def T83 (r : List (List SPoint) × List Int) (v : Value) (rs : List Own) : Prop := ∃ (a0 : Option Addr) (n0 c0 : Nat) (h0 : List Hd), r.1.length = n0 ∧ Inn h0 r.1 ∧ ∃ (a1 : Option Addr) (n1 c1 : Nat), r.2.length = n1 ∧ v = rets [.slice a0 n0 c0, .slice a1 n1 c1] ∧ rs = [rowT 61 eHd a0 n0 c0 h0, innO 35 eSPoint none h0 r.1, rowT 2 eI64 a1 n1 c1 r.2]
set_option maxRecDepth 100000 in
set_option maxHeartbeats 1000000 in
theorem c83 {w : World} {q0 : SPanel} {a_0 : Option Addr} {n_0 : Nat} {a_0_2 : Option Addr} {n_0_2 c_0_2 : Nat} (g_0 : RdAt w a_0 n_0 [.int .i64 q0.W, .int .i64 q0.H, .slice a_0_2 n_0_2 c_0_2]) (g_0_2 : Rd w a_0_2 (eI64.fl q0.Breaks)) (l_0_2 : q0.Breaks.length = n_0_2) (k_0_2 : n_0_2 ≤ c_0_2) {r : List (List SPoint) × List Int} (hres : sh83 q0 = some r) : Calls Go.Proofs.Try.prog 83 [ptrAt a_0 n_0].toArray w (Ret w (T83 r)) := by
  subst l_0_2
  obtain ⟨b_0, e_0, g_0⟩ := g_0.norm0
  rw [e_0]
  unfold sh83 at hres
  refine calls_of (n := 168) (M := []) (es := []) Go.Proofs.Try.func83 rfl rfl rfl (Sep.nil _ _ _) ?_
  refine JX.seq ?_
  refine JX.region ?_
  refine JL.val (yl_assign rfl) rfl ?_
  refine JL.val (yl_assign rfl) rfl ?_
  refine JL.nil ?_
  refine JE.code ?_
  refine JX.seq ?_
  refine JX.drawH [(0, .pure), (1, .pure), (2, .pure), (3, .read), (4, .pure), (5, .pure), (6, .pure), (7, .pure), (8, .pure), (9, .read), (10, .pure), (11, .pure), (12, .pure), (13, .must), (14, .pure)] [] [] [] [] [] mixedP (by kernel_rfl) (by kernel_rfl) (by decide) rfl rfl ?_
  intro wrr1 Nr1 hFr1
  refine JH.pure rfl (yl_move rfl) rfl ?_
  refine JH.pure rfl (yl_nilCheckAt rfl (Rd.some g_0 (j := 0) rfl)) rfl ?_
  refine JH.pure rfl (yl_fieldAt Go.Proofs.Try.underlying28 rfl i2 i2n rfl (Rd.some g_0 (j := 0) rfl)) rfl ?_
  refine JH.read rfl (yl_load1 Go.Proofs.Try.underlying2 rfl rfl (fun w hw => hFr1.arg g_0 hw) rfl) rfl ?_
  refine JH.pure rfl (yl_mul rfl rfl) rfl ?_
  refine JH.pure rfl (yl_add rfl rfl) rfl ?_
  refine JH.pure rfl (yl_move rfl) rfl ?_
  refine JH.pure rfl (yl_nilCheckAt rfl (Rd.some g_0 (j := 0) rfl)) rfl ?_
  refine JH.pure rfl (yl_fieldAt Go.Proofs.Try.underlying28 rfl i2 i2n rfl (Rd.some g_0 (j := 0) rfl)) rfl ?_
  refine JH.read rfl (yl_load1 Go.Proofs.Try.underlying2 rfl rfl (fun w hw => hFr1.arg g_0 hw) rfl) rfl ?_
  refine JH.pure rfl (yl_mul rfl rfl) rfl ?_
  refine JH.pure rfl (yl_add rfl rfl) rfl ?_
  refine JH.pure rfl (yl_mul rfl rfl) rfl ?_
  obtain ⟨x2, hx2, hres⟩ := bind_some hres
  refine JH.must rfl (ef_makeS (e := eI64) Go.Proofs.Try.underlying22 i2 i2s i2z rfl i2b1 rfl rfl hx2) rfl rfl ?_
  rintro _ _ ⟨a3, rfl, rfl⟩
  refine JH.pure rfl (yl_assign rfl) rfl ?_
  refine JH.nil ?_
  refine JE.weak (env' := [(0, ptrAt b_0 0), (4, .slice a3 x2.length x2.length)]) (es' := [rowT 2 eI64 a3 x2.length x2.length x2]) [0] ?_ ⟨rfl, rfl, trivial⟩ (by decide) rfl
  refine JE.code ?_
  refine JX.seq ?_
  refine JX.seq ?_
  refine JX.region ?_
  refine JL.val (yl_move rfl) rfl ?_
  refine JL.val (yl_len_slice Go.Proofs.Try.underlying22 rfl) rfl ?_
  refine JL.val (yl_move rfl) rfl ?_
  refine JL.nil ?_
  refine JE.code ?_
  refine JX.block ?_
  obtain ⟨y1, hy1, hresO1⟩ := bind_some hres
  refine JX.loop (I := fun (s1 : Int × List Int) aa ww => ∃ (l5 : s1.2.length = x2.length), St w [] 168 [(0, ptrAt b_0 0), (4, .slice a3 x2.length x2.length), (35, .int .i64 (x2.length : Int)), (36, .int .i64 s1.1)] [rowT 2 eI64 a3 x2.length x2.length s1.2] aa ww) (sh83_1 x2) hy1 (fun a w h => ⟨rfl, h.weak ⟨rfl, rfl, rfl, rfl, trivial⟩ [0] (by decide) rfl⟩) ?_
  rintro ⟨x6, x7⟩ o1 hres hox1 aa ww ⟨l8, hS⟩
  refine (?_ : JX Go.Proofs.Try.prog w [] 168 _ _ [(0, ptrAt b_0 0), (4, .slice a3 x2.length x2.length), (35, .int .i64 (x2.length : Int)), (36, .int .i64 x6)] [rowT 2 eI64 a3 x2.length x2.length x7] _) aa ww hS
  clear hS
  simp only [sh83_1] at hres
  refine JX.seq ?_
  refine JX.region ?_
  refine JL.val (yl_lss rfl rfl) rfl ?_
  refine JL.nil ?_
  refine JE.code ?_
  refine JX.seq ?_
  rcases cond_some hres with ⟨hb, hres⟩ | ⟨hb, hres⟩
  · refine JX.condT rfl hb ?_
    refine JX.skip ?_
    refine JE.code ?_
    refine JX.seq ?_
    refine JX.block ?_
    refine JX.seq ?_
    refine JX.region ?_
    refine JL.val (yl_move rfl) rfl ?_
    refine JL.val (yl_assign rfl) rfl ?_
    refine JL.nil ?_
    refine JE.code ?_
    refine JX.region ?_
    refine JL.val (yl_move rfl) rfl ?_
    refine JL.val (yl_move rfl) rfl ?_
    obtain ⟨x9, hx9, hres⟩ := bind_some hres
    refine JL.val (yl_idxT Go.Proofs.Try.underlying22 i2 i2s rfl rfl hx9 l8 (fun w hC => rd_row hC 0 rfl)) rfl ?_
    refine JL.eff (ef_storeT (ix := 0) (u := (-1)) i2 i2s rfl rfl rfl hx9 rfl) rfl ?_
    rintro _ _ rfl
    refine JL.nil ?_
    refine JE.weak (env' := [(0, ptrAt b_0 0), (4, .slice a3 x2.length x2.length), (35, .int .i64 (x2.length : Int)), (36, .int .i64 x6)]) (es' := [rowT 2 eI64 a3 x2.length x2.length (x7.set (x6).toNat (-1))]) [0] ?_ ⟨rfl, rfl, rfl, rfl, trivial⟩ (by decide) rfl
    refine JE.code ?_
    refine JX.region ?_
    refine JL.val (yl_add rfl rfl) rfl ?_
    refine JL.val (yl_move rfl) rfl ?_
    refine JL.nil ?_
    refine JE.cont hres ?_
    exact fun a w h => ⟨(List.length_set.trans l8), h.weak ⟨rfl, rfl, rfl, rfl, trivial⟩ [0] (by decide) rfl⟩
  · refine JX.condF rfl hb ?_
    refine JX.exit ?_
    refine JE.qb rfl ?_
    obtain ⟨b1, hb1⟩ : ∃ b : List Int, b = x7 := ⟨_, rfl⟩
    have hy1 : b1 = y1 := by rw [hb1]; exact hox1 _ (Option.some.inj hres).symm
    have hres := hresO1
    rw [← hy1] at hres
    have l10 : b1.length = x2.length := by subst hb1; exact l8
    refine JE.weak (env' := [(0, ptrAt b_0 0), (4, .slice a3 x2.length x2.length)]) (es' := [rowT 2 eI64 a3 x2.length x2.length b1]) [0] ?_ ⟨(by subst hb1; rfl), (by subst hb1; rfl), trivial⟩ (by decide) (by subst hb1; rfl)
    refine JE.code ?_
    refine JX.seq ?_
    refine JX.region ?_
    refine JL.eff (ef_buildSlice (E := 61) (k := eHd.k) (us := eHd.fl ([] : List Hd)) rfl (fun w => bsl40_0  w) rfl (by decide)) rfl ?_
    rintro _ _ ⟨a11, rfl, rfl⟩
    refine JL.nilinn 35 eSPoint ?_
    refine JL.val (yl_assign rfl) rfl ?_
    refine JL.nil ?_
    refine JE.code ?_
    refine JX.seq ?_
    refine JX.seq ?_
    refine JX.region ?_
    refine JL.val (yl_assign rfl) rfl ?_
    refine JL.nil ?_
    refine JE.code ?_
    refine JX.block ?_
    obtain ⟨y2, hy2, hresO2⟩ := bind_some hres
    refine JX.loop (I := fun (s2 : Int × List Int × List (List SPoint)) aa ww => ∃ (l14 : s2.2.1.length = x2.length) (a15 : Option Addr) (cp16 : Nat) (hs17 : List Hd) (hi18 : Inn hs17 s2.2.2), St w [] 168 [(0, ptrAt b_0 0), (4, .slice a3 x2.length x2.length), (6, .slice a15 s2.2.2.length cp16), (7, .int .i64 s2.1)] [rowT 2 eI64 a3 x2.length x2.length s2.2.1, rowT 61 eHd a15 s2.2.2.length cp16 hs17, innO 35 eSPoint none hs17 s2.2.2] aa ww) (sh83_2 q0) hy2 (fun a w h => ⟨l10, a11, 0, ([] : List Hd), (Inn.nil (T := SPoint)), h.weak ⟨rfl, rfl, rfl, rfl, trivial⟩ [0, 1, 2] (by decide) rfl⟩) ?_
    rintro ⟨x19, x20, x21⟩ o2 hres hox2 aa ww ⟨l22, a23, cp24, hs25, hi26, hS⟩
    refine (?_ : JX Go.Proofs.Try.prog w [] 168 _ _ [(0, ptrAt b_0 0), (4, .slice a3 x2.length x2.length), (6, .slice a23 x21.length cp24), (7, .int .i64 x19)] [rowT 2 eI64 a3 x2.length x2.length x20, rowT 61 eHd a23 x21.length cp24 hs25, innO 35 eSPoint none hs25 x21] _) aa ww hS
    clear hS
    simp only [sh83_2] at hres
    refine JX.seq ?_
    refine JX.seq ?_
    refine JX.region ?_
    refine JL.val (yl_move rfl) rfl ?_
    refine JL.val (yl_move rfl) rfl ?_
    refine JL.val (yl_nilCheckAt rfl (Rd.some g_0 (j := 0) rfl)) rfl ?_
    refine JL.val (yl_fieldAt Go.Proofs.Try.underlying28 rfl i2 i2n rfl (Rd.some g_0 (j := 0) rfl)) rfl ?_
    refine JL.val (yl_load1 Go.Proofs.Try.underlying2 rfl rfl (fun w hC => rd_arg g_0 hC) rfl) rfl ?_
    refine JL.val (yl_mul rfl rfl) rfl ?_
    refine JL.val (yl_leq rfl rfl) rfl ?_
    refine JL.nil ?_
    refine JE.weak (env' := [(0, ptrAt b_0 0), (4, .slice a3 x2.length x2.length), (6, .slice a23 x21.length cp24), (7, .int .i64 x19), (50, .bool (decide (x19 ≤ (w64 (2 * q0.H)))))]) (es' := [rowT 2 eI64 a3 x2.length x2.length x20, rowT 61 eHd a23 x21.length cp24 hs25, innO 35 eSPoint none hs25 x21]) [0, 1, 2] ?_ ⟨rfl, rfl, rfl, rfl, rfl, trivial⟩ (by decide) rfl
    refine JE.code ?_
    rcases cond_some hres with ⟨hb, hres⟩ | ⟨hb, hres⟩
    · refine JX.condT rfl hb ?_
      refine JX.skip ?_
      refine JE.code ?_
      refine JX.seq ?_
      refine JX.block ?_
      refine JX.seq ?_
      refine JX.region ?_
      refine JL.val (yl_move rfl) rfl ?_
      refine JL.val (yl_rem rfl rfl (by decide)) rfl ?_
      refine JL.val (yl_assign rfl) rfl ?_
      refine JL.nil ?_
      refine JE.code ?_
      refine JX.block ?_
      obtain ⟨y3, hy3, hresO3⟩ := bind_some hres
      refine JX.loop (I := fun (s3 : Int × List Int × List (List SPoint)) aa ww => ∃ (l27 : s3.2.1.length = x2.length) (a28 : Option Addr) (cp29 : Nat) (hs30 : List Hd) (hi31 : Inn hs30 s3.2.2), St w [] 168 [(0, ptrAt b_0 0), (4, .slice a3 x2.length x2.length), (6, .slice a28 s3.2.2.length cp29), (7, .int .i64 x19), (8, .int .i64 s3.1)] [rowT 2 eI64 a3 x2.length x2.length s3.2.1, rowT 61 eHd a28 s3.2.2.length cp29 hs30, innO 35 eSPoint none hs30 s3.2.2] aa ww) (sh83_3 q0 x19) hy3 (fun a w h => ⟨l22, a23, cp24, hs25, hi26, h.weak ⟨rfl, rfl, (by first | rfl | (simp only [List.length_set, l22]; rfl) | simp only [List.length_set, l22]), rfl, rfl, trivial⟩ [0, 1, 2] (by decide) (by first | rfl | (simp only [List.length_set, l22]; rfl) | simp only [List.length_set, l22])⟩) ?_
      rintro ⟨x32, x33, x34⟩ o3 hres hox3 aa ww ⟨l35, a36, cp37, hs38, hi39, hS⟩
      refine (?_ : JX Go.Proofs.Try.prog w [] 168 _ _ [(0, ptrAt b_0 0), (4, .slice a3 x2.length x2.length), (6, .slice a36 x34.length cp37), (7, .int .i64 x19), (8, .int .i64 x32)] [rowT 2 eI64 a3 x2.length x2.length x33, rowT 61 eHd a36 x34.length cp37 hs38, innO 35 eSPoint none hs38 x34] _) aa ww hS
      clear hS
      simp only [sh83_3] at hres
      refine JX.seq ?_
      refine JX.seq ?_
      refine JX.region ?_
      refine JL.val (yl_move rfl) rfl ?_
      refine JL.val (yl_move rfl) rfl ?_
      refine JL.val (yl_nilCheckAt rfl (Rd.some g_0 (j := 0) rfl)) rfl ?_
      refine JL.val (yl_fieldAt Go.Proofs.Try.underlying28 rfl i2 i2n rfl (Rd.some g_0 (j := 0) rfl)) rfl ?_
      refine JL.val (yl_load1 Go.Proofs.Try.underlying2 rfl rfl (fun w hC => rd_arg g_0 hC) rfl) rfl ?_
      refine JL.val (yl_mul rfl rfl) rfl ?_
      refine JL.val (yl_leq rfl rfl) rfl ?_
      refine JL.nil ?_
      refine JE.weak (env' := [(0, ptrAt b_0 0), (4, .slice a3 x2.length x2.length), (6, .slice a36 x34.length cp37), (7, .int .i64 x19), (8, .int .i64 x32), (61, .bool (decide (x32 ≤ (w64 (2 * q0.W)))))]) (es' := [rowT 2 eI64 a3 x2.length x2.length x33, rowT 61 eHd a36 x34.length cp37 hs38, innO 35 eSPoint none hs38 x34]) [0, 1, 2] ?_ ⟨rfl, rfl, rfl, rfl, rfl, rfl, trivial⟩ (by decide) rfl
      refine JE.code ?_
      rcases cond_some hres with ⟨hb, hres⟩ | ⟨hb, hres⟩
      · refine JX.condT rfl hb ?_
        refine JX.skip ?_
        refine JE.code ?_
        refine JX.seq ?_
        refine JX.block ?_
        refine JX.seq ?_
        refine JX.region ?_
        refine JL.val (yl_move rfl) rfl ?_
        refine JL.val (yl_move rfl) rfl ?_
        refine JL.val (yl_build rfl (fun w => bld35_0_1 x32 x19 w)) rfl ?_
        refine JL.eff (ef_alloc i35 i35z rfl) rfl ?_
        rintro _ _ ⟨g40, rfl, rfl⟩
        refine JL.eff (ef_store_box (i := 3) (v := .agg #[.int .i64 x32, .int .i64 x19]) i35 rfl rfl rfl (i35s).symm (Nat.le_of_ble_eq_true rfl) (by simp [Value.cells, Value.oneCell'])) rfl ?_
        rintro _ _ rfl
        refine JL.nil ?_
        refine JE.weak (env' := [(0, ptrAt b_0 0), (4, .slice a3 x2.length x2.length), (6, .slice a36 x34.length cp37), (7, .int .i64 x19), (8, .int .i64 x32), (9, ptrAt (some ⟨g40, 0, none⟩) 0)]) (es' := [rowT 2 eI64 a3 x2.length x2.length x33, rowT 61 eHd a36 x34.length cp37 hs38, innO 35 eSPoint none hs38 x34, boxO 35 g40 [.int .i64 x32, .int .i64 x19]]) [0, 1, 2, 3] ?_ ⟨rfl, rfl, rfl, rfl, rfl, rfl, trivial⟩ (by decide) rfl
        refine JE.code ?_
        refine JX.seq ?_
        refine JX.seq ?_
        refine JX.region ?_
        refine JL.val (yl_move rfl) rfl ?_
        refine JL.val (yl_move rfl) rfl ?_
        refine JL.val (yl_loadn Go.Proofs.Try.underlying35 rfl i35 rfl (fun w hC => rd_box hC 3 rfl) rfl (i35s).symm i35p) rfl ?_
        obtain ⟨x42, hx42, hres⟩ := bind_some hres
        refine JL.eff (ef_call (vs := [ptrAt b_0 0, .agg #[.int .i64 x32, .int .i64 x19]]) (T := T85 x42) Go.Proofs.Try.func85 rfl (by kernel_rfl) rfl (fun w hC => c85 (q1 := SPoint.mk x32 x19) (RdAt.of0 (rd_arg g_0 hC)) (rd_arg g_0_2 hC) rfl k_0_2 hx42)) rfl ?_
        rintro _ _ ⟨_, ⟨rfl, rfl⟩, rfl⟩
        obtain ⟨x43, hx43, hres⟩ := bind_some hres
        refine JL.val (yl_idxT Go.Proofs.Try.underlying22 i2 i2s rfl rfl hx43 l35 (fun w hC => rd_row hC 0 rfl)) rfl ?_
        refine JL.val (yl_loadT0 Go.Proofs.Try.underlying2 rfl rfl hx43 (fun w hC => rd_row hC 0 rfl) rfl) rfl ?_
        refine JL.val (yl_geq rfl rfl) rfl ?_
        refine JL.nil ?_
        refine JE.weak (env' := [(0, ptrAt b_0 0), (4, .slice a3 x2.length x2.length), (6, .slice a36 x34.length cp37), (7, .int .i64 x19), (8, .int .i64 x32), (9, ptrAt (some ⟨g40, 0, none⟩) 0), (73, .bool (decide (0 ≤ x43)))]) (es' := [rowT 2 eI64 a3 x2.length x2.length x33, rowT 61 eHd a36 x34.length cp37 hs38, innO 35 eSPoint none hs38 x34, boxO 35 g40 [.int .i64 x32, .int .i64 x19]]) [0, 1, 2, 3] ?_ ⟨rfl, rfl, rfl, rfl, rfl, rfl, rfl, trivial⟩ (by decide) rfl
        refine JE.code ?_
        rcases cond_some hres with ⟨hb, hres⟩ | ⟨hb, hres⟩
        · refine JX.condT rfl hb ?_
          refine JX.exit ?_
          refine JE.qb rfl ?_
          refine JE.code ?_
          refine JX.region ?_
          refine JL.val (yl_move rfl) rfl ?_
          refine JL.val (yl_add rfl rfl) rfl ?_
          refine JL.val (yl_assign rfl) rfl ?_
          refine JL.nil ?_
          refine JE.weak (env' := [(0, ptrAt b_0 0), (4, .slice a3 x2.length x2.length), (6, .slice a36 x34.length cp37), (7, .int .i64 x19), (8, .int .i64 (w64 (x32 + 2)))]) (es' := [rowT 2 eI64 a3 x2.length x2.length x33, rowT 61 eHd a36 x34.length cp37 hs38, innO 35 eSPoint none hs38 x34]) [0, 1, 2] ?_ ⟨rfl, rfl, rfl, rfl, rfl, trivial⟩ (by decide) rfl
          refine JE.cont hres ?_
          exact fun a w h => ⟨l35, a36, cp37, hs38, hi39, h.weak ⟨rfl, rfl, (by first | rfl | (simp only [List.length_set, l35]; rfl) | simp only [List.length_set, l35]), rfl, rfl, trivial⟩ [0, 1, 2] (by decide) (by first | rfl | (simp only [List.length_set, l35]; rfl) | simp only [List.length_set, l35])⟩
        · refine JX.condF rfl hb ?_
          refine JX.skip ?_
          refine JE.code ?_
          refine JX.seq ?_
          refine JX.region ?_
          refine JL.val (yl_move rfl) rfl ?_
          refine JL.val (yl_len_slice Go.Proofs.Try.underlying40 rfl) rfl ?_
          refine JL.val (yl_assign rfl) rfl ?_
          refine JL.nil ?_
          refine JE.code ?_
          refine JX.seq ?_
          refine JX.region ?_
          refine JL.val (yl_move rfl) rfl ?_
          refine JL.val (yl_move rfl) rfl ?_
          refine JL.val (yl_loadn Go.Proofs.Try.underlying35 rfl i35 rfl (fun w hC => rd_box hC 3 rfl) rfl (i35s).symm i35p) rfl ?_
          obtain ⟨x44, hx44, hres⟩ := bind_some hres
          refine JL.eff (ef_call (vs := [ptrAt b_0 0, .agg #[.int .i64 x32, .int .i64 x19]]) (T := T85 x44) Go.Proofs.Try.func85 rfl (by kernel_rfl) rfl (fun w hC => c85 (q1 := SPoint.mk x32 x19) (RdAt.of0 (rd_arg g_0 hC)) (rd_arg g_0_2 hC) rfl k_0_2 hx44)) rfl ?_
          rintro _ _ ⟨_, ⟨rfl, rfl⟩, rfl⟩
          refine JL.val (yl_move rfl) rfl ?_
          obtain ⟨x45, hx45, hres⟩ := bind_some hres
          refine JL.val (yl_idxT Go.Proofs.Try.underlying22 i2 i2s rfl rfl hx45 l35 (fun w hC => rd_row hC 0 rfl)) rfl ?_
          refine JL.eff (ef_storeT (ix := 0) (u := ((x34.length : Nat) : Int)) i2 i2s rfl rfl rfl hx45 rfl) rfl ?_
          rintro _ _ rfl
          refine JL.nil ?_
          refine JE.weak (env' := [(0, ptrAt b_0 0), (4, .slice a3 x2.length x2.length), (6, .slice a36 x34.length cp37), (7, .int .i64 x19), (8, .int .i64 x32), (9, ptrAt (some ⟨g40, 0, none⟩) 0), (10, .int .i64 ((x34.length : Nat) : Int))]) (es' := [rowT 2 eI64 a3 x2.length x2.length (x33.set (x44).toNat ((x34.length : Nat) : Int)), rowT 61 eHd a36 x34.length cp37 hs38, innO 35 eSPoint none hs38 x34, boxO 35 g40 [.int .i64 x32, .int .i64 x19]]) [0, 1, 2, 3] ?_ ⟨rfl, rfl, rfl, rfl, rfl, rfl, rfl, trivial⟩ (by decide) rfl
          refine JE.code ?_
          refine JX.seq ?_
          refine JX.region ?_
          refine JL.val (yl_loadn Go.Proofs.Try.underlying35 rfl i35 rfl (fun w hC => rd_box hC 3 rfl) rfl (i35s).symm i35p) rfl ?_
          refine JL.eff (ef_buildSlice (E := 35) (k := eSPoint.k) (us := eSPoint.fl [SPoint.mk x32 x19]) rfl (fun w => bsl61_1 x32 x19 w) rfl (by decide)) rfl ?_
          rintro _ _ ⟨a46, rfl, rfl⟩
          refine JL.val (yl_assign rfl) rfl ?_
          refine JL.nil ?_
          refine JE.weak (env' := [(0, ptrAt b_0 0), (4, .slice a3 x2.length x2.length), (6, .slice a36 x34.length cp37), (7, .int .i64 x19), (8, .int .i64 x32), (10, .int .i64 ((x34.length : Nat) : Int)), (11, .slice a46 1 1)]) (es' := [rowT 2 eI64 a3 x2.length x2.length (x33.set (x44).toNat ((x34.length : Nat) : Int)), rowT 61 eHd a36 x34.length cp37 hs38, innO 35 eSPoint none hs38 x34, rowT 35 eSPoint a46 1 1 [SPoint.mk x32 x19]]) [0, 1, 2, 4] ?_ ⟨rfl, rfl, rfl, rfl, rfl, rfl, rfl, trivial⟩ (by decide) rfl
          refine JE.code ?_
          refine JX.seq ?_
          refine JX.seq ?_
          refine JX.region ?_
          refine JL.val (yl_assign rfl) rfl ?_
          refine JL.nil ?_
          refine JE.code ?_
          refine JX.block ?_
          obtain ⟨y4, hy4, hresO4⟩ := bind_some hres
          refine JX.loop (I := fun (s4 : Int × List Int × List SPoint) aa ww => ∃ (l48 : s4.2.1.length = x2.length) (a49 : Option Addr) (cp50 : Nat), St w [] 168 [(0, ptrAt b_0 0), (4, .slice a3 x2.length x2.length), (6, .slice a36 x34.length cp37), (7, .int .i64 x19), (8, .int .i64 x32), (10, .int .i64 ((x34.length : Nat) : Int)), (11, .slice a49 s4.2.2.length cp50), (12, .int .i64 s4.1)] [rowT 2 eI64 a3 x2.length x2.length s4.2.1, rowT 61 eHd a36 x34.length cp37 hs38, innO 35 eSPoint none hs38 x34, rowT 35 eSPoint a49 s4.2.2.length cp50 s4.2.2] aa ww) (sh83_4 q0 x34) hy4 (fun a w h => ⟨(List.length_set.trans l35), a46, 1, h.weak ⟨rfl, rfl, rfl, rfl, rfl, rfl, rfl, rfl, trivial⟩ [0, 1, 2, 3] (by decide) rfl⟩) ?_
          rintro ⟨x51, x52, x53⟩ o4 hres hox4 aa ww ⟨l54, a55, cp56, hS⟩
          refine (?_ : JX Go.Proofs.Try.prog w [] 168 _ _ [(0, ptrAt b_0 0), (4, .slice a3 x2.length x2.length), (6, .slice a36 x34.length cp37), (7, .int .i64 x19), (8, .int .i64 x32), (10, .int .i64 ((x34.length : Nat) : Int)), (11, .slice a55 x53.length cp56), (12, .int .i64 x51)] [rowT 2 eI64 a3 x2.length x2.length x52, rowT 61 eHd a36 x34.length cp37 hs38, innO 35 eSPoint none hs38 x34, rowT 35 eSPoint a55 x53.length cp56 x53] _) aa ww hS
          clear hS
          simp only [sh83_4] at hres
          refine JX.seq ?_
          refine JX.seq ?_
          refine JX.region ?_
          refine JL.val (yl_move rfl) rfl ?_
          refine JL.val (yl_move rfl) rfl ?_
          refine JL.val (yl_len_slice Go.Proofs.Try.underlying61 rfl) rfl ?_
          refine JL.val (yl_lss rfl rfl) rfl ?_
          refine JL.nil ?_
          refine JE.weak (env' := [(0, ptrAt b_0 0), (4, .slice a3 x2.length x2.length), (6, .slice a36 x34.length cp37), (7, .int .i64 x19), (8, .int .i64 x32), (10, .int .i64 ((x34.length : Nat) : Int)), (11, .slice a55 x53.length cp56), (12, .int .i64 x51), (87, .bool (decide (x51 < (x53.length : Int))))]) (es' := [rowT 2 eI64 a3 x2.length x2.length x52, rowT 61 eHd a36 x34.length cp37 hs38, innO 35 eSPoint none hs38 x34, rowT 35 eSPoint a55 x53.length cp56 x53]) [0, 1, 2, 3] ?_ ⟨rfl, rfl, rfl, rfl, rfl, rfl, rfl, rfl, rfl, trivial⟩ (by decide) rfl
          refine JE.code ?_
          rcases cond_some hres with ⟨hb, hres⟩ | ⟨hb, hres⟩
          · refine JX.condT rfl hb ?_
            refine JX.skip ?_
            refine JE.code ?_
            refine JX.seq ?_
            refine JX.block ?_
            refine JX.seq ?_
            refine JX.region ?_
            refine JL.val (yl_move rfl) rfl ?_
            refine JL.val (yl_move rfl) rfl ?_
            refine JL.val (yl_move rfl) rfl ?_
            obtain ⟨x57, hx57, hres⟩ := bind_some hres
            refine JL.val (yl_idxT Go.Proofs.Try.underlying61 i35 i35s rfl rfl hx57 rfl (fun w hC => rd_row hC 3 rfl)) rfl ?_
            refine JL.val (yl_loadTn Go.Proofs.Try.underlying35 rfl i35 i35s rfl hx57 (fun w hC => rd_row hC 3 rfl)) rfl ?_
            obtain ⟨x58, hx58, hres⟩ := bind_some hres
            refine JL.eff (ef_call (vs := [ptrAt b_0 0, .agg #[.int .i64 x57.X, .int .i64 x57.Y]]) (T := T145 x58) Go.Proofs.Try.func145 rfl (by kernel_rfl) rfl (fun w hC => c145 (q1 := x57) (RdAt.of0 (rd_arg g_0 hC)) (rd_arg g_0_2 hC) rfl k_0_2 hx58)) rfl ?_
            rintro _ _ ⟨_, ⟨a59, _, cp60, rfl, rfl, rfl⟩, rfl⟩
            refine JL.val (yl_assign rfl) rfl ?_
            refine JL.nil ?_
            refine JE.weak (env' := [(0, ptrAt b_0 0), (4, .slice a3 x2.length x2.length), (6, .slice a36 x34.length cp37), (7, .int .i64 x19), (8, .int .i64 x32), (10, .int .i64 ((x34.length : Nat) : Int)), (11, .slice a55 x53.length cp56), (12, .int .i64 x51), (13, .slice a59 x58.length cp60)]) (es' := [rowT 2 eI64 a3 x2.length x2.length x52, rowT 61 eHd a36 x34.length cp37 hs38, innO 35 eSPoint none hs38 x34, rowT 35 eSPoint a55 x53.length cp56 x53, rowT 35 eSPoint a59 x58.length cp60 x58]) [0, 1, 2, 3, 4] ?_ ⟨rfl, rfl, rfl, rfl, rfl, rfl, rfl, rfl, rfl, trivial⟩ (by decide) rfl
            refine JE.code ?_
            refine JX.seq ?_
            refine JX.region ?_
            refine JL.val (yl_assign rfl) rfl ?_
            refine JL.nil ?_
            refine JE.code ?_
            refine JX.block ?_
            obtain ⟨y5, hy5, hresO5⟩ := bind_some hres
            refine JX.loop (I := fun (s5 : Int × List Int × List SPoint) aa ww => ∃ (l62 : s5.2.1.length = x2.length) (a63 : Option Addr) (cp64 : Nat), St w [] 168 [(0, ptrAt b_0 0), (4, .slice a3 x2.length x2.length), (6, .slice a36 x34.length cp37), (7, .int .i64 x19), (8, .int .i64 x32), (10, .int .i64 ((x34.length : Nat) : Int)), (11, .slice a63 s5.2.2.length cp64), (12, .int .i64 x51), (13, .slice a59 x58.length cp60), (14, .int .i64 s5.1)] [rowT 2 eI64 a3 x2.length x2.length s5.2.1, rowT 61 eHd a36 x34.length cp37 hs38, innO 35 eSPoint none hs38 x34, rowT 35 eSPoint a63 s5.2.2.length cp64 s5.2.2, rowT 35 eSPoint a59 x58.length cp60 x58] aa ww) (sh83_5 q0 x58 x34) hy5 (fun a w h => ⟨l54, a55, cp56, h.weak ⟨rfl, rfl, rfl, rfl, rfl, rfl, rfl, rfl, rfl, rfl, trivial⟩ [0, 1, 2, 3, 4] (by decide) rfl⟩) ?_
            rintro ⟨x65, x66, x67⟩ o5 hres hox5 aa ww ⟨l68, a69, cp70, hS⟩
            refine (?_ : JX Go.Proofs.Try.prog w [] 168 _ _ [(0, ptrAt b_0 0), (4, .slice a3 x2.length x2.length), (6, .slice a36 x34.length cp37), (7, .int .i64 x19), (8, .int .i64 x32), (10, .int .i64 ((x34.length : Nat) : Int)), (11, .slice a69 x67.length cp70), (12, .int .i64 x51), (13, .slice a59 x58.length cp60), (14, .int .i64 x65)] [rowT 2 eI64 a3 x2.length x2.length x66, rowT 61 eHd a36 x34.length cp37 hs38, innO 35 eSPoint none hs38 x34, rowT 35 eSPoint a69 x67.length cp70 x67, rowT 35 eSPoint a59 x58.length cp60 x58] _) aa ww hS
            clear hS
            simp only [sh83_5] at hres
            refine JX.seq ?_
            refine JX.seq ?_
            refine JX.region ?_
            refine JL.val (yl_move rfl) rfl ?_
            refine JL.val (yl_move rfl) rfl ?_
            refine JL.val (yl_len_slice Go.Proofs.Try.underlying61 rfl) rfl ?_
            refine JL.val (yl_lss rfl rfl) rfl ?_
            refine JL.nil ?_
            refine JE.weak (env' := [(0, ptrAt b_0 0), (4, .slice a3 x2.length x2.length), (6, .slice a36 x34.length cp37), (7, .int .i64 x19), (8, .int .i64 x32), (10, .int .i64 ((x34.length : Nat) : Int)), (11, .slice a69 x67.length cp70), (12, .int .i64 x51), (13, .slice a59 x58.length cp60), (14, .int .i64 x65), (99, .bool (decide (x65 < (x58.length : Int))))]) (es' := [rowT 2 eI64 a3 x2.length x2.length x66, rowT 61 eHd a36 x34.length cp37 hs38, innO 35 eSPoint none hs38 x34, rowT 35 eSPoint a69 x67.length cp70 x67, rowT 35 eSPoint a59 x58.length cp60 x58]) [0, 1, 2, 3, 4] ?_ ⟨rfl, rfl, rfl, rfl, rfl, rfl, rfl, rfl, rfl, rfl, rfl, trivial⟩ (by decide) rfl
            refine JE.code ?_
            rcases cond_some hres with ⟨hb, hres⟩ | ⟨hb, hres⟩
            · refine JX.condT rfl hb ?_
              refine JX.skip ?_
              refine JE.code ?_
              refine JX.seq ?_
              refine JX.block ?_
              refine JX.seq ?_
              refine JX.region ?_
              refine JL.val (yl_move rfl) rfl ?_
              refine JL.val (yl_move rfl) rfl ?_
              refine JL.val (yl_move rfl) rfl ?_
              obtain ⟨x71, hx71, hres⟩ := bind_some hres
              refine JL.val (yl_idxT Go.Proofs.Try.underlying61 i35 i35s rfl rfl hx71 rfl (fun w hC => rd_row hC 4 rfl)) rfl ?_
              refine JL.val (yl_loadTn Go.Proofs.Try.underlying35 rfl i35 i35s rfl hx71 (fun w hC => rd_row hC 4 rfl)) rfl ?_
              obtain ⟨x72, hx72, hres⟩ := bind_some hres
              refine JL.eff (ef_call (vs := [ptrAt b_0 0, .agg #[.int .i64 x71.X, .int .i64 x71.Y]]) (T := T85 x72) Go.Proofs.Try.func85 rfl (by kernel_rfl) rfl (fun w hC => c85 (q1 := x71) (RdAt.of0 (rd_arg g_0 hC)) (rd_arg g_0_2 hC) rfl k_0_2 hx72)) rfl ?_
              rintro _ _ ⟨_, ⟨rfl, rfl⟩, rfl⟩
              refine JL.val (yl_assign rfl) rfl ?_
              refine JL.nil ?_
              refine JE.weak (env' := [(0, ptrAt b_0 0), (4, .slice a3 x2.length x2.length), (6, .slice a36 x34.length cp37), (7, .int .i64 x19), (8, .int .i64 x32), (10, .int .i64 ((x34.length : Nat) : Int)), (11, .slice a69 x67.length cp70), (12, .int .i64 x51), (13, .slice a59 x58.length cp60), (14, .int .i64 x65), (15, .int .i64 x72)]) (es' := [rowT 2 eI64 a3 x2.length x2.length x66, rowT 61 eHd a36 x34.length cp37 hs38, innO 35 eSPoint none hs38 x34, rowT 35 eSPoint a69 x67.length cp70 x67, rowT 35 eSPoint a59 x58.length cp60 x58]) [0, 1, 2, 3, 4] ?_ ⟨rfl, rfl, rfl, rfl, rfl, rfl, rfl, rfl, rfl, rfl, rfl, trivial⟩ (by decide) rfl
              refine JE.code ?_
              refine JX.seq ?_
              refine JX.region ?_
              refine JL.val (yl_move rfl) rfl ?_
              refine JL.val (yl_move rfl) rfl ?_
              obtain ⟨x73, hx73, hres⟩ := bind_some hres
              refine JL.val (yl_idxT Go.Proofs.Try.underlying22 i2 i2s rfl rfl hx73 l68 (fun w hC => rd_row hC 0 rfl)) rfl ?_
              refine JL.val (yl_loadT0 Go.Proofs.Try.underlying2 rfl rfl hx73 (fun w hC => rd_row hC 0 rfl) rfl) rfl ?_
              refine JL.val (yl_lss rfl rfl) rfl ?_
              refine JL.nil ?_
              refine JE.weak (env' := [(0, ptrAt b_0 0), (4, .slice a3 x2.length x2.length), (6, .slice a36 x34.length cp37), (7, .int .i64 x19), (8, .int .i64 x32), (10, .int .i64 ((x34.length : Nat) : Int)), (11, .slice a69 x67.length cp70), (12, .int .i64 x51), (13, .slice a59 x58.length cp60), (14, .int .i64 x65), (15, .int .i64 x72), (112, .bool (decide (x73 < 0)))]) (es' := [rowT 2 eI64 a3 x2.length x2.length x66, rowT 61 eHd a36 x34.length cp37 hs38, innO 35 eSPoint none hs38 x34, rowT 35 eSPoint a69 x67.length cp70 x67, rowT 35 eSPoint a59 x58.length cp60 x58]) [0, 1, 2, 3, 4] ?_ ⟨rfl, rfl, rfl, rfl, rfl, rfl, rfl, rfl, rfl, rfl, rfl, rfl, trivial⟩ (by decide) rfl
              refine JE.code ?_
              obtain ⟨j74, hj74, hresj74⟩ := bind_some hres
              refine JX.cut (K := fun J => ∀ (l75 : j74.1.length = x2.length) (a76 : Option Addr) (cp77 : Nat), J [(0, ptrAt b_0 0), (4, .slice a3 x2.length x2.length), (6, .slice a36 x34.length cp37), (7, .int .i64 x19), (8, .int .i64 x32), (10, .int .i64 ((x34.length : Nat) : Int)), (11, .slice a76 j74.2.length cp77), (12, .int .i64 x51), (13, .slice a59 x58.length cp60), (14, .int .i64 x65)] [rowT 2 eI64 a3 x2.length x2.length j74.1, rowT 61 eHd a36 x34.length cp37 hs38, innO 35 eSPoint none hs38 x34, rowT 35 eSPoint a76 j74.2.length cp77 j74.2, rowT 35 eSPoint a59 x58.length cp60 x58]) ?_ ?_
              · intro l75 a76 cp77
                have hres := hresj74
                refine JE.code ?_
                refine JX.region ?_
                refine JL.val (yl_move rfl) rfl ?_
                refine JL.val (yl_add rfl rfl) rfl ?_
                refine JL.val (yl_assign rfl) rfl ?_
                refine JL.nil ?_
                refine JE.cont hres ?_
                exact fun a w h => ⟨l75, a76, cp77, h.weak ⟨rfl, rfl, rfl, rfl, rfl, rfl, rfl, rfl, rfl, rfl, trivial⟩ [0, 1, 2, 3, 4] (by decide) rfl⟩
              · intro K
                rcases cond_some hj74 with ⟨hb, hres⟩ | ⟨hb, hres⟩
                · refine JX.condT rfl hb ?_
                  refine JX.seq ?_
                  refine JX.region ?_
                  refine JL.val (yl_move rfl) rfl ?_
                  refine JL.val (yl_move rfl) rfl ?_
                  refine JL.val (yl_move rfl) rfl ?_
                  obtain ⟨x78, hx78, hres⟩ := bind_some hres
                  refine JL.val (yl_idxT Go.Proofs.Try.underlying22 i2 i2s rfl rfl hx78 l68 (fun w hC => rd_row hC 0 rfl)) rfl ?_
                  refine JL.eff (ef_storeT (ix := 0) (u := ((x34.length : Nat) : Int)) i2 i2s rfl rfl rfl hx78 rfl) rfl ?_
                  rintro _ _ rfl
                  refine JL.nil ?_
                  refine JE.weak (env' := [(0, ptrAt b_0 0), (4, .slice a3 x2.length x2.length), (6, .slice a36 x34.length cp37), (7, .int .i64 x19), (8, .int .i64 x32), (10, .int .i64 ((x34.length : Nat) : Int)), (11, .slice a69 x67.length cp70), (12, .int .i64 x51), (13, .slice a59 x58.length cp60), (14, .int .i64 x65)]) (es' := [rowT 2 eI64 a3 x2.length x2.length (x66.set (x72).toNat ((x34.length : Nat) : Int)), rowT 61 eHd a36 x34.length cp37 hs38, innO 35 eSPoint none hs38 x34, rowT 35 eSPoint a69 x67.length cp70 x67, rowT 35 eSPoint a59 x58.length cp60 x58]) [0, 1, 2, 3, 4] ?_ ⟨rfl, rfl, rfl, rfl, rfl, rfl, rfl, rfl, rfl, rfl, trivial⟩ (by decide) rfl
                  refine JE.code ?_
                  refine JX.region ?_
                  refine JL.val (yl_move rfl) rfl ?_
                  refine JL.val (yl_move rfl) rfl ?_
                  refine JL.val (yl_move rfl) rfl ?_
                  obtain ⟨x79, hx79, hres⟩ := bind_some hres
                  refine JL.val (yl_idxT Go.Proofs.Try.underlying61 i35 i35s rfl rfl hx79 rfl (fun w hC => rd_row hC 4 rfl)) rfl ?_
                  refine JL.val (yl_loadTn Go.Proofs.Try.underlying35 rfl i35 i35s rfl hx79 (fun w hC => rd_row hC 4 rfl)) rfl ?_
                  refine JL.eff (ef_buildSlice (E := 35) (k := eSPoint.k) (us := eSPoint.fl [x79]) rfl (fun w => bsl61_1 x79.X x79.Y w) rfl (by decide)) rfl ?_
                  rintro _ _ ⟨a80, rfl, rfl⟩
                  obtain ⟨x82, hx82, hres⟩ := bind_some hres
                  refine JL.eff (ef_appendT (ix := 3) Go.Proofs.Try.underlying61 i35 i35z i35s rfl i35b0 i35b1 rfl rfl rfl rfl rfl (fun w hC => rd_row hC 5 rfl) hx82) rfl ?_
                  rintro _ _ ⟨a83, cp84, rfl, rfl⟩
                  refine JL.val (yl_assign rfl) rfl ?_
                  refine JL.nil ?_
                  refine JE.weak (env' := [(0, ptrAt b_0 0), (4, .slice a3 x2.length x2.length), (6, .slice a36 x34.length cp37), (7, .int .i64 x19), (8, .int .i64 x32), (10, .int .i64 ((x34.length : Nat) : Int)), (11, .slice a83 x82.length cp84), (12, .int .i64 x51), (13, .slice a59 x58.length cp60), (14, .int .i64 x65)]) (es' := [rowT 2 eI64 a3 x2.length x2.length (x66.set (x72).toNat ((x34.length : Nat) : Int)), rowT 61 eHd a36 x34.length cp37 hs38, innO 35 eSPoint none hs38 x34, rowT 35 eSPoint a83 x82.length cp84 x82, rowT 35 eSPoint a59 x58.length cp60 x58]) [0, 1, 2, 3, 4] ?_ ⟨rfl, rfl, rfl, rfl, rfl, rfl, rfl, rfl, rfl, rfl, trivial⟩ (by decide) rfl
                  have hj := Option.some.inj hres
                  exact JE.weak [0, 1, 2, 3, 4] (K (by subst hj; exact (List.length_set.trans l68)) a83 cp84) ⟨(by subst hj; rfl), (by subst hj; rfl), (by subst hj; rfl), (by subst hj; rfl), (by subst hj; rfl), (by subst hj; rfl), (by subst hj; rfl), (by subst hj; rfl), (by subst hj; rfl), (by subst hj; rfl), trivial⟩ (by decide) (by subst hj; rfl)
                · refine JX.condF rfl hb ?_
                  refine JX.skip ?_
                  have hj := Option.some.inj hres
                  exact JE.weak [0, 1, 2, 3, 4] (K (by subst hj; exact l68) a69 cp70) ⟨(by subst hj; rfl), (by subst hj; rfl), (by subst hj; rfl), (by subst hj; rfl), (by subst hj; rfl), (by subst hj; rfl), (by subst hj; rfl), (by subst hj; rfl), (by subst hj; rfl), (by subst hj; rfl), trivial⟩ (by decide) (by subst hj; rfl)
            · refine JX.condF rfl hb ?_
              refine JX.exit ?_
              refine JE.qb rfl ?_
              obtain ⟨b5, hb5⟩ : ∃ b : List Int × List SPoint, b = (x66, x67) := ⟨_, rfl⟩
              have hy5 : b5 = y5 := by rw [hb5]; exact hox5 _ (Option.some.inj hres).symm
              have hres := hresO5
              rw [← hy5] at hres
              have l85 : b5.1.length = x2.length := by subst hb5; exact l68
              refine JE.weak (env' := [(0, ptrAt b_0 0), (4, .slice a3 x2.length x2.length), (6, .slice a36 x34.length cp37), (7, .int .i64 x19), (8, .int .i64 x32), (10, .int .i64 ((x34.length : Nat) : Int)), (11, .slice a69 b5.2.length cp70), (12, .int .i64 x51)]) (es' := [rowT 2 eI64 a3 x2.length x2.length b5.1, rowT 61 eHd a36 x34.length cp37 hs38, innO 35 eSPoint none hs38 x34, rowT 35 eSPoint a69 b5.2.length cp70 b5.2]) [0, 1, 2, 3] ?_ ⟨(by subst hb5; rfl), (by subst hb5; rfl), (by subst hb5; rfl), (by subst hb5; rfl), (by subst hb5; rfl), (by subst hb5; rfl), (by subst hb5; rfl), (by subst hb5; rfl), trivial⟩ (by decide) (by subst hb5; rfl)
              refine JE.code ?_
              refine JX.region ?_
              refine JL.val (yl_move rfl) rfl ?_
              refine JL.val (yl_add rfl rfl) rfl ?_
              refine JL.val (yl_assign rfl) rfl ?_
              refine JL.nil ?_
              refine JE.cont hres ?_
              exact fun a w h => ⟨l85, a69, cp70, h.weak ⟨rfl, rfl, rfl, rfl, rfl, rfl, rfl, rfl, trivial⟩ [0, 1, 2, 3] (by decide) rfl⟩
          · refine JX.condF rfl hb ?_
            refine JX.exit ?_
            refine JE.qb rfl ?_
            obtain ⟨b4, hb4⟩ : ∃ b : List Int, b = x52 := ⟨_, rfl⟩
            have hy4 : b4 = y4 := by rw [hb4]; exact hox4 _ (Option.some.inj hres).symm
            have hres := hresO4
            rw [← hy4] at hres
            have l88 : b4.length = x2.length := by subst hb4; exact l54
            refine JE.weak (env' := [(0, ptrAt b_0 0), (4, .slice a3 x2.length x2.length), (6, .slice a36 x34.length cp37), (7, .int .i64 x19), (8, .int .i64 x32)]) (es' := [rowT 2 eI64 a3 x2.length x2.length b4, rowT 61 eHd a36 x34.length cp37 hs38, innO 35 eSPoint none hs38 x34]) [0, 1, 2] ?_ ⟨(by subst hb4; rfl), (by subst hb4; rfl), (by subst hb4; rfl), (by subst hb4; rfl), (by subst hb4; rfl), trivial⟩ (by decide) (by subst hb4; rfl)
            refine JE.code ?_
            refine JX.region ?_
            refine JL.val (yl_move rfl) rfl ?_
            refine JL.nilrow 35 eSPoint ?_
            refine JL.eff (ef_buildSlice (E := 61) (k := eHd.k) (us := eHd.fl [⟨none, 0, 0⟩]) rfl (fun w => bsl40_1 none 0 0 w) rfl (by decide)) rfl ?_
            rintro _ _ ⟨a90, rfl, rfl⟩
            obtain ⟨x92, hx92, hres⟩ := bind_some hres
            refine JL.eff (ef_appendH (ix := 1) Go.Proofs.Try.underlying40 i61 i61z i61s rfl i61b0 i61b1 rfl rfl (Inn.len hi39) rfl rfl (fun w hC => rd_row hC 4 rfl) hx92 hi39) rfl ?_
            rintro _ _ ⟨a93, cp94, rfl, rfl⟩
            refine JL.absorb (es' := [rowT 2 eI64 a3 x2.length x2.length b4, rowT 61 eHd a93 x92.length cp94 (hs38 ++ [⟨none, 0, 0⟩]), rowT 61 eHd a90 1 1 [⟨none, 0, 0⟩]]) [0, 1, 4, 2, 3] (by decide) rfl (appL_some hx92).2 ?_
            refine JL.val (yl_assign rfl) rfl ?_
            refine JL.nil ?_
            refine JE.weak (env' := [(0, ptrAt b_0 0), (4, .slice a3 x2.length x2.length), (6, .slice a93 x92.length cp94), (7, .int .i64 x19), (8, .int .i64 x32)]) (es' := [rowT 2 eI64 a3 x2.length x2.length b4, rowT 61 eHd a93 x92.length cp94 (hs38 ++ [⟨none, 0, 0⟩]), innO 35 eSPoint none (hs38 ++ [⟨none, 0, 0⟩]) x92]) [0, 1, 3] ?_ ⟨rfl, rfl, rfl, rfl, rfl, trivial⟩ (by decide) rfl
            refine JE.code ?_
            refine JX.region ?_
            refine JL.val (yl_move rfl) rfl ?_
            refine JL.val (yl_add rfl rfl) rfl ?_
            refine JL.val (yl_assign rfl) rfl ?_
            refine JL.nil ?_
            refine JE.cont hres ?_
            exact fun a w h => ⟨l88, a93, cp94, hs38 ++ [⟨none, 0, 0⟩], (Inn.appZ hi39 rfl (appL_some hx92).2), h.weak ⟨rfl, rfl, (by first | rfl | (simp only [List.length_set, l88]; rfl) | simp only [List.length_set, l88]), rfl, rfl, trivial⟩ [0, 1, 2] (by decide) (by first | rfl | (simp only [List.length_set, l88]; rfl) | simp only [List.length_set, l88])⟩
      · refine JX.condF rfl hb ?_
        refine JX.exit ?_
        refine JE.qb rfl ?_
        obtain ⟨b3, hb3⟩ : ∃ b : List Int × List (List SPoint), b = (x33, x34) := ⟨_, rfl⟩
        have hy3 : b3 = y3 := by rw [hb3]; exact hox3 _ (Option.some.inj hres).symm
        have hres := hresO3
        rw [← hy3] at hres
        have l95 : b3.1.length = x2.length := by subst hb3; exact l35
        have hi99 : Inn hs38 b3.2 := by subst hb3; exact hi39
        refine JE.weak (env' := [(0, ptrAt b_0 0), (4, .slice a3 x2.length x2.length), (6, .slice a36 b3.2.length cp37), (7, .int .i64 x19)]) (es' := [rowT 2 eI64 a3 x2.length x2.length b3.1, rowT 61 eHd a36 b3.2.length cp37 hs38, innO 35 eSPoint none hs38 b3.2]) [0, 1, 2] ?_ ⟨(by subst hb3; rfl), (by subst hb3; rfl), (by subst hb3; first | rfl | (simp only [List.length_set, l35]; rfl) | simp only [List.length_set, l35]), (by subst hb3; rfl), trivial⟩ (by decide) (by subst hb3; first | rfl | (simp only [List.length_set, l35]; rfl) | simp only [List.length_set, l35])
        refine JE.code ?_
        refine JX.region ?_
        refine JL.val (yl_move rfl) rfl ?_
        refine JL.val (yl_add rfl rfl) rfl ?_
        refine JL.val (yl_assign rfl) rfl ?_
        refine JL.nil ?_
        refine JE.cont hres ?_
        exact fun a w h => ⟨l95, a36, cp37, hs38, hi99, h.weak ⟨rfl, rfl, (by first | rfl | (simp only [List.length_set, l95]; rfl) | simp only [List.length_set, l95]), rfl, trivial⟩ [0, 1, 2] (by decide) (by first | rfl | (simp only [List.length_set, l95]; rfl) | simp only [List.length_set, l95])⟩
    · refine JX.condF rfl hb ?_
      refine JX.exit ?_
      refine JE.qb rfl ?_
      obtain ⟨b2, hb2⟩ : ∃ b : List Int × List (List SPoint), b = (x20, x21) := ⟨_, rfl⟩
      have hy2 : b2 = y2 := by rw [hb2]; exact hox2 _ (Option.some.inj hres).symm
      have hres := hresO2
      rw [← hy2] at hres
      have l100 : b2.1.length = x2.length := by subst hb2; exact l22
      have hi104 : Inn hs25 b2.2 := by subst hb2; exact hi26
      refine JE.weak (env' := [(0, ptrAt b_0 0), (4, .slice a3 x2.length x2.length), (6, .slice a23 b2.2.length cp24)]) (es' := [rowT 2 eI64 a3 x2.length x2.length b2.1, rowT 61 eHd a23 b2.2.length cp24 hs25, innO 35 eSPoint none hs25 b2.2]) [0, 1, 2] ?_ ⟨(by subst hb2; rfl), (by subst hb2; rfl), (by subst hb2; first | rfl | (simp only [List.length_set, l22]; rfl) | simp only [List.length_set, l22]), trivial⟩ (by decide) (by subst hb2; first | rfl | (simp only [List.length_set, l22]; rfl) | simp only [List.length_set, l22])
      refine JE.code ?_
      refine JX.seq ?_
      refine JX.seq ?_
      refine JX.region ?_
      refine JL.val (yl_assign rfl) rfl ?_
      refine JL.nil ?_
      refine JE.code ?_
      refine JX.block ?_
      obtain ⟨y6, hy6, hresO6⟩ := bind_some hres
      refine JX.loop (I := fun (s6 : Int × List (List SPoint)) aa ww => ∃ (a105 : Option Addr) (cp106 : Nat) (hs107 : List Hd) (hi108 : Inn hs107 s6.2), St w [] 168 [(0, ptrAt b_0 0), (4, .slice a3 x2.length x2.length), (6, .slice a105 s6.2.length cp106), (16, .int .i64 s6.1)] [rowT 2 eI64 a3 x2.length x2.length b2.1, rowT 61 eHd a105 s6.2.length cp106 hs107, innO 35 eSPoint none hs107 s6.2] aa ww) (sh83_6 q0 b2) hy6 (fun a w h => ⟨a23, cp24, hs25, hi104, h.weak ⟨rfl, rfl, (by first | rfl | (simp only [List.length_set, l100]; rfl) | simp only [List.length_set, l100]), rfl, trivial⟩ [0, 1, 2] (by decide) (by first | rfl | (simp only [List.length_set, l100]; rfl) | simp only [List.length_set, l100])⟩) ?_
      rintro ⟨x109, x110⟩ o6 hres hox6 aa ww ⟨a111, cp112, hs113, hi114, hS⟩
      refine (?_ : JX Go.Proofs.Try.prog w [] 168 _ _ [(0, ptrAt b_0 0), (4, .slice a3 x2.length x2.length), (6, .slice a111 x110.length cp112), (16, .int .i64 x109)] [rowT 2 eI64 a3 x2.length x2.length b2.1, rowT 61 eHd a111 x110.length cp112 hs113, innO 35 eSPoint none hs113 x110] _) aa ww hS
      clear hS
      simp only [sh83_6] at hres
      refine JX.seq ?_
      refine JX.seq ?_
      refine JX.region ?_
      refine JL.val (yl_move rfl) rfl ?_
      refine JL.val (yl_move rfl) rfl ?_
      refine JL.val (yl_nilCheckAt rfl (Rd.some g_0 (j := 0) rfl)) rfl ?_
      refine JL.val (yl_fieldAt Go.Proofs.Try.underlying28 rfl i2 i2n rfl (Rd.some g_0 (j := 0) rfl)) rfl ?_
      refine JL.val (yl_load1 Go.Proofs.Try.underlying2 rfl rfl (fun w hC => rd_arg g_0 hC) rfl) rfl ?_
      refine JL.val (yl_mul rfl rfl) rfl ?_
      refine JL.val (yl_leq rfl rfl) rfl ?_
      refine JL.nil ?_
      refine JE.weak (env' := [(0, ptrAt b_0 0), (4, .slice a3 x2.length x2.length), (6, .slice a111 x110.length cp112), (16, .int .i64 x109), (133, .bool (decide (x109 ≤ (w64 (2 * q0.H)))))]) (es' := [rowT 2 eI64 a3 x2.length x2.length b2.1, rowT 61 eHd a111 x110.length cp112 hs113, innO 35 eSPoint none hs113 x110]) [0, 1, 2] ?_ ⟨rfl, rfl, rfl, rfl, rfl, trivial⟩ (by decide) rfl
      refine JE.code ?_
      rcases cond_some hres with ⟨hb, hres⟩ | ⟨hb, hres⟩
      · refine JX.condT rfl hb ?_
        refine JX.skip ?_
        refine JE.code ?_
        refine JX.seq ?_
        refine JX.block ?_
        refine JX.seq ?_
        refine JX.region ?_
        refine JL.val (yl_move rfl) rfl ?_
        refine JL.val (yl_rem rfl rfl (by decide)) rfl ?_
        refine JL.val (yl_assign rfl) rfl ?_
        refine JL.nil ?_
        refine JE.code ?_
        refine JX.block ?_
        obtain ⟨y7, hy7, hresO7⟩ := bind_some hres
        refine JX.loop (I := fun (s7 : Int × List (List SPoint)) aa ww => ∃ (a115 : Option Addr) (cp116 : Nat) (hs117 : List Hd) (hi118 : Inn hs117 s7.2), St w [] 168 [(0, ptrAt b_0 0), (4, .slice a3 x2.length x2.length), (6, .slice a115 s7.2.length cp116), (16, .int .i64 x109), (17, .int .i64 s7.1)] [rowT 2 eI64 a3 x2.length x2.length b2.1, rowT 61 eHd a115 s7.2.length cp116 hs117, innO 35 eSPoint none hs117 s7.2] aa ww) (sh83_7 q0 b2 x109) hy7 (fun a w h => ⟨a111, cp112, hs113, hi114, h.weak ⟨rfl, rfl, (by first | rfl | (simp only [List.length_set, l100]; rfl) | simp only [List.length_set, l100]), rfl, rfl, trivial⟩ [0, 1, 2] (by decide) (by first | rfl | (simp only [List.length_set, l100]; rfl) | simp only [List.length_set, l100])⟩) ?_
        rintro ⟨x119, x120⟩ o7 hres hox7 aa ww ⟨a121, cp122, hs123, hi124, hS⟩
        refine (?_ : JX Go.Proofs.Try.prog w [] 168 _ _ [(0, ptrAt b_0 0), (4, .slice a3 x2.length x2.length), (6, .slice a121 x120.length cp122), (16, .int .i64 x109), (17, .int .i64 x119)] [rowT 2 eI64 a3 x2.length x2.length b2.1, rowT 61 eHd a121 x120.length cp122 hs123, innO 35 eSPoint none hs123 x120] _) aa ww hS
        clear hS
        simp only [sh83_7] at hres
        refine JX.seq ?_
        refine JX.seq ?_
        refine JX.region ?_
        refine JL.val (yl_move rfl) rfl ?_
        refine JL.val (yl_move rfl) rfl ?_
        refine JL.val (yl_nilCheckAt rfl (Rd.some g_0 (j := 0) rfl)) rfl ?_
        refine JL.val (yl_fieldAt Go.Proofs.Try.underlying28 rfl i2 i2n rfl (Rd.some g_0 (j := 0) rfl)) rfl ?_
        refine JL.val (yl_load1 Go.Proofs.Try.underlying2 rfl rfl (fun w hC => rd_arg g_0 hC) rfl) rfl ?_
        refine JL.val (yl_mul rfl rfl) rfl ?_
        refine JL.val (yl_leq rfl rfl) rfl ?_
        refine JL.nil ?_
        refine JE.weak (env' := [(0, ptrAt b_0 0), (4, .slice a3 x2.length x2.length), (6, .slice a121 x120.length cp122), (16, .int .i64 x109), (17, .int .i64 x119), (144, .bool (decide (x119 ≤ (w64 (2 * q0.W)))))]) (es' := [rowT 2 eI64 a3 x2.length x2.length b2.1, rowT 61 eHd a121 x120.length cp122 hs123, innO 35 eSPoint none hs123 x120]) [0, 1, 2] ?_ ⟨rfl, rfl, rfl, rfl, rfl, rfl, trivial⟩ (by decide) rfl
        refine JE.code ?_
        rcases cond_some hres with ⟨hb, hres⟩ | ⟨hb, hres⟩
        · refine JX.condT rfl hb ?_
          refine JX.skip ?_
          refine JE.code ?_
          refine JX.seq ?_
          refine JX.block ?_
          refine JX.seq ?_
          refine JX.region ?_
          refine JL.val (yl_move rfl) rfl ?_
          refine JL.val (yl_move rfl) rfl ?_
          refine JL.val (yl_build rfl (fun w => bld35_0_1 x119 x109 w)) rfl ?_
          refine JL.eff (ef_alloc i35 i35z rfl) rfl ?_
          rintro _ _ ⟨g125, rfl, rfl⟩
          refine JL.eff (ef_store_box (i := 3) (v := .agg #[.int .i64 x119, .int .i64 x109]) i35 rfl rfl rfl (i35s).symm (Nat.le_of_ble_eq_true rfl) (by simp [Value.cells, Value.oneCell'])) rfl ?_
          rintro _ _ rfl
          refine JL.nil ?_
          refine JE.weak (env' := [(0, ptrAt b_0 0), (4, .slice a3 x2.length x2.length), (6, .slice a121 x120.length cp122), (16, .int .i64 x109), (17, .int .i64 x119), (18, ptrAt (some ⟨g125, 0, none⟩) 0)]) (es' := [rowT 2 eI64 a3 x2.length x2.length b2.1, rowT 61 eHd a121 x120.length cp122 hs123, innO 35 eSPoint none hs123 x120, boxO 35 g125 [.int .i64 x119, .int .i64 x109]]) [0, 1, 2, 3] ?_ ⟨rfl, rfl, rfl, rfl, rfl, rfl, trivial⟩ (by decide) rfl
          refine JE.code ?_
          refine JX.seq ?_
          refine JX.region ?_
          refine JL.val (yl_move rfl) rfl ?_
          refine JL.val (yl_move rfl) rfl ?_
          refine JL.val (yl_loadn Go.Proofs.Try.underlying35 rfl i35 rfl (fun w hC => rd_box hC 3 rfl) rfl (i35s).symm i35p) rfl ?_
          obtain ⟨x127, hx127, hres⟩ := bind_some hres
          refine JL.eff (ef_call (vs := [ptrAt b_0 0, .agg #[.int .i64 x119, .int .i64 x109]]) (T := T85 x127) Go.Proofs.Try.func85 rfl (by kernel_rfl) rfl (fun w hC => c85 (q1 := SPoint.mk x119 x109) (RdAt.of0 (rd_arg g_0 hC)) (rd_arg g_0_2 hC) rfl k_0_2 hx127)) rfl ?_
          rintro _ _ ⟨_, ⟨rfl, rfl⟩, rfl⟩
          obtain ⟨x128, hx128, hres⟩ := bind_some hres
          refine JL.val (yl_idxT Go.Proofs.Try.underlying22 i2 i2s rfl rfl hx128 l100 (fun w hC => rd_row hC 0 rfl)) rfl ?_
          refine JL.val (yl_loadT0 Go.Proofs.Try.underlying2 rfl rfl hx128 (fun w hC => rd_row hC 0 rfl) rfl) rfl ?_
          refine JL.val (yl_assign rfl) rfl ?_
          refine JL.nil ?_
          refine JE.weak (env' := [(0, ptrAt b_0 0), (4, .slice a3 x2.length x2.length), (6, .slice a121 x120.length cp122), (16, .int .i64 x109), (17, .int .i64 x119), (18, ptrAt (some ⟨g125, 0, none⟩) 0), (19, .int .i64 x128)]) (es' := [rowT 2 eI64 a3 x2.length x2.length b2.1, rowT 61 eHd a121 x120.length cp122 hs123, innO 35 eSPoint none hs123 x120, boxO 35 g125 [.int .i64 x119, .int .i64 x109]]) [0, 1, 2, 3] ?_ ⟨rfl, rfl, rfl, rfl, rfl, rfl, rfl, trivial⟩ (by decide) rfl
          refine JE.code ?_
          refine JX.drawH [(0, .pure), (1, .pure), (2, .pure), (3, .pure), (4, .pure), (5, .read0), (6, .read), (7, .must), (8, .must), (9, .must), (10, .must)] [8, 10] [1, 2] [0, 3] [rowT 61 eHd a121 x120.length cp122 hs123, innO 35 eSPoint none hs123 x120] [rowT 2 eI64 a3 x2.length x2.length b2.1, boxO 35 g125 [.int .i64 x119, .int .i64 x109]] mixedP (by kernel_rfl) (by kernel_rfl) (by decide) rfl rfl ?_
          intro wrr129 Nr129 hFr129
          refine JH.pure rfl (yl_move rfl) rfl ?_
          refine JH.pure rfl (yl_move rfl) rfl ?_
          refine JH.pure rfl (yl_move rfl) rfl ?_
          refine JH.pure rfl (yl_move rfl) rfl ?_
          obtain ⟨x130, hx130, hres⟩ := bind_some hres
          obtain ⟨ha131, hc132, hhx130⟩ := Inn.sub hi124 hx130
          refine JH.pure rfl (yl_idxQ Go.Proofs.Try.underlying40 i61 i61s rfl rfl hhx130 (Inn.len hi124) (rd_row hFr129.cl 1 rfl) (Inn.len hi124)) rfl ?_
          refine JH.read0 rfl (yl_loadT0 (z := ⟨ha131, x130.length, hc132⟩) Go.Proofs.Try.underlying61 rfl rfl hhx130 (fun w hw => (rd_row hFr129.cl 1 rfl).bw hw) rfl) rfl ?_
          refine JH.read rfl (yl_loadn Go.Proofs.Try.underlying35 rfl i35 rfl (fun w hw => hFr129.box 3 rfl rfl hw) rfl (i35s).symm i35p) rfl ?_
          refine JH.must rfl (ef_buildSlice (E := 35) (k := eSPoint.k) (us := eSPoint.fl [SPoint.mk x119 x109]) rfl (fun w => bsl61_1 x119 x109 w) rfl (by decide)) rfl rfl ?_
          rintro _ _ ⟨a134, rfl, rfl⟩
          refine JH.focus (es' := [rowT 61 eHd a121 x120.length cp122 hs123, rowT 35 eSPoint a134 1 1 [SPoint.mk x119 x109]]) [0, 2, 1] (by decide) rfl hhx130 hx130 ?_
          obtain ⟨x137, hx137, hres⟩ := bind_some hres
          refine JH.must rfl (ef_appendT (ix := 3) Go.Proofs.Try.underlying61 i35 i35z i35s rfl i35b0 i35b1 rfl rfl rfl rfl rfl (fun w hC => rd_row hC 1 rfl) hx137) rfl rfl ?_
          rintro _ _ ⟨a138, cp139, rfl, rfl⟩
          obtain ⟨x140, hx140, hres⟩ := bind_some hres
          obtain ⟨ha141, hc142, hhx140⟩ := Inn.sub hi124 hx140
          refine JH.mval rfl (yl_idxQ Go.Proofs.Try.underlying40 i61 i61s rfl rfl hhx140 (Inn.len hi124) (rd_row hFr129.cl 1 rfl) (Inn.len hi124)) rfl ?_
          refine JH.must rfl (ef_storeT (ix := 0) (u := ⟨a138, x137.length, cp139⟩) i61 i61s rfl rfl rfl hhx140 rfl) rfl rfl ?_
          rintro _ _ rfl
          refine JH.unfocus (es' := [rowT 61 eHd a121 x120.length cp122 (hs123.set (x128).toNat ⟨a138, x137.length, cp139⟩), rowT 35 eSPoint a134 1 1 [SPoint.mk x119 x109]]) [0, 1, 2, 3] (by decide) rfl hhx140 ?_
          refine JH.nil ?_
          refine JE.weak (env' := [(0, ptrAt b_0 0), (4, .slice a3 x2.length x2.length), (6, .slice a121 x120.length cp122), (16, .int .i64 x109), (17, .int .i64 x119)]) (es' := [rowT 2 eI64 a3 x2.length x2.length b2.1, rowT 61 eHd a121 x120.length cp122 (hs123.set (x128).toNat ⟨a138, x137.length, cp139⟩), innO 35 eSPoint none (hs123.set (x128).toNat ⟨a138, x137.length, cp139⟩) (x120.set (x128).toNat x137)]) [0, 2, 4] ?_ ⟨rfl, rfl, rfl, rfl, rfl, trivial⟩ (by decide) rfl
          refine JE.code ?_
          refine JX.region ?_
          refine JL.val (yl_move rfl) rfl ?_
          refine JL.val (yl_add rfl rfl) rfl ?_
          refine JL.val (yl_assign rfl) rfl ?_
          refine JL.nil ?_
          refine JE.cont hres ?_
          exact fun a w h => ⟨a121, cp122, hs123.set (x128).toNat ⟨a138, x137.length, cp139⟩, (Inn.set hi124 rfl), h.weak ⟨rfl, rfl, (by first | rfl | (simp only [List.length_set, l100]; rfl) | simp only [List.length_set, l100]), rfl, rfl, trivial⟩ [0, 1, 2] (by decide) (by first | rfl | (simp only [List.length_set, l100]; rfl) | simp only [List.length_set, l100])⟩
        · refine JX.condF rfl hb ?_
          refine JX.exit ?_
          refine JE.qb rfl ?_
          obtain ⟨b7, hb7⟩ : ∃ b : List (List SPoint), b = x120 := ⟨_, rfl⟩
          have hy7 : b7 = y7 := by rw [hb7]; exact hox7 _ (Option.some.inj hres).symm
          have hres := hresO7
          rw [← hy7] at hres
          have hi146 : Inn hs123 b7 := by subst hb7; exact hi124
          refine JE.weak (env' := [(0, ptrAt b_0 0), (4, .slice a3 x2.length x2.length), (6, .slice a121 b7.length cp122), (16, .int .i64 x109)]) (es' := [rowT 2 eI64 a3 x2.length x2.length b2.1, rowT 61 eHd a121 b7.length cp122 hs123, innO 35 eSPoint none hs123 b7]) [0, 1, 2] ?_ ⟨(by subst hb7; rfl), (by subst hb7; rfl), (by subst hb7; first | rfl | (simp only [List.length_set, l100]; rfl) | simp only [List.length_set, l100]), (by subst hb7; rfl), trivial⟩ (by decide) (by subst hb7; first | rfl | (simp only [List.length_set, l100]; rfl) | simp only [List.length_set, l100])
          refine JE.code ?_
          refine JX.region ?_
          refine JL.val (yl_move rfl) rfl ?_
          refine JL.val (yl_add rfl rfl) rfl ?_
          refine JL.val (yl_assign rfl) rfl ?_
          refine JL.nil ?_
          refine JE.cont hres ?_
          exact fun a w h => ⟨a121, cp122, hs123, hi146, h.weak ⟨rfl, rfl, (by first | rfl | (simp only [List.length_set, l100]; rfl) | simp only [List.length_set, l100]), rfl, trivial⟩ [0, 1, 2] (by decide) (by first | rfl | (simp only [List.length_set, l100]; rfl) | simp only [List.length_set, l100])⟩
      · refine JX.condF rfl hb ?_
        refine JX.exit ?_
        refine JE.qb rfl ?_
        obtain ⟨b6, hb6⟩ : ∃ b : List (List SPoint), b = x110 := ⟨_, rfl⟩
        have hy6 : b6 = y6 := by rw [hb6]; exact hox6 _ (Option.some.inj hres).symm
        have hres := hresO6
        rw [← hy6] at hres
        have hi150 : Inn hs113 b6 := by subst hb6; exact hi114
        refine JE.weak (env' := [(4, .slice a3 x2.length x2.length), (6, .slice a111 b6.length cp112)]) (es' := [rowT 2 eI64 a3 x2.length x2.length b2.1, rowT 61 eHd a111 b6.length cp112 hs113, innO 35 eSPoint none hs113 b6]) [0, 1, 2] ?_ ⟨(by subst hb6; rfl), (by subst hb6; first | rfl | (simp only [List.length_set, l100]; rfl) | simp only [List.length_set, l100]), trivial⟩ (by decide) (by subst hb6; first | rfl | (simp only [List.length_set, l100]; rfl) | simp only [List.length_set, l100])
        refine JE.code ?_
        refine JX.seq ?_
        refine JX.region ?_
        refine JL.val (yl_move rfl) rfl ?_
        refine JL.val (yl_move rfl) rfl ?_
        refine JL.val (yl_assign rfl) rfl ?_
        refine JL.val (yl_assign rfl) rfl ?_
        refine JL.nil ?_
        refine JE.weak (env' := [(2, .slice a111 b6.length cp112), (3, .slice a3 x2.length x2.length)]) (es' := [rowT 61 eHd a111 b6.length cp112 hs113, innO 35 eSPoint none hs113 b6, rowT 2 eI64 a3 x2.length x2.length b2.1]) [1, 2, 0] ?_ ⟨rfl, rfl, trivial⟩ (by decide) rfl
        refine JE.code ?_
        refine JX.ret ?_
        obtain rfl := Option.some.inj hres
        refine JE.ret (rs := [.tmp 2, .tmp 3]) (vs := [.slice a111 b6.length cp112, .slice a3 x2.length x2.length]) rfl ⟨rfl, rfl, trivial⟩ ?_
        exact fun w' hb hs => ⟨_, _, ⟨a111, b6.length, cp112, hs113, rfl, hi150, a3, x2.length, x2.length, l100, rfl, rfl⟩, rfl, hb, hs.sel [0, 1, 2] _ (by decide) rfl⟩

/- spec.l21Code -/
def sh89 (q0 : SPanel) (q1 : Int) : Option (List (List SPoint) × List Int × Int) := Option.bind (sh82 q0) fun x1 => bif !x1 then (some (([] : List (List SPoint)), ([] : List Int), 1)) else (Option.bind (sh83 q0) fun x5 => Option.bind (sh127 q1 0 (w64 (((x5.1.length : Nat) : Int) - 1))) fun x15 => bif !x15 then (some (([] : List (List SPoint)), ([] : List Int), 2)) else (some (x5.1, x5.2, 0)))
def T89 (r : List (List SPoint) × List Int × Int) (v : Value) (rs : List Own) : Prop := ∃ (a0 : Option Addr) (n0 c0 : Nat) (h0 : List Hd), r.1.length = n0 ∧ Inn h0 r.1 ∧ ∃ (a1 : Option Addr) (n1 c1 : Nat), r.2.1.length = n1 ∧ v = rets [.slice a0 n0 c0, .slice a1 n1 c1, .int .i64 r.2.2] ∧ rs = [rowT 61 eHd a0 n0 c0 h0, innO 35 eSPoint none h0 r.1, rowT 2 eI64 a1 n1 c1 r.2.1]
set_option maxRecDepth 100000 in
theorem c89 {w : World} {q0 : SPanel} {a_0 : Option Addr} {n_0 : Nat} {a_0_2 : Option Addr} {n_0_2 c_0_2 : Nat} (g_0 : RdAt w a_0 n_0 [.int .i64 q0.W, .int .i64 q0.H, .slice a_0_2 n_0_2 c_0_2]) (g_0_2 : Rd w a_0_2 (eI64.fl q0.Breaks)) (l_0_2 : q0.Breaks.length = n_0_2) (k_0_2 : n_0_2 ≤ c_0_2) {q1 : Int} {r : List (List SPoint) × List Int × Int} (hres : sh89 q0 q1 = some r) : Calls Go.Proofs.Try.prog 89 [ptrAt a_0 n_0, .int .i64 q1].toArray w (Ret w (T89 r)) := by
  subst l_0_2
  obtain ⟨b_0, e_0, g_0⟩ := g_0.norm0
  rw [e_0]
  unfold sh89 at hres
  refine calls_of (n := 25) (M := []) (es := []) Go.Proofs.Try.func89 rfl rfl rfl (Sep.nil _ _ _) ?_
  refine JX.seq ?_
  refine JX.region ?_
  refine JL.val (yl_assign rfl) rfl ?_
  refine JL.val (yl_assign rfl) rfl ?_
  refine JL.val (yl_assign rfl) rfl ?_
  refine JL.nil ?_
  refine JE.code ?_
  refine JX.seq ?_
  refine JX.seq ?_
  refine JX.region ?_
  refine JL.val (yl_move rfl) rfl ?_
  obtain ⟨x1, hx1, hres⟩ := bind_some hres
  refine JL.eff (ef_call (T := T82 x1) Go.Proofs.Try.func82 rfl (by kernel_rfl) rfl (fun w hC => c82 (RdAt.of0 (rd_arg g_0 hC)) (rd_arg g_0_2 hC) rfl k_0_2 hx1)) rfl ?_
  rintro _ _ ⟨_, ⟨rfl, rfl⟩, rfl⟩
  refine JL.val (yl_not rfl) rfl ?_
  refine JL.nil ?_
  refine JE.code ?_
  rcases cond_some hres with ⟨hb, hres⟩ | ⟨hb, hres⟩
  · refine JX.condT rfl hb ?_
    refine JX.seq ?_
    refine JX.region ?_
    refine JL.val (yl_assign rfl) rfl ?_
    refine JL.val (yl_assign rfl) rfl ?_
    refine JL.val (yl_assign rfl) rfl ?_
    refine JL.nil ?_
    refine JE.code ?_
    refine JX.ret ?_
    refine JE.nilrow 61 eHd ?_
    refine JE.nilinn 35 eSPoint ?_
    refine JE.nilrow 2 eI64 ?_
    obtain rfl := Option.some.inj hres
    refine JE.ret (rs := [.tmp 4, .tmp 5, .tmp 6]) (vs := [.slice none 0 0, .slice none 0 0, .int .i64 1]) rfl ⟨rfl, rfl, rfl, trivial⟩ ?_
    exact fun w' hb hs => ⟨_, _, ⟨none, 0, 0, ([] : List Hd), ((Inn.len (Inn.nil (T := SPoint))).symm.trans rfl), (Inn.nil (T := SPoint)), none, 0, 0, rfl, rfl, rfl⟩, rfl, hb, hs.sel [0, 1, 2] _ (by decide) rfl⟩
  · refine JX.condF rfl hb ?_
    refine JX.skip ?_
    refine JE.code ?_
    refine JX.seq ?_
    refine JX.region ?_
    refine JL.val (yl_move rfl) rfl ?_
    obtain ⟨x5, hx5, hres⟩ := bind_some hres
    refine JL.eff (ef_call (T := T83 x5) Go.Proofs.Try.func83 rfl (by kernel_rfl) rfl (fun w hC => c83 (RdAt.of0 (rd_arg g_0 hC)) (rd_arg g_0_2 hC) rfl k_0_2 hx5)) rfl ?_
    rintro _ _ ⟨_, ⟨a6, _, cp7, hs9, rfl, hi10, a12, _, cp13, rfl, rfl, rfl⟩, rfl⟩
    refine JL.val (yl_move rfl) rfl ?_
    refine JL.val (yl_extract rfl rfl) rfl ?_
    refine JL.val (yl_extract rfl rfl) rfl ?_
    refine JL.val (yl_assign rfl) rfl ?_
    refine JL.val (yl_assign rfl) rfl ?_
    refine JL.nil ?_
    refine JE.weak (env' := [(1, .int .i64 q1), (7, .slice a6 x5.1.length cp7), (8, .slice a12 x5.2.length cp13)]) (es' := [rowT 61 eHd a6 x5.1.length cp7 hs9, innO 35 eSPoint none hs9 x5.1, rowT 2 eI64 a12 x5.2.length cp13 x5.2]) [0, 1, 2] ?_ ⟨rfl, rfl, rfl, trivial⟩ (by decide) rfl
    refine JE.code ?_
    refine JX.seq ?_
    refine JX.seq ?_
    refine JX.region ?_
    refine JL.val (yl_move rfl) rfl ?_
    refine JL.val (yl_move rfl) rfl ?_
    refine JL.val (yl_len_slice Go.Proofs.Try.underlying40 rfl) rfl ?_
    refine JL.val (yl_sub rfl rfl) rfl ?_
    obtain ⟨x15, hx15, hres⟩ := bind_some hres
    refine JL.eff (ef_call (T := T127 x15) Go.Proofs.Try.func127 rfl (by kernel_rfl) rfl (fun w hC => c127  hx15)) rfl ?_
    rintro _ _ ⟨_, ⟨rfl, rfl⟩, rfl⟩
    refine JL.val (yl_not rfl) rfl ?_
    refine JL.nil ?_
    refine JE.weak (env' := [(7, .slice a6 x5.1.length cp7), (8, .slice a12 x5.2.length cp13), (22, .bool !x15)]) (es' := [rowT 61 eHd a6 x5.1.length cp7 hs9, innO 35 eSPoint none hs9 x5.1, rowT 2 eI64 a12 x5.2.length cp13 x5.2]) [0, 1, 2] ?_ ⟨rfl, rfl, rfl, trivial⟩ (by decide) rfl
    refine JE.code ?_
    rcases cond_some hres with ⟨hb, hres⟩ | ⟨hb, hres⟩
    · refine JX.condT rfl hb ?_
      refine JX.seq ?_
      refine JX.region ?_
      refine JL.val (yl_assign rfl) rfl ?_
      refine JL.val (yl_assign rfl) rfl ?_
      refine JL.val (yl_assign rfl) rfl ?_
      refine JL.nil ?_
      refine JE.weak (env' := [(4, .slice none 0 0), (5, .slice none 0 0), (6, .int .i64 2)]) (es' := []) [] ?_ ⟨rfl, rfl, rfl, trivial⟩ (by decide) rfl
      refine JE.code ?_
      refine JX.ret ?_
      refine JE.nilrow 61 eHd ?_
      refine JE.nilinn 35 eSPoint ?_
      refine JE.nilrow 2 eI64 ?_
      obtain rfl := Option.some.inj hres
      refine JE.ret (rs := [.tmp 4, .tmp 5, .tmp 6]) (vs := [.slice none 0 0, .slice none 0 0, .int .i64 2]) rfl ⟨rfl, rfl, rfl, trivial⟩ ?_
      exact fun w' hb hs => ⟨_, _, ⟨none, 0, 0, ([] : List Hd), ((Inn.len (Inn.nil (T := SPoint))).symm.trans rfl), (Inn.nil (T := SPoint)), none, 0, 0, rfl, rfl, rfl⟩, rfl, hb, hs.sel [0, 1, 2] _ (by decide) rfl⟩
    · refine JX.condF rfl hb ?_
      refine JX.skip ?_
      refine JE.code ?_
      refine JX.seq ?_
      refine JX.region ?_
      refine JL.val (yl_move rfl) rfl ?_
      refine JL.val (yl_move rfl) rfl ?_
      refine JL.val (yl_assign rfl) rfl ?_
      refine JL.val (yl_assign rfl) rfl ?_
      refine JL.val (yl_assign rfl) rfl ?_
      refine JL.nil ?_
      refine JE.weak (env' := [(4, .slice a6 x5.1.length cp7), (5, .slice a12 x5.2.length cp13), (6, .int .i64 0)]) (es' := [rowT 61 eHd a6 x5.1.length cp7 hs9, innO 35 eSPoint none hs9 x5.1, rowT 2 eI64 a12 x5.2.length cp13 x5.2]) [0, 1, 2] ?_ ⟨rfl, rfl, rfl, trivial⟩ (by decide) rfl
      refine JE.code ?_
      refine JX.ret ?_
      obtain rfl := Option.some.inj hres
      refine JE.ret (rs := [.tmp 4, .tmp 5, .tmp 6]) (vs := [.slice a6 x5.1.length cp7, .slice a12 x5.2.length cp13, .int .i64 0]) rfl ⟨rfl, rfl, rfl, trivial⟩ ?_
      exact fun w' hb hs => ⟨_, _, ⟨a6, x5.1.length, cp7, hs9, rfl, hi10, a12, x5.2.length, cp13, rfl, rfl, rfl⟩, rfl, hb, hs.sel [0, 1, 2] _ (by decide) rfl⟩

end Go.Sh
