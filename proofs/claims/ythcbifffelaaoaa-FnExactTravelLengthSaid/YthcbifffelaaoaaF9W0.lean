/- Walks through functions that the law reaches, printed by program. -/
import Derived.Test.YthcbifffelaaoaaF9T
namespace Go.Sh
open Go Go.RowKit
/- laws.szToolMoveS -/
def sh32 (q0 : List SToolMove) (q1 : Int) : Option (Int) := bif decide ((w64 (q1 - (q0.length : Int))) < 0) then (some (-1)) else (some (w64 (q1 - (q0.length : Int))))
def T32 (r : Int) (v : Value) (rs : List Own) : Prop := v = rets [.int .i64 r] ∧ rs = []
set_option maxRecDepth 100000 in
theorem c32 {w : World} {q0 : List SToolMove} {a_0 : Option Addr} {n_0 c_0 : Nat} (g_0 : Rd w a_0 (eSToolMove.fl q0)) (l_0 : q0.length = n_0) {q1 : Int} {r : Int} (hres : sh32 q0 q1 = some r) : Calls Go.Proofs.Try.prog 32 [.slice a_0 n_0 c_0, .int .i64 q1].toArray w (Ret w (T32 r)) := by
  subst l_0
  unfold sh32 at hres
  refine calls_of (n := 12) (M := []) (es := []) Go.Proofs.Try.func32 rfl rfl rfl (Sep.nil _ _ _) ?_
  refine JX.seq ?_
  refine JX.region ?_
  refine JL.val (yl_assign rfl) rfl ?_
  refine JL.nil ?_
  refine JE.code ?_
  refine JX.seq ?_
  refine JX.region ?_
  refine JL.val (yl_move rfl) rfl ?_
  refine JL.val (yl_move rfl) rfl ?_
  refine JL.val (yl_len_slice Go.Proofs.Try.underlying39 rfl) rfl ?_
  refine JL.val (yl_sub rfl rfl) rfl ?_
  refine JL.val (yl_assign rfl) rfl ?_
  refine JL.nil ?_
  refine JE.weak (env' := [(1, .int .i64 (w64 (q1 - (q0.length : Int))))]) (es' := []) [] ?_ ⟨rfl, trivial⟩ (by decide) rfl
  refine JE.code ?_
  refine JX.seq ?_
  refine JX.seq ?_
  refine JX.region ?_
  refine JL.val (yl_move rfl) rfl ?_
  refine JL.val (yl_lss rfl rfl) rfl ?_
  refine JL.nil ?_
  refine JE.code ?_
  rcases cond_some hres with ⟨hb, hres⟩ | ⟨hb, hres⟩
  · refine JX.condT rfl hb ?_
    refine JX.seq ?_
    refine JX.region ?_
    refine JL.val (yl_assign rfl) rfl ?_
    refine JL.nil ?_
    refine JE.code ?_
    refine JX.ret ?_
    obtain rfl := Option.some.inj hres
    refine JE.ret (rs := [.tmp 4]) (vs := [.int .i64 (-1)]) rfl ⟨rfl, trivial⟩ ?_
    exact fun w' hb hs => ⟨_, _, ⟨rfl, rfl⟩, rfl, hb, hs.sel [] _ (by decide) rfl⟩
  · refine JX.condF rfl hb ?_
    refine JX.skip ?_
    refine JE.code ?_
    refine JX.seq ?_
    refine JX.region ?_
    refine JL.val (yl_move rfl) rfl ?_
    refine JL.val (yl_assign rfl) rfl ?_
    refine JL.nil ?_
    refine JE.code ?_
    refine JX.ret ?_
    obtain rfl := Option.some.inj hres
    refine JE.ret (rs := [.tmp 4]) (vs := [.int .i64 (w64 (q1 - (q0.length : Int)))]) rfl ⟨rfl, trivial⟩ ?_
    exact fun w' hb hs => ⟨_, _, ⟨rfl, rfl⟩, rfl, hb, hs.sel [] _ (by decide) rfl⟩

/- laws.toToolMove -/
def sh61 (q0 : SToolMove) : Option (SToolMove) := some q0
def T61 (r : SToolMove) (v : Value) (rs : List Own) : Prop := v = rets [.agg #[.int .i64 r.X, .int .i64 r.Y, .int .i64 r.Z]] ∧ rs = []
set_option maxRecDepth 100000 in
theorem c61 {w : World} {q0 : SToolMove} {r : SToolMove} (hres : sh61 q0 = some r) : Calls Go.Proofs.Try.prog 61 [.agg #[.int .i64 q0.X, .int .i64 q0.Y, .int .i64 q0.Z]].toArray w (Ret w (T61 r)) := by
  unfold sh61 at hres
  refine calls_of (n := 14) (M := []) (es := []) Go.Proofs.Try.func61 rfl rfl rfl (Sep.nil _ _ _) ?_
  refine JX.seq ?_
  refine JX.region ?_
  refine JL.eff (ef_box rfl rfl) rfl ?_
  rintro _ _ ⟨g1, rfl, rfl⟩
  refine JL.eff (ef_alloc i62 i62z rfl) rfl ?_
  rintro _ _ ⟨g3, rfl, rfl⟩
  refine JL.nil ?_
  refine JE.code ?_
  refine JX.seq ?_
  refine JX.region ?_
  refine JL.eff (ef_alloc i62 i62z rfl) rfl ?_
  rintro _ _ ⟨g5, rfl, rfl⟩
  refine JL.nil ?_
  refine JE.code ?_
  refine JX.seq ?_
  refine JX.region ?_
  refine JL.val (yl_fieldAt (a := some _) Go.Proofs.Try.underlying64 rfl i2 i2n rfl rfl) rfl ?_
  refine JL.val (yl_load1 Go.Proofs.Try.underlying2 rfl rfl (fun w hC => rd_box hC 0 rfl) rfl) rfl ?_
  refine JL.val (yl_fieldAt (a := some _) Go.Proofs.Try.underlying62 rfl i2 i2n rfl rfl) rfl ?_
  refine JL.eff (ef_store_box (i := 2) (v := .int .i64 q0.X) i2 rfl rfl rfl (i2s).symm (Nat.le_of_ble_eq_true rfl) (by simp [Value.cells, Value.oneCell'])) rfl ?_
  rintro _ _ rfl
  refine JL.nil ?_
  refine JE.weak (env' := [(1, ptrAt (some ⟨g1, 0, none⟩) 0), (2, ptrAt (some ⟨g3, 0, none⟩) 0), (3, ptrAt (some ⟨g5, 0, none⟩) 0)]) (es' := [boxO 64 g1 [.int .i64 q0.X, .int .i64 q0.Y, .int .i64 q0.Z], boxO 62 g3 [.int .i64 0, .int .i64 0, .int .i64 0], boxO 62 g5 [.int .i64 q0.X, .int .i64 0, .int .i64 0]]) [0, 1, 2] ?_ ⟨rfl, rfl, rfl, trivial⟩ (by decide) rfl
  refine JE.code ?_
  refine JX.seq ?_
  refine JX.region ?_
  refine JL.val (yl_fieldAt (a := some _) Go.Proofs.Try.underlying64 rfl i2 i2n rfl rfl) rfl ?_
  refine JL.val (yl_load1 Go.Proofs.Try.underlying2 rfl rfl (fun w hC => rd_box hC 0 rfl) rfl) rfl ?_
  refine JL.val (yl_fieldAt (a := some _) Go.Proofs.Try.underlying62 rfl i2 i2n rfl rfl) rfl ?_
  refine JL.eff (ef_store_box (i := 2) (v := .int .i64 q0.Y) i2 rfl rfl rfl (i2s).symm (Nat.le_of_ble_eq_true rfl) (by simp [Value.cells, Value.oneCell'])) rfl ?_
  rintro _ _ rfl
  refine JL.nil ?_
  refine JE.weak (env' := [(1, ptrAt (some ⟨g1, 0, none⟩) 0), (2, ptrAt (some ⟨g3, 0, none⟩) 0), (3, ptrAt (some ⟨g5, 0, none⟩) 0)]) (es' := [boxO 64 g1 [.int .i64 q0.X, .int .i64 q0.Y, .int .i64 q0.Z], boxO 62 g3 [.int .i64 0, .int .i64 0, .int .i64 0], boxO 62 g5 [.int .i64 q0.X, .int .i64 q0.Y, .int .i64 0]]) [0, 1, 2] ?_ ⟨rfl, rfl, rfl, trivial⟩ (by decide) rfl
  refine JE.code ?_
  refine JX.seq ?_
  refine JX.region ?_
  refine JL.val (yl_fieldAt (a := some _) Go.Proofs.Try.underlying64 rfl i2 i2n rfl rfl) rfl ?_
  refine JL.val (yl_load1 Go.Proofs.Try.underlying2 rfl rfl (fun w hC => rd_box hC 0 rfl) rfl) rfl ?_
  refine JL.val (yl_fieldAt (a := some _) Go.Proofs.Try.underlying62 rfl i2 i2n rfl rfl) rfl ?_
  refine JL.eff (ef_store_box (i := 2) (v := .int .i64 q0.Z) i2 rfl rfl rfl (i2s).symm (Nat.le_of_ble_eq_true rfl) (by simp [Value.cells, Value.oneCell'])) rfl ?_
  rintro _ _ rfl
  refine JL.nil ?_
  refine JE.weak (env' := [(2, ptrAt (some ⟨g3, 0, none⟩) 0), (3, ptrAt (some ⟨g5, 0, none⟩) 0)]) (es' := [boxO 62 g3 [.int .i64 0, .int .i64 0, .int .i64 0], boxO 62 g5 [.int .i64 q0.X, .int .i64 q0.Y, .int .i64 q0.Z]]) [1, 2] ?_ ⟨rfl, rfl, trivial⟩ (by decide) rfl
  refine JE.code ?_
  refine JX.seq ?_
  refine JX.region ?_
  refine JL.val (yl_loadn Go.Proofs.Try.underlying62 rfl i62 rfl (fun w hC => rd_box hC 1 rfl) rfl (i62s).symm i62p) rfl ?_
  refine JL.eff (ef_store_box (i := 0) (v := .agg #[.int .i64 q0.X, .int .i64 q0.Y, .int .i64 q0.Z]) i62 rfl rfl rfl (i62s).symm (Nat.le_of_ble_eq_true rfl) (by simp [Value.cells, Value.oneCell'])) rfl ?_
  rintro _ _ rfl
  refine JL.nil ?_
  refine JE.weak (env' := [(2, ptrAt (some ⟨g3, 0, none⟩) 0)]) (es' := [boxO 62 g3 [.int .i64 q0.X, .int .i64 q0.Y, .int .i64 q0.Z]]) [0] ?_ ⟨rfl, trivial⟩ (by decide) rfl
  refine JE.code ?_
  refine JX.ret ?_
  obtain rfl := Option.some.inj hres
  refine JE.ret (rs := [.cell 2 62]) (vs := [.agg #[.int .i64 q0.X, .int .i64 q0.Y, .int .i64 q0.Z]]) rfl ⟨rv_box 0 rfl rfl Go.Proofs.Try.underlying62 rfl i62 (i62s).symm, trivial⟩ ?_
  exact fun w' hb hs => ⟨_, _, ⟨rfl, rfl⟩, rfl, hb, hs.sel [] _ (by decide) rfl⟩

/- laws.toToolMoveS -/
def sh34_1 (q0 : List SToolMove) : (Int × List SToolMove) → Option ((Int × List SToolMove) ⊕ (List SToolMove))
  | (x5, x6) => bif decide (x5 < (q0.length : Int)) then (Option.bind (getI q0 x5) fun x8 => Option.bind (sh61 x8) fun x9 => Option.bind (getI x6 x5) fun x10 => some (.inl (w64 (x5 + 1), x6.set (x5).toNat x9))) else (some (.inr x6))
def sh34 (q0 : List SToolMove) : Option (List SToolMove) := Option.bind (mkL (q0.length : Int) (SToolMove.mk 0 0 0)) fun x1 => Option.bind (iter (sh34_1 q0) (0, x1)) fun b1 => (some b1)
def T34 (r : List SToolMove) (v : Value) (rs : List Own) : Prop := ∃ (a0 : Option Addr) (n0 c0 : Nat), r.length = n0 ∧ v = rets [.slice a0 n0 c0] ∧ rs = [rowT 62 eSToolMove a0 n0 c0 r]
set_option maxRecDepth 100000 in
theorem c34 {w : World} {q0 : List SToolMove} {a_0 : Option Addr} {n_0 c_0 : Nat} (g_0 : Rd w a_0 (eSToolMove.fl q0)) (l_0 : q0.length = n_0) {r : List SToolMove} (hres : sh34 q0 = some r) : Calls Go.Proofs.Try.prog 34 [.slice a_0 n_0 c_0].toArray w (Ret w (T34 r)) := by
  subst l_0
  unfold sh34 at hres
  refine calls_of (n := 23) (M := []) (es := []) Go.Proofs.Try.func34 rfl rfl rfl (Sep.nil _ _ _) ?_
  refine JX.seq ?_
  refine JX.region ?_
  refine JL.val (yl_assign rfl) rfl ?_
  refine JL.nil ?_
  refine JE.code ?_
  refine JX.seq ?_
  refine JX.region ?_
  refine JL.val (yl_move rfl) rfl ?_
  refine JL.val (yl_len_slice Go.Proofs.Try.underlying39 rfl) rfl ?_
  obtain ⟨x1, hx1, hres⟩ := bind_some hres
  refine JL.eff (ef_makeS (e := eSToolMove) Go.Proofs.Try.underlying42 i62 i62s i62z rfl i62b1 rfl rfl hx1) rfl ?_
  rintro _ _ ⟨a2, rfl, rfl⟩
  refine JL.val (yl_assign rfl) rfl ?_
  refine JL.nil ?_
  refine JE.weak (env' := [(0, .slice a_0 q0.length c_0), (3, .slice a2 x1.length x1.length)]) (es' := [rowT 62 eSToolMove a2 x1.length x1.length x1]) [0] ?_ ⟨rfl, rfl, trivial⟩ (by decide) rfl
  refine JE.code ?_
  refine JX.seq ?_
  refine JX.seq ?_
  refine JX.region ?_
  refine JL.val (yl_assign rfl) rfl ?_
  refine JL.nil ?_
  refine JE.code ?_
  refine JX.block ?_
  obtain ⟨y1, hy1, hresO1⟩ := bind_some hres
  refine JX.loop (I := fun (s1 : Int × List SToolMove) aa ww => ∃ (l4 : s1.2.length = x1.length), St w [] 23 [(0, .slice a_0 q0.length c_0), (3, .slice a2 x1.length x1.length), (4, .int .i64 s1.1)] [rowT 62 eSToolMove a2 x1.length x1.length s1.2] aa ww) (sh34_1 q0) hy1 (fun a w h => ⟨rfl, h.weak ⟨rfl, rfl, rfl, trivial⟩ [0] (by decide) rfl⟩) ?_
  rintro ⟨x5, x6⟩ o1 hres hox1 aa ww ⟨l7, hS⟩
  refine (?_ : JX Go.Proofs.Try.prog w [] 23 _ _ [(0, .slice a_0 q0.length c_0), (3, .slice a2 x1.length x1.length), (4, .int .i64 x5)] [rowT 62 eSToolMove a2 x1.length x1.length x6] _) aa ww hS
  clear hS
  simp only [sh34_1] at hres
  refine JX.seq ?_
  refine JX.seq ?_
  refine JX.region ?_
  refine JL.val (yl_move rfl) rfl ?_
  refine JL.val (yl_move rfl) rfl ?_
  refine JL.val (yl_len_slice Go.Proofs.Try.underlying39 rfl) rfl ?_
  refine JL.val (yl_lss rfl rfl) rfl ?_
  refine JL.nil ?_
  refine JE.weak (env' := [(0, .slice a_0 q0.length c_0), (3, .slice a2 x1.length x1.length), (4, .int .i64 x5), (11, .bool (decide (x5 < (q0.length : Int))))]) (es' := [rowT 62 eSToolMove a2 x1.length x1.length x6]) [0] ?_ ⟨rfl, rfl, rfl, rfl, trivial⟩ (by decide) rfl
  refine JE.code ?_
  rcases cond_some hres with ⟨hb, hres⟩ | ⟨hb, hres⟩
  · refine JX.condT rfl hb ?_
    refine JX.skip ?_
    refine JE.code ?_
    refine JX.seq ?_
    refine JX.block ?_
    refine JX.region ?_
    refine JL.val (yl_move rfl) rfl ?_
    refine JL.val (yl_move rfl) rfl ?_
    refine JL.val (yl_move rfl) rfl ?_
    refine JL.val (yl_move rfl) rfl ?_
    obtain ⟨x8, hx8, hres⟩ := bind_some hres
    refine JL.val (yl_idxT Go.Proofs.Try.underlying39 i64 i64s rfl rfl hx8 rfl (fun w hC => rd_arg g_0 hC)) rfl ?_
    refine JL.val (yl_loadTn Go.Proofs.Try.underlying64 rfl i64 i64s rfl hx8 (fun w hC => rd_arg g_0 hC)) rfl ?_
    obtain ⟨x9, hx9, hres⟩ := bind_some hres
    refine JL.eff (ef_call (vs := [.agg #[.int .i64 x8.X, .int .i64 x8.Y, .int .i64 x8.Z]]) (T := T61 x9) Go.Proofs.Try.func61 rfl (by kernel_rfl) rfl (fun w hC => c61 (q0 := x8) hx9)) rfl ?_
    rintro _ _ ⟨_, ⟨rfl, rfl⟩, rfl⟩
    obtain ⟨x10, hx10, hres⟩ := bind_some hres
    refine JL.val (yl_idxT Go.Proofs.Try.underlying42 i62 i62s rfl rfl hx10 l7 (fun w hC => rd_row hC 0 rfl)) rfl ?_
    refine JL.eff (ef_storeT (ix := 0) (u := x9) i62 i62s rfl rfl rfl hx10 rfl) rfl ?_
    rintro _ _ rfl
    refine JL.nil ?_
    refine JE.weak (env' := [(0, .slice a_0 q0.length c_0), (3, .slice a2 x1.length x1.length), (4, .int .i64 x5)]) (es' := [rowT 62 eSToolMove a2 x1.length x1.length (x6.set (x5).toNat x9)]) [0] ?_ ⟨rfl, rfl, rfl, trivial⟩ (by decide) rfl
    refine JE.code ?_
    refine JX.region ?_
    refine JL.val (yl_move rfl) rfl ?_
    refine JL.val (yl_add rfl rfl) rfl ?_
    refine JL.val (yl_assign rfl) rfl ?_
    refine JL.nil ?_
    refine JE.cont hres ?_
    exact fun a w h => ⟨(List.length_set.trans l7), h.weak ⟨rfl, rfl, rfl, trivial⟩ [0] (by decide) rfl⟩
  · refine JX.condF rfl hb ?_
    refine JX.exit ?_
    refine JE.qb rfl ?_
    obtain ⟨b1, hb1⟩ : ∃ b : List SToolMove, b = x6 := ⟨_, rfl⟩
    have hy1 : b1 = y1 := by rw [hb1]; exact hox1 _ (Option.some.inj hres).symm
    have hres := hresO1
    rw [← hy1] at hres
    have l11 : b1.length = x1.length := by subst hb1; exact l7
    refine JE.weak (env' := [(3, .slice a2 x1.length x1.length)]) (es' := [rowT 62 eSToolMove a2 x1.length x1.length b1]) [0] ?_ ⟨(by subst hb1; rfl), trivial⟩ (by decide) (by subst hb1; rfl)
    refine JE.code ?_
    refine JX.seq ?_
    refine JX.region ?_
    refine JL.val (yl_move rfl) rfl ?_
    refine JL.val (yl_assign rfl) rfl ?_
    refine JL.nil ?_
    refine JE.code ?_
    refine JX.ret ?_
    obtain rfl := Option.some.inj hres
    refine JE.ret (rs := [.tmp 2]) (vs := [.slice a2 x1.length x1.length]) rfl ⟨rfl, trivial⟩ ?_
    exact fun w' hb hs => ⟨_, _, ⟨a2, x1.length, x1.length, l11, rfl, rfl⟩, rfl, hb, hs.sel [0] _ (by decide) rfl⟩

/- laws.eqToolMove -/
def sh63 (q0 : SToolMove) (q1 : SToolMove) : Option (Bool) := bif q0.X != q1.X then (some false) else (bif q0.Y != q1.Y then (some false) else (bif q0.Z != q1.Z then (some false) else (some true)))
def T63 (r : Bool) (v : Value) (rs : List Own) : Prop := v = rets [.bool r] ∧ rs = []
set_option maxRecDepth 100000 in
theorem c63 {w : World} {q0 : SToolMove} {q1 : SToolMove} {r : Bool} (hres : sh63 q0 q1 = some r) : Calls Go.Proofs.Try.prog 63 [.agg #[.int .i64 q0.X, .int .i64 q0.Y, .int .i64 q0.Z], .agg #[.int .i64 q1.X, .int .i64 q1.Y, .int .i64 q1.Z]].toArray w (Ret w (T63 r)) := by
  unfold sh63 at hres
  refine calls_of (n := 20) (M := []) (es := []) Go.Proofs.Try.func63 rfl rfl rfl (Sep.nil _ _ _) ?_
  refine JX.seq ?_
  refine JX.region ?_
  refine JL.eff (ef_box rfl rfl) rfl ?_
  rintro _ _ ⟨g1, rfl, rfl⟩
  refine JL.eff (ef_box rfl rfl) rfl ?_
  rintro _ _ ⟨g3, rfl, rfl⟩
  refine JL.val (yl_assign rfl) rfl ?_
  refine JL.nil ?_
  refine JE.code ?_
  refine JX.seq ?_
  refine JX.seq ?_
  refine JX.region ?_
  refine JL.val (yl_fieldAt (a := some _) Go.Proofs.Try.underlying62 rfl i2 i2n rfl rfl) rfl ?_
  refine JL.val (yl_load1 Go.Proofs.Try.underlying2 rfl rfl (fun w hC => rd_box hC 0 rfl) rfl) rfl ?_
  refine JL.val (yl_fieldAt (a := some _) Go.Proofs.Try.underlying62 rfl i2 i2n rfl rfl) rfl ?_
  refine JL.val (yl_load1 Go.Proofs.Try.underlying2 rfl rfl (fun w hC => rd_box hC 1 rfl) rfl) rfl ?_
  refine JL.val (yl_neq rfl rfl) rfl ?_
  refine JL.nil ?_
  refine JE.weak (env' := [(2, ptrAt (some ⟨g1, 0, none⟩) 0), (3, ptrAt (some ⟨g3, 0, none⟩) 0), (9, .bool (q0.X != q1.X))]) (es' := [boxO 62 g1 [.int .i64 q0.X, .int .i64 q0.Y, .int .i64 q0.Z], boxO 62 g3 [.int .i64 q1.X, .int .i64 q1.Y, .int .i64 q1.Z]]) [0, 1] ?_ ⟨rfl, rfl, rfl, trivial⟩ (by decide) rfl
  refine JE.code ?_
  rcases cond_some hres with ⟨hb, hres⟩ | ⟨hb, hres⟩
  · refine JX.condT rfl hb ?_
    refine JX.seq ?_
    refine JX.region ?_
    refine JL.val (yl_assign rfl) rfl ?_
    refine JL.nil ?_
    refine JE.weak (env' := [(4, .bool false)]) (es' := []) [] ?_ ⟨rfl, trivial⟩ (by decide) rfl
    refine JE.code ?_
    refine JX.ret ?_
    obtain rfl := Option.some.inj hres
    refine JE.ret (rs := [.tmp 4]) (vs := [.bool false]) rfl ⟨rfl, trivial⟩ ?_
    exact fun w' hb hs => ⟨_, _, ⟨rfl, rfl⟩, rfl, hb, hs.sel [] _ (by decide) rfl⟩
  · refine JX.condF rfl hb ?_
    refine JX.skip ?_
    refine JE.code ?_
    refine JX.seq ?_
    refine JX.seq ?_
    refine JX.region ?_
    refine JL.val (yl_fieldAt (a := some _) Go.Proofs.Try.underlying62 rfl i2 i2n rfl rfl) rfl ?_
    refine JL.val (yl_load1 Go.Proofs.Try.underlying2 rfl rfl (fun w hC => rd_box hC 0 rfl) rfl) rfl ?_
    refine JL.val (yl_fieldAt (a := some _) Go.Proofs.Try.underlying62 rfl i2 i2n rfl rfl) rfl ?_
    refine JL.val (yl_load1 Go.Proofs.Try.underlying2 rfl rfl (fun w hC => rd_box hC 1 rfl) rfl) rfl ?_
    refine JL.val (yl_neq rfl rfl) rfl ?_
    refine JL.nil ?_
    refine JE.weak (env' := [(2, ptrAt (some ⟨g1, 0, none⟩) 0), (3, ptrAt (some ⟨g3, 0, none⟩) 0), (14, .bool (q0.Y != q1.Y))]) (es' := [boxO 62 g1 [.int .i64 q0.X, .int .i64 q0.Y, .int .i64 q0.Z], boxO 62 g3 [.int .i64 q1.X, .int .i64 q1.Y, .int .i64 q1.Z]]) [0, 1] ?_ ⟨rfl, rfl, rfl, trivial⟩ (by decide) rfl
    refine JE.code ?_
    rcases cond_some hres with ⟨hb, hres⟩ | ⟨hb, hres⟩
    · refine JX.condT rfl hb ?_
      refine JX.seq ?_
      refine JX.region ?_
      refine JL.val (yl_assign rfl) rfl ?_
      refine JL.nil ?_
      refine JE.weak (env' := [(4, .bool false)]) (es' := []) [] ?_ ⟨rfl, trivial⟩ (by decide) rfl
      refine JE.code ?_
      refine JX.ret ?_
      obtain rfl := Option.some.inj hres
      refine JE.ret (rs := [.tmp 4]) (vs := [.bool false]) rfl ⟨rfl, trivial⟩ ?_
      exact fun w' hb hs => ⟨_, _, ⟨rfl, rfl⟩, rfl, hb, hs.sel [] _ (by decide) rfl⟩
    · refine JX.condF rfl hb ?_
      refine JX.skip ?_
      refine JE.code ?_
      refine JX.seq ?_
      refine JX.seq ?_
      refine JX.region ?_
      refine JL.val (yl_fieldAt (a := some _) Go.Proofs.Try.underlying62 rfl i2 i2n rfl rfl) rfl ?_
      refine JL.val (yl_load1 Go.Proofs.Try.underlying2 rfl rfl (fun w hC => rd_box hC 0 rfl) rfl) rfl ?_
      refine JL.val (yl_fieldAt (a := some _) Go.Proofs.Try.underlying62 rfl i2 i2n rfl rfl) rfl ?_
      refine JL.val (yl_load1 Go.Proofs.Try.underlying2 rfl rfl (fun w hC => rd_box hC 1 rfl) rfl) rfl ?_
      refine JL.val (yl_neq rfl rfl) rfl ?_
      refine JL.nil ?_
      refine JE.weak (env' := [(19, .bool (q0.Z != q1.Z))]) (es' := []) [] ?_ ⟨rfl, trivial⟩ (by decide) rfl
      refine JE.code ?_
      rcases cond_some hres with ⟨hb, hres⟩ | ⟨hb, hres⟩
      · refine JX.condT rfl hb ?_
        refine JX.seq ?_
        refine JX.region ?_
        refine JL.val (yl_assign rfl) rfl ?_
        refine JL.nil ?_
        refine JE.code ?_
        refine JX.ret ?_
        obtain rfl := Option.some.inj hres
        refine JE.ret (rs := [.tmp 4]) (vs := [.bool false]) rfl ⟨rfl, trivial⟩ ?_
        exact fun w' hb hs => ⟨_, _, ⟨rfl, rfl⟩, rfl, hb, hs.sel [] _ (by decide) rfl⟩
      · refine JX.condF rfl hb ?_
        refine JX.skip ?_
        refine JE.code ?_
        refine JX.seq ?_
        refine JX.region ?_
        refine JL.val (yl_assign rfl) rfl ?_
        refine JL.nil ?_
        refine JE.code ?_
        refine JX.ret ?_
        obtain rfl := Option.some.inj hres
        refine JE.ret (rs := [.tmp 4]) (vs := [.bool true]) rfl ⟨rfl, trivial⟩ ?_
        exact fun w' hb hs => ⟨_, _, ⟨rfl, rfl⟩, rfl, hb, hs.sel [] _ (by decide) rfl⟩

/- laws.eqToolMoveS -/
def sh36_1 (q0 : List SToolMove) (q1 : List SToolMove) : Int → Option (Int ⊕ (Unit ⊕ Bool))
  | x1 => bif decide (x1 < (q0.length : Int)) then (Option.bind (getI q0 x1) fun x3 => Option.bind (getI q1 x1) fun x4 => Option.bind (sh63 x3 x4) fun x5 => bif !x5 then (some (.inr (.inr false))) else (some (.inl (w64 (x1 + 1))))) else (some (.inr (.inl ())))
def sh36 (q0 : List SToolMove) (q1 : List SToolMove) : Option (Bool) := bif (q0.length : Int) != (q1.length : Int) then (some false) else (Option.bind (iter (sh36_1 q0 q1) 0) fun y1 => elimS y1 (fun r => some r) fun b1 => (some true))
def T36 (r : Bool) (v : Value) (rs : List Own) : Prop := v = rets [.bool r] ∧ rs = []
set_option maxRecDepth 100000 in
theorem c36 {w : World} {q0 : List SToolMove} {a_0 : Option Addr} {n_0 c_0 : Nat} (g_0 : Rd w a_0 (eSToolMove.fl q0)) (l_0 : q0.length = n_0) {q1 : List SToolMove} {a_1 : Option Addr} {n_1 c_1 : Nat} (g_1 : Rd w a_1 (eSToolMove.fl q1)) (l_1 : q1.length = n_1) {r : Bool} (hres : sh36 q0 q1 = some r) : Calls Go.Proofs.Try.prog 36 [.slice a_0 n_0 c_0, .slice a_1 n_1 c_1].toArray w (Ret w (T36 r)) := by
  subst l_0
  subst l_1
  unfold sh36 at hres
  refine calls_of (n := 27) (M := []) (es := []) Go.Proofs.Try.func36 rfl rfl rfl (Sep.nil _ _ _) ?_
  refine JX.seq ?_
  refine JX.region ?_
  refine JL.val (yl_assign rfl) rfl ?_
  refine JL.nil ?_
  refine JE.code ?_
  refine JX.seq ?_
  refine JX.seq ?_
  refine JX.region ?_
  refine JL.val (yl_move rfl) rfl ?_
  refine JL.val (yl_len_slice Go.Proofs.Try.underlying42 rfl) rfl ?_
  refine JL.val (yl_move rfl) rfl ?_
  refine JL.val (yl_len_slice Go.Proofs.Try.underlying42 rfl) rfl ?_
  refine JL.val (yl_neq rfl rfl) rfl ?_
  refine JL.nil ?_
  refine JE.weak (env' := [(0, .slice a_0 q0.length c_0), (1, .slice a_1 q1.length c_1), (10, .bool ((q0.length : Int) != (q1.length : Int)))]) (es' := []) [] ?_ ⟨rfl, rfl, rfl, trivial⟩ (by decide) rfl
  refine JE.code ?_
  rcases cond_some hres with ⟨hb, hres⟩ | ⟨hb, hres⟩
  · refine JX.condT rfl hb ?_
    refine JX.seq ?_
    refine JX.region ?_
    refine JL.val (yl_assign rfl) rfl ?_
    refine JL.nil ?_
    refine JE.code ?_
    refine JX.ret ?_
    obtain rfl := Option.some.inj hres
    refine JE.ret (rs := [.tmp 4]) (vs := [.bool false]) rfl ⟨rfl, trivial⟩ ?_
    exact fun w' hb hs => ⟨_, _, ⟨rfl, rfl⟩, rfl, hb, hs.sel [] _ (by decide) rfl⟩
  · refine JX.condF rfl hb ?_
    refine JX.skip ?_
    refine JE.code ?_
    refine JX.seq ?_
    refine JX.seq ?_
    refine JX.region ?_
    refine JL.val (yl_assign rfl) rfl ?_
    refine JL.nil ?_
    refine JE.code ?_
    refine JX.block ?_
    obtain ⟨y1, hy1, hresO1⟩ := bind_some hres
    refine JX.loop (I := fun (s1 : Int) aa ww => St w [] 27 [(0, .slice a_0 q0.length c_0), (1, .slice a_1 q1.length c_1), (5, .int .i64 s1)] [] aa ww) (sh36_1 q0 q1) hy1 (fun a w h => h.weak ⟨rfl, rfl, rfl, trivial⟩ [] (by decide) rfl) ?_
    rintro x1 o1 hres hox1 aa ww hS
    refine (?_ : JX Go.Proofs.Try.prog w [] 27 _ _ [(0, .slice a_0 q0.length c_0), (1, .slice a_1 q1.length c_1), (5, .int .i64 x1)] [] _) aa ww hS
    clear hS
    unfold sh36_1 at hres
    refine JX.seq ?_
    refine JX.seq ?_
    refine JX.region ?_
    refine JL.val (yl_move rfl) rfl ?_
    refine JL.val (yl_move rfl) rfl ?_
    refine JL.val (yl_len_slice Go.Proofs.Try.underlying42 rfl) rfl ?_
    refine JL.val (yl_lss rfl rfl) rfl ?_
    refine JL.nil ?_
    refine JE.weak (env' := [(0, .slice a_0 q0.length c_0), (1, .slice a_1 q1.length c_1), (5, .int .i64 x1), (14, .bool (decide (x1 < (q0.length : Int))))]) (es' := []) [] ?_ ⟨rfl, rfl, rfl, rfl, trivial⟩ (by decide) rfl
    refine JE.code ?_
    rcases cond_some hres with ⟨hb, hres⟩ | ⟨hb, hres⟩
    · refine JX.condT rfl hb ?_
      refine JX.skip ?_
      refine JE.code ?_
      refine JX.seq ?_
      refine JX.block ?_
      refine JX.seq ?_
      refine JX.drawH [(0, .pure), (1, .pure), (2, .pure), (3, .read), (4, .pure), (5, .pure), (6, .pure), (7, .read), (8, .must), (9, .pure)] [] [] [] [] [] mixedP rfl (by kernel_rfl) (by decide) rfl rfl ?_
      intro wrr2 Nr2 hFr2
      refine JH.pure rfl (yl_move rfl) rfl ?_
      refine JH.pure rfl (yl_move rfl) rfl ?_
      obtain ⟨x3, hx3, hres⟩ := bind_some hres
      refine JH.pure rfl (yl_idxQ Go.Proofs.Try.underlying42 i62 i62s rfl rfl hx3 rfl (rd_arg g_0 hFr2.cl) rfl) rfl ?_
      refine JH.read rfl (yl_loadTn Go.Proofs.Try.underlying62 rfl i62 i62s rfl hx3 (fun w hw => hFr2.arg g_0 hw)) rfl ?_
      refine JH.pure rfl (yl_move rfl) rfl ?_
      refine JH.pure rfl (yl_move rfl) rfl ?_
      obtain ⟨x4, hx4, hres⟩ := bind_some hres
      refine JH.pure rfl (yl_idxQ Go.Proofs.Try.underlying42 i62 i62s rfl rfl hx4 rfl (rd_arg g_1 hFr2.cl) rfl) rfl ?_
      refine JH.read rfl (yl_loadTn Go.Proofs.Try.underlying62 rfl i62 i62s rfl hx4 (fun w hw => hFr2.arg g_1 hw)) rfl ?_
      obtain ⟨x5, hx5, hres⟩ := bind_some hres
      refine JH.must rfl (ef_call (vs := [.agg #[.int .i64 x3.X, .int .i64 x3.Y, .int .i64 x3.Z], .agg #[.int .i64 x4.X, .int .i64 x4.Y, .int .i64 x4.Z]]) (T := T63 x5) Go.Proofs.Try.func63 rfl (by kernel_rfl) rfl (fun w hC => c63 (q0 := x3) (q1 := x4) hx5)) rfl rfl ?_
      rintro _ _ ⟨_, ⟨rfl, rfl⟩, rfl⟩
      refine JH.pure rfl (yl_not rfl) rfl ?_
      refine JH.nil ?_
      refine JE.weak (env' := [(0, .slice a_0 q0.length c_0), (1, .slice a_1 q1.length c_1), (5, .int .i64 x1), (26, .bool !x5)]) (es' := []) [] ?_ ⟨rfl, rfl, rfl, rfl, trivial⟩ (by decide) rfl
      refine JE.code ?_
      rcases cond_some hres with ⟨hb, hres⟩ | ⟨hb, hres⟩
      · refine JX.condT rfl hb ?_
        refine JX.seq ?_
        refine JX.region ?_
        refine JL.val (yl_assign rfl) rfl ?_
        refine JL.nil ?_
        refine JE.code ?_
        refine JX.ret ?_
        refine JE.qbr ?_
        refine JE.qbr ?_
        have hres := elimS_inr hresO1 (hox1 _ (Option.some.inj hres).symm)
        obtain rfl := Option.some.inj hres
        refine JE.ret (rs := [.tmp 4]) (vs := [.bool false]) rfl ⟨rfl, trivial⟩ ?_
        exact fun w' hb hs => ⟨_, _, ⟨rfl, rfl⟩, rfl, hb, hs.sel [] _ (by decide) rfl⟩
      · refine JX.condF rfl hb ?_
        refine JX.skip ?_
        refine JE.code ?_
        refine JX.region ?_
        refine JL.val (yl_move rfl) rfl ?_
        refine JL.val (yl_add rfl rfl) rfl ?_
        refine JL.val (yl_assign rfl) rfl ?_
        refine JL.nil ?_
        refine JE.cont hres ?_
        exact fun a w h => h.weak ⟨rfl, rfl, rfl, trivial⟩ [] (by decide) rfl
    · refine JX.condF rfl hb ?_
      refine JX.exit ?_
      refine JE.qb rfl ?_
      obtain ⟨b1, hb1⟩ : ∃ b : Unit, b = () := ⟨_, rfl⟩
      have hy1 : Sum.inl b1 = y1 := by rw [hb1]; exact hox1 _ (Option.some.inj hres).symm
      have hres := elimS_inl hresO1 hy1
      refine JE.weak (env' := []) (es' := []) [] ?_ trivial (by decide) (by subst hb1; rfl)
      refine JE.code ?_
      refine JX.seq ?_
      refine JX.region ?_
      refine JL.val (yl_assign rfl) rfl ?_
      refine JL.nil ?_
      refine JE.code ?_
      refine JX.ret ?_
      obtain rfl := Option.some.inj hres
      refine JE.ret (rs := [.tmp 4]) (vs := [.bool true]) rfl ⟨rfl, trivial⟩ ?_
      exact fun w' hb hs => ⟨_, _, ⟨rfl, rfl⟩, rfl, hb, hs.sel [] _ (by decide) rfl⟩

/- spec.l00In -/
def sh52 (q0 : Int) (q1 : Int) (q2 : Int) : Option (Bool) := some ((decide (q1 ≤ q0)) && (decide (q0 ≤ q2)))
def T52 (r : Bool) (v : Value) (rs : List Own) : Prop := v = rets [.bool r] ∧ rs = []
set_option maxRecDepth 100000 in
theorem c52 {w : World} {q0 : Int} {q1 : Int} {q2 : Int} {r : Bool} (hres : sh52 q0 q1 q2 = some r) : Calls Go.Proofs.Try.prog 52 [.int .i64 q0, .int .i64 q1, .int .i64 q2].toArray w (Ret w (T52 r)) := by
  unfold sh52 at hres
  refine calls_of (n := 15) (M := []) (es := []) Go.Proofs.Try.func52 rfl rfl rfl (Sep.nil _ _ _) ?_
  refine JX.seq ?_
  refine JX.region ?_
  refine JL.val (yl_assign rfl) rfl ?_
  refine JL.nil ?_
  refine JE.code ?_
  refine JX.seq ?_
  refine JX.region ?_
  refine JL.val (yl_move rfl) rfl ?_
  refine JL.val (yl_move rfl) rfl ?_
  refine JL.val (yl_geq rfl rfl) rfl ?_
  refine JL.val (yl_move rfl) rfl ?_
  refine JL.cut (K := fun J => J [(14, .bool ((decide (q1 ≤ q0)) && (decide (q0 ≤ q2))))] []) 4 ?_ ?_
  · refine JL.val (yl_assign rfl) rfl ?_
    refine JL.nil ?_
    refine JE.weak (env' := [(6, .bool ((decide (q1 ≤ q0)) && (decide (q0 ≤ q2))))]) (es' := []) [] ?_ ⟨rfl, trivial⟩ (by decide) rfl
    refine JE.code ?_
    refine JX.ret ?_
    obtain rfl := Option.some.inj hres
    refine JE.ret (rs := [.tmp 6]) (vs := [.bool ((decide (q1 ≤ q0)) && (decide (q0 ≤ q2)))]) rfl ⟨rfl, trivial⟩ ?_
    exact fun w' hb hs => ⟨_, _, ⟨rfl, rfl⟩, rfl, hb, hs.sel [] _ (by decide) rfl⟩
  · intro K
    rcases Bool.eq_false_or_eq_true (decide (q1 ≤ q0)) with hb | hb
    · refine JL.set (d := 10) (v := .bool true) (congrArg (fun b => some (Value.bool b)) hb) ?_
      refine JL.gval rfl rfl (yl_move rfl) rfl ?_
      refine JL.gval rfl rfl (yl_move rfl) rfl ?_
      refine JL.gval rfl rfl (yl_leq rfl rfl) rfl ?_
      refine JL.val (yl_pick_true rfl rfl) rfl ?_
      exact JL.weak [] K ⟨(by rw [hb]; rfl), trivial⟩ (by decide) rfl
    · refine JL.set (d := 10) (v := .bool false) (congrArg (fun b => some (Value.bool b)) hb) ?_
      refine JL.gskip rfl rfl rfl rfl ?_
      refine JL.gskip rfl rfl rfl rfl ?_
      refine JL.gskip rfl rfl rfl rfl ?_
      refine JL.val (yl_pick_false rfl rfl) rfl ?_
      exact JL.weak [] K ⟨(by rw [hb]; rfl), trivial⟩ (by decide) rfl

/- spec.l22Ok -/
def sh59_1 (q0 : List SToolMove) : Int → Option (Int ⊕ (Unit ⊕ Bool))
  | x1 => bif decide (x1 < (q0.length : Int)) then (Option.bind (getI q0 x1) fun x2 => Option.bind (sh52 x2.X (-100000) 100000) fun x3 => Option.bind (bif !x3 then (some true) else (Option.bind (sh52 x2.Y (-100000) 100000) fun x5 => some !x5)) fun c4 => (Option.bind (bif c4 then (some true) else (Option.bind (sh52 x2.Z (-500) 500) fun x7 => some !x7)) fun c6 => (bif c6 then (some (.inr (.inr false))) else (some (.inl (w64 (x1 + 1))))))) else (some (.inr (.inl ())))
def sh59 (q0 : List SToolMove) : Option (Bool) := Option.bind (iter (sh59_1 q0) 0) fun y1 => elimS y1 (fun r => some r) fun b1 => (some (decide ((q0.length : Int) ≤ 700)))
def T59 (r : Bool) (v : Value) (rs : List Own) : Prop := v = rets [.bool r] ∧ rs = []
set_option maxRecDepth 100000 in
theorem c59 {w : World} {q0 : List SToolMove} {a_0 : Option Addr} {n_0 c_0 : Nat} (g_0 : Rd w a_0 (eSToolMove.fl q0)) (l_0 : q0.length = n_0) {r : Bool} (hres : sh59 q0 = some r) : Calls Go.Proofs.Try.prog 59 [.slice a_0 n_0 c_0].toArray w (Ret w (T59 r)) := by
  subst l_0
  unfold sh59 at hres
  refine calls_of (n := 39) (M := []) (es := []) Go.Proofs.Try.func59 rfl rfl rfl (Sep.nil _ _ _) ?_
  refine JX.seq ?_
  refine JX.region ?_
  refine JL.val (yl_assign rfl) rfl ?_
  refine JL.nil ?_
  refine JE.code ?_
  refine JX.seq ?_
  refine JX.seq ?_
  refine JX.region ?_
  refine JL.val (yl_assign rfl) rfl ?_
  refine JL.nil ?_
  refine JE.code ?_
  refine JX.block ?_
  obtain ⟨y1, hy1, hresO1⟩ := bind_some hres
  refine JX.loop (I := fun (s1 : Int) aa ww => St w [] 39 [(0, .slice a_0 q0.length c_0), (3, .int .i64 s1)] [] aa ww) (sh59_1 q0) hy1 (fun a w h => h.weak ⟨rfl, rfl, trivial⟩ [] (by decide) rfl) ?_
  rintro x1 o1 hres hox1 aa ww hS
  refine (?_ : JX Go.Proofs.Try.prog w [] 39 _ _ [(0, .slice a_0 q0.length c_0), (3, .int .i64 x1)] [] _) aa ww hS
  clear hS
  unfold sh59_1 at hres
  refine JX.seq ?_
  refine JX.seq ?_
  refine JX.region ?_
  refine JL.val (yl_move rfl) rfl ?_
  refine JL.val (yl_move rfl) rfl ?_
  refine JL.val (yl_len_slice Go.Proofs.Try.underlying42 rfl) rfl ?_
  refine JL.val (yl_lss rfl rfl) rfl ?_
  refine JL.nil ?_
  refine JE.weak (env' := [(0, .slice a_0 q0.length c_0), (3, .int .i64 x1), (8, .bool (decide (x1 < (q0.length : Int))))]) (es' := []) [] ?_ ⟨rfl, rfl, rfl, trivial⟩ (by decide) rfl
  refine JE.code ?_
  rcases cond_some hres with ⟨hb, hres⟩ | ⟨hb, hres⟩
  · refine JX.condT rfl hb ?_
    refine JX.skip ?_
    refine JE.code ?_
    refine JX.seq ?_
    refine JX.block ?_
    refine JX.seq ?_
    refine JX.region ?_
    refine JL.val (yl_move rfl) rfl ?_
    refine JL.val (yl_move rfl) rfl ?_
    obtain ⟨x2, hx2, hres⟩ := bind_some hres
    refine JL.val (yl_idxT Go.Proofs.Try.underlying42 i62 i62s rfl rfl hx2 rfl (fun w hC => rd_arg g_0 hC)) rfl ?_
    refine JL.val (yl_assign rfl) rfl ?_
    refine JL.nil ?_
    refine JE.weak (env' := [(0, .slice a_0 q0.length c_0), (3, .int .i64 x1), (4, ptrAt a_0 ((x1).toNat * eSToolMove.k))]) (es' := []) [] ?_ ⟨rfl, rfl, rfl, trivial⟩ (by decide) rfl
    refine JE.code ?_
    refine JX.seq ?_
    refine JX.region ?_
    refine JL.val (yl_move rfl) rfl ?_
    refine JL.val (yl_nilCheckT rfl hx2 (fun w hC => rd_arg g_0 hC)) rfl ?_
    refine JL.val (yl_fieldAtT Go.Proofs.Try.underlying62 rfl i2 i2n rfl hx2 (fun w hC => rd_arg g_0 hC)) rfl ?_
    refine JL.val (yl_loadT1 Go.Proofs.Try.underlying2 rfl rfl hx2 (fun w hC => rd_arg g_0 hC) rfl) rfl ?_
    obtain ⟨x3, hx3, hres⟩ := bind_some hres
    refine JL.eff (ef_call (T := T52 x3) Go.Proofs.Try.func52 rfl (by kernel_rfl) rfl (fun w hC => c52  hx3)) rfl ?_
    rintro _ _ ⟨_, ⟨rfl, rfl⟩, rfl⟩
    refine JL.val (yl_not rfl) rfl ?_
    refine JL.val (yl_move rfl) rfl ?_
    obtain ⟨c4, hc4, hres⟩ := bind_some hres
    refine JL.cut (K := fun J => J [(0, .slice a_0 q0.length c_0), (3, .int .i64 x1), (4, ptrAt a_0 ((x1).toNat * eSToolMove.k)), (27, .bool c4)] []) 7 ?_ ?_
    · refine JL.val (yl_move rfl) rfl ?_
      obtain ⟨c6, hc6, hres⟩ := bind_some hres
      refine JL.cut (K := fun J => J [(0, .slice a_0 q0.length c_0), (3, .int .i64 x1), (35, .bool c6)] []) 7 ?_ ?_
      · refine JL.nil ?_
        refine JE.weak (env' := [(0, .slice a_0 q0.length c_0), (3, .int .i64 x1), (35, .bool c6)]) (es' := []) [] ?_ ⟨rfl, rfl, rfl, trivial⟩ (by decide) rfl
        refine JE.code ?_
        rcases cond_some hres with ⟨hb, hres⟩ | ⟨hb, hres⟩
        · refine JX.condT rfl hb ?_
          refine JX.seq ?_
          refine JX.region ?_
          refine JL.val (yl_assign rfl) rfl ?_
          refine JL.nil ?_
          refine JE.code ?_
          refine JX.ret ?_
          refine JE.qbr ?_
          refine JE.qbr ?_
          have hres := elimS_inr hresO1 (hox1 _ (Option.some.inj hres).symm)
          obtain rfl := Option.some.inj hres
          refine JE.ret (rs := [.tmp 2]) (vs := [.bool false]) rfl ⟨rfl, trivial⟩ ?_
          exact fun w' hb hs => ⟨_, _, ⟨rfl, rfl⟩, rfl, hb, hs.sel [] _ (by decide) rfl⟩
        · refine JX.condF rfl hb ?_
          refine JX.skip ?_
          refine JE.code ?_
          refine JX.region ?_
          refine JL.val (yl_move rfl) rfl ?_
          refine JL.val (yl_add rfl rfl) rfl ?_
          refine JL.val (yl_assign rfl) rfl ?_
          refine JL.nil ?_
          refine JE.cont hres ?_
          exact fun a w h => h.weak ⟨rfl, rfl, trivial⟩ [] (by decide) rfl
      · intro K
        rcases cond_some hc6 with ⟨hb, hres⟩ | ⟨hb, hres⟩
        · refine JL.set (d := 28) (v := .bool true) (congrArg (fun b => some (Value.bool b)) hb) ?_
          refine JL.gskip rfl rfl rfl rfl ?_
          refine JL.gskip rfl rfl rfl rfl ?_
          refine JL.gskip rfl rfl rfl rfl ?_
          refine JL.gskip rfl rfl rfl rfl ?_
          refine JL.gskip rfl rfl rfl rfl ?_
          refine JL.gskip rfl rfl rfl rfl ?_
          refine JL.val (yl_pick_true rfl rfl) rfl ?_
          have he := Option.some.inj hres
          exact JL.weak [] K ⟨rfl, rfl, (by rw [← he]; rfl), trivial⟩ (by decide) rfl
        · refine JL.set (d := 28) (v := .bool false) (congrArg (fun b => some (Value.bool b)) hb) ?_
          refine JL.gval rfl rfl (yl_move rfl) rfl ?_
          refine JL.gval rfl rfl (yl_nilCheckT rfl hx2 (fun w hC => rd_arg g_0 hC)) rfl ?_
          refine JL.gval rfl rfl (yl_fieldAtT Go.Proofs.Try.underlying62 rfl i2 i2n rfl hx2 (fun w hC => rd_arg g_0 hC)) rfl ?_
          refine JL.gval rfl rfl (yl_loadT1 Go.Proofs.Try.underlying2 rfl rfl hx2 (fun w hC => rd_arg g_0 hC) rfl) rfl ?_
          obtain ⟨x7, hx7, hres⟩ := bind_some hres
          refine JL.geff rfl rfl (ef_call (T := T52 x7) Go.Proofs.Try.func52 rfl (by kernel_rfl) rfl (fun w hC => c52  hx7)) rfl ?_
          rintro _ _ ⟨_, ⟨rfl, rfl⟩, rfl⟩
          refine JL.gval rfl rfl (yl_not rfl) rfl ?_
          refine JL.val (yl_pick_false rfl rfl) rfl ?_
          have he := Option.some.inj hres
          exact JL.weak [] K ⟨rfl, rfl, (by rw [← he]; rfl), trivial⟩ (by decide) rfl
    · intro K
      rcases cond_some hc4 with ⟨hb, hres⟩ | ⟨hb, hres⟩
      · refine JL.set (d := 20) (v := .bool true) (congrArg (fun b => some (Value.bool b)) hb) ?_
        refine JL.gskip rfl rfl rfl rfl ?_
        refine JL.gskip rfl rfl rfl rfl ?_
        refine JL.gskip rfl rfl rfl rfl ?_
        refine JL.gskip rfl rfl rfl rfl ?_
        refine JL.gskip rfl rfl rfl rfl ?_
        refine JL.gskip rfl rfl rfl rfl ?_
        refine JL.val (yl_pick_true rfl rfl) rfl ?_
        have he := Option.some.inj hres
        exact JL.weak [] K ⟨rfl, rfl, rfl, (by rw [← he]; rfl), trivial⟩ (by decide) rfl
      · refine JL.set (d := 20) (v := .bool false) (congrArg (fun b => some (Value.bool b)) hb) ?_
        refine JL.gval rfl rfl (yl_move rfl) rfl ?_
        refine JL.gval rfl rfl (yl_nilCheckT rfl hx2 (fun w hC => rd_arg g_0 hC)) rfl ?_
        refine JL.gval rfl rfl (yl_fieldAtT Go.Proofs.Try.underlying62 rfl i2 i2n rfl hx2 (fun w hC => rd_arg g_0 hC)) rfl ?_
        refine JL.gval rfl rfl (yl_loadT1 Go.Proofs.Try.underlying2 rfl rfl hx2 (fun w hC => rd_arg g_0 hC) rfl) rfl ?_
        obtain ⟨x5, hx5, hres⟩ := bind_some hres
        refine JL.geff rfl rfl (ef_call (T := T52 x5) Go.Proofs.Try.func52 rfl (by kernel_rfl) rfl (fun w hC => c52  hx5)) rfl ?_
        rintro _ _ ⟨_, ⟨rfl, rfl⟩, rfl⟩
        refine JL.gval rfl rfl (yl_not rfl) rfl ?_
        refine JL.val (yl_pick_false rfl rfl) rfl ?_
        have he := Option.some.inj hres
        exact JL.weak [] K ⟨rfl, rfl, rfl, (by rw [← he]; rfl), trivial⟩ (by decide) rfl
  · refine JX.condF rfl hb ?_
    refine JX.exit ?_
    refine JE.qb rfl ?_
    obtain ⟨b1, hb1⟩ : ∃ b : Unit, b = () := ⟨_, rfl⟩
    have hy1 : Sum.inl b1 = y1 := by rw [hb1]; exact hox1 _ (Option.some.inj hres).symm
    have hres := elimS_inl hresO1 hy1
    refine JE.weak (env' := [(0, .slice a_0 q0.length c_0)]) (es' := []) [] ?_ ⟨(by subst hb1; rfl), trivial⟩ (by decide) (by subst hb1; rfl)
    refine JE.code ?_
    refine JX.seq ?_
    refine JX.region ?_
    refine JL.val (yl_move rfl) rfl ?_
    refine JL.val (yl_len_slice Go.Proofs.Try.underlying42 rfl) rfl ?_
    refine JL.val (yl_leq rfl rfl) rfl ?_
    refine JL.val (yl_assign rfl) rfl ?_
    refine JL.nil ?_
    refine JE.weak (env' := [(2, .bool (decide ((q0.length : Int) ≤ 700)))]) (es' := []) [] ?_ ⟨rfl, trivial⟩ (by decide) rfl
    refine JE.code ?_
    refine JX.ret ?_
    obtain rfl := Option.some.inj hres
    refine JE.ret (rs := [.tmp 2]) (vs := [.bool (decide ((q0.length : Int) ≤ 700))]) rfl ⟨rfl, trivial⟩ ?_
    exact fun w' hb hs => ⟨_, _, ⟨rfl, rfl⟩, rfl, hb, hs.sel [] _ (by decide) rfl⟩

/- spec.l00Max -/
def sh77 (q0 : Int) (q1 : Int) : Option (Int) := bif decide (q1 < q0) then (some q0) else (some q1)
def T77 (r : Int) (v : Value) (rs : List Own) : Prop := v = rets [.int .i64 r] ∧ rs = []
set_option maxRecDepth 100000 in
theorem c77 {w : World} {q0 : Int} {q1 : Int} {r : Int} (hres : sh77 q0 q1 = some r) : Calls Go.Proofs.Try.prog 77 [.int .i64 q0, .int .i64 q1].toArray w (Ret w (T77 r)) := by
  unfold sh77 at hres
  refine calls_of (n := 10) (M := []) (es := []) Go.Proofs.Try.func77 rfl rfl rfl (Sep.nil _ _ _) ?_
  refine JX.seq ?_
  refine JX.region ?_
  refine JL.val (yl_assign rfl) rfl ?_
  refine JL.nil ?_
  refine JE.code ?_
  refine JX.seq ?_
  refine JX.seq ?_
  refine JX.region ?_
  refine JL.val (yl_move rfl) rfl ?_
  refine JL.val (yl_move rfl) rfl ?_
  refine JL.val (yl_gtr rfl rfl) rfl ?_
  refine JL.nil ?_
  refine JE.code ?_
  rcases cond_some hres with ⟨hb, hres⟩ | ⟨hb, hres⟩
  · refine JX.condT rfl hb ?_
    refine JX.seq ?_
    refine JX.region ?_
    refine JL.val (yl_move rfl) rfl ?_
    refine JL.val (yl_assign rfl) rfl ?_
    refine JL.nil ?_
    refine JE.code ?_
    refine JX.ret ?_
    obtain rfl := Option.some.inj hres
    refine JE.ret (rs := [.tmp 4]) (vs := [.int .i64 q0]) rfl ⟨rfl, trivial⟩ ?_
    exact fun w' hb hs => ⟨_, _, ⟨rfl, rfl⟩, rfl, hb, hs.sel [] _ (by decide) rfl⟩
  · refine JX.condF rfl hb ?_
    refine JX.skip ?_
    refine JE.code ?_
    refine JX.seq ?_
    refine JX.region ?_
    refine JL.val (yl_move rfl) rfl ?_
    refine JL.val (yl_assign rfl) rfl ?_
    refine JL.nil ?_
    refine JE.code ?_
    refine JX.ret ?_
    obtain rfl := Option.some.inj hres
    refine JE.ret (rs := [.tmp 4]) (vs := [.int .i64 q1]) rfl ⟨rfl, trivial⟩ ?_
    exact fun w' hb hs => ⟨_, _, ⟨rfl, rfl⟩, rfl, hb, hs.sel [] _ (by decide) rfl⟩

/- spec.l10Away -/
def sh54 (q0 : Int) (q1 : Int) : Option (Int) := Option.bind (sh77 (w64 (q0 - q1)) (w64 (q1 - q0))) fun x1 => some x1
def T54 (r : Int) (v : Value) (rs : List Own) : Prop := v = rets [.int .i64 r] ∧ rs = []
set_option maxRecDepth 100000 in
theorem c54 {w : World} {q0 : Int} {q1 : Int} {r : Int} (hres : sh54 q0 q1 = some r) : Calls Go.Proofs.Try.prog 54 [.int .i64 q0, .int .i64 q1].toArray w (Ret w (T54 r)) := by
  unfold sh54 at hres
  refine calls_of (n := 12) (M := []) (es := []) Go.Proofs.Try.func54 rfl rfl rfl (Sep.nil _ _ _) ?_
  refine JX.seq ?_
  refine JX.region ?_
  refine JL.val (yl_assign rfl) rfl ?_
  refine JL.nil ?_
  refine JE.code ?_
  refine JX.seq ?_
  refine JX.region ?_
  refine JL.val (yl_move rfl) rfl ?_
  refine JL.val (yl_move rfl) rfl ?_
  refine JL.val (yl_sub rfl rfl) rfl ?_
  refine JL.val (yl_move rfl) rfl ?_
  refine JL.val (yl_move rfl) rfl ?_
  refine JL.val (yl_sub rfl rfl) rfl ?_
  obtain ⟨x1, hx1, hres⟩ := bind_some hres
  refine JL.eff (ef_call (T := T77 x1) Go.Proofs.Try.func77 rfl (by kernel_rfl) rfl (fun w hC => c77  hx1)) rfl ?_
  rintro _ _ ⟨_, ⟨rfl, rfl⟩, rfl⟩
  refine JL.val (yl_assign rfl) rfl ?_
  refine JL.nil ?_
  refine JE.weak (env' := [(4, .int .i64 x1)]) (es' := []) [] ?_ ⟨rfl, trivial⟩ (by decide) rfl
  refine JE.code ?_
  refine JX.ret ?_
  obtain rfl := Option.some.inj hres
  refine JE.ret (rs := [.tmp 4]) (vs := [.int .i64 x1]) rfl ⟨rfl, trivial⟩ ?_
  exact fun w' hb hs => ⟨_, _, ⟨rfl, rfl⟩, rfl, hb, hs.sel [] _ (by decide) rfl⟩

/- spec.l22Away -/
def sh81 (q0 : SToolMove) (q1 : SToolMove) : Option (Int) := Option.bind (sh54 q0.X q1.X) fun x2 => Option.bind (sh54 q0.Y q1.Y) fun x3 => Option.bind (sh54 q0.Z q1.Z) fun x4 => Option.bind (sh77 x3 x4) fun x5 => Option.bind (sh77 x2 x5) fun x6 => some x6
def T81 (r : Int) (v : Value) (rs : List Own) : Prop := v = rets [.int .i64 r] ∧ rs = []
set_option maxRecDepth 100000 in
theorem c81 {w : World} {q0 : SToolMove} {a_0 : Option Addr} {n_0 : Nat} (g_0 : RdAt w a_0 n_0 (eSToolMove.fl [q0])) {q1 : SToolMove} {a_1 : Option Addr} {n_1 : Nat} (g_1 : RdAt w a_1 n_1 (eSToolMove.fl [q1])) {r : Int} (hres : sh81 q0 q1 = some r) : Calls Go.Proofs.Try.prog 81 [ptrAt a_0 n_0, ptrAt a_1 n_1].toArray w (Ret w (T81 r)) := by
  obtain ⟨b_0, e_0, g_0⟩ := g_0.norm eSToolMove
  rw [e_0]
  obtain ⟨b_1, e_1, g_1⟩ := g_1.norm eSToolMove
  rw [e_1]
  unfold sh81 at hres
  refine calls_of (n := 34) (M := []) (es := []) Go.Proofs.Try.func81 rfl rfl rfl (Sep.nil _ _ _) ?_
  refine JX.seq ?_
  refine JX.region ?_
  refine JL.val (yl_assign rfl) rfl ?_
  refine JL.nil ?_
  refine JE.code ?_
  refine JX.seq ?_
  refine JX.drawH [(0, .pure), (1, .pure), (2, .pure), (3, .read), (4, .pure), (5, .pure), (6, .pure), (7, .read), (9, .pure), (10, .pure), (11, .pure), (12, .read), (13, .pure), (14, .pure), (15, .pure), (16, .read), (18, .pure), (19, .pure), (20, .pure), (21, .read), (22, .pure), (23, .pure), (24, .pure), (25, .read), (8, .must), (17, .must), (26, .must), (27, .must), (28, .must), (29, .pure)] [] [] [] [] [] mixedP rfl (by kernel_rfl) (by decide) rfl rfl ?_
  intro wrr1 Nr1 hFr1
  refine JH.pure rfl (yl_move rfl) rfl ?_
  refine JH.pure rfl (yl_nilCheckAt rfl (RdT.someQ (rd_arg g_0 hFr1.cl) (rfl : getI [q0] 0 = some q0) rfl rfl)) rfl ?_
  refine JH.pure rfl (yl_fieldAt Go.Proofs.Try.underlying62 rfl i2 i2n rfl (RdT.someQ (rd_arg g_0 hFr1.cl) (rfl : getI [q0] 0 = some q0) rfl rfl)) rfl ?_
  refine JH.read rfl (yl_loadT1 Go.Proofs.Try.underlying2 rfl rfl (rfl : getI [q0] 0 = some q0) (fun w hw => hFr1.arg g_0 hw) rfl) rfl ?_
  refine JH.pure rfl (yl_move rfl) rfl ?_
  refine JH.pure rfl (yl_nilCheckAt rfl (RdT.someQ (rd_arg g_1 hFr1.cl) (rfl : getI [q1] 0 = some q1) rfl rfl)) rfl ?_
  refine JH.pure rfl (yl_fieldAt Go.Proofs.Try.underlying62 rfl i2 i2n rfl (RdT.someQ (rd_arg g_1 hFr1.cl) (rfl : getI [q1] 0 = some q1) rfl rfl)) rfl ?_
  refine JH.read rfl (yl_loadT1 Go.Proofs.Try.underlying2 rfl rfl (rfl : getI [q1] 0 = some q1) (fun w hw => hFr1.arg g_1 hw) rfl) rfl ?_
  refine JH.pure rfl (yl_move rfl) rfl ?_
  refine JH.pure rfl (yl_nilCheckAt rfl (RdT.someQ (rd_arg g_0 hFr1.cl) (rfl : getI [q0] 0 = some q0) rfl rfl)) rfl ?_
  refine JH.pure rfl (yl_fieldAt Go.Proofs.Try.underlying62 rfl i2 i2n rfl (RdT.someQ (rd_arg g_0 hFr1.cl) (rfl : getI [q0] 0 = some q0) rfl rfl)) rfl ?_
  refine JH.read rfl (yl_loadT1 Go.Proofs.Try.underlying2 rfl rfl (rfl : getI [q0] 0 = some q0) (fun w hw => hFr1.arg g_0 hw) rfl) rfl ?_
  refine JH.pure rfl (yl_move rfl) rfl ?_
  refine JH.pure rfl (yl_nilCheckAt rfl (RdT.someQ (rd_arg g_1 hFr1.cl) (rfl : getI [q1] 0 = some q1) rfl rfl)) rfl ?_
  refine JH.pure rfl (yl_fieldAt Go.Proofs.Try.underlying62 rfl i2 i2n rfl (RdT.someQ (rd_arg g_1 hFr1.cl) (rfl : getI [q1] 0 = some q1) rfl rfl)) rfl ?_
  refine JH.read rfl (yl_loadT1 Go.Proofs.Try.underlying2 rfl rfl (rfl : getI [q1] 0 = some q1) (fun w hw => hFr1.arg g_1 hw) rfl) rfl ?_
  refine JH.pure rfl (yl_move rfl) rfl ?_
  refine JH.pure rfl (yl_nilCheckAt rfl (RdT.someQ (rd_arg g_0 hFr1.cl) (rfl : getI [q0] 0 = some q0) rfl rfl)) rfl ?_
  refine JH.pure rfl (yl_fieldAt Go.Proofs.Try.underlying62 rfl i2 i2n rfl (RdT.someQ (rd_arg g_0 hFr1.cl) (rfl : getI [q0] 0 = some q0) rfl rfl)) rfl ?_
  refine JH.read rfl (yl_loadT1 Go.Proofs.Try.underlying2 rfl rfl (rfl : getI [q0] 0 = some q0) (fun w hw => hFr1.arg g_0 hw) rfl) rfl ?_
  refine JH.pure rfl (yl_move rfl) rfl ?_
  refine JH.pure rfl (yl_nilCheckAt rfl (RdT.someQ (rd_arg g_1 hFr1.cl) (rfl : getI [q1] 0 = some q1) rfl rfl)) rfl ?_
  refine JH.pure rfl (yl_fieldAt Go.Proofs.Try.underlying62 rfl i2 i2n rfl (RdT.someQ (rd_arg g_1 hFr1.cl) (rfl : getI [q1] 0 = some q1) rfl rfl)) rfl ?_
  refine JH.read rfl (yl_loadT1 Go.Proofs.Try.underlying2 rfl rfl (rfl : getI [q1] 0 = some q1) (fun w hw => hFr1.arg g_1 hw) rfl) rfl ?_
  obtain ⟨x2, hx2, hres⟩ := bind_some hres
  refine JH.must rfl (ef_call (T := T54 x2) Go.Proofs.Try.func54 rfl (by kernel_rfl) rfl (fun w hC => c54  hx2)) rfl rfl ?_
  rintro _ _ ⟨_, ⟨rfl, rfl⟩, rfl⟩
  obtain ⟨x3, hx3, hres⟩ := bind_some hres
  refine JH.must rfl (ef_call (T := T54 x3) Go.Proofs.Try.func54 rfl (by kernel_rfl) rfl (fun w hC => c54  hx3)) rfl rfl ?_
  rintro _ _ ⟨_, ⟨rfl, rfl⟩, rfl⟩
  obtain ⟨x4, hx4, hres⟩ := bind_some hres
  refine JH.must rfl (ef_call (T := T54 x4) Go.Proofs.Try.func54 rfl (by kernel_rfl) rfl (fun w hC => c54  hx4)) rfl rfl ?_
  rintro _ _ ⟨_, ⟨rfl, rfl⟩, rfl⟩
  obtain ⟨x5, hx5, hres⟩ := bind_some hres
  refine JH.must rfl (ef_call (T := T77 x5) Go.Proofs.Try.func77 rfl (by kernel_rfl) rfl (fun w hC => c77  hx5)) rfl rfl ?_
  rintro _ _ ⟨_, ⟨rfl, rfl⟩, rfl⟩
  obtain ⟨x6, hx6, hres⟩ := bind_some hres
  refine JH.must rfl (ef_call (T := T77 x6) Go.Proofs.Try.func77 rfl (by kernel_rfl) rfl (fun w hC => c77  hx6)) rfl rfl ?_
  rintro _ _ ⟨_, ⟨rfl, rfl⟩, rfl⟩
  refine JH.pure rfl (yl_assign rfl) rfl ?_
  refine JH.nil ?_
  refine JE.weak (env' := [(4, .int .i64 x6)]) (es' := []) [] ?_ ⟨rfl, trivial⟩ (by decide) rfl
  refine JE.code ?_
  refine JX.ret ?_
  obtain rfl := Option.some.inj hres
  refine JE.ret (rs := [.tmp 4]) (vs := [.int .i64 x6]) rfl ⟨rfl, trivial⟩ ?_
  exact fun w' hb hs => ⟨_, _, ⟨rfl, rfl⟩, rfl, hb, hs.sel [] _ (by decide) rfl⟩

/- spec.l22Length -/
def sh60_1 (q0 : List SToolMove) (q1 : Bool) : (Int × Int) → Option ((Int × Int) ⊕ (Int))
  | (x1, x2) => bif decide (x2 < (q0.length : Int)) then (Option.bind (getI q0 (w64 (x2 - 1))) fun x3 => Option.bind (bif decide (x3.Z < 0) then (some true) else (Option.bind (getI q0 x2) fun x5 => some (decide (x5.Z < 0)))) fun c4 => (Option.bind (bif c4 == q1 then (Option.bind (getI q0 (w64 (x2 - 1))) fun x8 => Option.bind (getI q0 x2) fun x9 => Option.bind (sh81 x8 x9) fun x10 => some (w64 (x1 + x10))) else (some x1)) fun j6 => (some (.inl (j6, w64 (x2 + 1)))))) else (some (.inr x1))
def sh60 (q0 : List SToolMove) (q1 : Bool) : Option (Int) := Option.bind (iter (sh60_1 q0 q1) (0, 1)) fun b1 => (some b1)
def T60 (r : Int) (v : Value) (rs : List Own) : Prop := v = rets [.int .i64 r] ∧ rs = []
set_option maxRecDepth 100000 in
theorem c60 {w : World} {q0 : List SToolMove} {a_0 : Option Addr} {n_0 c_0 : Nat} (g_0 : Rd w a_0 (eSToolMove.fl q0)) (l_0 : q0.length = n_0) {q1 : Bool} {r : Int} (hres : sh60 q0 q1 = some r) : Calls Go.Proofs.Try.prog 60 [.slice a_0 n_0 c_0, .bool q1].toArray w (Ret w (T60 r)) := by
  subst l_0
  unfold sh60 at hres
  refine calls_of (n := 43) (M := []) (es := []) Go.Proofs.Try.func60 rfl rfl rfl (Sep.nil _ _ _) ?_
  refine JX.seq ?_
  refine JX.region ?_
  refine JL.val (yl_assign rfl) rfl ?_
  refine JL.nil ?_
  refine JE.code ?_
  refine JX.seq ?_
  refine JX.region ?_
  refine JL.val (yl_assign rfl) rfl ?_
  refine JL.nil ?_
  refine JE.code ?_
  refine JX.seq ?_
  refine JX.seq ?_
  refine JX.region ?_
  refine JL.val (yl_assign rfl) rfl ?_
  refine JL.nil ?_
  refine JE.code ?_
  refine JX.block ?_
  obtain ⟨y1, hy1, hresO1⟩ := bind_some hres
  refine JX.loop (I := fun (s1 : Int × Int) aa ww => St w [] 43 [(0, .slice a_0 q0.length c_0), (1, .bool q1), (5, .int .i64 s1.1), (6, .int .i64 s1.2)] [] aa ww) (sh60_1 q0 q1) hy1 (fun a w h => h.weak ⟨rfl, rfl, rfl, rfl, trivial⟩ [] (by decide) rfl) ?_
  rintro ⟨x1, x2⟩ o1 hres hox1 aa ww hS
  refine (?_ : JX Go.Proofs.Try.prog w [] 43 _ _ [(0, .slice a_0 q0.length c_0), (1, .bool q1), (5, .int .i64 x1), (6, .int .i64 x2)] [] _) aa ww hS
  clear hS
  simp only [sh60_1] at hres
  refine JX.seq ?_
  refine JX.seq ?_
  refine JX.region ?_
  refine JL.val (yl_move rfl) rfl ?_
  refine JL.val (yl_move rfl) rfl ?_
  refine JL.val (yl_len_slice Go.Proofs.Try.underlying42 rfl) rfl ?_
  refine JL.val (yl_lss rfl rfl) rfl ?_
  refine JL.nil ?_
  refine JE.weak (env' := [(0, .slice a_0 q0.length c_0), (1, .bool q1), (5, .int .i64 x1), (6, .int .i64 x2), (11, .bool (decide (x2 < (q0.length : Int))))]) (es' := []) [] ?_ ⟨rfl, rfl, rfl, rfl, rfl, trivial⟩ (by decide) rfl
  refine JE.code ?_
  rcases cond_some hres with ⟨hb, hres⟩ | ⟨hb, hres⟩
  · refine JX.condT rfl hb ?_
    refine JX.skip ?_
    refine JE.code ?_
    refine JX.seq ?_
    refine JX.block ?_
    refine JX.seq ?_
    refine JX.region ?_
    refine JL.val (yl_move rfl) rfl ?_
    refine JL.val (yl_move rfl) rfl ?_
    refine JL.val (yl_sub rfl rfl) rfl ?_
    obtain ⟨x3, hx3, hres⟩ := bind_some hres
    refine JL.val (yl_idxT Go.Proofs.Try.underlying42 i62 i62s rfl rfl hx3 rfl (fun w hC => rd_arg g_0 hC)) rfl ?_
    refine JL.val (yl_fieldAtT Go.Proofs.Try.underlying62 rfl i2 i2n rfl hx3 (fun w hC => rd_arg g_0 hC)) rfl ?_
    refine JL.val (yl_loadT1 Go.Proofs.Try.underlying2 rfl rfl hx3 (fun w hC => rd_arg g_0 hC) rfl) rfl ?_
    refine JL.val (yl_lss rfl rfl) rfl ?_
    refine JL.val (yl_move rfl) rfl ?_
    obtain ⟨c4, hc4, hres⟩ := bind_some hres
    refine JL.cut (K := fun J => J [(0, .slice a_0 q0.length c_0), (1, .bool q1), (5, .int .i64 x1), (6, .int .i64 x2), (28, .bool c4)] []) 7 ?_ ?_
    · refine JL.val (yl_assign rfl) rfl ?_
      refine JL.nil ?_
      refine JE.weak (env' := [(0, .slice a_0 q0.length c_0), (1, .bool q1), (5, .int .i64 x1), (6, .int .i64 x2), (7, .bool c4)]) (es' := []) [] ?_ ⟨rfl, rfl, rfl, rfl, rfl, trivial⟩ (by decide) rfl
      refine JE.code ?_
      refine JX.seq ?_
      refine JX.region ?_
      refine JL.val (yl_move rfl) rfl ?_
      refine JL.val (yl_move rfl) rfl ?_
      refine JL.val (yl_beql Go.Proofs.Try.underlying4 rfl rfl) rfl ?_
      refine JL.nil ?_
      refine JE.code ?_
      obtain ⟨j6, hj6, hresj6⟩ := bind_some hres
      refine JX.cut (K := fun J => J [(0, .slice a_0 q0.length c_0), (1, .bool q1), (5, .int .i64 j6), (6, .int .i64 x2)] []) ?_ ?_
      · have hres := hresj6
        refine JE.code ?_
        refine JX.region ?_
        refine JL.val (yl_move rfl) rfl ?_
        refine JL.val (yl_add rfl rfl) rfl ?_
        refine JL.val (yl_assign rfl) rfl ?_
        refine JL.nil ?_
        refine JE.cont hres ?_
        exact fun a w h => h.weak ⟨rfl, rfl, rfl, rfl, trivial⟩ [] (by decide) rfl
      · intro K
        rcases cond_some hj6 with ⟨hb, hres⟩ | ⟨hb, hres⟩
        · refine JX.condT rfl hb ?_
          refine JX.drawH [(0, .pure), (1, .pure), (2, .pure), (3, .pure), (4, .pure), (5, .pure), (6, .pure), (7, .pure), (8, .must), (9, .pure), (10, .pure)] [] [] [] [] [] mixedP rfl (by kernel_rfl) (by decide) rfl rfl ?_
          intro wrr7 Nr7 hFr7
          refine JH.pure rfl (yl_move rfl) rfl ?_
          refine JH.pure rfl (yl_move rfl) rfl ?_
          refine JH.pure rfl (yl_move rfl) rfl ?_
          refine JH.pure rfl (yl_sub rfl rfl) rfl ?_
          obtain ⟨x8, hx8, hres⟩ := bind_some hres
          refine JH.pure rfl (yl_idxQ Go.Proofs.Try.underlying42 i62 i62s rfl rfl hx8 rfl (rd_arg g_0 hFr7.cl) rfl) rfl ?_
          refine JH.pure rfl (yl_move rfl) rfl ?_
          refine JH.pure rfl (yl_move rfl) rfl ?_
          obtain ⟨x9, hx9, hres⟩ := bind_some hres
          refine JH.pure rfl (yl_idxQ Go.Proofs.Try.underlying42 i62 i62s rfl rfl hx9 rfl (rd_arg g_0 hFr7.cl) rfl) rfl ?_
          obtain ⟨x10, hx10, hres⟩ := bind_some hres
          refine JH.must rfl (ef_call (T := T81 x10) Go.Proofs.Try.func81 rfl (by kernel_rfl) rfl (fun w hC => c81 (RdAt.of (hFr7.arg g_0 hC.1) (hx8)) (RdAt.of (hFr7.arg g_0 hC.1) (hx9)) hx10)) rfl rfl ?_
          rintro _ _ ⟨_, ⟨rfl, rfl⟩, rfl⟩
          refine JH.pure rfl (yl_add rfl rfl) rfl ?_
          refine JH.pure rfl (yl_assign rfl) rfl ?_
          refine JH.nil ?_
          refine JE.weak (env' := [(0, .slice a_0 q0.length c_0), (1, .bool q1), (5, .int .i64 (w64 (x1 + x10))), (6, .int .i64 x2)]) (es' := []) [] ?_ ⟨rfl, rfl, rfl, rfl, trivial⟩ (by decide) rfl
          have hj := Option.some.inj hres
          exact JE.weak [] (K) ⟨(by subst hj; rfl), (by subst hj; rfl), (by subst hj; rfl), (by subst hj; rfl), trivial⟩ (by decide) (by subst hj; rfl)
        · refine JX.condF rfl hb ?_
          refine JX.skip ?_
          have hj := Option.some.inj hres
          exact JE.weak [] (K) ⟨(by subst hj; rfl), (by subst hj; rfl), (by subst hj; rfl), (by subst hj; rfl), trivial⟩ (by decide) (by subst hj; rfl)
    · intro K
      rcases cond_some hc4 with ⟨hb, hres⟩ | ⟨hb, hres⟩
      · refine JL.set (d := 21) (v := .bool true) (congrArg (fun b => some (Value.bool b)) hb) ?_
        refine JL.gskip rfl rfl rfl rfl ?_
        refine JL.gskip rfl rfl rfl rfl ?_
        refine JL.gskip rfl rfl rfl rfl ?_
        refine JL.gskip rfl rfl rfl rfl ?_
        refine JL.gskip rfl rfl rfl rfl ?_
        refine JL.gskip rfl rfl rfl rfl ?_
        refine JL.val (yl_pick_true rfl rfl) rfl ?_
        have he := Option.some.inj hres
        exact JL.weak [] K ⟨rfl, rfl, rfl, rfl, (by rw [← he]; rfl), trivial⟩ (by decide) rfl
      · refine JL.set (d := 21) (v := .bool false) (congrArg (fun b => some (Value.bool b)) hb) ?_
        refine JL.gval rfl rfl (yl_move rfl) rfl ?_
        refine JL.gval rfl rfl (yl_move rfl) rfl ?_
        obtain ⟨x5, hx5, hres⟩ := bind_some hres
        refine JL.gval rfl rfl (yl_idxT Go.Proofs.Try.underlying42 i62 i62s rfl rfl hx5 rfl (fun w hC => rd_arg g_0 hC)) rfl ?_
        refine JL.gval rfl rfl (yl_fieldAtT Go.Proofs.Try.underlying62 rfl i2 i2n rfl hx5 (fun w hC => rd_arg g_0 hC)) rfl ?_
        refine JL.gval rfl rfl (yl_loadT1 Go.Proofs.Try.underlying2 rfl rfl hx5 (fun w hC => rd_arg g_0 hC) rfl) rfl ?_
        refine JL.gval rfl rfl (yl_lss rfl rfl) rfl ?_
        refine JL.val (yl_pick_false rfl rfl) rfl ?_
        have he := Option.some.inj hres
        exact JL.weak [] K ⟨rfl, rfl, rfl, rfl, (by rw [← he]; rfl), trivial⟩ (by decide) rfl
  · refine JX.condF rfl hb ?_
    refine JX.exit ?_
    refine JE.qb rfl ?_
    obtain ⟨b1, hb1⟩ : ∃ b : Int, b = x1 := ⟨_, rfl⟩
    have hy1 : b1 = y1 := by rw [hb1]; exact hox1 _ (Option.some.inj hres).symm
    have hres := hresO1
    rw [← hy1] at hres
    refine JE.weak (env' := [(5, .int .i64 b1)]) (es' := []) [] ?_ ⟨(by subst hb1; rfl), trivial⟩ (by decide) (by subst hb1; rfl)
    refine JE.code ?_
    refine JX.seq ?_
    refine JX.region ?_
    refine JL.val (yl_move rfl) rfl ?_
    refine JL.val (yl_assign rfl) rfl ?_
    refine JL.nil ?_
    refine JE.code ?_
    refine JX.ret ?_
    obtain rfl := Option.some.inj hres
    refine JE.ret (rs := [.tmp 4]) (vs := [.int .i64 b1]) rfl ⟨rfl, trivial⟩ ?_
    exact fun w' hb hs => ⟨_, _, ⟨rfl, rfl⟩, rfl, hb, hs.sel [] _ (by decide) rfl⟩

/- spec.TravelLength -/
def sh37 (q0 : List SToolMove) : Option (Int × Int) := Option.bind (sh59 q0) fun x1 => bif !x1 then (some (0, 1)) else (Option.bind (sh60 q0 false) fun x2 => some (x2, 0))
def T37 (r : Int × Int) (v : Value) (rs : List Own) : Prop := v = rets [.int .i64 r.1, .int .i64 r.2] ∧ rs = []
set_option maxRecDepth 100000 in
theorem c37 {w : World} {q0 : List SToolMove} {a_0 : Option Addr} {n_0 c_0 : Nat} (g_0 : Rd w a_0 (eSToolMove.fl q0)) (l_0 : q0.length = n_0) {r : Int × Int} (hres : sh37 q0 = some r) : Calls Go.Proofs.Try.prog 37 [.slice a_0 n_0 c_0].toArray w (Ret w (T37 r)) := by
  subst l_0
  unfold sh37 at hres
  refine calls_of (n := 9) (M := []) (es := []) Go.Proofs.Try.func37 rfl rfl rfl (Sep.nil _ _ _) ?_
  refine JX.seq ?_
  refine JX.region ?_
  refine JL.val (yl_assign rfl) rfl ?_
  refine JL.val (yl_assign rfl) rfl ?_
  refine JL.nil ?_
  refine JE.code ?_
  refine JX.seq ?_
  refine JX.seq ?_
  refine JX.region ?_
  refine JL.val (yl_move rfl) rfl ?_
  obtain ⟨x1, hx1, hres⟩ := bind_some hres
  refine JL.eff (ef_call (T := T59 x1) Go.Proofs.Try.func59 rfl (by kernel_rfl) rfl (fun w hC => c59 (rd_arg g_0 hC) rfl hx1)) rfl ?_
  rintro _ _ ⟨_, ⟨rfl, rfl⟩, rfl⟩
  refine JL.val (yl_not rfl) rfl ?_
  refine JL.nil ?_
  refine JE.code ?_
  rcases cond_some hres with ⟨hb, hres⟩ | ⟨hb, hres⟩
  · refine JX.condT rfl hb ?_
    refine JX.seq ?_
    refine JX.region ?_
    refine JL.val (yl_assign rfl) rfl ?_
    refine JL.val (yl_assign rfl) rfl ?_
    refine JL.nil ?_
    refine JE.code ?_
    refine JX.ret ?_
    obtain rfl := Option.some.inj hres
    refine JE.ret (rs := [.tmp 2, .tmp 3]) (vs := [.int .i64 0, .int .i64 1]) rfl ⟨rfl, rfl, trivial⟩ ?_
    exact fun w' hb hs => ⟨_, _, ⟨rfl, rfl⟩, rfl, hb, hs.sel [] _ (by decide) rfl⟩
  · refine JX.condF rfl hb ?_
    refine JX.skip ?_
    refine JE.code ?_
    refine JX.seq ?_
    refine JX.region ?_
    refine JL.val (yl_move rfl) rfl ?_
    obtain ⟨x2, hx2, hres⟩ := bind_some hres
    refine JL.eff (ef_call (T := T60 x2) Go.Proofs.Try.func60 rfl (by kernel_rfl) rfl (fun w hC => c60 (rd_arg g_0 hC) rfl hx2)) rfl ?_
    rintro _ _ ⟨_, ⟨rfl, rfl⟩, rfl⟩
    refine JL.val (yl_assign rfl) rfl ?_
    refine JL.val (yl_assign rfl) rfl ?_
    refine JL.nil ?_
    refine JE.weak (env' := [(2, .int .i64 x2), (3, .int .i64 0)]) (es' := []) [] ?_ ⟨rfl, rfl, trivial⟩ (by decide) rfl
    refine JE.code ?_
    refine JX.ret ?_
    obtain rfl := Option.some.inj hres
    refine JE.ret (rs := [.tmp 2, .tmp 3]) (vs := [.int .i64 x2, .int .i64 0]) rfl ⟨rfl, rfl, trivial⟩ ?_
    exact fun w' hb hs => ⟨_, _, ⟨rfl, rfl⟩, rfl, hb, hs.sel [] _ (by decide) rfl⟩

/- impl.inRange -/
def sh51 (q0 : Int) (q1 : Int) (q2 : Int) : Option (Bool) := some ((decide (q1 ≤ q0)) && (decide (q0 ≤ q2)))
def T51 (r : Bool) (v : Value) (rs : List Own) : Prop := v = rets [.bool r] ∧ rs = []
set_option maxRecDepth 100000 in
theorem c51 {w : World} {q0 : Int} {q1 : Int} {q2 : Int} {r : Bool} (hres : sh51 q0 q1 q2 = some r) : Calls Go.Proofs.Try.prog 51 [.int .i64 q0, .int .i64 q1, .int .i64 q2].toArray w (Ret w (T51 r)) := by
  unfold sh51 at hres
  refine calls_of (n := 15) (M := []) (es := []) Go.Proofs.Try.func51 rfl rfl rfl (Sep.nil _ _ _) ?_
  refine JX.seq ?_
  refine JX.region ?_
  refine JL.val (yl_assign rfl) rfl ?_
  refine JL.nil ?_
  refine JE.code ?_
  refine JX.seq ?_
  refine JX.region ?_
  refine JL.val (yl_move rfl) rfl ?_
  refine JL.val (yl_move rfl) rfl ?_
  refine JL.val (yl_geq rfl rfl) rfl ?_
  refine JL.val (yl_move rfl) rfl ?_
  refine JL.cut (K := fun J => J [(14, .bool ((decide (q1 ≤ q0)) && (decide (q0 ≤ q2))))] []) 4 ?_ ?_
  · refine JL.val (yl_assign rfl) rfl ?_
    refine JL.nil ?_
    refine JE.weak (env' := [(6, .bool ((decide (q1 ≤ q0)) && (decide (q0 ≤ q2))))]) (es' := []) [] ?_ ⟨rfl, trivial⟩ (by decide) rfl
    refine JE.code ?_
    refine JX.ret ?_
    obtain rfl := Option.some.inj hres
    refine JE.ret (rs := [.tmp 6]) (vs := [.bool ((decide (q1 ≤ q0)) && (decide (q0 ≤ q2)))]) rfl ⟨rfl, trivial⟩ ?_
    exact fun w' hb hs => ⟨_, _, ⟨rfl, rfl⟩, rfl, hb, hs.sel [] _ (by decide) rfl⟩
  · intro K
    rcases Bool.eq_false_or_eq_true (decide (q1 ≤ q0)) with hb | hb
    · refine JL.set (d := 10) (v := .bool true) (congrArg (fun b => some (Value.bool b)) hb) ?_
      refine JL.gval rfl rfl (yl_move rfl) rfl ?_
      refine JL.gval rfl rfl (yl_move rfl) rfl ?_
      refine JL.gval rfl rfl (yl_leq rfl rfl) rfl ?_
      refine JL.val (yl_pick_true rfl rfl) rfl ?_
      exact JL.weak [] K ⟨(by rw [hb]; rfl), trivial⟩ (by decide) rfl
    · refine JL.set (d := 10) (v := .bool false) (congrArg (fun b => some (Value.bool b)) hb) ?_
      refine JL.gskip rfl rfl rfl rfl ?_
      refine JL.gskip rfl rfl rfl rfl ?_
      refine JL.gskip rfl rfl rfl rfl ?_
      refine JL.val (yl_pick_false rfl rfl) rfl ?_
      exact JL.weak [] K ⟨(by rw [hb]; rfl), trivial⟩ (by decide) rfl

/- impl.isCorner -/
def sh80 (q0 : SPoint) : Option (Bool) := Option.bind (sh51 q0.X (-100000) 100000) fun x3 => Option.bind (bif x3 then (Option.bind (sh51 q0.Y (-100000) 100000) fun x5 => some x5) else (some false)) fun c4 => (some c4)
def T80 (r : Bool) (v : Value) (rs : List Own) : Prop := v = rets [.bool r] ∧ rs = []
set_option maxRecDepth 100000 in
theorem c80 {w : World} {q0 : SPoint} {r : Bool} (hres : sh80 q0 = some r) : Calls Go.Proofs.Try.prog 80 [.agg #[.int .i64 q0.X, .int .i64 q0.Y]].toArray w (Ret w (T80 r)) := by
  unfold sh80 at hres
  refine calls_of (n := 11) (M := []) (es := []) Go.Proofs.Try.func80 rfl rfl rfl (Sep.nil _ _ _) ?_
  refine JX.seq ?_
  refine JX.region ?_
  refine JL.eff (ef_box rfl rfl) rfl ?_
  rintro _ _ ⟨g1, rfl, rfl⟩
  refine JL.val (yl_assign rfl) rfl ?_
  refine JL.nil ?_
  refine JE.code ?_
  refine JX.seq ?_
  refine JX.region ?_
  refine JL.val (yl_fieldAt (a := some _) Go.Proofs.Try.underlying47 rfl i2 i2n rfl rfl) rfl ?_
  refine JL.val (yl_load1 Go.Proofs.Try.underlying2 rfl rfl (fun w hC => rd_box hC 0 rfl) rfl) rfl ?_
  obtain ⟨x3, hx3, hres⟩ := bind_some hres
  refine JL.eff (ef_call (T := T51 x3) Go.Proofs.Try.func51 rfl (by kernel_rfl) rfl (fun w hC => c51  hx3)) rfl ?_
  rintro _ _ ⟨_, ⟨rfl, rfl⟩, rfl⟩
  refine JL.val (yl_move rfl) rfl ?_
  obtain ⟨c4, hc4, hres⟩ := bind_some hres
  refine JL.cut (K := fun J => J [(10, .bool c4)] []) 4 ?_ ?_
  · refine JL.val (yl_assign rfl) rfl ?_
    refine JL.nil ?_
    refine JE.weak (env' := [(2, .bool c4)]) (es' := []) [] ?_ ⟨rfl, trivial⟩ (by decide) rfl
    refine JE.code ?_
    refine JX.ret ?_
    obtain rfl := Option.some.inj hres
    refine JE.ret (rs := [.tmp 2]) (vs := [.bool c4]) rfl ⟨rfl, trivial⟩ ?_
    exact fun w' hb hs => ⟨_, _, ⟨rfl, rfl⟩, rfl, hb, hs.sel [] _ (by decide) rfl⟩
  · intro K
    rcases cond_some hc4 with ⟨hb, hres⟩ | ⟨hb, hres⟩
    · refine JL.set (d := 6) (v := .bool true) (congrArg (fun b => some (Value.bool b)) hb) ?_
      refine JL.gval rfl rfl (yl_fieldAt (a := some _) Go.Proofs.Try.underlying47 rfl i2 i2n rfl rfl) rfl ?_
      refine JL.gval rfl rfl (yl_load1 Go.Proofs.Try.underlying2 rfl rfl (fun w hC => rd_box hC 0 rfl) rfl) rfl ?_
      obtain ⟨x5, hx5, hres⟩ := bind_some hres
      refine JL.geff rfl rfl (ef_call (T := T51 x5) Go.Proofs.Try.func51 rfl (by kernel_rfl) rfl (fun w hC => c51  hx5)) rfl ?_
      rintro _ _ ⟨_, ⟨rfl, rfl⟩, rfl⟩
      refine JL.val (yl_pick_true rfl rfl) rfl ?_
      have he := Option.some.inj hres
      exact JL.weak [] K ⟨(by rw [← he]; rfl), trivial⟩ (by decide) rfl
    · refine JL.set (d := 6) (v := .bool false) (congrArg (fun b => some (Value.bool b)) hb) ?_
      refine JL.gskip rfl rfl rfl rfl ?_
      refine JL.gskip rfl rfl rfl rfl ?_
      refine JL.gskip rfl rfl rfl rfl ?_
      refine JL.val (yl_pick_false rfl rfl) rfl ?_
      have he := Option.some.inj hres
      exact JL.weak [] K ⟨(by rw [← he]; rfl), trivial⟩ (by decide) rfl

/- impl.validMoves -/
def sh82_1 (q0 : List SToolMove) : Int → Option (Int ⊕ (Unit ⊕ Bool))
  | x1 => bif decide (x1 < (q0.length : Int)) then (Option.bind (getI q0 x1) fun x2 => Option.bind (sh80 (SPoint.mk x2.X x2.Y)) fun x5 => Option.bind (bif !x5 then (some true) else (Option.bind (sh51 x2.Z (-500) 500) fun x7 => some !x7)) fun c6 => (bif c6 then (some (.inr (.inr false))) else (some (.inl (w64 (x1 + 1)))))) else (some (.inr (.inl ())))
def sh82 (q0 : List SToolMove) : Option (Bool) := Option.bind (iter (sh82_1 q0) 0) fun y1 => elimS y1 (fun r => some r) fun b1 => (some (decide ((q0.length : Int) ≤ 700)))
def T82 (r : Bool) (v : Value) (rs : List Own) : Prop := v = rets [.bool r] ∧ rs = []
set_option maxRecDepth 100000 in
theorem c82 {w : World} {q0 : List SToolMove} {a_0 : Option Addr} {n_0 c_0 : Nat} (g_0 : Rd w a_0 (eSToolMove.fl q0)) (l_0 : q0.length = n_0) {r : Bool} (hres : sh82 q0 = some r) : Calls Go.Proofs.Try.prog 82 [.slice a_0 n_0 c_0].toArray w (Ret w (T82 r)) := by
  subst l_0
  unfold sh82 at hres
  refine calls_of (n := 28) (M := []) (es := []) Go.Proofs.Try.func82 rfl rfl rfl (Sep.nil _ _ _) ?_
  refine JX.seq ?_
  refine JX.region ?_
  refine JL.val (yl_assign rfl) rfl ?_
  refine JL.nil ?_
  refine JE.code ?_
  refine JX.seq ?_
  refine JX.seq ?_
  refine JX.region ?_
  refine JL.val (yl_move rfl) rfl ?_
  refine JL.val (yl_len_slice Go.Proofs.Try.underlying42 rfl) rfl ?_
  refine JL.val (yl_move rfl) rfl ?_
  refine JL.nil ?_
  refine JE.code ?_
  refine JX.block ?_
  obtain ⟨y1, hy1, hresO1⟩ := bind_some hres
  refine JX.loop (I := fun (s1 : Int) aa ww => St w [] 28 [(0, .slice a_0 q0.length c_0), (5, .slice a_0 q0.length c_0), (6, .int .i64 (q0.length : Int)), (7, .int .i64 s1)] [] aa ww) (sh82_1 q0) hy1 (fun a w h => h.weak ⟨rfl, rfl, rfl, rfl, trivial⟩ [] (by decide) rfl) ?_
  rintro x1 o1 hres hox1 aa ww hS
  refine (?_ : JX Go.Proofs.Try.prog w [] 28 _ _ [(0, .slice a_0 q0.length c_0), (5, .slice a_0 q0.length c_0), (6, .int .i64 (q0.length : Int)), (7, .int .i64 x1)] [] _) aa ww hS
  clear hS
  unfold sh82_1 at hres
  refine JX.seq ?_
  refine JX.region ?_
  refine JL.val (yl_lss rfl rfl) rfl ?_
  refine JL.nil ?_
  refine JE.code ?_
  refine JX.seq ?_
  rcases cond_some hres with ⟨hb, hres⟩ | ⟨hb, hres⟩
  · refine JX.condT rfl hb ?_
    refine JX.skip ?_
    refine JE.code ?_
    refine JX.seq ?_
    refine JX.block ?_
    refine JX.seq ?_
    refine JX.region ?_
    obtain ⟨x2, hx2, hres⟩ := bind_some hres
    refine JL.val (yl_idxT Go.Proofs.Try.underlying42 i62 i62s rfl rfl hx2 rfl (fun w hC => rd_arg g_0 hC)) rfl ?_
    refine JL.val (yl_loadTn Go.Proofs.Try.underlying62 rfl i62 i62s rfl hx2 (fun w hC => rd_arg g_0 hC)) rfl ?_
    refine JL.eff (ef_alloc i62 i62z rfl) rfl ?_
    rintro _ _ ⟨g3, rfl, rfl⟩
    refine JL.eff (ef_store_box (i := 0) (v := .agg #[.int .i64 x2.X, .int .i64 x2.Y, .int .i64 x2.Z]) i62 rfl rfl rfl (i62s).symm (Nat.le_of_ble_eq_true rfl) (by simp [Value.cells, Value.oneCell'])) rfl ?_
    rintro _ _ rfl
    refine JL.nil ?_
    refine JE.weak (env' := [(0, .slice a_0 q0.length c_0), (4, ptrAt (some ⟨g3, 0, none⟩) 0), (5, .slice a_0 q0.length c_0), (6, .int .i64 (q0.length : Int)), (7, .int .i64 x1)]) (es' := [boxO 62 g3 [.int .i64 x2.X, .int .i64 x2.Y, .int .i64 x2.Z]]) [0] ?_ ⟨rfl, rfl, rfl, rfl, rfl, trivial⟩ (by decide) rfl
    refine JE.code ?_
    refine JX.seq ?_
    refine JX.region ?_
    refine JL.val (yl_fieldAt (a := some _) Go.Proofs.Try.underlying62 rfl i2 i2n rfl rfl) rfl ?_
    refine JL.val (yl_load1 Go.Proofs.Try.underlying2 rfl rfl (fun w hC => rd_box hC 0 rfl) rfl) rfl ?_
    refine JL.val (yl_fieldAt (a := some _) Go.Proofs.Try.underlying62 rfl i2 i2n rfl rfl) rfl ?_
    refine JL.val (yl_load1 Go.Proofs.Try.underlying2 rfl rfl (fun w hC => rd_box hC 0 rfl) rfl) rfl ?_
    refine JL.val (yl_build rfl (fun w => bld47_0_1 x2.X x2.Y w)) rfl ?_
    obtain ⟨x5, hx5, hres⟩ := bind_some hres
    refine JL.eff (ef_call (vs := [.agg #[.int .i64 x2.X, .int .i64 x2.Y]]) (T := T80 x5) Go.Proofs.Try.func80 rfl (by kernel_rfl) rfl (fun w hC => c80 (q0 := SPoint.mk x2.X x2.Y) hx5)) rfl ?_
    rintro _ _ ⟨_, ⟨rfl, rfl⟩, rfl⟩
    refine JL.val (yl_not rfl) rfl ?_
    refine JL.val (yl_move rfl) rfl ?_
    obtain ⟨c6, hc6, hres⟩ := bind_some hres
    refine JL.cut (K := fun J => J [(0, .slice a_0 q0.length c_0), (5, .slice a_0 q0.length c_0), (6, .int .i64 (q0.length : Int)), (7, .int .i64 x1), (23, .bool c6)] []) 5 ?_ ?_
    · refine JL.nil ?_
      refine JE.weak (env' := [(0, .slice a_0 q0.length c_0), (5, .slice a_0 q0.length c_0), (6, .int .i64 (q0.length : Int)), (7, .int .i64 x1), (23, .bool c6)]) (es' := []) [] ?_ ⟨rfl, rfl, rfl, rfl, rfl, trivial⟩ (by decide) rfl
      refine JE.code ?_
      rcases cond_some hres with ⟨hb, hres⟩ | ⟨hb, hres⟩
      · refine JX.condT rfl hb ?_
        refine JX.seq ?_
        refine JX.region ?_
        refine JL.val (yl_assign rfl) rfl ?_
        refine JL.nil ?_
        refine JE.code ?_
        refine JX.ret ?_
        refine JE.qbr ?_
        refine JE.qbr ?_
        have hres := elimS_inr hresO1 (hox1 _ (Option.some.inj hres).symm)
        obtain rfl := Option.some.inj hres
        refine JE.ret (rs := [.tmp 2]) (vs := [.bool false]) rfl ⟨rfl, trivial⟩ ?_
        exact fun w' hb hs => ⟨_, _, ⟨rfl, rfl⟩, rfl, hb, hs.sel [] _ (by decide) rfl⟩
      · refine JX.condF rfl hb ?_
        refine JX.skip ?_
        refine JE.code ?_
        refine JX.region ?_
        refine JL.val (yl_add rfl rfl) rfl ?_
        refine JL.val (yl_move rfl) rfl ?_
        refine JL.nil ?_
        refine JE.cont hres ?_
        exact fun a w h => h.weak ⟨rfl, rfl, rfl, rfl, trivial⟩ [] (by decide) rfl
    · intro K
      rcases cond_some hc6 with ⟨hb, hres⟩ | ⟨hb, hres⟩
      · refine JL.set (d := 18) (v := .bool true) (congrArg (fun b => some (Value.bool b)) hb) ?_
        refine JL.gskip rfl rfl rfl rfl ?_
        refine JL.gskip rfl rfl rfl rfl ?_
        refine JL.gskip rfl rfl rfl rfl ?_
        refine JL.gskip rfl rfl rfl rfl ?_
        refine JL.val (yl_pick_true rfl rfl) rfl ?_
        have he := Option.some.inj hres
        exact JL.weak [] K ⟨rfl, rfl, rfl, rfl, (by rw [← he]; rfl), trivial⟩ (by decide) rfl
      · refine JL.set (d := 18) (v := .bool false) (congrArg (fun b => some (Value.bool b)) hb) ?_
        refine JL.gval rfl rfl (yl_fieldAt (a := some _) Go.Proofs.Try.underlying62 rfl i2 i2n rfl rfl) rfl ?_
        refine JL.gval rfl rfl (yl_load1 Go.Proofs.Try.underlying2 rfl rfl (fun w hC => rd_box hC 0 rfl) rfl) rfl ?_
        obtain ⟨x7, hx7, hres⟩ := bind_some hres
        refine JL.geff rfl rfl (ef_call (T := T51 x7) Go.Proofs.Try.func51 rfl (by kernel_rfl) rfl (fun w hC => c51  hx7)) rfl ?_
        rintro _ _ ⟨_, ⟨rfl, rfl⟩, rfl⟩
        refine JL.gval rfl rfl (yl_not rfl) rfl ?_
        refine JL.val (yl_pick_false rfl rfl) rfl ?_
        have he := Option.some.inj hres
        exact JL.weak [] K ⟨rfl, rfl, rfl, rfl, (by rw [← he]; rfl), trivial⟩ (by decide) rfl
  · refine JX.condF rfl hb ?_
    refine JX.exit ?_
    refine JE.qb rfl ?_
    obtain ⟨b1, hb1⟩ : ∃ b : Unit, b = () := ⟨_, rfl⟩
    have hy1 : Sum.inl b1 = y1 := by rw [hb1]; exact hox1 _ (Option.some.inj hres).symm
    have hres := elimS_inl hresO1 hy1
    refine JE.weak (env' := [(0, .slice a_0 q0.length c_0)]) (es' := []) [] ?_ ⟨(by subst hb1; rfl), trivial⟩ (by decide) (by subst hb1; rfl)
    refine JE.code ?_
    refine JX.seq ?_
    refine JX.region ?_
    refine JL.val (yl_move rfl) rfl ?_
    refine JL.val (yl_len_slice Go.Proofs.Try.underlying42 rfl) rfl ?_
    refine JL.val (yl_leq rfl rfl) rfl ?_
    refine JL.val (yl_assign rfl) rfl ?_
    refine JL.nil ?_
    refine JE.weak (env' := [(2, .bool (decide ((q0.length : Int) ≤ 700)))]) (es' := []) [] ?_ ⟨rfl, trivial⟩ (by decide) rfl
    refine JE.code ?_
    refine JX.ret ?_
    obtain rfl := Option.some.inj hres
    refine JE.ret (rs := [.tmp 2]) (vs := [.bool (decide ((q0.length : Int) ≤ 700))]) rfl ⟨rfl, trivial⟩ ?_
    exact fun w' hb hs => ⟨_, _, ⟨rfl, rfl⟩, rfl, hb, hs.sel [] _ (by decide) rfl⟩

/- impl.distance -/
def sh83 (q0 : Int) (q1 : Int) : Option (Int) := some (if (w64 (q0 - q1)) < (w64 (q1 - q0)) then (w64 (q1 - q0)) else (w64 (q0 - q1)))
def T83 (r : Int) (v : Value) (rs : List Own) : Prop := v = rets [.int .i64 r] ∧ rs = []
set_option maxRecDepth 100000 in
theorem c83 {w : World} {q0 : Int} {q1 : Int} {r : Int} (hres : sh83 q0 q1 = some r) : Calls Go.Proofs.Try.prog 83 [.int .i64 q0, .int .i64 q1].toArray w (Ret w (T83 r)) := by
  unfold sh83 at hres
  refine calls_of (n := 12) (M := []) (es := []) Go.Proofs.Try.func83 rfl rfl rfl (Sep.nil _ _ _) ?_
  refine JX.seq ?_
  refine JX.region ?_
  refine JL.val (yl_assign rfl) rfl ?_
  refine JL.nil ?_
  refine JE.code ?_
  refine JX.seq ?_
  refine JX.region ?_
  refine JL.val (yl_move rfl) rfl ?_
  refine JL.val (yl_move rfl) rfl ?_
  refine JL.val (yl_sub rfl rfl) rfl ?_
  refine JL.val (yl_move rfl) rfl ?_
  refine JL.val (yl_move rfl) rfl ?_
  refine JL.val (yl_sub rfl rfl) rfl ?_
  refine JL.val (yl_max rfl rfl) rfl ?_
  refine JL.val (yl_assign rfl) rfl ?_
  refine JL.nil ?_
  refine JE.weak (env' := [(4, .int .i64 (if (w64 (q0 - q1)) < (w64 (q1 - q0)) then (w64 (q1 - q0)) else (w64 (q0 - q1))))]) (es' := []) [] ?_ ⟨rfl, trivial⟩ (by decide) rfl
  refine JE.code ?_
  refine JX.ret ?_
  obtain rfl := Option.some.inj hres
  refine JE.ret (rs := [.tmp 4]) (vs := [.int .i64 (if (w64 (q0 - q1)) < (w64 (q1 - q0)) then (w64 (q1 - q0)) else (w64 (q0 - q1)))]) rfl ⟨rfl, trivial⟩ ?_
  exact fun w' hb hs => ⟨_, _, ⟨rfl, rfl⟩, rfl, hb, hs.sel [] _ (by decide) rfl⟩

/- impl.lengthOf -/
def sh62_1 (q0 : List SToolMove) (q1 : Bool) : (Int × Int) → Option ((Int × Int) ⊕ (Int))
  | (x2, x3) => bif decide (x3 < (q0.length : Int)) then (Option.bind (getI q0 (w64 (x3 - 1))) fun x5 => Option.bind (getI q0 x3) fun x6 => Option.bind (bif ((decide (x5.Z < 0)) || (decide (x6.Z < 0))) == q1 then (Option.bind (sh83 x5.X x6.X) fun x13 => Option.bind (sh83 x5.Y x6.Y) fun x14 => Option.bind (sh83 x5.Z x6.Z) fun x15 => some (w64 (x2 + (if (if x13 < x14 then x14 else x13) < x15 then x15 else (if x13 < x14 then x14 else x13))))) else (some x2)) fun j11 => (some (.inl (j11, w64 (x3 + 1))))) else (some (.inr x2))
def sh62 (q0 : List SToolMove) (q1 : Bool) : Option (Int × Int) := Option.bind (sh82 q0) fun x1 => bif !x1 then (some (0, 1)) else (Option.bind (iter (sh62_1 q0 q1) (0, 1)) fun b1 => (some (b1, 0)))
def T62 (r : Int × Int) (v : Value) (rs : List Own) : Prop := v = rets [.int .i64 r.1, .int .i64 r.2] ∧ rs = []
set_option maxRecDepth 100000 in
theorem c62 {w : World} {q0 : List SToolMove} {a_0 : Option Addr} {n_0 c_0 : Nat} (g_0 : Rd w a_0 (eSToolMove.fl q0)) (l_0 : q0.length = n_0) {q1 : Bool} {r : Int × Int} (hres : sh62 q0 q1 = some r) : Calls Go.Proofs.Try.prog 62 [.slice a_0 n_0 c_0, .bool q1].toArray w (Ret w (T62 r)) := by
  subst l_0
  unfold sh62 at hres
  refine calls_of (n := 57) (M := []) (es := []) Go.Proofs.Try.func62 rfl rfl rfl (Sep.nil _ _ _) ?_
  refine JX.seq ?_
  refine JX.region ?_
  refine JL.val (yl_assign rfl) rfl ?_
  refine JL.val (yl_assign rfl) rfl ?_
  refine JL.nil ?_
  refine JE.code ?_
  refine JX.seq ?_
  refine JX.seq ?_
  refine JX.region ?_
  refine JL.val (yl_move rfl) rfl ?_
  obtain ⟨x1, hx1, hres⟩ := bind_some hres
  refine JL.eff (ef_call (T := T82 x1) Go.Proofs.Try.func82 rfl (by kernel_rfl) rfl (fun w hC => c82 (rd_arg g_0 hC) rfl hx1)) rfl ?_
  rintro _ _ ⟨_, ⟨rfl, rfl⟩, rfl⟩
  refine JL.val (yl_not rfl) rfl ?_
  refine JL.nil ?_
  refine JE.code ?_
  rcases cond_some hres with ⟨hb, hres⟩ | ⟨hb, hres⟩
  · refine JX.condT rfl hb ?_
    refine JX.seq ?_
    refine JX.region ?_
    refine JL.val (yl_assign rfl) rfl ?_
    refine JL.val (yl_assign rfl) rfl ?_
    refine JL.nil ?_
    refine JE.code ?_
    refine JX.ret ?_
    obtain rfl := Option.some.inj hres
    refine JE.ret (rs := [.tmp 4, .tmp 5]) (vs := [.int .i64 0, .int .i64 1]) rfl ⟨rfl, rfl, trivial⟩ ?_
    exact fun w' hb hs => ⟨_, _, ⟨rfl, rfl⟩, rfl, hb, hs.sel [] _ (by decide) rfl⟩
  · refine JX.condF rfl hb ?_
    refine JX.skip ?_
    refine JE.code ?_
    refine JX.seq ?_
    refine JX.region ?_
    refine JL.val (yl_assign rfl) rfl ?_
    refine JL.nil ?_
    refine JE.code ?_
    refine JX.seq ?_
    refine JX.seq ?_
    refine JX.region ?_
    refine JL.val (yl_assign rfl) rfl ?_
    refine JL.nil ?_
    refine JE.code ?_
    refine JX.block ?_
    obtain ⟨y1, hy1, hresO1⟩ := bind_some hres
    refine JX.loop (I := fun (s1 : Int × Int) aa ww => St w [] 57 [(0, .slice a_0 q0.length c_0), (1, .bool q1), (6, .int .i64 s1.1), (7, .int .i64 s1.2)] [] aa ww) (sh62_1 q0 q1) hy1 (fun a w h => h.weak ⟨rfl, rfl, rfl, rfl, trivial⟩ [] (by decide) rfl) ?_
    rintro ⟨x2, x3⟩ o1 hres hox1 aa ww hS
    refine (?_ : JX Go.Proofs.Try.prog w [] 57 _ _ [(0, .slice a_0 q0.length c_0), (1, .bool q1), (6, .int .i64 x2), (7, .int .i64 x3)] [] _) aa ww hS
    clear hS
    simp only [sh62_1] at hres
    refine JX.seq ?_
    refine JX.seq ?_
    refine JX.region ?_
    refine JL.val (yl_move rfl) rfl ?_
    refine JL.val (yl_move rfl) rfl ?_
    refine JL.val (yl_len_slice Go.Proofs.Try.underlying42 rfl) rfl ?_
    refine JL.val (yl_lss rfl rfl) rfl ?_
    refine JL.nil ?_
    refine JE.weak (env' := [(0, .slice a_0 q0.length c_0), (1, .bool q1), (6, .int .i64 x2), (7, .int .i64 x3), (16, .bool (decide (x3 < (q0.length : Int))))]) (es' := []) [] ?_ ⟨rfl, rfl, rfl, rfl, rfl, trivial⟩ (by decide) rfl
    refine JE.code ?_
    rcases cond_some hres with ⟨hb, hres⟩ | ⟨hb, hres⟩
    · refine JX.condT rfl hb ?_
      refine JX.skip ?_
      refine JE.code ?_
      refine JX.seq ?_
      refine JX.block ?_
      refine JX.seq ?_
      refine JX.drawH [(0, .pure), (1, .pure), (2, .pure), (3, .pure), (4, .read), (5, .pure), (6, .pure), (7, .pure), (8, .read), (9, .two 10), (11, .must), (12, .must)] [11, 12] [] [] [] [] mixedP rfl (by kernel_rfl) (by decide) rfl rfl ?_
      intro wrr4 Nr4 hFr4
      refine JH.pure rfl (yl_move rfl) rfl ?_
      refine JH.pure rfl (yl_move rfl) rfl ?_
      refine JH.pure rfl (yl_sub rfl rfl) rfl ?_
      obtain ⟨x5, hx5, hres⟩ := bind_some hres
      refine JH.pure rfl (yl_idxQ Go.Proofs.Try.underlying42 i62 i62s rfl rfl hx5 rfl (rd_arg g_0 hFr4.cl) rfl) rfl ?_
      refine JH.read rfl (yl_loadTn Go.Proofs.Try.underlying62 rfl i62 i62s rfl hx5 (fun w hw => hFr4.arg g_0 hw)) rfl ?_
      refine JH.pure rfl (yl_move rfl) rfl ?_
      refine JH.pure rfl (yl_move rfl) rfl ?_
      obtain ⟨x6, hx6, hres⟩ := bind_some hres
      refine JH.pure rfl (yl_idxQ Go.Proofs.Try.underlying42 i62 i62s rfl rfl hx6 rfl (rd_arg g_0 hFr4.cl) rfl) rfl ?_
      refine JH.read rfl (yl_loadTn Go.Proofs.Try.underlying62 rfl i62 i62s rfl hx6 (fun w hw => hFr4.arg g_0 hw)) rfl ?_
      refine JH.cut (K := fun J => ∀ (g7 : Nat) (g9 : Nat), J [(0, .slice a_0 q0.length c_0), (1, .bool q1), (6, .int .i64 x2), (7, .int .i64 x3), (8, ptrAt (some ⟨g7, 0, none⟩) 0), (9, ptrAt (some ⟨g9, 0, none⟩) 0), (23, .agg #[.int .i64 x5.X, .int .i64 x5.Y, .int .i64 x5.Z]), (27, .agg #[.int .i64 x6.X, .int .i64 x6.Y, .int .i64 x6.Z])] [boxO 62 g7 [.int .i64 0, .int .i64 0, .int .i64 0], boxO 62 g9 [.int .i64 0, .int .i64 0, .int .i64 0]]) 1 ?_ ?_
      · intro g7 g9
        refine JH.must rfl (ef_store_box (i := 0) (v := .agg #[.int .i64 x5.X, .int .i64 x5.Y, .int .i64 x5.Z]) i62 rfl rfl rfl (i62s).symm (Nat.le_of_ble_eq_true rfl) (by simp [Value.cells, Value.oneCell'])) rfl rfl ?_
        rintro _ _ rfl
        refine JH.must rfl (ef_store_box (i := 1) (v := .agg #[.int .i64 x6.X, .int .i64 x6.Y, .int .i64 x6.Z]) i62 rfl rfl rfl (i62s).symm (Nat.le_of_ble_eq_true rfl) (by simp [Value.cells, Value.oneCell'])) rfl rfl ?_
        rintro _ _ rfl
        refine JH.nil ?_
        refine JE.weak (env' := [(0, .slice a_0 q0.length c_0), (1, .bool q1), (6, .int .i64 x2), (7, .int .i64 x3), (8, ptrAt (some ⟨g7, 0, none⟩) 0), (9, ptrAt (some ⟨g9, 0, none⟩) 0)]) (es' := [boxO 62 g7 [.int .i64 x5.X, .int .i64 x5.Y, .int .i64 x5.Z], boxO 62 g9 [.int .i64 x6.X, .int .i64 x6.Y, .int .i64 x6.Z]]) [0, 1] ?_ ⟨rfl, rfl, rfl, rfl, rfl, rfl, trivial⟩ (by decide) rfl
        refine JE.code ?_
        refine JX.seq ?_
        refine JX.region ?_
        refine JL.val (yl_fieldAt (a := some _) Go.Proofs.Try.underlying62 rfl i2 i2n rfl rfl) rfl ?_
        refine JL.val (yl_load1 Go.Proofs.Try.underlying2 rfl rfl (fun w hC => rd_box hC 0 rfl) rfl) rfl ?_
        refine JL.val (yl_lss rfl rfl) rfl ?_
        refine JL.val (yl_move rfl) rfl ?_
        refine JL.cut (K := fun J => J [(0, .slice a_0 q0.length c_0), (1, .bool q1), (6, .int .i64 x2), (7, .int .i64 x3), (8, ptrAt (some ⟨g7, 0, none⟩) 0), (9, ptrAt (some ⟨g9, 0, none⟩) 0), (35, .bool ((decide (x5.Z < 0)) || (decide (x6.Z < 0))))] [boxO 62 g7 [.int .i64 x5.X, .int .i64 x5.Y, .int .i64 x5.Z], boxO 62 g9 [.int .i64 x6.X, .int .i64 x6.Y, .int .i64 x6.Z]]) 4 ?_ ?_
        · refine JL.val (yl_move rfl) rfl ?_
          refine JL.val (yl_beql Go.Proofs.Try.underlying4 rfl rfl) rfl ?_
          refine JL.nil ?_
          refine JE.weak (env' := [(0, .slice a_0 q0.length c_0), (1, .bool q1), (6, .int .i64 x2), (7, .int .i64 x3), (8, ptrAt (some ⟨g7, 0, none⟩) 0), (9, ptrAt (some ⟨g9, 0, none⟩) 0), (37, .bool (((decide (x5.Z < 0)) || (decide (x6.Z < 0))) == q1))]) (es' := [boxO 62 g7 [.int .i64 x5.X, .int .i64 x5.Y, .int .i64 x5.Z], boxO 62 g9 [.int .i64 x6.X, .int .i64 x6.Y, .int .i64 x6.Z]]) [0, 1] ?_ ⟨rfl, rfl, rfl, rfl, rfl, rfl, rfl, trivial⟩ (by decide) rfl
          refine JE.code ?_
          obtain ⟨j11, hj11, hresj11⟩ := bind_some hres
          refine JX.cut (K := fun J => J [(0, .slice a_0 q0.length c_0), (1, .bool q1), (6, .int .i64 j11), (7, .int .i64 x3)] []) ?_ ?_
          · have hres := hresj11
            refine JE.code ?_
            refine JX.region ?_
            refine JL.val (yl_move rfl) rfl ?_
            refine JL.val (yl_add rfl rfl) rfl ?_
            refine JL.val (yl_assign rfl) rfl ?_
            refine JL.nil ?_
            refine JE.cont hres ?_
            exact fun a w h => h.weak ⟨rfl, rfl, rfl, rfl, trivial⟩ [] (by decide) rfl
          · intro K
            rcases cond_some hj11 with ⟨hb, hres⟩ | ⟨hb, hres⟩
            · refine JX.condT rfl hb ?_
              refine JX.drawH [(0, .pure), (1, .pure), (2, .read), (3, .pure), (4, .read), (6, .pure), (7, .read), (8, .pure), (9, .read), (11, .pure), (12, .read), (13, .pure), (14, .read), (5, .must), (10, .must), (15, .must), (16, .pure), (17, .pure), (18, .pure)] [] [] [0, 1] [] [boxO 62 g7 [.int .i64 x5.X, .int .i64 x5.Y, .int .i64 x5.Z], boxO 62 g9 [.int .i64 x6.X, .int .i64 x6.Y, .int .i64 x6.Z]] mixedP rfl (by kernel_rfl) (by decide) rfl rfl ?_
              intro wrr12 Nr12 hFr12
              refine JH.pure rfl (yl_move rfl) rfl ?_
              refine JH.pure rfl (yl_fieldAt (a := some _) Go.Proofs.Try.underlying62 rfl i2 i2n rfl rfl) rfl ?_
              refine JH.read rfl (yl_load1 Go.Proofs.Try.underlying2 rfl rfl (fun w hw => hFr12.box 0 rfl rfl hw) rfl) rfl ?_
              refine JH.pure rfl (yl_fieldAt (a := some _) Go.Proofs.Try.underlying62 rfl i2 i2n rfl rfl) rfl ?_
              refine JH.read rfl (yl_load1 Go.Proofs.Try.underlying2 rfl rfl (fun w hw => hFr12.box 1 rfl rfl hw) rfl) rfl ?_
              refine JH.pure rfl (yl_fieldAt (a := some _) Go.Proofs.Try.underlying62 rfl i2 i2n rfl rfl) rfl ?_
              refine JH.read rfl (yl_load1 Go.Proofs.Try.underlying2 rfl rfl (fun w hw => hFr12.box 0 rfl rfl hw) rfl) rfl ?_
              refine JH.pure rfl (yl_fieldAt (a := some _) Go.Proofs.Try.underlying62 rfl i2 i2n rfl rfl) rfl ?_
              refine JH.read rfl (yl_load1 Go.Proofs.Try.underlying2 rfl rfl (fun w hw => hFr12.box 1 rfl rfl hw) rfl) rfl ?_
              refine JH.pure rfl (yl_fieldAt (a := some _) Go.Proofs.Try.underlying62 rfl i2 i2n rfl rfl) rfl ?_
              refine JH.read rfl (yl_load1 Go.Proofs.Try.underlying2 rfl rfl (fun w hw => hFr12.box 0 rfl rfl hw) rfl) rfl ?_
              refine JH.pure rfl (yl_fieldAt (a := some _) Go.Proofs.Try.underlying62 rfl i2 i2n rfl rfl) rfl ?_
              refine JH.read rfl (yl_load1 Go.Proofs.Try.underlying2 rfl rfl (fun w hw => hFr12.box 1 rfl rfl hw) rfl) rfl ?_
              obtain ⟨x13, hx13, hres⟩ := bind_some hres
              refine JH.must rfl (ef_call (T := T83 x13) Go.Proofs.Try.func83 rfl (by kernel_rfl) rfl (fun w hC => c83  hx13)) rfl rfl ?_
              rintro _ _ ⟨_, ⟨rfl, rfl⟩, rfl⟩
              obtain ⟨x14, hx14, hres⟩ := bind_some hres
              refine JH.must rfl (ef_call (T := T83 x14) Go.Proofs.Try.func83 rfl (by kernel_rfl) rfl (fun w hC => c83  hx14)) rfl rfl ?_
              rintro _ _ ⟨_, ⟨rfl, rfl⟩, rfl⟩
              obtain ⟨x15, hx15, hres⟩ := bind_some hres
              refine JH.must rfl (ef_call (T := T83 x15) Go.Proofs.Try.func83 rfl (by kernel_rfl) rfl (fun w hC => c83  hx15)) rfl rfl ?_
              rintro _ _ ⟨_, ⟨rfl, rfl⟩, rfl⟩
              refine JH.pure rfl (yl_max3 rfl rfl rfl) rfl ?_
              refine JH.pure rfl (yl_add rfl rfl) rfl ?_
              refine JH.pure rfl (yl_assign rfl) rfl ?_
              refine JH.nil ?_
              refine JE.weak (env' := [(0, .slice a_0 q0.length c_0), (1, .bool q1), (6, .int .i64 (w64 (x2 + (if (if x13 < x14 then x14 else x13) < x15 then x15 else (if x13 < x14 then x14 else x13))))), (7, .int .i64 x3)]) (es' := []) [] ?_ ⟨rfl, rfl, rfl, rfl, trivial⟩ (by decide) rfl
              have hj := Option.some.inj hres
              exact JE.weak [] (K) ⟨(by subst hj; rfl), (by subst hj; rfl), (by subst hj; rfl), (by subst hj; rfl), trivial⟩ (by decide) (by subst hj; rfl)
            · refine JX.condF rfl hb ?_
              refine JX.skip ?_
              have hj := Option.some.inj hres
              exact JE.weak [] (K) ⟨(by subst hj; rfl), (by subst hj; rfl), (by subst hj; rfl), (by subst hj; rfl), trivial⟩ (by decide) (by subst hj; rfl)
        · intro K
          rcases Bool.eq_false_or_eq_true (decide (x5.Z < 0)) with hb | hb
          · refine JL.set (d := 31) (v := .bool true) (congrArg (fun b => some (Value.bool b)) hb) ?_
            refine JL.gskip rfl rfl rfl rfl ?_
            refine JL.gskip rfl rfl rfl rfl ?_
            refine JL.gskip rfl rfl rfl rfl ?_
            refine JL.val (yl_pick_true rfl rfl) rfl ?_
            exact JL.weak [0, 1] K ⟨rfl, rfl, rfl, rfl, rfl, rfl, (by rw [hb]; rfl), trivial⟩ (by decide) rfl
          · refine JL.set (d := 31) (v := .bool false) (congrArg (fun b => some (Value.bool b)) hb) ?_
            refine JL.gval rfl rfl (yl_fieldAt (a := some _) Go.Proofs.Try.underlying62 rfl i2 i2n rfl rfl) rfl ?_
            refine JL.gval rfl rfl (yl_load1 Go.Proofs.Try.underlying2 rfl rfl (fun w hC => rd_box hC 1 rfl) rfl) rfl ?_
            refine JL.gval rfl rfl (yl_lss rfl rfl) rfl ?_
            refine JL.val (yl_pick_false rfl rfl) rfl ?_
            exact JL.weak [0, 1] K ⟨rfl, rfl, rfl, rfl, rfl, rfl, (by rw [hb]; rfl), trivial⟩ (by decide) rfl
      · intro K
        refine JH.two ?_ ?_
        · refine JH.must rfl (ef_alloc i62 i62z rfl) rfl rfl ?_
          rintro _ _ ⟨g7, rfl, rfl⟩
          refine JH.must rfl (ef_alloc i62 i62z rfl) rfl rfl ?_
          rintro _ _ ⟨g9, rfl, rfl⟩
          exact JH.weak [0, 1] (K g7 g9) ⟨rfl, rfl, rfl, rfl, rfl, rfl, rfl, rfl, trivial⟩ (by decide) rfl
        · refine JH.must rfl (ef_alloc i62 i62z rfl) rfl rfl ?_
          rintro _ _ ⟨g9, rfl, rfl⟩
          refine JH.must rfl (ef_alloc i62 i62z rfl) rfl rfl ?_
          rintro _ _ ⟨g7, rfl, rfl⟩
          exact JH.weak [1, 0] (K g7 g9) ⟨rfl, rfl, rfl, rfl, rfl, rfl, rfl, rfl, trivial⟩ (by decide) rfl
    · refine JX.condF rfl hb ?_
      refine JX.exit ?_
      refine JE.qb rfl ?_
      obtain ⟨b1, hb1⟩ : ∃ b : Int, b = x2 := ⟨_, rfl⟩
      have hy1 : b1 = y1 := by rw [hb1]; exact hox1 _ (Option.some.inj hres).symm
      have hres := hresO1
      rw [← hy1] at hres
      refine JE.weak (env' := [(6, .int .i64 b1)]) (es' := []) [] ?_ ⟨(by subst hb1; rfl), trivial⟩ (by decide) (by subst hb1; rfl)
      refine JE.code ?_
      refine JX.seq ?_
      refine JX.region ?_
      refine JL.val (yl_move rfl) rfl ?_
      refine JL.val (yl_assign rfl) rfl ?_
      refine JL.val (yl_assign rfl) rfl ?_
      refine JL.nil ?_
      refine JE.code ?_
      refine JX.ret ?_
      obtain rfl := Option.some.inj hres
      refine JE.ret (rs := [.tmp 4, .tmp 5]) (vs := [.int .i64 b1, .int .i64 0]) rfl ⟨rfl, rfl, trivial⟩ ?_
      exact fun w' hb hs => ⟨_, _, ⟨rfl, rfl⟩, rfl, hb, hs.sel [] _ (by decide) rfl⟩

/- impl.TravelLength -/
def sh38 (q0 : List SToolMove) : Option (Int × Int) := Option.bind (sh62 q0 false) fun x1 => some (x1.1, x1.2)
def T38 (r : Int × Int) (v : Value) (rs : List Own) : Prop := v = rets [.int .i64 r.1, .int .i64 r.2] ∧ rs = []
set_option maxRecDepth 100000 in
theorem c38 {w : World} {q0 : List SToolMove} {a_0 : Option Addr} {n_0 c_0 : Nat} (g_0 : Rd w a_0 (eSToolMove.fl q0)) (l_0 : q0.length = n_0) {r : Int × Int} (hres : sh38 q0 = some r) : Calls Go.Proofs.Try.prog 38 [.slice a_0 n_0 c_0].toArray w (Ret w (T38 r)) := by
  subst l_0
  unfold sh38 at hres
  refine calls_of (n := 8) (M := []) (es := []) Go.Proofs.Try.func38 rfl rfl rfl (Sep.nil _ _ _) ?_
  refine JX.seq ?_
  refine JX.region ?_
  refine JL.val (yl_assign rfl) rfl ?_
  refine JL.val (yl_assign rfl) rfl ?_
  refine JL.nil ?_
  refine JE.code ?_
  refine JX.seq ?_
  refine JX.region ?_
  refine JL.val (yl_move rfl) rfl ?_
  obtain ⟨x1, hx1, hres⟩ := bind_some hres
  refine JL.eff (ef_call (T := T62 x1) Go.Proofs.Try.func62 rfl (by kernel_rfl) rfl (fun w hC => c62 (rd_arg g_0 hC) rfl hx1)) rfl ?_
  rintro _ _ ⟨_, ⟨rfl, rfl⟩, rfl⟩
  refine JL.val (yl_extract rfl rfl) rfl ?_
  refine JL.val (yl_extract rfl rfl) rfl ?_
  refine JL.val (yl_assign rfl) rfl ?_
  refine JL.val (yl_assign rfl) rfl ?_
  refine JL.nil ?_
  refine JE.weak (env' := [(2, .int .i64 x1.1), (3, .int .i64 x1.2)]) (es' := []) [] ?_ ⟨rfl, rfl, trivial⟩ (by decide) rfl
  refine JE.code ?_
  refine JX.ret ?_
  obtain rfl := Option.some.inj hres
  refine JE.ret (rs := [.tmp 2, .tmp 3]) (vs := [.int .i64 x1.1, .int .i64 x1.2]) rfl ⟨rfl, rfl, trivial⟩ ?_
  exact fun w' hb hs => ⟨_, _, ⟨rfl, rfl⟩, rfl, hb, hs.sel [] _ (by decide) rfl⟩

/- laws.FnExactTravelLength -/
def sh9 (q0 : List SToolMove) : Option (Bool) := Option.bind (sh32 q0 1048576) fun x1 => bif decide (x1 < 0) then (some true) else (Option.bind (sh34 q0) fun x2 => Option.bind (sh37 x2) fun x6 => Option.bind (sh34 q0) fun x7 => Option.bind (sh38 x7) fun x11 => bif (x11.1 != x6.1) || (x11.2 != x6.2) then (some false) else (Option.bind (sh34 q0) fun x12 => Option.bind (sh36 x7 x12) fun x16 => bif !x16 then (some false) else (some true)))
def T9 (r : Bool) (v : Value) (rs : List Own) : Prop := v = rets [.bool r] ∧ rs = []
set_option maxRecDepth 100000 in
theorem c9 {w : World} {q0 : List SToolMove} {a_0 : Option Addr} {n_0 c_0 : Nat} (g_0 : Rd w a_0 (eSToolMove.fl q0)) (l_0 : q0.length = n_0) {r : Bool} (hres : sh9 q0 = some r) : Calls Go.Proofs.Try.prog 9 [.slice a_0 n_0 c_0].toArray w (Ret w (T9 r)) := by
  subst l_0
  unfold sh9 at hres
  refine calls_of (n := 40) (M := []) (es := []) Go.Proofs.Try.func9 rfl rfl rfl (Sep.nil _ _ _) ?_
  refine JX.seq ?_
  refine JX.region ?_
  refine JL.val (yl_assign rfl) rfl ?_
  refine JL.nil ?_
  refine JE.code ?_
  refine JX.seq ?_
  refine JX.region ?_
  refine JL.val (yl_assign rfl) rfl ?_
  refine JL.nil ?_
  refine JE.code ?_
  refine JX.seq ?_
  refine JX.region ?_
  refine JL.val (yl_move rfl) rfl ?_
  refine JL.val (yl_move rfl) rfl ?_
  obtain ⟨x1, hx1, hres⟩ := bind_some hres
  refine JL.eff (ef_call (T := T32 x1) Go.Proofs.Try.func32 rfl (by kernel_rfl) rfl (fun w hC => c32 (rd_arg g_0 hC) rfl hx1)) rfl ?_
  rintro _ _ ⟨_, ⟨rfl, rfl⟩, rfl⟩
  refine JL.val (yl_assign rfl) rfl ?_
  refine JL.nil ?_
  refine JE.weak (env' := [(0, .slice a_0 q0.length c_0), (3, .int .i64 x1)]) (es' := []) [] ?_ ⟨rfl, rfl, trivial⟩ (by decide) rfl
  refine JE.code ?_
  refine JX.seq ?_
  refine JX.seq ?_
  refine JX.region ?_
  refine JL.val (yl_move rfl) rfl ?_
  refine JL.val (yl_lss rfl rfl) rfl ?_
  refine JL.nil ?_
  refine JE.code ?_
  rcases cond_some hres with ⟨hb, hres⟩ | ⟨hb, hres⟩
  · refine JX.condT rfl hb ?_
    refine JX.seq ?_
    refine JX.region ?_
    refine JL.val (yl_assign rfl) rfl ?_
    refine JL.nil ?_
    refine JE.code ?_
    refine JX.ret ?_
    obtain rfl := Option.some.inj hres
    refine JE.ret (rs := [.tmp 2]) (vs := [.bool true]) rfl ⟨rfl, trivial⟩ ?_
    exact fun w' hb hs => ⟨_, _, ⟨rfl, rfl⟩, rfl, hb, hs.sel [] _ (by decide) rfl⟩
  · refine JX.condF rfl hb ?_
    refine JX.skip ?_
    refine JE.code ?_
    refine JX.seq ?_
    refine JX.region ?_
    refine JL.val (yl_move rfl) rfl ?_
    obtain ⟨x2, hx2, hres⟩ := bind_some hres
    refine JL.eff (ef_call (T := T34 x2) Go.Proofs.Try.func34 rfl (by kernel_rfl) rfl (fun w hC => c34 (rd_arg g_0 hC) rfl hx2)) rfl ?_
    rintro _ _ ⟨_, ⟨a3, _, c4, rfl, rfl, rfl⟩, rfl⟩
    obtain ⟨x6, hx6, hres⟩ := bind_some hres
    refine JL.eff (ef_call (T := T37 x6) Go.Proofs.Try.func37 rfl (by kernel_rfl) rfl (fun w hC => c37 (rd_row hC 0 rfl) rfl hx6)) rfl ?_
    rintro _ _ ⟨_, ⟨rfl, rfl⟩, rfl⟩
    refine JL.val (yl_move rfl) rfl ?_
    refine JL.val (yl_extract rfl rfl) rfl ?_
    refine JL.val (yl_extract rfl rfl) rfl ?_
    refine JL.val (yl_assign rfl) rfl ?_
    refine JL.val (yl_assign rfl) rfl ?_
    refine JL.nil ?_
    refine JE.weak (env' := [(0, .slice a_0 q0.length c_0), (4, .int .i64 x6.1), (5, .int .i64 x6.2)]) (es' := []) [] ?_ ⟨rfl, rfl, rfl, trivial⟩ (by decide) rfl
    refine JE.code ?_
    refine JX.seq ?_
    refine JX.region ?_
    refine JL.val (yl_move rfl) rfl ?_
    obtain ⟨x7, hx7, hres⟩ := bind_some hres
    refine JL.eff (ef_call (T := T34 x7) Go.Proofs.Try.func34 rfl (by kernel_rfl) rfl (fun w hC => c34 (rd_arg g_0 hC) rfl hx7)) rfl ?_
    rintro _ _ ⟨_, ⟨a8, _, c9, rfl, rfl, rfl⟩, rfl⟩
    refine JL.val (yl_assign rfl) rfl ?_
    refine JL.nil ?_
    refine JE.code ?_
    refine JX.seq ?_
    refine JX.region ?_
    refine JL.val (yl_move rfl) rfl ?_
    obtain ⟨x11, hx11, hres⟩ := bind_some hres
    refine JL.eff (ef_call (T := T38 x11) Go.Proofs.Try.func38 rfl (by kernel_rfl) rfl (fun w hC => c38 (rd_row hC 0 rfl) rfl hx11)) rfl ?_
    rintro _ _ ⟨_, ⟨rfl, rfl⟩, rfl⟩
    refine JL.val (yl_move rfl) rfl ?_
    refine JL.val (yl_extract rfl rfl) rfl ?_
    refine JL.val (yl_extract rfl rfl) rfl ?_
    refine JL.val (yl_assign rfl) rfl ?_
    refine JL.val (yl_assign rfl) rfl ?_
    refine JL.nil ?_
    refine JE.weak (env' := [(0, .slice a_0 q0.length c_0), (4, .int .i64 x6.1), (5, .int .i64 x6.2), (6, .slice a8 x7.length c9), (7, .int .i64 x11.1), (8, .int .i64 x11.2)]) (es' := [rowT 62 eSToolMove a8 x7.length c9 x7]) [0] ?_ ⟨rfl, rfl, rfl, rfl, rfl, rfl, trivial⟩ (by decide) rfl
    refine JE.code ?_
    refine JX.seq ?_
    refine JX.seq ?_
    refine JX.region ?_
    refine JL.val (yl_move rfl) rfl ?_
    refine JL.val (yl_move rfl) rfl ?_
    refine JL.val (yl_neq rfl rfl) rfl ?_
    refine JL.val (yl_move rfl) rfl ?_
    refine JL.cut (K := fun J => J [(0, .slice a_0 q0.length c_0), (6, .slice a8 x7.length c9), (34, .bool ((x11.1 != x6.1) || (x11.2 != x6.2)))] [rowT 62 eSToolMove a8 x7.length c9 x7]) 4 ?_ ?_
    · refine JL.nil ?_
      refine JE.weak (env' := [(0, .slice a_0 q0.length c_0), (6, .slice a8 x7.length c9), (34, .bool ((x11.1 != x6.1) || (x11.2 != x6.2)))]) (es' := [rowT 62 eSToolMove a8 x7.length c9 x7]) [0] ?_ ⟨rfl, rfl, rfl, trivial⟩ (by decide) rfl
      refine JE.code ?_
      rcases cond_some hres with ⟨hb, hres⟩ | ⟨hb, hres⟩
      · refine JX.condT rfl hb ?_
        refine JX.seq ?_
        refine JX.region ?_
        refine JL.val (yl_assign rfl) rfl ?_
        refine JL.nil ?_
        refine JE.weak (env' := [(2, .bool false)]) (es' := []) [] ?_ ⟨rfl, trivial⟩ (by decide) rfl
        refine JE.code ?_
        refine JX.ret ?_
        obtain rfl := Option.some.inj hres
        refine JE.ret (rs := [.tmp 2]) (vs := [.bool false]) rfl ⟨rfl, trivial⟩ ?_
        exact fun w' hb hs => ⟨_, _, ⟨rfl, rfl⟩, rfl, hb, hs.sel [] _ (by decide) rfl⟩
      · refine JX.condF rfl hb ?_
        refine JX.skip ?_
        refine JE.code ?_
        refine JX.seq ?_
        refine JX.seq ?_
        refine JX.region ?_
        refine JL.val (yl_move rfl) rfl ?_
        refine JL.val (yl_move rfl) rfl ?_
        obtain ⟨x12, hx12, hres⟩ := bind_some hres
        refine JL.eff (ef_call (T := T34 x12) Go.Proofs.Try.func34 rfl (by kernel_rfl) rfl (fun w hC => c34 (rd_arg g_0 hC) rfl hx12)) rfl ?_
        rintro _ _ ⟨_, ⟨a13, _, c14, rfl, rfl, rfl⟩, rfl⟩
        obtain ⟨x16, hx16, hres⟩ := bind_some hres
        refine JL.eff (ef_call (T := T36 x16) Go.Proofs.Try.func36 rfl (by kernel_rfl) rfl (fun w hC => c36 (rd_row hC 0 rfl) rfl (rd_row hC 1 rfl) rfl hx16)) rfl ?_
        rintro _ _ ⟨_, ⟨rfl, rfl⟩, rfl⟩
        refine JL.val (yl_not rfl) rfl ?_
        refine JL.nil ?_
        refine JE.weak (env' := [(39, .bool !x16)]) (es' := []) [] ?_ ⟨rfl, trivial⟩ (by decide) rfl
        refine JE.code ?_
        rcases cond_some hres with ⟨hb, hres⟩ | ⟨hb, hres⟩
        · refine JX.condT rfl hb ?_
          refine JX.seq ?_
          refine JX.region ?_
          refine JL.val (yl_assign rfl) rfl ?_
          refine JL.nil ?_
          refine JE.code ?_
          refine JX.ret ?_
          obtain rfl := Option.some.inj hres
          refine JE.ret (rs := [.tmp 2]) (vs := [.bool false]) rfl ⟨rfl, trivial⟩ ?_
          exact fun w' hb hs => ⟨_, _, ⟨rfl, rfl⟩, rfl, hb, hs.sel [] _ (by decide) rfl⟩
        · refine JX.condF rfl hb ?_
          refine JX.skip ?_
          refine JE.code ?_
          refine JX.seq ?_
          refine JX.region ?_
          refine JL.val (yl_assign rfl) rfl ?_
          refine JL.nil ?_
          refine JE.code ?_
          refine JX.ret ?_
          obtain rfl := Option.some.inj hres
          refine JE.ret (rs := [.tmp 2]) (vs := [.bool true]) rfl ⟨rfl, trivial⟩ ?_
          exact fun w' hb hs => ⟨_, _, ⟨rfl, rfl⟩, rfl, hb, hs.sel [] _ (by decide) rfl⟩
    · intro K
      rcases Bool.eq_false_or_eq_true (x11.1 != x6.1) with hb | hb
      · refine JL.set (d := 30) (v := .bool true) (congrArg (fun b => some (Value.bool b)) hb) ?_
        refine JL.gskip rfl rfl rfl rfl ?_
        refine JL.gskip rfl rfl rfl rfl ?_
        refine JL.gskip rfl rfl rfl rfl ?_
        refine JL.val (yl_pick_true rfl rfl) rfl ?_
        exact JL.weak [0] K ⟨rfl, rfl, (by rw [hb]; rfl), trivial⟩ (by decide) rfl
      · refine JL.set (d := 30) (v := .bool false) (congrArg (fun b => some (Value.bool b)) hb) ?_
        refine JL.gval rfl rfl (yl_move rfl) rfl ?_
        refine JL.gval rfl rfl (yl_move rfl) rfl ?_
        refine JL.gval rfl rfl (yl_neq rfl rfl) rfl ?_
        refine JL.val (yl_pick_false rfl rfl) rfl ?_
        exact JL.weak [0] K ⟨rfl, rfl, (by rw [hb]; rfl), trivial⟩ (by decide) rfl

end Go.Sh
