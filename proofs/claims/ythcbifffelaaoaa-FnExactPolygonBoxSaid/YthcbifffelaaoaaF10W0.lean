/- Walks through functions that the law reaches, printed by program. -/
import Derived.Test.YthcbifffelaaoaaF10T
namespace Go.Sh
open Go Go.RowKit
/- laws.szPointS -/
def sh27 (q0 : List SPoint) (q1 : Int) : Option (Int) := bif decide ((w64 (q1 - (q0.length : Int))) < 0) then (some (-1)) else (some (w64 (q1 - (q0.length : Int))))
def T27 (r : Int) (v : Value) (rs : List Own) : Prop := v = rets [.int .i64 r] ∧ rs = []
set_option maxRecDepth 100000 in
theorem c27 {w : World} {q0 : List SPoint} {a_0 : Option Addr} {n_0 c_0 : Nat} (g_0 : Rd w a_0 (eSPoint.fl q0)) (l_0 : q0.length = n_0) {q1 : Int} {r : Int} (hres : sh27 q0 q1 = some r) : Calls Go.Proofs.Try.prog 27 [.slice a_0 n_0 c_0, .int .i64 q1].toArray w (Ret w (T27 r)) := by
  subst l_0
  unfold sh27 at hres
  refine calls_of (n := 12) (M := []) (es := []) Go.Proofs.Try.func27 rfl rfl rfl (Sep.nil _ _ _) ?_
  refine JX.seq ?_
  refine JX.region ?_
  refine JL.val (yl_assign rfl) rfl ?_
  refine JL.nil ?_
  refine JE.code ?_
  refine JX.seq ?_
  refine JX.region ?_
  refine JL.val (yl_move rfl) rfl ?_
  refine JL.val (yl_move rfl) rfl ?_
  refine JL.val (yl_len_slice Go.Proofs.Try.underlying31 rfl) rfl ?_
  refine JL.val (yl_sub rfl rfl) rfl ?_
  refine JL.val (yl_assign rfl) rfl ?_
  refine JL.nil ?_
  refine JE.weak (env' := [(1, .int .i64 (w64 (q1 - (q0.length : Int))))]) (es' := []) [] ?_ ⟨rfl, trivial⟩ (by decide) rfl
  refine JE.code ?_
  refine JX.seq ?_
  refine JX.seq ?_
  refine JX.region ?_
  refine JL.val (yl_move rfl) rfl ?_
  refine JL.val (yl_lss rfl rfl) rfl ?_
  refine JL.nil ?_
  refine JE.code ?_
  rcases cond_some hres with ⟨hb, hres⟩ | ⟨hb, hres⟩
  · refine JX.condT rfl hb ?_
    refine JX.seq ?_
    refine JX.region ?_
    refine JL.val (yl_assign rfl) rfl ?_
    refine JL.nil ?_
    refine JE.code ?_
    refine JX.ret ?_
    obtain rfl := Option.some.inj hres
    refine JE.ret (rs := [.tmp 4]) (vs := [.int .i64 (-1)]) rfl ⟨rfl, trivial⟩ ?_
    exact fun w' hb hs => ⟨_, _, ⟨rfl, rfl⟩, rfl, hb, hs.sel [] _ (by decide) rfl⟩
  · refine JX.condF rfl hb ?_
    refine JX.skip ?_
    refine JE.code ?_
    refine JX.seq ?_
    refine JX.region ?_
    refine JL.val (yl_move rfl) rfl ?_
    refine JL.val (yl_assign rfl) rfl ?_
    refine JL.nil ?_
    refine JE.code ?_
    refine JX.ret ?_
    obtain rfl := Option.some.inj hres
    refine JE.ret (rs := [.tmp 4]) (vs := [.int .i64 (w64 (q1 - (q0.length : Int)))]) rfl ⟨rfl, trivial⟩ ?_
    exact fun w' hb hs => ⟨_, _, ⟨rfl, rfl⟩, rfl, hb, hs.sel [] _ (by decide) rfl⟩

/- laws.toPoint -/
def sh56 (q0 : SPoint) : Option (SPoint) := some q0
def T56 (r : SPoint) (v : Value) (rs : List Own) : Prop := v = rets [.agg #[.int .i64 r.X, .int .i64 r.Y]] ∧ rs = []
set_option maxRecDepth 100000 in
theorem c56 {w : World} {q0 : SPoint} {r : SPoint} (hres : sh56 q0 = some r) : Calls Go.Proofs.Try.prog 56 [.agg #[.int .i64 q0.X, .int .i64 q0.Y]].toArray w (Ret w (T56 r)) := by
  unfold sh56 at hres
  refine calls_of (n := 11) (M := []) (es := []) Go.Proofs.Try.func56 rfl rfl rfl (Sep.nil _ _ _) ?_
  refine JX.seq ?_
  refine JX.region ?_
  refine JL.eff (ef_box rfl rfl) rfl ?_
  rintro _ _ ⟨g1, rfl, rfl⟩
  refine JL.eff (ef_alloc i47 i47z rfl) rfl ?_
  rintro _ _ ⟨g3, rfl, rfl⟩
  refine JL.nil ?_
  refine JE.code ?_
  refine JX.seq ?_
  refine JX.region ?_
  refine JL.eff (ef_alloc i47 i47z rfl) rfl ?_
  rintro _ _ ⟨g5, rfl, rfl⟩
  refine JL.nil ?_
  refine JE.code ?_
  refine JX.seq ?_
  refine JX.region ?_
  refine JL.val (yl_fieldAt (a := some _) Go.Proofs.Try.underlying58 rfl i2 i2n rfl rfl) rfl ?_
  refine JL.val (yl_load1 Go.Proofs.Try.underlying2 rfl rfl (fun w hC => rd_box hC 0 rfl) rfl) rfl ?_
  refine JL.val (yl_fieldAt (a := some _) Go.Proofs.Try.underlying47 rfl i2 i2n rfl rfl) rfl ?_
  refine JL.eff (ef_store_box (i := 2) (v := .int .i64 q0.X) i2 rfl rfl rfl (i2s).symm (Nat.le_of_ble_eq_true rfl) (by simp [Value.cells, Value.oneCell'])) rfl ?_
  rintro _ _ rfl
  refine JL.nil ?_
  refine JE.weak (env' := [(1, ptrAt (some ⟨g1, 0, none⟩) 0), (2, ptrAt (some ⟨g3, 0, none⟩) 0), (3, ptrAt (some ⟨g5, 0, none⟩) 0)]) (es' := [boxO 58 g1 [.int .i64 q0.X, .int .i64 q0.Y], boxO 47 g3 [.int .i64 0, .int .i64 0], boxO 47 g5 [.int .i64 q0.X, .int .i64 0]]) [0, 1, 2] ?_ ⟨rfl, rfl, rfl, trivial⟩ (by decide) rfl
  refine JE.code ?_
  refine JX.seq ?_
  refine JX.region ?_
  refine JL.val (yl_fieldAt (a := some _) Go.Proofs.Try.underlying58 rfl i2 i2n rfl rfl) rfl ?_
  refine JL.val (yl_load1 Go.Proofs.Try.underlying2 rfl rfl (fun w hC => rd_box hC 0 rfl) rfl) rfl ?_
  refine JL.val (yl_fieldAt (a := some _) Go.Proofs.Try.underlying47 rfl i2 i2n rfl rfl) rfl ?_
  refine JL.eff (ef_store_box (i := 2) (v := .int .i64 q0.Y) i2 rfl rfl rfl (i2s).symm (Nat.le_of_ble_eq_true rfl) (by simp [Value.cells, Value.oneCell'])) rfl ?_
  rintro _ _ rfl
  refine JL.nil ?_
  refine JE.weak (env' := [(2, ptrAt (some ⟨g3, 0, none⟩) 0), (3, ptrAt (some ⟨g5, 0, none⟩) 0)]) (es' := [boxO 47 g3 [.int .i64 0, .int .i64 0], boxO 47 g5 [.int .i64 q0.X, .int .i64 q0.Y]]) [1, 2] ?_ ⟨rfl, rfl, trivial⟩ (by decide) rfl
  refine JE.code ?_
  refine JX.seq ?_
  refine JX.region ?_
  refine JL.val (yl_loadn Go.Proofs.Try.underlying47 rfl i47 rfl (fun w hC => rd_box hC 1 rfl) rfl (i47s).symm i47p) rfl ?_
  refine JL.eff (ef_store_box (i := 0) (v := .agg #[.int .i64 q0.X, .int .i64 q0.Y]) i47 rfl rfl rfl (i47s).symm (Nat.le_of_ble_eq_true rfl) (by simp [Value.cells, Value.oneCell'])) rfl ?_
  rintro _ _ rfl
  refine JL.nil ?_
  refine JE.weak (env' := [(2, ptrAt (some ⟨g3, 0, none⟩) 0)]) (es' := [boxO 47 g3 [.int .i64 q0.X, .int .i64 q0.Y]]) [0] ?_ ⟨rfl, trivial⟩ (by decide) rfl
  refine JE.code ?_
  refine JX.ret ?_
  obtain rfl := Option.some.inj hres
  refine JE.ret (rs := [.cell 2 47]) (vs := [.agg #[.int .i64 q0.X, .int .i64 q0.Y]]) rfl ⟨rv_box 0 rfl rfl Go.Proofs.Try.underlying47 rfl i47 (i47s).symm, trivial⟩ ?_
  exact fun w' hb hs => ⟨_, _, ⟨rfl, rfl⟩, rfl, hb, hs.sel [] _ (by decide) rfl⟩

/- laws.toPointS -/
def sh29_1 (q0 : List SPoint) : (Int × List SPoint) → Option ((Int × List SPoint) ⊕ (List SPoint))
  | (x5, x6) => bif decide (x5 < (q0.length : Int)) then (Option.bind (getI q0 x5) fun x8 => Option.bind (sh56 x8) fun x9 => Option.bind (getI x6 x5) fun x10 => some (.inl (w64 (x5 + 1), x6.set (x5).toNat x9))) else (some (.inr x6))
def sh29 (q0 : List SPoint) : Option (List SPoint) := Option.bind (mkL (q0.length : Int) (SPoint.mk 0 0)) fun x1 => Option.bind (iter (sh29_1 q0) (0, x1)) fun b1 => (some b1)
def T29 (r : List SPoint) (v : Value) (rs : List Own) : Prop := ∃ (a0 : Option Addr) (n0 c0 : Nat), r.length = n0 ∧ v = rets [.slice a0 n0 c0] ∧ rs = [rowT 47 eSPoint a0 n0 c0 r]
set_option maxRecDepth 100000 in
theorem c29 {w : World} {q0 : List SPoint} {a_0 : Option Addr} {n_0 c_0 : Nat} (g_0 : Rd w a_0 (eSPoint.fl q0)) (l_0 : q0.length = n_0) {r : List SPoint} (hres : sh29 q0 = some r) : Calls Go.Proofs.Try.prog 29 [.slice a_0 n_0 c_0].toArray w (Ret w (T29 r)) := by
  subst l_0
  unfold sh29 at hres
  refine calls_of (n := 23) (M := []) (es := []) Go.Proofs.Try.func29 rfl rfl rfl (Sep.nil _ _ _) ?_
  refine JX.seq ?_
  refine JX.region ?_
  refine JL.val (yl_assign rfl) rfl ?_
  refine JL.nil ?_
  refine JE.code ?_
  refine JX.seq ?_
  refine JX.region ?_
  refine JL.val (yl_move rfl) rfl ?_
  refine JL.val (yl_len_slice Go.Proofs.Try.underlying31 rfl) rfl ?_
  obtain ⟨x1, hx1, hres⟩ := bind_some hres
  refine JL.eff (ef_makeS (e := eSPoint) Go.Proofs.Try.underlying35 i47 i47s i47z rfl i47b1 rfl rfl hx1) rfl ?_
  rintro _ _ ⟨a2, rfl, rfl⟩
  refine JL.val (yl_assign rfl) rfl ?_
  refine JL.nil ?_
  refine JE.weak (env' := [(0, .slice a_0 q0.length c_0), (3, .slice a2 x1.length x1.length)]) (es' := [rowT 47 eSPoint a2 x1.length x1.length x1]) [0] ?_ ⟨rfl, rfl, trivial⟩ (by decide) rfl
  refine JE.code ?_
  refine JX.seq ?_
  refine JX.seq ?_
  refine JX.region ?_
  refine JL.val (yl_assign rfl) rfl ?_
  refine JL.nil ?_
  refine JE.code ?_
  refine JX.block ?_
  obtain ⟨y1, hy1, hresO1⟩ := bind_some hres
  refine JX.loop (I := fun (s1 : Int × List SPoint) aa ww => ∃ (l4 : s1.2.length = x1.length), St w [] 23 [(0, .slice a_0 q0.length c_0), (3, .slice a2 x1.length x1.length), (4, .int .i64 s1.1)] [rowT 47 eSPoint a2 x1.length x1.length s1.2] aa ww) (sh29_1 q0) hy1 (fun a w h => ⟨rfl, h.weak ⟨rfl, rfl, rfl, trivial⟩ [0] (by decide) rfl⟩) ?_
  rintro ⟨x5, x6⟩ o1 hres hox1 aa ww ⟨l7, hS⟩
  refine (?_ : JX Go.Proofs.Try.prog w [] 23 _ _ [(0, .slice a_0 q0.length c_0), (3, .slice a2 x1.length x1.length), (4, .int .i64 x5)] [rowT 47 eSPoint a2 x1.length x1.length x6] _) aa ww hS
  clear hS
  simp only [sh29_1] at hres
  refine JX.seq ?_
  refine JX.seq ?_
  refine JX.region ?_
  refine JL.val (yl_move rfl) rfl ?_
  refine JL.val (yl_move rfl) rfl ?_
  refine JL.val (yl_len_slice Go.Proofs.Try.underlying31 rfl) rfl ?_
  refine JL.val (yl_lss rfl rfl) rfl ?_
  refine JL.nil ?_
  refine JE.weak (env' := [(0, .slice a_0 q0.length c_0), (3, .slice a2 x1.length x1.length), (4, .int .i64 x5), (11, .bool (decide (x5 < (q0.length : Int))))]) (es' := [rowT 47 eSPoint a2 x1.length x1.length x6]) [0] ?_ ⟨rfl, rfl, rfl, rfl, trivial⟩ (by decide) rfl
  refine JE.code ?_
  rcases cond_some hres with ⟨hb, hres⟩ | ⟨hb, hres⟩
  · refine JX.condT rfl hb ?_
    refine JX.skip ?_
    refine JE.code ?_
    refine JX.seq ?_
    refine JX.block ?_
    refine JX.region ?_
    refine JL.val (yl_move rfl) rfl ?_
    refine JL.val (yl_move rfl) rfl ?_
    refine JL.val (yl_move rfl) rfl ?_
    refine JL.val (yl_move rfl) rfl ?_
    obtain ⟨x8, hx8, hres⟩ := bind_some hres
    refine JL.val (yl_idxT Go.Proofs.Try.underlying31 i58 i58s rfl rfl hx8 rfl (fun w hC => rd_arg g_0 hC)) rfl ?_
    refine JL.val (yl_loadTn Go.Proofs.Try.underlying58 rfl i58 i58s rfl hx8 (fun w hC => rd_arg g_0 hC)) rfl ?_
    obtain ⟨x9, hx9, hres⟩ := bind_some hres
    refine JL.eff (ef_call (vs := [.agg #[.int .i64 x8.X, .int .i64 x8.Y]]) (T := T56 x9) Go.Proofs.Try.func56 rfl (by kernel_rfl) rfl (fun w hC => c56 (q0 := x8) hx9)) rfl ?_
    rintro _ _ ⟨_, ⟨rfl, rfl⟩, rfl⟩
    obtain ⟨x10, hx10, hres⟩ := bind_some hres
    refine JL.val (yl_idxT Go.Proofs.Try.underlying35 i47 i47s rfl rfl hx10 l7 (fun w hC => rd_row hC 0 rfl)) rfl ?_
    refine JL.eff (ef_storeT (ix := 0) (u := x9) i47 i47s rfl rfl rfl hx10 rfl) rfl ?_
    rintro _ _ rfl
    refine JL.nil ?_
    refine JE.weak (env' := [(0, .slice a_0 q0.length c_0), (3, .slice a2 x1.length x1.length), (4, .int .i64 x5)]) (es' := [rowT 47 eSPoint a2 x1.length x1.length (x6.set (x5).toNat x9)]) [0] ?_ ⟨rfl, rfl, rfl, trivial⟩ (by decide) rfl
    refine JE.code ?_
    refine JX.region ?_
    refine JL.val (yl_move rfl) rfl ?_
    refine JL.val (yl_add rfl rfl) rfl ?_
    refine JL.val (yl_assign rfl) rfl ?_
    refine JL.nil ?_
    refine JE.cont hres ?_
    exact fun a w h => ⟨(List.length_set.trans l7), h.weak ⟨rfl, rfl, rfl, trivial⟩ [0] (by decide) rfl⟩
  · refine JX.condF rfl hb ?_
    refine JX.exit ?_
    refine JE.qb rfl ?_
    obtain ⟨b1, hb1⟩ : ∃ b : List SPoint, b = x6 := ⟨_, rfl⟩
    have hy1 : b1 = y1 := by rw [hb1]; exact hox1 _ (Option.some.inj hres).symm
    have hres := hresO1
    rw [← hy1] at hres
    have l11 : b1.length = x1.length := by subst hb1; exact l7
    refine JE.weak (env' := [(3, .slice a2 x1.length x1.length)]) (es' := [rowT 47 eSPoint a2 x1.length x1.length b1]) [0] ?_ ⟨(by subst hb1; rfl), trivial⟩ (by decide) (by subst hb1; rfl)
    refine JE.code ?_
    refine JX.seq ?_
    refine JX.region ?_
    refine JL.val (yl_move rfl) rfl ?_
    refine JL.val (yl_assign rfl) rfl ?_
    refine JL.nil ?_
    refine JE.code ?_
    refine JX.ret ?_
    obtain rfl := Option.some.inj hres
    refine JE.ret (rs := [.tmp 2]) (vs := [.slice a2 x1.length x1.length]) rfl ⟨rfl, trivial⟩ ?_
    exact fun w' hb hs => ⟨_, _, ⟨a2, x1.length, x1.length, l11, rfl, rfl⟩, rfl, hb, hs.sel [0] _ (by decide) rfl⟩

/- laws.eqPoint -/
def sh41 (q0 : SPoint) (q1 : SPoint) : Option (Bool) := bif q0.X != q1.X then (some false) else (bif q0.Y != q1.Y then (some false) else (some true))
def T41 (r : Bool) (v : Value) (rs : List Own) : Prop := v = rets [.bool r] ∧ rs = []
set_option maxRecDepth 100000 in
theorem c41 {w : World} {q0 : SPoint} {q1 : SPoint} {r : Bool} (hres : sh41 q0 q1 = some r) : Calls Go.Proofs.Try.prog 41 [.agg #[.int .i64 q0.X, .int .i64 q0.Y], .agg #[.int .i64 q1.X, .int .i64 q1.Y]].toArray w (Ret w (T41 r)) := by
  unfold sh41 at hres
  refine calls_of (n := 15) (M := []) (es := []) Go.Proofs.Try.func41 rfl rfl rfl (Sep.nil _ _ _) ?_
  refine JX.seq ?_
  refine JX.region ?_
  refine JL.eff (ef_box rfl rfl) rfl ?_
  rintro _ _ ⟨g1, rfl, rfl⟩
  refine JL.eff (ef_box rfl rfl) rfl ?_
  rintro _ _ ⟨g3, rfl, rfl⟩
  refine JL.val (yl_assign rfl) rfl ?_
  refine JL.nil ?_
  refine JE.code ?_
  refine JX.seq ?_
  refine JX.seq ?_
  refine JX.region ?_
  refine JL.val (yl_fieldAt (a := some _) Go.Proofs.Try.underlying47 rfl i2 i2n rfl rfl) rfl ?_
  refine JL.val (yl_load1 Go.Proofs.Try.underlying2 rfl rfl (fun w hC => rd_box hC 0 rfl) rfl) rfl ?_
  refine JL.val (yl_fieldAt (a := some _) Go.Proofs.Try.underlying47 rfl i2 i2n rfl rfl) rfl ?_
  refine JL.val (yl_load1 Go.Proofs.Try.underlying2 rfl rfl (fun w hC => rd_box hC 1 rfl) rfl) rfl ?_
  refine JL.val (yl_neq rfl rfl) rfl ?_
  refine JL.nil ?_
  refine JE.weak (env' := [(2, ptrAt (some ⟨g1, 0, none⟩) 0), (3, ptrAt (some ⟨g3, 0, none⟩) 0), (9, .bool (q0.X != q1.X))]) (es' := [boxO 47 g1 [.int .i64 q0.X, .int .i64 q0.Y], boxO 47 g3 [.int .i64 q1.X, .int .i64 q1.Y]]) [0, 1] ?_ ⟨rfl, rfl, rfl, trivial⟩ (by decide) rfl
  refine JE.code ?_
  rcases cond_some hres with ⟨hb, hres⟩ | ⟨hb, hres⟩
  · refine JX.condT rfl hb ?_
    refine JX.seq ?_
    refine JX.region ?_
    refine JL.val (yl_assign rfl) rfl ?_
    refine JL.nil ?_
    refine JE.weak (env' := [(4, .bool false)]) (es' := []) [] ?_ ⟨rfl, trivial⟩ (by decide) rfl
    refine JE.code ?_
    refine JX.ret ?_
    obtain rfl := Option.some.inj hres
    refine JE.ret (rs := [.tmp 4]) (vs := [.bool false]) rfl ⟨rfl, trivial⟩ ?_
    exact fun w' hb hs => ⟨_, _, ⟨rfl, rfl⟩, rfl, hb, hs.sel [] _ (by decide) rfl⟩
  · refine JX.condF rfl hb ?_
    refine JX.skip ?_
    refine JE.code ?_
    refine JX.seq ?_
    refine JX.seq ?_
    refine JX.region ?_
    refine JL.val (yl_fieldAt (a := some _) Go.Proofs.Try.underlying47 rfl i2 i2n rfl rfl) rfl ?_
    refine JL.val (yl_load1 Go.Proofs.Try.underlying2 rfl rfl (fun w hC => rd_box hC 0 rfl) rfl) rfl ?_
    refine JL.val (yl_fieldAt (a := some _) Go.Proofs.Try.underlying47 rfl i2 i2n rfl rfl) rfl ?_
    refine JL.val (yl_load1 Go.Proofs.Try.underlying2 rfl rfl (fun w hC => rd_box hC 1 rfl) rfl) rfl ?_
    refine JL.val (yl_neq rfl rfl) rfl ?_
    refine JL.nil ?_
    refine JE.weak (env' := [(14, .bool (q0.Y != q1.Y))]) (es' := []) [] ?_ ⟨rfl, trivial⟩ (by decide) rfl
    refine JE.code ?_
    rcases cond_some hres with ⟨hb, hres⟩ | ⟨hb, hres⟩
    · refine JX.condT rfl hb ?_
      refine JX.seq ?_
      refine JX.region ?_
      refine JL.val (yl_assign rfl) rfl ?_
      refine JL.nil ?_
      refine JE.code ?_
      refine JX.ret ?_
      obtain rfl := Option.some.inj hres
      refine JE.ret (rs := [.tmp 4]) (vs := [.bool false]) rfl ⟨rfl, trivial⟩ ?_
      exact fun w' hb hs => ⟨_, _, ⟨rfl, rfl⟩, rfl, hb, hs.sel [] _ (by decide) rfl⟩
    · refine JX.condF rfl hb ?_
      refine JX.skip ?_
      refine JE.code ?_
      refine JX.seq ?_
      refine JX.region ?_
      refine JL.val (yl_assign rfl) rfl ?_
      refine JL.nil ?_
      refine JE.code ?_
      refine JX.ret ?_
      obtain rfl := Option.some.inj hres
      refine JE.ret (rs := [.tmp 4]) (vs := [.bool true]) rfl ⟨rfl, trivial⟩ ?_
      exact fun w' hb hs => ⟨_, _, ⟨rfl, rfl⟩, rfl, hb, hs.sel [] _ (by decide) rfl⟩

/- laws.eqPointS -/
def sh31_1 (q0 : List SPoint) (q1 : List SPoint) : Int → Option (Int ⊕ (Unit ⊕ Bool))
  | x1 => bif decide (x1 < (q0.length : Int)) then (Option.bind (getI q0 x1) fun x3 => Option.bind (getI q1 x1) fun x4 => Option.bind (sh41 x3 x4) fun x5 => bif !x5 then (some (.inr (.inr false))) else (some (.inl (w64 (x1 + 1))))) else (some (.inr (.inl ())))
def sh31 (q0 : List SPoint) (q1 : List SPoint) : Option (Bool) := bif (q0.length : Int) != (q1.length : Int) then (some false) else (Option.bind (iter (sh31_1 q0 q1) 0) fun y1 => elimS y1 (fun r => some r) fun b1 => (some true))
def T31 (r : Bool) (v : Value) (rs : List Own) : Prop := v = rets [.bool r] ∧ rs = []
set_option maxRecDepth 100000 in
theorem c31 {w : World} {q0 : List SPoint} {a_0 : Option Addr} {n_0 c_0 : Nat} (g_0 : Rd w a_0 (eSPoint.fl q0)) (l_0 : q0.length = n_0) {q1 : List SPoint} {a_1 : Option Addr} {n_1 c_1 : Nat} (g_1 : Rd w a_1 (eSPoint.fl q1)) (l_1 : q1.length = n_1) {r : Bool} (hres : sh31 q0 q1 = some r) : Calls Go.Proofs.Try.prog 31 [.slice a_0 n_0 c_0, .slice a_1 n_1 c_1].toArray w (Ret w (T31 r)) := by
  subst l_0
  subst l_1
  unfold sh31 at hres
  refine calls_of (n := 27) (M := []) (es := []) Go.Proofs.Try.func31 rfl rfl rfl (Sep.nil _ _ _) ?_
  refine JX.seq ?_
  refine JX.region ?_
  refine JL.val (yl_assign rfl) rfl ?_
  refine JL.nil ?_
  refine JE.code ?_
  refine JX.seq ?_
  refine JX.seq ?_
  refine JX.region ?_
  refine JL.val (yl_move rfl) rfl ?_
  refine JL.val (yl_len_slice Go.Proofs.Try.underlying35 rfl) rfl ?_
  refine JL.val (yl_move rfl) rfl ?_
  refine JL.val (yl_len_slice Go.Proofs.Try.underlying35 rfl) rfl ?_
  refine JL.val (yl_neq rfl rfl) rfl ?_
  refine JL.nil ?_
  refine JE.weak (env' := [(0, .slice a_0 q0.length c_0), (1, .slice a_1 q1.length c_1), (10, .bool ((q0.length : Int) != (q1.length : Int)))]) (es' := []) [] ?_ ⟨rfl, rfl, rfl, trivial⟩ (by decide) rfl
  refine JE.code ?_
  rcases cond_some hres with ⟨hb, hres⟩ | ⟨hb, hres⟩
  · refine JX.condT rfl hb ?_
    refine JX.seq ?_
    refine JX.region ?_
    refine JL.val (yl_assign rfl) rfl ?_
    refine JL.nil ?_
    refine JE.code ?_
    refine JX.ret ?_
    obtain rfl := Option.some.inj hres
    refine JE.ret (rs := [.tmp 4]) (vs := [.bool false]) rfl ⟨rfl, trivial⟩ ?_
    exact fun w' hb hs => ⟨_, _, ⟨rfl, rfl⟩, rfl, hb, hs.sel [] _ (by decide) rfl⟩
  · refine JX.condF rfl hb ?_
    refine JX.skip ?_
    refine JE.code ?_
    refine JX.seq ?_
    refine JX.seq ?_
    refine JX.region ?_
    refine JL.val (yl_assign rfl) rfl ?_
    refine JL.nil ?_
    refine JE.code ?_
    refine JX.block ?_
    obtain ⟨y1, hy1, hresO1⟩ := bind_some hres
    refine JX.loop (I := fun (s1 : Int) aa ww => St w [] 27 [(0, .slice a_0 q0.length c_0), (1, .slice a_1 q1.length c_1), (5, .int .i64 s1)] [] aa ww) (sh31_1 q0 q1) hy1 (fun a w h => h.weak ⟨rfl, rfl, rfl, trivial⟩ [] (by decide) rfl) ?_
    rintro x1 o1 hres hox1 aa ww hS
    refine (?_ : JX Go.Proofs.Try.prog w [] 27 _ _ [(0, .slice a_0 q0.length c_0), (1, .slice a_1 q1.length c_1), (5, .int .i64 x1)] [] _) aa ww hS
    clear hS
    unfold sh31_1 at hres
    refine JX.seq ?_
    refine JX.seq ?_
    refine JX.region ?_
    refine JL.val (yl_move rfl) rfl ?_
    refine JL.val (yl_move rfl) rfl ?_
    refine JL.val (yl_len_slice Go.Proofs.Try.underlying35 rfl) rfl ?_
    refine JL.val (yl_lss rfl rfl) rfl ?_
    refine JL.nil ?_
    refine JE.weak (env' := [(0, .slice a_0 q0.length c_0), (1, .slice a_1 q1.length c_1), (5, .int .i64 x1), (14, .bool (decide (x1 < (q0.length : Int))))]) (es' := []) [] ?_ ⟨rfl, rfl, rfl, rfl, trivial⟩ (by decide) rfl
    refine JE.code ?_
    rcases cond_some hres with ⟨hb, hres⟩ | ⟨hb, hres⟩
    · refine JX.condT rfl hb ?_
      refine JX.skip ?_
      refine JE.code ?_
      refine JX.seq ?_
      refine JX.block ?_
      refine JX.seq ?_
      refine JX.drawH [(0, .pure), (1, .pure), (2, .pure), (3, .read), (4, .pure), (5, .pure), (6, .pure), (7, .read), (8, .must), (9, .pure)] [] [] [] [] [] mixedP rfl (by kernel_rfl) (by decide) rfl rfl ?_
      intro wrr2 Nr2 hFr2
      refine JH.pure rfl (yl_move rfl) rfl ?_
      refine JH.pure rfl (yl_move rfl) rfl ?_
      obtain ⟨x3, hx3, hres⟩ := bind_some hres
      refine JH.pure rfl (yl_idxQ Go.Proofs.Try.underlying35 i47 i47s rfl rfl hx3 rfl (rd_arg g_0 hFr2.cl) rfl) rfl ?_
      refine JH.read rfl (yl_loadTn Go.Proofs.Try.underlying47 rfl i47 i47s rfl hx3 (fun w hw => hFr2.arg g_0 hw)) rfl ?_
      refine JH.pure rfl (yl_move rfl) rfl ?_
      refine JH.pure rfl (yl_move rfl) rfl ?_
      obtain ⟨x4, hx4, hres⟩ := bind_some hres
      refine JH.pure rfl (yl_idxQ Go.Proofs.Try.underlying35 i47 i47s rfl rfl hx4 rfl (rd_arg g_1 hFr2.cl) rfl) rfl ?_
      refine JH.read rfl (yl_loadTn Go.Proofs.Try.underlying47 rfl i47 i47s rfl hx4 (fun w hw => hFr2.arg g_1 hw)) rfl ?_
      obtain ⟨x5, hx5, hres⟩ := bind_some hres
      refine JH.must rfl (ef_call (vs := [.agg #[.int .i64 x3.X, .int .i64 x3.Y], .agg #[.int .i64 x4.X, .int .i64 x4.Y]]) (T := T41 x5) Go.Proofs.Try.func41 rfl (by kernel_rfl) rfl (fun w hC => c41 (q0 := x3) (q1 := x4) hx5)) rfl rfl ?_
      rintro _ _ ⟨_, ⟨rfl, rfl⟩, rfl⟩
      refine JH.pure rfl (yl_not rfl) rfl ?_
      refine JH.nil ?_
      refine JE.weak (env' := [(0, .slice a_0 q0.length c_0), (1, .slice a_1 q1.length c_1), (5, .int .i64 x1), (26, .bool !x5)]) (es' := []) [] ?_ ⟨rfl, rfl, rfl, rfl, trivial⟩ (by decide) rfl
      refine JE.code ?_
      rcases cond_some hres with ⟨hb, hres⟩ | ⟨hb, hres⟩
      · refine JX.condT rfl hb ?_
        refine JX.seq ?_
        refine JX.region ?_
        refine JL.val (yl_assign rfl) rfl ?_
        refine JL.nil ?_
        refine JE.code ?_
        refine JX.ret ?_
        refine JE.qbr ?_
        refine JE.qbr ?_
        have hres := elimS_inr hresO1 (hox1 _ (Option.some.inj hres).symm)
        obtain rfl := Option.some.inj hres
        refine JE.ret (rs := [.tmp 4]) (vs := [.bool false]) rfl ⟨rfl, trivial⟩ ?_
        exact fun w' hb hs => ⟨_, _, ⟨rfl, rfl⟩, rfl, hb, hs.sel [] _ (by decide) rfl⟩
      · refine JX.condF rfl hb ?_
        refine JX.skip ?_
        refine JE.code ?_
        refine JX.region ?_
        refine JL.val (yl_move rfl) rfl ?_
        refine JL.val (yl_add rfl rfl) rfl ?_
        refine JL.val (yl_assign rfl) rfl ?_
        refine JL.nil ?_
        refine JE.cont hres ?_
        exact fun a w h => h.weak ⟨rfl, rfl, rfl, trivial⟩ [] (by decide) rfl
    · refine JX.condF rfl hb ?_
      refine JX.exit ?_
      refine JE.qb rfl ?_
      obtain ⟨b1, hb1⟩ : ∃ b : Unit, b = () := ⟨_, rfl⟩
      have hy1 : Sum.inl b1 = y1 := by rw [hb1]; exact hox1 _ (Option.some.inj hres).symm
      have hres := elimS_inl hresO1 hy1
      refine JE.weak (env' := []) (es' := []) [] ?_ trivial (by decide) (by subst hb1; rfl)
      refine JE.code ?_
      refine JX.seq ?_
      refine JX.region ?_
      refine JL.val (yl_assign rfl) rfl ?_
      refine JL.nil ?_
      refine JE.code ?_
      refine JX.ret ?_
      obtain rfl := Option.some.inj hres
      refine JE.ret (rs := [.tmp 4]) (vs := [.bool true]) rfl ⟨rfl, trivial⟩ ?_
      exact fun w' hb hs => ⟨_, _, ⟨rfl, rfl⟩, rfl, hb, hs.sel [] _ (by decide) rfl⟩

/- spec.l00In -/
def sh52 (q0 : Int) (q1 : Int) (q2 : Int) : Option (Bool) := some ((decide (q1 ≤ q0)) && (decide (q0 ≤ q2)))
def T52 (r : Bool) (v : Value) (rs : List Own) : Prop := v = rets [.bool r] ∧ rs = []
set_option maxRecDepth 100000 in
theorem c52 {w : World} {q0 : Int} {q1 : Int} {q2 : Int} {r : Bool} (hres : sh52 q0 q1 q2 = some r) : Calls Go.Proofs.Try.prog 52 [.int .i64 q0, .int .i64 q1, .int .i64 q2].toArray w (Ret w (T52 r)) := by
  unfold sh52 at hres
  refine calls_of (n := 15) (M := []) (es := []) Go.Proofs.Try.func52 rfl rfl rfl (Sep.nil _ _ _) ?_
  refine JX.seq ?_
  refine JX.region ?_
  refine JL.val (yl_assign rfl) rfl ?_
  refine JL.nil ?_
  refine JE.code ?_
  refine JX.seq ?_
  refine JX.region ?_
  refine JL.val (yl_move rfl) rfl ?_
  refine JL.val (yl_move rfl) rfl ?_
  refine JL.val (yl_geq rfl rfl) rfl ?_
  refine JL.val (yl_move rfl) rfl ?_
  refine JL.cut (K := fun J => J [(14, .bool ((decide (q1 ≤ q0)) && (decide (q0 ≤ q2))))] []) 4 ?_ ?_
  · refine JL.val (yl_assign rfl) rfl ?_
    refine JL.nil ?_
    refine JE.weak (env' := [(6, .bool ((decide (q1 ≤ q0)) && (decide (q0 ≤ q2))))]) (es' := []) [] ?_ ⟨rfl, trivial⟩ (by decide) rfl
    refine JE.code ?_
    refine JX.ret ?_
    obtain rfl := Option.some.inj hres
    refine JE.ret (rs := [.tmp 6]) (vs := [.bool ((decide (q1 ≤ q0)) && (decide (q0 ≤ q2)))]) rfl ⟨rfl, trivial⟩ ?_
    exact fun w' hb hs => ⟨_, _, ⟨rfl, rfl⟩, rfl, hb, hs.sel [] _ (by decide) rfl⟩
  · intro K
    rcases Bool.eq_false_or_eq_true (decide (q1 ≤ q0)) with hb | hb
    · refine JL.set (d := 10) (v := .bool true) (congrArg (fun b => some (Value.bool b)) hb) ?_
      refine JL.gval rfl rfl (yl_move rfl) rfl ?_
      refine JL.gval rfl rfl (yl_move rfl) rfl ?_
      refine JL.gval rfl rfl (yl_leq rfl rfl) rfl ?_
      refine JL.val (yl_pick_true rfl rfl) rfl ?_
      exact JL.weak [] K ⟨(by rw [hb]; rfl), trivial⟩ (by decide) rfl
    · refine JL.set (d := 10) (v := .bool false) (congrArg (fun b => some (Value.bool b)) hb) ?_
      refine JL.gskip rfl rfl rfl rfl ?_
      refine JL.gskip rfl rfl rfl rfl ?_
      refine JL.gskip rfl rfl rfl rfl ?_
      refine JL.val (yl_pick_false rfl rfl) rfl ?_
      exact JL.weak [] K ⟨(by rw [hb]; rfl), trivial⟩ (by decide) rfl

/- spec.l20Ok -/
def sh53_1 (q0 : List SPoint) : Int → Option (Int ⊕ (Unit ⊕ Bool))
  | x1 => bif decide (x1 < (q0.length : Int)) then (Option.bind (getI q0 x1) fun x2 => Option.bind (sh52 x2.X (-100000) 100000) fun x3 => Option.bind (bif !x3 then (some true) else (Option.bind (getI q0 x1) fun x5 => Option.bind (sh52 x5.Y (-100000) 100000) fun x6 => some !x6)) fun c4 => (bif c4 then (some (.inr (.inr false))) else (some (.inl (w64 (x1 + 1)))))) else (some (.inr (.inl ())))
def sh53 (q0 : List SPoint) : Option (Bool) := Option.bind (iter (sh53_1 q0) 0) fun y1 => elimS y1 (fun r => some r) fun b1 => (Option.bind (sh52 (q0.length : Int) 3 300) fun x7 => some x7)
def T53 (r : Bool) (v : Value) (rs : List Own) : Prop := v = rets [.bool r] ∧ rs = []
set_option maxRecDepth 100000 in
theorem c53 {w : World} {q0 : List SPoint} {a_0 : Option Addr} {n_0 c_0 : Nat} (g_0 : Rd w a_0 (eSPoint.fl q0)) (l_0 : q0.length = n_0) {r : Bool} (hres : sh53 q0 = some r) : Calls Go.Proofs.Try.prog 53 [.slice a_0 n_0 c_0].toArray w (Ret w (T53 r)) := by
  subst l_0
  unfold sh53 at hres
  refine calls_of (n := 29) (M := []) (es := []) Go.Proofs.Try.func53 rfl rfl rfl (Sep.nil _ _ _) ?_
  refine JX.seq ?_
  refine JX.region ?_
  refine JL.val (yl_assign rfl) rfl ?_
  refine JL.nil ?_
  refine JE.code ?_
  refine JX.seq ?_
  refine JX.seq ?_
  refine JX.region ?_
  refine JL.val (yl_assign rfl) rfl ?_
  refine JL.nil ?_
  refine JE.code ?_
  refine JX.block ?_
  obtain ⟨y1, hy1, hresO1⟩ := bind_some hres
  refine JX.loop (I := fun (s1 : Int) aa ww => St w [] 29 [(0, .slice a_0 q0.length c_0), (3, .int .i64 s1)] [] aa ww) (sh53_1 q0) hy1 (fun a w h => h.weak ⟨rfl, rfl, trivial⟩ [] (by decide) rfl) ?_
  rintro x1 o1 hres hox1 aa ww hS
  refine (?_ : JX Go.Proofs.Try.prog w [] 29 _ _ [(0, .slice a_0 q0.length c_0), (3, .int .i64 x1)] [] _) aa ww hS
  clear hS
  unfold sh53_1 at hres
  refine JX.seq ?_
  refine JX.seq ?_
  refine JX.region ?_
  refine JL.val (yl_move rfl) rfl ?_
  refine JL.val (yl_move rfl) rfl ?_
  refine JL.val (yl_len_slice Go.Proofs.Try.underlying35 rfl) rfl ?_
  refine JL.val (yl_lss rfl rfl) rfl ?_
  refine JL.nil ?_
  refine JE.weak (env' := [(0, .slice a_0 q0.length c_0), (3, .int .i64 x1), (7, .bool (decide (x1 < (q0.length : Int))))]) (es' := []) [] ?_ ⟨rfl, rfl, rfl, trivial⟩ (by decide) rfl
  refine JE.code ?_
  rcases cond_some hres with ⟨hb, hres⟩ | ⟨hb, hres⟩
  · refine JX.condT rfl hb ?_
    refine JX.skip ?_
    refine JE.code ?_
    refine JX.seq ?_
    refine JX.block ?_
    refine JX.seq ?_
    refine JX.region ?_
    refine JL.val (yl_move rfl) rfl ?_
    refine JL.val (yl_move rfl) rfl ?_
    obtain ⟨x2, hx2, hres⟩ := bind_some hres
    refine JL.val (yl_idxT Go.Proofs.Try.underlying35 i47 i47s rfl rfl hx2 rfl (fun w hC => rd_arg g_0 hC)) rfl ?_
    refine JL.val (yl_fieldAtT Go.Proofs.Try.underlying47 rfl i2 i2n rfl hx2 (fun w hC => rd_arg g_0 hC)) rfl ?_
    refine JL.val (yl_loadT1 Go.Proofs.Try.underlying2 rfl rfl hx2 (fun w hC => rd_arg g_0 hC) rfl) rfl ?_
    obtain ⟨x3, hx3, hres⟩ := bind_some hres
    refine JL.eff (ef_call (T := T52 x3) Go.Proofs.Try.func52 rfl (by kernel_rfl) rfl (fun w hC => c52  hx3)) rfl ?_
    rintro _ _ ⟨_, ⟨rfl, rfl⟩, rfl⟩
    refine JL.val (yl_not rfl) rfl ?_
    refine JL.val (yl_move rfl) rfl ?_
    obtain ⟨c4, hc4, hres⟩ := bind_some hres
    refine JL.cut (K := fun J => J [(0, .slice a_0 q0.length c_0), (3, .int .i64 x1), (25, .bool c4)] []) 8 ?_ ?_
    · refine JL.nil ?_
      refine JE.weak (env' := [(0, .slice a_0 q0.length c_0), (3, .int .i64 x1), (25, .bool c4)]) (es' := []) [] ?_ ⟨rfl, rfl, rfl, trivial⟩ (by decide) rfl
      refine JE.code ?_
      rcases cond_some hres with ⟨hb, hres⟩ | ⟨hb, hres⟩
      · refine JX.condT rfl hb ?_
        refine JX.seq ?_
        refine JX.region ?_
        refine JL.val (yl_assign rfl) rfl ?_
        refine JL.nil ?_
        refine JE.code ?_
        refine JX.ret ?_
        refine JE.qbr ?_
        refine JE.qbr ?_
        have hres := elimS_inr hresO1 (hox1 _ (Option.some.inj hres).symm)
        obtain rfl := Option.some.inj hres
        refine JE.ret (rs := [.tmp 2]) (vs := [.bool false]) rfl ⟨rfl, trivial⟩ ?_
        exact fun w' hb hs => ⟨_, _, ⟨rfl, rfl⟩, rfl, hb, hs.sel [] _ (by decide) rfl⟩
      · refine JX.condF rfl hb ?_
        refine JX.skip ?_
        refine JE.code ?_
        refine JX.region ?_
        refine JL.val (yl_move rfl) rfl ?_
        refine JL.val (yl_add rfl rfl) rfl ?_
        refine JL.val (yl_assign rfl) rfl ?_
        refine JL.nil ?_
        refine JE.cont hres ?_
        exact fun a w h => h.weak ⟨rfl, rfl, trivial⟩ [] (by decide) rfl
    · intro K
      rcases cond_some hc4 with ⟨hb, hres⟩ | ⟨hb, hres⟩
      · refine JL.set (d := 17) (v := .bool true) (congrArg (fun b => some (Value.bool b)) hb) ?_
        refine JL.gskip rfl rfl rfl rfl ?_
        refine JL.gskip rfl rfl rfl rfl ?_
        refine JL.gskip rfl rfl rfl rfl ?_
        refine JL.gskip rfl rfl rfl rfl ?_
        refine JL.gskip rfl rfl rfl rfl ?_
        refine JL.gskip rfl rfl rfl rfl ?_
        refine JL.gskip rfl rfl rfl rfl ?_
        refine JL.val (yl_pick_true rfl rfl) rfl ?_
        have he := Option.some.inj hres
        exact JL.weak [] K ⟨rfl, rfl, (by rw [← he]; rfl), trivial⟩ (by decide) rfl
      · refine JL.set (d := 17) (v := .bool false) (congrArg (fun b => some (Value.bool b)) hb) ?_
        refine JL.gval rfl rfl (yl_move rfl) rfl ?_
        refine JL.gval rfl rfl (yl_move rfl) rfl ?_
        obtain ⟨x5, hx5, hres⟩ := bind_some hres
        refine JL.gval rfl rfl (yl_idxT Go.Proofs.Try.underlying35 i47 i47s rfl rfl hx5 rfl (fun w hC => rd_arg g_0 hC)) rfl ?_
        refine JL.gval rfl rfl (yl_fieldAtT Go.Proofs.Try.underlying47 rfl i2 i2n rfl hx5 (fun w hC => rd_arg g_0 hC)) rfl ?_
        refine JL.gval rfl rfl (yl_loadT1 Go.Proofs.Try.underlying2 rfl rfl hx5 (fun w hC => rd_arg g_0 hC) rfl) rfl ?_
        obtain ⟨x6, hx6, hres⟩ := bind_some hres
        refine JL.geff rfl rfl (ef_call (T := T52 x6) Go.Proofs.Try.func52 rfl (by kernel_rfl) rfl (fun w hC => c52  hx6)) rfl ?_
        rintro _ _ ⟨_, ⟨rfl, rfl⟩, rfl⟩
        refine JL.gval rfl rfl (yl_not rfl) rfl ?_
        refine JL.val (yl_pick_false rfl rfl) rfl ?_
        have he := Option.some.inj hres
        exact JL.weak [] K ⟨rfl, rfl, (by rw [← he]; rfl), trivial⟩ (by decide) rfl
  · refine JX.condF rfl hb ?_
    refine JX.exit ?_
    refine JE.qb rfl ?_
    obtain ⟨b1, hb1⟩ : ∃ b : Unit, b = () := ⟨_, rfl⟩
    have hy1 : Sum.inl b1 = y1 := by rw [hb1]; exact hox1 _ (Option.some.inj hres).symm
    have hres := elimS_inl hresO1 hy1
    refine JE.weak (env' := [(0, .slice a_0 q0.length c_0)]) (es' := []) [] ?_ ⟨(by subst hb1; rfl), trivial⟩ (by decide) (by subst hb1; rfl)
    refine JE.code ?_
    refine JX.seq ?_
    refine JX.region ?_
    refine JL.val (yl_move rfl) rfl ?_
    refine JL.val (yl_len_slice Go.Proofs.Try.underlying35 rfl) rfl ?_
    obtain ⟨x7, hx7, hres⟩ := bind_some hres
    refine JL.eff (ef_call (T := T52 x7) Go.Proofs.Try.func52 rfl (by kernel_rfl) rfl (fun w hC => c52  hx7)) rfl ?_
    rintro _ _ ⟨_, ⟨rfl, rfl⟩, rfl⟩
    refine JL.val (yl_assign rfl) rfl ?_
    refine JL.nil ?_
    refine JE.weak (env' := [(2, .bool x7)]) (es' := []) [] ?_ ⟨rfl, trivial⟩ (by decide) rfl
    refine JE.code ?_
    refine JX.ret ?_
    obtain rfl := Option.some.inj hres
    refine JE.ret (rs := [.tmp 2]) (vs := [.bool x7]) rfl ⟨rfl, trivial⟩ ?_
    exact fun w' hb hs => ⟨_, _, ⟨rfl, rfl⟩, rfl, hb, hs.sel [] _ (by decide) rfl⟩

/- spec.l00Max -/
def sh77 (q0 : Int) (q1 : Int) : Option (Int) := bif decide (q1 < q0) then (some q0) else (some q1)
def T77 (r : Int) (v : Value) (rs : List Own) : Prop := v = rets [.int .i64 r] ∧ rs = []
set_option maxRecDepth 100000 in
theorem c77 {w : World} {q0 : Int} {q1 : Int} {r : Int} (hres : sh77 q0 q1 = some r) : Calls Go.Proofs.Try.prog 77 [.int .i64 q0, .int .i64 q1].toArray w (Ret w (T77 r)) := by
  unfold sh77 at hres
  refine calls_of (n := 10) (M := []) (es := []) Go.Proofs.Try.func77 rfl rfl rfl (Sep.nil _ _ _) ?_
  refine JX.seq ?_
  refine JX.region ?_
  refine JL.val (yl_assign rfl) rfl ?_
  refine JL.nil ?_
  refine JE.code ?_
  refine JX.seq ?_
  refine JX.seq ?_
  refine JX.region ?_
  refine JL.val (yl_move rfl) rfl ?_
  refine JL.val (yl_move rfl) rfl ?_
  refine JL.val (yl_gtr rfl rfl) rfl ?_
  refine JL.nil ?_
  refine JE.code ?_
  rcases cond_some hres with ⟨hb, hres⟩ | ⟨hb, hres⟩
  · refine JX.condT rfl hb ?_
    refine JX.seq ?_
    refine JX.region ?_
    refine JL.val (yl_move rfl) rfl ?_
    refine JL.val (yl_assign rfl) rfl ?_
    refine JL.nil ?_
    refine JE.code ?_
    refine JX.ret ?_
    obtain rfl := Option.some.inj hres
    refine JE.ret (rs := [.tmp 4]) (vs := [.int .i64 q0]) rfl ⟨rfl, trivial⟩ ?_
    exact fun w' hb hs => ⟨_, _, ⟨rfl, rfl⟩, rfl, hb, hs.sel [] _ (by decide) rfl⟩
  · refine JX.condF rfl hb ?_
    refine JX.skip ?_
    refine JE.code ?_
    refine JX.seq ?_
    refine JX.region ?_
    refine JL.val (yl_move rfl) rfl ?_
    refine JL.val (yl_assign rfl) rfl ?_
    refine JL.nil ?_
    refine JE.code ?_
    refine JX.ret ?_
    obtain rfl := Option.some.inj hres
    refine JE.ret (rs := [.tmp 4]) (vs := [.int .i64 q1]) rfl ⟨rfl, trivial⟩ ?_
    exact fun w' hb hs => ⟨_, _, ⟨rfl, rfl⟩, rfl, hb, hs.sel [] _ (by decide) rfl⟩

/- spec.l00Min -/
def sh84 (q0 : Int) (q1 : Int) : Option (Int) := bif decide (q0 < q1) then (some q0) else (some q1)
def T84 (r : Int) (v : Value) (rs : List Own) : Prop := v = rets [.int .i64 r] ∧ rs = []
set_option maxRecDepth 100000 in
theorem c84 {w : World} {q0 : Int} {q1 : Int} {r : Int} (hres : sh84 q0 q1 = some r) : Calls Go.Proofs.Try.prog 84 [.int .i64 q0, .int .i64 q1].toArray w (Ret w (T84 r)) := by
  unfold sh84 at hres
  refine calls_of (n := 10) (M := []) (es := []) Go.Proofs.Try.func84 rfl rfl rfl (Sep.nil _ _ _) ?_
  refine JX.seq ?_
  refine JX.region ?_
  refine JL.val (yl_assign rfl) rfl ?_
  refine JL.nil ?_
  refine JE.code ?_
  refine JX.seq ?_
  refine JX.seq ?_
  refine JX.region ?_
  refine JL.val (yl_move rfl) rfl ?_
  refine JL.val (yl_move rfl) rfl ?_
  refine JL.val (yl_lss rfl rfl) rfl ?_
  refine JL.nil ?_
  refine JE.code ?_
  rcases cond_some hres with ⟨hb, hres⟩ | ⟨hb, hres⟩
  · refine JX.condT rfl hb ?_
    refine JX.seq ?_
    refine JX.region ?_
    refine JL.val (yl_move rfl) rfl ?_
    refine JL.val (yl_assign rfl) rfl ?_
    refine JL.nil ?_
    refine JE.code ?_
    refine JX.ret ?_
    obtain rfl := Option.some.inj hres
    refine JE.ret (rs := [.tmp 4]) (vs := [.int .i64 q0]) rfl ⟨rfl, trivial⟩ ?_
    exact fun w' hb hs => ⟨_, _, ⟨rfl, rfl⟩, rfl, hb, hs.sel [] _ (by decide) rfl⟩
  · refine JX.condF rfl hb ?_
    refine JX.skip ?_
    refine JE.code ?_
    refine JX.seq ?_
    refine JX.region ?_
    refine JL.val (yl_move rfl) rfl ?_
    refine JL.val (yl_assign rfl) rfl ?_
    refine JL.nil ?_
    refine JE.code ?_
    refine JX.ret ?_
    obtain rfl := Option.some.inj hres
    refine JE.ret (rs := [.tmp 4]) (vs := [.int .i64 q1]) rfl ⟨rfl, trivial⟩ ?_
    exact fun w' hb hs => ⟨_, _, ⟨rfl, rfl⟩, rfl, hb, hs.sel [] _ (by decide) rfl⟩

/- spec.l19Box -/
def sh64_1 (q0 : List SPoint) : (Int × SPoint × SPoint) → Option ((Int × SPoint × SPoint) ⊕ (SPoint × SPoint))
  | (x13, x14, x15) => bif decide (x13 < (q0.length : Int)) then (Option.bind (getI q0 x13) fun x19 => Option.bind (sh84 x14.X x19.X) fun x20 => Option.bind (getI q0 x13) fun x22 => Option.bind (sh84 x14.Y x22.Y) fun x23 => Option.bind (getI q0 x13) fun x25 => Option.bind (sh77 x15.X x25.X) fun x26 => Option.bind (getI q0 x13) fun x28 => Option.bind (sh77 x15.Y x28.Y) fun x29 => some (.inl (w64 (x13 + 1), SPoint.mk x20 x23, SPoint.mk x26 x29))) else (some (.inr (x14, x15)))
def sh64 (q0 : List SPoint) : Option (SPoint × SPoint) := Option.bind (getI q0 0) fun x5 => Option.bind (getI q0 0) fun x8 => Option.bind (iter (sh64_1 q0) (1, x5, x8)) fun b1 => (some (b1.1, b1.2))
def T64 (r : SPoint × SPoint) (v : Value) (rs : List Own) : Prop := v = rets [.agg #[.int .i64 r.1.X, .int .i64 r.1.Y], .agg #[.int .i64 r.2.X, .int .i64 r.2.Y]] ∧ rs = []
set_option maxRecDepth 100000 in
theorem c64 {w : World} {q0 : List SPoint} {a_0 : Option Addr} {n_0 c_0 : Nat} (g_0 : Rd w a_0 (eSPoint.fl q0)) (l_0 : q0.length = n_0) {r : SPoint × SPoint} (hres : sh64 q0 = some r) : Calls Go.Proofs.Try.prog 64 [.slice a_0 n_0 c_0].toArray w (Ret w (T64 r)) := by
  subst l_0
  unfold sh64 at hres
  refine calls_of (n := 57) (M := []) (es := []) Go.Proofs.Try.func64 rfl rfl rfl (Sep.nil _ _ _) ?_
  refine JX.seq ?_
  refine JX.region ?_
  refine JL.eff (ef_alloc i47 i47z rfl) rfl ?_
  rintro _ _ ⟨g1, rfl, rfl⟩
  refine JL.eff (ef_alloc i47 i47z rfl) rfl ?_
  rintro _ _ ⟨g3, rfl, rfl⟩
  refine JL.nil ?_
  refine JE.code ?_
  refine JX.seq ?_
  refine JX.region ?_
  refine JL.val (yl_move rfl) rfl ?_
  obtain ⟨x5, hx5, hres⟩ := bind_some hres
  refine JL.val (yl_idxT Go.Proofs.Try.underlying35 i47 i47s rfl rfl hx5 rfl (fun w hC => rd_arg g_0 hC)) rfl ?_
  refine JL.val (yl_loadTn Go.Proofs.Try.underlying47 rfl i47 i47s rfl hx5 (fun w hC => rd_arg g_0 hC)) rfl ?_
  refine JL.eff (ef_alloc i47 i47z rfl) rfl ?_
  rintro _ _ ⟨g6, rfl, rfl⟩
  refine JL.eff (ef_store_box (i := 2) (v := .agg #[.int .i64 x5.X, .int .i64 x5.Y]) i47 rfl rfl rfl (i47s).symm (Nat.le_of_ble_eq_true rfl) (by simp [Value.cells, Value.oneCell'])) rfl ?_
  rintro _ _ rfl
  refine JL.nil ?_
  refine JE.weak (env' := [(0, .slice a_0 q0.length c_0), (2, ptrAt (some ⟨g1, 0, none⟩) 0), (3, ptrAt (some ⟨g3, 0, none⟩) 0), (4, ptrAt (some ⟨g6, 0, none⟩) 0)]) (es' := [boxO 47 g1 [.int .i64 0, .int .i64 0], boxO 47 g3 [.int .i64 0, .int .i64 0], boxO 47 g6 [.int .i64 x5.X, .int .i64 x5.Y]]) [0, 1, 2] ?_ ⟨rfl, rfl, rfl, rfl, trivial⟩ (by decide) rfl
  refine JE.code ?_
  refine JX.seq ?_
  refine JX.region ?_
  refine JL.val (yl_move rfl) rfl ?_
  obtain ⟨x8, hx8, hres⟩ := bind_some hres
  refine JL.val (yl_idxT Go.Proofs.Try.underlying35 i47 i47s rfl rfl hx8 rfl (fun w hC => rd_arg g_0 hC)) rfl ?_
  refine JL.val (yl_loadTn Go.Proofs.Try.underlying47 rfl i47 i47s rfl hx8 (fun w hC => rd_arg g_0 hC)) rfl ?_
  refine JL.eff (ef_alloc i47 i47z rfl) rfl ?_
  rintro _ _ ⟨g9, rfl, rfl⟩
  refine JL.eff (ef_store_box (i := 3) (v := .agg #[.int .i64 x8.X, .int .i64 x8.Y]) i47 rfl rfl rfl (i47s).symm (Nat.le_of_ble_eq_true rfl) (by simp [Value.cells, Value.oneCell'])) rfl ?_
  rintro _ _ rfl
  refine JL.nil ?_
  refine JE.weak (env' := [(0, .slice a_0 q0.length c_0), (2, ptrAt (some ⟨g1, 0, none⟩) 0), (3, ptrAt (some ⟨g3, 0, none⟩) 0), (4, ptrAt (some ⟨g6, 0, none⟩) 0), (5, ptrAt (some ⟨g9, 0, none⟩) 0)]) (es' := [boxO 47 g1 [.int .i64 0, .int .i64 0], boxO 47 g3 [.int .i64 0, .int .i64 0], boxO 47 g6 [.int .i64 x5.X, .int .i64 x5.Y], boxO 47 g9 [.int .i64 x8.X, .int .i64 x8.Y]]) [0, 1, 2, 3] ?_ ⟨rfl, rfl, rfl, rfl, rfl, trivial⟩ (by decide) rfl
  refine JE.code ?_
  refine JX.seq ?_
  refine JX.seq ?_
  refine JX.region ?_
  refine JL.val (yl_assign rfl) rfl ?_
  refine JL.nil ?_
  refine JE.code ?_
  refine JX.block ?_
  obtain ⟨y1, hy1, hresO1⟩ := bind_some hres
  refine JX.loop (I := fun (s1 : Int × SPoint × SPoint) aa ww => ∃ (g11 : Nat) (g12 : Nat), St w [] 57 [(0, .slice a_0 q0.length c_0), (2, ptrAt (some ⟨g1, 0, none⟩) 0), (3, ptrAt (some ⟨g3, 0, none⟩) 0), (4, ptrAt (some ⟨g11, 0, none⟩) 0), (5, ptrAt (some ⟨g12, 0, none⟩) 0), (6, .int .i64 s1.1)] [boxO 47 g1 [.int .i64 0, .int .i64 0], boxO 47 g3 [.int .i64 0, .int .i64 0], boxO 47 g11 [.int .i64 s1.2.1.X, .int .i64 s1.2.1.Y], boxO 47 g12 [.int .i64 s1.2.2.X, .int .i64 s1.2.2.Y]] aa ww) (sh64_1 q0) hy1 (fun a w h => ⟨g6, g9, h.weak ⟨rfl, rfl, rfl, rfl, rfl, rfl, trivial⟩ [0, 1, 2, 3] (by decide) rfl⟩) ?_
  rintro ⟨x13, x14, x15⟩ o1 hres hox1 aa ww ⟨g16, g17, hS⟩
  refine (?_ : JX Go.Proofs.Try.prog w [] 57 _ _ [(0, .slice a_0 q0.length c_0), (2, ptrAt (some ⟨g1, 0, none⟩) 0), (3, ptrAt (some ⟨g3, 0, none⟩) 0), (4, ptrAt (some ⟨g16, 0, none⟩) 0), (5, ptrAt (some ⟨g17, 0, none⟩) 0), (6, .int .i64 x13)] [boxO 47 g1 [.int .i64 0, .int .i64 0], boxO 47 g3 [.int .i64 0, .int .i64 0], boxO 47 g16 [.int .i64 x14.X, .int .i64 x14.Y], boxO 47 g17 [.int .i64 x15.X, .int .i64 x15.Y]] _) aa ww hS
  clear hS
  simp only [sh64_1] at hres
  refine JX.seq ?_
  refine JX.seq ?_
  refine JX.region ?_
  refine JL.val (yl_move rfl) rfl ?_
  refine JL.val (yl_move rfl) rfl ?_
  refine JL.val (yl_len_slice Go.Proofs.Try.underlying35 rfl) rfl ?_
  refine JL.val (yl_lss rfl rfl) rfl ?_
  refine JL.nil ?_
  refine JE.weak (env' := [(0, .slice a_0 q0.length c_0), (2, ptrAt (some ⟨g1, 0, none⟩) 0), (3, ptrAt (some ⟨g3, 0, none⟩) 0), (4, ptrAt (some ⟨g16, 0, none⟩) 0), (5, ptrAt (some ⟨g17, 0, none⟩) 0), (6, .int .i64 x13), (16, .bool (decide (x13 < (q0.length : Int))))]) (es' := [boxO 47 g1 [.int .i64 0, .int .i64 0], boxO 47 g3 [.int .i64 0, .int .i64 0], boxO 47 g16 [.int .i64 x14.X, .int .i64 x14.Y], boxO 47 g17 [.int .i64 x15.X, .int .i64 x15.Y]]) [0, 1, 2, 3] ?_ ⟨rfl, rfl, rfl, rfl, rfl, rfl, rfl, trivial⟩ (by decide) rfl
  refine JE.code ?_
  rcases cond_some hres with ⟨hb, hres⟩ | ⟨hb, hres⟩
  · refine JX.condT rfl hb ?_
    refine JX.skip ?_
    refine JE.code ?_
    refine JX.seq ?_
    refine JX.block ?_
    refine JX.seq ?_
    refine JX.drawH [(0, .pure), (1, .read0), (2, .pure), (3, .pure), (4, .pure), (5, .pure), (6, .read), (7, .must), (8, .pure), (9, .must)] [9] [2] [0, 1, 3] [boxO 47 g16 [.int .i64 x14.X, .int .i64 x14.Y]] [boxO 47 g1 [.int .i64 0, .int .i64 0], boxO 47 g3 [.int .i64 0, .int .i64 0], boxO 47 g17 [.int .i64 x15.X, .int .i64 x15.Y]] mixedP rfl (by kernel_rfl) (by decide) rfl rfl ?_
    intro wrr18 Nr18 hFr18
    refine JH.pure rfl (yl_fieldAt (a := some _) Go.Proofs.Try.underlying47 rfl i2 i2n rfl rfl) rfl ?_
    refine JH.read0 rfl (yl_load1 Go.Proofs.Try.underlying2 rfl rfl (fun w hw => (rd_box hFr18.cl 2 rfl).bw hw) rfl) rfl ?_
    refine JH.pure rfl (yl_move rfl) rfl ?_
    refine JH.pure rfl (yl_move rfl) rfl ?_
    obtain ⟨x19, hx19, hres⟩ := bind_some hres
    refine JH.pure rfl (yl_idxQ Go.Proofs.Try.underlying35 i47 i47s rfl rfl hx19 rfl (rd_arg g_0 hFr18.cl) rfl) rfl ?_
    refine JH.pure rfl (yl_fieldAt Go.Proofs.Try.underlying47 rfl i2 i2n rfl (RdT.someQ (rd_arg g_0 hFr18.cl) hx19 rfl rfl)) rfl ?_
    refine JH.read rfl (yl_loadT1 Go.Proofs.Try.underlying2 rfl rfl hx19 (fun w hw => hFr18.arg g_0 hw) rfl) rfl ?_
    obtain ⟨x20, hx20, hres⟩ := bind_some hres
    refine JH.must rfl (ef_call (T := T84 x20) Go.Proofs.Try.func84 rfl (by kernel_rfl) rfl (fun w hC => c84  hx20)) rfl rfl ?_
    rintro _ _ ⟨_, ⟨rfl, rfl⟩, rfl⟩
    refine JH.pure rfl (yl_fieldAt (a := some _) Go.Proofs.Try.underlying47 rfl i2 i2n rfl rfl) rfl ?_
    refine JH.must rfl (ef_store_box (i := 0) (v := .int .i64 x20) i2 rfl rfl rfl (i2s).symm (Nat.le_of_ble_eq_true rfl) (by simp [Value.cells, Value.oneCell'])) rfl rfl ?_
    rintro _ _ rfl
    refine JH.nil ?_
    refine JE.weak (env' := [(0, .slice a_0 q0.length c_0), (2, ptrAt (some ⟨g1, 0, none⟩) 0), (3, ptrAt (some ⟨g3, 0, none⟩) 0), (4, ptrAt (some ⟨g16, 0, none⟩) 0), (5, ptrAt (some ⟨g17, 0, none⟩) 0), (6, .int .i64 x13)]) (es' := [boxO 47 g1 [.int .i64 0, .int .i64 0], boxO 47 g3 [.int .i64 0, .int .i64 0], boxO 47 g16 [.int .i64 x20, .int .i64 x14.Y], boxO 47 g17 [.int .i64 x15.X, .int .i64 x15.Y]]) [0, 1, 3, 2] ?_ ⟨rfl, rfl, rfl, rfl, rfl, rfl, trivial⟩ (by decide) rfl
    refine JE.code ?_
    refine JX.seq ?_
    refine JX.drawH [(0, .pure), (1, .read0), (2, .pure), (3, .pure), (4, .pure), (5, .pure), (6, .read), (7, .must), (8, .pure), (9, .must)] [9] [2] [0, 1, 3] [boxO 47 g16 [.int .i64 x20, .int .i64 x14.Y]] [boxO 47 g1 [.int .i64 0, .int .i64 0], boxO 47 g3 [.int .i64 0, .int .i64 0], boxO 47 g17 [.int .i64 x15.X, .int .i64 x15.Y]] mixedP rfl (by kernel_rfl) (by decide) rfl rfl ?_
    intro wrr21 Nr21 hFr21
    refine JH.pure rfl (yl_fieldAt (a := some _) Go.Proofs.Try.underlying47 rfl i2 i2n rfl rfl) rfl ?_
    refine JH.read0 rfl (yl_load1 Go.Proofs.Try.underlying2 rfl rfl (fun w hw => (rd_box hFr21.cl 2 rfl).bw hw) rfl) rfl ?_
    refine JH.pure rfl (yl_move rfl) rfl ?_
    refine JH.pure rfl (yl_move rfl) rfl ?_
    obtain ⟨x22, hx22, hres⟩ := bind_some hres
    refine JH.pure rfl (yl_idxQ Go.Proofs.Try.underlying35 i47 i47s rfl rfl hx22 rfl (rd_arg g_0 hFr21.cl) rfl) rfl ?_
    refine JH.pure rfl (yl_fieldAt Go.Proofs.Try.underlying47 rfl i2 i2n rfl (RdT.someQ (rd_arg g_0 hFr21.cl) hx22 rfl rfl)) rfl ?_
    refine JH.read rfl (yl_loadT1 Go.Proofs.Try.underlying2 rfl rfl hx22 (fun w hw => hFr21.arg g_0 hw) rfl) rfl ?_
    obtain ⟨x23, hx23, hres⟩ := bind_some hres
    refine JH.must rfl (ef_call (T := T84 x23) Go.Proofs.Try.func84 rfl (by kernel_rfl) rfl (fun w hC => c84  hx23)) rfl rfl ?_
    rintro _ _ ⟨_, ⟨rfl, rfl⟩, rfl⟩
    refine JH.pure rfl (yl_fieldAt (a := some _) Go.Proofs.Try.underlying47 rfl i2 i2n rfl rfl) rfl ?_
    refine JH.must rfl (ef_store_box (i := 0) (v := .int .i64 x23) i2 rfl rfl rfl (i2s).symm (Nat.le_of_ble_eq_true rfl) (by simp [Value.cells, Value.oneCell'])) rfl rfl ?_
    rintro _ _ rfl
    refine JH.nil ?_
    refine JE.weak (env' := [(0, .slice a_0 q0.length c_0), (2, ptrAt (some ⟨g1, 0, none⟩) 0), (3, ptrAt (some ⟨g3, 0, none⟩) 0), (4, ptrAt (some ⟨g16, 0, none⟩) 0), (5, ptrAt (some ⟨g17, 0, none⟩) 0), (6, .int .i64 x13)]) (es' := [boxO 47 g1 [.int .i64 0, .int .i64 0], boxO 47 g3 [.int .i64 0, .int .i64 0], boxO 47 g16 [.int .i64 x20, .int .i64 x23], boxO 47 g17 [.int .i64 x15.X, .int .i64 x15.Y]]) [0, 1, 3, 2] ?_ ⟨rfl, rfl, rfl, rfl, rfl, rfl, trivial⟩ (by decide) rfl
    refine JE.code ?_
    refine JX.seq ?_
    refine JX.drawH [(0, .pure), (1, .read0), (2, .pure), (3, .pure), (4, .pure), (5, .pure), (6, .read), (7, .must), (8, .pure), (9, .must)] [9] [3] [0, 1, 2] [boxO 47 g17 [.int .i64 x15.X, .int .i64 x15.Y]] [boxO 47 g1 [.int .i64 0, .int .i64 0], boxO 47 g3 [.int .i64 0, .int .i64 0], boxO 47 g16 [.int .i64 x20, .int .i64 x23]] mixedP rfl (by kernel_rfl) (by decide) rfl rfl ?_
    intro wrr24 Nr24 hFr24
    refine JH.pure rfl (yl_fieldAt (a := some _) Go.Proofs.Try.underlying47 rfl i2 i2n rfl rfl) rfl ?_
    refine JH.read0 rfl (yl_load1 Go.Proofs.Try.underlying2 rfl rfl (fun w hw => (rd_box hFr24.cl 3 rfl).bw hw) rfl) rfl ?_
    refine JH.pure rfl (yl_move rfl) rfl ?_
    refine JH.pure rfl (yl_move rfl) rfl ?_
    obtain ⟨x25, hx25, hres⟩ := bind_some hres
    refine JH.pure rfl (yl_idxQ Go.Proofs.Try.underlying35 i47 i47s rfl rfl hx25 rfl (rd_arg g_0 hFr24.cl) rfl) rfl ?_
    refine JH.pure rfl (yl_fieldAt Go.Proofs.Try.underlying47 rfl i2 i2n rfl (RdT.someQ (rd_arg g_0 hFr24.cl) hx25 rfl rfl)) rfl ?_
    refine JH.read rfl (yl_loadT1 Go.Proofs.Try.underlying2 rfl rfl hx25 (fun w hw => hFr24.arg g_0 hw) rfl) rfl ?_
    obtain ⟨x26, hx26, hres⟩ := bind_some hres
    refine JH.must rfl (ef_call (T := T77 x26) Go.Proofs.Try.func77 rfl (by kernel_rfl) rfl (fun w hC => c77  hx26)) rfl rfl ?_
    rintro _ _ ⟨_, ⟨rfl, rfl⟩, rfl⟩
    refine JH.pure rfl (yl_fieldAt (a := some _) Go.Proofs.Try.underlying47 rfl i2 i2n rfl rfl) rfl ?_
    refine JH.must rfl (ef_store_box (i := 0) (v := .int .i64 x26) i2 rfl rfl rfl (i2s).symm (Nat.le_of_ble_eq_true rfl) (by simp [Value.cells, Value.oneCell'])) rfl rfl ?_
    rintro _ _ rfl
    refine JH.nil ?_
    refine JE.weak (env' := [(0, .slice a_0 q0.length c_0), (2, ptrAt (some ⟨g1, 0, none⟩) 0), (3, ptrAt (some ⟨g3, 0, none⟩) 0), (4, ptrAt (some ⟨g16, 0, none⟩) 0), (5, ptrAt (some ⟨g17, 0, none⟩) 0), (6, .int .i64 x13)]) (es' := [boxO 47 g1 [.int .i64 0, .int .i64 0], boxO 47 g3 [.int .i64 0, .int .i64 0], boxO 47 g16 [.int .i64 x20, .int .i64 x23], boxO 47 g17 [.int .i64 x26, .int .i64 x15.Y]]) [0, 1, 2, 3] ?_ ⟨rfl, rfl, rfl, rfl, rfl, rfl, trivial⟩ (by decide) rfl
    refine JE.code ?_
    refine JX.drawH [(0, .pure), (1, .read0), (2, .pure), (3, .pure), (4, .pure), (5, .pure), (6, .read), (7, .must), (8, .pure), (9, .must)] [9] [3] [0, 1, 2] [boxO 47 g17 [.int .i64 x26, .int .i64 x15.Y]] [boxO 47 g1 [.int .i64 0, .int .i64 0], boxO 47 g3 [.int .i64 0, .int .i64 0], boxO 47 g16 [.int .i64 x20, .int .i64 x23]] mixedP rfl (by kernel_rfl) (by decide) rfl rfl ?_
    intro wrr27 Nr27 hFr27
    refine JH.pure rfl (yl_fieldAt (a := some _) Go.Proofs.Try.underlying47 rfl i2 i2n rfl rfl) rfl ?_
    refine JH.read0 rfl (yl_load1 Go.Proofs.Try.underlying2 rfl rfl (fun w hw => (rd_box hFr27.cl 3 rfl).bw hw) rfl) rfl ?_
    refine JH.pure rfl (yl_move rfl) rfl ?_
    refine JH.pure rfl (yl_move rfl) rfl ?_
    obtain ⟨x28, hx28, hres⟩ := bind_some hres
    refine JH.pure rfl (yl_idxQ Go.Proofs.Try.underlying35 i47 i47s rfl rfl hx28 rfl (rd_arg g_0 hFr27.cl) rfl) rfl ?_
    refine JH.pure rfl (yl_fieldAt Go.Proofs.Try.underlying47 rfl i2 i2n rfl (RdT.someQ (rd_arg g_0 hFr27.cl) hx28 rfl rfl)) rfl ?_
    refine JH.read rfl (yl_loadT1 Go.Proofs.Try.underlying2 rfl rfl hx28 (fun w hw => hFr27.arg g_0 hw) rfl) rfl ?_
    obtain ⟨x29, hx29, hres⟩ := bind_some hres
    refine JH.must rfl (ef_call (T := T77 x29) Go.Proofs.Try.func77 rfl (by kernel_rfl) rfl (fun w hC => c77  hx29)) rfl rfl ?_
    rintro _ _ ⟨_, ⟨rfl, rfl⟩, rfl⟩
    refine JH.pure rfl (yl_fieldAt (a := some _) Go.Proofs.Try.underlying47 rfl i2 i2n rfl rfl) rfl ?_
    refine JH.must rfl (ef_store_box (i := 0) (v := .int .i64 x29) i2 rfl rfl rfl (i2s).symm (Nat.le_of_ble_eq_true rfl) (by simp [Value.cells, Value.oneCell'])) rfl rfl ?_
    rintro _ _ rfl
    refine JH.nil ?_
    refine JE.weak (env' := [(0, .slice a_0 q0.length c_0), (2, ptrAt (some ⟨g1, 0, none⟩) 0), (3, ptrAt (some ⟨g3, 0, none⟩) 0), (4, ptrAt (some ⟨g16, 0, none⟩) 0), (5, ptrAt (some ⟨g17, 0, none⟩) 0), (6, .int .i64 x13)]) (es' := [boxO 47 g1 [.int .i64 0, .int .i64 0], boxO 47 g3 [.int .i64 0, .int .i64 0], boxO 47 g16 [.int .i64 x20, .int .i64 x23], boxO 47 g17 [.int .i64 x26, .int .i64 x29]]) [0, 1, 2, 3] ?_ ⟨rfl, rfl, rfl, rfl, rfl, rfl, trivial⟩ (by decide) rfl
    refine JE.code ?_
    refine JX.region ?_
    refine JL.val (yl_move rfl) rfl ?_
    refine JL.val (yl_add rfl rfl) rfl ?_
    refine JL.val (yl_assign rfl) rfl ?_
    refine JL.nil ?_
    refine JE.cont hres ?_
    exact fun a w h => ⟨g16, g17, h.weak ⟨rfl, rfl, rfl, rfl, rfl, rfl, trivial⟩ [0, 1, 2, 3] (by decide) rfl⟩
  · refine JX.condF rfl hb ?_
    refine JX.exit ?_
    refine JE.qb rfl ?_
    obtain ⟨b1, hb1⟩ : ∃ b : SPoint × SPoint, b = (x14, x15) := ⟨_, rfl⟩
    have hy1 : b1 = y1 := by rw [hb1]; exact hox1 _ (Option.some.inj hres).symm
    have hres := hresO1
    rw [← hy1] at hres
    refine JE.weak (env' := [(2, ptrAt (some ⟨g1, 0, none⟩) 0), (3, ptrAt (some ⟨g3, 0, none⟩) 0), (4, ptrAt (some ⟨g16, 0, none⟩) 0), (5, ptrAt (some ⟨g17, 0, none⟩) 0)]) (es' := [boxO 47 g1 [.int .i64 0, .int .i64 0], boxO 47 g3 [.int .i64 0, .int .i64 0], boxO 47 g16 [.int .i64 b1.1.X, .int .i64 b1.1.Y], boxO 47 g17 [.int .i64 b1.2.X, .int .i64 b1.2.Y]]) [0, 1, 2, 3] ?_ ⟨(by subst hb1; rfl), (by subst hb1; rfl), (by subst hb1; rfl), (by subst hb1; rfl), trivial⟩ (by decide) (by subst hb1; rfl)
    refine JE.code ?_
    refine JX.seq ?_
    refine JX.drawH [(0, .read), (1, .read), (2, .must), (3, .must)] [2, 3] [0, 1] [2, 3] [boxO 47 g1 [.int .i64 0, .int .i64 0], boxO 47 g3 [.int .i64 0, .int .i64 0]] [boxO 47 g16 [.int .i64 b1.1.X, .int .i64 b1.1.Y], boxO 47 g17 [.int .i64 b1.2.X, .int .i64 b1.2.Y]] mixedP rfl (by kernel_rfl) (by decide) rfl rfl ?_
    intro wrr32 Nr32 hFr32
    refine JH.read rfl (yl_loadn Go.Proofs.Try.underlying47 rfl i47 rfl (fun w hw => hFr32.box 2 rfl rfl hw) rfl (i47s).symm i47p) rfl ?_
    refine JH.read rfl (yl_loadn Go.Proofs.Try.underlying47 rfl i47 rfl (fun w hw => hFr32.box 3 rfl rfl hw) rfl (i47s).symm i47p) rfl ?_
    refine JH.must rfl (ef_store_box (i := 0) (v := .agg #[.int .i64 b1.1.X, .int .i64 b1.1.Y]) i47 rfl rfl rfl (i47s).symm (Nat.le_of_ble_eq_true rfl) (by simp [Value.cells, Value.oneCell'])) rfl rfl ?_
    rintro _ _ rfl
    refine JH.must rfl (ef_store_box (i := 1) (v := .agg #[.int .i64 b1.2.X, .int .i64 b1.2.Y]) i47 rfl rfl rfl (i47s).symm (Nat.le_of_ble_eq_true rfl) (by simp [Value.cells, Value.oneCell'])) rfl rfl ?_
    rintro _ _ rfl
    refine JH.nil ?_
    refine JE.weak (env' := [(2, ptrAt (some ⟨g1, 0, none⟩) 0), (3, ptrAt (some ⟨g3, 0, none⟩) 0)]) (es' := [boxO 47 g1 [.int .i64 b1.1.X, .int .i64 b1.1.Y], boxO 47 g3 [.int .i64 b1.2.X, .int .i64 b1.2.Y]]) [2, 3] ?_ ⟨rfl, rfl, trivial⟩ (by decide) rfl
    refine JE.code ?_
    refine JX.ret ?_
    obtain rfl := Option.some.inj hres
    refine JE.ret (rs := [.cell 2 47, .cell 3 47]) (vs := [.agg #[.int .i64 b1.1.X, .int .i64 b1.1.Y], .agg #[.int .i64 b1.2.X, .int .i64 b1.2.Y]]) rfl ⟨rv_box 0 rfl rfl Go.Proofs.Try.underlying47 rfl i47 (i47s).symm, rv_box 1 rfl rfl Go.Proofs.Try.underlying47 rfl i47 (i47s).symm, trivial⟩ ?_
    exact fun w' hb hs => ⟨_, _, ⟨rfl, rfl⟩, rfl, hb, hs.sel [] _ (by decide) rfl⟩

/- spec.PolygonBox -/
def sh39 (q0 : List SPoint) : Option (SPoint × SPoint × Int) := Option.bind (sh53 q0) fun x5 => bif !x5 then (some (SPoint.mk 0 0, SPoint.mk 0 0, 1)) else (Option.bind (sh64 q0) fun x6 => some (x6.1, x6.2, 0))
def T39 (r : SPoint × SPoint × Int) (v : Value) (rs : List Own) : Prop := v = rets [.agg #[.int .i64 r.1.X, .int .i64 r.1.Y], .agg #[.int .i64 r.2.1.X, .int .i64 r.2.1.Y], .int .i64 r.2.2] ∧ rs = []
set_option maxRecDepth 100000 in
theorem c39 {w : World} {q0 : List SPoint} {a_0 : Option Addr} {n_0 c_0 : Nat} (g_0 : Rd w a_0 (eSPoint.fl q0)) (l_0 : q0.length = n_0) {r : SPoint × SPoint × Int} (hres : sh39 q0 = some r) : Calls Go.Proofs.Try.prog 39 [.slice a_0 n_0 c_0].toArray w (Ret w (T39 r)) := by
  subst l_0
  unfold sh39 at hres
  refine calls_of (n := 19) (M := []) (es := []) Go.Proofs.Try.func39 rfl rfl rfl (Sep.nil _ _ _) ?_
  refine JX.seq ?_
  refine JX.region ?_
  refine JL.eff (ef_alloc i47 i47z rfl) rfl ?_
  rintro _ _ ⟨g1, rfl, rfl⟩
  refine JL.eff (ef_alloc i47 i47z rfl) rfl ?_
  rintro _ _ ⟨g3, rfl, rfl⟩
  refine JL.val (yl_assign rfl) rfl ?_
  refine JL.nil ?_
  refine JE.code ?_
  refine JX.seq ?_
  refine JX.seq ?_
  refine JX.region ?_
  refine JL.val (yl_move rfl) rfl ?_
  obtain ⟨x5, hx5, hres⟩ := bind_some hres
  refine JL.eff (ef_call (T := T53 x5) Go.Proofs.Try.func53 rfl (by kernel_rfl) rfl (fun w hC => c53 (rd_arg g_0 hC) rfl hx5)) rfl ?_
  rintro _ _ ⟨_, ⟨rfl, rfl⟩, rfl⟩
  refine JL.val (yl_not rfl) rfl ?_
  refine JL.nil ?_
  refine JE.code ?_
  rcases cond_some hres with ⟨hb, hres⟩ | ⟨hb, hres⟩
  · refine JX.condT rfl hb ?_
    refine JX.seq ?_
    refine JX.region ?_
    refine JL.val (yl_build rfl (fun w => bld47_  w)) rfl ?_
    refine JL.val (yl_build rfl (fun w => bld47_  w)) rfl ?_
    refine JL.eff (ef_store_box (i := 0) (v := .agg #[.int .i64 0, .int .i64 0]) i47 rfl rfl rfl (i47s).symm (Nat.le_of_ble_eq_true rfl) (by simp [Value.cells, Value.oneCell'])) rfl ?_
    rintro _ _ rfl
    refine JL.eff (ef_store_box (i := 1) (v := .agg #[.int .i64 0, .int .i64 0]) i47 rfl rfl rfl (i47s).symm (Nat.le_of_ble_eq_true rfl) (by simp [Value.cells, Value.oneCell'])) rfl ?_
    rintro _ _ rfl
    refine JL.val (yl_assign rfl) rfl ?_
    refine JL.nil ?_
    refine JE.weak (env' := [(2, ptrAt (some ⟨g1, 0, none⟩) 0), (3, ptrAt (some ⟨g3, 0, none⟩) 0), (4, .int .i64 1)]) (es' := [boxO 47 g1 [.int .i64 0, .int .i64 0], boxO 47 g3 [.int .i64 0, .int .i64 0]]) [0, 1] ?_ ⟨rfl, rfl, rfl, trivial⟩ (by decide) rfl
    refine JE.code ?_
    refine JX.ret ?_
    obtain rfl := Option.some.inj hres
    refine JE.ret (rs := [.cell 2 47, .cell 3 47, .tmp 4]) (vs := [.agg #[.int .i64 0, .int .i64 0], .agg #[.int .i64 0, .int .i64 0], .int .i64 1]) rfl ⟨rv_box 0 rfl rfl Go.Proofs.Try.underlying47 rfl i47 (i47s).symm, rv_box 1 rfl rfl Go.Proofs.Try.underlying47 rfl i47 (i47s).symm, rfl, trivial⟩ ?_
    exact fun w' hb hs => ⟨_, _, ⟨rfl, rfl⟩, rfl, hb, hs.sel [] _ (by decide) rfl⟩
  · refine JX.condF rfl hb ?_
    refine JX.skip ?_
    refine JE.code ?_
    refine JX.seq ?_
    refine JX.region ?_
    refine JL.val (yl_move rfl) rfl ?_
    obtain ⟨x6, hx6, hres⟩ := bind_some hres
    refine JL.eff (ef_call (T := T64 x6) Go.Proofs.Try.func64 rfl (by kernel_rfl) rfl (fun w hC => c64 (rd_arg g_0 hC) rfl hx6)) rfl ?_
    rintro _ _ ⟨_, ⟨rfl, rfl⟩, rfl⟩
    refine JL.val (yl_move rfl) rfl ?_
    refine JL.val (yl_extract rfl rfl) rfl ?_
    refine JL.val (yl_extract rfl rfl) rfl ?_
    refine JL.eff (ef_alloc i47 i47z rfl) rfl ?_
    rintro _ _ ⟨g7, rfl, rfl⟩
    refine JL.eff (ef_alloc i47 i47z rfl) rfl ?_
    rintro _ _ ⟨g9, rfl, rfl⟩
    refine JL.eff (ef_store_box (i := 2) (v := .agg #[.int .i64 x6.1.X, .int .i64 x6.1.Y]) i47 rfl rfl rfl (i47s).symm (Nat.le_of_ble_eq_true rfl) (by simp [Value.cells, Value.oneCell'])) rfl ?_
    rintro _ _ rfl
    refine JL.eff (ef_store_box (i := 3) (v := .agg #[.int .i64 x6.2.X, .int .i64 x6.2.Y]) i47 rfl rfl rfl (i47s).symm (Nat.le_of_ble_eq_true rfl) (by simp [Value.cells, Value.oneCell'])) rfl ?_
    rintro _ _ rfl
    refine JL.nil ?_
    refine JE.weak (env' := [(2, ptrAt (some ⟨g1, 0, none⟩) 0), (3, ptrAt (some ⟨g3, 0, none⟩) 0), (5, ptrAt (some ⟨g7, 0, none⟩) 0), (6, ptrAt (some ⟨g9, 0, none⟩) 0)]) (es' := [boxO 47 g1 [.int .i64 0, .int .i64 0], boxO 47 g3 [.int .i64 0, .int .i64 0], boxO 47 g7 [.int .i64 x6.1.X, .int .i64 x6.1.Y], boxO 47 g9 [.int .i64 x6.2.X, .int .i64 x6.2.Y]]) [0, 1, 2, 3] ?_ ⟨rfl, rfl, rfl, rfl, trivial⟩ (by decide) rfl
    refine JE.code ?_
    refine JX.seq ?_
    refine JX.drawH [(0, .read), (1, .read), (2, .must), (3, .must), (4, .pure)] [2, 3] [0, 1] [2, 3] [boxO 47 g1 [.int .i64 0, .int .i64 0], boxO 47 g3 [.int .i64 0, .int .i64 0]] [boxO 47 g7 [.int .i64 x6.1.X, .int .i64 x6.1.Y], boxO 47 g9 [.int .i64 x6.2.X, .int .i64 x6.2.Y]] mixedP rfl (by kernel_rfl) (by decide) rfl rfl ?_
    intro wrr11 Nr11 hFr11
    refine JH.read rfl (yl_loadn Go.Proofs.Try.underlying47 rfl i47 rfl (fun w hw => hFr11.box 2 rfl rfl hw) rfl (i47s).symm i47p) rfl ?_
    refine JH.read rfl (yl_loadn Go.Proofs.Try.underlying47 rfl i47 rfl (fun w hw => hFr11.box 3 rfl rfl hw) rfl (i47s).symm i47p) rfl ?_
    refine JH.must rfl (ef_store_box (i := 0) (v := .agg #[.int .i64 x6.1.X, .int .i64 x6.1.Y]) i47 rfl rfl rfl (i47s).symm (Nat.le_of_ble_eq_true rfl) (by simp [Value.cells, Value.oneCell'])) rfl rfl ?_
    rintro _ _ rfl
    refine JH.must rfl (ef_store_box (i := 1) (v := .agg #[.int .i64 x6.2.X, .int .i64 x6.2.Y]) i47 rfl rfl rfl (i47s).symm (Nat.le_of_ble_eq_true rfl) (by simp [Value.cells, Value.oneCell'])) rfl rfl ?_
    rintro _ _ rfl
    refine JH.pure rfl (yl_assign rfl) rfl ?_
    refine JH.nil ?_
    refine JE.weak (env' := [(2, ptrAt (some ⟨g1, 0, none⟩) 0), (3, ptrAt (some ⟨g3, 0, none⟩) 0), (4, .int .i64 0)]) (es' := [boxO 47 g1 [.int .i64 x6.1.X, .int .i64 x6.1.Y], boxO 47 g3 [.int .i64 x6.2.X, .int .i64 x6.2.Y]]) [2, 3] ?_ ⟨rfl, rfl, rfl, trivial⟩ (by decide) rfl
    refine JE.code ?_
    refine JX.ret ?_
    obtain rfl := Option.some.inj hres
    refine JE.ret (rs := [.cell 2 47, .cell 3 47, .tmp 4]) (vs := [.agg #[.int .i64 x6.1.X, .int .i64 x6.1.Y], .agg #[.int .i64 x6.2.X, .int .i64 x6.2.Y], .int .i64 0]) rfl ⟨rv_box 0 rfl rfl Go.Proofs.Try.underlying47 rfl i47 (i47s).symm, rv_box 1 rfl rfl Go.Proofs.Try.underlying47 rfl i47 (i47s).symm, rfl, trivial⟩ ?_
    exact fun w' hb hs => ⟨_, _, ⟨rfl, rfl⟩, rfl, hb, hs.sel [] _ (by decide) rfl⟩

/- impl.inRange -/
def sh51 (q0 : Int) (q1 : Int) (q2 : Int) : Option (Bool) := some ((decide (q1 ≤ q0)) && (decide (q0 ≤ q2)))
def T51 (r : Bool) (v : Value) (rs : List Own) : Prop := v = rets [.bool r] ∧ rs = []
set_option maxRecDepth 100000 in
theorem c51 {w : World} {q0 : Int} {q1 : Int} {q2 : Int} {r : Bool} (hres : sh51 q0 q1 q2 = some r) : Calls Go.Proofs.Try.prog 51 [.int .i64 q0, .int .i64 q1, .int .i64 q2].toArray w (Ret w (T51 r)) := by
  unfold sh51 at hres
  refine calls_of (n := 15) (M := []) (es := []) Go.Proofs.Try.func51 rfl rfl rfl (Sep.nil _ _ _) ?_
  refine JX.seq ?_
  refine JX.region ?_
  refine JL.val (yl_assign rfl) rfl ?_
  refine JL.nil ?_
  refine JE.code ?_
  refine JX.seq ?_
  refine JX.region ?_
  refine JL.val (yl_move rfl) rfl ?_
  refine JL.val (yl_move rfl) rfl ?_
  refine JL.val (yl_geq rfl rfl) rfl ?_
  refine JL.val (yl_move rfl) rfl ?_
  refine JL.cut (K := fun J => J [(14, .bool ((decide (q1 ≤ q0)) && (decide (q0 ≤ q2))))] []) 4 ?_ ?_
  · refine JL.val (yl_assign rfl) rfl ?_
    refine JL.nil ?_
    refine JE.weak (env' := [(6, .bool ((decide (q1 ≤ q0)) && (decide (q0 ≤ q2))))]) (es' := []) [] ?_ ⟨rfl, trivial⟩ (by decide) rfl
    refine JE.code ?_
    refine JX.ret ?_
    obtain rfl := Option.some.inj hres
    refine JE.ret (rs := [.tmp 6]) (vs := [.bool ((decide (q1 ≤ q0)) && (decide (q0 ≤ q2)))]) rfl ⟨rfl, trivial⟩ ?_
    exact fun w' hb hs => ⟨_, _, ⟨rfl, rfl⟩, rfl, hb, hs.sel [] _ (by decide) rfl⟩
  · intro K
    rcases Bool.eq_false_or_eq_true (decide (q1 ≤ q0)) with hb | hb
    · refine JL.set (d := 10) (v := .bool true) (congrArg (fun b => some (Value.bool b)) hb) ?_
      refine JL.gval rfl rfl (yl_move rfl) rfl ?_
      refine JL.gval rfl rfl (yl_move rfl) rfl ?_
      refine JL.gval rfl rfl (yl_leq rfl rfl) rfl ?_
      refine JL.val (yl_pick_true rfl rfl) rfl ?_
      exact JL.weak [] K ⟨(by rw [hb]; rfl), trivial⟩ (by decide) rfl
    · refine JL.set (d := 10) (v := .bool false) (congrArg (fun b => some (Value.bool b)) hb) ?_
      refine JL.gskip rfl rfl rfl rfl ?_
      refine JL.gskip rfl rfl rfl rfl ?_
      refine JL.gskip rfl rfl rfl rfl ?_
      refine JL.val (yl_pick_false rfl rfl) rfl ?_
      exact JL.weak [] K ⟨(by rw [hb]; rfl), trivial⟩ (by decide) rfl

/- impl.isCorner -/
def sh80 (q0 : SPoint) : Option (Bool) := Option.bind (sh51 q0.X (-100000) 100000) fun x3 => Option.bind (bif x3 then (Option.bind (sh51 q0.Y (-100000) 100000) fun x5 => some x5) else (some false)) fun c4 => (some c4)
def T80 (r : Bool) (v : Value) (rs : List Own) : Prop := v = rets [.bool r] ∧ rs = []
set_option maxRecDepth 100000 in
theorem c80 {w : World} {q0 : SPoint} {r : Bool} (hres : sh80 q0 = some r) : Calls Go.Proofs.Try.prog 80 [.agg #[.int .i64 q0.X, .int .i64 q0.Y]].toArray w (Ret w (T80 r)) := by
  unfold sh80 at hres
  refine calls_of (n := 11) (M := []) (es := []) Go.Proofs.Try.func80 rfl rfl rfl (Sep.nil _ _ _) ?_
  refine JX.seq ?_
  refine JX.region ?_
  refine JL.eff (ef_box rfl rfl) rfl ?_
  rintro _ _ ⟨g1, rfl, rfl⟩
  refine JL.val (yl_assign rfl) rfl ?_
  refine JL.nil ?_
  refine JE.code ?_
  refine JX.seq ?_
  refine JX.region ?_
  refine JL.val (yl_fieldAt (a := some _) Go.Proofs.Try.underlying47 rfl i2 i2n rfl rfl) rfl ?_
  refine JL.val (yl_load1 Go.Proofs.Try.underlying2 rfl rfl (fun w hC => rd_box hC 0 rfl) rfl) rfl ?_
  obtain ⟨x3, hx3, hres⟩ := bind_some hres
  refine JL.eff (ef_call (T := T51 x3) Go.Proofs.Try.func51 rfl (by kernel_rfl) rfl (fun w hC => c51  hx3)) rfl ?_
  rintro _ _ ⟨_, ⟨rfl, rfl⟩, rfl⟩
  refine JL.val (yl_move rfl) rfl ?_
  obtain ⟨c4, hc4, hres⟩ := bind_some hres
  refine JL.cut (K := fun J => J [(10, .bool c4)] []) 4 ?_ ?_
  · refine JL.val (yl_assign rfl) rfl ?_
    refine JL.nil ?_
    refine JE.weak (env' := [(2, .bool c4)]) (es' := []) [] ?_ ⟨rfl, trivial⟩ (by decide) rfl
    refine JE.code ?_
    refine JX.ret ?_
    obtain rfl := Option.some.inj hres
    refine JE.ret (rs := [.tmp 2]) (vs := [.bool c4]) rfl ⟨rfl, trivial⟩ ?_
    exact fun w' hb hs => ⟨_, _, ⟨rfl, rfl⟩, rfl, hb, hs.sel [] _ (by decide) rfl⟩
  · intro K
    rcases cond_some hc4 with ⟨hb, hres⟩ | ⟨hb, hres⟩
    · refine JL.set (d := 6) (v := .bool true) (congrArg (fun b => some (Value.bool b)) hb) ?_
      refine JL.gval rfl rfl (yl_fieldAt (a := some _) Go.Proofs.Try.underlying47 rfl i2 i2n rfl rfl) rfl ?_
      refine JL.gval rfl rfl (yl_load1 Go.Proofs.Try.underlying2 rfl rfl (fun w hC => rd_box hC 0 rfl) rfl) rfl ?_
      obtain ⟨x5, hx5, hres⟩ := bind_some hres
      refine JL.geff rfl rfl (ef_call (T := T51 x5) Go.Proofs.Try.func51 rfl (by kernel_rfl) rfl (fun w hC => c51  hx5)) rfl ?_
      rintro _ _ ⟨_, ⟨rfl, rfl⟩, rfl⟩
      refine JL.val (yl_pick_true rfl rfl) rfl ?_
      have he := Option.some.inj hres
      exact JL.weak [] K ⟨(by rw [← he]; rfl), trivial⟩ (by decide) rfl
    · refine JL.set (d := 6) (v := .bool false) (congrArg (fun b => some (Value.bool b)) hb) ?_
      refine JL.gskip rfl rfl rfl rfl ?_
      refine JL.gskip rfl rfl rfl rfl ?_
      refine JL.gskip rfl rfl rfl rfl ?_
      refine JL.val (yl_pick_false rfl rfl) rfl ?_
      have he := Option.some.inj hres
      exact JL.weak [] K ⟨(by rw [← he]; rfl), trivial⟩ (by decide) rfl

/- impl.isPolygon$1 -/
def sh79 (q0 : SPoint) : Option (Bool) := Option.bind (sh80 q0) fun x3 => some !x3
def T79 (r : Bool) (v : Value) (rs : List Own) : Prop := v = rets [.bool r] ∧ rs = []
set_option maxRecDepth 100000 in
theorem c79 {w : World} {q0 : SPoint} {r : Bool} (hres : sh79 q0 = some r) : Calls Go.Proofs.Try.prog 79 [.agg #[.int .i64 q0.X, .int .i64 q0.Y]].toArray w (Ret w (T79 r)) := by
  unfold sh79 at hres
  refine calls_of (n := 6) (M := []) (es := []) Go.Proofs.Try.func79 rfl rfl rfl (Sep.nil _ _ _) ?_
  refine JX.seq ?_
  refine JX.region ?_
  refine JL.eff (ef_box rfl rfl) rfl ?_
  rintro _ _ ⟨g1, rfl, rfl⟩
  refine JL.val (yl_assign rfl) rfl ?_
  refine JL.nil ?_
  refine JE.code ?_
  refine JX.seq ?_
  refine JX.region ?_
  refine JL.val (yl_loadn Go.Proofs.Try.underlying47 rfl i47 rfl (fun w hC => rd_box hC 0 rfl) rfl (i47s).symm i47p) rfl ?_
  obtain ⟨x3, hx3, hres⟩ := bind_some hres
  refine JL.eff (ef_call (vs := [.agg #[.int .i64 q0.X, .int .i64 q0.Y]]) (T := T80 x3) Go.Proofs.Try.func80 rfl (by kernel_rfl) rfl (fun w hC => c80 (q0 := q0) hx3)) rfl ?_
  rintro _ _ ⟨_, ⟨rfl, rfl⟩, rfl⟩
  refine JL.val (yl_not rfl) rfl ?_
  refine JL.val (yl_assign rfl) rfl ?_
  refine JL.nil ?_
  refine JE.weak (env' := [(2, .bool !x3)]) (es' := []) [] ?_ ⟨rfl, trivial⟩ (by decide) rfl
  refine JE.code ?_
  refine JX.ret ?_
  obtain rfl := Option.some.inj hres
  refine JE.ret (rs := [.tmp 2]) (vs := [.bool !x3]) rfl ⟨rfl, trivial⟩ ?_
  exact fun w' hb hs => ⟨_, _, ⟨rfl, rfl⟩, rfl, hb, hs.sel [] _ (by decide) rfl⟩

/- slices.IndexFunc[[]impl.Point,impl.Point] -/
def sh88f79_1 (q0 : List SPoint) : Int → Option (Int ⊕ (Unit ⊕ Int))
  | x1 => bif decide (x1 < (q0.length : Int)) then (Option.bind (getI q0 x1) fun x2 => Option.bind (sh79 x2) fun x3 => bif x3 then (some (.inr (.inr x1))) else (some (.inl (w64 (x1 + 1))))) else (some (.inr (.inl ())))
def sh88f79 (q0 : List SPoint) : Option (Int) := Option.bind (iter (sh88f79_1 q0) 0) fun y1 => elimS y1 (fun r => some r) fun b1 => (some (-1))
def T88f79 (r : Int) (v : Value) (rs : List Own) : Prop := v = rets [.int .i64 r] ∧ rs = []
set_option maxRecDepth 100000 in
theorem c88f79 {w : World} {q0 : List SPoint} {a_0 : Option Addr} {n_0 c_0 : Nat} (g_0 : Rd w a_0 (eSPoint.fl q0)) (l_0 : q0.length = n_0) {r : Int} (hres : sh88f79 q0 = some r) : Calls Go.Proofs.Try.prog 88 [.slice a_0 n_0 c_0, .func (.func 79) #[] #[]].toArray w (Ret w (T88f79 r)) := by
  subst l_0
  unfold sh88f79 at hres
  refine calls_of (n := 19) (M := []) (es := []) Go.Proofs.Try.func88 rfl rfl rfl (Sep.nil _ _ _) ?_
  refine JX.seq ?_
  refine JX.region ?_
  refine JL.val (yl_assign rfl) rfl ?_
  refine JL.nil ?_
  refine JE.code ?_
  refine JX.seq ?_
  refine JX.seq ?_
  refine JX.region ?_
  refine JL.val (yl_move rfl) rfl ?_
  refine JL.val (yl_len_slice Go.Proofs.Try.underlying35 rfl) rfl ?_
  refine JL.val (yl_move rfl) rfl ?_
  refine JL.nil ?_
  refine JE.code ?_
  refine JX.block ?_
  obtain ⟨y1, hy1, hresO1⟩ := bind_some hres
  refine JX.loop (I := fun (s1 : Int) aa ww => St w [] 19 [(0, .slice a_0 q0.length c_0), (1, .func (.func 79) #[] #[]), (7, .int .i64 (q0.length : Int)), (8, .int .i64 s1)] [] aa ww) (sh88f79_1 q0) hy1 (fun a w h => h.weak ⟨rfl, rfl, rfl, rfl, trivial⟩ [] (by decide) rfl) ?_
  rintro x1 o1 hres hox1 aa ww hS
  refine (?_ : JX Go.Proofs.Try.prog w [] 19 _ _ [(0, .slice a_0 q0.length c_0), (1, .func (.func 79) #[] #[]), (7, .int .i64 (q0.length : Int)), (8, .int .i64 x1)] [] _) aa ww hS
  clear hS
  unfold sh88f79_1 at hres
  refine JX.seq ?_
  refine JX.region ?_
  refine JL.val (yl_lss rfl rfl) rfl ?_
  refine JL.nil ?_
  refine JE.code ?_
  refine JX.seq ?_
  rcases cond_some hres with ⟨hb, hres⟩ | ⟨hb, hres⟩
  · refine JX.condT rfl hb ?_
    refine JX.skip ?_
    refine JE.code ?_
    refine JX.seq ?_
    refine JX.block ?_
    refine JX.seq ?_
    refine JX.region ?_
    refine JL.val (yl_move rfl) rfl ?_
    refine JL.val (yl_assign rfl) rfl ?_
    refine JL.nil ?_
    refine JE.code ?_
    refine JX.seq ?_
    refine JX.region ?_
    refine JL.val (yl_move rfl) rfl ?_
    refine JL.val (yl_move rfl) rfl ?_
    refine JL.val (yl_move rfl) rfl ?_
    obtain ⟨x2, hx2, hres⟩ := bind_some hres
    refine JL.val (yl_idxT Go.Proofs.Try.underlying35 i47 i47s rfl rfl hx2 rfl (fun w hC => rd_arg g_0 hC)) rfl ?_
    refine JL.val (yl_loadTn Go.Proofs.Try.underlying47 rfl i47 i47s rfl hx2 (fun w hC => rd_arg g_0 hC)) rfl ?_
    obtain ⟨x3, hx3, hres⟩ := bind_some hres
    refine JL.eff (ef_callv (vs := [.agg #[.int .i64 x2.X, .int .i64 x2.Y]]) (T := T79 x3) rfl Go.Proofs.Try.func79 rfl (by kernel_rfl) rfl (fun w hC => c79 (q0 := x2) hx3)) rfl ?_
    rintro _ _ ⟨_, ⟨rfl, rfl⟩, rfl⟩
    refine JL.nil ?_
    refine JE.weak (env' := [(0, .slice a_0 q0.length c_0), (1, .func (.func 79) #[] #[]), (5, .int .i64 x1), (7, .int .i64 (q0.length : Int)), (8, .int .i64 x1), (16, .bool x3)]) (es' := []) [] ?_ ⟨rfl, rfl, rfl, rfl, rfl, rfl, trivial⟩ (by decide) rfl
    refine JE.code ?_
    rcases cond_some hres with ⟨hb, hres⟩ | ⟨hb, hres⟩
    · refine JX.condT rfl hb ?_
      refine JX.seq ?_
      refine JX.region ?_
      refine JL.val (yl_move rfl) rfl ?_
      refine JL.val (yl_assign rfl) rfl ?_
      refine JL.nil ?_
      refine JE.code ?_
      refine JX.ret ?_
      refine JE.qbr ?_
      refine JE.qbr ?_
      have hres := elimS_inr hresO1 (hox1 _ (Option.some.inj hres).symm)
      obtain rfl := Option.some.inj hres
      refine JE.ret (rs := [.tmp 4]) (vs := [.int .i64 x1]) rfl ⟨rfl, trivial⟩ ?_
      exact fun w' hb hs => ⟨_, _, ⟨rfl, rfl⟩, rfl, hb, hs.sel [] _ (by decide) rfl⟩
    · refine JX.condF rfl hb ?_
      refine JX.skip ?_
      refine JE.code ?_
      refine JX.region ?_
      refine JL.val (yl_add rfl rfl) rfl ?_
      refine JL.val (yl_move rfl) rfl ?_
      refine JL.nil ?_
      refine JE.cont hres ?_
      exact fun a w h => h.weak ⟨rfl, rfl, rfl, rfl, trivial⟩ [] (by decide) rfl
  · refine JX.condF rfl hb ?_
    refine JX.exit ?_
    refine JE.qb rfl ?_
    obtain ⟨b1, hb1⟩ : ∃ b : Unit, b = () := ⟨_, rfl⟩
    have hy1 : Sum.inl b1 = y1 := by rw [hb1]; exact hox1 _ (Option.some.inj hres).symm
    have hres := elimS_inl hresO1 hy1
    refine JE.weak (env' := []) (es' := []) [] ?_ trivial (by decide) (by subst hb1; rfl)
    refine JE.code ?_
    refine JX.seq ?_
    refine JX.region ?_
    refine JL.val (yl_assign rfl) rfl ?_
    refine JL.nil ?_
    refine JE.code ?_
    refine JX.ret ?_
    obtain rfl := Option.some.inj hres
    refine JE.ret (rs := [.tmp 4]) (vs := [.int .i64 (-1)]) rfl ⟨rfl, trivial⟩ ?_
    exact fun w' hb hs => ⟨_, _, ⟨rfl, rfl⟩, rfl, hb, hs.sel [] _ (by decide) rfl⟩

/- slices.ContainsFunc[[]impl.Point,impl.Point] -/
def sh78f79 (q0 : List SPoint) : Option (Bool) := Option.bind (sh88f79 q0) fun x1 => some (decide (0 ≤ x1))
def T78f79 (r : Bool) (v : Value) (rs : List Own) : Prop := v = rets [.bool r] ∧ rs = []
set_option maxRecDepth 100000 in
theorem c78f79 {w : World} {q0 : List SPoint} {a_0 : Option Addr} {n_0 c_0 : Nat} (g_0 : Rd w a_0 (eSPoint.fl q0)) (l_0 : q0.length = n_0) {r : Bool} (hres : sh78f79 q0 = some r) : Calls Go.Proofs.Try.prog 78 [.slice a_0 n_0 c_0, .func (.func 79) #[] #[]].toArray w (Ret w (T78f79 r)) := by
  subst l_0
  unfold sh78f79 at hres
  refine calls_of (n := 9) (M := []) (es := []) Go.Proofs.Try.func78 rfl rfl rfl (Sep.nil _ _ _) ?_
  refine JX.seq ?_
  refine JX.region ?_
  refine JL.val (yl_assign rfl) rfl ?_
  refine JL.nil ?_
  refine JE.code ?_
  refine JX.seq ?_
  refine JX.region ?_
  refine JL.val (yl_move rfl) rfl ?_
  refine JL.val (yl_move rfl) rfl ?_
  obtain ⟨x1, hx1, hres⟩ := bind_some hres
  refine JL.eff (ef_call (T := T88f79 x1) Go.Proofs.Try.func88 rfl (by kernel_rfl) rfl (fun w hC => c88f79 (rd_arg g_0 hC) rfl hx1)) rfl ?_
  rintro _ _ ⟨_, ⟨rfl, rfl⟩, rfl⟩
  refine JL.val (yl_geq rfl rfl) rfl ?_
  refine JL.val (yl_assign rfl) rfl ?_
  refine JL.nil ?_
  refine JE.weak (env' := [(4, .bool (decide (0 ≤ x1)))]) (es' := []) [] ?_ ⟨rfl, trivial⟩ (by decide) rfl
  refine JE.code ?_
  refine JX.ret ?_
  obtain rfl := Option.some.inj hres
  refine JE.ret (rs := [.tmp 4]) (vs := [.bool (decide (0 ≤ x1))]) rfl ⟨rfl, trivial⟩ ?_
  exact fun w' hb hs => ⟨_, _, ⟨rfl, rfl⟩, rfl, hb, hs.sel [] _ (by decide) rfl⟩

/- impl.isPolygon -/
def sh57 (q0 : List SPoint) : Option (Bool) := Option.bind (sh51 (q0.length : Int) 3 300) fun x1 => Option.bind (bif x1 then (Option.bind (sh78f79 q0) fun x3 => some !x3) else (some false)) fun c2 => (some c2)
def T57 (r : Bool) (v : Value) (rs : List Own) : Prop := v = rets [.bool r] ∧ rs = []
set_option maxRecDepth 100000 in
theorem c57 {w : World} {q0 : List SPoint} {a_0 : Option Addr} {n_0 c_0 : Nat} (g_0 : Rd w a_0 (eSPoint.fl q0)) (l_0 : q0.length = n_0) {r : Bool} (hres : sh57 q0 = some r) : Calls Go.Proofs.Try.prog 57 [.slice a_0 n_0 c_0].toArray w (Ret w (T57 r)) := by
  subst l_0
  unfold sh57 at hres
  refine calls_of (n := 11) (M := []) (es := []) Go.Proofs.Try.func57 rfl rfl rfl (Sep.nil _ _ _) ?_
  refine JX.seq ?_
  refine JX.region ?_
  refine JL.val (yl_assign rfl) rfl ?_
  refine JL.nil ?_
  refine JE.code ?_
  refine JX.seq ?_
  refine JX.region ?_
  refine JL.val (yl_move rfl) rfl ?_
  refine JL.val (yl_len_slice Go.Proofs.Try.underlying35 rfl) rfl ?_
  obtain ⟨x1, hx1, hres⟩ := bind_some hres
  refine JL.eff (ef_call (T := T51 x1) Go.Proofs.Try.func51 rfl (by kernel_rfl) rfl (fun w hC => c51  hx1)) rfl ?_
  rintro _ _ ⟨_, ⟨rfl, rfl⟩, rfl⟩
  refine JL.val (yl_move rfl) rfl ?_
  obtain ⟨c2, hc2, hres⟩ := bind_some hres
  refine JL.cut (K := fun J => J [(10, .bool c2)] []) 4 ?_ ?_
  · refine JL.val (yl_assign rfl) rfl ?_
    refine JL.nil ?_
    refine JE.weak (env' := [(2, .bool c2)]) (es' := []) [] ?_ ⟨rfl, trivial⟩ (by decide) rfl
    refine JE.code ?_
    refine JX.ret ?_
    obtain rfl := Option.some.inj hres
    refine JE.ret (rs := [.tmp 2]) (vs := [.bool c2]) rfl ⟨rfl, trivial⟩ ?_
    exact fun w' hb hs => ⟨_, _, ⟨rfl, rfl⟩, rfl, hb, hs.sel [] _ (by decide) rfl⟩
  · intro K
    rcases cond_some hc2 with ⟨hb, hres⟩ | ⟨hb, hres⟩
    · refine JL.set (d := 6) (v := .bool true) (congrArg (fun b => some (Value.bool b)) hb) ?_
      refine JL.gval rfl rfl (yl_move rfl) rfl ?_
      obtain ⟨x3, hx3, hres⟩ := bind_some hres
      refine JL.geff rfl rfl (ef_call (T := T78f79 x3) Go.Proofs.Try.func78 rfl (by kernel_rfl) rfl (fun w hC => c78f79 (rd_arg g_0 hC) rfl hx3)) rfl ?_
      rintro _ _ ⟨_, ⟨rfl, rfl⟩, rfl⟩
      refine JL.gval rfl rfl (yl_not rfl) rfl ?_
      refine JL.val (yl_pick_true rfl rfl) rfl ?_
      have he := Option.some.inj hres
      exact JL.weak [] K ⟨(by rw [← he]; rfl), trivial⟩ (by decide) rfl
    · refine JL.set (d := 6) (v := .bool false) (congrArg (fun b => some (Value.bool b)) hb) ?_
      refine JL.gskip rfl rfl rfl rfl ?_
      refine JL.gskip rfl rfl rfl rfl ?_
      refine JL.gskip rfl rfl rfl rfl ?_
      refine JL.val (yl_pick_false rfl rfl) rfl ?_
      have he := Option.some.inj hres
      exact JL.weak [] K ⟨(by rw [← he]; rfl), trivial⟩ (by decide) rfl

/- impl.boxOf -/
def sh65_1 (q0 : List SPoint) : (Int × SPoint × SPoint) → Option ((Int × SPoint × SPoint) ⊕ (SPoint × SPoint))
  | (x14, x15, x16) => bif decide (x14 < (q0.length : Int)) then (Option.bind (getI q0 x14) fun x19 => some (.inl (w64 (x14 + 1), SPoint.mk (if x19.X < x15.X then x19.X else x15.X) (if x19.Y < x15.Y then x19.Y else x15.Y), SPoint.mk (if x16.X < x19.X then x19.X else x16.X) (if x16.Y < x19.Y then x19.Y else x16.Y)))) else (some (.inr (x15, x16)))
def sh65 (q0 : List SPoint) : Option (SPoint × SPoint) := Option.bind (getI q0 0) fun x6 => Option.bind (getI q0 0) fun x7 => Option.bind (iter (sh65_1 q0) (0, x6, x7)) fun b1 => (some (b1.1, b1.2))
def T65 (r : SPoint × SPoint) (v : Value) (rs : List Own) : Prop := v = rets [.agg #[.int .i64 r.1.X, .int .i64 r.1.Y], .agg #[.int .i64 r.2.X, .int .i64 r.2.Y]] ∧ rs = []
set_option maxRecDepth 100000 in
theorem c65 {w : World} {q0 : List SPoint} {a_0 : Option Addr} {n_0 c_0 : Nat} (g_0 : Rd w a_0 (eSPoint.fl q0)) (l_0 : q0.length = n_0) {r : SPoint × SPoint} (hres : sh65 q0 = some r) : Calls Go.Proofs.Try.prog 65 [.slice a_0 n_0 c_0].toArray w (Ret w (T65 r)) := by
  subst l_0
  unfold sh65 at hres
  refine calls_of (n := 45) (M := []) (es := []) Go.Proofs.Try.func65 rfl rfl rfl (Sep.nil _ _ _) ?_
  refine JX.seq ?_
  refine JX.region ?_
  refine JL.eff (ef_alloc i47 i47z rfl) rfl ?_
  rintro _ _ ⟨g1, rfl, rfl⟩
  refine JL.eff (ef_alloc i47 i47z rfl) rfl ?_
  rintro _ _ ⟨g3, rfl, rfl⟩
  refine JL.nil ?_
  refine JE.code ?_
  refine JX.seq ?_
  refine JX.drawH [(0, .pure), (1, .pure), (2, .read), (3, .pure), (4, .pure), (5, .read), (6, .two 7), (8, .must), (9, .must)] [8, 9] [] [0, 1] [] [boxO 47 g1 [.int .i64 0, .int .i64 0], boxO 47 g3 [.int .i64 0, .int .i64 0]] mixedP rfl (by kernel_rfl) (by decide) rfl rfl ?_
  intro wrr5 Nr5 hFr5
  refine JH.pure rfl (yl_move rfl) rfl ?_
  obtain ⟨x6, hx6, hres⟩ := bind_some hres
  refine JH.pure rfl (yl_idxQ Go.Proofs.Try.underlying35 i47 i47s rfl rfl hx6 rfl (rd_arg g_0 hFr5.cl) rfl) rfl ?_
  refine JH.read rfl (yl_loadTn Go.Proofs.Try.underlying47 rfl i47 i47s rfl hx6 (fun w hw => hFr5.arg g_0 hw)) rfl ?_
  refine JH.pure rfl (yl_move rfl) rfl ?_
  obtain ⟨x7, hx7, hres⟩ := bind_some hres
  refine JH.pure rfl (yl_idxQ Go.Proofs.Try.underlying35 i47 i47s rfl rfl hx7 rfl (rd_arg g_0 hFr5.cl) rfl) rfl ?_
  refine JH.read rfl (yl_loadTn Go.Proofs.Try.underlying47 rfl i47 i47s rfl hx7 (fun w hw => hFr5.arg g_0 hw)) rfl ?_
  refine JH.cut (K := fun J => ∀ (g8 : Nat) (g10 : Nat), J [(0, .slice a_0 q0.length c_0), (2, ptrAt (some ⟨g1, 0, none⟩) 0), (3, ptrAt (some ⟨g3, 0, none⟩) 0), (4, ptrAt (some ⟨g8, 0, none⟩) 0), (5, ptrAt (some ⟨g10, 0, none⟩) 0), (10, .agg #[.int .i64 x6.X, .int .i64 x6.Y]), (13, .agg #[.int .i64 x7.X, .int .i64 x7.Y])] [boxO 47 g8 [.int .i64 0, .int .i64 0], boxO 47 g10 [.int .i64 0, .int .i64 0]]) 1 ?_ ?_
  · intro g8 g10
    refine JH.must rfl (ef_store_box (i := 0) (v := .agg #[.int .i64 x6.X, .int .i64 x6.Y]) i47 rfl rfl rfl (i47s).symm (Nat.le_of_ble_eq_true rfl) (by simp [Value.cells, Value.oneCell'])) rfl rfl ?_
    rintro _ _ rfl
    refine JH.must rfl (ef_store_box (i := 1) (v := .agg #[.int .i64 x7.X, .int .i64 x7.Y]) i47 rfl rfl rfl (i47s).symm (Nat.le_of_ble_eq_true rfl) (by simp [Value.cells, Value.oneCell'])) rfl rfl ?_
    rintro _ _ rfl
    refine JH.nil ?_
    refine JE.weak (env' := [(0, .slice a_0 q0.length c_0), (2, ptrAt (some ⟨g1, 0, none⟩) 0), (3, ptrAt (some ⟨g3, 0, none⟩) 0), (4, ptrAt (some ⟨g8, 0, none⟩) 0), (5, ptrAt (some ⟨g10, 0, none⟩) 0)]) (es' := [boxO 47 g1 [.int .i64 0, .int .i64 0], boxO 47 g3 [.int .i64 0, .int .i64 0], boxO 47 g8 [.int .i64 x6.X, .int .i64 x6.Y], boxO 47 g10 [.int .i64 x7.X, .int .i64 x7.Y]]) [0, 1, 2, 3] ?_ ⟨rfl, rfl, rfl, rfl, rfl, trivial⟩ (by decide) rfl
    refine JE.code ?_
    refine JX.seq ?_
    refine JX.seq ?_
    refine JX.region ?_
    refine JL.val (yl_move rfl) rfl ?_
    refine JL.val (yl_len_slice Go.Proofs.Try.underlying35 rfl) rfl ?_
    refine JL.val (yl_move rfl) rfl ?_
    refine JL.nil ?_
    refine JE.code ?_
    refine JX.block ?_
    obtain ⟨y1, hy1, hresO1⟩ := bind_some hres
    refine JX.loop (I := fun (s1 : Int × SPoint × SPoint) aa ww => ∃ (g12 : Nat) (g13 : Nat), St w [] 45 [(2, ptrAt (some ⟨g1, 0, none⟩) 0), (3, ptrAt (some ⟨g3, 0, none⟩) 0), (4, ptrAt (some ⟨g12, 0, none⟩) 0), (5, ptrAt (some ⟨g13, 0, none⟩) 0), (14, .slice a_0 q0.length c_0), (15, .int .i64 (q0.length : Int)), (16, .int .i64 s1.1)] [boxO 47 g1 [.int .i64 0, .int .i64 0], boxO 47 g3 [.int .i64 0, .int .i64 0], boxO 47 g12 [.int .i64 s1.2.1.X, .int .i64 s1.2.1.Y], boxO 47 g13 [.int .i64 s1.2.2.X, .int .i64 s1.2.2.Y]] aa ww) (sh65_1 q0) hy1 (fun a w h => ⟨g8, g10, h.weak ⟨rfl, rfl, rfl, rfl, rfl, rfl, rfl, trivial⟩ [0, 1, 2, 3] (by decide) rfl⟩) ?_
    rintro ⟨x14, x15, x16⟩ o1 hres hox1 aa ww ⟨g17, g18, hS⟩
    refine (?_ : JX Go.Proofs.Try.prog w [] 45 _ _ [(2, ptrAt (some ⟨g1, 0, none⟩) 0), (3, ptrAt (some ⟨g3, 0, none⟩) 0), (4, ptrAt (some ⟨g17, 0, none⟩) 0), (5, ptrAt (some ⟨g18, 0, none⟩) 0), (14, .slice a_0 q0.length c_0), (15, .int .i64 (q0.length : Int)), (16, .int .i64 x14)] [boxO 47 g1 [.int .i64 0, .int .i64 0], boxO 47 g3 [.int .i64 0, .int .i64 0], boxO 47 g17 [.int .i64 x15.X, .int .i64 x15.Y], boxO 47 g18 [.int .i64 x16.X, .int .i64 x16.Y]] _) aa ww hS
    clear hS
    simp only [sh65_1] at hres
    refine JX.seq ?_
    refine JX.region ?_
    refine JL.val (yl_lss rfl rfl) rfl ?_
    refine JL.nil ?_
    refine JE.code ?_
    refine JX.seq ?_
    rcases cond_some hres with ⟨hb, hres⟩ | ⟨hb, hres⟩
    · refine JX.condT rfl hb ?_
      refine JX.skip ?_
      refine JE.code ?_
      refine JX.seq ?_
      refine JX.block ?_
      refine JX.seq ?_
      refine JX.region ?_
      obtain ⟨x19, hx19, hres⟩ := bind_some hres
      refine JL.val (yl_idxT Go.Proofs.Try.underlying35 i47 i47s rfl rfl hx19 rfl (fun w hC => rd_arg g_0 hC)) rfl ?_
      refine JL.val (yl_loadTn Go.Proofs.Try.underlying47 rfl i47 i47s rfl hx19 (fun w hC => rd_arg g_0 hC)) rfl ?_
      refine JL.eff (ef_alloc i47 i47z rfl) rfl ?_
      rintro _ _ ⟨g20, rfl, rfl⟩
      refine JL.eff (ef_store_box (i := 4) (v := .agg #[.int .i64 x19.X, .int .i64 x19.Y]) i47 rfl rfl rfl (i47s).symm (Nat.le_of_ble_eq_true rfl) (by simp [Value.cells, Value.oneCell'])) rfl ?_
      rintro _ _ rfl
      refine JL.nil ?_
      refine JE.weak (env' := [(2, ptrAt (some ⟨g1, 0, none⟩) 0), (3, ptrAt (some ⟨g3, 0, none⟩) 0), (4, ptrAt (some ⟨g17, 0, none⟩) 0), (5, ptrAt (some ⟨g18, 0, none⟩) 0), (7, ptrAt (some ⟨g20, 0, none⟩) 0), (14, .slice a_0 q0.length c_0), (15, .int .i64 (q0.length : Int)), (16, .int .i64 x14)]) (es' := [boxO 47 g1 [.int .i64 0, .int .i64 0], boxO 47 g3 [.int .i64 0, .int .i64 0], boxO 47 g17 [.int .i64 x15.X, .int .i64 x15.Y], boxO 47 g18 [.int .i64 x16.X, .int .i64 x16.Y], boxO 47 g20 [.int .i64 x19.X, .int .i64 x19.Y]]) [0, 1, 2, 3, 4] ?_ ⟨rfl, rfl, rfl, rfl, rfl, rfl, rfl, rfl, trivial⟩ (by decide) rfl
      refine JE.code ?_
      refine JX.seq ?_
      refine JX.region ?_
      refine JL.val (yl_fieldAt (a := some _) Go.Proofs.Try.underlying47 rfl i2 i2n rfl rfl) rfl ?_
      refine JL.val (yl_load1 Go.Proofs.Try.underlying2 rfl rfl (fun w hC => rd_box hC 2 rfl) rfl) rfl ?_
      refine JL.val (yl_fieldAt (a := some _) Go.Proofs.Try.underlying47 rfl i2 i2n rfl rfl) rfl ?_
      refine JL.val (yl_load1 Go.Proofs.Try.underlying2 rfl rfl (fun w hC => rd_box hC 4 rfl) rfl) rfl ?_
      refine JL.val (yl_min rfl rfl) rfl ?_
      refine JL.val (yl_fieldAt (a := some _) Go.Proofs.Try.underlying47 rfl i2 i2n rfl rfl) rfl ?_
      refine JL.val (yl_load1 Go.Proofs.Try.underlying2 rfl rfl (fun w hC => rd_box hC 2 rfl) rfl) rfl ?_
      refine JL.val (yl_fieldAt (a := some _) Go.Proofs.Try.underlying47 rfl i2 i2n rfl rfl) rfl ?_
      refine JL.val (yl_load1 Go.Proofs.Try.underlying2 rfl rfl (fun w hC => rd_box hC 4 rfl) rfl) rfl ?_
      refine JL.val (yl_min rfl rfl) rfl ?_
      refine JL.val (yl_build rfl (fun w => bld47_0_1 (if x19.X < x15.X then x19.X else x15.X) (if x19.Y < x15.Y then x19.Y else x15.Y) w)) rfl ?_
      refine JL.eff (ef_store_box (i := 2) (v := .agg #[.int .i64 (if x19.X < x15.X then x19.X else x15.X), .int .i64 (if x19.Y < x15.Y then x19.Y else x15.Y)]) i47 rfl rfl rfl (i47s).symm (Nat.le_of_ble_eq_true rfl) (by simp [Value.cells, Value.oneCell'])) rfl ?_
      rintro _ _ rfl
      refine JL.nil ?_
      refine JE.weak (env' := [(2, ptrAt (some ⟨g1, 0, none⟩) 0), (3, ptrAt (some ⟨g3, 0, none⟩) 0), (4, ptrAt (some ⟨g17, 0, none⟩) 0), (5, ptrAt (some ⟨g18, 0, none⟩) 0), (7, ptrAt (some ⟨g20, 0, none⟩) 0), (14, .slice a_0 q0.length c_0), (15, .int .i64 (q0.length : Int)), (16, .int .i64 x14)]) (es' := [boxO 47 g1 [.int .i64 0, .int .i64 0], boxO 47 g3 [.int .i64 0, .int .i64 0], boxO 47 g17 [.int .i64 (if x19.X < x15.X then x19.X else x15.X), .int .i64 (if x19.Y < x15.Y then x19.Y else x15.Y)], boxO 47 g18 [.int .i64 x16.X, .int .i64 x16.Y], boxO 47 g20 [.int .i64 x19.X, .int .i64 x19.Y]]) [0, 1, 2, 3, 4] ?_ ⟨rfl, rfl, rfl, rfl, rfl, rfl, rfl, rfl, trivial⟩ (by decide) rfl
      refine JE.code ?_
      refine JX.region ?_
      refine JL.val (yl_fieldAt (a := some _) Go.Proofs.Try.underlying47 rfl i2 i2n rfl rfl) rfl ?_
      refine JL.val (yl_load1 Go.Proofs.Try.underlying2 rfl rfl (fun w hC => rd_box hC 3 rfl) rfl) rfl ?_
      refine JL.val (yl_fieldAt (a := some _) Go.Proofs.Try.underlying47 rfl i2 i2n rfl rfl) rfl ?_
      refine JL.val (yl_load1 Go.Proofs.Try.underlying2 rfl rfl (fun w hC => rd_box hC 4 rfl) rfl) rfl ?_
      refine JL.val (yl_max rfl rfl) rfl ?_
      refine JL.val (yl_fieldAt (a := some _) Go.Proofs.Try.underlying47 rfl i2 i2n rfl rfl) rfl ?_
      refine JL.val (yl_load1 Go.Proofs.Try.underlying2 rfl rfl (fun w hC => rd_box hC 3 rfl) rfl) rfl ?_
      refine JL.val (yl_fieldAt (a := some _) Go.Proofs.Try.underlying47 rfl i2 i2n rfl rfl) rfl ?_
      refine JL.val (yl_load1 Go.Proofs.Try.underlying2 rfl rfl (fun w hC => rd_box hC 4 rfl) rfl) rfl ?_
      refine JL.val (yl_max rfl rfl) rfl ?_
      refine JL.val (yl_build rfl (fun w => bld47_0_1 (if x16.X < x19.X then x19.X else x16.X) (if x16.Y < x19.Y then x19.Y else x16.Y) w)) rfl ?_
      refine JL.eff (ef_store_box (i := 3) (v := .agg #[.int .i64 (if x16.X < x19.X then x19.X else x16.X), .int .i64 (if x16.Y < x19.Y then x19.Y else x16.Y)]) i47 rfl rfl rfl (i47s).symm (Nat.le_of_ble_eq_true rfl) (by simp [Value.cells, Value.oneCell'])) rfl ?_
      rintro _ _ rfl
      refine JL.nil ?_
      refine JE.weak (env' := [(2, ptrAt (some ⟨g1, 0, none⟩) 0), (3, ptrAt (some ⟨g3, 0, none⟩) 0), (4, ptrAt (some ⟨g17, 0, none⟩) 0), (5, ptrAt (some ⟨g18, 0, none⟩) 0), (14, .slice a_0 q0.length c_0), (15, .int .i64 (q0.length : Int)), (16, .int .i64 x14)]) (es' := [boxO 47 g1 [.int .i64 0, .int .i64 0], boxO 47 g3 [.int .i64 0, .int .i64 0], boxO 47 g17 [.int .i64 (if x19.X < x15.X then x19.X else x15.X), .int .i64 (if x19.Y < x15.Y then x19.Y else x15.Y)], boxO 47 g18 [.int .i64 (if x16.X < x19.X then x19.X else x16.X), .int .i64 (if x16.Y < x19.Y then x19.Y else x16.Y)]]) [0, 1, 2, 3] ?_ ⟨rfl, rfl, rfl, rfl, rfl, rfl, rfl, trivial⟩ (by decide) rfl
      refine JE.code ?_
      refine JX.region ?_
      refine JL.val (yl_add rfl rfl) rfl ?_
      refine JL.val (yl_move rfl) rfl ?_
      refine JL.nil ?_
      refine JE.cont hres ?_
      exact fun a w h => ⟨g17, g18, h.weak ⟨rfl, rfl, rfl, rfl, rfl, rfl, rfl, trivial⟩ [0, 1, 2, 3] (by decide) rfl⟩
    · refine JX.condF rfl hb ?_
      refine JX.exit ?_
      refine JE.qb rfl ?_
      obtain ⟨b1, hb1⟩ : ∃ b : SPoint × SPoint, b = (x15, x16) := ⟨_, rfl⟩
      have hy1 : b1 = y1 := by rw [hb1]; exact hox1 _ (Option.some.inj hres).symm
      have hres := hresO1
      rw [← hy1] at hres
      refine JE.weak (env' := [(2, ptrAt (some ⟨g1, 0, none⟩) 0), (3, ptrAt (some ⟨g3, 0, none⟩) 0), (4, ptrAt (some ⟨g17, 0, none⟩) 0), (5, ptrAt (some ⟨g18, 0, none⟩) 0)]) (es' := [boxO 47 g1 [.int .i64 0, .int .i64 0], boxO 47 g3 [.int .i64 0, .int .i64 0], boxO 47 g17 [.int .i64 b1.1.X, .int .i64 b1.1.Y], boxO 47 g18 [.int .i64 b1.2.X, .int .i64 b1.2.Y]]) [0, 1, 2, 3] ?_ ⟨(by subst hb1; rfl), (by subst hb1; rfl), (by subst hb1; rfl), (by subst hb1; rfl), trivial⟩ (by decide) (by subst hb1; rfl)
      refine JE.code ?_
      refine JX.seq ?_
      refine JX.drawH [(0, .read), (1, .read), (2, .must), (3, .must)] [2, 3] [0, 1] [2, 3] [boxO 47 g1 [.int .i64 0, .int .i64 0], boxO 47 g3 [.int .i64 0, .int .i64 0]] [boxO 47 g17 [.int .i64 b1.1.X, .int .i64 b1.1.Y], boxO 47 g18 [.int .i64 b1.2.X, .int .i64 b1.2.Y]] mixedP rfl (by kernel_rfl) (by decide) rfl rfl ?_
      intro wrr24 Nr24 hFr24
      refine JH.read rfl (yl_loadn Go.Proofs.Try.underlying47 rfl i47 rfl (fun w hw => hFr24.box 2 rfl rfl hw) rfl (i47s).symm i47p) rfl ?_
      refine JH.read rfl (yl_loadn Go.Proofs.Try.underlying47 rfl i47 rfl (fun w hw => hFr24.box 3 rfl rfl hw) rfl (i47s).symm i47p) rfl ?_
      refine JH.must rfl (ef_store_box (i := 0) (v := .agg #[.int .i64 b1.1.X, .int .i64 b1.1.Y]) i47 rfl rfl rfl (i47s).symm (Nat.le_of_ble_eq_true rfl) (by simp [Value.cells, Value.oneCell'])) rfl rfl ?_
      rintro _ _ rfl
      refine JH.must rfl (ef_store_box (i := 1) (v := .agg #[.int .i64 b1.2.X, .int .i64 b1.2.Y]) i47 rfl rfl rfl (i47s).symm (Nat.le_of_ble_eq_true rfl) (by simp [Value.cells, Value.oneCell'])) rfl rfl ?_
      rintro _ _ rfl
      refine JH.nil ?_
      refine JE.weak (env' := [(2, ptrAt (some ⟨g1, 0, none⟩) 0), (3, ptrAt (some ⟨g3, 0, none⟩) 0)]) (es' := [boxO 47 g1 [.int .i64 b1.1.X, .int .i64 b1.1.Y], boxO 47 g3 [.int .i64 b1.2.X, .int .i64 b1.2.Y]]) [2, 3] ?_ ⟨rfl, rfl, trivial⟩ (by decide) rfl
      refine JE.code ?_
      refine JX.ret ?_
      obtain rfl := Option.some.inj hres
      refine JE.ret (rs := [.cell 2 47, .cell 3 47]) (vs := [.agg #[.int .i64 b1.1.X, .int .i64 b1.1.Y], .agg #[.int .i64 b1.2.X, .int .i64 b1.2.Y]]) rfl ⟨rv_box 0 rfl rfl Go.Proofs.Try.underlying47 rfl i47 (i47s).symm, rv_box 1 rfl rfl Go.Proofs.Try.underlying47 rfl i47 (i47s).symm, trivial⟩ ?_
      exact fun w' hb hs => ⟨_, _, ⟨rfl, rfl⟩, rfl, hb, hs.sel [] _ (by decide) rfl⟩
  · intro K
    refine JH.two ?_ ?_
    · refine JH.must rfl (ef_alloc i47 i47z rfl) rfl rfl ?_
      rintro _ _ ⟨g8, rfl, rfl⟩
      refine JH.must rfl (ef_alloc i47 i47z rfl) rfl rfl ?_
      rintro _ _ ⟨g10, rfl, rfl⟩
      exact JH.weak [0, 1] (K g8 g10) ⟨rfl, rfl, rfl, rfl, rfl, rfl, rfl, trivial⟩ (by decide) rfl
    · refine JH.must rfl (ef_alloc i47 i47z rfl) rfl rfl ?_
      rintro _ _ ⟨g10, rfl, rfl⟩
      refine JH.must rfl (ef_alloc i47 i47z rfl) rfl rfl ?_
      rintro _ _ ⟨g8, rfl, rfl⟩
      exact JH.weak [1, 0] (K g8 g10) ⟨rfl, rfl, rfl, rfl, rfl, rfl, rfl, trivial⟩ (by decide) rfl

/- impl.PolygonBox -/
def sh40 (q0 : List SPoint) : Option (SPoint × SPoint × Int) := Option.bind (sh57 q0) fun x5 => bif !x5 then (some (SPoint.mk 0 0, SPoint.mk 0 0, 1)) else (Option.bind (sh65 q0) fun x6 => some (x6.1, x6.2, 0))
def T40 (r : SPoint × SPoint × Int) (v : Value) (rs : List Own) : Prop := v = rets [.agg #[.int .i64 r.1.X, .int .i64 r.1.Y], .agg #[.int .i64 r.2.1.X, .int .i64 r.2.1.Y], .int .i64 r.2.2] ∧ rs = []
set_option maxRecDepth 100000 in
theorem c40 {w : World} {q0 : List SPoint} {a_0 : Option Addr} {n_0 c_0 : Nat} (g_0 : Rd w a_0 (eSPoint.fl q0)) (l_0 : q0.length = n_0) {r : SPoint × SPoint × Int} (hres : sh40 q0 = some r) : Calls Go.Proofs.Try.prog 40 [.slice a_0 n_0 c_0].toArray w (Ret w (T40 r)) := by
  subst l_0
  unfold sh40 at hres
  refine calls_of (n := 19) (M := []) (es := []) Go.Proofs.Try.func40 rfl rfl rfl (Sep.nil _ _ _) ?_
  refine JX.seq ?_
  refine JX.region ?_
  refine JL.eff (ef_alloc i47 i47z rfl) rfl ?_
  rintro _ _ ⟨g1, rfl, rfl⟩
  refine JL.eff (ef_alloc i47 i47z rfl) rfl ?_
  rintro _ _ ⟨g3, rfl, rfl⟩
  refine JL.val (yl_assign rfl) rfl ?_
  refine JL.nil ?_
  refine JE.code ?_
  refine JX.seq ?_
  refine JX.seq ?_
  refine JX.region ?_
  refine JL.val (yl_move rfl) rfl ?_
  obtain ⟨x5, hx5, hres⟩ := bind_some hres
  refine JL.eff (ef_call (T := T57 x5) Go.Proofs.Try.func57 rfl (by kernel_rfl) rfl (fun w hC => c57 (rd_arg g_0 hC) rfl hx5)) rfl ?_
  rintro _ _ ⟨_, ⟨rfl, rfl⟩, rfl⟩
  refine JL.val (yl_not rfl) rfl ?_
  refine JL.nil ?_
  refine JE.code ?_
  rcases cond_some hres with ⟨hb, hres⟩ | ⟨hb, hres⟩
  · refine JX.condT rfl hb ?_
    refine JX.seq ?_
    refine JX.region ?_
    refine JL.val (yl_build rfl (fun w => bld47_  w)) rfl ?_
    refine JL.val (yl_build rfl (fun w => bld47_  w)) rfl ?_
    refine JL.eff (ef_store_box (i := 0) (v := .agg #[.int .i64 0, .int .i64 0]) i47 rfl rfl rfl (i47s).symm (Nat.le_of_ble_eq_true rfl) (by simp [Value.cells, Value.oneCell'])) rfl ?_
    rintro _ _ rfl
    refine JL.eff (ef_store_box (i := 1) (v := .agg #[.int .i64 0, .int .i64 0]) i47 rfl rfl rfl (i47s).symm (Nat.le_of_ble_eq_true rfl) (by simp [Value.cells, Value.oneCell'])) rfl ?_
    rintro _ _ rfl
    refine JL.val (yl_assign rfl) rfl ?_
    refine JL.nil ?_
    refine JE.weak (env' := [(2, ptrAt (some ⟨g1, 0, none⟩) 0), (3, ptrAt (some ⟨g3, 0, none⟩) 0), (4, .int .i64 1)]) (es' := [boxO 47 g1 [.int .i64 0, .int .i64 0], boxO 47 g3 [.int .i64 0, .int .i64 0]]) [0, 1] ?_ ⟨rfl, rfl, rfl, trivial⟩ (by decide) rfl
    refine JE.code ?_
    refine JX.ret ?_
    obtain rfl := Option.some.inj hres
    refine JE.ret (rs := [.cell 2 47, .cell 3 47, .tmp 4]) (vs := [.agg #[.int .i64 0, .int .i64 0], .agg #[.int .i64 0, .int .i64 0], .int .i64 1]) rfl ⟨rv_box 0 rfl rfl Go.Proofs.Try.underlying47 rfl i47 (i47s).symm, rv_box 1 rfl rfl Go.Proofs.Try.underlying47 rfl i47 (i47s).symm, rfl, trivial⟩ ?_
    exact fun w' hb hs => ⟨_, _, ⟨rfl, rfl⟩, rfl, hb, hs.sel [] _ (by decide) rfl⟩
  · refine JX.condF rfl hb ?_
    refine JX.skip ?_
    refine JE.code ?_
    refine JX.seq ?_
    refine JX.region ?_
    refine JL.val (yl_move rfl) rfl ?_
    obtain ⟨x6, hx6, hres⟩ := bind_some hres
    refine JL.eff (ef_call (T := T65 x6) Go.Proofs.Try.func65 rfl (by kernel_rfl) rfl (fun w hC => c65 (rd_arg g_0 hC) rfl hx6)) rfl ?_
    rintro _ _ ⟨_, ⟨rfl, rfl⟩, rfl⟩
    refine JL.val (yl_move rfl) rfl ?_
    refine JL.val (yl_extract rfl rfl) rfl ?_
    refine JL.val (yl_extract rfl rfl) rfl ?_
    refine JL.eff (ef_alloc i47 i47z rfl) rfl ?_
    rintro _ _ ⟨g7, rfl, rfl⟩
    refine JL.eff (ef_alloc i47 i47z rfl) rfl ?_
    rintro _ _ ⟨g9, rfl, rfl⟩
    refine JL.eff (ef_store_box (i := 2) (v := .agg #[.int .i64 x6.1.X, .int .i64 x6.1.Y]) i47 rfl rfl rfl (i47s).symm (Nat.le_of_ble_eq_true rfl) (by simp [Value.cells, Value.oneCell'])) rfl ?_
    rintro _ _ rfl
    refine JL.eff (ef_store_box (i := 3) (v := .agg #[.int .i64 x6.2.X, .int .i64 x6.2.Y]) i47 rfl rfl rfl (i47s).symm (Nat.le_of_ble_eq_true rfl) (by simp [Value.cells, Value.oneCell'])) rfl ?_
    rintro _ _ rfl
    refine JL.nil ?_
    refine JE.weak (env' := [(2, ptrAt (some ⟨g1, 0, none⟩) 0), (3, ptrAt (some ⟨g3, 0, none⟩) 0), (5, ptrAt (some ⟨g7, 0, none⟩) 0), (6, ptrAt (some ⟨g9, 0, none⟩) 0)]) (es' := [boxO 47 g1 [.int .i64 0, .int .i64 0], boxO 47 g3 [.int .i64 0, .int .i64 0], boxO 47 g7 [.int .i64 x6.1.X, .int .i64 x6.1.Y], boxO 47 g9 [.int .i64 x6.2.X, .int .i64 x6.2.Y]]) [0, 1, 2, 3] ?_ ⟨rfl, rfl, rfl, rfl, trivial⟩ (by decide) rfl
    refine JE.code ?_
    refine JX.seq ?_
    refine JX.drawH [(0, .read), (1, .read), (2, .must), (3, .must), (4, .pure)] [2, 3] [0, 1] [2, 3] [boxO 47 g1 [.int .i64 0, .int .i64 0], boxO 47 g3 [.int .i64 0, .int .i64 0]] [boxO 47 g7 [.int .i64 x6.1.X, .int .i64 x6.1.Y], boxO 47 g9 [.int .i64 x6.2.X, .int .i64 x6.2.Y]] mixedP rfl (by kernel_rfl) (by decide) rfl rfl ?_
    intro wrr11 Nr11 hFr11
    refine JH.read rfl (yl_loadn Go.Proofs.Try.underlying47 rfl i47 rfl (fun w hw => hFr11.box 2 rfl rfl hw) rfl (i47s).symm i47p) rfl ?_
    refine JH.read rfl (yl_loadn Go.Proofs.Try.underlying47 rfl i47 rfl (fun w hw => hFr11.box 3 rfl rfl hw) rfl (i47s).symm i47p) rfl ?_
    refine JH.must rfl (ef_store_box (i := 0) (v := .agg #[.int .i64 x6.1.X, .int .i64 x6.1.Y]) i47 rfl rfl rfl (i47s).symm (Nat.le_of_ble_eq_true rfl) (by simp [Value.cells, Value.oneCell'])) rfl rfl ?_
    rintro _ _ rfl
    refine JH.must rfl (ef_store_box (i := 1) (v := .agg #[.int .i64 x6.2.X, .int .i64 x6.2.Y]) i47 rfl rfl rfl (i47s).symm (Nat.le_of_ble_eq_true rfl) (by simp [Value.cells, Value.oneCell'])) rfl rfl ?_
    rintro _ _ rfl
    refine JH.pure rfl (yl_assign rfl) rfl ?_
    refine JH.nil ?_
    refine JE.weak (env' := [(2, ptrAt (some ⟨g1, 0, none⟩) 0), (3, ptrAt (some ⟨g3, 0, none⟩) 0), (4, .int .i64 0)]) (es' := [boxO 47 g1 [.int .i64 x6.1.X, .int .i64 x6.1.Y], boxO 47 g3 [.int .i64 x6.2.X, .int .i64 x6.2.Y]]) [2, 3] ?_ ⟨rfl, rfl, rfl, trivial⟩ (by decide) rfl
    refine JE.code ?_
    refine JX.ret ?_
    obtain rfl := Option.some.inj hres
    refine JE.ret (rs := [.cell 2 47, .cell 3 47, .tmp 4]) (vs := [.agg #[.int .i64 x6.1.X, .int .i64 x6.1.Y], .agg #[.int .i64 x6.2.X, .int .i64 x6.2.Y], .int .i64 0]) rfl ⟨rv_box 0 rfl rfl Go.Proofs.Try.underlying47 rfl i47 (i47s).symm, rv_box 1 rfl rfl Go.Proofs.Try.underlying47 rfl i47 (i47s).symm, rfl, trivial⟩ ?_
    exact fun w' hb hs => ⟨_, _, ⟨rfl, rfl⟩, rfl, hb, hs.sel [] _ (by decide) rfl⟩

/- laws.FnExactPolygonBox -/
def sh10 (q0 : List SPoint) : Option (Bool) := Option.bind (sh27 q0 1048576) fun x1 => bif decide (x1 < 0) then (some true) else (Option.bind (sh29 q0) fun x2 => Option.bind (sh39 x2) fun x6 => Option.bind (sh29 q0) fun x11 => Option.bind (sh40 x11) fun x15 => Option.bind (sh41 x15.1 x6.1) fun x20 => Option.bind (bif !x20 then (some true) else (Option.bind (sh41 x15.2.1 x6.2.1) fun x22 => some !x22)) fun c21 => (bif c21 || (x15.2.2 != x6.2.2) then (some false) else (Option.bind (sh29 q0) fun x23 => Option.bind (sh31 x11 x23) fun x27 => bif !x27 then (some false) else (some true))))
def T10 (r : Bool) (v : Value) (rs : List Own) : Prop := v = rets [.bool r] ∧ rs = []
set_option maxRecDepth 100000 in
theorem c10 {w : World} {q0 : List SPoint} {a_0 : Option Addr} {n_0 c_0 : Nat} (g_0 : Rd w a_0 (eSPoint.fl q0)) (l_0 : q0.length = n_0) {r : Bool} (hres : sh10 q0 = some r) : Calls Go.Proofs.Try.prog 10 [.slice a_0 n_0 c_0].toArray w (Ret w (T10 r)) := by
  subst l_0
  unfold sh10 at hres
  refine calls_of (n := 51) (M := []) (es := []) Go.Proofs.Try.func10 rfl rfl rfl (Sep.nil _ _ _) ?_
  refine JX.seq ?_
  refine JX.region ?_
  refine JL.val (yl_assign rfl) rfl ?_
  refine JL.nil ?_
  refine JE.code ?_
  refine JX.seq ?_
  refine JX.region ?_
  refine JL.val (yl_assign rfl) rfl ?_
  refine JL.nil ?_
  refine JE.code ?_
  refine JX.seq ?_
  refine JX.region ?_
  refine JL.val (yl_move rfl) rfl ?_
  refine JL.val (yl_move rfl) rfl ?_
  obtain ⟨x1, hx1, hres⟩ := bind_some hres
  refine JL.eff (ef_call (T := T27 x1) Go.Proofs.Try.func27 rfl (by kernel_rfl) rfl (fun w hC => c27 (rd_arg g_0 hC) rfl hx1)) rfl ?_
  rintro _ _ ⟨_, ⟨rfl, rfl⟩, rfl⟩
  refine JL.val (yl_assign rfl) rfl ?_
  refine JL.nil ?_
  refine JE.weak (env' := [(0, .slice a_0 q0.length c_0), (3, .int .i64 x1)]) (es' := []) [] ?_ ⟨rfl, rfl, trivial⟩ (by decide) rfl
  refine JE.code ?_
  refine JX.seq ?_
  refine JX.seq ?_
  refine JX.region ?_
  refine JL.val (yl_move rfl) rfl ?_
  refine JL.val (yl_lss rfl rfl) rfl ?_
  refine JL.nil ?_
  refine JE.code ?_
  rcases cond_some hres with ⟨hb, hres⟩ | ⟨hb, hres⟩
  · refine JX.condT rfl hb ?_
    refine JX.seq ?_
    refine JX.region ?_
    refine JL.val (yl_assign rfl) rfl ?_
    refine JL.nil ?_
    refine JE.code ?_
    refine JX.ret ?_
    obtain rfl := Option.some.inj hres
    refine JE.ret (rs := [.tmp 2]) (vs := [.bool true]) rfl ⟨rfl, trivial⟩ ?_
    exact fun w' hb hs => ⟨_, _, ⟨rfl, rfl⟩, rfl, hb, hs.sel [] _ (by decide) rfl⟩
  · refine JX.condF rfl hb ?_
    refine JX.skip ?_
    refine JE.code ?_
    refine JX.seq ?_
    refine JX.region ?_
    refine JL.val (yl_move rfl) rfl ?_
    obtain ⟨x2, hx2, hres⟩ := bind_some hres
    refine JL.eff (ef_call (T := T29 x2) Go.Proofs.Try.func29 rfl (by kernel_rfl) rfl (fun w hC => c29 (rd_arg g_0 hC) rfl hx2)) rfl ?_
    rintro _ _ ⟨_, ⟨a3, _, c4, rfl, rfl, rfl⟩, rfl⟩
    obtain ⟨x6, hx6, hres⟩ := bind_some hres
    refine JL.eff (ef_call (T := T39 x6) Go.Proofs.Try.func39 rfl (by kernel_rfl) rfl (fun w hC => c39 (rd_row hC 0 rfl) rfl hx6)) rfl ?_
    rintro _ _ ⟨_, ⟨rfl, rfl⟩, rfl⟩
    refine JL.val (yl_move rfl) rfl ?_
    refine JL.val (yl_extract rfl rfl) rfl ?_
    refine JL.val (yl_extract rfl rfl) rfl ?_
    refine JL.val (yl_extract rfl rfl) rfl ?_
    refine JL.eff (ef_alloc i47 i47z rfl) rfl ?_
    rintro _ _ ⟨g7, rfl, rfl⟩
    refine JL.eff (ef_alloc i47 i47z rfl) rfl ?_
    rintro _ _ ⟨g9, rfl, rfl⟩
    refine JL.eff (ef_store_box (i := 1) (v := .agg #[.int .i64 x6.1.X, .int .i64 x6.1.Y]) i47 rfl rfl rfl (i47s).symm (Nat.le_of_ble_eq_true rfl) (by simp [Value.cells, Value.oneCell'])) rfl ?_
    rintro _ _ rfl
    refine JL.eff (ef_store_box (i := 2) (v := .agg #[.int .i64 x6.2.1.X, .int .i64 x6.2.1.Y]) i47 rfl rfl rfl (i47s).symm (Nat.le_of_ble_eq_true rfl) (by simp [Value.cells, Value.oneCell'])) rfl ?_
    rintro _ _ rfl
    refine JL.val (yl_assign rfl) rfl ?_
    refine JL.nil ?_
    refine JE.weak (env' := [(0, .slice a_0 q0.length c_0), (4, ptrAt (some ⟨g7, 0, none⟩) 0), (5, ptrAt (some ⟨g9, 0, none⟩) 0), (6, .int .i64 x6.2.2)]) (es' := [boxO 47 g7 [.int .i64 x6.1.X, .int .i64 x6.1.Y], boxO 47 g9 [.int .i64 x6.2.1.X, .int .i64 x6.2.1.Y]]) [1, 2] ?_ ⟨rfl, rfl, rfl, rfl, trivial⟩ (by decide) rfl
    refine JE.code ?_
    refine JX.seq ?_
    refine JX.region ?_
    refine JL.val (yl_move rfl) rfl ?_
    obtain ⟨x11, hx11, hres⟩ := bind_some hres
    refine JL.eff (ef_call (T := T29 x11) Go.Proofs.Try.func29 rfl (by kernel_rfl) rfl (fun w hC => c29 (rd_arg g_0 hC) rfl hx11)) rfl ?_
    rintro _ _ ⟨_, ⟨a12, _, c13, rfl, rfl, rfl⟩, rfl⟩
    refine JL.val (yl_assign rfl) rfl ?_
    refine JL.nil ?_
    refine JE.code ?_
    refine JX.seq ?_
    refine JX.region ?_
    refine JL.val (yl_move rfl) rfl ?_
    obtain ⟨x15, hx15, hres⟩ := bind_some hres
    refine JL.eff (ef_call (T := T40 x15) Go.Proofs.Try.func40 rfl (by kernel_rfl) rfl (fun w hC => c40 (rd_row hC 2 rfl) rfl hx15)) rfl ?_
    rintro _ _ ⟨_, ⟨rfl, rfl⟩, rfl⟩
    refine JL.val (yl_move rfl) rfl ?_
    refine JL.val (yl_extract rfl rfl) rfl ?_
    refine JL.val (yl_extract rfl rfl) rfl ?_
    refine JL.val (yl_extract rfl rfl) rfl ?_
    refine JL.eff (ef_alloc i47 i47z rfl) rfl ?_
    rintro _ _ ⟨g16, rfl, rfl⟩
    refine JL.eff (ef_alloc i47 i47z rfl) rfl ?_
    rintro _ _ ⟨g18, rfl, rfl⟩
    refine JL.eff (ef_store_box (i := 3) (v := .agg #[.int .i64 x15.1.X, .int .i64 x15.1.Y]) i47 rfl rfl rfl (i47s).symm (Nat.le_of_ble_eq_true rfl) (by simp [Value.cells, Value.oneCell'])) rfl ?_
    rintro _ _ rfl
    refine JL.eff (ef_store_box (i := 4) (v := .agg #[.int .i64 x15.2.1.X, .int .i64 x15.2.1.Y]) i47 rfl rfl rfl (i47s).symm (Nat.le_of_ble_eq_true rfl) (by simp [Value.cells, Value.oneCell'])) rfl ?_
    rintro _ _ rfl
    refine JL.val (yl_assign rfl) rfl ?_
    refine JL.nil ?_
    refine JE.weak (env' := [(0, .slice a_0 q0.length c_0), (4, ptrAt (some ⟨g7, 0, none⟩) 0), (5, ptrAt (some ⟨g9, 0, none⟩) 0), (6, .int .i64 x6.2.2), (7, .slice a12 x11.length c13), (8, ptrAt (some ⟨g16, 0, none⟩) 0), (9, ptrAt (some ⟨g18, 0, none⟩) 0), (10, .int .i64 x15.2.2)]) (es' := [boxO 47 g7 [.int .i64 x6.1.X, .int .i64 x6.1.Y], boxO 47 g9 [.int .i64 x6.2.1.X, .int .i64 x6.2.1.Y], rowT 47 eSPoint a12 x11.length c13 x11, boxO 47 g16 [.int .i64 x15.1.X, .int .i64 x15.1.Y], boxO 47 g18 [.int .i64 x15.2.1.X, .int .i64 x15.2.1.Y]]) [0, 1, 2, 3, 4] ?_ ⟨rfl, rfl, rfl, rfl, rfl, rfl, rfl, rfl, trivial⟩ (by decide) rfl
    refine JE.code ?_
    refine JX.seq ?_
    refine JX.seq ?_
    refine JX.region ?_
    refine JL.val (yl_loadn Go.Proofs.Try.underlying47 rfl i47 rfl (fun w hC => rd_box hC 3 rfl) rfl (i47s).symm i47p) rfl ?_
    refine JL.val (yl_loadn Go.Proofs.Try.underlying47 rfl i47 rfl (fun w hC => rd_box hC 0 rfl) rfl (i47s).symm i47p) rfl ?_
    obtain ⟨x20, hx20, hres⟩ := bind_some hres
    refine JL.eff (ef_call (vs := [.agg #[.int .i64 x15.1.X, .int .i64 x15.1.Y], .agg #[.int .i64 x6.1.X, .int .i64 x6.1.Y]]) (T := T41 x20) Go.Proofs.Try.func41 rfl (by kernel_rfl) rfl (fun w hC => c41 (q0 := x15.1) (q1 := x6.1) hx20)) rfl ?_
    rintro _ _ ⟨_, ⟨rfl, rfl⟩, rfl⟩
    refine JL.val (yl_not rfl) rfl ?_
    refine JL.val (yl_move rfl) rfl ?_
    obtain ⟨c21, hc21, hres⟩ := bind_some hres
    refine JL.cut (K := fun J => J [(0, .slice a_0 q0.length c_0), (6, .int .i64 x6.2.2), (7, .slice a12 x11.length c13), (10, .int .i64 x15.2.2), (40, .bool c21)] [rowT 47 eSPoint a12 x11.length c13 x11]) 5 ?_ ?_
    · refine JL.val (yl_move rfl) rfl ?_
      refine JL.cut (K := fun J => J [(0, .slice a_0 q0.length c_0), (7, .slice a12 x11.length c13), (45, .bool (c21 || (x15.2.2 != x6.2.2)))] [rowT 47 eSPoint a12 x11.length c13 x11]) 4 ?_ ?_
      · refine JL.nil ?_
        refine JE.weak (env' := [(0, .slice a_0 q0.length c_0), (7, .slice a12 x11.length c13), (45, .bool (c21 || (x15.2.2 != x6.2.2)))]) (es' := [rowT 47 eSPoint a12 x11.length c13 x11]) [0] ?_ ⟨rfl, rfl, rfl, trivial⟩ (by decide) rfl
        refine JE.code ?_
        rcases cond_some hres with ⟨hb, hres⟩ | ⟨hb, hres⟩
        · refine JX.condT rfl hb ?_
          refine JX.seq ?_
          refine JX.region ?_
          refine JL.val (yl_assign rfl) rfl ?_
          refine JL.nil ?_
          refine JE.weak (env' := [(2, .bool false)]) (es' := []) [] ?_ ⟨rfl, trivial⟩ (by decide) rfl
          refine JE.code ?_
          refine JX.ret ?_
          obtain rfl := Option.some.inj hres
          refine JE.ret (rs := [.tmp 2]) (vs := [.bool false]) rfl ⟨rfl, trivial⟩ ?_
          exact fun w' hb hs => ⟨_, _, ⟨rfl, rfl⟩, rfl, hb, hs.sel [] _ (by decide) rfl⟩
        · refine JX.condF rfl hb ?_
          refine JX.skip ?_
          refine JE.code ?_
          refine JX.seq ?_
          refine JX.seq ?_
          refine JX.region ?_
          refine JL.val (yl_move rfl) rfl ?_
          refine JL.val (yl_move rfl) rfl ?_
          obtain ⟨x23, hx23, hres⟩ := bind_some hres
          refine JL.eff (ef_call (T := T29 x23) Go.Proofs.Try.func29 rfl (by kernel_rfl) rfl (fun w hC => c29 (rd_arg g_0 hC) rfl hx23)) rfl ?_
          rintro _ _ ⟨_, ⟨a24, _, c25, rfl, rfl, rfl⟩, rfl⟩
          obtain ⟨x27, hx27, hres⟩ := bind_some hres
          refine JL.eff (ef_call (T := T31 x27) Go.Proofs.Try.func31 rfl (by kernel_rfl) rfl (fun w hC => c31 (rd_row hC 0 rfl) rfl (rd_row hC 1 rfl) rfl hx27)) rfl ?_
          rintro _ _ ⟨_, ⟨rfl, rfl⟩, rfl⟩
          refine JL.val (yl_not rfl) rfl ?_
          refine JL.nil ?_
          refine JE.weak (env' := [(50, .bool !x27)]) (es' := []) [] ?_ ⟨rfl, trivial⟩ (by decide) rfl
          refine JE.code ?_
          rcases cond_some hres with ⟨hb, hres⟩ | ⟨hb, hres⟩
          · refine JX.condT rfl hb ?_
            refine JX.seq ?_
            refine JX.region ?_
            refine JL.val (yl_assign rfl) rfl ?_
            refine JL.nil ?_
            refine JE.code ?_
            refine JX.ret ?_
            obtain rfl := Option.some.inj hres
            refine JE.ret (rs := [.tmp 2]) (vs := [.bool false]) rfl ⟨rfl, trivial⟩ ?_
            exact fun w' hb hs => ⟨_, _, ⟨rfl, rfl⟩, rfl, hb, hs.sel [] _ (by decide) rfl⟩
          · refine JX.condF rfl hb ?_
            refine JX.skip ?_
            refine JE.code ?_
            refine JX.seq ?_
            refine JX.region ?_
            refine JL.val (yl_assign rfl) rfl ?_
            refine JL.nil ?_
            refine JE.code ?_
            refine JX.ret ?_
            obtain rfl := Option.some.inj hres
            refine JE.ret (rs := [.tmp 2]) (vs := [.bool true]) rfl ⟨rfl, trivial⟩ ?_
            exact fun w' hb hs => ⟨_, _, ⟨rfl, rfl⟩, rfl, hb, hs.sel [] _ (by decide) rfl⟩
      · intro K
        rcases Bool.eq_false_or_eq_true (c21) with hb | hb
        · refine JL.set (d := 41) (v := .bool true) (congrArg (fun b => some (Value.bool b)) hb) ?_
          refine JL.gskip rfl rfl rfl rfl ?_
          refine JL.gskip rfl rfl rfl rfl ?_
          refine JL.gskip rfl rfl rfl rfl ?_
          refine JL.val (yl_pick_true rfl rfl) rfl ?_
          exact JL.weak [0] K ⟨rfl, rfl, (by rw [hb]; rfl), trivial⟩ (by decide) rfl
        · refine JL.set (d := 41) (v := .bool false) (congrArg (fun b => some (Value.bool b)) hb) ?_
          refine JL.gval rfl rfl (yl_move rfl) rfl ?_
          refine JL.gval rfl rfl (yl_move rfl) rfl ?_
          refine JL.gval rfl rfl (yl_neq rfl rfl) rfl ?_
          refine JL.val (yl_pick_false rfl rfl) rfl ?_
          exact JL.weak [0] K ⟨rfl, rfl, (by rw [hb]; rfl), trivial⟩ (by decide) rfl
    · intro K
      rcases cond_some hc21 with ⟨hb, hres⟩ | ⟨hb, hres⟩
      · refine JL.set (d := 35) (v := .bool true) (congrArg (fun b => some (Value.bool b)) hb) ?_
        refine JL.gskip rfl rfl rfl rfl ?_
        refine JL.gskip rfl rfl rfl rfl ?_
        refine JL.gskip rfl rfl rfl rfl ?_
        refine JL.gskip rfl rfl rfl rfl ?_
        refine JL.val (yl_pick_true rfl rfl) rfl ?_
        have he := Option.some.inj hres
        exact JL.weak [2] K ⟨rfl, rfl, rfl, rfl, (by rw [← he]; rfl), trivial⟩ (by decide) rfl
      · refine JL.set (d := 35) (v := .bool false) (congrArg (fun b => some (Value.bool b)) hb) ?_
        refine JL.gval rfl rfl (yl_loadn Go.Proofs.Try.underlying47 rfl i47 rfl (fun w hC => rd_box hC 4 rfl) rfl (i47s).symm i47p) rfl ?_
        refine JL.gval rfl rfl (yl_loadn Go.Proofs.Try.underlying47 rfl i47 rfl (fun w hC => rd_box hC 1 rfl) rfl (i47s).symm i47p) rfl ?_
        obtain ⟨x22, hx22, hres⟩ := bind_some hres
        refine JL.geff rfl rfl (ef_call (vs := [.agg #[.int .i64 x15.2.1.X, .int .i64 x15.2.1.Y], .agg #[.int .i64 x6.2.1.X, .int .i64 x6.2.1.Y]]) (T := T41 x22) Go.Proofs.Try.func41 rfl (by kernel_rfl) rfl (fun w hC => c41 (q0 := x15.2.1) (q1 := x6.2.1) hx22)) rfl ?_
        rintro _ _ ⟨_, ⟨rfl, rfl⟩, rfl⟩
        refine JL.gval rfl rfl (yl_not rfl) rfl ?_
        refine JL.val (yl_pick_false rfl rfl) rfl ?_
        have he := Option.some.inj hres
        exact JL.weak [2] K ⟨rfl, rfl, rfl, rfl, (by rw [← he]; rfl), trivial⟩ (by decide) rfl

end Go.Sh
