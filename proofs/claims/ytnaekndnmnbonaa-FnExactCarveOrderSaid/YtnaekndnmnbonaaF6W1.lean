/- Walks through functions that the law reaches, printed by program. -/
import Derived.Test.YtnaekndnmnbonaaF6W0
set_option linter.unusedVariables false
set_option linter.unusedSimpArgs false
namespace Go.Sh
open Go Go.RowKit
/- (impl.Walker).next -/
def sh116 (q0 : SWalker) : Option (SPoint) := some (SPoint.mk (w64 (q0.At.X + q0.DX)) (w64 (q0.At.Y + q0.DY)))
def T116 (r : SPoint) (v : Value) (rs : List Own) : Prop := v = rets [.agg #[.int .i64 r.X, .int .i64 r.Y]] ∧ rs = []
set_option maxRecDepth 100000 in
theorem c116 {w : World} {q0 : SWalker} {r : SPoint} (hres : sh116 q0 = some r) : Calls Go.Proofs.Try.prog 116 [.agg #[.int .i64 q0.At.X, .int .i64 q0.At.Y, .int .i64 q0.DX, .int .i64 q0.DY]].toArray w (Ret w (T116 r)) := by
  unfold sh116 at hres
  refine calls_of (n := 16) (M := []) (es := []) Go.Proofs.Try.func116 rfl rfl rfl (Sep.nil _ _ _) ?_
  refine JX.seq ?_
  refine JX.region ?_
  refine JL.eff (ef_box rfl rfl) rfl ?_
  rintro _ _ ⟨g1, rfl, rfl⟩
  refine JL.eff (ef_alloc i93 i93z rfl) rfl ?_
  rintro _ _ ⟨g3, rfl, rfl⟩
  refine JL.nil ?_
  refine JE.code ?_
  refine JX.seq ?_
  refine JX.region ?_
  refine JL.val (yl_fieldAt (a := some _) Go.Proofs.Try.underlying120 rfl i93 i93n rfl rfl) rfl ?_
  refine JL.val (yl_fieldAt (a := some _) Go.Proofs.Try.underlying93 rfl i2 i2n rfl rfl) rfl ?_
  refine JL.val (yl_load1 Go.Proofs.Try.underlying2 rfl rfl (fun w hC => rd_box hC 0 rfl) rfl) rfl ?_
  refine JL.val (yl_fieldAt (a := some _) Go.Proofs.Try.underlying120 rfl i2 i2n rfl rfl) rfl ?_
  refine JL.val (yl_load1 Go.Proofs.Try.underlying2 rfl rfl (fun w hC => rd_box hC 0 rfl) rfl) rfl ?_
  refine JL.val (yl_add rfl rfl) rfl ?_
  refine JL.val (yl_fieldAt (a := some _) Go.Proofs.Try.underlying120 rfl i93 i93n rfl rfl) rfl ?_
  refine JL.val (yl_fieldAt (a := some _) Go.Proofs.Try.underlying93 rfl i2 i2n rfl rfl) rfl ?_
  refine JL.val (yl_load1 Go.Proofs.Try.underlying2 rfl rfl (fun w hC => rd_box hC 0 rfl) rfl) rfl ?_
  refine JL.val (yl_fieldAt (a := some _) Go.Proofs.Try.underlying120 rfl i2 i2n rfl rfl) rfl ?_
  refine JL.val (yl_load1 Go.Proofs.Try.underlying2 rfl rfl (fun w hC => rd_box hC 0 rfl) rfl) rfl ?_
  refine JL.val (yl_add rfl rfl) rfl ?_
  refine JL.val (yl_build rfl (fun w => bld93_0_1 (w64 (q0.At.X + q0.DX)) (w64 (q0.At.Y + q0.DY)) w)) rfl ?_
  refine JL.eff (ef_store_box (i := 1) (v := .agg #[.int .i64 (w64 (q0.At.X + q0.DX)), .int .i64 (w64 (q0.At.Y + q0.DY))]) i93 rfl rfl rfl (i93s).symm (Nat.le_of_ble_eq_true rfl) (by simp [Value.cells, Value.oneCell'])) rfl ?_
  rintro _ _ rfl
  refine JL.nil ?_
  refine JE.weak (env' := [(2, ptrAt (some ⟨g3, 0, none⟩) 0)]) (es' := [boxO 93 g3 [.int .i64 (w64 (q0.At.X + q0.DX)), .int .i64 (w64 (q0.At.Y + q0.DY))]]) [1] ?_ ⟨rfl, trivial⟩ (by decide) rfl
  refine JE.code ?_
  refine JX.ret ?_
  obtain rfl := Option.some.inj hres
  refine JE.ret (rs := [.cell 2 93]) (vs := [.agg #[.int .i64 (w64 (q0.At.X + q0.DX)), .int .i64 (w64 (q0.At.Y + q0.DY))]]) rfl ⟨rv_box 0 rfl rfl Go.Proofs.Try.underlying93 rfl i93 (i93s).symm, trivial⟩ ?_
  exact fun w' hb hs => ⟨_, _, ⟨rfl, rfl⟩, rfl, hb, hs.sel [] _ (by decide) rfl⟩

/- (impl.Panel).segment -/
def sh159 (q0 : SPanel) (q1 : SWalker) : Option (Int) := Option.bind (sh116 q1) fun x5 => some (w64 ((w64 ((w64 ((if x5.X < q1.At.X then x5.X else q1.At.X) * 2)) * q0.H)) + (if x5.Y < q1.At.Y then x5.Y else q1.At.Y)))
def T159 (r : Int) (v : Value) (rs : List Own) : Prop := v = rets [.int .i64 r] ∧ rs = []
set_option maxRecDepth 100000 in
theorem c159 {w : World} {q0 : SPanel} {a_0_2 : Option Addr} {n_0_2 c_0_2 : Nat} (g_0_2 : Rd w a_0_2 (eI64.fl q0.Breaks)) (l_0_2 : q0.Breaks.length = n_0_2) (k_0_2 : n_0_2 ≤ c_0_2) {q1 : SWalker} {r : Int} (hres : sh159 q0 q1 = some r) : Calls Go.Proofs.Try.prog 159 [.agg #[.int .i64 q0.W, .int .i64 q0.H, .slice a_0_2 n_0_2 c_0_2], .agg #[.int .i64 q1.At.X, .int .i64 q1.At.Y, .int .i64 q1.DX, .int .i64 q1.DY]].toArray w (Ret w (T159 r)) := by
  subst l_0_2
  unfold sh159 at hres
  refine calls_of (n := 25) (M := []) (es := []) Go.Proofs.Try.func159 rfl rfl rfl (Sep.nil _ _ _) ?_
  refine JX.seq ?_
  refine JX.region ?_
  refine JL.eff (ef_box rfl rfl) rfl ?_
  rintro _ _ ⟨g1, rfl, rfl⟩
  refine JL.eff (ef_box rfl rfl) rfl ?_
  rintro _ _ ⟨g3, rfl, rfl⟩
  refine JL.val (yl_assign rfl) rfl ?_
  refine JL.nil ?_
  refine JE.code ?_
  refine JX.seq ?_
  refine JX.region ?_
  refine JL.val (yl_loadn Go.Proofs.Try.underlying120 rfl i120 rfl (fun w hC => rd_box hC 1 rfl) rfl (i120s).symm i120p) rfl ?_
  obtain ⟨x5, hx5, hres⟩ := bind_some hres
  refine JL.eff (ef_call (vs := [.agg #[.int .i64 q1.At.X, .int .i64 q1.At.Y, .int .i64 q1.DX, .int .i64 q1.DY]]) (T := T116 x5) Go.Proofs.Try.func116 rfl (by kernel_rfl) rfl (fun w hC => c116 (q0 := q1) hx5)) rfl ?_
  rintro _ _ ⟨_, ⟨rfl, rfl⟩, rfl⟩
  refine JL.eff (ef_alloc i93 i93z rfl) rfl ?_
  rintro _ _ ⟨g6, rfl, rfl⟩
  refine JL.eff (ef_store_box (i := 2) (v := .agg #[.int .i64 x5.X, .int .i64 x5.Y]) i93 rfl rfl rfl (i93s).symm (Nat.le_of_ble_eq_true rfl) (by simp [Value.cells, Value.oneCell'])) rfl ?_
  rintro _ _ rfl
  refine JL.nil ?_
  refine JE.weak (env' := [(2, ptrAt (some ⟨g1, 0, none⟩) 0), (3, ptrAt (some ⟨g3, 0, none⟩) 0), (5, ptrAt (some ⟨g6, 0, none⟩) 0)]) (es' := [boxO 39 g1 [.int .i64 q0.W, .int .i64 q0.H, .slice a_0_2 q0.Breaks.length c_0_2], boxO 120 g3 [.int .i64 q1.At.X, .int .i64 q1.At.Y, .int .i64 q1.DX, .int .i64 q1.DY], boxO 93 g6 [.int .i64 x5.X, .int .i64 x5.Y]]) [0, 1, 2] ?_ ⟨rfl, rfl, rfl, trivial⟩ (by decide) rfl
  refine JE.code ?_
  refine JX.seq ?_
  refine JX.region ?_
  refine JL.val (yl_fieldAt (a := some _) Go.Proofs.Try.underlying120 rfl i93 i93n rfl rfl) rfl ?_
  refine JL.val (yl_fieldAt (a := some _) Go.Proofs.Try.underlying93 rfl i2 i2n rfl rfl) rfl ?_
  refine JL.val (yl_load1 Go.Proofs.Try.underlying2 rfl rfl (fun w hC => rd_box hC 1 rfl) rfl) rfl ?_
  refine JL.val (yl_fieldAt (a := some _) Go.Proofs.Try.underlying93 rfl i2 i2n rfl rfl) rfl ?_
  refine JL.val (yl_load1 Go.Proofs.Try.underlying2 rfl rfl (fun w hC => rd_box hC 2 rfl) rfl) rfl ?_
  refine JL.val (yl_min rfl rfl) rfl ?_
  refine JL.val (yl_mul rfl rfl) rfl ?_
  refine JL.val (yl_fieldAt (a := some _) Go.Proofs.Try.underlying39 rfl i2 i2n rfl rfl) rfl ?_
  refine JL.val (yl_load1 Go.Proofs.Try.underlying2 rfl rfl (fun w hC => rd_box hC 0 rfl) rfl) rfl ?_
  refine JL.val (yl_mul rfl rfl) rfl ?_
  refine JL.val (yl_fieldAt (a := some _) Go.Proofs.Try.underlying120 rfl i93 i93n rfl rfl) rfl ?_
  refine JL.val (yl_fieldAt (a := some _) Go.Proofs.Try.underlying93 rfl i2 i2n rfl rfl) rfl ?_
  refine JL.val (yl_load1 Go.Proofs.Try.underlying2 rfl rfl (fun w hC => rd_box hC 1 rfl) rfl) rfl ?_
  refine JL.val (yl_fieldAt (a := some _) Go.Proofs.Try.underlying93 rfl i2 i2n rfl rfl) rfl ?_
  refine JL.val (yl_load1 Go.Proofs.Try.underlying2 rfl rfl (fun w hC => rd_box hC 2 rfl) rfl) rfl ?_
  refine JL.val (yl_min rfl rfl) rfl ?_
  refine JL.val (yl_add rfl rfl) rfl ?_
  refine JL.val (yl_assign rfl) rfl ?_
  refine JL.nil ?_
  refine JE.weak (env' := [(4, .int .i64 (w64 ((w64 ((w64 ((if x5.X < q1.At.X then x5.X else q1.At.X) * 2)) * q0.H)) + (if x5.Y < q1.At.Y then x5.Y else q1.At.Y))))]) (es' := []) [] ?_ ⟨rfl, trivial⟩ (by decide) rfl
  refine JE.code ?_
  refine JX.ret ?_
  obtain rfl := Option.some.inj hres
  refine JE.ret (rs := [.tmp 4]) (vs := [.int .i64 (w64 ((w64 ((w64 ((if x5.X < q1.At.X then x5.X else q1.At.X) * 2)) * q0.H)) + (if x5.Y < q1.At.Y then x5.Y else q1.At.Y)))]) rfl ⟨rfl, trivial⟩ ?_
  exact fun w' hb hs => ⟨_, _, ⟨rfl, rfl⟩, rfl, hb, hs.sel [] _ (by decide) rfl⟩

/- (impl.Panel).isBorder -/
def sh172 (q0 : SPanel) (q1 : SPoint) : Option (Bool) := some ((((q1.X == 0) || (q1.X == (w64 (2 * q0.W)))) || (q1.Y == 0)) || (q1.Y == (w64 (2 * q0.H))))
def T172 (r : Bool) (v : Value) (rs : List Own) : Prop := v = rets [.bool r] ∧ rs = []
set_option maxRecDepth 100000 in
theorem c172 {w : World} {q0 : SPanel} {a_0_2 : Option Addr} {n_0_2 c_0_2 : Nat} (g_0_2 : Rd w a_0_2 (eI64.fl q0.Breaks)) (l_0_2 : q0.Breaks.length = n_0_2) (k_0_2 : n_0_2 ≤ c_0_2) {q1 : SPoint} {r : Bool} (hres : sh172 q0 q1 = some r) : Calls Go.Proofs.Try.prog 172 [.agg #[.int .i64 q0.W, .int .i64 q0.H, .slice a_0_2 n_0_2 c_0_2], .agg #[.int .i64 q1.X, .int .i64 q1.Y]].toArray w (Ret w (T172 r)) := by
  subst l_0_2
  unfold sh172 at hres
  refine calls_of (n := 29) (M := []) (es := []) Go.Proofs.Try.func172 rfl rfl rfl (Sep.nil _ _ _) ?_
  refine JX.seq ?_
  refine JX.region ?_
  refine JL.eff (ef_box rfl rfl) rfl ?_
  rintro _ _ ⟨g1, rfl, rfl⟩
  refine JL.eff (ef_box rfl rfl) rfl ?_
  rintro _ _ ⟨g3, rfl, rfl⟩
  refine JL.val (yl_assign rfl) rfl ?_
  refine JL.nil ?_
  refine JE.code ?_
  refine JX.seq ?_
  refine JX.region ?_
  refine JL.val (yl_fieldAt (a := some _) Go.Proofs.Try.underlying93 rfl i2 i2n rfl rfl) rfl ?_
  refine JL.val (yl_load1 Go.Proofs.Try.underlying2 rfl rfl (fun w hC => rd_box hC 1 rfl) rfl) rfl ?_
  refine JL.val (yl_eql rfl rfl) rfl ?_
  refine JL.val (yl_move rfl) rfl ?_
  refine JL.cut (K := fun J => J [(2, ptrAt (some ⟨g1, 0, none⟩) 0), (3, ptrAt (some ⟨g3, 0, none⟩) 0), (15, .bool ((q1.X == 0) || (q1.X == (w64 (2 * q0.W)))))] [boxO 39 g1 [.int .i64 q0.W, .int .i64 q0.H, .slice a_0_2 q0.Breaks.length c_0_2], boxO 93 g3 [.int .i64 q1.X, .int .i64 q1.Y]]) 7 ?_ ?_
  · refine JL.val (yl_move rfl) rfl ?_
    refine JL.cut (K := fun J => J [(2, ptrAt (some ⟨g1, 0, none⟩) 0), (3, ptrAt (some ⟨g3, 0, none⟩) 0), (20, .bool (((q1.X == 0) || (q1.X == (w64 (2 * q0.W)))) || (q1.Y == 0)))] [boxO 39 g1 [.int .i64 q0.W, .int .i64 q0.H, .slice a_0_2 q0.Breaks.length c_0_2], boxO 93 g3 [.int .i64 q1.X, .int .i64 q1.Y]]) 4 ?_ ?_
    · refine JL.val (yl_move rfl) rfl ?_
      refine JL.cut (K := fun J => J [(28, .bool ((((q1.X == 0) || (q1.X == (w64 (2 * q0.W)))) || (q1.Y == 0)) || (q1.Y == (w64 (2 * q0.H)))))] []) 7 ?_ ?_
      · refine JL.val (yl_assign rfl) rfl ?_
        refine JL.nil ?_
        refine JE.weak (env' := [(4, .bool ((((q1.X == 0) || (q1.X == (w64 (2 * q0.W)))) || (q1.Y == 0)) || (q1.Y == (w64 (2 * q0.H)))))]) (es' := []) [] ?_ ⟨rfl, trivial⟩ (by decide) rfl
        refine JE.code ?_
        refine JX.ret ?_
        obtain rfl := Option.some.inj hres
        refine JE.ret (rs := [.tmp 4]) (vs := [.bool ((((q1.X == 0) || (q1.X == (w64 (2 * q0.W)))) || (q1.Y == 0)) || (q1.Y == (w64 (2 * q0.H))))]) rfl ⟨rfl, trivial⟩ ?_
        exact fun w' hb hs => ⟨_, _, ⟨rfl, rfl⟩, rfl, hb, hs.sel [] _ (by decide) rfl⟩
      · intro K
        rcases Bool.eq_false_or_eq_true (((q1.X == 0) || (q1.X == (w64 (2 * q0.W)))) || (q1.Y == 0)) with hb | hb
        · refine JL.set (d := 21) (v := .bool true) (congrArg (fun b => some (Value.bool b)) hb) ?_
          refine JL.gskip rfl rfl rfl rfl ?_
          refine JL.gskip rfl rfl rfl rfl ?_
          refine JL.gskip rfl rfl rfl rfl ?_
          refine JL.gskip rfl rfl rfl rfl ?_
          refine JL.gskip rfl rfl rfl rfl ?_
          refine JL.gskip rfl rfl rfl rfl ?_
          refine JL.val (yl_pick_true rfl rfl) rfl ?_
          exact JL.weak [] K ⟨(by rw [hb]; rfl), trivial⟩ (by decide) rfl
        · refine JL.set (d := 21) (v := .bool false) (congrArg (fun b => some (Value.bool b)) hb) ?_
          refine JL.gval rfl rfl (yl_fieldAt (a := some _) Go.Proofs.Try.underlying93 rfl i2 i2n rfl rfl) rfl ?_
          refine JL.gval rfl rfl (yl_load1 Go.Proofs.Try.underlying2 rfl rfl (fun w hC => rd_box hC 1 rfl) rfl) rfl ?_
          refine JL.gval rfl rfl (yl_fieldAt (a := some _) Go.Proofs.Try.underlying39 rfl i2 i2n rfl rfl) rfl ?_
          refine JL.gval rfl rfl (yl_load1 Go.Proofs.Try.underlying2 rfl rfl (fun w hC => rd_box hC 0 rfl) rfl) rfl ?_
          refine JL.gval rfl rfl (yl_mul rfl rfl) rfl ?_
          refine JL.gval rfl rfl (yl_eql rfl rfl) rfl ?_
          refine JL.val (yl_pick_false rfl rfl) rfl ?_
          exact JL.weak [] K ⟨(by rw [hb]; rfl), trivial⟩ (by decide) rfl
    · intro K
      rcases Bool.eq_false_or_eq_true ((q1.X == 0) || (q1.X == (w64 (2 * q0.W)))) with hb | hb
      · refine JL.set (d := 16) (v := .bool true) (congrArg (fun b => some (Value.bool b)) hb) ?_
        refine JL.gskip rfl rfl rfl rfl ?_
        refine JL.gskip rfl rfl rfl rfl ?_
        refine JL.gskip rfl rfl rfl rfl ?_
        refine JL.val (yl_pick_true rfl rfl) rfl ?_
        exact JL.weak [0, 1] K ⟨rfl, rfl, (by rw [hb]; rfl), trivial⟩ (by decide) rfl
      · refine JL.set (d := 16) (v := .bool false) (congrArg (fun b => some (Value.bool b)) hb) ?_
        refine JL.gval rfl rfl (yl_fieldAt (a := some _) Go.Proofs.Try.underlying93 rfl i2 i2n rfl rfl) rfl ?_
        refine JL.gval rfl rfl (yl_load1 Go.Proofs.Try.underlying2 rfl rfl (fun w hC => rd_box hC 1 rfl) rfl) rfl ?_
        refine JL.gval rfl rfl (yl_eql rfl rfl) rfl ?_
        refine JL.val (yl_pick_false rfl rfl) rfl ?_
        exact JL.weak [0, 1] K ⟨rfl, rfl, (by rw [hb]; rfl), trivial⟩ (by decide) rfl
  · intro K
    rcases Bool.eq_false_or_eq_true (q1.X == 0) with hb | hb
    · refine JL.set (d := 8) (v := .bool true) (congrArg (fun b => some (Value.bool b)) hb) ?_
      refine JL.gskip rfl rfl rfl rfl ?_
      refine JL.gskip rfl rfl rfl rfl ?_
      refine JL.gskip rfl rfl rfl rfl ?_
      refine JL.gskip rfl rfl rfl rfl ?_
      refine JL.gskip rfl rfl rfl rfl ?_
      refine JL.gskip rfl rfl rfl rfl ?_
      refine JL.val (yl_pick_true rfl rfl) rfl ?_
      exact JL.weak [0, 1] K ⟨rfl, rfl, (by rw [hb]; rfl), trivial⟩ (by decide) rfl
    · refine JL.set (d := 8) (v := .bool false) (congrArg (fun b => some (Value.bool b)) hb) ?_
      refine JL.gval rfl rfl (yl_fieldAt (a := some _) Go.Proofs.Try.underlying93 rfl i2 i2n rfl rfl) rfl ?_
      refine JL.gval rfl rfl (yl_load1 Go.Proofs.Try.underlying2 rfl rfl (fun w hC => rd_box hC 1 rfl) rfl) rfl ?_
      refine JL.gval rfl rfl (yl_fieldAt (a := some _) Go.Proofs.Try.underlying39 rfl i2 i2n rfl rfl) rfl ?_
      refine JL.gval rfl rfl (yl_load1 Go.Proofs.Try.underlying2 rfl rfl (fun w hC => rd_box hC 0 rfl) rfl) rfl ?_
      refine JL.gval rfl rfl (yl_mul rfl rfl) rfl ?_
      refine JL.gval rfl rfl (yl_eql rfl rfl) rfl ?_
      refine JL.val (yl_pick_false rfl rfl) rfl ?_
      exact JL.weak [0, 1] K ⟨rfl, rfl, (by rw [hb]; rfl), trivial⟩ (by decide) rfl

/- (impl.Panel).number -/
def sh174 (q0 : SPanel) (q1 : SPoint) : Option (Int) := bif (q1.Y.tmod 2) == 1 then (some (w64 ((w64 ((w64 ((w64 ((w64 (q1.Y.tdiv 2)) * (w64 (q0.W - 1)))) + (w64 ((w64 ((w64 (q1.Y - 1)).tdiv 2)) * q0.W)))) + (w64 (q1.X.tdiv 2)))) - 1))) else (some (w64 ((w64 ((w64 ((w64 (q1.Y.tdiv 2)) * (w64 (q0.W - 1)))) + (w64 ((w64 ((w64 (q1.Y - 1)).tdiv 2)) * q0.W)))) + (w64 (q1.X.tdiv 2)))))
def T174 (r : Int) (v : Value) (rs : List Own) : Prop := v = rets [.int .i64 r] ∧ rs = []
set_option maxRecDepth 100000 in
theorem c174 {w : World} {q0 : SPanel} {a_0_2 : Option Addr} {n_0_2 c_0_2 : Nat} (g_0_2 : Rd w a_0_2 (eI64.fl q0.Breaks)) (l_0_2 : q0.Breaks.length = n_0_2) (k_0_2 : n_0_2 ≤ c_0_2) {q1 : SPoint} {r : Int} (hres : sh174 q0 q1 = some r) : Calls Go.Proofs.Try.prog 174 [.agg #[.int .i64 q0.W, .int .i64 q0.H, .slice a_0_2 n_0_2 c_0_2], .agg #[.int .i64 q1.X, .int .i64 q1.Y]].toArray w (Ret w (T174 r)) := by
  subst l_0_2
  unfold sh174 at hres
  refine calls_of (n := 36) (M := []) (es := []) Go.Proofs.Try.func174 rfl rfl rfl (Sep.nil _ _ _) ?_
  refine JX.seq ?_
  refine JX.region ?_
  refine JL.eff (ef_box rfl rfl) rfl ?_
  rintro _ _ ⟨g1, rfl, rfl⟩
  refine JL.eff (ef_box rfl rfl) rfl ?_
  rintro _ _ ⟨g3, rfl, rfl⟩
  refine JL.val (yl_assign rfl) rfl ?_
  refine JL.nil ?_
  refine JE.code ?_
  refine JX.seq ?_
  refine JX.region ?_
  refine JL.val (yl_fieldAt (a := some _) Go.Proofs.Try.underlying93 rfl i2 i2n rfl rfl) rfl ?_
  refine JL.val (yl_load1 Go.Proofs.Try.underlying2 rfl rfl (fun w hC => rd_box hC 1 rfl) rfl) rfl ?_
  refine JL.val (yl_quo rfl rfl (by decide)) rfl ?_
  refine JL.val (yl_fieldAt (a := some _) Go.Proofs.Try.underlying39 rfl i2 i2n rfl rfl) rfl ?_
  refine JL.val (yl_load1 Go.Proofs.Try.underlying2 rfl rfl (fun w hC => rd_box hC 0 rfl) rfl) rfl ?_
  refine JL.val (yl_sub rfl rfl) rfl ?_
  refine JL.val (yl_mul rfl rfl) rfl ?_
  refine JL.val (yl_fieldAt (a := some _) Go.Proofs.Try.underlying93 rfl i2 i2n rfl rfl) rfl ?_
  refine JL.val (yl_load1 Go.Proofs.Try.underlying2 rfl rfl (fun w hC => rd_box hC 1 rfl) rfl) rfl ?_
  refine JL.val (yl_sub rfl rfl) rfl ?_
  refine JL.val (yl_quo rfl rfl (by decide)) rfl ?_
  refine JL.val (yl_fieldAt (a := some _) Go.Proofs.Try.underlying39 rfl i2 i2n rfl rfl) rfl ?_
  refine JL.val (yl_load1 Go.Proofs.Try.underlying2 rfl rfl (fun w hC => rd_box hC 0 rfl) rfl) rfl ?_
  refine JL.val (yl_mul rfl rfl) rfl ?_
  refine JL.val (yl_add rfl rfl) rfl ?_
  refine JL.val (yl_assign rfl) rfl ?_
  refine JL.nil ?_
  refine JE.weak (env' := [(3, ptrAt (some ⟨g3, 0, none⟩) 0), (5, .int .i64 (w64 ((w64 ((w64 (q1.Y.tdiv 2)) * (w64 (q0.W - 1)))) + (w64 ((w64 ((w64 (q1.Y - 1)).tdiv 2)) * q0.W)))))]) (es' := [boxO 93 g3 [.int .i64 q1.X, .int .i64 q1.Y]]) [1] ?_ ⟨rfl, rfl, trivial⟩ (by decide) rfl
  refine JE.code ?_
  refine JX.seq ?_
  refine JX.seq ?_
  refine JX.region ?_
  refine JL.val (yl_fieldAt (a := some _) Go.Proofs.Try.underlying93 rfl i2 i2n rfl rfl) rfl ?_
  refine JL.val (yl_load1 Go.Proofs.Try.underlying2 rfl rfl (fun w hC => rd_box hC 0 rfl) rfl) rfl ?_
  refine JL.val (yl_rem rfl rfl (by decide)) rfl ?_
  refine JL.val (yl_eql rfl rfl) rfl ?_
  refine JL.nil ?_
  refine JE.weak (env' := [(3, ptrAt (some ⟨g3, 0, none⟩) 0), (5, .int .i64 (w64 ((w64 ((w64 (q1.Y.tdiv 2)) * (w64 (q0.W - 1)))) + (w64 ((w64 ((w64 (q1.Y - 1)).tdiv 2)) * q0.W))))), (24, .bool ((q1.Y.tmod 2) == 1))]) (es' := [boxO 93 g3 [.int .i64 q1.X, .int .i64 q1.Y]]) [0] ?_ ⟨rfl, rfl, rfl, trivial⟩ (by decide) rfl
  refine JE.code ?_
  rcases cond_some hres with ⟨hb, hres⟩ | ⟨hb, hres⟩
  · refine JX.condT rfl hb ?_
    refine JX.seq ?_
    refine JX.region ?_
    refine JL.val (yl_move rfl) rfl ?_
    refine JL.val (yl_fieldAt (a := some _) Go.Proofs.Try.underlying93 rfl i2 i2n rfl rfl) rfl ?_
    refine JL.val (yl_load1 Go.Proofs.Try.underlying2 rfl rfl (fun w hC => rd_box hC 0 rfl) rfl) rfl ?_
    refine JL.val (yl_quo rfl rfl (by decide)) rfl ?_
    refine JL.val (yl_add rfl rfl) rfl ?_
    refine JL.val (yl_sub rfl rfl) rfl ?_
    refine JL.val (yl_assign rfl) rfl ?_
    refine JL.nil ?_
    refine JE.weak (env' := [(4, .int .i64 (w64 ((w64 ((w64 ((w64 ((w64 (q1.Y.tdiv 2)) * (w64 (q0.W - 1)))) + (w64 ((w64 ((w64 (q1.Y - 1)).tdiv 2)) * q0.W)))) + (w64 (q1.X.tdiv 2)))) - 1)))]) (es' := []) [] ?_ ⟨rfl, trivial⟩ (by decide) rfl
    refine JE.code ?_
    refine JX.ret ?_
    obtain rfl := Option.some.inj hres
    refine JE.ret (rs := [.tmp 4]) (vs := [.int .i64 (w64 ((w64 ((w64 ((w64 ((w64 (q1.Y.tdiv 2)) * (w64 (q0.W - 1)))) + (w64 ((w64 ((w64 (q1.Y - 1)).tdiv 2)) * q0.W)))) + (w64 (q1.X.tdiv 2)))) - 1))]) rfl ⟨rfl, trivial⟩ ?_
    exact fun w' hb hs => ⟨_, _, ⟨rfl, rfl⟩, rfl, hb, hs.sel [] _ (by decide) rfl⟩
  · refine JX.condF rfl hb ?_
    refine JX.skip ?_
    refine JE.code ?_
    refine JX.seq ?_
    refine JX.region ?_
    refine JL.val (yl_move rfl) rfl ?_
    refine JL.val (yl_fieldAt (a := some _) Go.Proofs.Try.underlying93 rfl i2 i2n rfl rfl) rfl ?_
    refine JL.val (yl_load1 Go.Proofs.Try.underlying2 rfl rfl (fun w hC => rd_box hC 0 rfl) rfl) rfl ?_
    refine JL.val (yl_quo rfl rfl (by decide)) rfl ?_
    refine JL.val (yl_add rfl rfl) rfl ?_
    refine JL.val (yl_assign rfl) rfl ?_
    refine JL.nil ?_
    refine JE.weak (env' := [(4, .int .i64 (w64 ((w64 ((w64 ((w64 (q1.Y.tdiv 2)) * (w64 (q0.W - 1)))) + (w64 ((w64 ((w64 (q1.Y - 1)).tdiv 2)) * q0.W)))) + (w64 (q1.X.tdiv 2)))))]) (es' := []) [] ?_ ⟨rfl, trivial⟩ (by decide) rfl
    refine JE.code ?_
    refine JX.ret ?_
    obtain rfl := Option.some.inj hres
    refine JE.ret (rs := [.tmp 4]) (vs := [.int .i64 (w64 ((w64 ((w64 ((w64 (q1.Y.tdiv 2)) * (w64 (q0.W - 1)))) + (w64 ((w64 ((w64 (q1.Y - 1)).tdiv 2)) * q0.W)))) + (w64 (q1.X.tdiv 2))))]) rfl ⟨rfl, trivial⟩ ?_
    exact fun w' hb hs => ⟨_, _, ⟨rfl, rfl⟩, rfl, hb, hs.sel [] _ (by decide) rfl⟩

/- (impl.Panel).step -/
def sh160 (q0 : SPanel) (q1 : SWalker) : Option (SWalker × Bool) := Option.bind (sh116 q1) fun x7 => Option.bind (sh172 q0 x7) fun x12 => Option.bind (bif !x12 then (Option.bind (sh174 q0 x7) fun x18 => Option.bind (getI q0.Breaks x18) fun x19 => some x19) else (some 0)) fun j13 => (Option.bind (bif ((x7.X == 0) || (x7.X == (w64 (2 * q0.W)))) || (j13 == 1) then (some (SWalker.mk x7 (w64 (0 - q1.DX)) q1.DY)) else (some (SWalker.mk x7 q1.DX q1.DY))) fun j14 => (Option.bind (bif ((x7.Y == 0) || (x7.Y == (w64 (2 * q0.H)))) || (j13 == 2) then (some (SWalker.mk j14.At j14.DX (w64 (0 - j14.DY)))) else (some j14)) fun j15 => (some (j15, (j15.DX != q1.DX) || (j15.DY != q1.DY)))))
def T160 (r : SWalker × Bool) (v : Value) (rs : List Own) : Prop := v = rets [.agg #[.int .i64 r.1.At.X, .int .i64 r.1.At.Y, .int .i64 r.1.DX, .int .i64 r.1.DY], .bool r.2] ∧ rs = []
set_option maxRecDepth 100000 in
theorem c160 {w : World} {q0 : SPanel} {a_0_2 : Option Addr} {n_0_2 c_0_2 : Nat} (g_0_2 : Rd w a_0_2 (eI64.fl q0.Breaks)) (l_0_2 : q0.Breaks.length = n_0_2) (k_0_2 : n_0_2 ≤ c_0_2) {q1 : SWalker} {r : SWalker × Bool} (hres : sh160 q0 q1 = some r) : Calls Go.Proofs.Try.prog 160 [.agg #[.int .i64 q0.W, .int .i64 q0.H, .slice a_0_2 n_0_2 c_0_2], .agg #[.int .i64 q1.At.X, .int .i64 q1.At.Y, .int .i64 q1.DX, .int .i64 q1.DY]].toArray w (Ret w (T160 r)) := by
  subst l_0_2
  unfold sh160 at hres
  refine calls_of (n := 79) (M := []) (es := []) Go.Proofs.Try.func160 rfl rfl rfl (Sep.nil _ _ _) ?_
  refine JX.seq ?_
  refine JX.region ?_
  refine JL.eff (ef_box rfl rfl) rfl ?_
  rintro _ _ ⟨g1, rfl, rfl⟩
  refine JL.eff (ef_box rfl rfl) rfl ?_
  rintro _ _ ⟨g3, rfl, rfl⟩
  refine JL.eff (ef_alloc i120 i120z rfl) rfl ?_
  rintro _ _ ⟨g5, rfl, rfl⟩
  refine JL.val (yl_assign rfl) rfl ?_
  refine JL.nil ?_
  refine JE.weak (env' := [(2, ptrAt (some ⟨g1, 0, none⟩) 0), (3, ptrAt (some ⟨g3, 0, none⟩) 0), (4, ptrAt (some ⟨g5, 0, none⟩) 0)]) (es' := [boxO 39 g1 [.int .i64 q0.W, .int .i64 q0.H, .slice a_0_2 q0.Breaks.length c_0_2], boxO 120 g3 [.int .i64 q1.At.X, .int .i64 q1.At.Y, .int .i64 q1.DX, .int .i64 q1.DY], boxO 120 g5 [.int .i64 0, .int .i64 0, .int .i64 0, .int .i64 0]]) [0, 1, 2] ?_ ⟨rfl, rfl, rfl, trivial⟩ (by decide) rfl
  refine JE.code ?_
  refine JX.seq ?_
  refine JX.region ?_
  refine JL.val (yl_loadn Go.Proofs.Try.underlying120 rfl i120 rfl (fun w hC => rd_box hC 1 rfl) rfl (i120s).symm i120p) rfl ?_
  obtain ⟨x7, hx7, hres⟩ := bind_some hres
  refine JL.eff (ef_call (vs := [.agg #[.int .i64 q1.At.X, .int .i64 q1.At.Y, .int .i64 q1.DX, .int .i64 q1.DY]]) (T := T116 x7) Go.Proofs.Try.func116 rfl (by kernel_rfl) rfl (fun w hC => c116 (q0 := q1) hx7)) rfl ?_
  rintro _ _ ⟨_, ⟨rfl, rfl⟩, rfl⟩
  refine JL.eff (ef_alloc i93 i93z rfl) rfl ?_
  rintro _ _ ⟨g8, rfl, rfl⟩
  refine JL.eff (ef_store_box (i := 3) (v := .agg #[.int .i64 x7.X, .int .i64 x7.Y]) i93 rfl rfl rfl (i93s).symm (Nat.le_of_ble_eq_true rfl) (by simp [Value.cells, Value.oneCell'])) rfl ?_
  rintro _ _ rfl
  refine JL.nil ?_
  refine JE.weak (env' := [(2, ptrAt (some ⟨g1, 0, none⟩) 0), (3, ptrAt (some ⟨g3, 0, none⟩) 0), (4, ptrAt (some ⟨g5, 0, none⟩) 0), (6, ptrAt (some ⟨g8, 0, none⟩) 0)]) (es' := [boxO 39 g1 [.int .i64 q0.W, .int .i64 q0.H, .slice a_0_2 q0.Breaks.length c_0_2], boxO 120 g3 [.int .i64 q1.At.X, .int .i64 q1.At.Y, .int .i64 q1.DX, .int .i64 q1.DY], boxO 120 g5 [.int .i64 0, .int .i64 0, .int .i64 0, .int .i64 0], boxO 93 g8 [.int .i64 x7.X, .int .i64 x7.Y]]) [0, 1, 2, 3] ?_ ⟨rfl, rfl, rfl, rfl, trivial⟩ (by decide) rfl
  refine JE.code ?_
  refine JX.seq ?_
  refine JX.region ?_
  refine JL.val (yl_loadn Go.Proofs.Try.underlying93 rfl i93 rfl (fun w hC => rd_box hC 3 rfl) rfl (i93s).symm i93p) rfl ?_
  refine JL.val (yl_fieldAt (a := some _) Go.Proofs.Try.underlying120 rfl i2 i2n rfl rfl) rfl ?_
  refine JL.val (yl_load1 Go.Proofs.Try.underlying2 rfl rfl (fun w hC => rd_box hC 1 rfl) rfl) rfl ?_
  refine JL.val (yl_fieldAt (a := some _) Go.Proofs.Try.underlying120 rfl i2 i2n rfl rfl) rfl ?_
  refine JL.val (yl_load1 Go.Proofs.Try.underlying2 rfl rfl (fun w hC => rd_box hC 1 rfl) rfl) rfl ?_
  refine JL.val (yl_build rfl (fun w => bld120_0_1_2 x7.X x7.Y q1.DX q1.DY w)) rfl ?_
  refine JL.eff (ef_alloc i120 i120z rfl) rfl ?_
  rintro _ _ ⟨g10, rfl, rfl⟩
  refine JL.eff (ef_store_box (i := 4) (v := .agg #[.int .i64 x7.X, .int .i64 x7.Y, .int .i64 q1.DX, .int .i64 q1.DY]) i120 rfl rfl rfl (i120s).symm (Nat.le_of_ble_eq_true rfl) (by simp [Value.cells, Value.oneCell'])) rfl ?_
  rintro _ _ rfl
  refine JL.nil ?_
  refine JE.weak (env' := [(2, ptrAt (some ⟨g1, 0, none⟩) 0), (3, ptrAt (some ⟨g3, 0, none⟩) 0), (4, ptrAt (some ⟨g5, 0, none⟩) 0), (6, ptrAt (some ⟨g8, 0, none⟩) 0), (7, ptrAt (some ⟨g10, 0, none⟩) 0)]) (es' := [boxO 39 g1 [.int .i64 q0.W, .int .i64 q0.H, .slice a_0_2 q0.Breaks.length c_0_2], boxO 120 g3 [.int .i64 q1.At.X, .int .i64 q1.At.Y, .int .i64 q1.DX, .int .i64 q1.DY], boxO 120 g5 [.int .i64 0, .int .i64 0, .int .i64 0, .int .i64 0], boxO 93 g8 [.int .i64 x7.X, .int .i64 x7.Y], boxO 120 g10 [.int .i64 x7.X, .int .i64 x7.Y, .int .i64 q1.DX, .int .i64 q1.DY]]) [0, 1, 2, 3, 4] ?_ ⟨rfl, rfl, rfl, rfl, rfl, trivial⟩ (by decide) rfl
  refine JE.code ?_
  refine JX.seq ?_
  refine JX.region ?_
  refine JL.val (yl_assign rfl) rfl ?_
  refine JL.nil ?_
  refine JE.code ?_
  refine JX.seq ?_
  refine JX.seq ?_
  refine JX.region ?_
  refine JL.val (yl_loadn Go.Proofs.Try.underlying39 rfl i39 rfl (fun w hC => rd_box hC 0 rfl) rfl (i39s).symm i39p) rfl ?_
  refine JL.val (yl_loadn Go.Proofs.Try.underlying93 rfl i93 rfl (fun w hC => rd_box hC 3 rfl) rfl (i93s).symm i93p) rfl ?_
  obtain ⟨x12, hx12, hres⟩ := bind_some hres
  refine JL.eff (ef_call (vs := [.agg #[.int .i64 q0.W, .int .i64 q0.H, .slice a_0_2 q0.Breaks.length c_0_2], .agg #[.int .i64 x7.X, .int .i64 x7.Y]]) (T := T172 x12) Go.Proofs.Try.func172 rfl (by kernel_rfl) rfl (fun w hC => c172 (q0 := q0) (q1 := x7) (rd_arg g_0_2 hC) rfl k_0_2 hx12)) rfl ?_
  rintro _ _ ⟨_, ⟨rfl, rfl⟩, rfl⟩
  refine JL.val (yl_not rfl) rfl ?_
  refine JL.nil ?_
  refine JE.weak (env' := [(2, ptrAt (some ⟨g1, 0, none⟩) 0), (3, ptrAt (some ⟨g3, 0, none⟩) 0), (4, ptrAt (some ⟨g5, 0, none⟩) 0), (6, ptrAt (some ⟨g8, 0, none⟩) 0), (7, ptrAt (some ⟨g10, 0, none⟩) 0), (8, .int .i64 0), (20, .bool !x12)]) (es' := [boxO 39 g1 [.int .i64 q0.W, .int .i64 q0.H, .slice a_0_2 q0.Breaks.length c_0_2], boxO 120 g3 [.int .i64 q1.At.X, .int .i64 q1.At.Y, .int .i64 q1.DX, .int .i64 q1.DY], boxO 120 g5 [.int .i64 0, .int .i64 0, .int .i64 0, .int .i64 0], boxO 93 g8 [.int .i64 x7.X, .int .i64 x7.Y], boxO 120 g10 [.int .i64 x7.X, .int .i64 x7.Y, .int .i64 q1.DX, .int .i64 q1.DY]]) [0, 1, 2, 3, 4] ?_ ⟨rfl, rfl, rfl, rfl, rfl, rfl, rfl, trivial⟩ (by decide) rfl
  refine JE.code ?_
  obtain ⟨j13, hj13, hresj13⟩ := bind_some hres
  refine JX.cut (K := fun J => J [(2, ptrAt (some ⟨g1, 0, none⟩) 0), (3, ptrAt (some ⟨g3, 0, none⟩) 0), (4, ptrAt (some ⟨g5, 0, none⟩) 0), (6, ptrAt (some ⟨g8, 0, none⟩) 0), (7, ptrAt (some ⟨g10, 0, none⟩) 0), (8, .int .i64 j13)] [boxO 39 g1 [.int .i64 q0.W, .int .i64 q0.H, .slice a_0_2 q0.Breaks.length c_0_2], boxO 120 g3 [.int .i64 q1.At.X, .int .i64 q1.At.Y, .int .i64 q1.DX, .int .i64 q1.DY], boxO 120 g5 [.int .i64 0, .int .i64 0, .int .i64 0, .int .i64 0], boxO 93 g8 [.int .i64 x7.X, .int .i64 x7.Y], boxO 120 g10 [.int .i64 x7.X, .int .i64 x7.Y, .int .i64 q1.DX, .int .i64 q1.DY]]) ?_ ?_
  · have hres := hresj13
    refine JE.code ?_
    refine JX.seq ?_
    refine JX.seq ?_
    refine JX.region ?_
    refine JL.val (yl_fieldAt (a := some _) Go.Proofs.Try.underlying93 rfl i2 i2n rfl rfl) rfl ?_
    refine JL.val (yl_load1 Go.Proofs.Try.underlying2 rfl rfl (fun w hC => rd_box hC 3 rfl) rfl) rfl ?_
    refine JL.val (yl_eql rfl rfl) rfl ?_
    refine JL.val (yl_move rfl) rfl ?_
    refine JL.cut (K := fun J => J [(2, ptrAt (some ⟨g1, 0, none⟩) 0), (3, ptrAt (some ⟨g3, 0, none⟩) 0), (4, ptrAt (some ⟨g5, 0, none⟩) 0), (6, ptrAt (some ⟨g8, 0, none⟩) 0), (7, ptrAt (some ⟨g10, 0, none⟩) 0), (8, .int .i64 j13), (38, .bool ((x7.X == 0) || (x7.X == (w64 (2 * q0.W)))))] [boxO 39 g1 [.int .i64 q0.W, .int .i64 q0.H, .slice a_0_2 q0.Breaks.length c_0_2], boxO 120 g3 [.int .i64 q1.At.X, .int .i64 q1.At.Y, .int .i64 q1.DX, .int .i64 q1.DY], boxO 120 g5 [.int .i64 0, .int .i64 0, .int .i64 0, .int .i64 0], boxO 93 g8 [.int .i64 x7.X, .int .i64 x7.Y], boxO 120 g10 [.int .i64 x7.X, .int .i64 x7.Y, .int .i64 q1.DX, .int .i64 q1.DY]]) 7 ?_ ?_
    · refine JL.val (yl_move rfl) rfl ?_
      refine JL.cut (K := fun J => J [(2, ptrAt (some ⟨g1, 0, none⟩) 0), (3, ptrAt (some ⟨g3, 0, none⟩) 0), (4, ptrAt (some ⟨g5, 0, none⟩) 0), (6, ptrAt (some ⟨g8, 0, none⟩) 0), (7, ptrAt (some ⟨g10, 0, none⟩) 0), (8, .int .i64 j13), (42, .bool (((x7.X == 0) || (x7.X == (w64 (2 * q0.W)))) || (j13 == 1)))] [boxO 39 g1 [.int .i64 q0.W, .int .i64 q0.H, .slice a_0_2 q0.Breaks.length c_0_2], boxO 120 g3 [.int .i64 q1.At.X, .int .i64 q1.At.Y, .int .i64 q1.DX, .int .i64 q1.DY], boxO 120 g5 [.int .i64 0, .int .i64 0, .int .i64 0, .int .i64 0], boxO 93 g8 [.int .i64 x7.X, .int .i64 x7.Y], boxO 120 g10 [.int .i64 x7.X, .int .i64 x7.Y, .int .i64 q1.DX, .int .i64 q1.DY]]) 3 ?_ ?_
      · refine JL.nil ?_
        refine JE.weak (env' := [(2, ptrAt (some ⟨g1, 0, none⟩) 0), (3, ptrAt (some ⟨g3, 0, none⟩) 0), (4, ptrAt (some ⟨g5, 0, none⟩) 0), (6, ptrAt (some ⟨g8, 0, none⟩) 0), (7, ptrAt (some ⟨g10, 0, none⟩) 0), (8, .int .i64 j13), (42, .bool (((x7.X == 0) || (x7.X == (w64 (2 * q0.W)))) || (j13 == 1)))]) (es' := [boxO 39 g1 [.int .i64 q0.W, .int .i64 q0.H, .slice a_0_2 q0.Breaks.length c_0_2], boxO 120 g3 [.int .i64 q1.At.X, .int .i64 q1.At.Y, .int .i64 q1.DX, .int .i64 q1.DY], boxO 120 g5 [.int .i64 0, .int .i64 0, .int .i64 0, .int .i64 0], boxO 93 g8 [.int .i64 x7.X, .int .i64 x7.Y], boxO 120 g10 [.int .i64 x7.X, .int .i64 x7.Y, .int .i64 q1.DX, .int .i64 q1.DY]]) [0, 1, 2, 3, 4] ?_ ⟨rfl, rfl, rfl, rfl, rfl, rfl, rfl, trivial⟩ (by decide) rfl
        refine JE.code ?_
        obtain ⟨j14, hj14, hresj14⟩ := bind_some hres
        refine JX.cut (K := fun J => J [(2, ptrAt (some ⟨g1, 0, none⟩) 0), (3, ptrAt (some ⟨g3, 0, none⟩) 0), (4, ptrAt (some ⟨g5, 0, none⟩) 0), (6, ptrAt (some ⟨g8, 0, none⟩) 0), (7, ptrAt (some ⟨g10, 0, none⟩) 0), (8, .int .i64 j13)] [boxO 39 g1 [.int .i64 q0.W, .int .i64 q0.H, .slice a_0_2 q0.Breaks.length c_0_2], boxO 120 g3 [.int .i64 q1.At.X, .int .i64 q1.At.Y, .int .i64 q1.DX, .int .i64 q1.DY], boxO 120 g5 [.int .i64 0, .int .i64 0, .int .i64 0, .int .i64 0], boxO 93 g8 [.int .i64 x7.X, .int .i64 x7.Y], boxO 120 g10 [.int .i64 j14.At.X, .int .i64 j14.At.Y, .int .i64 j14.DX, .int .i64 j14.DY]]) ?_ ?_
        · have hres := hresj14
          refine JE.code ?_
          refine JX.seq ?_
          refine JX.seq ?_
          refine JX.region ?_
          refine JL.val (yl_fieldAt (a := some _) Go.Proofs.Try.underlying93 rfl i2 i2n rfl rfl) rfl ?_
          refine JL.val (yl_load1 Go.Proofs.Try.underlying2 rfl rfl (fun w hC => rd_box hC 3 rfl) rfl) rfl ?_
          refine JL.val (yl_eql rfl rfl) rfl ?_
          refine JL.val (yl_move rfl) rfl ?_
          refine JL.cut (K := fun J => J [(3, ptrAt (some ⟨g3, 0, none⟩) 0), (4, ptrAt (some ⟨g5, 0, none⟩) 0), (7, ptrAt (some ⟨g10, 0, none⟩) 0), (8, .int .i64 j13), (57, .bool ((x7.Y == 0) || (x7.Y == (w64 (2 * q0.H)))))] [boxO 120 g3 [.int .i64 q1.At.X, .int .i64 q1.At.Y, .int .i64 q1.DX, .int .i64 q1.DY], boxO 120 g5 [.int .i64 0, .int .i64 0, .int .i64 0, .int .i64 0], boxO 120 g10 [.int .i64 j14.At.X, .int .i64 j14.At.Y, .int .i64 j14.DX, .int .i64 j14.DY]]) 7 ?_ ?_
          · refine JL.val (yl_move rfl) rfl ?_
            refine JL.cut (K := fun J => J [(3, ptrAt (some ⟨g3, 0, none⟩) 0), (4, ptrAt (some ⟨g5, 0, none⟩) 0), (7, ptrAt (some ⟨g10, 0, none⟩) 0), (61, .bool (((x7.Y == 0) || (x7.Y == (w64 (2 * q0.H)))) || (j13 == 2)))] [boxO 120 g3 [.int .i64 q1.At.X, .int .i64 q1.At.Y, .int .i64 q1.DX, .int .i64 q1.DY], boxO 120 g5 [.int .i64 0, .int .i64 0, .int .i64 0, .int .i64 0], boxO 120 g10 [.int .i64 j14.At.X, .int .i64 j14.At.Y, .int .i64 j14.DX, .int .i64 j14.DY]]) 3 ?_ ?_
            · refine JL.nil ?_
              refine JE.weak (env' := [(3, ptrAt (some ⟨g3, 0, none⟩) 0), (4, ptrAt (some ⟨g5, 0, none⟩) 0), (7, ptrAt (some ⟨g10, 0, none⟩) 0), (61, .bool (((x7.Y == 0) || (x7.Y == (w64 (2 * q0.H)))) || (j13 == 2)))]) (es' := [boxO 120 g3 [.int .i64 q1.At.X, .int .i64 q1.At.Y, .int .i64 q1.DX, .int .i64 q1.DY], boxO 120 g5 [.int .i64 0, .int .i64 0, .int .i64 0, .int .i64 0], boxO 120 g10 [.int .i64 j14.At.X, .int .i64 j14.At.Y, .int .i64 j14.DX, .int .i64 j14.DY]]) [0, 1, 2] ?_ ⟨rfl, rfl, rfl, rfl, trivial⟩ (by decide) rfl
              refine JE.code ?_
              obtain ⟨j15, hj15, hresj15⟩ := bind_some hres
              refine JX.cut (K := fun J => J [(3, ptrAt (some ⟨g3, 0, none⟩) 0), (4, ptrAt (some ⟨g5, 0, none⟩) 0), (7, ptrAt (some ⟨g10, 0, none⟩) 0)] [boxO 120 g3 [.int .i64 q1.At.X, .int .i64 q1.At.Y, .int .i64 q1.DX, .int .i64 q1.DY], boxO 120 g5 [.int .i64 0, .int .i64 0, .int .i64 0, .int .i64 0], boxO 120 g10 [.int .i64 j15.At.X, .int .i64 j15.At.Y, .int .i64 j15.DX, .int .i64 j15.DY]]) ?_ ?_
              · have hres := hresj15
                refine JE.code ?_
                refine JX.seq ?_
                refine JX.drawH [(0, .read), (1, .pure), (2, .read), (3, .pure), (4, .read), (5, .pure), (6, .pure), (7, .pure), (8, .read), (9, .pure), (10, .read), (11, .pure), (12, .pure), (13, .must), (14, .pure)] [13] [1] [0, 2] [boxO 120 g5 [.int .i64 0, .int .i64 0, .int .i64 0, .int .i64 0]] [boxO 120 g3 [.int .i64 q1.At.X, .int .i64 q1.At.Y, .int .i64 q1.DX, .int .i64 q1.DY], boxO 120 g10 [.int .i64 j15.At.X, .int .i64 j15.At.Y, .int .i64 j15.DX, .int .i64 j15.DY]] mixedP (by kernel_rfl) (by kernel_rfl) (by decide) rfl rfl ?_
                intro wrr16 Nr16 hFr16
                refine JH.read rfl (yl_loadn Go.Proofs.Try.underlying120 rfl i120 rfl (fun w hw => hFr16.box 2 rfl rfl hw) rfl (i120s).symm i120p) rfl ?_
                refine JH.pure rfl (yl_fieldAt (a := some _) Go.Proofs.Try.underlying120 rfl i2 i2n rfl rfl) rfl ?_
                refine JH.read rfl (yl_load1 Go.Proofs.Try.underlying2 rfl rfl (fun w hw => hFr16.box 2 rfl rfl hw) rfl) rfl ?_
                refine JH.pure rfl (yl_fieldAt (a := some _) Go.Proofs.Try.underlying120 rfl i2 i2n rfl rfl) rfl ?_
                refine JH.read rfl (yl_load1 Go.Proofs.Try.underlying2 rfl rfl (fun w hw => hFr16.box 0 rfl rfl hw) rfl) rfl ?_
                refine JH.pure rfl (yl_neq rfl rfl) rfl ?_
                refine JH.pure rfl (yl_move rfl) rfl ?_
                refine JH.cut (K := fun J => J [(4, ptrAt (some ⟨g5, 0, none⟩) 0), (66, .agg #[.int .i64 j15.At.X, .int .i64 j15.At.Y, .int .i64 j15.DX, .int .i64 j15.DY]), (78, .bool ((j15.DX != q1.DX) || (j15.DY != q1.DY)))] [boxO 120 g5 [.int .i64 0, .int .i64 0, .int .i64 0, .int .i64 0]]) 6 ?_ ?_
                · refine JH.must rfl (ef_store_box (i := 0) (v := .agg #[.int .i64 j15.At.X, .int .i64 j15.At.Y, .int .i64 j15.DX, .int .i64 j15.DY]) i120 rfl rfl rfl (i120s).symm (Nat.le_of_ble_eq_true rfl) (by simp [Value.cells, Value.oneCell'])) rfl rfl ?_
                  rintro _ _ rfl
                  refine JH.pure rfl (yl_assign rfl) rfl ?_
                  refine JH.nil ?_
                  refine JE.weak (env' := [(4, ptrAt (some ⟨g5, 0, none⟩) 0), (5, .bool ((j15.DX != q1.DX) || (j15.DY != q1.DY)))]) (es' := [boxO 120 g5 [.int .i64 j15.At.X, .int .i64 j15.At.Y, .int .i64 j15.DX, .int .i64 j15.DY]]) [2] ?_ ⟨rfl, rfl, trivial⟩ (by decide) rfl
                  refine JE.code ?_
                  refine JX.ret ?_
                  obtain rfl := Option.some.inj hres
                  refine JE.ret (rs := [.cell 4 120, .tmp 5]) (vs := [.agg #[.int .i64 j15.At.X, .int .i64 j15.At.Y, .int .i64 j15.DX, .int .i64 j15.DY], .bool ((j15.DX != q1.DX) || (j15.DY != q1.DY))]) rfl ⟨rv_box 0 rfl rfl Go.Proofs.Try.underlying120 rfl i120 (i120s).symm, rfl, trivial⟩ ?_
                  exact fun w' hb hs => ⟨_, _, ⟨rfl, rfl⟩, rfl, hb, hs.sel [] _ (by decide) rfl⟩
                · intro K
                  rcases Bool.eq_false_or_eq_true (j15.DX != q1.DX) with hb | hb
                  · refine JH.set (d := 72) (v := .bool true) (congrArg (fun b => some (Value.bool b)) hb) ?_
                    refine JH.gskip rfl rfl rfl rfl rfl rfl ?_
                    refine JH.gskip rfl rfl rfl rfl rfl rfl ?_
                    refine JH.gskip rfl rfl rfl rfl rfl rfl ?_
                    refine JH.gskip rfl rfl rfl rfl rfl rfl ?_
                    refine JH.gskip rfl rfl rfl rfl rfl rfl ?_
                    refine JH.pure rfl (yl_pick_true rfl rfl) rfl ?_
                    exact JH.weak [0] K ⟨rfl, rfl, (by rw [hb]; rfl), trivial⟩ (by decide) rfl
                  · refine JH.set (d := 72) (v := .bool false) (congrArg (fun b => some (Value.bool b)) hb) ?_
                    refine JH.gpure rfl rfl rfl (yl_fieldAt (a := some _) Go.Proofs.Try.underlying120 rfl i2 i2n rfl rfl) rfl ?_
                    refine JH.gread rfl rfl rfl (yl_load1 Go.Proofs.Try.underlying2 rfl rfl (fun w hw => hFr16.box 2 rfl rfl hw) rfl) rfl ?_
                    refine JH.gpure rfl rfl rfl (yl_fieldAt (a := some _) Go.Proofs.Try.underlying120 rfl i2 i2n rfl rfl) rfl ?_
                    refine JH.gread rfl rfl rfl (yl_load1 Go.Proofs.Try.underlying2 rfl rfl (fun w hw => hFr16.box 0 rfl rfl hw) rfl) rfl ?_
                    refine JH.gpure rfl rfl rfl (yl_neq rfl rfl) rfl ?_
                    refine JH.pure rfl (yl_pick_false rfl rfl) rfl ?_
                    exact JH.weak [0] K ⟨rfl, rfl, (by rw [hb]; rfl), trivial⟩ (by decide) rfl
              · intro K
                rcases cond_some hj15 with ⟨hb, hres⟩ | ⟨hb, hres⟩
                · refine JX.condT rfl hb ?_
                  refine JX.region ?_
                  refine JL.val (yl_fieldAt (a := some _) Go.Proofs.Try.underlying120 rfl i2 i2n rfl rfl) rfl ?_
                  refine JL.val (yl_load1 Go.Proofs.Try.underlying2 rfl rfl (fun w hC => rd_box hC 2 rfl) rfl) rfl ?_
                  refine JL.val (yl_neg rfl) rfl ?_
                  refine JL.val (yl_fieldAt (a := some _) Go.Proofs.Try.underlying120 rfl i2 i2n rfl rfl) rfl ?_
                  refine JL.eff (ef_store_box (i := 2) (v := .int .i64 (w64 (0 - j14.DY))) i2 rfl rfl rfl (i2s).symm (Nat.le_of_ble_eq_true rfl) (by simp [Value.cells, Value.oneCell'])) rfl ?_
                  rintro _ _ rfl
                  refine JL.nil ?_
                  refine JE.weak (env' := [(3, ptrAt (some ⟨g3, 0, none⟩) 0), (4, ptrAt (some ⟨g5, 0, none⟩) 0), (7, ptrAt (some ⟨g10, 0, none⟩) 0)]) (es' := [boxO 120 g3 [.int .i64 q1.At.X, .int .i64 q1.At.Y, .int .i64 q1.DX, .int .i64 q1.DY], boxO 120 g5 [.int .i64 0, .int .i64 0, .int .i64 0, .int .i64 0], boxO 120 g10 [.int .i64 j14.At.X, .int .i64 j14.At.Y, .int .i64 j14.DX, .int .i64 (w64 (0 - j14.DY))]]) [0, 1, 2] ?_ ⟨rfl, rfl, rfl, trivial⟩ (by decide) rfl
                  have hj := Option.some.inj hres
                  exact JE.weak [0, 1, 2] (K) ⟨(by subst hj; rfl), (by subst hj; rfl), (by subst hj; rfl), trivial⟩ (by decide) (by subst hj; rfl)
                · refine JX.condF rfl hb ?_
                  refine JX.skip ?_
                  have hj := Option.some.inj hres
                  exact JE.weak [0, 1, 2] (K) ⟨(by subst hj; rfl), (by subst hj; rfl), (by subst hj; rfl), trivial⟩ (by decide) (by subst hj; rfl)
            · intro K
              rcases Bool.eq_false_or_eq_true ((x7.Y == 0) || (x7.Y == (w64 (2 * q0.H)))) with hb | hb
              · refine JL.set (d := 58) (v := .bool true) (congrArg (fun b => some (Value.bool b)) hb) ?_
                refine JL.gskip rfl rfl rfl rfl ?_
                refine JL.gskip rfl rfl rfl rfl ?_
                refine JL.val (yl_pick_true rfl rfl) rfl ?_
                exact JL.weak [0, 1, 2] K ⟨rfl, rfl, rfl, (by rw [hb]; rfl), trivial⟩ (by decide) rfl
              · refine JL.set (d := 58) (v := .bool false) (congrArg (fun b => some (Value.bool b)) hb) ?_
                refine JL.gval rfl rfl (yl_move rfl) rfl ?_
                refine JL.gval rfl rfl (yl_eql rfl rfl) rfl ?_
                refine JL.val (yl_pick_false rfl rfl) rfl ?_
                exact JL.weak [0, 1, 2] K ⟨rfl, rfl, rfl, (by rw [hb]; rfl), trivial⟩ (by decide) rfl
          · intro K
            rcases Bool.eq_false_or_eq_true (x7.Y == 0) with hb | hb
            · refine JL.set (d := 50) (v := .bool true) (congrArg (fun b => some (Value.bool b)) hb) ?_
              refine JL.gskip rfl rfl rfl rfl ?_
              refine JL.gskip rfl rfl rfl rfl ?_
              refine JL.gskip rfl rfl rfl rfl ?_
              refine JL.gskip rfl rfl rfl rfl ?_
              refine JL.gskip rfl rfl rfl rfl ?_
              refine JL.gskip rfl rfl rfl rfl ?_
              refine JL.val (yl_pick_true rfl rfl) rfl ?_
              exact JL.weak [1, 2, 4] K ⟨rfl, rfl, rfl, rfl, (by rw [hb]; rfl), trivial⟩ (by decide) rfl
            · refine JL.set (d := 50) (v := .bool false) (congrArg (fun b => some (Value.bool b)) hb) ?_
              refine JL.gval rfl rfl (yl_fieldAt (a := some _) Go.Proofs.Try.underlying93 rfl i2 i2n rfl rfl) rfl ?_
              refine JL.gval rfl rfl (yl_load1 Go.Proofs.Try.underlying2 rfl rfl (fun w hC => rd_box hC 3 rfl) rfl) rfl ?_
              refine JL.gval rfl rfl (yl_fieldAt (a := some _) Go.Proofs.Try.underlying39 rfl i2 i2n rfl rfl) rfl ?_
              refine JL.gval rfl rfl (yl_load1 Go.Proofs.Try.underlying2 rfl rfl (fun w hC => rd_box hC 0 rfl) rfl) rfl ?_
              refine JL.gval rfl rfl (yl_mul rfl rfl) rfl ?_
              refine JL.gval rfl rfl (yl_eql rfl rfl) rfl ?_
              refine JL.val (yl_pick_false rfl rfl) rfl ?_
              exact JL.weak [1, 2, 4] K ⟨rfl, rfl, rfl, rfl, (by rw [hb]; rfl), trivial⟩ (by decide) rfl
        · intro K
          rcases cond_some hj14 with ⟨hb, hres⟩ | ⟨hb, hres⟩
          · refine JX.condT rfl hb ?_
            refine JX.region ?_
            refine JL.val (yl_fieldAt (a := some _) Go.Proofs.Try.underlying120 rfl i2 i2n rfl rfl) rfl ?_
            refine JL.val (yl_load1 Go.Proofs.Try.underlying2 rfl rfl (fun w hC => rd_box hC 4 rfl) rfl) rfl ?_
            refine JL.val (yl_neg rfl) rfl ?_
            refine JL.val (yl_fieldAt (a := some _) Go.Proofs.Try.underlying120 rfl i2 i2n rfl rfl) rfl ?_
            refine JL.eff (ef_store_box (i := 4) (v := .int .i64 (w64 (0 - q1.DX))) i2 rfl rfl rfl (i2s).symm (Nat.le_of_ble_eq_true rfl) (by simp [Value.cells, Value.oneCell'])) rfl ?_
            rintro _ _ rfl
            refine JL.nil ?_
            refine JE.weak (env' := [(2, ptrAt (some ⟨g1, 0, none⟩) 0), (3, ptrAt (some ⟨g3, 0, none⟩) 0), (4, ptrAt (some ⟨g5, 0, none⟩) 0), (6, ptrAt (some ⟨g8, 0, none⟩) 0), (7, ptrAt (some ⟨g10, 0, none⟩) 0), (8, .int .i64 j13)]) (es' := [boxO 39 g1 [.int .i64 q0.W, .int .i64 q0.H, .slice a_0_2 q0.Breaks.length c_0_2], boxO 120 g3 [.int .i64 q1.At.X, .int .i64 q1.At.Y, .int .i64 q1.DX, .int .i64 q1.DY], boxO 120 g5 [.int .i64 0, .int .i64 0, .int .i64 0, .int .i64 0], boxO 93 g8 [.int .i64 x7.X, .int .i64 x7.Y], boxO 120 g10 [.int .i64 x7.X, .int .i64 x7.Y, .int .i64 (w64 (0 - q1.DX)), .int .i64 q1.DY]]) [0, 1, 2, 3, 4] ?_ ⟨rfl, rfl, rfl, rfl, rfl, rfl, trivial⟩ (by decide) rfl
            have hj := Option.some.inj hres
            exact JE.weak [0, 1, 2, 3, 4] (K) ⟨(by subst hj; rfl), (by subst hj; rfl), (by subst hj; rfl), (by subst hj; rfl), (by subst hj; rfl), (by subst hj; rfl), trivial⟩ (by decide) (by subst hj; rfl)
          · refine JX.condF rfl hb ?_
            refine JX.skip ?_
            have hj := Option.some.inj hres
            exact JE.weak [0, 1, 2, 3, 4] (K) ⟨(by subst hj; rfl), (by subst hj; rfl), (by subst hj; rfl), (by subst hj; rfl), (by subst hj; rfl), (by subst hj; rfl), trivial⟩ (by decide) (by subst hj; rfl)
      · intro K
        rcases Bool.eq_false_or_eq_true ((x7.X == 0) || (x7.X == (w64 (2 * q0.W)))) with hb | hb
        · refine JL.set (d := 39) (v := .bool true) (congrArg (fun b => some (Value.bool b)) hb) ?_
          refine JL.gskip rfl rfl rfl rfl ?_
          refine JL.gskip rfl rfl rfl rfl ?_
          refine JL.val (yl_pick_true rfl rfl) rfl ?_
          exact JL.weak [0, 1, 2, 3, 4] K ⟨rfl, rfl, rfl, rfl, rfl, rfl, (by rw [hb]; rfl), trivial⟩ (by decide) rfl
        · refine JL.set (d := 39) (v := .bool false) (congrArg (fun b => some (Value.bool b)) hb) ?_
          refine JL.gval rfl rfl (yl_move rfl) rfl ?_
          refine JL.gval rfl rfl (yl_eql rfl rfl) rfl ?_
          refine JL.val (yl_pick_false rfl rfl) rfl ?_
          exact JL.weak [0, 1, 2, 3, 4] K ⟨rfl, rfl, rfl, rfl, rfl, rfl, (by rw [hb]; rfl), trivial⟩ (by decide) rfl
    · intro K
      rcases Bool.eq_false_or_eq_true (x7.X == 0) with hb | hb
      · refine JL.set (d := 31) (v := .bool true) (congrArg (fun b => some (Value.bool b)) hb) ?_
        refine JL.gskip rfl rfl rfl rfl ?_
        refine JL.gskip rfl rfl rfl rfl ?_
        refine JL.gskip rfl rfl rfl rfl ?_
        refine JL.gskip rfl rfl rfl rfl ?_
        refine JL.gskip rfl rfl rfl rfl ?_
        refine JL.gskip rfl rfl rfl rfl ?_
        refine JL.val (yl_pick_true rfl rfl) rfl ?_
        exact JL.weak [0, 1, 2, 3, 4] K ⟨rfl, rfl, rfl, rfl, rfl, rfl, (by rw [hb]; rfl), trivial⟩ (by decide) rfl
      · refine JL.set (d := 31) (v := .bool false) (congrArg (fun b => some (Value.bool b)) hb) ?_
        refine JL.gval rfl rfl (yl_fieldAt (a := some _) Go.Proofs.Try.underlying93 rfl i2 i2n rfl rfl) rfl ?_
        refine JL.gval rfl rfl (yl_load1 Go.Proofs.Try.underlying2 rfl rfl (fun w hC => rd_box hC 3 rfl) rfl) rfl ?_
        refine JL.gval rfl rfl (yl_fieldAt (a := some _) Go.Proofs.Try.underlying39 rfl i2 i2n rfl rfl) rfl ?_
        refine JL.gval rfl rfl (yl_load1 Go.Proofs.Try.underlying2 rfl rfl (fun w hC => rd_box hC 0 rfl) rfl) rfl ?_
        refine JL.gval rfl rfl (yl_mul rfl rfl) rfl ?_
        refine JL.gval rfl rfl (yl_eql rfl rfl) rfl ?_
        refine JL.val (yl_pick_false rfl rfl) rfl ?_
        exact JL.weak [0, 1, 2, 3, 4] K ⟨rfl, rfl, rfl, rfl, rfl, rfl, (by rw [hb]; rfl), trivial⟩ (by decide) rfl
  · intro K
    rcases cond_some hj13 with ⟨hb, hres⟩ | ⟨hb, hres⟩
    · refine JX.condT rfl hb ?_
      refine JX.drawH [(0, .pure), (1, .read), (2, .read), (3, .read), (4, .must), (5, .pure), (6, .read), (7, .pure)] [] [] [0, 1, 2, 3, 4] [] [boxO 39 g1 [.int .i64 q0.W, .int .i64 q0.H, .slice a_0_2 q0.Breaks.length c_0_2], boxO 120 g3 [.int .i64 q1.At.X, .int .i64 q1.At.Y, .int .i64 q1.DX, .int .i64 q1.DY], boxO 120 g5 [.int .i64 0, .int .i64 0, .int .i64 0, .int .i64 0], boxO 93 g8 [.int .i64 x7.X, .int .i64 x7.Y], boxO 120 g10 [.int .i64 x7.X, .int .i64 x7.Y, .int .i64 q1.DX, .int .i64 q1.DY]] mixedP (by kernel_rfl) (by kernel_rfl) (by decide) rfl rfl ?_
      intro wrr17 Nr17 hFr17
      refine JH.pure rfl (yl_fieldAt (a := some _) Go.Proofs.Try.underlying39 rfl i33 i33n rfl rfl) rfl ?_
      refine JH.read rfl (yl_load1 Go.Proofs.Try.underlying33 rfl rfl (fun w hw => hFr17.box 0 rfl rfl hw) rfl) rfl ?_
      refine JH.read rfl (yl_loadn Go.Proofs.Try.underlying39 rfl i39 rfl (fun w hw => hFr17.box 0 rfl rfl hw) rfl (i39s).symm i39p) rfl ?_
      refine JH.read rfl (yl_loadn Go.Proofs.Try.underlying93 rfl i93 rfl (fun w hw => hFr17.box 3 rfl rfl hw) rfl (i93s).symm i93p) rfl ?_
      obtain ⟨x18, hx18, hres⟩ := bind_some hres
      refine JH.must rfl (ef_call (vs := [.agg #[.int .i64 q0.W, .int .i64 q0.H, .slice a_0_2 q0.Breaks.length c_0_2], .agg #[.int .i64 x7.X, .int .i64 x7.Y]]) (T := T174 x18) Go.Proofs.Try.func174 rfl (by kernel_rfl) rfl (fun w hC => c174 (q0 := q0) (q1 := x7) (hFr17.arg g_0_2 hC.1) rfl k_0_2 hx18)) rfl rfl ?_
      rintro _ _ ⟨_, ⟨rfl, rfl⟩, rfl⟩
      obtain ⟨x19, hx19, hres⟩ := bind_some hres
      refine JH.pure rfl (yl_idxQ Go.Proofs.Try.underlying33 i2 i2s rfl rfl hx19 rfl (rd_arg g_0_2 hFr17.cl) rfl) rfl ?_
      refine JH.read rfl (yl_loadT0 Go.Proofs.Try.underlying2 rfl rfl hx19 (fun w hw => hFr17.arg g_0_2 hw) rfl) rfl ?_
      refine JH.pure rfl (yl_assign rfl) rfl ?_
      refine JH.nil ?_
      refine JE.weak (env' := [(2, ptrAt (some ⟨g1, 0, none⟩) 0), (3, ptrAt (some ⟨g3, 0, none⟩) 0), (4, ptrAt (some ⟨g5, 0, none⟩) 0), (6, ptrAt (some ⟨g8, 0, none⟩) 0), (7, ptrAt (some ⟨g10, 0, none⟩) 0), (8, .int .i64 x19)]) (es' := [boxO 39 g1 [.int .i64 q0.W, .int .i64 q0.H, .slice a_0_2 q0.Breaks.length c_0_2], boxO 120 g3 [.int .i64 q1.At.X, .int .i64 q1.At.Y, .int .i64 q1.DX, .int .i64 q1.DY], boxO 120 g5 [.int .i64 0, .int .i64 0, .int .i64 0, .int .i64 0], boxO 93 g8 [.int .i64 x7.X, .int .i64 x7.Y], boxO 120 g10 [.int .i64 x7.X, .int .i64 x7.Y, .int .i64 q1.DX, .int .i64 q1.DY]]) [0, 1, 2, 3, 4] ?_ ⟨rfl, rfl, rfl, rfl, rfl, rfl, trivial⟩ (by decide) rfl
      have hj := Option.some.inj hres
      exact JE.weak [0, 1, 2, 3, 4] (K) ⟨(by subst hj; rfl), (by subst hj; rfl), (by subst hj; rfl), (by subst hj; rfl), (by subst hj; rfl), (by subst hj; rfl), trivial⟩ (by decide) (by subst hj; rfl)
    · refine JX.condF rfl hb ?_
      refine JX.skip ?_
      have hj := Option.some.inj hres
      exact JE.weak [0, 1, 2, 3, 4] (K) ⟨(by subst hj; rfl), (by subst hj; rfl), (by subst hj; rfl), (by subst hj; rfl), (by subst hj; rfl), (by subst hj; rfl), trivial⟩ (by decide) (by subst hj; rfl)

/- (impl.Panel).trace -/
def sh104_3 (q0 : SPanel) (x23 : List (List SWalker)) : (List Int × List SWalker × SWalker) → Option ((List Int × List SWalker × SWalker) ⊕ (List Int × List SWalker))
  | (x40, x41, x42) => Option.bind (sh159 q0 x42) fun x47 => Option.bind (getI x40 x47) fun x48 => bif decide (x48 < 0) then (Option.bind (sh159 q0 x42) fun x49 => Option.bind (getI x40 x49) fun x50 => Option.bind (appL x41 [x42]) fun x53 => Option.bind (sh160 q0 x42) fun x58 => some (.inl (x40.set (x49).toNat ((x23.length : Nat) : Int), x53, x58.1))) else (some (.inr (x40, x41)))
def sh104_2 (q0 : SPanel) (x16 : Int) : (Int × List (List SWalker) × List Int) → Option ((Int × List (List SWalker) × List Int) ⊕ (List (List SWalker) × List Int))
  | (x22, x23, x24) => bif decide (x22 < x16) then (Option.bind (getI x24 x22) fun x30 => bif decide (0 ≤ x30) then (some (.inl (w64 (x22 + 1), x23, x24))) else (Option.bind (sh158 q0 x22) fun x33 => Option.bind (iter (sh104_3 q0 x23) (x24, ([] : List SWalker), x33)) fun b3 => (Option.bind (appL x23 [b3.2]) fun x64 => some (.inl (w64 (x22 + 1), x64, b3.1))))) else (some (.inr (x23, x24)))
def sh104_1 (x7 : List Int) : (Int × List Int) → Option ((Int × List Int) ⊕ (List Int))
  | (x11, x12) => bif decide (x11 < (x7.length : Int)) then (Option.bind (getI x12 x11) fun x14 => some (.inl (w64 (x11 + 1), x12.set (x11).toNat (-1)))) else (some (.inr x12))
def sh104 (q0 : SPanel) : Option (List (List SWalker) × List Int) := Option.bind (sh157 q0) fun x6 => Option.bind (mkL x6 0) fun x7 => Option.bind (iter (sh104_1 x7) (0, x7)) fun b1 => (Option.bind (sh157 q0) fun x16 => Option.bind (iter (sh104_2 q0 x16) (0, ([] : List (List SWalker)), b1)) fun b2 => (some (b2.1, b2.2)))
def T104 (r : List (List SWalker) × List Int) (v : Value) (rs : List Own) : Prop := ∃ (a0 : Option Addr) (n0 c0 : Nat) (h0 : List Hd), r.1.length = n0 ∧ Inn h0 r.1 ∧ ∃ (a1 : Option Addr) (n1 c1 : Nat), r.2.length = n1 ∧ v = rets [.slice a0 n0 c0, .slice a1 n1 c1] ∧ rs = [rowT 117 eHd a0 n0 c0 h0, innO 120 eSWalker none h0 r.1, rowT 2 eI64 a1 n1 c1 r.2]
set_option maxRecDepth 100000 in
set_option maxHeartbeats 1000000 in
theorem c104 {w : World} {q0 : SPanel} {a_0_2 : Option Addr} {n_0_2 c_0_2 : Nat} (g_0_2 : Rd w a_0_2 (eI64.fl q0.Breaks)) (l_0_2 : q0.Breaks.length = n_0_2) (k_0_2 : n_0_2 ≤ c_0_2) {r : List (List SWalker) × List Int} (hres : sh104 q0 = some r) : Calls Go.Proofs.Try.prog 104 [.agg #[.int .i64 q0.W, .int .i64 q0.H, .slice a_0_2 n_0_2 c_0_2]].toArray w (Ret w (T104 r)) := by
  subst l_0_2
  unfold sh104 at hres
  refine calls_of (n := 69) (M := []) (es := []) Go.Proofs.Try.func104 rfl rfl rfl (Sep.nil _ _ _) ?_
  refine JX.seq ?_
  refine JX.region ?_
  refine JL.eff (ef_box rfl rfl) rfl ?_
  rintro _ _ ⟨g1, rfl, rfl⟩
  refine JL.val (yl_assign rfl) rfl ?_
  refine JL.val (yl_assign rfl) rfl ?_
  refine JL.nil ?_
  refine JE.code ?_
  refine JX.seq ?_
  refine JX.region ?_
  refine JL.eff (ef_buildSlice (E := 117) (k := eHd.k) (us := eHd.fl ([] : List Hd)) rfl (fun w => bsl113_0  w) rfl (by decide)) rfl ?_
  rintro _ _ ⟨a3, rfl, rfl⟩
  refine JL.nilinn 120 eSWalker ?_
  refine JL.val (yl_assign rfl) rfl ?_
  refine JL.nil ?_
  refine JE.code ?_
  refine JX.seq ?_
  refine JX.region ?_
  refine JL.val (yl_loadn Go.Proofs.Try.underlying39 rfl i39 rfl (fun w hC => rd_box hC 0 rfl) rfl (i39s).symm i39p) rfl ?_
  obtain ⟨x6, hx6, hres⟩ := bind_some hres
  refine JL.eff (ef_call (vs := [.agg #[.int .i64 q0.W, .int .i64 q0.H, .slice a_0_2 q0.Breaks.length c_0_2]]) (T := T157 x6) Go.Proofs.Try.func157 rfl (by kernel_rfl) rfl (fun w hC => c157 (q0 := q0) (rd_arg g_0_2 hC) rfl k_0_2 hx6)) rfl ?_
  rintro _ _ ⟨_, ⟨rfl, rfl⟩, rfl⟩
  obtain ⟨x7, hx7, hres⟩ := bind_some hres
  refine JL.eff (ef_makeS (e := eI64) Go.Proofs.Try.underlying33 i2 i2s i2z rfl i2b1 rfl rfl hx7) rfl ?_
  rintro _ _ ⟨a8, rfl, rfl⟩
  refine JL.val (yl_assign rfl) rfl ?_
  refine JL.nil ?_
  refine JE.weak (env' := [(1, ptrAt (some ⟨g1, 0, none⟩) 0), (4, .slice a3 0 0), (5, .slice a8 x7.length x7.length)]) (es' := [boxO 39 g1 [.int .i64 q0.W, .int .i64 q0.H, .slice a_0_2 q0.Breaks.length c_0_2], rowT 117 eHd a3 0 0 ([] : List Hd), innO 120 eSWalker none ([] : List Hd) ([] : List (List SWalker)), rowT 2 eI64 a8 x7.length x7.length x7]) [0, 1, 2, 3] ?_ ⟨rfl, rfl, rfl, trivial⟩ (by decide) rfl
  refine JE.code ?_
  refine JX.seq ?_
  refine JX.seq ?_
  refine JX.region ?_
  refine JL.val (yl_move rfl) rfl ?_
  refine JL.val (yl_len_slice Go.Proofs.Try.underlying33 rfl) rfl ?_
  refine JL.val (yl_move rfl) rfl ?_
  refine JL.nil ?_
  refine JE.code ?_
  refine JX.block ?_
  obtain ⟨y1, hy1, hresO1⟩ := bind_some hres
  refine JX.loop (I := fun (s1 : Int × List Int) aa ww => ∃ (l10 : s1.2.length = x7.length), St w [] 69 [(1, ptrAt (some ⟨g1, 0, none⟩) 0), (4, .slice a3 0 0), (5, .slice a8 x7.length x7.length), (15, .int .i64 (x7.length : Int)), (16, .int .i64 s1.1)] [boxO 39 g1 [.int .i64 q0.W, .int .i64 q0.H, .slice a_0_2 q0.Breaks.length c_0_2], rowT 117 eHd a3 0 0 ([] : List Hd), innO 120 eSWalker none ([] : List Hd) ([] : List (List SWalker)), rowT 2 eI64 a8 x7.length x7.length s1.2] aa ww) (sh104_1 x7) hy1 (fun a w h => ⟨rfl, h.weak ⟨rfl, rfl, rfl, rfl, rfl, trivial⟩ [0, 1, 2, 3] (by decide) rfl⟩) ?_
  rintro ⟨x11, x12⟩ o1 hres hox1 aa ww ⟨l13, hS⟩
  refine (?_ : JX Go.Proofs.Try.prog w [] 69 _ _ [(1, ptrAt (some ⟨g1, 0, none⟩) 0), (4, .slice a3 0 0), (5, .slice a8 x7.length x7.length), (15, .int .i64 (x7.length : Int)), (16, .int .i64 x11)] [boxO 39 g1 [.int .i64 q0.W, .int .i64 q0.H, .slice a_0_2 q0.Breaks.length c_0_2], rowT 117 eHd a3 0 0 ([] : List Hd), innO 120 eSWalker none ([] : List Hd) ([] : List (List SWalker)), rowT 2 eI64 a8 x7.length x7.length x12] _) aa ww hS
  clear hS
  simp only [sh104_1] at hres
  refine JX.seq ?_
  refine JX.region ?_
  refine JL.val (yl_lss rfl rfl) rfl ?_
  refine JL.nil ?_
  refine JE.code ?_
  refine JX.seq ?_
  rcases cond_some hres with ⟨hb, hres⟩ | ⟨hb, hres⟩
  · refine JX.condT rfl hb ?_
    refine JX.skip ?_
    refine JE.code ?_
    refine JX.seq ?_
    refine JX.block ?_
    refine JX.seq ?_
    refine JX.region ?_
    refine JL.val (yl_move rfl) rfl ?_
    refine JL.val (yl_assign rfl) rfl ?_
    refine JL.nil ?_
    refine JE.code ?_
    refine JX.region ?_
    refine JL.val (yl_move rfl) rfl ?_
    refine JL.val (yl_move rfl) rfl ?_
    obtain ⟨x14, hx14, hres⟩ := bind_some hres
    refine JL.val (yl_idxT Go.Proofs.Try.underlying33 i2 i2s rfl rfl hx14 l13 (fun w hC => rd_row hC 3 rfl)) rfl ?_
    refine JL.eff (ef_storeT (ix := 3) (u := (-1)) i2 i2s rfl rfl rfl hx14 rfl) rfl ?_
    rintro _ _ rfl
    refine JL.nil ?_
    refine JE.weak (env' := [(1, ptrAt (some ⟨g1, 0, none⟩) 0), (4, .slice a3 0 0), (5, .slice a8 x7.length x7.length), (15, .int .i64 (x7.length : Int)), (16, .int .i64 x11)]) (es' := [boxO 39 g1 [.int .i64 q0.W, .int .i64 q0.H, .slice a_0_2 q0.Breaks.length c_0_2], rowT 117 eHd a3 0 0 ([] : List Hd), innO 120 eSWalker none ([] : List Hd) ([] : List (List SWalker)), rowT 2 eI64 a8 x7.length x7.length (x12.set (x11).toNat (-1))]) [0, 1, 2, 3] ?_ ⟨rfl, rfl, rfl, rfl, rfl, trivial⟩ (by decide) rfl
    refine JE.code ?_
    refine JX.region ?_
    refine JL.val (yl_add rfl rfl) rfl ?_
    refine JL.val (yl_move rfl) rfl ?_
    refine JL.nil ?_
    refine JE.cont hres ?_
    exact fun a w h => ⟨(List.length_set.trans l13), h.weak ⟨rfl, rfl, rfl, rfl, rfl, trivial⟩ [0, 1, 2, 3] (by decide) rfl⟩
  · refine JX.condF rfl hb ?_
    refine JX.exit ?_
    refine JE.qb rfl ?_
    obtain ⟨b1, hb1⟩ : ∃ b : List Int, b = x12 := ⟨_, rfl⟩
    have hy1 : b1 = y1 := by rw [hb1]; exact hox1 _ (Option.some.inj hres).symm
    have hres := hresO1
    rw [← hy1] at hres
    have l15 : b1.length = x7.length := by subst hb1; exact l13
    refine JE.weak (env' := [(1, ptrAt (some ⟨g1, 0, none⟩) 0), (4, .slice a3 0 0), (5, .slice a8 x7.length x7.length)]) (es' := [boxO 39 g1 [.int .i64 q0.W, .int .i64 q0.H, .slice a_0_2 q0.Breaks.length c_0_2], rowT 117 eHd a3 0 0 ([] : List Hd), innO 120 eSWalker none ([] : List Hd) ([] : List (List SWalker)), rowT 2 eI64 a8 x7.length x7.length b1]) [0, 1, 2, 3] ?_ ⟨(by subst hb1; rfl), (by subst hb1; rfl), (by subst hb1; rfl), trivial⟩ (by decide) (by subst hb1; rfl)
    refine JE.code ?_
    refine JX.seq ?_
    refine JX.seq ?_
    refine JX.region ?_
    refine JL.val (yl_loadn Go.Proofs.Try.underlying39 rfl i39 rfl (fun w hC => rd_box hC 0 rfl) rfl (i39s).symm i39p) rfl ?_
    obtain ⟨x16, hx16, hres⟩ := bind_some hres
    refine JL.eff (ef_call (vs := [.agg #[.int .i64 q0.W, .int .i64 q0.H, .slice a_0_2 q0.Breaks.length c_0_2]]) (T := T157 x16) Go.Proofs.Try.func157 rfl (by kernel_rfl) rfl (fun w hC => c157 (q0 := q0) (rd_arg g_0_2 hC) rfl k_0_2 hx16)) rfl ?_
    rintro _ _ ⟨_, ⟨rfl, rfl⟩, rfl⟩
    refine JL.val (yl_move rfl) rfl ?_
    refine JL.nil ?_
    refine JE.code ?_
    refine JX.block ?_
    obtain ⟨y2, hy2, hresO2⟩ := bind_some hres
    refine JX.loop (I := fun (s2 : Int × List (List SWalker) × List Int) aa ww => ∃ (a17 : Option Addr) (cp18 : Nat) (hs19 : List Hd) (hi20 : Inn hs19 s2.2.1) (l21 : s2.2.2.length = x7.length), St w [] 69 [(1, ptrAt (some ⟨g1, 0, none⟩) 0), (4, .slice a17 s2.2.1.length cp18), (5, .slice a8 x7.length x7.length), (24, .int .i64 x16), (25, .int .i64 s2.1)] [boxO 39 g1 [.int .i64 q0.W, .int .i64 q0.H, .slice a_0_2 q0.Breaks.length c_0_2], rowT 117 eHd a17 s2.2.1.length cp18 hs19, innO 120 eSWalker none hs19 s2.2.1, rowT 2 eI64 a8 x7.length x7.length s2.2.2] aa ww) (sh104_2 q0 x16) hy2 (fun a w h => ⟨a3, 0, ([] : List Hd), (Inn.nil (T := SWalker)), l15, h.weak ⟨rfl, rfl, rfl, rfl, rfl, trivial⟩ [0, 1, 2, 3] (by decide) rfl⟩) ?_
    rintro ⟨x22, x23, x24⟩ o2 hres hox2 aa ww ⟨a25, cp26, hs27, hi28, l29, hS⟩
    refine (?_ : JX Go.Proofs.Try.prog w [] 69 _ _ [(1, ptrAt (some ⟨g1, 0, none⟩) 0), (4, .slice a25 x23.length cp26), (5, .slice a8 x7.length x7.length), (24, .int .i64 x16), (25, .int .i64 x22)] [boxO 39 g1 [.int .i64 q0.W, .int .i64 q0.H, .slice a_0_2 q0.Breaks.length c_0_2], rowT 117 eHd a25 x23.length cp26 hs27, innO 120 eSWalker none hs27 x23, rowT 2 eI64 a8 x7.length x7.length x24] _) aa ww hS
    clear hS
    simp only [sh104_2] at hres
    refine JX.seq ?_
    refine JX.region ?_
    refine JL.val (yl_lss rfl rfl) rfl ?_
    refine JL.nil ?_
    refine JE.code ?_
    refine JX.seq ?_
    rcases cond_some hres with ⟨hb, hres⟩ | ⟨hb, hres⟩
    · refine JX.condT rfl hb ?_
      refine JX.skip ?_
      refine JE.code ?_
      refine JX.seq ?_
      refine JX.block ?_
      refine JX.seq ?_
      refine JX.region ?_
      refine JL.val (yl_move rfl) rfl ?_
      refine JL.val (yl_assign rfl) rfl ?_
      refine JL.nil ?_
      refine JE.code ?_
      refine JX.seq ?_
      refine JX.seq ?_
      refine JX.region ?_
      refine JL.val (yl_move rfl) rfl ?_
      refine JL.val (yl_move rfl) rfl ?_
      obtain ⟨x30, hx30, hres⟩ := bind_some hres
      refine JL.val (yl_idxT Go.Proofs.Try.underlying33 i2 i2s rfl rfl hx30 l29 (fun w hC => rd_row hC 3 rfl)) rfl ?_
      refine JL.val (yl_loadT0 Go.Proofs.Try.underlying2 rfl rfl hx30 (fun w hC => rd_row hC 3 rfl) rfl) rfl ?_
      refine JL.val (yl_geq rfl rfl) rfl ?_
      refine JL.nil ?_
      refine JE.weak (env' := [(1, ptrAt (some ⟨g1, 0, none⟩) 0), (4, .slice a25 x23.length cp26), (5, .slice a8 x7.length x7.length), (7, .int .i64 x22), (24, .int .i64 x16), (25, .int .i64 x22), (32, .bool (decide (0 ≤ x30)))]) (es' := [boxO 39 g1 [.int .i64 q0.W, .int .i64 q0.H, .slice a_0_2 q0.Breaks.length c_0_2], rowT 117 eHd a25 x23.length cp26 hs27, innO 120 eSWalker none hs27 x23, rowT 2 eI64 a8 x7.length x7.length x24]) [0, 1, 2, 3] ?_ ⟨rfl, rfl, rfl, rfl, rfl, rfl, rfl, trivial⟩ (by decide) rfl
      refine JE.code ?_
      rcases cond_some hres with ⟨hb, hres⟩ | ⟨hb, hres⟩
      · refine JX.condT rfl hb ?_
        refine JX.exit ?_
        refine JE.qb rfl ?_
        refine JE.code ?_
        refine JX.region ?_
        refine JL.val (yl_add rfl rfl) rfl ?_
        refine JL.val (yl_move rfl) rfl ?_
        refine JL.nil ?_
        refine JE.cont hres ?_
        exact fun a w h => ⟨a25, cp26, hs27, hi28, l29, h.weak ⟨rfl, (by first | rfl | (simp only [List.length_set, l29]; rfl) | simp only [List.length_set, l29]), rfl, rfl, rfl, trivial⟩ [0, 1, 2, 3] (by decide) (by first | rfl | (simp only [List.length_set, l29]; rfl) | simp only [List.length_set, l29])⟩
      · refine JX.condF rfl hb ?_
        refine JX.skip ?_
        refine JE.code ?_
        refine JX.seq ?_
        refine JX.region ?_
        refine JL.eff (ef_buildSlice (E := 120) (k := eSWalker.k) (us := eSWalker.fl ([] : List SWalker)) rfl (fun w => bsl117_0  w) rfl (by decide)) rfl ?_
        rintro _ _ ⟨a31, rfl, rfl⟩
        refine JL.val (yl_assign rfl) rfl ?_
        refine JL.nil ?_
        refine JE.code ?_
        refine JX.seq ?_
        refine JX.seq ?_
        refine JX.region ?_
        refine JL.val (yl_loadn Go.Proofs.Try.underlying39 rfl i39 rfl (fun w hC => rd_box hC 0 rfl) rfl (i39s).symm i39p) rfl ?_
        refine JL.val (yl_move rfl) rfl ?_
        obtain ⟨x33, hx33, hres⟩ := bind_some hres
        refine JL.eff (ef_call (vs := [.agg #[.int .i64 q0.W, .int .i64 q0.H, .slice a_0_2 q0.Breaks.length c_0_2], .int .i64 x22]) (T := T158 x33) Go.Proofs.Try.func158 rfl (by kernel_rfl) rfl (fun w hC => c158 (q0 := q0) (rd_arg g_0_2 hC) rfl k_0_2 hx33)) rfl ?_
        rintro _ _ ⟨_, ⟨rfl, rfl⟩, rfl⟩
        refine JL.eff (ef_alloc i120 i120z rfl) rfl ?_
        rintro _ _ ⟨g34, rfl, rfl⟩
        refine JL.eff (ef_store_box (i := 5) (v := .agg #[.int .i64 x33.At.X, .int .i64 x33.At.Y, .int .i64 x33.DX, .int .i64 x33.DY]) i120 rfl rfl rfl (i120s).symm (Nat.le_of_ble_eq_true rfl) (by simp [Value.cells, Value.oneCell'])) rfl ?_
        rintro _ _ rfl
        refine JL.nil ?_
        refine JE.weak (env' := [(1, ptrAt (some ⟨g1, 0, none⟩) 0), (4, .slice a25 x23.length cp26), (5, .slice a8 x7.length x7.length), (8, .slice a31 0 0), (9, ptrAt (some ⟨g34, 0, none⟩) 0), (24, .int .i64 x16), (25, .int .i64 x22)]) (es' := [boxO 39 g1 [.int .i64 q0.W, .int .i64 q0.H, .slice a_0_2 q0.Breaks.length c_0_2], rowT 117 eHd a25 x23.length cp26 hs27, innO 120 eSWalker none hs27 x23, rowT 2 eI64 a8 x7.length x7.length x24, rowT 120 eSWalker a31 0 0 ([] : List SWalker), boxO 120 g34 [.int .i64 x33.At.X, .int .i64 x33.At.Y, .int .i64 x33.DX, .int .i64 x33.DY]]) [0, 1, 2, 3, 4, 5] ?_ ⟨rfl, rfl, rfl, rfl, rfl, rfl, rfl, trivial⟩ (by decide) rfl
        refine JE.code ?_
        refine JX.block ?_
        obtain ⟨y3, hy3, hresO3⟩ := bind_some hres
        refine JX.loop (I := fun (s3 : List Int × List SWalker × SWalker) aa ww => ∃ (l36 : s3.1.length = x7.length) (a37 : Option Addr) (cp38 : Nat) (g39 : Nat), St w [] 69 [(1, ptrAt (some ⟨g1, 0, none⟩) 0), (4, .slice a25 x23.length cp26), (5, .slice a8 x7.length x7.length), (8, .slice a37 s3.2.1.length cp38), (9, ptrAt (some ⟨g39, 0, none⟩) 0), (24, .int .i64 x16), (25, .int .i64 x22)] [boxO 39 g1 [.int .i64 q0.W, .int .i64 q0.H, .slice a_0_2 q0.Breaks.length c_0_2], rowT 117 eHd a25 x23.length cp26 hs27, innO 120 eSWalker none hs27 x23, rowT 2 eI64 a8 x7.length x7.length s3.1, rowT 120 eSWalker a37 s3.2.1.length cp38 s3.2.1, boxO 120 g39 [.int .i64 s3.2.2.At.X, .int .i64 s3.2.2.At.Y, .int .i64 s3.2.2.DX, .int .i64 s3.2.2.DY]] aa ww) (sh104_3 q0 x23) hy3 (fun a w h => ⟨l29, a31, 0, g34, h.weak ⟨rfl, rfl, rfl, rfl, rfl, rfl, rfl, trivial⟩ [0, 1, 2, 3, 4, 5] (by decide) rfl⟩) ?_
        rintro ⟨x40, x41, x42⟩ o3 hres hox3 aa ww ⟨l43, a44, cp45, g46, hS⟩
        refine (?_ : JX Go.Proofs.Try.prog w [] 69 _ _ [(1, ptrAt (some ⟨g1, 0, none⟩) 0), (4, .slice a25 x23.length cp26), (5, .slice a8 x7.length x7.length), (8, .slice a44 x41.length cp45), (9, ptrAt (some ⟨g46, 0, none⟩) 0), (24, .int .i64 x16), (25, .int .i64 x22)] [boxO 39 g1 [.int .i64 q0.W, .int .i64 q0.H, .slice a_0_2 q0.Breaks.length c_0_2], rowT 117 eHd a25 x23.length cp26 hs27, innO 120 eSWalker none hs27 x23, rowT 2 eI64 a8 x7.length x7.length x40, rowT 120 eSWalker a44 x41.length cp45 x41, boxO 120 g46 [.int .i64 x42.At.X, .int .i64 x42.At.Y, .int .i64 x42.DX, .int .i64 x42.DY]] _) aa ww hS
        clear hS
        simp only [sh104_3] at hres
        refine JX.seq ?_
        refine JX.seq ?_
        refine JX.region ?_
        refine JL.val (yl_move rfl) rfl ?_
        refine JL.val (yl_loadn Go.Proofs.Try.underlying39 rfl i39 rfl (fun w hC => rd_box hC 0 rfl) rfl (i39s).symm i39p) rfl ?_
        refine JL.val (yl_loadn Go.Proofs.Try.underlying120 rfl i120 rfl (fun w hC => rd_box hC 5 rfl) rfl (i120s).symm i120p) rfl ?_
        obtain ⟨x47, hx47, hres⟩ := bind_some hres
        refine JL.eff (ef_call (vs := [.agg #[.int .i64 q0.W, .int .i64 q0.H, .slice a_0_2 q0.Breaks.length c_0_2], .agg #[.int .i64 x42.At.X, .int .i64 x42.At.Y, .int .i64 x42.DX, .int .i64 x42.DY]]) (T := T159 x47) Go.Proofs.Try.func159 rfl (by kernel_rfl) rfl (fun w hC => c159 (q0 := q0) (q1 := x42) (rd_arg g_0_2 hC) rfl k_0_2 hx47)) rfl ?_
        rintro _ _ ⟨_, ⟨rfl, rfl⟩, rfl⟩
        obtain ⟨x48, hx48, hres⟩ := bind_some hres
        refine JL.val (yl_idxT Go.Proofs.Try.underlying33 i2 i2s rfl rfl hx48 l43 (fun w hC => rd_row hC 3 rfl)) rfl ?_
        refine JL.val (yl_loadT0 Go.Proofs.Try.underlying2 rfl rfl hx48 (fun w hC => rd_row hC 3 rfl) rfl) rfl ?_
        refine JL.val (yl_lss rfl rfl) rfl ?_
        refine JL.nil ?_
        refine JE.weak (env' := [(1, ptrAt (some ⟨g1, 0, none⟩) 0), (4, .slice a25 x23.length cp26), (5, .slice a8 x7.length x7.length), (8, .slice a44 x41.length cp45), (9, ptrAt (some ⟨g46, 0, none⟩) 0), (24, .int .i64 x16), (25, .int .i64 x22), (43, .bool (decide (x48 < 0)))]) (es' := [boxO 39 g1 [.int .i64 q0.W, .int .i64 q0.H, .slice a_0_2 q0.Breaks.length c_0_2], rowT 117 eHd a25 x23.length cp26 hs27, innO 120 eSWalker none hs27 x23, rowT 2 eI64 a8 x7.length x7.length x40, rowT 120 eSWalker a44 x41.length cp45 x41, boxO 120 g46 [.int .i64 x42.At.X, .int .i64 x42.At.Y, .int .i64 x42.DX, .int .i64 x42.DY]]) [0, 1, 2, 3, 4, 5] ?_ ⟨rfl, rfl, rfl, rfl, rfl, rfl, rfl, rfl, trivial⟩ (by decide) rfl
        refine JE.code ?_
        rcases cond_some hres with ⟨hb, hres⟩ | ⟨hb, hres⟩
        · refine JX.condT rfl hb ?_
          refine JX.skip ?_
          refine JE.code ?_
          refine JX.seq ?_
          refine JX.block ?_
          refine JX.seq ?_
          refine JX.region ?_
          refine JL.val (yl_move rfl) rfl ?_
          refine JL.val (yl_loadn Go.Proofs.Try.underlying39 rfl i39 rfl (fun w hC => rd_box hC 0 rfl) rfl (i39s).symm i39p) rfl ?_
          refine JL.val (yl_loadn Go.Proofs.Try.underlying120 rfl i120 rfl (fun w hC => rd_box hC 5 rfl) rfl (i120s).symm i120p) rfl ?_
          obtain ⟨x49, hx49, hres⟩ := bind_some hres
          refine JL.eff (ef_call (vs := [.agg #[.int .i64 q0.W, .int .i64 q0.H, .slice a_0_2 q0.Breaks.length c_0_2], .agg #[.int .i64 x42.At.X, .int .i64 x42.At.Y, .int .i64 x42.DX, .int .i64 x42.DY]]) (T := T159 x49) Go.Proofs.Try.func159 rfl (by kernel_rfl) rfl (fun w hC => c159 (q0 := q0) (q1 := x42) (rd_arg g_0_2 hC) rfl k_0_2 hx49)) rfl ?_
          rintro _ _ ⟨_, ⟨rfl, rfl⟩, rfl⟩
          refine JL.val (yl_move rfl) rfl ?_
          refine JL.val (yl_len_slice Go.Proofs.Try.underlying113 rfl) rfl ?_
          obtain ⟨x50, hx50, hres⟩ := bind_some hres
          refine JL.val (yl_idxT Go.Proofs.Try.underlying33 i2 i2s rfl rfl hx50 l43 (fun w hC => rd_row hC 3 rfl)) rfl ?_
          refine JL.eff (ef_storeT (ix := 3) (u := ((x23.length : Nat) : Int)) i2 i2s rfl rfl rfl hx50 rfl) rfl ?_
          rintro _ _ rfl
          refine JL.nil ?_
          refine JE.weak (env' := [(1, ptrAt (some ⟨g1, 0, none⟩) 0), (4, .slice a25 x23.length cp26), (5, .slice a8 x7.length x7.length), (8, .slice a44 x41.length cp45), (9, ptrAt (some ⟨g46, 0, none⟩) 0), (24, .int .i64 x16), (25, .int .i64 x22)]) (es' := [boxO 39 g1 [.int .i64 q0.W, .int .i64 q0.H, .slice a_0_2 q0.Breaks.length c_0_2], rowT 117 eHd a25 x23.length cp26 hs27, innO 120 eSWalker none hs27 x23, rowT 2 eI64 a8 x7.length x7.length (x40.set (x49).toNat ((x23.length : Nat) : Int)), rowT 120 eSWalker a44 x41.length cp45 x41, boxO 120 g46 [.int .i64 x42.At.X, .int .i64 x42.At.Y, .int .i64 x42.DX, .int .i64 x42.DY]]) [0, 1, 2, 3, 4, 5] ?_ ⟨rfl, rfl, rfl, rfl, rfl, rfl, rfl, trivial⟩ (by decide) rfl
          refine JE.code ?_
          refine JX.region ?_
          refine JL.val (yl_move rfl) rfl ?_
          refine JL.val (yl_loadn Go.Proofs.Try.underlying120 rfl i120 rfl (fun w hC => rd_box hC 5 rfl) rfl (i120s).symm i120p) rfl ?_
          refine JL.eff (ef_buildSlice (E := 120) (k := eSWalker.k) (us := eSWalker.fl [x42]) rfl (fun w => bsl117_1 x42.At.X x42.At.Y x42.DX x42.DY w) rfl (by decide)) rfl ?_
          rintro _ _ ⟨a51, rfl, rfl⟩
          obtain ⟨x53, hx53, hres⟩ := bind_some hres
          refine JL.eff (ef_appendT (ix := 4) Go.Proofs.Try.underlying117 i120 i120z i120s rfl i120b0 i120b1 rfl rfl rfl rfl rfl (fun w hC => rd_row hC 6 rfl) hx53) rfl ?_
          rintro _ _ ⟨a54, cp55, rfl, rfl⟩
          refine JL.val (yl_assign rfl) rfl ?_
          refine JL.nil ?_
          refine JE.weak (env' := [(1, ptrAt (some ⟨g1, 0, none⟩) 0), (4, .slice a25 x23.length cp26), (5, .slice a8 x7.length x7.length), (8, .slice a54 x53.length cp55), (9, ptrAt (some ⟨g46, 0, none⟩) 0), (24, .int .i64 x16), (25, .int .i64 x22)]) (es' := [boxO 39 g1 [.int .i64 q0.W, .int .i64 q0.H, .slice a_0_2 q0.Breaks.length c_0_2], rowT 117 eHd a25 x23.length cp26 hs27, innO 120 eSWalker none hs27 x23, rowT 2 eI64 a8 x7.length x7.length (x40.set (x49).toNat ((x23.length : Nat) : Int)), rowT 120 eSWalker a54 x53.length cp55 x53, boxO 120 g46 [.int .i64 x42.At.X, .int .i64 x42.At.Y, .int .i64 x42.DX, .int .i64 x42.DY]]) [0, 1, 2, 3, 4, 5] ?_ ⟨rfl, rfl, rfl, rfl, rfl, rfl, rfl, trivial⟩ (by decide) rfl
          refine JE.code ?_
          refine JX.seq ?_
          refine JX.seq ?_
          refine JX.region ?_
          refine JL.val (yl_loadn Go.Proofs.Try.underlying120 rfl i120 rfl (fun w hC => rd_box hC 5 rfl) rfl (i120s).symm i120p) rfl ?_
          refine JL.nil ?_
          refine JE.weak (env' := [(1, ptrAt (some ⟨g1, 0, none⟩) 0), (4, .slice a25 x23.length cp26), (5, .slice a8 x7.length x7.length), (8, .slice a54 x53.length cp55), (24, .int .i64 x16), (25, .int .i64 x22), (61, .agg #[.int .i64 x42.At.X, .int .i64 x42.At.Y, .int .i64 x42.DX, .int .i64 x42.DY])]) (es' := [boxO 39 g1 [.int .i64 q0.W, .int .i64 q0.H, .slice a_0_2 q0.Breaks.length c_0_2], rowT 117 eHd a25 x23.length cp26 hs27, innO 120 eSWalker none hs27 x23, rowT 2 eI64 a8 x7.length x7.length (x40.set (x49).toNat ((x23.length : Nat) : Int)), rowT 120 eSWalker a54 x53.length cp55 x53]) [0, 1, 2, 3, 4] ?_ ⟨rfl, rfl, rfl, rfl, rfl, rfl, rfl, trivial⟩ (by decide) rfl
          refine JE.code ?_
          refine JX.region ?_
          refine JL.eff (ef_alloc i120 i120z rfl) rfl ?_
          rintro _ _ ⟨g56, rfl, rfl⟩
          refine JL.eff (ef_store_box (i := 5) (v := .agg #[.int .i64 x42.At.X, .int .i64 x42.At.Y, .int .i64 x42.DX, .int .i64 x42.DY]) i120 rfl rfl rfl (i120s).symm (Nat.le_of_ble_eq_true rfl) (by simp [Value.cells, Value.oneCell'])) rfl ?_
          rintro _ _ rfl
          refine JL.nil ?_
          refine JE.code ?_
          refine JX.region ?_
          refine JL.val (yl_loadn Go.Proofs.Try.underlying39 rfl i39 rfl (fun w hC => rd_box hC 0 rfl) rfl (i39s).symm i39p) rfl ?_
          refine JL.val (yl_loadn Go.Proofs.Try.underlying120 rfl i120 rfl (fun w hC => rd_box hC 5 rfl) rfl (i120s).symm i120p) rfl ?_
          obtain ⟨x58, hx58, hres⟩ := bind_some hres
          refine JL.eff (ef_call (vs := [.agg #[.int .i64 q0.W, .int .i64 q0.H, .slice a_0_2 q0.Breaks.length c_0_2], .agg #[.int .i64 x42.At.X, .int .i64 x42.At.Y, .int .i64 x42.DX, .int .i64 x42.DY]]) (T := T160 x58) Go.Proofs.Try.func160 rfl (by kernel_rfl) rfl (fun w hC => c160 (q0 := q0) (q1 := x42) (rd_arg g_0_2 hC) rfl k_0_2 hx58)) rfl ?_
          rintro _ _ ⟨_, ⟨rfl, rfl⟩, rfl⟩
          refine JL.val (yl_move rfl) rfl ?_
          refine JL.val (yl_extract rfl rfl) rfl ?_
          refine JL.val (yl_extract rfl rfl) rfl ?_
          refine JL.eff (ef_store_box (i := 5) (v := .agg #[.int .i64 x58.1.At.X, .int .i64 x58.1.At.Y, .int .i64 x58.1.DX, .int .i64 x58.1.DY]) i120 rfl rfl rfl (i120s).symm (Nat.le_of_ble_eq_true rfl) (by simp [Value.cells, Value.oneCell'])) rfl ?_
          rintro _ _ rfl
          refine JL.nil ?_
          refine JE.weak (env' := [(1, ptrAt (some ⟨g1, 0, none⟩) 0), (4, .slice a25 x23.length cp26), (5, .slice a8 x7.length x7.length), (8, .slice a54 x53.length cp55), (9, ptrAt (some ⟨g56, 0, none⟩) 0), (24, .int .i64 x16), (25, .int .i64 x22)]) (es' := [boxO 39 g1 [.int .i64 q0.W, .int .i64 q0.H, .slice a_0_2 q0.Breaks.length c_0_2], rowT 117 eHd a25 x23.length cp26 hs27, innO 120 eSWalker none hs27 x23, rowT 2 eI64 a8 x7.length x7.length (x40.set (x49).toNat ((x23.length : Nat) : Int)), rowT 120 eSWalker a54 x53.length cp55 x53, boxO 120 g56 [.int .i64 x58.1.At.X, .int .i64 x58.1.At.Y, .int .i64 x58.1.DX, .int .i64 x58.1.DY]]) [0, 1, 2, 3, 4, 5] ?_ ⟨rfl, rfl, rfl, rfl, rfl, rfl, rfl, trivial⟩ (by decide) rfl
          refine JE.cont hres ?_
          exact fun a w h => ⟨(List.length_set.trans l43), a54, cp55, g56, h.weak ⟨rfl, rfl, rfl, rfl, rfl, rfl, rfl, trivial⟩ [0, 1, 2, 3, 4, 5] (by decide) rfl⟩
        · refine JX.condF rfl hb ?_
          refine JX.exit ?_
          refine JE.qb rfl ?_
          obtain ⟨b3, hb3⟩ : ∃ b : List Int × List SWalker, b = (x40, x41) := ⟨_, rfl⟩
          have hy3 : b3 = y3 := by rw [hb3]; exact hox3 _ (Option.some.inj hres).symm
          have hres := hresO3
          rw [← hy3] at hres
          have l59 : b3.1.length = x7.length := by subst hb3; exact l43
          refine JE.weak (env' := [(1, ptrAt (some ⟨g1, 0, none⟩) 0), (4, .slice a25 x23.length cp26), (5, .slice a8 x7.length x7.length), (8, .slice a44 b3.2.length cp45), (24, .int .i64 x16), (25, .int .i64 x22)]) (es' := [boxO 39 g1 [.int .i64 q0.W, .int .i64 q0.H, .slice a_0_2 q0.Breaks.length c_0_2], rowT 117 eHd a25 x23.length cp26 hs27, innO 120 eSWalker none hs27 x23, rowT 2 eI64 a8 x7.length x7.length b3.1, rowT 120 eSWalker a44 b3.2.length cp45 b3.2]) [0, 1, 2, 3, 4] ?_ ⟨(by subst hb3; rfl), (by subst hb3; rfl), (by subst hb3; rfl), (by subst hb3; rfl), (by subst hb3; rfl), (by subst hb3; rfl), trivial⟩ (by decide) (by subst hb3; rfl)
          refine JE.code ?_
          refine JX.region ?_
          refine JL.val (yl_move rfl) rfl ?_
          refine JL.val (yl_move rfl) rfl ?_
          refine JL.eff (ef_buildSlice (E := 117) (k := eHd.k) (us := eHd.fl [⟨a44, b3.2.length, cp45⟩]) rfl (fun w => bsl113_1 a44 b3.2.length cp45 w) rfl (by decide)) rfl ?_
          rintro _ _ ⟨a62, rfl, rfl⟩
          obtain ⟨x64, hx64, hres⟩ := bind_some hres
          refine JL.eff (ef_appendH (ix := 1) Go.Proofs.Try.underlying113 i117 i117z i117s rfl i117b0 i117b1 rfl rfl (Inn.len hi28) rfl rfl (fun w hC => rd_row hC 5 rfl) hx64 hi28) rfl ?_
          rintro _ _ ⟨a65, cp66, rfl, rfl⟩
          refine JL.absorb (es' := [boxO 39 g1 [.int .i64 q0.W, .int .i64 q0.H, .slice a_0_2 q0.Breaks.length c_0_2], rowT 117 eHd a65 x64.length cp66 (hs27 ++ [⟨a44, b3.2.length, cp45⟩]), rowT 2 eI64 a8 x7.length x7.length b3.1, rowT 117 eHd a62 1 1 [⟨a44, b3.2.length, cp45⟩]]) [0, 1, 3, 5, 2, 4] (by decide) rfl (appL_some hx64).2 ?_
          refine JL.val (yl_assign rfl) rfl ?_
          refine JL.nil ?_
          refine JE.weak (env' := [(1, ptrAt (some ⟨g1, 0, none⟩) 0), (4, .slice a65 x64.length cp66), (5, .slice a8 x7.length x7.length), (24, .int .i64 x16), (25, .int .i64 x22)]) (es' := [boxO 39 g1 [.int .i64 q0.W, .int .i64 q0.H, .slice a_0_2 q0.Breaks.length c_0_2], rowT 117 eHd a65 x64.length cp66 (hs27 ++ [⟨a44, b3.2.length, cp45⟩]), innO 120 eSWalker none (hs27 ++ [⟨a44, b3.2.length, cp45⟩]) x64, rowT 2 eI64 a8 x7.length x7.length b3.1]) [0, 1, 4, 2] ?_ ⟨rfl, rfl, rfl, rfl, rfl, trivial⟩ (by decide) rfl
          refine JE.code ?_
          refine JX.region ?_
          refine JL.val (yl_add rfl rfl) rfl ?_
          refine JL.val (yl_move rfl) rfl ?_
          refine JL.nil ?_
          refine JE.cont hres ?_
          exact fun a w h => ⟨a65, cp66, hs27 ++ [⟨a44, b3.2.length, cp45⟩], (Inn.appZ hi28 rfl (appL_some hx64).2), l59, h.weak ⟨rfl, (by first | rfl | (simp only [List.length_set, l59]; rfl) | simp only [List.length_set, l59]), rfl, rfl, rfl, trivial⟩ [0, 1, 2, 3] (by decide) (by first | rfl | (simp only [List.length_set, l59]; rfl) | simp only [List.length_set, l59])⟩
    · refine JX.condF rfl hb ?_
      refine JX.exit ?_
      refine JE.qb rfl ?_
      obtain ⟨b2, hb2⟩ : ∃ b : List (List SWalker) × List Int, b = (x23, x24) := ⟨_, rfl⟩
      have hy2 : b2 = y2 := by rw [hb2]; exact hox2 _ (Option.some.inj hres).symm
      have hres := hresO2
      rw [← hy2] at hres
      have hi70 : Inn hs27 b2.1 := by subst hb2; exact hi28
      have l71 : b2.2.length = x7.length := by subst hb2; exact l29
      refine JE.weak (env' := [(4, .slice a25 b2.1.length cp26), (5, .slice a8 x7.length x7.length)]) (es' := [rowT 117 eHd a25 b2.1.length cp26 hs27, innO 120 eSWalker none hs27 b2.1, rowT 2 eI64 a8 x7.length x7.length b2.2]) [1, 2, 3] ?_ ⟨(by subst hb2; first | rfl | (simp only [List.length_set, l29]; rfl) | simp only [List.length_set, l29]), (by subst hb2; rfl), trivial⟩ (by decide) (by subst hb2; first | rfl | (simp only [List.length_set, l29]; rfl) | simp only [List.length_set, l29])
      refine JE.code ?_
      refine JX.seq ?_
      refine JX.region ?_
      refine JL.val (yl_move rfl) rfl ?_
      refine JL.val (yl_move rfl) rfl ?_
      refine JL.val (yl_assign rfl) rfl ?_
      refine JL.val (yl_assign rfl) rfl ?_
      refine JL.nil ?_
      refine JE.weak (env' := [(2, .slice a25 b2.1.length cp26), (3, .slice a8 x7.length x7.length)]) (es' := [rowT 117 eHd a25 b2.1.length cp26 hs27, innO 120 eSWalker none hs27 b2.1, rowT 2 eI64 a8 x7.length x7.length b2.2]) [0, 1, 2] ?_ ⟨rfl, rfl, trivial⟩ (by decide) rfl
      refine JE.code ?_
      refine JX.ret ?_
      obtain rfl := Option.some.inj hres
      refine JE.ret (rs := [.tmp 2, .tmp 3]) (vs := [.slice a25 b2.1.length cp26, .slice a8 x7.length x7.length]) rfl ⟨rfl, rfl, trivial⟩ ?_
      exact fun w' hb hs => ⟨_, _, ⟨a25, b2.1.length, cp26, hs27, rfl, hi70, a8, x7.length, x7.length, l71, rfl, rfl⟩, rfl, hb, hs.sel [0, 1, 2] _ (by decide) rfl⟩

/- impl.distance -/
def sh155 (q0 : Int) (q1 : Int) : Option (Int) := some (if (w64 (q0 - q1)) < (w64 (q1 - q0)) then (w64 (q1 - q0)) else (w64 (q0 - q1)))
def T155 (r : Int) (v : Value) (rs : List Own) : Prop := v = rets [.int .i64 r] ∧ rs = []
set_option maxRecDepth 100000 in
theorem c155 {w : World} {q0 : Int} {q1 : Int} {r : Int} (hres : sh155 q0 q1 = some r) : Calls Go.Proofs.Try.prog 155 [.int .i64 q0, .int .i64 q1].toArray w (Ret w (T155 r)) := by
  unfold sh155 at hres
  refine calls_of (n := 12) (M := []) (es := []) Go.Proofs.Try.func155 rfl rfl rfl (Sep.nil _ _ _) ?_
  refine JX.seq ?_
  refine JX.region ?_
  refine JL.val (yl_assign rfl) rfl ?_
  refine JL.nil ?_
  refine JE.code ?_
  refine JX.seq ?_
  refine JX.region ?_
  refine JL.val (yl_move rfl) rfl ?_
  refine JL.val (yl_move rfl) rfl ?_
  refine JL.val (yl_sub rfl rfl) rfl ?_
  refine JL.val (yl_move rfl) rfl ?_
  refine JL.val (yl_move rfl) rfl ?_
  refine JL.val (yl_sub rfl rfl) rfl ?_
  refine JL.val (yl_max rfl rfl) rfl ?_
  refine JL.val (yl_assign rfl) rfl ?_
  refine JL.nil ?_
  refine JE.weak (env' := [(4, .int .i64 (if (w64 (q0 - q1)) < (w64 (q1 - q0)) then (w64 (q1 - q0)) else (w64 (q0 - q1))))]) (es' := []) [] ?_ ⟨rfl, trivial⟩ (by decide) rfl
  refine JE.code ?_
  refine JX.ret ?_
  obtain rfl := Option.some.inj hres
  refine JE.ret (rs := [.tmp 4]) (vs := [.int .i64 (if (w64 (q0 - q1)) < (w64 (q1 - q0)) then (w64 (q1 - q0)) else (w64 (q0 - q1)))]) rfl ⟨rfl, trivial⟩ ?_
  exact fun w' hb hs => ⟨_, _, ⟨rfl, rfl⟩, rfl, hb, hs.sel [] _ (by decide) rfl⟩

/- (impl.Panel).carveOrder -/
def sh100_2 (x3 : List (List SWalker) × List Int) (x1820 : List Bool) (x1819 : SPoint) : (Int × Int × Int) → Option ((Int × Int × Int) ⊕ (Int))
  | (x1824, x1825, x1826) => bif decide (x1826 < ((x3.1.length : Nat) : Int)) then (Option.bind (getI x3.1 x1826) fun x1827 => Option.bind (getI x1827 0) fun x1831 => Option.bind (sh155 x1831.At.X x1819.X) fun x1835 => Option.bind (sh155 x1831.At.Y x1819.Y) fun x1836 => Option.bind (getI x1820 x1826) fun x1837 => Option.bind (bif !x1837 && ((decide (x1824 < 0)) || (decide ((w64 (x1835 + x1836)) < x1825))) then (some (x1826, w64 (x1835 + x1836))) else (some (x1824, x1825))) fun j1838 => (some (.inl (j1838.1, j1838.2, w64 (x1826 + 1))))) else (some (.inr x1824))
def sh100_1 (x3 : List (List SWalker) × List Int) : (Int × List Int × SPoint × List Bool) → Option ((Int × List Int × SPoint × List Bool) ⊕ (List Int))
  | (x1817, x1818, x1819, x1820) => bif decide (x1817 < ((x3.1.length : Nat) : Int)) then (Option.bind (iter (sh100_2 x3 x1820 x1819) ((-1), 0, 0)) fun b2 => (Option.bind (getI x1820 b2) fun x1839 => Option.bind (getI x3.1 b2) fun x1840 => Option.bind (getI x1840 0) fun x1844 => Option.bind (appL x1818 [b2]) fun x1847 => some (.inl (w64 (x1817 + 1), x1847, x1844.At, x1820.set (b2).toNat true)))) else (some (.inr x1818))
def sh100 (q0 : SPanel) : Option (List Int) := Option.bind (sh104 q0) fun x3 => Option.bind (mkL ((x3.1.length : Nat) : Int) false) fun x314 => Option.bind (iter (sh100_1 x3) (0, ([] : List Int), SPoint.mk 0 0, x314)) fun b1 => (some b1)
def T100 (r : List Int) (v : Value) (rs : List Own) : Prop := ∃ (a0 : Option Addr) (n0 c0 : Nat), r.length = n0 ∧ v = rets [.slice a0 n0 c0] ∧ rs = [rowT 2 eI64 a0 n0 c0 r]
set_option maxRecDepth 100000 in
set_option maxHeartbeats 1000000 in
theorem c100 {w : World} {q0 : SPanel} {a_0_2 : Option Addr} {n_0_2 c_0_2 : Nat} (g_0_2 : Rd w a_0_2 (eI64.fl q0.Breaks)) (l_0_2 : q0.Breaks.length = n_0_2) (k_0_2 : n_0_2 ≤ c_0_2) {r : List Int} (hres : sh100 q0 = some r) : Calls Go.Proofs.Try.prog 100 [.agg #[.int .i64 q0.W, .int .i64 q0.H, .slice a_0_2 n_0_2 c_0_2]].toArray w (Ret w (T100 r)) := by
  subst l_0_2
  unfold sh100 at hres
  refine calls_of (n := 83) (M := []) (es := []) Go.Proofs.Try.func100 rfl rfl rfl (Sep.nil _ _ _) ?_
  refine JX.seq ?_
  refine JX.region ?_
  refine JL.eff (ef_box rfl rfl) rfl ?_
  rintro _ _ ⟨g1, rfl, rfl⟩
  refine JL.val (yl_assign rfl) rfl ?_
  refine JL.nil ?_
  refine JE.code ?_
  refine JX.seq ?_
  refine JX.region ?_
  refine JL.val (yl_loadn Go.Proofs.Try.underlying39 rfl i39 rfl (fun w hC => rd_box hC 0 rfl) rfl (i39s).symm i39p) rfl ?_
  obtain ⟨x3, hx3, hres⟩ := bind_some hres
  refine JL.eff (ef_call (vs := [.agg #[.int .i64 q0.W, .int .i64 q0.H, .slice a_0_2 q0.Breaks.length c_0_2]]) (T := T104 x3) Go.Proofs.Try.func104 rfl (by kernel_rfl) rfl (fun w hC => c104 (q0 := q0) (rd_arg g_0_2 hC) rfl k_0_2 hx3)) rfl ?_
  rintro _ _ ⟨_, ⟨a4, _, cp5, hs7, rfl, hi8, a10, _, cp11, rfl, rfl, rfl⟩, rfl⟩
  refine JL.val (yl_move rfl) rfl ?_
  refine JL.val (yl_extract rfl rfl) rfl ?_
  refine JL.val (yl_extract rfl rfl) rfl ?_
  refine JL.val (yl_assign rfl) rfl ?_
  refine JL.val (yl_assign rfl) rfl ?_
  refine JL.nil ?_
  refine JE.weak (env' := [(3, .slice a4 x3.1.length cp5)]) (es' := [rowT 117 eHd a4 x3.1.length cp5 hs7, innO 120 eSWalker none hs7 x3.1]) [1, 2] ?_ ⟨rfl, trivial⟩ (by decide) rfl
  refine JE.code ?_
  refine JX.seq ?_
  refine JX.drawH [(1, .pure), (2, .pure), (3, .pure), (0, .tree (.alt 0 (.alt 4 (.alt 5 (.pure 6 (.alt 7 (.pure 8 .done) .nil)) .nil) (.alt 5 (.pure 6 (.alt 4 (.alt 7 (.pure 8 .done) .nil) (.alt 7 (.alt 4 (.pure 8 .done) .nil) .nil))) .nil)) (.alt 4 (.alt 0 (.alt 5 (.pure 6 (.alt 7 (.pure 8 .done) .nil)) .nil) (.alt 5 (.alt 0 (.pure 6 (.alt 7 (.pure 8 .done) .nil)) .nil) .nil)) (.alt 5 (.alt 0 (.pure 6 (.alt 4 (.alt 7 (.pure 8 .done) .nil) (.alt 7 (.alt 4 (.pure 8 .done) .nil) .nil))) (.alt 4 (.alt 0 (.pure 6 (.alt 7 (.pure 8 .done) .nil)) .nil) .nil)) .nil))))] [7] [] [0, 1] [] [rowT 117 eHd a4 x3.1.length cp5 hs7, innO 120 eSWalker none hs7 x3.1] mixedP (by kernel_rfl) (by kernel_rfl) (by decide) rfl rfl ?_
  intro wrr13 Nr13 hFr13
  refine JH.pure rfl (yl_build rfl (fun w => bld93_  w)) rfl ?_
  refine JH.pure rfl (yl_move rfl) rfl ?_
  refine JH.pure rfl (yl_len_slice Go.Proofs.Try.underlying113 rfl) rfl ?_
  obtain ⟨x314, hx314, hres⟩ := bind_some hres
  refine JH.cutS (K := fun J => ∀ (a14 : Option Addr) (a315 : Option Addr) (g614 : Nat), J [(3, .slice a4 x3.1.length cp5), (5, .slice a14 0 0), (6, ptrAt (some ⟨g614, 0, none⟩) 0), (7, .slice a315 x314.length x314.length)] [rowT 2 eI64 a14 0 0 ([] : List Int), rowT 4 eBool a315 x314.length x314.length x314, boxO 93 g614 [.int .i64 0, .int .i64 0]]) false 1 ?_ ?_
  · intro a14 a315 g614
    refine JH.nil ?_
    refine JE.weak (env' := [(3, .slice a4 x3.1.length cp5), (5, .slice a14 0 0), (6, ptrAt (some ⟨g614, 0, none⟩) 0), (7, .slice a315 x314.length x314.length)]) (es' := [rowT 117 eHd a4 x3.1.length cp5 hs7, innO 120 eSWalker none hs7 x3.1, rowT 2 eI64 a14 0 0 ([] : List Int), boxO 93 g614 [.int .i64 0, .int .i64 0], rowT 4 eBool a315 x314.length x314.length x314]) [0, 1, 2, 4, 3] ?_ ⟨rfl, rfl, rfl, rfl, trivial⟩ (by decide) rfl
    refine JE.code ?_
    refine JX.seq ?_
    refine JX.seq ?_
    refine JX.region ?_
    refine JL.val (yl_move rfl) rfl ?_
    refine JL.val (yl_len_slice Go.Proofs.Try.underlying113 rfl) rfl ?_
    refine JL.val (yl_move rfl) rfl ?_
    refine JL.nil ?_
    refine JE.code ?_
    refine JX.block ?_
    obtain ⟨y1, hy1, hresO1⟩ := bind_some hres
    refine JX.loop (I := fun (s1 : Int × List Int × SPoint × List Bool) aa ww => ∃ (a1814 : Option Addr) (cp1815 : Nat) (l1816 : s1.2.2.2.length = x314.length), St w [] 83 [(3, .slice a4 x3.1.length cp5), (5, .slice a1814 s1.2.1.length cp1815), (6, ptrAt (some ⟨g614, 0, none⟩) 0), (7, .slice a315 x314.length x314.length), (25, .int .i64 ((x3.1.length : Nat) : Int)), (26, .int .i64 s1.1)] [rowT 117 eHd a4 x3.1.length cp5 hs7, innO 120 eSWalker none hs7 x3.1, rowT 2 eI64 a1814 s1.2.1.length cp1815 s1.2.1, boxO 93 g614 [.int .i64 s1.2.2.1.X, .int .i64 s1.2.2.1.Y], rowT 4 eBool a315 x314.length x314.length s1.2.2.2] aa ww) (sh100_1 x3) hy1 (fun a w h => ⟨a14, 0, rfl, h.weak ⟨rfl, rfl, rfl, rfl, rfl, rfl, trivial⟩ [0, 1, 2, 3, 4] (by decide) rfl⟩) ?_
    rintro ⟨x1817, x1818, x1819, x1820⟩ o1 hres hox1 aa ww ⟨a1821, cp1822, l1823, hS⟩
    refine (?_ : JX Go.Proofs.Try.prog w [] 83 _ _ [(3, .slice a4 x3.1.length cp5), (5, .slice a1821 x1818.length cp1822), (6, ptrAt (some ⟨g614, 0, none⟩) 0), (7, .slice a315 x314.length x314.length), (25, .int .i64 ((x3.1.length : Nat) : Int)), (26, .int .i64 x1817)] [rowT 117 eHd a4 x3.1.length cp5 hs7, innO 120 eSWalker none hs7 x3.1, rowT 2 eI64 a1821 x1818.length cp1822 x1818, boxO 93 g614 [.int .i64 x1819.X, .int .i64 x1819.Y], rowT 4 eBool a315 x314.length x314.length x1820] _) aa ww hS
    clear hS
    simp only [sh100_1] at hres
    refine JX.seq ?_
    refine JX.region ?_
    refine JL.val (yl_lss rfl rfl) rfl ?_
    refine JL.nil ?_
    refine JE.code ?_
    refine JX.seq ?_
    rcases cond_some hres with ⟨hb, hres⟩ | ⟨hb, hres⟩
    · refine JX.condT rfl hb ?_
      refine JX.skip ?_
      refine JE.code ?_
      refine JX.seq ?_
      refine JX.block ?_
      refine JX.seq ?_
      refine JX.region ?_
      refine JL.val (yl_assign rfl) rfl ?_
      refine JL.val (yl_assign rfl) rfl ?_
      refine JL.nil ?_
      refine JE.code ?_
      refine JX.seq ?_
      refine JX.seq ?_
      refine JX.region ?_
      refine JL.val (yl_move rfl) rfl ?_
      refine JL.val (yl_len_slice Go.Proofs.Try.underlying113 rfl) rfl ?_
      refine JL.val (yl_move rfl) rfl ?_
      refine JL.nil ?_
      refine JE.code ?_
      refine JX.block ?_
      obtain ⟨y2, hy2, hresO2⟩ := bind_some hres
      refine JX.loop (I := fun (s2 : Int × Int × Int) aa ww => St w [] 83 [(3, .slice a4 x3.1.length cp5), (5, .slice a1821 x1818.length cp1822), (6, ptrAt (some ⟨g614, 0, none⟩) 0), (7, .slice a315 x314.length x314.length), (8, .int .i64 s2.1), (9, .int .i64 s2.2.1), (25, .int .i64 ((x3.1.length : Nat) : Int)), (26, .int .i64 x1817), (28, .slice a4 x3.1.length cp5), (29, .int .i64 ((x3.1.length : Nat) : Int)), (30, .int .i64 s2.2.2)] [rowT 117 eHd a4 x3.1.length cp5 hs7, innO 120 eSWalker none hs7 x3.1, rowT 2 eI64 a1821 x1818.length cp1822 x1818, boxO 93 g614 [.int .i64 x1819.X, .int .i64 x1819.Y], rowT 4 eBool a315 x314.length x314.length x1820] aa ww) (sh100_2 x3 x1820 x1819) hy2 (fun a w h => h.weak ⟨rfl, rfl, rfl, rfl, rfl, rfl, rfl, rfl, rfl, rfl, rfl, trivial⟩ [0, 1, 2, 3, 4] (by decide) rfl) ?_
      rintro ⟨x1824, x1825, x1826⟩ o2 hres hox2 aa ww hS
      refine (?_ : JX Go.Proofs.Try.prog w [] 83 _ _ [(3, .slice a4 x3.1.length cp5), (5, .slice a1821 x1818.length cp1822), (6, ptrAt (some ⟨g614, 0, none⟩) 0), (7, .slice a315 x314.length x314.length), (8, .int .i64 x1824), (9, .int .i64 x1825), (25, .int .i64 ((x3.1.length : Nat) : Int)), (26, .int .i64 x1817), (28, .slice a4 x3.1.length cp5), (29, .int .i64 ((x3.1.length : Nat) : Int)), (30, .int .i64 x1826)] [rowT 117 eHd a4 x3.1.length cp5 hs7, innO 120 eSWalker none hs7 x3.1, rowT 2 eI64 a1821 x1818.length cp1822 x1818, boxO 93 g614 [.int .i64 x1819.X, .int .i64 x1819.Y], rowT 4 eBool a315 x314.length x314.length x1820] _) aa ww hS
      clear hS
      simp only [sh100_2] at hres
      refine JX.seq ?_
      refine JX.region ?_
      refine JL.val (yl_lss rfl rfl) rfl ?_
      refine JL.nil ?_
      refine JE.code ?_
      refine JX.seq ?_
      rcases cond_some hres with ⟨hb, hres⟩ | ⟨hb, hres⟩
      · refine JX.condT rfl hb ?_
        refine JX.skip ?_
        refine JE.code ?_
        refine JX.seq ?_
        refine JX.block ?_
        refine JX.seq ?_
        refine JX.region ?_
        refine JL.val (yl_move rfl) rfl ?_
        obtain ⟨x1827, hx1827, hres⟩ := bind_some hres
        obtain ⟨ha1828, hc1829, hhx1827⟩ := Inn.sub hi8 hx1827
        refine JL.val (yl_idxT Go.Proofs.Try.underlying113 i117 i117s rfl rfl hhx1827 (Inn.len hi8) (fun w hC => rd_row hC 0 rfl)) rfl ?_
        refine JL.val (yl_loadT0 (z := ⟨ha1828, x1827.length, hc1829⟩) Go.Proofs.Try.underlying117 rfl rfl hhx1827 (fun w hC => rd_row hC 0 rfl) rfl) rfl ?_
        refine JL.val (yl_assign rfl) rfl ?_
        refine JL.val (yl_assign rfl) rfl ?_
        refine JL.nil ?_
        refine JE.weak (env' := [(3, .slice a4 x3.1.length cp5), (5, .slice a1821 x1818.length cp1822), (6, ptrAt (some ⟨g614, 0, none⟩) 0), (7, .slice a315 x314.length x314.length), (8, .int .i64 x1824), (9, .int .i64 x1825), (10, .int .i64 x1826), (11, .slice ha1828 x1827.length hc1829), (25, .int .i64 ((x3.1.length : Nat) : Int)), (26, .int .i64 x1817), (28, .slice a4 x3.1.length cp5), (29, .int .i64 ((x3.1.length : Nat) : Int)), (30, .int .i64 x1826)]) (es' := [rowT 117 eHd a4 x3.1.length cp5 hs7, innO 120 eSWalker none hs7 x3.1, rowT 2 eI64 a1821 x1818.length cp1822 x1818, boxO 93 g614 [.int .i64 x1819.X, .int .i64 x1819.Y], rowT 4 eBool a315 x314.length x314.length x1820]) [0, 1, 2, 3, 4] ?_ ⟨rfl, rfl, rfl, rfl, rfl, rfl, rfl, rfl, rfl, rfl, rfl, rfl, rfl, trivial⟩ (by decide) rfl
        refine JE.code ?_
        refine JX.seq ?_
        refine JX.region ?_
        refine JL.val (yl_move rfl) rfl ?_
        obtain ⟨x1831, hx1831, hres⟩ := bind_some hres
        refine JL.val (yl_idxT Go.Proofs.Try.underlying117 i120 i120s rfl rfl hx1831 rfl (fun w hC => (RdI.sub (rd_inn hC 1 rfl) hx1827 hhx1827))) rfl ?_
        refine JL.val (yl_fieldAtT Go.Proofs.Try.underlying120 rfl i93 i93n rfl hx1831 (fun w hC => (RdI.sub (rd_inn hC 1 rfl) hx1827 hhx1827))) rfl ?_
        refine JL.val (yl_loadTs (j := 0) (kk := 2) Go.Proofs.Try.underlying93 rfl i93 i93s rfl hx1831 (fun w hC => (RdI.sub (rd_inn hC 1 rfl) hx1827 hhx1827)) rfl rfl (by decide) (Nat.le_of_ble_eq_true rfl)) rfl ?_
        refine JL.eff (ef_alloc i93 i93z rfl) rfl ?_
        rintro _ _ ⟨g1832, rfl, rfl⟩
        refine JL.eff (ef_store_box (i := 5) (v := .agg #[.int .i64 x1831.At.X, .int .i64 x1831.At.Y]) i93 rfl rfl rfl (i93s).symm (Nat.le_of_ble_eq_true rfl) (by simp [Value.cells, Value.oneCell'])) rfl ?_
        rintro _ _ rfl
        refine JL.nil ?_
        refine JE.weak (env' := [(3, .slice a4 x3.1.length cp5), (5, .slice a1821 x1818.length cp1822), (6, ptrAt (some ⟨g614, 0, none⟩) 0), (7, .slice a315 x314.length x314.length), (8, .int .i64 x1824), (9, .int .i64 x1825), (10, .int .i64 x1826), (12, ptrAt (some ⟨g1832, 0, none⟩) 0), (25, .int .i64 ((x3.1.length : Nat) : Int)), (26, .int .i64 x1817), (28, .slice a4 x3.1.length cp5), (29, .int .i64 ((x3.1.length : Nat) : Int)), (30, .int .i64 x1826)]) (es' := [rowT 117 eHd a4 x3.1.length cp5 hs7, innO 120 eSWalker none hs7 x3.1, rowT 2 eI64 a1821 x1818.length cp1822 x1818, boxO 93 g614 [.int .i64 x1819.X, .int .i64 x1819.Y], rowT 4 eBool a315 x314.length x314.length x1820, boxO 93 g1832 [.int .i64 x1831.At.X, .int .i64 x1831.At.Y]]) [0, 1, 2, 3, 4, 5] ?_ ⟨rfl, rfl, rfl, rfl, rfl, rfl, rfl, rfl, rfl, rfl, rfl, rfl, rfl, trivial⟩ (by decide) rfl
        refine JE.code ?_
        refine JX.seq ?_
        refine JX.drawH [(0, .pure), (1, .read), (2, .pure), (3, .read), (5, .pure), (6, .read), (7, .pure), (8, .read), (4, .must), (9, .must), (10, .pure), (11, .pure)] [] [] [0, 1, 2, 3, 4, 5] [] [rowT 117 eHd a4 x3.1.length cp5 hs7, innO 120 eSWalker none hs7 x3.1, rowT 2 eI64 a1821 x1818.length cp1822 x1818, boxO 93 g614 [.int .i64 x1819.X, .int .i64 x1819.Y], rowT 4 eBool a315 x314.length x314.length x1820, boxO 93 g1832 [.int .i64 x1831.At.X, .int .i64 x1831.At.Y]] mixedP (by kernel_rfl) (by kernel_rfl) (by decide) rfl rfl ?_
        intro wrr1834 Nr1834 hFr1834
        refine JH.pure rfl (yl_fieldAt (a := some _) Go.Proofs.Try.underlying93 rfl i2 i2n rfl rfl) rfl ?_
        refine JH.read rfl (yl_load1 Go.Proofs.Try.underlying2 rfl rfl (fun w hw => hFr1834.box 5 rfl rfl hw) rfl) rfl ?_
        refine JH.pure rfl (yl_fieldAt (a := some _) Go.Proofs.Try.underlying93 rfl i2 i2n rfl rfl) rfl ?_
        refine JH.read rfl (yl_load1 Go.Proofs.Try.underlying2 rfl rfl (fun w hw => hFr1834.box 3 rfl rfl hw) rfl) rfl ?_
        refine JH.pure rfl (yl_fieldAt (a := some _) Go.Proofs.Try.underlying93 rfl i2 i2n rfl rfl) rfl ?_
        refine JH.read rfl (yl_load1 Go.Proofs.Try.underlying2 rfl rfl (fun w hw => hFr1834.box 5 rfl rfl hw) rfl) rfl ?_
        refine JH.pure rfl (yl_fieldAt (a := some _) Go.Proofs.Try.underlying93 rfl i2 i2n rfl rfl) rfl ?_
        refine JH.read rfl (yl_load1 Go.Proofs.Try.underlying2 rfl rfl (fun w hw => hFr1834.box 3 rfl rfl hw) rfl) rfl ?_
        obtain ⟨x1835, hx1835, hres⟩ := bind_some hres
        refine JH.must rfl (ef_call (T := T155 x1835) Go.Proofs.Try.func155 rfl (by kernel_rfl) rfl (fun w hC => c155  hx1835)) rfl rfl ?_
        rintro _ _ ⟨_, ⟨rfl, rfl⟩, rfl⟩
        obtain ⟨x1836, hx1836, hres⟩ := bind_some hres
        refine JH.must rfl (ef_call (T := T155 x1836) Go.Proofs.Try.func155 rfl (by kernel_rfl) rfl (fun w hC => c155  hx1836)) rfl rfl ?_
        rintro _ _ ⟨_, ⟨rfl, rfl⟩, rfl⟩
        refine JH.pure rfl (yl_add rfl rfl) rfl ?_
        refine JH.pure rfl (yl_assign rfl) rfl ?_
        refine JH.nil ?_
        refine JE.weak (env' := [(3, .slice a4 x3.1.length cp5), (5, .slice a1821 x1818.length cp1822), (6, ptrAt (some ⟨g614, 0, none⟩) 0), (7, .slice a315 x314.length x314.length), (8, .int .i64 x1824), (9, .int .i64 x1825), (10, .int .i64 x1826), (13, .int .i64 (w64 (x1835 + x1836))), (25, .int .i64 ((x3.1.length : Nat) : Int)), (26, .int .i64 x1817), (28, .slice a4 x3.1.length cp5), (29, .int .i64 ((x3.1.length : Nat) : Int)), (30, .int .i64 x1826)]) (es' := [rowT 117 eHd a4 x3.1.length cp5 hs7, innO 120 eSWalker none hs7 x3.1, rowT 2 eI64 a1821 x1818.length cp1822 x1818, boxO 93 g614 [.int .i64 x1819.X, .int .i64 x1819.Y], rowT 4 eBool a315 x314.length x314.length x1820]) [0, 1, 2, 3, 4] ?_ ⟨rfl, rfl, rfl, rfl, rfl, rfl, rfl, rfl, rfl, rfl, rfl, rfl, rfl, trivial⟩ (by decide) rfl
        refine JE.code ?_
        refine JX.seq ?_
        refine JX.region ?_
        refine JL.val (yl_move rfl) rfl ?_
        refine JL.val (yl_move rfl) rfl ?_
        obtain ⟨x1837, hx1837, hres⟩ := bind_some hres
        refine JL.val (yl_idxT Go.Proofs.Try.underlying153 i4 i4s rfl rfl hx1837 l1823 (fun w hC => rd_row hC 4 rfl)) rfl ?_
        refine JL.val (yl_loadT0 Go.Proofs.Try.underlying4 rfl rfl hx1837 (fun w hC => rd_row hC 4 rfl) rfl) rfl ?_
        refine JL.val (yl_not rfl) rfl ?_
        refine JL.val (yl_move rfl) rfl ?_
        refine JL.cut (K := fun J => J [(3, .slice a4 x3.1.length cp5), (5, .slice a1821 x1818.length cp1822), (6, ptrAt (some ⟨g614, 0, none⟩) 0), (7, .slice a315 x314.length x314.length), (8, .int .i64 x1824), (9, .int .i64 x1825), (10, .int .i64 x1826), (13, .int .i64 (w64 (x1835 + x1836))), (25, .int .i64 ((x3.1.length : Nat) : Int)), (26, .int .i64 x1817), (28, .slice a4 x3.1.length cp5), (29, .int .i64 ((x3.1.length : Nat) : Int)), (30, .int .i64 x1826), (63, .bool (!x1837 && ((decide (x1824 < 0)) || (decide ((w64 (x1835 + x1836)) < x1825)))))] [rowT 117 eHd a4 x3.1.length cp5 hs7, innO 120 eSWalker none hs7 x3.1, rowT 2 eI64 a1821 x1818.length cp1822 x1818, boxO 93 g614 [.int .i64 x1819.X, .int .i64 x1819.Y], rowT 4 eBool a315 x314.length x314.length x1820]) 8 ?_ ?_
        · refine JL.nil ?_
          refine JE.weak (env' := [(3, .slice a4 x3.1.length cp5), (5, .slice a1821 x1818.length cp1822), (6, ptrAt (some ⟨g614, 0, none⟩) 0), (7, .slice a315 x314.length x314.length), (8, .int .i64 x1824), (9, .int .i64 x1825), (10, .int .i64 x1826), (13, .int .i64 (w64 (x1835 + x1836))), (25, .int .i64 ((x3.1.length : Nat) : Int)), (26, .int .i64 x1817), (28, .slice a4 x3.1.length cp5), (29, .int .i64 ((x3.1.length : Nat) : Int)), (30, .int .i64 x1826), (63, .bool (!x1837 && ((decide (x1824 < 0)) || (decide ((w64 (x1835 + x1836)) < x1825)))))]) (es' := [rowT 117 eHd a4 x3.1.length cp5 hs7, innO 120 eSWalker none hs7 x3.1, rowT 2 eI64 a1821 x1818.length cp1822 x1818, boxO 93 g614 [.int .i64 x1819.X, .int .i64 x1819.Y], rowT 4 eBool a315 x314.length x314.length x1820]) [0, 1, 2, 3, 4] ?_ ⟨rfl, rfl, rfl, rfl, rfl, rfl, rfl, rfl, rfl, rfl, rfl, rfl, rfl, rfl, trivial⟩ (by decide) rfl
          refine JE.code ?_
          obtain ⟨j1838, hj1838, hresj1838⟩ := bind_some hres
          refine JX.cut (K := fun J => J [(3, .slice a4 x3.1.length cp5), (5, .slice a1821 x1818.length cp1822), (6, ptrAt (some ⟨g614, 0, none⟩) 0), (7, .slice a315 x314.length x314.length), (8, .int .i64 j1838.1), (9, .int .i64 j1838.2), (25, .int .i64 ((x3.1.length : Nat) : Int)), (26, .int .i64 x1817), (28, .slice a4 x3.1.length cp5), (29, .int .i64 ((x3.1.length : Nat) : Int)), (30, .int .i64 x1826)] [rowT 117 eHd a4 x3.1.length cp5 hs7, innO 120 eSWalker none hs7 x3.1, rowT 2 eI64 a1821 x1818.length cp1822 x1818, boxO 93 g614 [.int .i64 x1819.X, .int .i64 x1819.Y], rowT 4 eBool a315 x314.length x314.length x1820]) ?_ ?_
          · have hres := hresj1838
            refine JE.code ?_
            refine JX.region ?_
            refine JL.val (yl_add rfl rfl) rfl ?_
            refine JL.val (yl_move rfl) rfl ?_
            refine JL.nil ?_
            refine JE.cont hres ?_
            exact fun a w h => h.weak ⟨rfl, rfl, rfl, rfl, rfl, rfl, rfl, rfl, rfl, rfl, rfl, trivial⟩ [0, 1, 2, 3, 4] (by decide) rfl
          · intro K
            rcases cond_some hj1838 with ⟨hb, hres⟩ | ⟨hb, hres⟩
            · refine JX.condT rfl hb ?_
              refine JX.region ?_
              refine JL.val (yl_move rfl) rfl ?_
              refine JL.val (yl_move rfl) rfl ?_
              refine JL.val (yl_assign rfl) rfl ?_
              refine JL.val (yl_assign rfl) rfl ?_
              refine JL.nil ?_
              refine JE.weak (env' := [(3, .slice a4 x3.1.length cp5), (5, .slice a1821 x1818.length cp1822), (6, ptrAt (some ⟨g614, 0, none⟩) 0), (7, .slice a315 x314.length x314.length), (8, .int .i64 x1826), (9, .int .i64 (w64 (x1835 + x1836))), (25, .int .i64 ((x3.1.length : Nat) : Int)), (26, .int .i64 x1817), (28, .slice a4 x3.1.length cp5), (29, .int .i64 ((x3.1.length : Nat) : Int)), (30, .int .i64 x1826)]) (es' := [rowT 117 eHd a4 x3.1.length cp5 hs7, innO 120 eSWalker none hs7 x3.1, rowT 2 eI64 a1821 x1818.length cp1822 x1818, boxO 93 g614 [.int .i64 x1819.X, .int .i64 x1819.Y], rowT 4 eBool a315 x314.length x314.length x1820]) [0, 1, 2, 3, 4] ?_ ⟨rfl, rfl, rfl, rfl, rfl, rfl, rfl, rfl, rfl, rfl, rfl, trivial⟩ (by decide) rfl
              have hj := Option.some.inj hres
              exact JE.weak [0, 1, 2, 3, 4] (K) ⟨(by subst hj; rfl), (by subst hj; rfl), (by subst hj; rfl), (by subst hj; rfl), (by subst hj; rfl), (by subst hj; rfl), (by subst hj; rfl), (by subst hj; rfl), (by subst hj; rfl), (by subst hj; rfl), (by subst hj; rfl), trivial⟩ (by decide) (by subst hj; rfl)
            · refine JX.condF rfl hb ?_
              refine JX.skip ?_
              have hj := Option.some.inj hres
              exact JE.weak [0, 1, 2, 3, 4] (K) ⟨(by subst hj; rfl), (by subst hj; rfl), (by subst hj; rfl), (by subst hj; rfl), (by subst hj; rfl), (by subst hj; rfl), (by subst hj; rfl), (by subst hj; rfl), (by subst hj; rfl), (by subst hj; rfl), (by subst hj; rfl), trivial⟩ (by decide) (by subst hj; rfl)
        · intro K
          rcases Bool.eq_false_or_eq_true (!x1837) with hb | hb
          · refine JL.set (d := 55) (v := .bool true) (congrArg (fun b => some (Value.bool b)) hb) ?_
            refine JL.gval rfl rfl (yl_move rfl) rfl ?_
            refine JL.gval rfl rfl (yl_lss rfl rfl) rfl ?_
            refine JL.gval rfl rfl (yl_move rfl) rfl ?_
            refine JL.cut (K := fun J => J [(3, .slice a4 x3.1.length cp5), (5, .slice a1821 x1818.length cp1822), (6, ptrAt (some ⟨g614, 0, none⟩) 0), (7, .slice a315 x314.length x314.length), (8, .int .i64 x1824), (9, .int .i64 x1825), (10, .int .i64 x1826), (13, .int .i64 (w64 (x1835 + x1836))), (25, .int .i64 ((x3.1.length : Nat) : Int)), (26, .int .i64 x1817), (28, .slice a4 x3.1.length cp5), (29, .int .i64 ((x3.1.length : Nat) : Int)), (30, .int .i64 x1826), (55, .bool true), (62, .bool ((decide (x1824 < 0)) || (decide ((w64 (x1835 + x1836)) < x1825))))] [rowT 117 eHd a4 x3.1.length cp5 hs7, innO 120 eSWalker none hs7 x3.1, rowT 2 eI64 a1821 x1818.length cp1822 x1818, boxO 93 g614 [.int .i64 x1819.X, .int .i64 x1819.Y], rowT 4 eBool a315 x314.length x314.length x1820]) 4 ?_ ?_
            · refine JL.val (yl_pick_true rfl rfl) rfl ?_
              exact JL.weak [0, 1, 2, 3, 4] K ⟨rfl, rfl, rfl, rfl, rfl, rfl, rfl, rfl, rfl, rfl, rfl, rfl, rfl, (by rw [hb]; rfl), trivial⟩ (by decide) rfl
            · intro K
              rcases Bool.eq_false_or_eq_true (decide (x1824 < 0)) with hb | hb
              · refine JL.set (d := 58) (v := .bool true) (congrArg (fun b => some (Value.bool b)) hb) ?_
                refine JL.gskip rfl rfl rfl rfl ?_
                refine JL.gskip rfl rfl rfl rfl ?_
                refine JL.gskip rfl rfl rfl rfl ?_
                refine JL.gval rfl rfl (yl_pick_true rfl rfl) rfl ?_
                exact JL.weak [0, 1, 2, 3, 4] K ⟨rfl, rfl, rfl, rfl, rfl, rfl, rfl, rfl, rfl, rfl, rfl, rfl, rfl, rfl, (by rw [hb]; rfl), trivial⟩ (by decide) rfl
              · refine JL.set (d := 58) (v := .bool false) (congrArg (fun b => some (Value.bool b)) hb) ?_
                refine JL.gval rfl rfl (yl_move rfl) rfl ?_
                refine JL.gval rfl rfl (yl_move rfl) rfl ?_
                refine JL.gval rfl rfl (yl_lss rfl rfl) rfl ?_
                refine JL.gval rfl rfl (yl_pick_false rfl rfl) rfl ?_
                exact JL.weak [0, 1, 2, 3, 4] K ⟨rfl, rfl, rfl, rfl, rfl, rfl, rfl, rfl, rfl, rfl, rfl, rfl, rfl, rfl, (by rw [hb]; rfl), trivial⟩ (by decide) rfl
          · refine JL.set (d := 55) (v := .bool false) (congrArg (fun b => some (Value.bool b)) hb) ?_
            refine JL.gskip rfl rfl rfl rfl ?_
            refine JL.gskip rfl rfl rfl rfl ?_
            refine JL.gskip rfl rfl rfl rfl ?_
            refine JL.gnone rfl rfl rfl ?_
            refine JL.gnone rfl rfl rfl ?_
            refine JL.gnone rfl rfl rfl ?_
            refine JL.gskip rfl rfl rfl rfl ?_
            refine JL.val (yl_pick_false rfl rfl) rfl ?_
            exact JL.weak [0, 1, 2, 3, 4] K ⟨rfl, rfl, rfl, rfl, rfl, rfl, rfl, rfl, rfl, rfl, rfl, rfl, rfl, (by rw [hb]; rfl), trivial⟩ (by decide) rfl
      · refine JX.condF rfl hb ?_
        refine JX.exit ?_
        refine JE.qb rfl ?_
        obtain ⟨b2, hb2⟩ : ∃ b : Int, b = x1824 := ⟨_, rfl⟩
        have hy2 : b2 = y2 := by rw [hb2]; exact hox2 _ (Option.some.inj hres).symm
        have hres := hresO2
        rw [← hy2] at hres
        refine JE.weak (env' := [(3, .slice a4 x3.1.length cp5), (5, .slice a1821 x1818.length cp1822), (6, ptrAt (some ⟨g614, 0, none⟩) 0), (7, .slice a315 x314.length x314.length), (8, .int .i64 b2), (25, .int .i64 ((x3.1.length : Nat) : Int)), (26, .int .i64 x1817)]) (es' := [rowT 117 eHd a4 x3.1.length cp5 hs7, innO 120 eSWalker none hs7 x3.1, rowT 2 eI64 a1821 x1818.length cp1822 x1818, boxO 93 g614 [.int .i64 x1819.X, .int .i64 x1819.Y], rowT 4 eBool a315 x314.length x314.length x1820]) [0, 1, 2, 3, 4] ?_ ⟨(by subst hb2; rfl), (by subst hb2; rfl), (by subst hb2; rfl), (by subst hb2; rfl), (by subst hb2; rfl), (by subst hb2; rfl), (by subst hb2; rfl), trivial⟩ (by decide) (by subst hb2; rfl)
        refine JE.code ?_
        refine JX.seq ?_
        refine JX.region ?_
        refine JL.val (yl_move rfl) rfl ?_
        refine JL.val (yl_move rfl) rfl ?_
        obtain ⟨x1839, hx1839, hres⟩ := bind_some hres
        refine JL.val (yl_idxT Go.Proofs.Try.underlying153 i4 i4s rfl rfl hx1839 l1823 (fun w hC => rd_row hC 4 rfl)) rfl ?_
        refine JL.eff (ef_storeT (ix := 4) (u := true) i4 i4s rfl rfl rfl hx1839 rfl) rfl ?_
        rintro _ _ rfl
        refine JL.nil ?_
        refine JE.weak (env' := [(3, .slice a4 x3.1.length cp5), (5, .slice a1821 x1818.length cp1822), (6, ptrAt (some ⟨g614, 0, none⟩) 0), (7, .slice a315 x314.length x314.length), (8, .int .i64 b2), (25, .int .i64 ((x3.1.length : Nat) : Int)), (26, .int .i64 x1817)]) (es' := [rowT 117 eHd a4 x3.1.length cp5 hs7, innO 120 eSWalker none hs7 x3.1, rowT 2 eI64 a1821 x1818.length cp1822 x1818, boxO 93 g614 [.int .i64 x1819.X, .int .i64 x1819.Y], rowT 4 eBool a315 x314.length x314.length (x1820.set (b2).toNat true)]) [0, 1, 2, 3, 4] ?_ ⟨rfl, rfl, rfl, rfl, rfl, rfl, rfl, trivial⟩ (by decide) rfl
        refine JE.code ?_
        refine JX.seq ?_
        refine JX.region ?_
        refine JL.val (yl_move rfl) rfl ?_
        refine JL.val (yl_move rfl) rfl ?_
        obtain ⟨x1840, hx1840, hres⟩ := bind_some hres
        obtain ⟨ha1841, hc1842, hhx1840⟩ := Inn.sub hi8 hx1840
        refine JL.val (yl_idxT Go.Proofs.Try.underlying113 i117 i117s rfl rfl hhx1840 (Inn.len hi8) (fun w hC => rd_row hC 0 rfl)) rfl ?_
        refine JL.val (yl_loadT0 (z := ⟨ha1841, x1840.length, hc1842⟩) Go.Proofs.Try.underlying117 rfl rfl hhx1840 (fun w hC => rd_row hC 0 rfl) rfl) rfl ?_
        obtain ⟨x1844, hx1844, hres⟩ := bind_some hres
        refine JL.val (yl_idxT Go.Proofs.Try.underlying117 i120 i120s rfl rfl hx1844 rfl (fun w hC => (RdI.sub (rd_inn hC 1 rfl) hx1840 hhx1840))) rfl ?_
        refine JL.val (yl_fieldAtT Go.Proofs.Try.underlying120 rfl i93 i93n rfl hx1844 (fun w hC => (RdI.sub (rd_inn hC 1 rfl) hx1840 hhx1840))) rfl ?_
        refine JL.val (yl_loadTs (j := 0) (kk := 2) Go.Proofs.Try.underlying93 rfl i93 i93s rfl hx1844 (fun w hC => (RdI.sub (rd_inn hC 1 rfl) hx1840 hhx1840)) rfl rfl (by decide) (Nat.le_of_ble_eq_true rfl)) rfl ?_
        refine JL.eff (ef_store_box (i := 3) (v := .agg #[.int .i64 x1844.At.X, .int .i64 x1844.At.Y]) i93 rfl rfl rfl (i93s).symm (Nat.le_of_ble_eq_true rfl) (by simp [Value.cells, Value.oneCell'])) rfl ?_
        rintro _ _ rfl
        refine JL.nil ?_
        refine JE.weak (env' := [(3, .slice a4 x3.1.length cp5), (5, .slice a1821 x1818.length cp1822), (6, ptrAt (some ⟨g614, 0, none⟩) 0), (7, .slice a315 x314.length x314.length), (8, .int .i64 b2), (25, .int .i64 ((x3.1.length : Nat) : Int)), (26, .int .i64 x1817)]) (es' := [rowT 117 eHd a4 x3.1.length cp5 hs7, innO 120 eSWalker none hs7 x3.1, rowT 2 eI64 a1821 x1818.length cp1822 x1818, boxO 93 g614 [.int .i64 x1844.At.X, .int .i64 x1844.At.Y], rowT 4 eBool a315 x314.length x314.length (x1820.set (b2).toNat true)]) [0, 1, 2, 3, 4] ?_ ⟨rfl, rfl, rfl, rfl, rfl, rfl, rfl, trivial⟩ (by decide) rfl
        refine JE.code ?_
        refine JX.region ?_
        refine JL.val (yl_move rfl) rfl ?_
        refine JL.val (yl_move rfl) rfl ?_
        refine JL.eff (ef_buildSlice (E := 2) (k := eI64.k) (us := eI64.fl [b2]) rfl (fun w => bsl33_1 b2 w) rfl (by decide)) rfl ?_
        rintro _ _ ⟨a1845, rfl, rfl⟩
        obtain ⟨x1847, hx1847, hres⟩ := bind_some hres
        refine JL.eff (ef_appendT (ix := 2) Go.Proofs.Try.underlying33 i2 i2z i2s rfl i2b0 i2b1 rfl rfl rfl rfl rfl (fun w hC => rd_row hC 5 rfl) hx1847) rfl ?_
        rintro _ _ ⟨a1848, cp1849, rfl, rfl⟩
        refine JL.val (yl_assign rfl) rfl ?_
        refine JL.nil ?_
        refine JE.weak (env' := [(3, .slice a4 x3.1.length cp5), (5, .slice a1848 x1847.length cp1849), (6, ptrAt (some ⟨g614, 0, none⟩) 0), (7, .slice a315 x314.length x314.length), (25, .int .i64 ((x3.1.length : Nat) : Int)), (26, .int .i64 x1817)]) (es' := [rowT 117 eHd a4 x3.1.length cp5 hs7, innO 120 eSWalker none hs7 x3.1, rowT 2 eI64 a1848 x1847.length cp1849 x1847, boxO 93 g614 [.int .i64 x1844.At.X, .int .i64 x1844.At.Y], rowT 4 eBool a315 x314.length x314.length (x1820.set (b2).toNat true)]) [0, 1, 2, 3, 4] ?_ ⟨rfl, rfl, rfl, rfl, rfl, rfl, trivial⟩ (by decide) rfl
        refine JE.code ?_
        refine JX.region ?_
        refine JL.val (yl_add rfl rfl) rfl ?_
        refine JL.val (yl_move rfl) rfl ?_
        refine JL.nil ?_
        refine JE.cont hres ?_
        exact fun a w h => ⟨a1848, cp1849, (List.length_set.trans l1823), h.weak ⟨rfl, rfl, rfl, rfl, rfl, rfl, trivial⟩ [0, 1, 2, 3, 4] (by decide) rfl⟩
    · refine JX.condF rfl hb ?_
      refine JX.exit ?_
      refine JE.qb rfl ?_
      obtain ⟨b1, hb1⟩ : ∃ b : List Int, b = x1818 := ⟨_, rfl⟩
      have hy1 : b1 = y1 := by rw [hb1]; exact hox1 _ (Option.some.inj hres).symm
      have hres := hresO1
      rw [← hy1] at hres
      refine JE.weak (env' := [(5, .slice a1821 b1.length cp1822)]) (es' := [rowT 2 eI64 a1821 b1.length cp1822 b1]) [2] ?_ ⟨(by subst hb1; rfl), trivial⟩ (by decide) (by subst hb1; rfl)
      refine JE.code ?_
      refine JX.seq ?_
      refine JX.region ?_
      refine JL.val (yl_move rfl) rfl ?_
      refine JL.val (yl_assign rfl) rfl ?_
      refine JL.nil ?_
      refine JE.code ?_
      refine JX.ret ?_
      obtain rfl := Option.some.inj hres
      refine JE.ret (rs := [.tmp 2]) (vs := [.slice a1821 b1.length cp1822]) rfl ⟨rfl, trivial⟩ ?_
      exact fun w' hb hs => ⟨_, _, ⟨a1821, b1.length, cp1822, rfl, rfl, rfl⟩, rfl, hb, hs.sel [0] _ (by decide) rfl⟩
  · intro K
    refine JH.talt ?_ ?_
    · refine JH.must rfl (ef_buildSlice (E := 2) (k := eI64.k) (us := eI64.fl ([] : List Int)) rfl (fun w => bsl33_0  w) rfl (by decide)) rfl rfl ?_
      rintro _ _ ⟨a14, rfl, rfl⟩
      refine JH.talt ?_ ?_
      · refine JH.must rfl (ef_makeS (e := eBool) Go.Proofs.Try.underlying153 i4 i4s i4z rfl i4b1 rfl rfl hx314) rfl rfl ?_
        rintro _ _ ⟨a315, rfl, rfl⟩
        refine JH.talt ?_ ?_
        · refine JH.must rfl (ef_alloc i93 i93z rfl) rfl rfl ?_
          rintro _ _ ⟨g614, rfl, rfl⟩
          refine JH.tpure ?_
          refine JH.pure rfl (yl_assign rfl) rfl ?_
          refine JH.talt ?_ ?_
          · refine JH.must rfl (ef_store_box (i := 2) (v := .agg #[.int .i64 0, .int .i64 0]) i93 rfl rfl rfl (i93s).symm (Nat.le_of_ble_eq_true rfl) (by simp [Value.cells, Value.oneCell'])) rfl rfl ?_
            rintro _ _ rfl
            refine JH.tpure ?_
            refine JH.pure rfl (yl_assign rfl) rfl ?_
            refine JH.tdone ?_
            exact JH.weak [0, 1, 2] (K a14 a315 g614) ⟨rfl, rfl, rfl, rfl, trivial⟩ (by decide) rfl
          · exact JH.tnil
        · exact JH.tnil
      · refine JH.talt ?_ ?_
        · refine JH.must rfl (ef_alloc i93 i93z rfl) rfl rfl ?_
          rintro _ _ ⟨g614, rfl, rfl⟩
          refine JH.tpure ?_
          refine JH.pure rfl (yl_assign rfl) rfl ?_
          refine JH.talt ?_ ?_
          · refine JH.must rfl (ef_makeS (e := eBool) Go.Proofs.Try.underlying153 i4 i4s i4z rfl i4b1 rfl rfl hx314) rfl rfl ?_
            rintro _ _ ⟨a315, rfl, rfl⟩
            refine JH.talt ?_ ?_
            · refine JH.must rfl (ef_store_box (i := 1) (v := .agg #[.int .i64 0, .int .i64 0]) i93 rfl rfl rfl (i93s).symm (Nat.le_of_ble_eq_true rfl) (by simp [Value.cells, Value.oneCell'])) rfl rfl ?_
              rintro _ _ rfl
              refine JH.tpure ?_
              refine JH.pure rfl (yl_assign rfl) rfl ?_
              refine JH.tdone ?_
              exact JH.weak [0, 2, 1] (K a14 a315 g614) ⟨rfl, rfl, rfl, rfl, trivial⟩ (by decide) rfl
            · exact JH.tnil
          · refine JH.talt ?_ ?_
            · refine JH.must rfl (ef_store_box (i := 1) (v := .agg #[.int .i64 0, .int .i64 0]) i93 rfl rfl rfl (i93s).symm (Nat.le_of_ble_eq_true rfl) (by simp [Value.cells, Value.oneCell'])) rfl rfl ?_
              rintro _ _ rfl
              refine JH.talt ?_ ?_
              · refine JH.must rfl (ef_makeS (e := eBool) Go.Proofs.Try.underlying153 i4 i4s i4z rfl i4b1 rfl rfl hx314) rfl rfl ?_
                rintro _ _ ⟨a315, rfl, rfl⟩
                refine JH.tpure ?_
                refine JH.pure rfl (yl_assign rfl) rfl ?_
                refine JH.tdone ?_
                exact JH.weak [0, 2, 1] (K a14 a315 g614) ⟨rfl, rfl, rfl, rfl, trivial⟩ (by decide) rfl
              · exact JH.tnil
            · exact JH.tnil
        · exact JH.tnil
    · refine JH.talt ?_ ?_
      · refine JH.must rfl (ef_makeS (e := eBool) Go.Proofs.Try.underlying153 i4 i4s i4z rfl i4b1 rfl rfl hx314) rfl rfl ?_
        rintro _ _ ⟨a315, rfl, rfl⟩
        refine JH.talt ?_ ?_
        · refine JH.must rfl (ef_buildSlice (E := 2) (k := eI64.k) (us := eI64.fl ([] : List Int)) rfl (fun w => bsl33_0  w) rfl (by decide)) rfl rfl ?_
          rintro _ _ ⟨a14, rfl, rfl⟩
          refine JH.talt ?_ ?_
          · refine JH.must rfl (ef_alloc i93 i93z rfl) rfl rfl ?_
            rintro _ _ ⟨g614, rfl, rfl⟩
            refine JH.tpure ?_
            refine JH.pure rfl (yl_assign rfl) rfl ?_
            refine JH.talt ?_ ?_
            · refine JH.must rfl (ef_store_box (i := 2) (v := .agg #[.int .i64 0, .int .i64 0]) i93 rfl rfl rfl (i93s).symm (Nat.le_of_ble_eq_true rfl) (by simp [Value.cells, Value.oneCell'])) rfl rfl ?_
              rintro _ _ rfl
              refine JH.tpure ?_
              refine JH.pure rfl (yl_assign rfl) rfl ?_
              refine JH.tdone ?_
              exact JH.weak [1, 0, 2] (K a14 a315 g614) ⟨rfl, rfl, rfl, rfl, trivial⟩ (by decide) rfl
            · exact JH.tnil
          · exact JH.tnil
        · refine JH.talt ?_ ?_
          · refine JH.must rfl (ef_alloc i93 i93z rfl) rfl rfl ?_
            rintro _ _ ⟨g614, rfl, rfl⟩
            refine JH.talt ?_ ?_
            · refine JH.must rfl (ef_buildSlice (E := 2) (k := eI64.k) (us := eI64.fl ([] : List Int)) rfl (fun w => bsl33_0  w) rfl (by decide)) rfl rfl ?_
              rintro _ _ ⟨a14, rfl, rfl⟩
              refine JH.tpure ?_
              refine JH.pure rfl (yl_assign rfl) rfl ?_
              refine JH.talt ?_ ?_
              · refine JH.must rfl (ef_store_box (i := 1) (v := .agg #[.int .i64 0, .int .i64 0]) i93 rfl rfl rfl (i93s).symm (Nat.le_of_ble_eq_true rfl) (by simp [Value.cells, Value.oneCell'])) rfl rfl ?_
                rintro _ _ rfl
                refine JH.tpure ?_
                refine JH.pure rfl (yl_assign rfl) rfl ?_
                refine JH.tdone ?_
                exact JH.weak [2, 0, 1] (K a14 a315 g614) ⟨rfl, rfl, rfl, rfl, trivial⟩ (by decide) rfl
              · exact JH.tnil
            · exact JH.tnil
          · exact JH.tnil
      · refine JH.talt ?_ ?_
        · refine JH.must rfl (ef_alloc i93 i93z rfl) rfl rfl ?_
          rintro _ _ ⟨g614, rfl, rfl⟩
          refine JH.talt ?_ ?_
          · refine JH.must rfl (ef_buildSlice (E := 2) (k := eI64.k) (us := eI64.fl ([] : List Int)) rfl (fun w => bsl33_0  w) rfl (by decide)) rfl rfl ?_
            rintro _ _ ⟨a14, rfl, rfl⟩
            refine JH.tpure ?_
            refine JH.pure rfl (yl_assign rfl) rfl ?_
            refine JH.talt ?_ ?_
            · refine JH.must rfl (ef_makeS (e := eBool) Go.Proofs.Try.underlying153 i4 i4s i4z rfl i4b1 rfl rfl hx314) rfl rfl ?_
              rintro _ _ ⟨a315, rfl, rfl⟩
              refine JH.talt ?_ ?_
              · refine JH.must rfl (ef_store_box (i := 0) (v := .agg #[.int .i64 0, .int .i64 0]) i93 rfl rfl rfl (i93s).symm (Nat.le_of_ble_eq_true rfl) (by simp [Value.cells, Value.oneCell'])) rfl rfl ?_
                rintro _ _ rfl
                refine JH.tpure ?_
                refine JH.pure rfl (yl_assign rfl) rfl ?_
                refine JH.tdone ?_
                exact JH.weak [1, 2, 0] (K a14 a315 g614) ⟨rfl, rfl, rfl, rfl, trivial⟩ (by decide) rfl
              · exact JH.tnil
            · refine JH.talt ?_ ?_
              · refine JH.must rfl (ef_store_box (i := 0) (v := .agg #[.int .i64 0, .int .i64 0]) i93 rfl rfl rfl (i93s).symm (Nat.le_of_ble_eq_true rfl) (by simp [Value.cells, Value.oneCell'])) rfl rfl ?_
                rintro _ _ rfl
                refine JH.talt ?_ ?_
                · refine JH.must rfl (ef_makeS (e := eBool) Go.Proofs.Try.underlying153 i4 i4s i4z rfl i4b1 rfl rfl hx314) rfl rfl ?_
                  rintro _ _ ⟨a315, rfl, rfl⟩
                  refine JH.tpure ?_
                  refine JH.pure rfl (yl_assign rfl) rfl ?_
                  refine JH.tdone ?_
                  exact JH.weak [1, 2, 0] (K a14 a315 g614) ⟨rfl, rfl, rfl, rfl, trivial⟩ (by decide) rfl
                · exact JH.tnil
              · exact JH.tnil
          · refine JH.talt ?_ ?_
            · refine JH.must rfl (ef_makeS (e := eBool) Go.Proofs.Try.underlying153 i4 i4s i4z rfl i4b1 rfl rfl hx314) rfl rfl ?_
              rintro _ _ ⟨a315, rfl, rfl⟩
              refine JH.talt ?_ ?_
              · refine JH.must rfl (ef_buildSlice (E := 2) (k := eI64.k) (us := eI64.fl ([] : List Int)) rfl (fun w => bsl33_0  w) rfl (by decide)) rfl rfl ?_
                rintro _ _ ⟨a14, rfl, rfl⟩
                refine JH.tpure ?_
                refine JH.pure rfl (yl_assign rfl) rfl ?_
                refine JH.talt ?_ ?_
                · refine JH.must rfl (ef_store_box (i := 0) (v := .agg #[.int .i64 0, .int .i64 0]) i93 rfl rfl rfl (i93s).symm (Nat.le_of_ble_eq_true rfl) (by simp [Value.cells, Value.oneCell'])) rfl rfl ?_
                  rintro _ _ rfl
                  refine JH.tpure ?_
                  refine JH.pure rfl (yl_assign rfl) rfl ?_
                  refine JH.tdone ?_
                  exact JH.weak [2, 1, 0] (K a14 a315 g614) ⟨rfl, rfl, rfl, rfl, trivial⟩ (by decide) rfl
                · exact JH.tnil
              · exact JH.tnil
            · exact JH.tnil
        · exact JH.tnil

/- impl.CarveOrder -/
def sh30 (q0 : SPanel) : Option (List Int × Int) := Option.bind (sh99 q0) fun x3 => bif !x3 then (some (([] : List Int), 1)) else (Option.bind (sh100 q0) fun x5 => some (x5, 0))
def T30 (r : List Int × Int) (v : Value) (rs : List Own) : Prop := ∃ (a0 : Option Addr) (n0 c0 : Nat), r.1.length = n0 ∧ v = rets [.slice a0 n0 c0, .int .i64 r.2] ∧ rs = [rowT 2 eI64 a0 n0 c0 r.1]
set_option maxRecDepth 100000 in
theorem c30 {w : World} {q0 : SPanel} {a_0_2 : Option Addr} {n_0_2 c_0_2 : Nat} (g_0_2 : Rd w a_0_2 (eI64.fl q0.Breaks)) (l_0_2 : q0.Breaks.length = n_0_2) (k_0_2 : n_0_2 ≤ c_0_2) {r : List Int × Int} (hres : sh30 q0 = some r) : Calls Go.Proofs.Try.prog 30 [.agg #[.int .i64 q0.W, .int .i64 q0.H, .slice a_0_2 n_0_2 c_0_2]].toArray w (Ret w (T30 r)) := by
  subst l_0_2
  unfold sh30 at hres
  refine calls_of (n := 9) (M := []) (es := []) Go.Proofs.Try.func30 rfl rfl rfl (Sep.nil _ _ _) ?_
  refine JX.seq ?_
  refine JX.region ?_
  refine JL.eff (ef_box rfl rfl) rfl ?_
  rintro _ _ ⟨g1, rfl, rfl⟩
  refine JL.val (yl_assign rfl) rfl ?_
  refine JL.val (yl_assign rfl) rfl ?_
  refine JL.nil ?_
  refine JE.code ?_
  refine JX.seq ?_
  refine JX.seq ?_
  refine JX.region ?_
  refine JL.val (yl_loadn Go.Proofs.Try.underlying39 rfl i39 rfl (fun w hC => rd_box hC 0 rfl) rfl (i39s).symm i39p) rfl ?_
  obtain ⟨x3, hx3, hres⟩ := bind_some hres
  refine JL.eff (ef_call (vs := [.agg #[.int .i64 q0.W, .int .i64 q0.H, .slice a_0_2 q0.Breaks.length c_0_2]]) (T := T99 x3) Go.Proofs.Try.func99 rfl (by kernel_rfl) rfl (fun w hC => c99 (q0 := q0) (rd_arg g_0_2 hC) rfl k_0_2 hx3)) rfl ?_
  rintro _ _ ⟨_, ⟨rfl, rfl⟩, rfl⟩
  refine JL.val (yl_not rfl) rfl ?_
  refine JL.nil ?_
  refine JE.code ?_
  rcases cond_some hres with ⟨hb, hres⟩ | ⟨hb, hres⟩
  · refine JX.condT rfl hb ?_
    refine JX.seq ?_
    refine JX.region ?_
    refine JL.val (yl_assign rfl) rfl ?_
    refine JL.val (yl_assign rfl) rfl ?_
    refine JL.nil ?_
    refine JE.weak (env' := [(2, .slice none 0 0), (3, .int .i64 1)]) (es' := []) [] ?_ ⟨rfl, rfl, trivial⟩ (by decide) rfl
    refine JE.code ?_
    refine JX.ret ?_
    refine JE.nilrow 2 eI64 ?_
    obtain rfl := Option.some.inj hres
    refine JE.ret (rs := [.tmp 2, .tmp 3]) (vs := [.slice none 0 0, .int .i64 1]) rfl ⟨rfl, rfl, trivial⟩ ?_
    exact fun w' hb hs => ⟨_, _, ⟨none, 0, 0, rfl, rfl, rfl⟩, rfl, hb, hs.sel [0] _ (by decide) rfl⟩
  · refine JX.condF rfl hb ?_
    refine JX.skip ?_
    refine JE.code ?_
    refine JX.seq ?_
    refine JX.region ?_
    refine JL.val (yl_loadn Go.Proofs.Try.underlying39 rfl i39 rfl (fun w hC => rd_box hC 0 rfl) rfl (i39s).symm i39p) rfl ?_
    obtain ⟨x5, hx5, hres⟩ := bind_some hres
    refine JL.eff (ef_call (vs := [.agg #[.int .i64 q0.W, .int .i64 q0.H, .slice a_0_2 q0.Breaks.length c_0_2]]) (T := T100 x5) Go.Proofs.Try.func100 rfl (by kernel_rfl) rfl (fun w hC => c100 (q0 := q0) (rd_arg g_0_2 hC) rfl k_0_2 hx5)) rfl ?_
    rintro _ _ ⟨_, ⟨a6, _, cp7, rfl, rfl, rfl⟩, rfl⟩
    refine JL.val (yl_assign rfl) rfl ?_
    refine JL.val (yl_assign rfl) rfl ?_
    refine JL.nil ?_
    refine JE.weak (env' := [(2, .slice a6 x5.length cp7), (3, .int .i64 0)]) (es' := [rowT 2 eI64 a6 x5.length cp7 x5]) [1] ?_ ⟨rfl, rfl, trivial⟩ (by decide) rfl
    refine JE.code ?_
    refine JX.ret ?_
    obtain rfl := Option.some.inj hres
    refine JE.ret (rs := [.tmp 2, .tmp 3]) (vs := [.slice a6 x5.length cp7, .int .i64 0]) rfl ⟨rfl, rfl, trivial⟩ ?_
    exact fun w' hb hs => ⟨_, _, ⟨a6, x5.length, cp7, rfl, rfl, rfl⟩, rfl, hb, hs.sel [0] _ (by decide) rfl⟩

/- laws.eqInt64S -/
def sh31_1 (q0 : List Int) (q1 : List Int) : Int → Option (Int ⊕ (Unit ⊕ Bool))
  | x1 => bif decide (x1 < (q0.length : Int)) then (Option.bind (getI q0 x1) fun x3 => Option.bind (getI q1 x1) fun x4 => bif x3 != x4 then (some (.inr (.inr false))) else (some (.inl (w64 (x1 + 1))))) else (some (.inr (.inl ())))
def sh31 (q0 : List Int) (q1 : List Int) : Option (Bool) := bif (q0.length : Int) != (q1.length : Int) then (some false) else (Option.bind (iter (sh31_1 q0 q1) 0) fun y1 => elimS y1 (fun r => some r) fun b1 => (some true))
def T31 (r : Bool) (v : Value) (rs : List Own) : Prop := v = rets [.bool r] ∧ rs = []
set_option maxRecDepth 100000 in
theorem c31 {w : World} {q0 : List Int} {a_0 : Option Addr} {n_0 c_0 : Nat} (g_0 : Rd w a_0 (eI64.fl q0)) (l_0 : q0.length = n_0) (k_0 : n_0 ≤ c_0) {q1 : List Int} {a_1 : Option Addr} {n_1 c_1 : Nat} (g_1 : Rd w a_1 (eI64.fl q1)) (l_1 : q1.length = n_1) (k_1 : n_1 ≤ c_1) {r : Bool} (hres : sh31 q0 q1 = some r) : Calls Go.Proofs.Try.prog 31 [.slice a_0 n_0 c_0, .slice a_1 n_1 c_1].toArray w (Ret w (T31 r)) := by
  subst l_0
  subst l_1
  unfold sh31 at hres
  refine calls_of (n := 26) (M := []) (es := []) Go.Proofs.Try.func31 rfl rfl rfl (Sep.nil _ _ _) ?_
  refine JX.seq ?_
  refine JX.region ?_
  refine JL.val (yl_assign rfl) rfl ?_
  refine JL.nil ?_
  refine JE.code ?_
  refine JX.seq ?_
  refine JX.seq ?_
  refine JX.region ?_
  refine JL.val (yl_move rfl) rfl ?_
  refine JL.val (yl_len_slice Go.Proofs.Try.underlying33 rfl) rfl ?_
  refine JL.val (yl_move rfl) rfl ?_
  refine JL.val (yl_len_slice Go.Proofs.Try.underlying33 rfl) rfl ?_
  refine JL.val (yl_neq rfl rfl) rfl ?_
  refine JL.nil ?_
  refine JE.weak (env' := [(0, .slice a_0 q0.length c_0), (1, .slice a_1 q1.length c_1), (10, .bool ((q0.length : Int) != (q1.length : Int)))]) (es' := []) [] ?_ ⟨rfl, rfl, rfl, trivial⟩ (by decide) rfl
  refine JE.code ?_
  rcases cond_some hres with ⟨hb, hres⟩ | ⟨hb, hres⟩
  · refine JX.condT rfl hb ?_
    refine JX.seq ?_
    refine JX.region ?_
    refine JL.val (yl_assign rfl) rfl ?_
    refine JL.nil ?_
    refine JE.code ?_
    refine JX.ret ?_
    obtain rfl := Option.some.inj hres
    refine JE.ret (rs := [.tmp 4]) (vs := [.bool false]) rfl ⟨rfl, trivial⟩ ?_
    exact fun w' hb hs => ⟨_, _, ⟨rfl, rfl⟩, rfl, hb, hs.sel [] _ (by decide) rfl⟩
  · refine JX.condF rfl hb ?_
    refine JX.skip ?_
    refine JE.code ?_
    refine JX.seq ?_
    refine JX.seq ?_
    refine JX.region ?_
    refine JL.val (yl_assign rfl) rfl ?_
    refine JL.nil ?_
    refine JE.code ?_
    refine JX.block ?_
    obtain ⟨y1, hy1, hresO1⟩ := bind_some hres
    refine JX.loop (I := fun (s1 : Int) aa ww => St w [] 26 [(0, .slice a_0 q0.length c_0), (1, .slice a_1 q1.length c_1), (5, .int .i64 s1)] [] aa ww) (sh31_1 q0 q1) hy1 (fun a w h => h.weak ⟨rfl, rfl, rfl, trivial⟩ [] (by decide) rfl) ?_
    rintro x1 o1 hres hox1 aa ww hS
    refine (?_ : JX Go.Proofs.Try.prog w [] 26 _ _ [(0, .slice a_0 q0.length c_0), (1, .slice a_1 q1.length c_1), (5, .int .i64 x1)] [] _) aa ww hS
    clear hS
    unfold sh31_1 at hres
    refine JX.seq ?_
    refine JX.seq ?_
    refine JX.region ?_
    refine JL.val (yl_move rfl) rfl ?_
    refine JL.val (yl_move rfl) rfl ?_
    refine JL.val (yl_len_slice Go.Proofs.Try.underlying33 rfl) rfl ?_
    refine JL.val (yl_lss rfl rfl) rfl ?_
    refine JL.nil ?_
    refine JE.weak (env' := [(0, .slice a_0 q0.length c_0), (1, .slice a_1 q1.length c_1), (5, .int .i64 x1), (14, .bool (decide (x1 < (q0.length : Int))))]) (es' := []) [] ?_ ⟨rfl, rfl, rfl, rfl, trivial⟩ (by decide) rfl
    refine JE.code ?_
    rcases cond_some hres with ⟨hb, hres⟩ | ⟨hb, hres⟩
    · refine JX.condT rfl hb ?_
      refine JX.skip ?_
      refine JE.code ?_
      refine JX.seq ?_
      refine JX.block ?_
      refine JX.seq ?_
      refine JX.drawH [(0, .pure), (1, .pure), (2, .pure), (3, .read), (4, .pure), (5, .pure), (6, .pure), (7, .read), (8, .pure)] [] [] [] [] [] mixedP (by kernel_rfl) (by kernel_rfl) (by decide) rfl rfl ?_
      intro wrr2 Nr2 hFr2
      refine JH.pure rfl (yl_move rfl) rfl ?_
      refine JH.pure rfl (yl_move rfl) rfl ?_
      obtain ⟨x3, hx3, hres⟩ := bind_some hres
      refine JH.pure rfl (yl_idxQ Go.Proofs.Try.underlying33 i2 i2s rfl rfl hx3 rfl (rd_arg g_0 hFr2.cl) rfl) rfl ?_
      refine JH.read rfl (yl_loadT0 Go.Proofs.Try.underlying2 rfl rfl hx3 (fun w hw => hFr2.arg g_0 hw) rfl) rfl ?_
      refine JH.pure rfl (yl_move rfl) rfl ?_
      refine JH.pure rfl (yl_move rfl) rfl ?_
      obtain ⟨x4, hx4, hres⟩ := bind_some hres
      refine JH.pure rfl (yl_idxQ Go.Proofs.Try.underlying33 i2 i2s rfl rfl hx4 rfl (rd_arg g_1 hFr2.cl) rfl) rfl ?_
      refine JH.read rfl (yl_loadT0 Go.Proofs.Try.underlying2 rfl rfl hx4 (fun w hw => hFr2.arg g_1 hw) rfl) rfl ?_
      refine JH.pure rfl (yl_neq rfl rfl) rfl ?_
      refine JH.nil ?_
      refine JE.weak (env' := [(0, .slice a_0 q0.length c_0), (1, .slice a_1 q1.length c_1), (5, .int .i64 x1), (25, .bool (x3 != x4))]) (es' := []) [] ?_ ⟨rfl, rfl, rfl, rfl, trivial⟩ (by decide) rfl
      refine JE.code ?_
      rcases cond_some hres with ⟨hb, hres⟩ | ⟨hb, hres⟩
      · refine JX.condT rfl hb ?_
        refine JX.seq ?_
        refine JX.region ?_
        refine JL.val (yl_assign rfl) rfl ?_
        refine JL.nil ?_
        refine JE.code ?_
        refine JX.ret ?_
        refine JE.qbr ?_
        refine JE.qbr ?_
        have hres := elimS_inr hresO1 (hox1 _ (Option.some.inj hres).symm)
        obtain rfl := Option.some.inj hres
        refine JE.ret (rs := [.tmp 4]) (vs := [.bool false]) rfl ⟨rfl, trivial⟩ ?_
        exact fun w' hb hs => ⟨_, _, ⟨rfl, rfl⟩, rfl, hb, hs.sel [] _ (by decide) rfl⟩
      · refine JX.condF rfl hb ?_
        refine JX.skip ?_
        refine JE.code ?_
        refine JX.region ?_
        refine JL.val (yl_move rfl) rfl ?_
        refine JL.val (yl_add rfl rfl) rfl ?_
        refine JL.val (yl_assign rfl) rfl ?_
        refine JL.nil ?_
        refine JE.cont hres ?_
        exact fun a w h => h.weak ⟨rfl, rfl, rfl, trivial⟩ [] (by decide) rfl
    · refine JX.condF rfl hb ?_
      refine JX.exit ?_
      refine JE.qb rfl ?_
      obtain ⟨b1, hb1⟩ : ∃ b : Unit, b = () := ⟨_, rfl⟩
      have hy1 : Sum.inl b1 = y1 := by rw [hb1]; exact hox1 _ (Option.some.inj hres).symm
      have hres := elimS_inl hresO1 hy1
      refine JE.weak (env' := []) (es' := []) [] ?_ trivial (by decide) (by subst hb1; rfl)
      refine JE.code ?_
      refine JX.seq ?_
      refine JX.region ?_
      refine JL.val (yl_assign rfl) rfl ?_
      refine JL.nil ?_
      refine JE.code ?_
      refine JX.ret ?_
      obtain rfl := Option.some.inj hres
      refine JE.ret (rs := [.tmp 4]) (vs := [.bool true]) rfl ⟨rfl, trivial⟩ ?_
      exact fun w' hb hs => ⟨_, _, ⟨rfl, rfl⟩, rfl, hb, hs.sel [] _ (by decide) rfl⟩

/- laws.eqPanel -/
def sh32 (q0 : SPanel) (q1 : SPanel) : Option (Bool) := bif q0.W != q1.W then (some false) else (bif q0.H != q1.H then (some false) else (Option.bind (sh31 q0.Breaks q1.Breaks) fun x5 => bif !x5 then (some false) else (some true)))
def T32 (r : Bool) (v : Value) (rs : List Own) : Prop := v = rets [.bool r] ∧ rs = []
set_option maxRecDepth 100000 in
theorem c32 {w : World} {q0 : SPanel} {a_0_2 : Option Addr} {n_0_2 c_0_2 : Nat} (g_0_2 : Rd w a_0_2 (eI64.fl q0.Breaks)) (l_0_2 : q0.Breaks.length = n_0_2) (k_0_2 : n_0_2 ≤ c_0_2) {q1 : SPanel} {a_1_2 : Option Addr} {n_1_2 c_1_2 : Nat} (g_1_2 : Rd w a_1_2 (eI64.fl q1.Breaks)) (l_1_2 : q1.Breaks.length = n_1_2) (k_1_2 : n_1_2 ≤ c_1_2) {r : Bool} (hres : sh32 q0 q1 = some r) : Calls Go.Proofs.Try.prog 32 [.agg #[.int .i64 q0.W, .int .i64 q0.H, .slice a_0_2 n_0_2 c_0_2], .agg #[.int .i64 q1.W, .int .i64 q1.H, .slice a_1_2 n_1_2 c_1_2]].toArray w (Ret w (T32 r)) := by
  subst l_0_2
  subst l_1_2
  unfold sh32 at hres
  refine calls_of (n := 21) (M := []) (es := []) Go.Proofs.Try.func32 rfl rfl rfl (Sep.nil _ _ _) ?_
  refine JX.seq ?_
  refine JX.region ?_
  refine JL.eff (ef_box rfl rfl) rfl ?_
  rintro _ _ ⟨g1, rfl, rfl⟩
  refine JL.eff (ef_box rfl rfl) rfl ?_
  rintro _ _ ⟨g3, rfl, rfl⟩
  refine JL.val (yl_assign rfl) rfl ?_
  refine JL.nil ?_
  refine JE.code ?_
  refine JX.seq ?_
  refine JX.seq ?_
  refine JX.region ?_
  refine JL.val (yl_fieldAt (a := some _) Go.Proofs.Try.underlying39 rfl i2 i2n rfl rfl) rfl ?_
  refine JL.val (yl_load1 Go.Proofs.Try.underlying2 rfl rfl (fun w hC => rd_box hC 0 rfl) rfl) rfl ?_
  refine JL.val (yl_fieldAt (a := some _) Go.Proofs.Try.underlying39 rfl i2 i2n rfl rfl) rfl ?_
  refine JL.val (yl_load1 Go.Proofs.Try.underlying2 rfl rfl (fun w hC => rd_box hC 1 rfl) rfl) rfl ?_
  refine JL.val (yl_neq rfl rfl) rfl ?_
  refine JL.nil ?_
  refine JE.weak (env' := [(2, ptrAt (some ⟨g1, 0, none⟩) 0), (3, ptrAt (some ⟨g3, 0, none⟩) 0), (9, .bool (q0.W != q1.W))]) (es' := [boxO 39 g1 [.int .i64 q0.W, .int .i64 q0.H, .slice a_0_2 q0.Breaks.length c_0_2], boxO 39 g3 [.int .i64 q1.W, .int .i64 q1.H, .slice a_1_2 q1.Breaks.length c_1_2]]) [0, 1] ?_ ⟨rfl, rfl, rfl, trivial⟩ (by decide) rfl
  refine JE.code ?_
  rcases cond_some hres with ⟨hb, hres⟩ | ⟨hb, hres⟩
  · refine JX.condT rfl hb ?_
    refine JX.seq ?_
    refine JX.region ?_
    refine JL.val (yl_assign rfl) rfl ?_
    refine JL.nil ?_
    refine JE.weak (env' := [(4, .bool false)]) (es' := []) [] ?_ ⟨rfl, trivial⟩ (by decide) rfl
    refine JE.code ?_
    refine JX.ret ?_
    obtain rfl := Option.some.inj hres
    refine JE.ret (rs := [.tmp 4]) (vs := [.bool false]) rfl ⟨rfl, trivial⟩ ?_
    exact fun w' hb hs => ⟨_, _, ⟨rfl, rfl⟩, rfl, hb, hs.sel [] _ (by decide) rfl⟩
  · refine JX.condF rfl hb ?_
    refine JX.skip ?_
    refine JE.code ?_
    refine JX.seq ?_
    refine JX.seq ?_
    refine JX.region ?_
    refine JL.val (yl_fieldAt (a := some _) Go.Proofs.Try.underlying39 rfl i2 i2n rfl rfl) rfl ?_
    refine JL.val (yl_load1 Go.Proofs.Try.underlying2 rfl rfl (fun w hC => rd_box hC 0 rfl) rfl) rfl ?_
    refine JL.val (yl_fieldAt (a := some _) Go.Proofs.Try.underlying39 rfl i2 i2n rfl rfl) rfl ?_
    refine JL.val (yl_load1 Go.Proofs.Try.underlying2 rfl rfl (fun w hC => rd_box hC 1 rfl) rfl) rfl ?_
    refine JL.val (yl_neq rfl rfl) rfl ?_
    refine JL.nil ?_
    refine JE.weak (env' := [(2, ptrAt (some ⟨g1, 0, none⟩) 0), (3, ptrAt (some ⟨g3, 0, none⟩) 0), (14, .bool (q0.H != q1.H))]) (es' := [boxO 39 g1 [.int .i64 q0.W, .int .i64 q0.H, .slice a_0_2 q0.Breaks.length c_0_2], boxO 39 g3 [.int .i64 q1.W, .int .i64 q1.H, .slice a_1_2 q1.Breaks.length c_1_2]]) [0, 1] ?_ ⟨rfl, rfl, rfl, trivial⟩ (by decide) rfl
    refine JE.code ?_
    rcases cond_some hres with ⟨hb, hres⟩ | ⟨hb, hres⟩
    · refine JX.condT rfl hb ?_
      refine JX.seq ?_
      refine JX.region ?_
      refine JL.val (yl_assign rfl) rfl ?_
      refine JL.nil ?_
      refine JE.weak (env' := [(4, .bool false)]) (es' := []) [] ?_ ⟨rfl, trivial⟩ (by decide) rfl
      refine JE.code ?_
      refine JX.ret ?_
      obtain rfl := Option.some.inj hres
      refine JE.ret (rs := [.tmp 4]) (vs := [.bool false]) rfl ⟨rfl, trivial⟩ ?_
      exact fun w' hb hs => ⟨_, _, ⟨rfl, rfl⟩, rfl, hb, hs.sel [] _ (by decide) rfl⟩
    · refine JX.condF rfl hb ?_
      refine JX.skip ?_
      refine JE.code ?_
      refine JX.seq ?_
      refine JX.seq ?_
      refine JX.region ?_
      refine JL.val (yl_fieldAt (a := some _) Go.Proofs.Try.underlying39 rfl i33 i33n rfl rfl) rfl ?_
      refine JL.val (yl_load1 Go.Proofs.Try.underlying33 rfl rfl (fun w hC => rd_box hC 0 rfl) rfl) rfl ?_
      refine JL.val (yl_fieldAt (a := some _) Go.Proofs.Try.underlying39 rfl i33 i33n rfl rfl) rfl ?_
      refine JL.val (yl_load1 Go.Proofs.Try.underlying33 rfl rfl (fun w hC => rd_box hC 1 rfl) rfl) rfl ?_
      obtain ⟨x5, hx5, hres⟩ := bind_some hres
      refine JL.eff (ef_call (T := T31 x5) Go.Proofs.Try.func31 rfl (by kernel_rfl) rfl (fun w hC => c31 (rd_arg g_0_2 hC) rfl k_0_2 (rd_arg g_1_2 hC) rfl k_1_2 hx5)) rfl ?_
      rintro _ _ ⟨_, ⟨rfl, rfl⟩, rfl⟩
      refine JL.val (yl_not rfl) rfl ?_
      refine JL.nil ?_
      refine JE.weak (env' := [(20, .bool !x5)]) (es' := []) [] ?_ ⟨rfl, trivial⟩ (by decide) rfl
      refine JE.code ?_
      rcases cond_some hres with ⟨hb, hres⟩ | ⟨hb, hres⟩
      · refine JX.condT rfl hb ?_
        refine JX.seq ?_
        refine JX.region ?_
        refine JL.val (yl_assign rfl) rfl ?_
        refine JL.nil ?_
        refine JE.code ?_
        refine JX.ret ?_
        obtain rfl := Option.some.inj hres
        refine JE.ret (rs := [.tmp 4]) (vs := [.bool false]) rfl ⟨rfl, trivial⟩ ?_
        exact fun w' hb hs => ⟨_, _, ⟨rfl, rfl⟩, rfl, hb, hs.sel [] _ (by decide) rfl⟩
      · refine JX.condF rfl hb ?_
        refine JX.skip ?_
        refine JE.code ?_
        refine JX.seq ?_
        refine JX.region ?_
        refine JL.val (yl_assign rfl) rfl ?_
        refine JL.nil ?_
        refine JE.code ?_
        refine JX.ret ?_
        obtain rfl := Option.some.inj hres
        refine JE.ret (rs := [.tmp 4]) (vs := [.bool true]) rfl ⟨rfl, trivial⟩ ?_
        exact fun w' hb hs => ⟨_, _, ⟨rfl, rfl⟩, rfl, hb, hs.sel [] _ (by decide) rfl⟩

/- laws.markInt64S -/
def sh34_1 (q0 : List Int) : (Int × Int × List Int) → Option ((Int × Int × List Int) ⊕ (Int × List Int))
  | (x2, x3, x4) => bif decide (x3 < ((q0.length : Nat) : Int)) then (Option.bind (getI x4 x3) fun x6 => some (.inl (w64 (x2 + 1), w64 (x3 + 1), x4.set (x3).toNat x2))) else (some (.inr (x2, x4)))
def sh34 (q0 : List Int) (q1 : Int) : Option (Int × List Int) := Option.bind (iter (sh34_1 q0) (q1, 0, q0)) fun b1 => (some (b1.1, b1.2))
def T34 (a_ : Option Addr) (n_ c_ : Nat) (r : Int × List Int) (v : Value) (e' : Own) (rs : List Own) : Prop := r.2.length = n_ ∧ e' = rowT 2 eI64 a_ n_ c_ r.2 ∧ v = rets [.int .i64 r.1] ∧ rs = []
set_option maxRecDepth 100000 in
theorem c34 {w : World} {q0 : List Int} {a_0 : Option Addr} {n_0 c_0 : Nat} {M : List Nat} (g_0 : Sep w.heap.size M w [rowT 2 eI64 a_0 n_0 c_0 q0]) (l_0 : q0.length = n_0) {q1 : Int} {r : Int × List Int} (hres : sh34 q0 q1 = some r) : Calls Go.Proofs.Try.prog 34 [.slice a_0 n_0 c_0, .int .i64 q1].toArray w (RetM w M (T34 a_0 n_0 c_0 r)) := by
  subst l_0
  unfold sh34 at hres
  refine calls_of (n := 19) (M := M) (es := [rowT 2 eI64 a_0 q0.length c_0 q0]) Go.Proofs.Try.func34 rfl rfl rfl g_0 ?_
  refine JX.seq ?_
  refine JX.region ?_
  refine JL.val (yl_assign rfl) rfl ?_
  refine JL.nil ?_
  refine JE.code ?_
  refine JX.seq ?_
  refine JX.seq ?_
  refine JX.region ?_
  refine JL.val (yl_assign rfl) rfl ?_
  refine JL.nil ?_
  refine JE.code ?_
  refine JX.block ?_
  obtain ⟨y1, hy1, hresO1⟩ := bind_some hres
  refine JX.loop (I := fun (s1 : Int × Int × List Int) aa ww => ∃ (l1 : s1.2.2.length = q0.length), St w M 19 [(0, .slice a_0 q0.length c_0), (1, .int .i64 s1.1), (5, .int .i64 s1.2.1)] [rowT 2 eI64 a_0 q0.length c_0 s1.2.2] aa ww) (sh34_1 q0) hy1 (fun a w h => ⟨rfl, h.weak ⟨rfl, rfl, rfl, trivial⟩ [0] (by decide) rfl⟩) ?_
  rintro ⟨x2, x3, x4⟩ o1 hres hox1 aa ww ⟨l5, hS⟩
  refine (?_ : JX Go.Proofs.Try.prog w M 19 _ _ [(0, .slice a_0 q0.length c_0), (1, .int .i64 x2), (5, .int .i64 x3)] [rowT 2 eI64 a_0 q0.length c_0 x4] _) aa ww hS
  clear hS
  simp only [sh34_1] at hres
  refine JX.seq ?_
  refine JX.seq ?_
  refine JX.region ?_
  refine JL.val (yl_move rfl) rfl ?_
  refine JL.val (yl_move rfl) rfl ?_
  refine JL.val (yl_len_slice Go.Proofs.Try.underlying33 rfl) rfl ?_
  refine JL.val (yl_lss rfl rfl) rfl ?_
  refine JL.nil ?_
  refine JE.weak (env' := [(0, .slice a_0 q0.length c_0), (1, .int .i64 x2), (5, .int .i64 x3), (9, .bool (decide (x3 < ((q0.length : Nat) : Int))))]) (es' := [rowT 2 eI64 a_0 q0.length c_0 x4]) [0] ?_ ⟨rfl, rfl, rfl, rfl, trivial⟩ (by decide) rfl
  refine JE.code ?_
  rcases cond_some hres with ⟨hb, hres⟩ | ⟨hb, hres⟩
  · refine JX.condT rfl hb ?_
    refine JX.skip ?_
    refine JE.code ?_
    refine JX.seq ?_
    refine JX.block ?_
    refine JX.seq ?_
    refine JX.region ?_
    refine JL.val (yl_move rfl) rfl ?_
    refine JL.val (yl_move rfl) rfl ?_
    refine JL.val (yl_move rfl) rfl ?_
    obtain ⟨x6, hx6, hres⟩ := bind_some hres
    refine JL.val (yl_idxT Go.Proofs.Try.underlying33 i2 i2s rfl rfl hx6 l5 (fun w hC => rd_row hC 0 rfl)) rfl ?_
    refine JL.eff (ef_storeT (ix := 0) (u := x2) i2 i2s rfl rfl rfl hx6 rfl) rfl ?_
    rintro _ _ rfl
    refine JL.nil ?_
    refine JE.weak (env' := [(0, .slice a_0 q0.length c_0), (1, .int .i64 x2), (5, .int .i64 x3)]) (es' := [rowT 2 eI64 a_0 q0.length c_0 (x4.set (x3).toNat x2)]) [0] ?_ ⟨rfl, rfl, rfl, trivial⟩ (by decide) rfl
    refine JE.code ?_
    refine JX.region ?_
    refine JL.val (yl_move rfl) rfl ?_
    refine JL.val (yl_add rfl rfl) rfl ?_
    refine JL.val (yl_assign rfl) rfl ?_
    refine JL.nil ?_
    refine JE.code ?_
    refine JX.region ?_
    refine JL.val (yl_move rfl) rfl ?_
    refine JL.val (yl_add rfl rfl) rfl ?_
    refine JL.val (yl_assign rfl) rfl ?_
    refine JL.nil ?_
    refine JE.cont hres ?_
    exact fun a w h => ⟨(List.length_set.trans l5), h.weak ⟨rfl, rfl, rfl, trivial⟩ [0] (by decide) rfl⟩
  · refine JX.condF rfl hb ?_
    refine JX.exit ?_
    refine JE.qb rfl ?_
    obtain ⟨b1, hb1⟩ : ∃ b : Int × List Int, b = (x2, x4) := ⟨_, rfl⟩
    have hy1 : b1 = y1 := by rw [hb1]; exact hox1 _ (Option.some.inj hres).symm
    have hres := hresO1
    rw [← hy1] at hres
    have l7 : b1.2.length = q0.length := by subst hb1; exact l5
    refine JE.weak (env' := [(1, .int .i64 b1.1)]) (es' := [rowT 2 eI64 a_0 q0.length c_0 b1.2]) [0] ?_ ⟨(by subst hb1; rfl), trivial⟩ (by decide) (by subst hb1; rfl)
    refine JE.code ?_
    refine JX.seq ?_
    refine JX.region ?_
    refine JL.val (yl_move rfl) rfl ?_
    refine JL.val (yl_assign rfl) rfl ?_
    refine JL.nil ?_
    refine JE.code ?_
    refine JX.ret ?_
    obtain rfl := Option.some.inj hres
    refine JE.ret (rs := [.tmp 4]) (vs := [.int .i64 b1.1]) rfl ⟨rfl, trivial⟩ ?_
    exact fun w' hb hs => ⟨_, _, _, ⟨l7, rfl, rfl, rfl⟩, rfl, hb, hs.sel [0] _ (by decide) rfl⟩

/- laws.markPanel -/
def sh33 (q0 : SPanel) (q1 : Int) : Option (Int × List Int) := Option.bind (sh34 q0.Breaks q1) fun x3 => some (x3.1, x3.2)
def T33 (a_0_2 : Option Addr) (n_0_2 c_0_2 : Nat) (r : Int × List Int) (v : Value) (es' rs : List Own) : Prop := r.2.length = n_0_2 ∧ es' = [rowT 2 eI64 a_0_2 n_0_2 c_0_2 r.2] ∧ v = rets [.int .i64 r.1] ∧ rs = []
set_option maxRecDepth 100000 in
theorem c33 {w : World} {M : List Nat} {q0 : SPanel} {a_0_2 : Option Addr} {n_0_2 c_0_2 : Nat} (l_0_2 : q0.Breaks.length = n_0_2) {q1 : Int} (gs : Sep w.heap.size M w [rowT 2 eI64 a_0_2 n_0_2 c_0_2 q0.Breaks]) {r : Int × List Int} (hres : sh33 q0 q1 = some r) : Calls Go.Proofs.Try.prog 33 [.agg #[.int .i64 q0.W, .int .i64 q0.H, .slice a_0_2 n_0_2 c_0_2], .int .i64 q1].toArray w (RetMs w M (T33 a_0_2 q0.Breaks.length c_0_2 r)) := by
  subst l_0_2
  unfold sh33 at hres
  refine calls_of (n := 10) (M := M) (es := [rowT 2 eI64 a_0_2 q0.Breaks.length c_0_2 q0.Breaks]) Go.Proofs.Try.func33 rfl rfl rfl gs ?_
  refine JX.seq ?_
  refine JX.region ?_
  refine JL.eff (ef_box rfl rfl) rfl ?_
  rintro _ _ ⟨g1, rfl, rfl⟩
  refine JL.val (yl_assign rfl) rfl ?_
  refine JL.nil ?_
  refine JE.code ?_
  refine JX.seq ?_
  refine JX.region ?_
  refine JL.val (yl_fieldAt (a := some _) Go.Proofs.Try.underlying39 rfl i33 i33n rfl rfl) rfl ?_
  refine JL.val (yl_load1 Go.Proofs.Try.underlying33 rfl rfl (fun w hC => rd_box hC 1 rfl) rfl) rfl ?_
  refine JL.val (yl_move rfl) rfl ?_
  obtain ⟨x3, hx3, hres⟩ := bind_some hres
  refine JL.eff (ef_callm (T := T34 a_0_2 q0.Breaks.length c_0_2 x3) 0 Go.Proofs.Try.func34 rfl (by kernel_rfl) rfl rfl (fun w fp hs => c34 hs rfl hx3)) rfl ?_
  rintro _ _ ⟨_, _, ⟨l4, rfl, rfl, rfl⟩, rfl⟩
  refine JL.val (yl_assign rfl) rfl ?_
  refine JL.nil ?_
  refine JE.weak (env' := [(1, .int .i64 x3.1)]) (es' := [rowT 2 eI64 a_0_2 q0.Breaks.length c_0_2 x3.2]) [0] ?_ ⟨rfl, trivial⟩ (by decide) rfl
  refine JE.code ?_
  refine JX.seq ?_
  refine JX.region ?_
  refine JL.val (yl_move rfl) rfl ?_
  refine JL.val (yl_assign rfl) rfl ?_
  refine JL.nil ?_
  refine JE.code ?_
  refine JX.ret ?_
  obtain rfl := Option.some.inj hres
  refine JE.ret (rs := [.tmp 4]) (vs := [.int .i64 x3.1]) rfl ⟨rfl, trivial⟩ ?_
  exact fun w' hb hs => ⟨_, _, _, ⟨l4, rfl, rfl, rfl⟩, rfl, hb, hs.sel [0] _ (by decide) rfl⟩

/- laws.heldInt64S -/
def sh35_1 (q0 : List Int) : (Int × Int) → Option ((Int × Int) ⊕ (Int ⊕ Int))
  | (x1, x2) => bif decide (x2 < (q0.length : Int)) then (Option.bind (getI q0 x2) fun x3 => bif x3 != x1 then (some (.inr (.inr (-1)))) else (some (.inl (w64 (x1 + 1), w64 (x2 + 1))))) else (some (.inr (.inl x1)))
def sh35 (q0 : List Int) (q1 : Int) : Option (Int) := Option.bind (iter (sh35_1 q0) (q1, 0)) fun y1 => elimS y1 (fun r => some r) fun b1 => (some b1)
def T35 (r : Int) (v : Value) (rs : List Own) : Prop := v = rets [.int .i64 r] ∧ rs = []
set_option maxRecDepth 100000 in
theorem c35 {w : World} {q0 : List Int} {a_0 : Option Addr} {n_0 c_0 : Nat} (g_0 : Rd w a_0 (eI64.fl q0)) (l_0 : q0.length = n_0) (k_0 : n_0 ≤ c_0) {q1 : Int} {r : Int} (hres : sh35 q0 q1 = some r) : Calls Go.Proofs.Try.prog 35 [.slice a_0 n_0 c_0, .int .i64 q1].toArray w (Ret w (T35 r)) := by
  subst l_0
  unfold sh35 at hres
  refine calls_of (n := 21) (M := []) (es := []) Go.Proofs.Try.func35 rfl rfl rfl (Sep.nil _ _ _) ?_
  refine JX.seq ?_
  refine JX.region ?_
  refine JL.val (yl_assign rfl) rfl ?_
  refine JL.nil ?_
  refine JE.code ?_
  refine JX.seq ?_
  refine JX.seq ?_
  refine JX.region ?_
  refine JL.val (yl_assign rfl) rfl ?_
  refine JL.nil ?_
  refine JE.code ?_
  refine JX.block ?_
  obtain ⟨y1, hy1, hresO1⟩ := bind_some hres
  refine JX.loop (I := fun (s1 : Int × Int) aa ww => St w [] 21 [(0, .slice a_0 q0.length c_0), (1, .int .i64 s1.1), (5, .int .i64 s1.2)] [] aa ww) (sh35_1 q0) hy1 (fun a w h => h.weak ⟨rfl, rfl, rfl, trivial⟩ [] (by decide) rfl) ?_
  rintro ⟨x1, x2⟩ o1 hres hox1 aa ww hS
  refine (?_ : JX Go.Proofs.Try.prog w [] 21 _ _ [(0, .slice a_0 q0.length c_0), (1, .int .i64 x1), (5, .int .i64 x2)] [] _) aa ww hS
  clear hS
  simp only [sh35_1] at hres
  refine JX.seq ?_
  refine JX.seq ?_
  refine JX.region ?_
  refine JL.val (yl_move rfl) rfl ?_
  refine JL.val (yl_move rfl) rfl ?_
  refine JL.val (yl_len_slice Go.Proofs.Try.underlying33 rfl) rfl ?_
  refine JL.val (yl_lss rfl rfl) rfl ?_
  refine JL.nil ?_
  refine JE.weak (env' := [(0, .slice a_0 q0.length c_0), (1, .int .i64 x1), (5, .int .i64 x2), (9, .bool (decide (x2 < (q0.length : Int))))]) (es' := []) [] ?_ ⟨rfl, rfl, rfl, rfl, trivial⟩ (by decide) rfl
  refine JE.code ?_
  rcases cond_some hres with ⟨hb, hres⟩ | ⟨hb, hres⟩
  · refine JX.condT rfl hb ?_
    refine JX.skip ?_
    refine JE.code ?_
    refine JX.seq ?_
    refine JX.block ?_
    refine JX.seq ?_
    refine JX.seq ?_
    refine JX.region ?_
    refine JL.val (yl_move rfl) rfl ?_
    refine JL.val (yl_move rfl) rfl ?_
    obtain ⟨x3, hx3, hres⟩ := bind_some hres
    refine JL.val (yl_idxT Go.Proofs.Try.underlying33 i2 i2s rfl rfl hx3 rfl (fun w hC => rd_arg g_0 hC)) rfl ?_
    refine JL.val (yl_loadT0 Go.Proofs.Try.underlying2 rfl rfl hx3 (fun w hC => rd_arg g_0 hC) rfl) rfl ?_
    refine JL.val (yl_move rfl) rfl ?_
    refine JL.val (yl_neq rfl rfl) rfl ?_
    refine JL.nil ?_
    refine JE.weak (env' := [(0, .slice a_0 q0.length c_0), (1, .int .i64 x1), (5, .int .i64 x2), (17, .bool (x3 != x1))]) (es' := []) [] ?_ ⟨rfl, rfl, rfl, rfl, trivial⟩ (by decide) rfl
    refine JE.code ?_
    rcases cond_some hres with ⟨hb, hres⟩ | ⟨hb, hres⟩
    · refine JX.condT rfl hb ?_
      refine JX.seq ?_
      refine JX.region ?_
      refine JL.val (yl_assign rfl) rfl ?_
      refine JL.nil ?_
      refine JE.code ?_
      refine JX.ret ?_
      refine JE.qbr ?_
      refine JE.qbr ?_
      have hres := elimS_inr hresO1 (hox1 _ (Option.some.inj hres).symm)
      obtain rfl := Option.some.inj hres
      refine JE.ret (rs := [.tmp 4]) (vs := [.int .i64 (-1)]) rfl ⟨rfl, trivial⟩ ?_
      exact fun w' hb hs => ⟨_, _, ⟨rfl, rfl⟩, rfl, hb, hs.sel [] _ (by decide) rfl⟩
    · refine JX.condF rfl hb ?_
      refine JX.skip ?_
      refine JE.code ?_
      refine JX.region ?_
      refine JL.val (yl_move rfl) rfl ?_
      refine JL.val (yl_add rfl rfl) rfl ?_
      refine JL.val (yl_assign rfl) rfl ?_
      refine JL.nil ?_
      refine JE.code ?_
      refine JX.region ?_
      refine JL.val (yl_move rfl) rfl ?_
      refine JL.val (yl_add rfl rfl) rfl ?_
      refine JL.val (yl_assign rfl) rfl ?_
      refine JL.nil ?_
      refine JE.cont hres ?_
      exact fun a w h => h.weak ⟨rfl, rfl, rfl, trivial⟩ [] (by decide) rfl
  · refine JX.condF rfl hb ?_
    refine JX.exit ?_
    refine JE.qb rfl ?_
    obtain ⟨b1, hb1⟩ : ∃ b : Int, b = x1 := ⟨_, rfl⟩
    have hy1 : Sum.inl b1 = y1 := by rw [hb1]; exact hox1 _ (Option.some.inj hres).symm
    have hres := elimS_inl hresO1 hy1
    refine JE.weak (env' := [(1, .int .i64 b1)]) (es' := []) [] ?_ ⟨(by subst hb1; rfl), trivial⟩ (by decide) (by subst hb1; rfl)
    refine JE.code ?_
    refine JX.seq ?_
    refine JX.region ?_
    refine JL.val (yl_move rfl) rfl ?_
    refine JL.val (yl_assign rfl) rfl ?_
    refine JL.nil ?_
    refine JE.code ?_
    refine JX.ret ?_
    obtain rfl := Option.some.inj hres
    refine JE.ret (rs := [.tmp 4]) (vs := [.int .i64 b1]) rfl ⟨rfl, trivial⟩ ?_
    exact fun w' hb hs => ⟨_, _, ⟨rfl, rfl⟩, rfl, hb, hs.sel [] _ (by decide) rfl⟩

/- laws.FnExactCarveOrder -/
def sh6 (q0 : SPanel) : Option (Bool) := Option.bind (sh27 q0 1048576) fun x3 => bif decide (x3 < 0) then (some true) else (Option.bind (sh29 q0) fun x4 => Option.bind (sh28 x4) fun x8 => Option.bind (sh29 q0) fun x12 => Option.bind (sh30 x12) fun x18 => Option.bind (sh31 x18.1 x8.1) fun x22 => bif !x22 || (x18.2 != x8.2) then (some false) else (Option.bind (sh29 q0) fun x24 => Option.bind (sh32 x12 x24) fun x28 => bif !x28 then (some false) else (Option.bind (sh33 x12 1) fun x29 => Option.bind (bif decide (x29.1 < 0) then (some true) else (Option.bind (sh31 x18.1 x8.1) fun x32 => some !x32)) fun cb31 => (bif cb31 || (x18.2 != x8.2) then (some false) else (Option.bind (sh34 x18.1 1) fun x33 => Option.bind (sh35 x33.2 1) fun x35 => bif decide (x35 < 0) then (some false) else (bif x35 != x33.1 then (some false) else (Option.bind (sh29 q0) fun x36 => Option.bind (sh30 x36) fun x40 => Option.bind (sh31 x40.1 x8.1) fun x44 => bif !x44 || (x40.2 != x8.2) then (some false) else (Option.bind (sh35 x33.2 1) fun x45 => bif decide (x45 < 0) then (some false) else (bif x45 != x33.1 then (some false) else (some true))))))))))
def T6 (r : Bool) (v : Value) (rs : List Own) : Prop := v = rets [.bool r] ∧ rs = []
set_option maxRecDepth 100000 in
set_option maxHeartbeats 1000000 in
theorem c6 {w : World} {q0 : SPanel} {a_0_2 : Option Addr} {n_0_2 c_0_2 : Nat} (g_0_2 : Rd w a_0_2 (eI64.fl q0.Breaks)) (l_0_2 : q0.Breaks.length = n_0_2) (k_0_2 : n_0_2 ≤ c_0_2) {r : Bool} (hres : sh6 q0 = some r) : Calls Go.Proofs.Try.prog 6 [.agg #[.int .i64 q0.W, .int .i64 q0.H, .slice a_0_2 n_0_2 c_0_2]].toArray w (Ret w (T6 r)) := by
  subst l_0_2
  unfold sh6 at hres
  refine calls_of (n := 96) (M := []) (es := []) Go.Proofs.Try.func6 rfl rfl rfl (Sep.nil _ _ _) ?_
  refine JX.seq ?_
  refine JX.region ?_
  refine JL.eff (ef_box rfl rfl) rfl ?_
  rintro _ _ ⟨g1, rfl, rfl⟩
  refine JL.val (yl_assign rfl) rfl ?_
  refine JL.nil ?_
  refine JE.code ?_
  refine JX.seq ?_
  refine JX.region ?_
  refine JL.val (yl_assign rfl) rfl ?_
  refine JL.nil ?_
  refine JE.code ?_
  refine JX.seq ?_
  refine JX.region ?_
  refine JL.val (yl_loadn Go.Proofs.Try.underlying35 rfl i35 rfl (fun w hC => rd_box hC 0 rfl) rfl (i35s).symm i35p) rfl ?_
  refine JL.val (yl_move rfl) rfl ?_
  obtain ⟨x3, hx3, hres⟩ := bind_some hres
  refine JL.eff (ef_call (vs := [.agg #[.int .i64 q0.W, .int .i64 q0.H, .slice a_0_2 q0.Breaks.length c_0_2], .int .i64 1048576]) (T := T27 x3) Go.Proofs.Try.func27 rfl (by kernel_rfl) rfl (fun w hC => c27 (q0 := q0) (rd_arg g_0_2 hC) rfl k_0_2 hx3)) rfl ?_
  rintro _ _ ⟨_, ⟨rfl, rfl⟩, rfl⟩
  refine JL.val (yl_assign rfl) rfl ?_
  refine JL.nil ?_
  refine JE.weak (env' := [(1, ptrAt (some ⟨g1, 0, none⟩) 0), (3, .int .i64 x3)]) (es' := [boxO 35 g1 [.int .i64 q0.W, .int .i64 q0.H, .slice a_0_2 q0.Breaks.length c_0_2]]) [0] ?_ ⟨rfl, rfl, trivial⟩ (by decide) rfl
  refine JE.code ?_
  refine JX.seq ?_
  refine JX.seq ?_
  refine JX.region ?_
  refine JL.val (yl_move rfl) rfl ?_
  refine JL.val (yl_lss rfl rfl) rfl ?_
  refine JL.nil ?_
  refine JE.code ?_
  rcases cond_some hres with ⟨hb, hres⟩ | ⟨hb, hres⟩
  · refine JX.condT rfl hb ?_
    refine JX.seq ?_
    refine JX.region ?_
    refine JL.val (yl_assign rfl) rfl ?_
    refine JL.nil ?_
    refine JE.weak (env' := [(2, .bool true)]) (es' := []) [] ?_ ⟨rfl, trivial⟩ (by decide) rfl
    refine JE.code ?_
    refine JX.ret ?_
    obtain rfl := Option.some.inj hres
    refine JE.ret (rs := [.tmp 2]) (vs := [.bool true]) rfl ⟨rfl, trivial⟩ ?_
    exact fun w' hb hs => ⟨_, _, ⟨rfl, rfl⟩, rfl, hb, hs.sel [] _ (by decide) rfl⟩
  · refine JX.condF rfl hb ?_
    refine JX.skip ?_
    refine JE.code ?_
    refine JX.seq ?_
    refine JX.region ?_
    refine JL.val (yl_loadn Go.Proofs.Try.underlying35 rfl i35 rfl (fun w hC => rd_box hC 0 rfl) rfl (i35s).symm i35p) rfl ?_
    obtain ⟨x4, hx4, hres⟩ := bind_some hres
    refine JL.eff (ef_call (vs := [.agg #[.int .i64 q0.W, .int .i64 q0.H, .slice a_0_2 q0.Breaks.length c_0_2]]) (T := T29 x4) Go.Proofs.Try.func29 rfl (by kernel_rfl) rfl (fun w hC => c29 (q0 := q0) (rd_arg g_0_2 hC) rfl k_0_2 hx4)) rfl ?_
    rintro _ _ ⟨_, ⟨a5, _, cp6, rfl, rfl, rfl⟩, rfl⟩
    obtain ⟨x8, hx8, hres⟩ := bind_some hres
    refine JL.eff (ef_call (vs := [.agg #[.int .i64 x4.W, .int .i64 x4.H, .slice a5 x4.Breaks.length cp6]]) (T := T28 x8) Go.Proofs.Try.func28 rfl (by kernel_rfl) rfl (fun w hC => c28 (q0 := x4) (rd_row hC 1 rfl) rfl (ln_row hC 1 rfl) hx8)) rfl ?_
    rintro _ _ ⟨_, ⟨a9, _, cp10, rfl, rfl, rfl⟩, rfl⟩
    refine JL.val (yl_move rfl) rfl ?_
    refine JL.val (yl_extract rfl rfl) rfl ?_
    refine JL.val (yl_extract rfl rfl) rfl ?_
    refine JL.val (yl_assign rfl) rfl ?_
    refine JL.val (yl_assign rfl) rfl ?_
    refine JL.nil ?_
    refine JE.weak (env' := [(1, ptrAt (some ⟨g1, 0, none⟩) 0), (4, .slice a9 x8.1.length cp10), (5, .int .i64 x8.2)]) (es' := [boxO 35 g1 [.int .i64 q0.W, .int .i64 q0.H, .slice a_0_2 q0.Breaks.length c_0_2], rowT 2 eI64 a9 x8.1.length cp10 x8.1]) [0, 2] ?_ ⟨rfl, rfl, rfl, trivial⟩ (by decide) rfl
    refine JE.code ?_
    refine JX.seq ?_
    refine JX.region ?_
    refine JL.val (yl_loadn Go.Proofs.Try.underlying35 rfl i35 rfl (fun w hC => rd_box hC 0 rfl) rfl (i35s).symm i35p) rfl ?_
    obtain ⟨x12, hx12, hres⟩ := bind_some hres
    refine JL.eff (ef_call (vs := [.agg #[.int .i64 q0.W, .int .i64 q0.H, .slice a_0_2 q0.Breaks.length c_0_2]]) (T := T29 x12) Go.Proofs.Try.func29 rfl (by kernel_rfl) rfl (fun w hC => c29 (q0 := q0) (rd_arg g_0_2 hC) rfl k_0_2 hx12)) rfl ?_
    rintro _ _ ⟨_, ⟨a13, _, cp14, rfl, rfl, rfl⟩, rfl⟩
    refine JL.eff (ef_alloc i39 i39z rfl) rfl ?_
    rintro _ _ ⟨g16, rfl, rfl⟩
    refine JL.eff (ef_store_box (i := 3) (v := .agg #[.int .i64 x12.W, .int .i64 x12.H, .slice a13 x12.Breaks.length cp14]) i39 rfl rfl rfl (i39s).symm (Nat.le_of_ble_eq_true rfl) (by simp [Value.cells, Value.oneCell'])) rfl ?_
    rintro _ _ rfl
    refine JL.nil ?_
    refine JE.weak (env' := [(1, ptrAt (some ⟨g1, 0, none⟩) 0), (4, .slice a9 x8.1.length cp10), (5, .int .i64 x8.2), (6, ptrAt (some ⟨g16, 0, none⟩) 0)]) (es' := [boxO 35 g1 [.int .i64 q0.W, .int .i64 q0.H, .slice a_0_2 q0.Breaks.length c_0_2], rowT 2 eI64 a9 x8.1.length cp10 x8.1, boxO 39 g16 [.int .i64 x12.W, .int .i64 x12.H, .slice a13 x12.Breaks.length cp14], rowT 2 eI64 a13 x12.Breaks.length cp14 x12.Breaks]) [0, 1, 3, 2] ?_ ⟨rfl, rfl, rfl, rfl, trivial⟩ (by decide) rfl
    refine JE.code ?_
    refine JX.seq ?_
    refine JX.region ?_
    refine JL.val (yl_loadn Go.Proofs.Try.underlying39 rfl i39 rfl (fun w hC => rd_box hC 2 rfl) rfl (i39s).symm i39p) rfl ?_
    obtain ⟨x18, hx18, hres⟩ := bind_some hres
    refine JL.eff (ef_call (vs := [.agg #[.int .i64 x12.W, .int .i64 x12.H, .slice a13 x12.Breaks.length cp14]]) (T := T30 x18) Go.Proofs.Try.func30 rfl (by kernel_rfl) rfl (fun w hC => c30 (q0 := x12) (rd_row hC 3 rfl) rfl (ln_row hC 3 rfl) hx18)) rfl ?_
    rintro _ _ ⟨_, ⟨a19, _, cp20, rfl, rfl, rfl⟩, rfl⟩
    refine JL.val (yl_move rfl) rfl ?_
    refine JL.val (yl_extract rfl rfl) rfl ?_
    refine JL.val (yl_extract rfl rfl) rfl ?_
    refine JL.val (yl_assign rfl) rfl ?_
    refine JL.val (yl_assign rfl) rfl ?_
    refine JL.nil ?_
    refine JE.weak (env' := [(1, ptrAt (some ⟨g1, 0, none⟩) 0), (4, .slice a9 x8.1.length cp10), (5, .int .i64 x8.2), (6, ptrAt (some ⟨g16, 0, none⟩) 0), (7, .slice a19 x18.1.length cp20), (8, .int .i64 x18.2)]) (es' := [boxO 35 g1 [.int .i64 q0.W, .int .i64 q0.H, .slice a_0_2 q0.Breaks.length c_0_2], rowT 2 eI64 a9 x8.1.length cp10 x8.1, boxO 39 g16 [.int .i64 x12.W, .int .i64 x12.H, .slice a13 x12.Breaks.length cp14], rowT 2 eI64 a13 x12.Breaks.length cp14 x12.Breaks, rowT 2 eI64 a19 x18.1.length cp20 x18.1]) [0, 1, 2, 3, 4] ?_ ⟨rfl, rfl, rfl, rfl, rfl, rfl, trivial⟩ (by decide) rfl
    refine JE.code ?_
    refine JX.seq ?_
    refine JX.seq ?_
    refine JX.region ?_
    refine JL.val (yl_move rfl) rfl ?_
    refine JL.val (yl_move rfl) rfl ?_
    obtain ⟨x22, hx22, hres⟩ := bind_some hres
    refine JL.eff (ef_call (T := T31 x22) Go.Proofs.Try.func31 rfl (by kernel_rfl) rfl (fun w hC => c31 (rd_row hC 4 rfl) rfl (ln_row hC 4 rfl) (rd_row hC 1 rfl) rfl (ln_row hC 1 rfl) hx22)) rfl ?_
    rintro _ _ ⟨_, ⟨rfl, rfl⟩, rfl⟩
    refine JL.val (yl_not rfl) rfl ?_
    refine JL.val (yl_move rfl) rfl ?_
    refine JL.cut (K := fun J => J [(1, ptrAt (some ⟨g1, 0, none⟩) 0), (4, .slice a9 x8.1.length cp10), (5, .int .i64 x8.2), (6, ptrAt (some ⟨g16, 0, none⟩) 0), (7, .slice a19 x18.1.length cp20), (8, .int .i64 x18.2), (40, .bool (!x22 || (x18.2 != x8.2)))] [boxO 35 g1 [.int .i64 q0.W, .int .i64 q0.H, .slice a_0_2 q0.Breaks.length c_0_2], rowT 2 eI64 a9 x8.1.length cp10 x8.1, boxO 39 g16 [.int .i64 x12.W, .int .i64 x12.H, .slice a13 x12.Breaks.length cp14], rowT 2 eI64 a13 x12.Breaks.length cp14 x12.Breaks, rowT 2 eI64 a19 x18.1.length cp20 x18.1]) 4 ?_ ?_
    · refine JL.nil ?_
      refine JE.weak (env' := [(1, ptrAt (some ⟨g1, 0, none⟩) 0), (4, .slice a9 x8.1.length cp10), (5, .int .i64 x8.2), (6, ptrAt (some ⟨g16, 0, none⟩) 0), (7, .slice a19 x18.1.length cp20), (8, .int .i64 x18.2), (40, .bool (!x22 || (x18.2 != x8.2)))]) (es' := [boxO 35 g1 [.int .i64 q0.W, .int .i64 q0.H, .slice a_0_2 q0.Breaks.length c_0_2], rowT 2 eI64 a9 x8.1.length cp10 x8.1, boxO 39 g16 [.int .i64 x12.W, .int .i64 x12.H, .slice a13 x12.Breaks.length cp14], rowT 2 eI64 a13 x12.Breaks.length cp14 x12.Breaks, rowT 2 eI64 a19 x18.1.length cp20 x18.1]) [0, 1, 2, 3, 4] ?_ ⟨rfl, rfl, rfl, rfl, rfl, rfl, rfl, trivial⟩ (by decide) rfl
      refine JE.code ?_
      rcases cond_some hres with ⟨hb, hres⟩ | ⟨hb, hres⟩
      · refine JX.condT rfl hb ?_
        refine JX.seq ?_
        refine JX.region ?_
        refine JL.val (yl_assign rfl) rfl ?_
        refine JL.nil ?_
        refine JE.weak (env' := [(2, .bool false)]) (es' := []) [] ?_ ⟨rfl, trivial⟩ (by decide) rfl
        refine JE.code ?_
        refine JX.ret ?_
        obtain rfl := Option.some.inj hres
        refine JE.ret (rs := [.tmp 2]) (vs := [.bool false]) rfl ⟨rfl, trivial⟩ ?_
        exact fun w' hb hs => ⟨_, _, ⟨rfl, rfl⟩, rfl, hb, hs.sel [] _ (by decide) rfl⟩
      · refine JX.condF rfl hb ?_
        refine JX.skip ?_
        refine JE.code ?_
        refine JX.seq ?_
        refine JX.seq ?_
        refine JX.drawH [(0, .read), (1, .read), (2, .must), (3, .must), (4, .pure)] [] [] [0, 1, 2, 3, 4] [] [boxO 35 g1 [.int .i64 q0.W, .int .i64 q0.H, .slice a_0_2 q0.Breaks.length c_0_2], rowT 2 eI64 a9 x8.1.length cp10 x8.1, boxO 39 g16 [.int .i64 x12.W, .int .i64 x12.H, .slice a13 x12.Breaks.length cp14], rowT 2 eI64 a13 x12.Breaks.length cp14 x12.Breaks, rowT 2 eI64 a19 x18.1.length cp20 x18.1] mixedP (by kernel_rfl) (by kernel_rfl) (by decide) rfl rfl ?_
        intro wrr23 Nr23 hFr23
        refine JH.read rfl (yl_loadn Go.Proofs.Try.underlying39 rfl i39 rfl (fun w hw => hFr23.box 2 rfl rfl hw) rfl (i39s).symm i39p) rfl ?_
        refine JH.read rfl (yl_loadn Go.Proofs.Try.underlying35 rfl i35 rfl (fun w hw => hFr23.box 0 rfl rfl hw) rfl (i35s).symm i35p) rfl ?_
        obtain ⟨x24, hx24, hres⟩ := bind_some hres
        refine JH.must rfl (ef_call (vs := [.agg #[.int .i64 q0.W, .int .i64 q0.H, .slice a_0_2 q0.Breaks.length c_0_2]]) (T := T29 x24) Go.Proofs.Try.func29 rfl (by kernel_rfl) rfl (fun w hC => c29 (q0 := q0) (hFr23.arg g_0_2 hC.1) rfl k_0_2 hx24)) rfl rfl ?_
        rintro _ _ ⟨_, ⟨a25, _, cp26, rfl, rfl, rfl⟩, rfl⟩
        obtain ⟨x28, hx28, hres⟩ := bind_some hres
        refine JH.must rfl (ef_call (vs := [.agg #[.int .i64 x12.W, .int .i64 x12.H, .slice a13 x12.Breaks.length cp14], .agg #[.int .i64 x24.W, .int .i64 x24.H, .slice a25 x24.Breaks.length cp26]]) (T := T32 x28) Go.Proofs.Try.func32 rfl (by kernel_rfl) rfl (fun w hC => c32 (q0 := x12) (q1 := x24) (hFr23.row 3 rfl rfl hC.1) rfl (ln_row hFr23.cl 3 rfl) (rd_row hC 0 rfl) rfl (ln_row hC 0 rfl) hx28)) rfl rfl ?_
        rintro _ _ ⟨_, ⟨rfl, rfl⟩, rfl⟩
        refine JH.pure rfl (yl_not rfl) rfl ?_
        refine JH.nil ?_
        refine JE.weak (env' := [(1, ptrAt (some ⟨g1, 0, none⟩) 0), (4, .slice a9 x8.1.length cp10), (5, .int .i64 x8.2), (6, ptrAt (some ⟨g16, 0, none⟩) 0), (7, .slice a19 x18.1.length cp20), (8, .int .i64 x18.2), (45, .bool !x28)]) (es' := [boxO 35 g1 [.int .i64 q0.W, .int .i64 q0.H, .slice a_0_2 q0.Breaks.length c_0_2], rowT 2 eI64 a9 x8.1.length cp10 x8.1, boxO 39 g16 [.int .i64 x12.W, .int .i64 x12.H, .slice a13 x12.Breaks.length cp14], rowT 2 eI64 a13 x12.Breaks.length cp14 x12.Breaks, rowT 2 eI64 a19 x18.1.length cp20 x18.1]) [0, 1, 2, 3, 4] ?_ ⟨rfl, rfl, rfl, rfl, rfl, rfl, rfl, trivial⟩ (by decide) rfl
        refine JE.code ?_
        rcases cond_some hres with ⟨hb, hres⟩ | ⟨hb, hres⟩
        · refine JX.condT rfl hb ?_
          refine JX.seq ?_
          refine JX.region ?_
          refine JL.val (yl_assign rfl) rfl ?_
          refine JL.nil ?_
          refine JE.weak (env' := [(2, .bool false)]) (es' := []) [] ?_ ⟨rfl, trivial⟩ (by decide) rfl
          refine JE.code ?_
          refine JX.ret ?_
          obtain rfl := Option.some.inj hres
          refine JE.ret (rs := [.tmp 2]) (vs := [.bool false]) rfl ⟨rfl, trivial⟩ ?_
          exact fun w' hb hs => ⟨_, _, ⟨rfl, rfl⟩, rfl, hb, hs.sel [] _ (by decide) rfl⟩
        · refine JX.condF rfl hb ?_
          refine JX.skip ?_
          refine JE.code ?_
          refine JX.seq ?_
          refine JX.region ?_
          refine JL.val (yl_assign rfl) rfl ?_
          refine JL.nil ?_
          refine JE.code ?_
          refine JX.seq ?_
          refine JX.region ?_
          refine JL.val (yl_loadn Go.Proofs.Try.underlying39 rfl i39 rfl (fun w hC => rd_box hC 2 rfl) rfl (i39s).symm i39p) rfl ?_
          refine JL.val (yl_move rfl) rfl ?_
          obtain ⟨x29, hx29, hres⟩ := bind_some hres
          refine JL.eff (ef_callms (caps := []) (vs := [.agg #[.int .i64 x12.W, .int .i64 x12.H, .slice a13 x12.Breaks.length cp14], .int .i64 1]) (T := T33 a13 x12.Breaks.length cp14 x29) [3] [0, 1, 2, 4] [rowT 2 eI64 a13 x12.Breaks.length cp14 x12.Breaks] [boxO 35 g1 [.int .i64 q0.W, .int .i64 q0.H, .slice a_0_2 q0.Breaks.length c_0_2], rowT 2 eI64 a9 x8.1.length cp10 x8.1, boxO 39 g16 [.int .i64 x12.W, .int .i64 x12.H, .slice a13 x12.Breaks.length cp14], rowT 2 eI64 a19 x18.1.length cp20 x18.1] rfl Go.Proofs.Try.func33 rfl (by kernel_rfl) rfl (by decide) rfl rfl (fun w N hF hS => c33 (q0 := x12) rfl hS hx29)) rfl ?_
          rintro _ _ ⟨_, _, ⟨l30, rfl, rfl, rfl⟩, rfl⟩
          refine JL.val (yl_assign rfl) rfl ?_
          refine JL.nil ?_
          refine JE.weak (env' := [(1, ptrAt (some ⟨g1, 0, none⟩) 0), (4, .slice a9 x8.1.length cp10), (5, .int .i64 x8.2), (7, .slice a19 x18.1.length cp20), (8, .int .i64 x18.2), (9, .int .i64 x29.1)]) (es' := [boxO 35 g1 [.int .i64 q0.W, .int .i64 q0.H, .slice a_0_2 q0.Breaks.length c_0_2], rowT 2 eI64 a9 x8.1.length cp10 x8.1, rowT 2 eI64 a19 x18.1.length cp20 x18.1]) [0, 1, 3] ?_ ⟨rfl, rfl, rfl, rfl, rfl, rfl, trivial⟩ (by decide) rfl
          refine JE.code ?_
          refine JX.seq ?_
          refine JX.seq ?_
          refine JX.region ?_
          refine JL.val (yl_move rfl) rfl ?_
          refine JL.val (yl_lss rfl rfl) rfl ?_
          refine JL.val (yl_move rfl) rfl ?_
          obtain ⟨cb31, hcb31, hres⟩ := bind_some hres
          refine JL.cut (K := fun J => J [(1, ptrAt (some ⟨g1, 0, none⟩) 0), (4, .slice a9 x8.1.length cp10), (5, .int .i64 x8.2), (7, .slice a19 x18.1.length cp20), (8, .int .i64 x18.2), (56, .bool cb31)] [boxO 35 g1 [.int .i64 q0.W, .int .i64 q0.H, .slice a_0_2 q0.Breaks.length c_0_2], rowT 2 eI64 a9 x8.1.length cp10 x8.1, rowT 2 eI64 a19 x18.1.length cp20 x18.1]) 5 ?_ ?_
          · refine JL.val (yl_move rfl) rfl ?_
            refine JL.cut (K := fun J => J [(1, ptrAt (some ⟨g1, 0, none⟩) 0), (4, .slice a9 x8.1.length cp10), (5, .int .i64 x8.2), (7, .slice a19 x18.1.length cp20), (61, .bool (cb31 || (x18.2 != x8.2)))] [boxO 35 g1 [.int .i64 q0.W, .int .i64 q0.H, .slice a_0_2 q0.Breaks.length c_0_2], rowT 2 eI64 a9 x8.1.length cp10 x8.1, rowT 2 eI64 a19 x18.1.length cp20 x18.1]) 4 ?_ ?_
            · refine JL.nil ?_
              refine JE.weak (env' := [(1, ptrAt (some ⟨g1, 0, none⟩) 0), (4, .slice a9 x8.1.length cp10), (5, .int .i64 x8.2), (7, .slice a19 x18.1.length cp20), (61, .bool (cb31 || (x18.2 != x8.2)))]) (es' := [boxO 35 g1 [.int .i64 q0.W, .int .i64 q0.H, .slice a_0_2 q0.Breaks.length c_0_2], rowT 2 eI64 a9 x8.1.length cp10 x8.1, rowT 2 eI64 a19 x18.1.length cp20 x18.1]) [0, 1, 2] ?_ ⟨rfl, rfl, rfl, rfl, rfl, trivial⟩ (by decide) rfl
              refine JE.code ?_
              rcases cond_some hres with ⟨hb, hres⟩ | ⟨hb, hres⟩
              · refine JX.condT rfl hb ?_
                refine JX.seq ?_
                refine JX.region ?_
                refine JL.val (yl_assign rfl) rfl ?_
                refine JL.nil ?_
                refine JE.weak (env' := [(2, .bool false)]) (es' := []) [] ?_ ⟨rfl, trivial⟩ (by decide) rfl
                refine JE.code ?_
                refine JX.ret ?_
                obtain rfl := Option.some.inj hres
                refine JE.ret (rs := [.tmp 2]) (vs := [.bool false]) rfl ⟨rfl, trivial⟩ ?_
                exact fun w' hb hs => ⟨_, _, ⟨rfl, rfl⟩, rfl, hb, hs.sel [] _ (by decide) rfl⟩
              · refine JX.condF rfl hb ?_
                refine JX.skip ?_
                refine JE.code ?_
                refine JX.seq ?_
                refine JX.region ?_
                refine JL.val (yl_assign rfl) rfl ?_
                refine JL.nil ?_
                refine JE.code ?_
                refine JX.seq ?_
                refine JX.region ?_
                refine JL.val (yl_move rfl) rfl ?_
                refine JL.val (yl_move rfl) rfl ?_
                obtain ⟨x33, hx33, hres⟩ := bind_some hres
                refine JL.eff (ef_callm (T := T34 a19 x18.1.length cp20 x33) 2 Go.Proofs.Try.func34 rfl (by kernel_rfl) rfl rfl (fun w fp hs => c34 hs rfl hx33)) rfl ?_
                rintro _ _ ⟨_, _, ⟨l34, rfl, rfl, rfl⟩, rfl⟩
                refine JL.val (yl_assign rfl) rfl ?_
                refine JL.nil ?_
                refine JE.weak (env' := [(1, ptrAt (some ⟨g1, 0, none⟩) 0), (4, .slice a9 x8.1.length cp10), (5, .int .i64 x8.2), (7, .slice a19 x18.1.length cp20), (10, .int .i64 x33.1)]) (es' := [boxO 35 g1 [.int .i64 q0.W, .int .i64 q0.H, .slice a_0_2 q0.Breaks.length c_0_2], rowT 2 eI64 a9 x8.1.length cp10 x8.1, rowT 2 eI64 a19 x18.1.length cp20 x33.2]) [0, 1, 2] ?_ ⟨rfl, rfl, rfl, rfl, rfl, trivial⟩ (by decide) rfl
                refine JE.code ?_
                refine JX.seq ?_
                refine JX.region ?_
                refine JL.val (yl_assign rfl) rfl ?_
                refine JL.nil ?_
                refine JE.code ?_
                refine JX.seq ?_
                refine JX.region ?_
                refine JL.val (yl_move rfl) rfl ?_
                refine JL.val (yl_move rfl) rfl ?_
                obtain ⟨x35, hx35, hres⟩ := bind_some hres
                refine JL.eff (ef_call (T := T35 x35) Go.Proofs.Try.func35 rfl (by kernel_rfl) rfl (fun w hC => c35 (rd_row hC 2 rfl) l34 (ln_row hC 2 rfl) hx35)) rfl ?_
                rintro _ _ ⟨_, ⟨rfl, rfl⟩, rfl⟩
                refine JL.val (yl_assign rfl) rfl ?_
                refine JL.nil ?_
                refine JE.weak (env' := [(1, ptrAt (some ⟨g1, 0, none⟩) 0), (4, .slice a9 x8.1.length cp10), (5, .int .i64 x8.2), (7, .slice a19 x18.1.length cp20), (10, .int .i64 x33.1), (11, .int .i64 x35)]) (es' := [boxO 35 g1 [.int .i64 q0.W, .int .i64 q0.H, .slice a_0_2 q0.Breaks.length c_0_2], rowT 2 eI64 a9 x8.1.length cp10 x8.1, rowT 2 eI64 a19 x18.1.length cp20 x33.2]) [0, 1, 2] ?_ ⟨rfl, rfl, rfl, rfl, rfl, rfl, trivial⟩ (by decide) rfl
                refine JE.code ?_
                refine JX.seq ?_
                refine JX.seq ?_
                refine JX.region ?_
                refine JL.val (yl_move rfl) rfl ?_
                refine JL.val (yl_lss rfl rfl) rfl ?_
                refine JL.nil ?_
                refine JE.code ?_
                rcases cond_some hres with ⟨hb, hres⟩ | ⟨hb, hres⟩
                · refine JX.condT rfl hb ?_
                  refine JX.seq ?_
                  refine JX.region ?_
                  refine JL.val (yl_assign rfl) rfl ?_
                  refine JL.nil ?_
                  refine JE.weak (env' := [(2, .bool false)]) (es' := []) [] ?_ ⟨rfl, trivial⟩ (by decide) rfl
                  refine JE.code ?_
                  refine JX.ret ?_
                  obtain rfl := Option.some.inj hres
                  refine JE.ret (rs := [.tmp 2]) (vs := [.bool false]) rfl ⟨rfl, trivial⟩ ?_
                  exact fun w' hb hs => ⟨_, _, ⟨rfl, rfl⟩, rfl, hb, hs.sel [] _ (by decide) rfl⟩
                · refine JX.condF rfl hb ?_
                  refine JX.skip ?_
                  refine JE.code ?_
                  refine JX.seq ?_
                  refine JX.seq ?_
                  refine JX.region ?_
                  refine JL.val (yl_move rfl) rfl ?_
                  refine JL.val (yl_move rfl) rfl ?_
                  refine JL.val (yl_neq rfl rfl) rfl ?_
                  refine JL.nil ?_
                  refine JE.code ?_
                  rcases cond_some hres with ⟨hb, hres⟩ | ⟨hb, hres⟩
                  · refine JX.condT rfl hb ?_
                    refine JX.seq ?_
                    refine JX.region ?_
                    refine JL.val (yl_assign rfl) rfl ?_
                    refine JL.nil ?_
                    refine JE.weak (env' := [(2, .bool false)]) (es' := []) [] ?_ ⟨rfl, trivial⟩ (by decide) rfl
                    refine JE.code ?_
                    refine JX.ret ?_
                    obtain rfl := Option.some.inj hres
                    refine JE.ret (rs := [.tmp 2]) (vs := [.bool false]) rfl ⟨rfl, trivial⟩ ?_
                    exact fun w' hb hs => ⟨_, _, ⟨rfl, rfl⟩, rfl, hb, hs.sel [] _ (by decide) rfl⟩
                  · refine JX.condF rfl hb ?_
                    refine JX.skip ?_
                    refine JE.code ?_
                    refine JX.seq ?_
                    refine JX.region ?_
                    refine JL.val (yl_loadn Go.Proofs.Try.underlying35 rfl i35 rfl (fun w hC => rd_box hC 0 rfl) rfl (i35s).symm i35p) rfl ?_
                    obtain ⟨x36, hx36, hres⟩ := bind_some hres
                    refine JL.eff (ef_call (vs := [.agg #[.int .i64 q0.W, .int .i64 q0.H, .slice a_0_2 q0.Breaks.length c_0_2]]) (T := T29 x36) Go.Proofs.Try.func29 rfl (by kernel_rfl) rfl (fun w hC => c29 (q0 := q0) (rd_arg g_0_2 hC) rfl k_0_2 hx36)) rfl ?_
                    rintro _ _ ⟨_, ⟨a37, _, cp38, rfl, rfl, rfl⟩, rfl⟩
                    obtain ⟨x40, hx40, hres⟩ := bind_some hres
                    refine JL.eff (ef_call (vs := [.agg #[.int .i64 x36.W, .int .i64 x36.H, .slice a37 x36.Breaks.length cp38]]) (T := T30 x40) Go.Proofs.Try.func30 rfl (by kernel_rfl) rfl (fun w hC => c30 (q0 := x36) (rd_row hC 3 rfl) rfl (ln_row hC 3 rfl) hx40)) rfl ?_
                    rintro _ _ ⟨_, ⟨a41, _, cp42, rfl, rfl, rfl⟩, rfl⟩
                    refine JL.val (yl_move rfl) rfl ?_
                    refine JL.val (yl_extract rfl rfl) rfl ?_
                    refine JL.val (yl_extract rfl rfl) rfl ?_
                    refine JL.val (yl_assign rfl) rfl ?_
                    refine JL.val (yl_assign rfl) rfl ?_
                    refine JL.nil ?_
                    refine JE.weak (env' := [(4, .slice a9 x8.1.length cp10), (5, .int .i64 x8.2), (7, .slice a19 x18.1.length cp20), (10, .int .i64 x33.1), (12, .slice a41 x40.1.length cp42), (13, .int .i64 x40.2)]) (es' := [rowT 2 eI64 a9 x8.1.length cp10 x8.1, rowT 2 eI64 a19 x18.1.length cp20 x33.2, rowT 2 eI64 a41 x40.1.length cp42 x40.1]) [1, 2, 4] ?_ ⟨rfl, rfl, rfl, rfl, rfl, rfl, trivial⟩ (by decide) rfl
                    refine JE.code ?_
                    refine JX.seq ?_
                    refine JX.seq ?_
                    refine JX.region ?_
                    refine JL.val (yl_move rfl) rfl ?_
                    refine JL.val (yl_move rfl) rfl ?_
                    obtain ⟨x44, hx44, hres⟩ := bind_some hres
                    refine JL.eff (ef_call (T := T31 x44) Go.Proofs.Try.func31 rfl (by kernel_rfl) rfl (fun w hC => c31 (rd_row hC 2 rfl) rfl (ln_row hC 2 rfl) (rd_row hC 0 rfl) rfl (ln_row hC 0 rfl) hx44)) rfl ?_
                    rintro _ _ ⟨_, ⟨rfl, rfl⟩, rfl⟩
                    refine JL.val (yl_not rfl) rfl ?_
                    refine JL.val (yl_move rfl) rfl ?_
                    refine JL.cut (K := fun J => J [(7, .slice a19 x18.1.length cp20), (10, .int .i64 x33.1), (87, .bool (!x44 || (x40.2 != x8.2)))] [rowT 2 eI64 a19 x18.1.length cp20 x33.2]) 4 ?_ ?_
                    · refine JL.nil ?_
                      refine JE.weak (env' := [(7, .slice a19 x18.1.length cp20), (10, .int .i64 x33.1), (87, .bool (!x44 || (x40.2 != x8.2)))]) (es' := [rowT 2 eI64 a19 x18.1.length cp20 x33.2]) [0] ?_ ⟨rfl, rfl, rfl, trivial⟩ (by decide) rfl
                      refine JE.code ?_
                      rcases cond_some hres with ⟨hb, hres⟩ | ⟨hb, hres⟩
                      · refine JX.condT rfl hb ?_
                        refine JX.seq ?_
                        refine JX.region ?_
                        refine JL.val (yl_assign rfl) rfl ?_
                        refine JL.nil ?_
                        refine JE.weak (env' := [(2, .bool false)]) (es' := []) [] ?_ ⟨rfl, trivial⟩ (by decide) rfl
                        refine JE.code ?_
                        refine JX.ret ?_
                        obtain rfl := Option.some.inj hres
                        refine JE.ret (rs := [.tmp 2]) (vs := [.bool false]) rfl ⟨rfl, trivial⟩ ?_
                        exact fun w' hb hs => ⟨_, _, ⟨rfl, rfl⟩, rfl, hb, hs.sel [] _ (by decide) rfl⟩
                      · refine JX.condF rfl hb ?_
                        refine JX.skip ?_
                        refine JE.code ?_
                        refine JX.seq ?_
                        refine JX.region ?_
                        refine JL.val (yl_assign rfl) rfl ?_
                        refine JL.nil ?_
                        refine JE.code ?_
                        refine JX.seq ?_
                        refine JX.region ?_
                        refine JL.val (yl_move rfl) rfl ?_
                        refine JL.val (yl_move rfl) rfl ?_
                        obtain ⟨x45, hx45, hres⟩ := bind_some hres
                        refine JL.eff (ef_call (T := T35 x45) Go.Proofs.Try.func35 rfl (by kernel_rfl) rfl (fun w hC => c35 (rd_row hC 0 rfl) l34 (ln_row hC 0 rfl) hx45)) rfl ?_
                        rintro _ _ ⟨_, ⟨rfl, rfl⟩, rfl⟩
                        refine JL.val (yl_assign rfl) rfl ?_
                        refine JL.nil ?_
                        refine JE.weak (env' := [(10, .int .i64 x33.1), (11, .int .i64 x45)]) (es' := []) [] ?_ ⟨rfl, rfl, trivial⟩ (by decide) rfl
                        refine JE.code ?_
                        refine JX.seq ?_
                        refine JX.seq ?_
                        refine JX.region ?_
                        refine JL.val (yl_move rfl) rfl ?_
                        refine JL.val (yl_lss rfl rfl) rfl ?_
                        refine JL.nil ?_
                        refine JE.code ?_
                        rcases cond_some hres with ⟨hb, hres⟩ | ⟨hb, hres⟩
                        · refine JX.condT rfl hb ?_
                          refine JX.seq ?_
                          refine JX.region ?_
                          refine JL.val (yl_assign rfl) rfl ?_
                          refine JL.nil ?_
                          refine JE.code ?_
                          refine JX.ret ?_
                          obtain rfl := Option.some.inj hres
                          refine JE.ret (rs := [.tmp 2]) (vs := [.bool false]) rfl ⟨rfl, trivial⟩ ?_
                          exact fun w' hb hs => ⟨_, _, ⟨rfl, rfl⟩, rfl, hb, hs.sel [] _ (by decide) rfl⟩
                        · refine JX.condF rfl hb ?_
                          refine JX.skip ?_
                          refine JE.code ?_
                          refine JX.seq ?_
                          refine JX.seq ?_
                          refine JX.region ?_
                          refine JL.val (yl_move rfl) rfl ?_
                          refine JL.val (yl_move rfl) rfl ?_
                          refine JL.val (yl_neq rfl rfl) rfl ?_
                          refine JL.nil ?_
                          refine JE.code ?_
                          rcases cond_some hres with ⟨hb, hres⟩ | ⟨hb, hres⟩
                          · refine JX.condT rfl hb ?_
                            refine JX.seq ?_
                            refine JX.region ?_
                            refine JL.val (yl_assign rfl) rfl ?_
                            refine JL.nil ?_
                            refine JE.code ?_
                            refine JX.ret ?_
                            obtain rfl := Option.some.inj hres
                            refine JE.ret (rs := [.tmp 2]) (vs := [.bool false]) rfl ⟨rfl, trivial⟩ ?_
                            exact fun w' hb hs => ⟨_, _, ⟨rfl, rfl⟩, rfl, hb, hs.sel [] _ (by decide) rfl⟩
                          · refine JX.condF rfl hb ?_
                            refine JX.skip ?_
                            refine JE.code ?_
                            refine JX.seq ?_
                            refine JX.region ?_
                            refine JL.val (yl_assign rfl) rfl ?_
                            refine JL.nil ?_
                            refine JE.code ?_
                            refine JX.ret ?_
                            obtain rfl := Option.some.inj hres
                            refine JE.ret (rs := [.tmp 2]) (vs := [.bool true]) rfl ⟨rfl, trivial⟩ ?_
                            exact fun w' hb hs => ⟨_, _, ⟨rfl, rfl⟩, rfl, hb, hs.sel [] _ (by decide) rfl⟩
                    · intro K
                      rcases Bool.eq_false_or_eq_true (!x44) with hb | hb
                      · refine JL.set (d := 83) (v := .bool true) (congrArg (fun b => some (Value.bool b)) hb) ?_
                        refine JL.gskip rfl rfl rfl rfl ?_
                        refine JL.gskip rfl rfl rfl rfl ?_
                        refine JL.gskip rfl rfl rfl rfl ?_
                        refine JL.val (yl_pick_true rfl rfl) rfl ?_
                        exact JL.weak [1] K ⟨rfl, rfl, (by rw [hb]; rfl), trivial⟩ (by decide) rfl
                      · refine JL.set (d := 83) (v := .bool false) (congrArg (fun b => some (Value.bool b)) hb) ?_
                        refine JL.gval rfl rfl (yl_move rfl) rfl ?_
                        refine JL.gval rfl rfl (yl_move rfl) rfl ?_
                        refine JL.gval rfl rfl (yl_neq rfl rfl) rfl ?_
                        refine JL.val (yl_pick_false rfl rfl) rfl ?_
                        exact JL.weak [1] K ⟨rfl, rfl, (by rw [hb]; rfl), trivial⟩ (by decide) rfl
            · intro K
              rcases Bool.eq_false_or_eq_true (cb31) with hb | hb
              · refine JL.set (d := 57) (v := .bool true) (congrArg (fun b => some (Value.bool b)) hb) ?_
                refine JL.gskip rfl rfl rfl rfl ?_
                refine JL.gskip rfl rfl rfl rfl ?_
                refine JL.gskip rfl rfl rfl rfl ?_
                refine JL.val (yl_pick_true rfl rfl) rfl ?_
                exact JL.weak [0, 1, 2] K ⟨rfl, rfl, rfl, rfl, (by rw [hb]; rfl), trivial⟩ (by decide) rfl
              · refine JL.set (d := 57) (v := .bool false) (congrArg (fun b => some (Value.bool b)) hb) ?_
                refine JL.gval rfl rfl (yl_move rfl) rfl ?_
                refine JL.gval rfl rfl (yl_move rfl) rfl ?_
                refine JL.gval rfl rfl (yl_neq rfl rfl) rfl ?_
                refine JL.val (yl_pick_false rfl rfl) rfl ?_
                exact JL.weak [0, 1, 2] K ⟨rfl, rfl, rfl, rfl, (by rw [hb]; rfl), trivial⟩ (by decide) rfl
          · intro K
            rcases cond_some hcb31 with ⟨hb, hres⟩ | ⟨hb, hres⟩
            · refine JL.set (d := 51) (v := .bool true) (congrArg (fun b => some (Value.bool b)) hb) ?_
              refine JL.gskip rfl rfl rfl rfl ?_
              refine JL.gskip rfl rfl rfl rfl ?_
              refine JL.gskip rfl rfl rfl rfl ?_
              refine JL.gskip rfl rfl rfl rfl ?_
              refine JL.val (yl_pick_true rfl rfl) rfl ?_
              have he := Option.some.inj hres
              exact JL.weak [0, 1, 2] K ⟨rfl, rfl, rfl, rfl, rfl, (by rw [← he]; rfl), trivial⟩ (by decide) rfl
            · refine JL.set (d := 51) (v := .bool false) (congrArg (fun b => some (Value.bool b)) hb) ?_
              refine JL.gval rfl rfl (yl_move rfl) rfl ?_
              refine JL.gval rfl rfl (yl_move rfl) rfl ?_
              obtain ⟨x32, hx32, hres⟩ := bind_some hres
              refine JL.geff rfl rfl (ef_call (T := T31 x32) Go.Proofs.Try.func31 rfl (by kernel_rfl) rfl (fun w hC => c31 (rd_row hC 2 rfl) rfl (ln_row hC 2 rfl) (rd_row hC 1 rfl) rfl (ln_row hC 1 rfl) hx32)) rfl ?_
              rintro _ _ ⟨_, ⟨rfl, rfl⟩, rfl⟩
              refine JL.gval rfl rfl (yl_not rfl) rfl ?_
              refine JL.val (yl_pick_false rfl rfl) rfl ?_
              have he := Option.some.inj hres
              exact JL.weak [0, 1, 2] K ⟨rfl, rfl, rfl, rfl, rfl, (by rw [← he]; rfl), trivial⟩ (by decide) rfl
    · intro K
      rcases Bool.eq_false_or_eq_true (!x22) with hb | hb
      · refine JL.set (d := 36) (v := .bool true) (congrArg (fun b => some (Value.bool b)) hb) ?_
        refine JL.gskip rfl rfl rfl rfl ?_
        refine JL.gskip rfl rfl rfl rfl ?_
        refine JL.gskip rfl rfl rfl rfl ?_
        refine JL.val (yl_pick_true rfl rfl) rfl ?_
        exact JL.weak [0, 1, 2, 3, 4] K ⟨rfl, rfl, rfl, rfl, rfl, rfl, (by rw [hb]; rfl), trivial⟩ (by decide) rfl
      · refine JL.set (d := 36) (v := .bool false) (congrArg (fun b => some (Value.bool b)) hb) ?_
        refine JL.gval rfl rfl (yl_move rfl) rfl ?_
        refine JL.gval rfl rfl (yl_move rfl) rfl ?_
        refine JL.gval rfl rfl (yl_neq rfl rfl) rfl ?_
        refine JL.val (yl_pick_false rfl rfl) rfl ?_
        exact JL.weak [0, 1, 2, 3, 4] K ⟨rfl, rfl, rfl, rfl, rfl, rfl, (by rw [hb]; rfl), trivial⟩ (by decide) rfl

end Go.Sh
