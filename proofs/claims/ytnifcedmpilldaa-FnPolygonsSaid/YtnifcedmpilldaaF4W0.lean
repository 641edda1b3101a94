/- Walks through functions that the law reaches, printed by program. -/
import Derived.Test.YtnifcedmpilldaaF4T
set_option linter.unusedVariables false
set_option linter.unusedSimpArgs false
namespace Go.Sh
open Go Go.RowKit
/- laws.f6big -/
def sh9 (q0 : List Int) : Option (Bool) := some (decide (4096 < (q0.length : Int)))
def T9 (r : Bool) (v : Value) (rs : List Own) : Prop := v = rets [.bool r] ∧ rs = []
set_option maxRecDepth 100000 in
theorem c9 {w : World} {q0 : List Int} {a_0 : Option Addr} {n_0 c_0 : Nat} (g_0 : Rd w a_0 (eU8.fl q0)) (l_0 : q0.length = n_0) (k_0 : n_0 ≤ c_0) {r : Bool} (hres : sh9 q0 = some r) : Calls Go.Proofs.Try.prog 9 [.slice a_0 n_0 c_0].toArray w (Ret w (T9 r)) := by
  subst l_0
  unfold sh9 at hres
  refine calls_of (n := 6) (M := []) (es := []) Go.Proofs.Try.func9 rfl rfl rfl (Sep.nil _ _ _) ?_
  refine JX.seq ?_
  refine JX.region ?_
  refine JL.val (yl_assign rfl) rfl ?_
  refine JL.nil ?_
  refine JE.code ?_
  refine JX.seq ?_
  refine JX.region ?_
  refine JL.val (yl_move rfl) rfl ?_
  refine JL.val (yl_len_slice Go.Proofs.Try.underlying22 rfl) rfl ?_
  refine JL.val (yl_gtr rfl rfl) rfl ?_
  refine JL.val (yl_assign rfl) rfl ?_
  refine JL.nil ?_
  refine JE.weak (env' := [(2, .bool (decide (4096 < (q0.length : Int))))]) (es' := []) [] ?_ ⟨rfl, trivial⟩ (by decide) rfl
  refine JE.code ?_
  refine JX.ret ?_
  obtain rfl := Option.some.inj hres
  refine JE.ret (rs := [.tmp 2]) (vs := [.bool (decide (4096 < (q0.length : Int)))]) rfl ⟨rfl, trivial⟩ ?_
  exact fun w' hb hs => ⟨_, _, ⟨rfl, rfl⟩, rfl, hb, hs.sel [] _ (by decide) rfl⟩

/- laws.f6points -/
def sh17_1 (q0 : List SPoint) (q1 : List SPoint) : Int → Option (Int ⊕ (Unit ⊕ Bool))
  | x1 => bif decide (x1 < (q0.length : Int)) then (Option.bind (getI q0 x1) fun x3 => Option.bind (getI q1 x1) fun x4 => bif !(((x3.X == x4.X) && ((x3.Y == x4.Y) && true))) then (some (.inr (.inr false))) else (some (.inl (w64 (x1 + 1))))) else (some (.inr (.inl ())))
def sh17 (q0 : List SPoint) (q1 : List SPoint) : Option (Bool) := bif (q0.length : Int) != (q1.length : Int) then (some false) else (Option.bind (iter (sh17_1 q0 q1) 0) fun y1 => elimS y1 (fun r => some r) fun b1 => (some true))
def T17 (r : Bool) (v : Value) (rs : List Own) : Prop := v = rets [.bool r] ∧ rs = []
set_option maxRecDepth 100000 in
theorem c17 {w : World} {q0 : List SPoint} {a_0 : Option Addr} {n_0 c_0 : Nat} (g_0 : Rd w a_0 (eSPoint.fl q0)) (l_0 : q0.length = n_0) (k_0 : n_0 ≤ c_0) {q1 : List SPoint} {a_1 : Option Addr} {n_1 c_1 : Nat} (g_1 : Rd w a_1 (eSPoint.fl q1)) (l_1 : q1.length = n_1) (k_1 : n_1 ≤ c_1) {r : Bool} (hres : sh17 q0 q1 = some r) : Calls Go.Proofs.Try.prog 17 [.slice a_0 n_0 c_0, .slice a_1 n_1 c_1].toArray w (Ret w (T17 r)) := by
  subst l_0
  subst l_1
  unfold sh17 at hres
  refine calls_of (n := 26) (M := []) (es := []) Go.Proofs.Try.func17 rfl rfl rfl (Sep.nil _ _ _) ?_
  refine JX.seq ?_
  refine JX.region ?_
  refine JL.val (yl_assign rfl) rfl ?_
  refine JL.nil ?_
  refine JE.code ?_
  refine JX.seq ?_
  refine JX.seq ?_
  refine JX.region ?_
  refine JL.val (yl_move rfl) rfl ?_
  refine JL.val (yl_len_slice Go.Proofs.Try.underlying34 rfl) rfl ?_
  refine JL.val (yl_move rfl) rfl ?_
  refine JL.val (yl_len_slice Go.Proofs.Try.underlying34 rfl) rfl ?_
  refine JL.val (yl_neq rfl rfl) rfl ?_
  refine JL.nil ?_
  refine JE.weak (env' := [(0, .slice a_0 q0.length c_0), (1, .slice a_1 q1.length c_1), (10, .bool ((q0.length : Int) != (q1.length : Int)))]) (es' := []) [] ?_ ⟨rfl, rfl, rfl, trivial⟩ (by decide) rfl
  refine JE.code ?_
  rcases cond_some hres with ⟨hb, hres⟩ | ⟨hb, hres⟩
  · refine JX.condT rfl hb ?_
    refine JX.seq ?_
    refine JX.region ?_
    refine JL.val (yl_assign rfl) rfl ?_
    refine JL.nil ?_
    refine JE.code ?_
    refine JX.ret ?_
    obtain rfl := Option.some.inj hres
    refine JE.ret (rs := [.tmp 4]) (vs := [.bool false]) rfl ⟨rfl, trivial⟩ ?_
    exact fun w' hb hs => ⟨_, _, ⟨rfl, rfl⟩, rfl, hb, hs.sel [] _ (by decide) rfl⟩
  · refine JX.condF rfl hb ?_
    refine JX.skip ?_
    refine JE.code ?_
    refine JX.seq ?_
    refine JX.seq ?_
    refine JX.region ?_
    refine JL.val (yl_assign rfl) rfl ?_
    refine JL.nil ?_
    refine JE.code ?_
    refine JX.block ?_
    obtain ⟨y1, hy1, hresO1⟩ := bind_some hres
    refine JX.loop (I := fun (s1 : Int) aa ww => St w [] 26 [(0, .slice a_0 q0.length c_0), (1, .slice a_1 q1.length c_1), (5, .int .i64 s1)] [] aa ww) (sh17_1 q0 q1) hy1 (fun a w h => h.weak ⟨rfl, rfl, rfl, trivial⟩ [] (by decide) rfl) ?_
    rintro x1 o1 hres hox1 aa ww hS
    refine (?_ : JX Go.Proofs.Try.prog w [] 26 _ _ [(0, .slice a_0 q0.length c_0), (1, .slice a_1 q1.length c_1), (5, .int .i64 x1)] [] _) aa ww hS
    clear hS
    unfold sh17_1 at hres
    refine JX.seq ?_
    refine JX.seq ?_
    refine JX.region ?_
    refine JL.val (yl_move rfl) rfl ?_
    refine JL.val (yl_move rfl) rfl ?_
    refine JL.val (yl_len_slice Go.Proofs.Try.underlying34 rfl) rfl ?_
    refine JL.val (yl_lss rfl rfl) rfl ?_
    refine JL.nil ?_
    refine JE.weak (env' := [(0, .slice a_0 q0.length c_0), (1, .slice a_1 q1.length c_1), (5, .int .i64 x1), (14, .bool (decide (x1 < (q0.length : Int))))]) (es' := []) [] ?_ ⟨rfl, rfl, rfl, rfl, trivial⟩ (by decide) rfl
    refine JE.code ?_
    rcases cond_some hres with ⟨hb, hres⟩ | ⟨hb, hres⟩
    · refine JX.condT rfl hb ?_
      refine JX.skip ?_
      refine JE.code ?_
      refine JX.seq ?_
      refine JX.block ?_
      refine JX.seq ?_
      refine JX.drawH [(0, .pure), (1, .pure), (2, .pure), (3, .read), (4, .pure), (5, .pure), (6, .pure), (7, .read), (8, .pure)] [] [] [] [] [] mixedP (by kernel_rfl) (by kernel_rfl) (by decide) rfl rfl ?_
      intro wrr2 Nr2 hFr2
      refine JH.pure rfl (yl_move rfl) rfl ?_
      refine JH.pure rfl (yl_move rfl) rfl ?_
      obtain ⟨x3, hx3, hres⟩ := bind_some hres
      refine JH.pure rfl (yl_idxQ Go.Proofs.Try.underlying34 i42 i42s rfl rfl hx3 rfl (rd_arg g_0 hFr2.cl) rfl) rfl ?_
      refine JH.read rfl (yl_loadTn Go.Proofs.Try.underlying42 rfl i42 i42s rfl hx3 (fun w hw => hFr2.arg g_0 hw)) rfl ?_
      refine JH.pure rfl (yl_move rfl) rfl ?_
      refine JH.pure rfl (yl_move rfl) rfl ?_
      obtain ⟨x4, hx4, hres⟩ := bind_some hres
      refine JH.pure rfl (yl_idxQ Go.Proofs.Try.underlying34 i42 i42s rfl rfl hx4 rfl (rd_arg g_1 hFr2.cl) rfl) rfl ?_
      refine JH.read rfl (yl_loadTn Go.Proofs.Try.underlying42 rfl i42 i42s rfl hx4 (fun w hw => hFr2.arg g_1 hw)) rfl ?_
      refine JH.pure rfl (yl_binop_of rfl rfl (fun w => eqs42_g _ _ _ _ _ w) (fun w => eqs42_neq x3.X x3.Y x4.X x4.Y w)) rfl ?_
      refine JH.nil ?_
      refine JE.weak (env' := [(0, .slice a_0 q0.length c_0), (1, .slice a_1 q1.length c_1), (5, .int .i64 x1), (25, .bool (!(((x3.X == x4.X) && ((x3.Y == x4.Y) && true)))))]) (es' := []) [] ?_ ⟨rfl, rfl, rfl, rfl, trivial⟩ (by decide) rfl
      refine JE.code ?_
      rcases cond_some hres with ⟨hb, hres⟩ | ⟨hb, hres⟩
      · refine JX.condT rfl hb ?_
        refine JX.seq ?_
        refine JX.region ?_
        refine JL.val (yl_assign rfl) rfl ?_
        refine JL.nil ?_
        refine JE.code ?_
        refine JX.ret ?_
        refine JE.qbr ?_
        refine JE.qbr ?_
        have hres := elimS_inr hresO1 (hox1 _ (Option.some.inj hres).symm)
        obtain rfl := Option.some.inj hres
        refine JE.ret (rs := [.tmp 4]) (vs := [.bool false]) rfl ⟨rfl, trivial⟩ ?_
        exact fun w' hb hs => ⟨_, _, ⟨rfl, rfl⟩, rfl, hb, hs.sel [] _ (by decide) rfl⟩
      · refine JX.condF rfl hb ?_
        refine JX.skip ?_
        refine JE.code ?_
        refine JX.region ?_
        refine JL.val (yl_move rfl) rfl ?_
        refine JL.val (yl_add rfl rfl) rfl ?_
        refine JL.val (yl_assign rfl) rfl ?_
        refine JL.nil ?_
        refine JE.cont hres ?_
        exact fun a w h => h.weak ⟨rfl, rfl, rfl, trivial⟩ [] (by decide) rfl
    · refine JX.condF rfl hb ?_
      refine JX.exit ?_
      refine JE.qb rfl ?_
      obtain ⟨b1, hb1⟩ : ∃ b : Unit, b = () := ⟨_, rfl⟩
      have hy1 : Sum.inl b1 = y1 := by rw [hb1]; exact hox1 _ (Option.some.inj hres).symm
      have hres := elimS_inl hresO1 hy1
      refine JE.weak (env' := []) (es' := []) [] ?_ trivial (by decide) (by subst hb1; rfl)
      refine JE.code ?_
      refine JX.seq ?_
      refine JX.region ?_
      refine JL.val (yl_assign rfl) rfl ?_
      refine JL.nil ?_
      refine JE.code ?_
      refine JX.ret ?_
      obtain rfl := Option.some.inj hres
      refine JE.ret (rs := [.tmp 4]) (vs := [.bool true]) rfl ⟨rfl, trivial⟩ ?_
      exact fun w' hb hs => ⟨_, _, ⟨rfl, rfl⟩, rfl, hb, hs.sel [] _ (by decide) rfl⟩

/- impl.inRange -/
def sh107 (q0 : Int) (q1 : Int) (q2 : Int) : Option (Bool) := some ((decide (q1 ≤ q0)) && (decide (q0 ≤ q2)))
def T107 (r : Bool) (v : Value) (rs : List Own) : Prop := v = rets [.bool r] ∧ rs = []
set_option maxRecDepth 100000 in
theorem c107 {w : World} {q0 : Int} {q1 : Int} {q2 : Int} {r : Bool} (hres : sh107 q0 q1 q2 = some r) : Calls Go.Proofs.Try.prog 107 [.int .i64 q0, .int .i64 q1, .int .i64 q2].toArray w (Ret w (T107 r)) := by
  unfold sh107 at hres
  refine calls_of (n := 15) (M := []) (es := []) Go.Proofs.Try.func107 rfl rfl rfl (Sep.nil _ _ _) ?_
  refine JX.seq ?_
  refine JX.region ?_
  refine JL.val (yl_assign rfl) rfl ?_
  refine JL.nil ?_
  refine JE.code ?_
  refine JX.seq ?_
  refine JX.region ?_
  refine JL.val (yl_move rfl) rfl ?_
  refine JL.val (yl_move rfl) rfl ?_
  refine JL.val (yl_geq rfl rfl) rfl ?_
  refine JL.val (yl_move rfl) rfl ?_
  refine JL.cut (K := fun J => J [(14, .bool ((decide (q1 ≤ q0)) && (decide (q0 ≤ q2))))] []) 4 ?_ ?_
  · refine JL.val (yl_assign rfl) rfl ?_
    refine JL.nil ?_
    refine JE.weak (env' := [(6, .bool ((decide (q1 ≤ q0)) && (decide (q0 ≤ q2))))]) (es' := []) [] ?_ ⟨rfl, trivial⟩ (by decide) rfl
    refine JE.code ?_
    refine JX.ret ?_
    obtain rfl := Option.some.inj hres
    refine JE.ret (rs := [.tmp 6]) (vs := [.bool ((decide (q1 ≤ q0)) && (decide (q0 ≤ q2)))]) rfl ⟨rfl, trivial⟩ ?_
    exact fun w' hb hs => ⟨_, _, ⟨rfl, rfl⟩, rfl, hb, hs.sel [] _ (by decide) rfl⟩
  · intro K
    rcases Bool.eq_false_or_eq_true (decide (q1 ≤ q0)) with hb | hb
    · refine JL.set (d := 10) (v := .bool true) (congrArg (fun b => some (Value.bool b)) hb) ?_
      refine JL.gval rfl rfl (yl_move rfl) rfl ?_
      refine JL.gval rfl rfl (yl_move rfl) rfl ?_
      refine JL.gval rfl rfl (yl_leq rfl rfl) rfl ?_
      refine JL.val (yl_pick_true rfl rfl) rfl ?_
      exact JL.weak [] K ⟨(by rw [hb]; rfl), trivial⟩ (by decide) rfl
    · refine JL.set (d := 10) (v := .bool false) (congrArg (fun b => some (Value.bool b)) hb) ?_
      refine JL.gskip rfl rfl rfl rfl ?_
      refine JL.gskip rfl rfl rfl rfl ?_
      refine JL.gskip rfl rfl rfl rfl ?_
      refine JL.val (yl_pick_false rfl rfl) rfl ?_
      exact JL.weak [] K ⟨(by rw [hb]; rfl), trivial⟩ (by decide) rfl

/- impl.isCorner -/
def sh106 (q0 : SPoint) : Option (Bool) := Option.bind (sh107 q0.X (-100000) 100000) fun x3 => Option.bind (bif x3 then (Option.bind (sh107 q0.Y (-100000) 100000) fun x5 => some x5) else (some false)) fun cb4 => (some cb4)
def T106 (r : Bool) (v : Value) (rs : List Own) : Prop := v = rets [.bool r] ∧ rs = []
set_option maxRecDepth 100000 in
theorem c106 {w : World} {q0 : SPoint} {r : Bool} (hres : sh106 q0 = some r) : Calls Go.Proofs.Try.prog 106 [.agg #[.int .i64 q0.X, .int .i64 q0.Y]].toArray w (Ret w (T106 r)) := by
  unfold sh106 at hres
  refine calls_of (n := 11) (M := []) (es := []) Go.Proofs.Try.func106 rfl rfl rfl (Sep.nil _ _ _) ?_
  refine JX.seq ?_
  refine JX.region ?_
  refine JL.eff (ef_box rfl rfl) rfl ?_
  rintro _ _ ⟨g1, rfl, rfl⟩
  refine JL.val (yl_assign rfl) rfl ?_
  refine JL.nil ?_
  refine JE.code ?_
  refine JX.seq ?_
  refine JX.region ?_
  refine JL.val (yl_fieldAt (a := some _) Go.Proofs.Try.underlying42 rfl i2 i2n rfl rfl) rfl ?_
  refine JL.val (yl_load1 Go.Proofs.Try.underlying2 rfl rfl (fun w hC => rd_box hC 0 rfl) rfl) rfl ?_
  obtain ⟨x3, hx3, hres⟩ := bind_some hres
  refine JL.eff (ef_call (T := T107 x3) Go.Proofs.Try.func107 rfl (by kernel_rfl) rfl (fun w hC => c107  hx3)) rfl ?_
  rintro _ _ ⟨_, ⟨rfl, rfl⟩, rfl⟩
  refine JL.val (yl_move rfl) rfl ?_
  obtain ⟨cb4, hcb4, hres⟩ := bind_some hres
  refine JL.cut (K := fun J => J [(10, .bool cb4)] []) 4 ?_ ?_
  · refine JL.val (yl_assign rfl) rfl ?_
    refine JL.nil ?_
    refine JE.weak (env' := [(2, .bool cb4)]) (es' := []) [] ?_ ⟨rfl, trivial⟩ (by decide) rfl
    refine JE.code ?_
    refine JX.ret ?_
    obtain rfl := Option.some.inj hres
    refine JE.ret (rs := [.tmp 2]) (vs := [.bool cb4]) rfl ⟨rfl, trivial⟩ ?_
    exact fun w' hb hs => ⟨_, _, ⟨rfl, rfl⟩, rfl, hb, hs.sel [] _ (by decide) rfl⟩
  · intro K
    rcases cond_some hcb4 with ⟨hb, hres⟩ | ⟨hb, hres⟩
    · refine JL.set (d := 6) (v := .bool true) (congrArg (fun b => some (Value.bool b)) hb) ?_
      refine JL.gval rfl rfl (yl_fieldAt (a := some _) Go.Proofs.Try.underlying42 rfl i2 i2n rfl rfl) rfl ?_
      refine JL.gval rfl rfl (yl_load1 Go.Proofs.Try.underlying2 rfl rfl (fun w hC => rd_box hC 0 rfl) rfl) rfl ?_
      obtain ⟨x5, hx5, hres⟩ := bind_some hres
      refine JL.geff rfl rfl (ef_call (T := T107 x5) Go.Proofs.Try.func107 rfl (by kernel_rfl) rfl (fun w hC => c107  hx5)) rfl ?_
      rintro _ _ ⟨_, ⟨rfl, rfl⟩, rfl⟩
      refine JL.val (yl_pick_true rfl rfl) rfl ?_
      have he := Option.some.inj hres
      exact JL.weak [] K ⟨(by rw [← he]; rfl), trivial⟩ (by decide) rfl
    · refine JL.set (d := 6) (v := .bool false) (congrArg (fun b => some (Value.bool b)) hb) ?_
      refine JL.gskip rfl rfl rfl rfl ?_
      refine JL.gskip rfl rfl rfl rfl ?_
      refine JL.gskip rfl rfl rfl rfl ?_
      refine JL.val (yl_pick_false rfl rfl) rfl ?_
      have he := Option.some.inj hres
      exact JL.weak [] K ⟨(by rw [← he]; rfl), trivial⟩ (by decide) rfl

/- impl.isPolygon$1 -/
def sh179 (q0 : SPoint) : Option (Bool) := Option.bind (sh106 q0) fun x3 => some !x3
def T179 (r : Bool) (v : Value) (rs : List Own) : Prop := v = rets [.bool r] ∧ rs = []
set_option maxRecDepth 100000 in
theorem c179 {w : World} {q0 : SPoint} {r : Bool} (hres : sh179 q0 = some r) : Calls Go.Proofs.Try.prog 179 [.agg #[.int .i64 q0.X, .int .i64 q0.Y]].toArray w (Ret w (T179 r)) := by
  unfold sh179 at hres
  refine calls_of (n := 6) (M := []) (es := []) Go.Proofs.Try.func179 rfl rfl rfl (Sep.nil _ _ _) ?_
  refine JX.seq ?_
  refine JX.region ?_
  refine JL.eff (ef_box rfl rfl) rfl ?_
  rintro _ _ ⟨g1, rfl, rfl⟩
  refine JL.val (yl_assign rfl) rfl ?_
  refine JL.nil ?_
  refine JE.code ?_
  refine JX.seq ?_
  refine JX.region ?_
  refine JL.val (yl_loadn Go.Proofs.Try.underlying42 rfl i42 rfl (fun w hC => rd_box hC 0 rfl) rfl (i42s).symm i42p) rfl ?_
  obtain ⟨x3, hx3, hres⟩ := bind_some hres
  refine JL.eff (ef_call (vs := [.agg #[.int .i64 q0.X, .int .i64 q0.Y]]) (T := T106 x3) Go.Proofs.Try.func106 rfl (by kernel_rfl) rfl (fun w hC => c106 (q0 := q0) hx3)) rfl ?_
  rintro _ _ ⟨_, ⟨rfl, rfl⟩, rfl⟩
  refine JL.val (yl_not rfl) rfl ?_
  refine JL.val (yl_assign rfl) rfl ?_
  refine JL.nil ?_
  refine JE.weak (env' := [(2, .bool !x3)]) (es' := []) [] ?_ ⟨rfl, trivial⟩ (by decide) rfl
  refine JE.code ?_
  refine JX.ret ?_
  obtain rfl := Option.some.inj hres
  refine JE.ret (rs := [.tmp 2]) (vs := [.bool !x3]) rfl ⟨rfl, trivial⟩ ?_
  exact fun w' hb hs => ⟨_, _, ⟨rfl, rfl⟩, rfl, hb, hs.sel [] _ (by decide) rfl⟩

/- slices.IndexFunc[[]impl.Point,impl.Point] -/
def sh200f179_1 (q0 : List SPoint) : Int → Option (Int ⊕ (Unit ⊕ Int))
  | x1 => bif decide (x1 < (q0.length : Int)) then (Option.bind (getI q0 x1) fun x2 => Option.bind (sh179 x2) fun x3 => bif x3 then (some (.inr (.inr x1))) else (some (.inl (w64 (x1 + 1))))) else (some (.inr (.inl ())))
def sh200f179 (q0 : List SPoint) : Option (Int) := Option.bind (iter (sh200f179_1 q0) 0) fun y1 => elimS y1 (fun r => some r) fun b1 => (some (-1))
def T200f179 (r : Int) (v : Value) (rs : List Own) : Prop := v = rets [.int .i64 r] ∧ rs = []
set_option maxRecDepth 100000 in
theorem c200f179 {w : World} {q0 : List SPoint} {a_0 : Option Addr} {n_0 c_0 : Nat} (g_0 : Rd w a_0 (eSPoint.fl q0)) (l_0 : q0.length = n_0) (k_0 : n_0 ≤ c_0) {r : Int} (hres : sh200f179 q0 = some r) : Calls Go.Proofs.Try.prog 200 [.slice a_0 n_0 c_0, .func (.func 179) #[] #[]].toArray w (Ret w (T200f179 r)) := by
  subst l_0
  unfold sh200f179 at hres
  refine calls_of (n := 19) (M := []) (es := []) Go.Proofs.Try.func200 rfl rfl rfl (Sep.nil _ _ _) ?_
  refine JX.seq ?_
  refine JX.region ?_
  refine JL.val (yl_assign rfl) rfl ?_
  refine JL.nil ?_
  refine JE.code ?_
  refine JX.seq ?_
  refine JX.seq ?_
  refine JX.region ?_
  refine JL.val (yl_move rfl) rfl ?_
  refine JL.val (yl_len_slice Go.Proofs.Try.underlying34 rfl) rfl ?_
  refine JL.val (yl_move rfl) rfl ?_
  refine JL.nil ?_
  refine JE.code ?_
  refine JX.block ?_
  obtain ⟨y1, hy1, hresO1⟩ := bind_some hres
  refine JX.loop (I := fun (s1 : Int) aa ww => St w [] 19 [(0, .slice a_0 q0.length c_0), (1, .func (.func 179) #[] #[]), (7, .int .i64 (q0.length : Int)), (8, .int .i64 s1)] [] aa ww) (sh200f179_1 q0) hy1 (fun a w h => h.weak ⟨rfl, rfl, rfl, rfl, trivial⟩ [] (by decide) rfl) ?_
  rintro x1 o1 hres hox1 aa ww hS
  refine (?_ : JX Go.Proofs.Try.prog w [] 19 _ _ [(0, .slice a_0 q0.length c_0), (1, .func (.func 179) #[] #[]), (7, .int .i64 (q0.length : Int)), (8, .int .i64 x1)] [] _) aa ww hS
  clear hS
  unfold sh200f179_1 at hres
  refine JX.seq ?_
  refine JX.region ?_
  refine JL.val (yl_lss rfl rfl) rfl ?_
  refine JL.nil ?_
  refine JE.code ?_
  refine JX.seq ?_
  rcases cond_some hres with ⟨hb, hres⟩ | ⟨hb, hres⟩
  · refine JX.condT rfl hb ?_
    refine JX.skip ?_
    refine JE.code ?_
    refine JX.seq ?_
    refine JX.block ?_
    refine JX.seq ?_
    refine JX.region ?_
    refine JL.val (yl_move rfl) rfl ?_
    refine JL.val (yl_assign rfl) rfl ?_
    refine JL.nil ?_
    refine JE.code ?_
    refine JX.seq ?_
    refine JX.region ?_
    refine JL.val (yl_move rfl) rfl ?_
    refine JL.val (yl_move rfl) rfl ?_
    refine JL.val (yl_move rfl) rfl ?_
    obtain ⟨x2, hx2, hres⟩ := bind_some hres
    refine JL.val (yl_idxT Go.Proofs.Try.underlying34 i42 i42s rfl rfl hx2 rfl (fun w hC => rd_arg g_0 hC)) rfl ?_
    refine JL.val (yl_loadTn Go.Proofs.Try.underlying42 rfl i42 i42s rfl hx2 (fun w hC => rd_arg g_0 hC)) rfl ?_
    obtain ⟨x3, hx3, hres⟩ := bind_some hres
    refine JL.eff (ef_callv (vs := [.agg #[.int .i64 x2.X, .int .i64 x2.Y]]) (T := T179 x3) rfl Go.Proofs.Try.func179 rfl (by kernel_rfl) rfl (fun w hC => c179 (q0 := x2) hx3)) rfl ?_
    rintro _ _ ⟨_, ⟨rfl, rfl⟩, rfl⟩
    refine JL.nil ?_
    refine JE.weak (env' := [(0, .slice a_0 q0.length c_0), (1, .func (.func 179) #[] #[]), (5, .int .i64 x1), (7, .int .i64 (q0.length : Int)), (8, .int .i64 x1), (16, .bool x3)]) (es' := []) [] ?_ ⟨rfl, rfl, rfl, rfl, rfl, rfl, trivial⟩ (by decide) rfl
    refine JE.code ?_
    rcases cond_some hres with ⟨hb, hres⟩ | ⟨hb, hres⟩
    · refine JX.condT rfl hb ?_
      refine JX.seq ?_
      refine JX.region ?_
      refine JL.val (yl_move rfl) rfl ?_
      refine JL.val (yl_assign rfl) rfl ?_
      refine JL.nil ?_
      refine JE.code ?_
      refine JX.ret ?_
      refine JE.qbr ?_
      refine JE.qbr ?_
      have hres := elimS_inr hresO1 (hox1 _ (Option.some.inj hres).symm)
      obtain rfl := Option.some.inj hres
      refine JE.ret (rs := [.tmp 4]) (vs := [.int .i64 x1]) rfl ⟨rfl, trivial⟩ ?_
      exact fun w' hb hs => ⟨_, _, ⟨rfl, rfl⟩, rfl, hb, hs.sel [] _ (by decide) rfl⟩
    · refine JX.condF rfl hb ?_
      refine JX.skip ?_
      refine JE.code ?_
      refine JX.region ?_
      refine JL.val (yl_add rfl rfl) rfl ?_
      refine JL.val (yl_move rfl) rfl ?_
      refine JL.nil ?_
      refine JE.cont hres ?_
      exact fun a w h => h.weak ⟨rfl, rfl, rfl, rfl, trivial⟩ [] (by decide) rfl
  · refine JX.condF rfl hb ?_
    refine JX.exit ?_
    refine JE.qb rfl ?_
    obtain ⟨b1, hb1⟩ : ∃ b : Unit, b = () := ⟨_, rfl⟩
    have hy1 : Sum.inl b1 = y1 := by rw [hb1]; exact hox1 _ (Option.some.inj hres).symm
    have hres := elimS_inl hresO1 hy1
    refine JE.weak (env' := []) (es' := []) [] ?_ trivial (by decide) (by subst hb1; rfl)
    refine JE.code ?_
    refine JX.seq ?_
    refine JX.region ?_
    refine JL.val (yl_assign rfl) rfl ?_
    refine JL.nil ?_
    refine JE.code ?_
    refine JX.ret ?_
    obtain rfl := Option.some.inj hres
    refine JE.ret (rs := [.tmp 4]) (vs := [.int .i64 (-1)]) rfl ⟨rfl, trivial⟩ ?_
    exact fun w' hb hs => ⟨_, _, ⟨rfl, rfl⟩, rfl, hb, hs.sel [] _ (by decide) rfl⟩

/- slices.ContainsFunc[[]impl.Point,impl.Point] -/
def sh136f179 (q0 : List SPoint) : Option (Bool) := Option.bind (sh200f179 q0) fun x1 => some (decide (0 ≤ x1))
def T136f179 (r : Bool) (v : Value) (rs : List Own) : Prop := v = rets [.bool r] ∧ rs = []
set_option maxRecDepth 100000 in
theorem c136f179 {w : World} {q0 : List SPoint} {a_0 : Option Addr} {n_0 c_0 : Nat} (g_0 : Rd w a_0 (eSPoint.fl q0)) (l_0 : q0.length = n_0) (k_0 : n_0 ≤ c_0) {r : Bool} (hres : sh136f179 q0 = some r) : Calls Go.Proofs.Try.prog 136 [.slice a_0 n_0 c_0, .func (.func 179) #[] #[]].toArray w (Ret w (T136f179 r)) := by
  subst l_0
  unfold sh136f179 at hres
  refine calls_of (n := 9) (M := []) (es := []) Go.Proofs.Try.func136 rfl rfl rfl (Sep.nil _ _ _) ?_
  refine JX.seq ?_
  refine JX.region ?_
  refine JL.val (yl_assign rfl) rfl ?_
  refine JL.nil ?_
  refine JE.code ?_
  refine JX.seq ?_
  refine JX.region ?_
  refine JL.val (yl_move rfl) rfl ?_
  refine JL.val (yl_move rfl) rfl ?_
  obtain ⟨x1, hx1, hres⟩ := bind_some hres
  refine JL.eff (ef_call (T := T200f179 x1) Go.Proofs.Try.func200 rfl (by kernel_rfl) rfl (fun w hC => c200f179 (rd_arg g_0 hC) rfl k_0 hx1)) rfl ?_
  rintro _ _ ⟨_, ⟨rfl, rfl⟩, rfl⟩
  refine JL.val (yl_geq rfl rfl) rfl ?_
  refine JL.val (yl_assign rfl) rfl ?_
  refine JL.nil ?_
  refine JE.weak (env' := [(4, .bool (decide (0 ≤ x1)))]) (es' := []) [] ?_ ⟨rfl, trivial⟩ (by decide) rfl
  refine JE.code ?_
  refine JX.ret ?_
  obtain rfl := Option.some.inj hres
  refine JE.ret (rs := [.tmp 4]) (vs := [.bool (decide (0 ≤ x1))]) rfl ⟨rfl, trivial⟩ ?_
  exact fun w' hb hs => ⟨_, _, ⟨rfl, rfl⟩, rfl, hb, hs.sel [] _ (by decide) rfl⟩

/- impl.isPolygon -/
def sh102 (q0 : List SPoint) : Option (Bool) := Option.bind (sh107 (q0.length : Int) 3 300) fun x1 => Option.bind (bif x1 then (Option.bind (sh136f179 q0) fun x3 => some !x3) else (some false)) fun cb2 => (some cb2)
def T102 (r : Bool) (v : Value) (rs : List Own) : Prop := v = rets [.bool r] ∧ rs = []
set_option maxRecDepth 100000 in
theorem c102 {w : World} {q0 : List SPoint} {a_0 : Option Addr} {n_0 c_0 : Nat} (g_0 : Rd w a_0 (eSPoint.fl q0)) (l_0 : q0.length = n_0) (k_0 : n_0 ≤ c_0) {r : Bool} (hres : sh102 q0 = some r) : Calls Go.Proofs.Try.prog 102 [.slice a_0 n_0 c_0].toArray w (Ret w (T102 r)) := by
  subst l_0
  unfold sh102 at hres
  refine calls_of (n := 11) (M := []) (es := []) Go.Proofs.Try.func102 rfl rfl rfl (Sep.nil _ _ _) ?_
  refine JX.seq ?_
  refine JX.region ?_
  refine JL.val (yl_assign rfl) rfl ?_
  refine JL.nil ?_
  refine JE.code ?_
  refine JX.seq ?_
  refine JX.region ?_
  refine JL.val (yl_move rfl) rfl ?_
  refine JL.val (yl_len_slice Go.Proofs.Try.underlying34 rfl) rfl ?_
  obtain ⟨x1, hx1, hres⟩ := bind_some hres
  refine JL.eff (ef_call (T := T107 x1) Go.Proofs.Try.func107 rfl (by kernel_rfl) rfl (fun w hC => c107  hx1)) rfl ?_
  rintro _ _ ⟨_, ⟨rfl, rfl⟩, rfl⟩
  refine JL.val (yl_move rfl) rfl ?_
  obtain ⟨cb2, hcb2, hres⟩ := bind_some hres
  refine JL.cut (K := fun J => J [(10, .bool cb2)] []) 4 ?_ ?_
  · refine JL.val (yl_assign rfl) rfl ?_
    refine JL.nil ?_
    refine JE.weak (env' := [(2, .bool cb2)]) (es' := []) [] ?_ ⟨rfl, trivial⟩ (by decide) rfl
    refine JE.code ?_
    refine JX.ret ?_
    obtain rfl := Option.some.inj hres
    refine JE.ret (rs := [.tmp 2]) (vs := [.bool cb2]) rfl ⟨rfl, trivial⟩ ?_
    exact fun w' hb hs => ⟨_, _, ⟨rfl, rfl⟩, rfl, hb, hs.sel [] _ (by decide) rfl⟩
  · intro K
    rcases cond_some hcb2 with ⟨hb, hres⟩ | ⟨hb, hres⟩
    · refine JL.set (d := 6) (v := .bool true) (congrArg (fun b => some (Value.bool b)) hb) ?_
      refine JL.gval rfl rfl (yl_move rfl) rfl ?_
      obtain ⟨x3, hx3, hres⟩ := bind_some hres
      refine JL.geff rfl rfl (ef_call (T := T136f179 x3) Go.Proofs.Try.func136 rfl (by kernel_rfl) rfl (fun w hC => c136f179 (rd_arg g_0 hC) rfl k_0 hx3)) rfl ?_
      rintro _ _ ⟨_, ⟨rfl, rfl⟩, rfl⟩
      refine JL.gval rfl rfl (yl_not rfl) rfl ?_
      refine JL.val (yl_pick_true rfl rfl) rfl ?_
      have he := Option.some.inj hres
      exact JL.weak [] K ⟨(by rw [← he]; rfl), trivial⟩ (by decide) rfl
    · refine JL.set (d := 6) (v := .bool false) (congrArg (fun b => some (Value.bool b)) hb) ?_
      refine JL.gskip rfl rfl rfl rfl ?_
      refine JL.gskip rfl rfl rfl rfl ?_
      refine JL.gskip rfl rfl rfl rfl ?_
      refine JL.val (yl_pick_false rfl rfl) rfl ?_
      have he := Option.some.inj hres
      exact JL.weak [] K ⟨(by rw [← he]; rfl), trivial⟩ (by decide) rfl

/- impl.signedArea -/
def sh103_1 (q0 : List SPoint) : (Int × Int) → Option ((Int × Int) ⊕ (Int))
  | (x1, x2) => bif decide (x2 < (q0.length : Int)) then (Option.bind (getI q0 x2) fun x3 => Option.bind (nzI (q0.length : Int)) fun x6 => Option.bind (getI q0 ((w64 (x2 + 1)).tmod (q0.length : Int))) fun x7 => some (.inl (w64 (x1 + (w64 ((w64 (x3.X * x7.Y)) - (w64 (x3.Y * x7.X))))), w64 (x2 + 1)))) else (some (.inr x1))
def sh103 (q0 : List SPoint) : Option (Int) := Option.bind (iter (sh103_1 q0) (0, 0)) fun b1 => (some b1)
def T103 (r : Int) (v : Value) (rs : List Own) : Prop := v = rets [.int .i64 r] ∧ rs = []
set_option maxRecDepth 100000 in
theorem c103 {w : World} {q0 : List SPoint} {a_0 : Option Addr} {n_0 c_0 : Nat} (g_0 : Rd w a_0 (eSPoint.fl q0)) (l_0 : q0.length = n_0) (k_0 : n_0 ≤ c_0) {r : Int} (hres : sh103 q0 = some r) : Calls Go.Proofs.Try.prog 103 [.slice a_0 n_0 c_0].toArray w (Ret w (T103 r)) := by
  subst l_0
  unfold sh103 at hres
  refine calls_of (n := 37) (M := []) (es := []) Go.Proofs.Try.func103 rfl rfl rfl (Sep.nil _ _ _) ?_
  refine JX.seq ?_
  refine JX.region ?_
  refine JL.val (yl_assign rfl) rfl ?_
  refine JL.nil ?_
  refine JE.code ?_
  refine JX.seq ?_
  refine JX.region ?_
  refine JL.val (yl_assign rfl) rfl ?_
  refine JL.nil ?_
  refine JE.code ?_
  refine JX.seq ?_
  refine JX.seq ?_
  refine JX.region ?_
  refine JL.val (yl_move rfl) rfl ?_
  refine JL.val (yl_len_slice Go.Proofs.Try.underlying34 rfl) rfl ?_
  refine JL.val (yl_move rfl) rfl ?_
  refine JL.nil ?_
  refine JE.code ?_
  refine JX.block ?_
  obtain ⟨y1, hy1, hresO1⟩ := bind_some hres
  refine JX.loop (I := fun (s1 : Int × Int) aa ww => St w [] 37 [(0, .slice a_0 q0.length c_0), (3, .int .i64 s1.1), (7, .slice a_0 q0.length c_0), (8, .int .i64 (q0.length : Int)), (9, .int .i64 s1.2)] [] aa ww) (sh103_1 q0) hy1 (fun a w h => h.weak ⟨rfl, rfl, rfl, rfl, rfl, trivial⟩ [] (by decide) rfl) ?_
  rintro ⟨x1, x2⟩ o1 hres hox1 aa ww hS
  refine (?_ : JX Go.Proofs.Try.prog w [] 37 _ _ [(0, .slice a_0 q0.length c_0), (3, .int .i64 x1), (7, .slice a_0 q0.length c_0), (8, .int .i64 (q0.length : Int)), (9, .int .i64 x2)] [] _) aa ww hS
  clear hS
  simp only [sh103_1] at hres
  refine JX.seq ?_
  refine JX.region ?_
  refine JL.val (yl_lss rfl rfl) rfl ?_
  refine JL.nil ?_
  refine JE.code ?_
  refine JX.seq ?_
  rcases cond_some hres with ⟨hb, hres⟩ | ⟨hb, hres⟩
  · refine JX.condT rfl hb ?_
    refine JX.skip ?_
    refine JE.code ?_
    refine JX.seq ?_
    refine JX.block ?_
    refine JX.seq ?_
    refine JX.region ?_
    refine JL.val (yl_move rfl) rfl ?_
    obtain ⟨x3, hx3, hres⟩ := bind_some hres
    refine JL.val (yl_idxT Go.Proofs.Try.underlying34 i42 i42s rfl rfl hx3 rfl (fun w hC => rd_arg g_0 hC)) rfl ?_
    refine JL.val (yl_loadTn Go.Proofs.Try.underlying42 rfl i42 i42s rfl hx3 (fun w hC => rd_arg g_0 hC)) rfl ?_
    refine JL.eff (ef_alloc i42 i42z rfl) rfl ?_
    rintro _ _ ⟨g4, rfl, rfl⟩
    refine JL.val (yl_assign rfl) rfl ?_
    refine JL.eff (ef_store_box (i := 0) (v := .agg #[.int .i64 x3.X, .int .i64 x3.Y]) i42 rfl rfl rfl (i42s).symm (Nat.le_of_ble_eq_true rfl) (by simp [Value.cells, Value.oneCell'])) rfl ?_
    rintro _ _ rfl
    refine JL.nil ?_
    refine JE.weak (env' := [(0, .slice a_0 q0.length c_0), (3, .int .i64 x1), (4, .int .i64 x2), (5, ptrAt (some ⟨g4, 0, none⟩) 0), (7, .slice a_0 q0.length c_0), (8, .int .i64 (q0.length : Int)), (9, .int .i64 x2)]) (es' := [boxO 42 g4 [.int .i64 x3.X, .int .i64 x3.Y]]) [0] ?_ ⟨rfl, rfl, rfl, rfl, rfl, rfl, rfl, trivial⟩ (by decide) rfl
    refine JE.code ?_
    refine JX.seq ?_
    refine JX.region ?_
    refine JL.val (yl_move rfl) rfl ?_
    refine JL.val (yl_move rfl) rfl ?_
    refine JL.val (yl_add rfl rfl) rfl ?_
    refine JL.val (yl_move rfl) rfl ?_
    refine JL.val (yl_len_slice Go.Proofs.Try.underlying34 rfl) rfl ?_
    obtain ⟨x6, hx6, hres⟩ := bind_some hres
    refine JL.val (yl_rem rfl rfl (nzI_some hx6)) rfl ?_
    obtain ⟨x7, hx7, hres⟩ := bind_some hres
    refine JL.val (yl_idxT Go.Proofs.Try.underlying34 i42 i42s rfl rfl hx7 rfl (fun w hC => rd_arg g_0 hC)) rfl ?_
    refine JL.val (yl_loadTn Go.Proofs.Try.underlying42 rfl i42 i42s rfl hx7 (fun w hC => rd_arg g_0 hC)) rfl ?_
    refine JL.eff (ef_alloc i42 i42z rfl) rfl ?_
    rintro _ _ ⟨g8, rfl, rfl⟩
    refine JL.eff (ef_store_box (i := 1) (v := .agg #[.int .i64 x7.X, .int .i64 x7.Y]) i42 rfl rfl rfl (i42s).symm (Nat.le_of_ble_eq_true rfl) (by simp [Value.cells, Value.oneCell'])) rfl ?_
    rintro _ _ rfl
    refine JL.nil ?_
    refine JE.weak (env' := [(0, .slice a_0 q0.length c_0), (3, .int .i64 x1), (5, ptrAt (some ⟨g4, 0, none⟩) 0), (6, ptrAt (some ⟨g8, 0, none⟩) 0), (7, .slice a_0 q0.length c_0), (8, .int .i64 (q0.length : Int)), (9, .int .i64 x2)]) (es' := [boxO 42 g4 [.int .i64 x3.X, .int .i64 x3.Y], boxO 42 g8 [.int .i64 x7.X, .int .i64 x7.Y]]) [0, 1] ?_ ⟨rfl, rfl, rfl, rfl, rfl, rfl, rfl, trivial⟩ (by decide) rfl
    refine JE.code ?_
    refine JX.region ?_
    refine JL.val (yl_move rfl) rfl ?_
    refine JL.val (yl_fieldAt (a := some _) Go.Proofs.Try.underlying42 rfl i2 i2n rfl rfl) rfl ?_
    refine JL.val (yl_load1 Go.Proofs.Try.underlying2 rfl rfl (fun w hC => rd_box hC 0 rfl) rfl) rfl ?_
    refine JL.val (yl_fieldAt (a := some _) Go.Proofs.Try.underlying42 rfl i2 i2n rfl rfl) rfl ?_
    refine JL.val (yl_load1 Go.Proofs.Try.underlying2 rfl rfl (fun w hC => rd_box hC 1 rfl) rfl) rfl ?_
    refine JL.val (yl_mul rfl rfl) rfl ?_
    refine JL.val (yl_fieldAt (a := some _) Go.Proofs.Try.underlying42 rfl i2 i2n rfl rfl) rfl ?_
    refine JL.val (yl_load1 Go.Proofs.Try.underlying2 rfl rfl (fun w hC => rd_box hC 0 rfl) rfl) rfl ?_
    refine JL.val (yl_fieldAt (a := some _) Go.Proofs.Try.underlying42 rfl i2 i2n rfl rfl) rfl ?_
    refine JL.val (yl_load1 Go.Proofs.Try.underlying2 rfl rfl (fun w hC => rd_box hC 1 rfl) rfl) rfl ?_
    refine JL.val (yl_mul rfl rfl) rfl ?_
    refine JL.val (yl_sub rfl rfl) rfl ?_
    refine JL.val (yl_add rfl rfl) rfl ?_
    refine JL.val (yl_assign rfl) rfl ?_
    refine JL.nil ?_
    refine JE.weak (env' := [(0, .slice a_0 q0.length c_0), (3, .int .i64 (w64 (x1 + (w64 ((w64 (x3.X * x7.Y)) - (w64 (x3.Y * x7.X))))))), (7, .slice a_0 q0.length c_0), (8, .int .i64 (q0.length : Int)), (9, .int .i64 x2)]) (es' := []) [] ?_ ⟨rfl, rfl, rfl, rfl, rfl, trivial⟩ (by decide) rfl
    refine JE.code ?_
    refine JX.region ?_
    refine JL.val (yl_add rfl rfl) rfl ?_
    refine JL.val (yl_move rfl) rfl ?_
    refine JL.nil ?_
    refine JE.cont hres ?_
    exact fun a w h => h.weak ⟨rfl, rfl, rfl, rfl, rfl, trivial⟩ [] (by decide) rfl
  · refine JX.condF rfl hb ?_
    refine JX.exit ?_
    refine JE.qb rfl ?_
    obtain ⟨b1, hb1⟩ : ∃ b : Int, b = x1 := ⟨_, rfl⟩
    have hy1 : b1 = y1 := by rw [hb1]; exact hox1 _ (Option.some.inj hres).symm
    have hres := hresO1
    rw [← hy1] at hres
    refine JE.weak (env' := [(3, .int .i64 b1)]) (es' := []) [] ?_ ⟨(by subst hb1; rfl), trivial⟩ (by decide) (by subst hb1; rfl)
    refine JE.code ?_
    refine JX.seq ?_
    refine JX.region ?_
    refine JL.val (yl_move rfl) rfl ?_
    refine JL.val (yl_assign rfl) rfl ?_
    refine JL.nil ?_
    refine JE.code ?_
    refine JX.ret ?_
    obtain rfl := Option.some.inj hres
    refine JE.ret (rs := [.tmp 2]) (vs := [.int .i64 b1]) rfl ⟨rfl, trivial⟩ ?_
    exact fun w' hb hs => ⟨_, _, ⟨rfl, rfl⟩, rfl, hb, hs.sel [] _ (by decide) rfl⟩

/- impl.DoubleArea -/
def sh18 (q0 : List SPoint) : Option (Int × Int) := Option.bind (sh102 q0) fun x1 => bif !x1 then (some (0, 1)) else (Option.bind (sh103 q0) fun x2 => some (if x2 < (w64 (0 - x2)) then (w64 (0 - x2)) else x2, 0))
def T18 (r : Int × Int) (v : Value) (rs : List Own) : Prop := v = rets [.int .i64 r.1, .int .i64 r.2] ∧ rs = []
set_option maxRecDepth 100000 in
theorem c18 {w : World} {q0 : List SPoint} {a_0 : Option Addr} {n_0 c_0 : Nat} (g_0 : Rd w a_0 (eSPoint.fl q0)) (l_0 : q0.length = n_0) (k_0 : n_0 ≤ c_0) {r : Int × Int} (hres : sh18 q0 = some r) : Calls Go.Proofs.Try.prog 18 [.slice a_0 n_0 c_0].toArray w (Ret w (T18 r)) := by
  subst l_0
  unfold sh18 at hres
  refine calls_of (n := 14) (M := []) (es := []) Go.Proofs.Try.func18 rfl rfl rfl (Sep.nil _ _ _) ?_
  refine JX.seq ?_
  refine JX.region ?_
  refine JL.val (yl_assign rfl) rfl ?_
  refine JL.val (yl_assign rfl) rfl ?_
  refine JL.nil ?_
  refine JE.code ?_
  refine JX.seq ?_
  refine JX.seq ?_
  refine JX.region ?_
  refine JL.val (yl_move rfl) rfl ?_
  obtain ⟨x1, hx1, hres⟩ := bind_some hres
  refine JL.eff (ef_call (T := T102 x1) Go.Proofs.Try.func102 rfl (by kernel_rfl) rfl (fun w hC => c102 (rd_arg g_0 hC) rfl k_0 hx1)) rfl ?_
  rintro _ _ ⟨_, ⟨rfl, rfl⟩, rfl⟩
  refine JL.val (yl_not rfl) rfl ?_
  refine JL.nil ?_
  refine JE.code ?_
  rcases cond_some hres with ⟨hb, hres⟩ | ⟨hb, hres⟩
  · refine JX.condT rfl hb ?_
    refine JX.seq ?_
    refine JX.region ?_
    refine JL.val (yl_assign rfl) rfl ?_
    refine JL.val (yl_assign rfl) rfl ?_
    refine JL.nil ?_
    refine JE.code ?_
    refine JX.ret ?_
    obtain rfl := Option.some.inj hres
    refine JE.ret (rs := [.tmp 2, .tmp 3]) (vs := [.int .i64 0, .int .i64 1]) rfl ⟨rfl, rfl, trivial⟩ ?_
    exact fun w' hb hs => ⟨_, _, ⟨rfl, rfl⟩, rfl, hb, hs.sel [] _ (by decide) rfl⟩
  · refine JX.condF rfl hb ?_
    refine JX.skip ?_
    refine JE.code ?_
    refine JX.seq ?_
    refine JX.region ?_
    refine JL.val (yl_move rfl) rfl ?_
    obtain ⟨x2, hx2, hres⟩ := bind_some hres
    refine JL.eff (ef_call (T := T103 x2) Go.Proofs.Try.func103 rfl (by kernel_rfl) rfl (fun w hC => c103 (rd_arg g_0 hC) rfl k_0 hx2)) rfl ?_
    rintro _ _ ⟨_, ⟨rfl, rfl⟩, rfl⟩
    refine JL.val (yl_assign rfl) rfl ?_
    refine JL.nil ?_
    refine JE.code ?_
    refine JX.seq ?_
    refine JX.region ?_
    refine JL.val (yl_move rfl) rfl ?_
    refine JL.val (yl_move rfl) rfl ?_
    refine JL.val (yl_neg rfl) rfl ?_
    refine JL.val (yl_max rfl rfl) rfl ?_
    refine JL.val (yl_assign rfl) rfl ?_
    refine JL.val (yl_assign rfl) rfl ?_
    refine JL.nil ?_
    refine JE.weak (env' := [(2, .int .i64 (if x2 < (w64 (0 - x2)) then (w64 (0 - x2)) else x2)), (3, .int .i64 0)]) (es' := []) [] ?_ ⟨rfl, rfl, trivial⟩ (by decide) rfl
    refine JE.code ?_
    refine JX.ret ?_
    obtain rfl := Option.some.inj hres
    refine JE.ret (rs := [.tmp 2, .tmp 3]) (vs := [.int .i64 (if x2 < (w64 (0 - x2)) then (w64 (0 - x2)) else x2), .int .i64 0]) rfl ⟨rfl, rfl, trivial⟩ ?_
    exact fun w' hb hs => ⟨_, _, ⟨rfl, rfl⟩, rfl, hb, hs.sel [] _ (by decide) rfl⟩

/- impl.compare -/
def sh104 (q0 : Int) (q1 : Int) : Option (Int) := bif decide (q0 < q1) then (some (-1)) else (bif decide (q1 < q0) then (some 1) else (some 0))
def T104 (r : Int) (v : Value) (rs : List Own) : Prop := v = rets [.int .i64 r] ∧ rs = []
set_option maxRecDepth 100000 in
theorem c104 {w : World} {q0 : Int} {q1 : Int} {r : Int} (hres : sh104 q0 q1 = some r) : Calls Go.Proofs.Try.prog 104 [.int .i64 q0, .int .i64 q1].toArray w (Ret w (T104 r)) := by
  unfold sh104 at hres
  refine calls_of (n := 13) (M := []) (es := []) Go.Proofs.Try.func104 rfl rfl rfl (Sep.nil _ _ _) ?_
  refine JX.seq ?_
  refine JX.region ?_
  refine JL.val (yl_assign rfl) rfl ?_
  refine JL.nil ?_
  refine JE.code ?_
  refine JX.seq ?_
  refine JX.block ?_
  refine JX.seq ?_
  refine JX.region ?_
  refine JL.val (yl_move rfl) rfl ?_
  refine JL.val (yl_move rfl) rfl ?_
  refine JL.val (yl_lss rfl rfl) rfl ?_
  refine JL.val (yl_assign rfl) rfl ?_
  refine JL.nil ?_
  refine JE.weak (env' := [(0, .int .i64 q0), (1, .int .i64 q1), (5, .bool (decide (q0 < q1)))]) (es' := []) [] ?_ ⟨rfl, rfl, rfl, trivial⟩ (by decide) rfl
  refine JE.code ?_
  rcases cond_some hres with ⟨hb, hres⟩ | ⟨hb, hres⟩
  · refine JX.condT rfl hb ?_
    refine JX.seq ?_
    refine JX.region ?_
    refine JL.val (yl_assign rfl) rfl ?_
    refine JL.nil ?_
    refine JE.code ?_
    refine JX.ret ?_
    refine JE.qbr ?_
    obtain rfl := Option.some.inj hres
    refine JE.ret (rs := [.tmp 4]) (vs := [.int .i64 (-1)]) rfl ⟨rfl, trivial⟩ ?_
    exact fun w' hb hs => ⟨_, _, ⟨rfl, rfl⟩, rfl, hb, hs.sel [] _ (by decide) rfl⟩
  · refine JX.condF rfl hb ?_
    refine JX.seq ?_
    refine JX.region ?_
    refine JL.val (yl_move rfl) rfl ?_
    refine JL.val (yl_move rfl) rfl ?_
    refine JL.val (yl_gtr rfl rfl) rfl ?_
    refine JL.val (yl_assign rfl) rfl ?_
    refine JL.nil ?_
    refine JE.weak (env' := [(9, .bool (decide (q1 < q0)))]) (es' := []) [] ?_ ⟨rfl, trivial⟩ (by decide) rfl
    refine JE.code ?_
    rcases cond_some hres with ⟨hb, hres⟩ | ⟨hb, hres⟩
    · refine JX.condT rfl hb ?_
      refine JX.seq ?_
      refine JX.region ?_
      refine JL.val (yl_assign rfl) rfl ?_
      refine JL.nil ?_
      refine JE.code ?_
      refine JX.ret ?_
      refine JE.qbr ?_
      obtain rfl := Option.some.inj hres
      refine JE.ret (rs := [.tmp 4]) (vs := [.int .i64 1]) rfl ⟨rfl, trivial⟩ ?_
      exact fun w' hb hs => ⟨_, _, ⟨rfl, rfl⟩, rfl, hb, hs.sel [] _ (by decide) rfl⟩
    · refine JX.condF rfl hb ?_
      refine JX.skip ?_
      refine JE.code ?_
      refine JX.seq ?_
      refine JX.region ?_
      refine JL.val (yl_assign rfl) rfl ?_
      refine JL.nil ?_
      refine JE.code ?_
      refine JX.ret ?_
      obtain rfl := Option.some.inj hres
      refine JE.ret (rs := [.tmp 4]) (vs := [.int .i64 0]) rfl ⟨rfl, trivial⟩ ?_
      exact fun w' hb hs => ⟨_, _, ⟨rfl, rfl⟩, rfl, hb, hs.sel [] _ (by decide) rfl⟩

/- impl.side -/
def sh105 (q0 : SPoint) (q1 : SPoint) (q2 : SPoint) : Option (Int) := some (w64 ((w64 ((w64 (q1.X - q0.X)) * (w64 (q2.Y - q0.Y)))) - (w64 ((w64 (q1.Y - q0.Y)) * (w64 (q2.X - q0.X))))))
def T105 (r : Int) (v : Value) (rs : List Own) : Prop := v = rets [.int .i64 r] ∧ rs = []
set_option maxRecDepth 100000 in
theorem c105 {w : World} {q0 : SPoint} {q1 : SPoint} {q2 : SPoint} {r : Int} (hres : sh105 q0 q1 q2 = some r) : Calls Go.Proofs.Try.prog 105 [.agg #[.int .i64 q0.X, .int .i64 q0.Y], .agg #[.int .i64 q1.X, .int .i64 q1.Y], .agg #[.int .i64 q2.X, .int .i64 q2.Y]].toArray w (Ret w (T105 r)) := by
  unfold sh105 at hres
  refine calls_of (n := 30) (M := []) (es := []) Go.Proofs.Try.func105 rfl rfl rfl (Sep.nil _ _ _) ?_
  refine JX.seq ?_
  refine JX.region ?_
  refine JL.eff (ef_box rfl rfl) rfl ?_
  rintro _ _ ⟨g1, rfl, rfl⟩
  refine JL.eff (ef_box rfl rfl) rfl ?_
  rintro _ _ ⟨g3, rfl, rfl⟩
  refine JL.eff (ef_box rfl rfl) rfl ?_
  rintro _ _ ⟨g5, rfl, rfl⟩
  refine JL.val (yl_assign rfl) rfl ?_
  refine JL.nil ?_
  refine JE.weak (env' := [(3, ptrAt (some ⟨g1, 0, none⟩) 0), (4, ptrAt (some ⟨g3, 0, none⟩) 0), (5, ptrAt (some ⟨g5, 0, none⟩) 0)]) (es' := [boxO 42 g1 [.int .i64 q0.X, .int .i64 q0.Y], boxO 42 g3 [.int .i64 q1.X, .int .i64 q1.Y], boxO 42 g5 [.int .i64 q2.X, .int .i64 q2.Y]]) [0, 1, 2] ?_ ⟨rfl, rfl, rfl, trivial⟩ (by decide) rfl
  refine JE.code ?_
  refine JX.seq ?_
  refine JX.region ?_
  refine JL.val (yl_fieldAt (a := some _) Go.Proofs.Try.underlying42 rfl i2 i2n rfl rfl) rfl ?_
  refine JL.val (yl_load1 Go.Proofs.Try.underlying2 rfl rfl (fun w hC => rd_box hC 1 rfl) rfl) rfl ?_
  refine JL.val (yl_fieldAt (a := some _) Go.Proofs.Try.underlying42 rfl i2 i2n rfl rfl) rfl ?_
  refine JL.val (yl_load1 Go.Proofs.Try.underlying2 rfl rfl (fun w hC => rd_box hC 0 rfl) rfl) rfl ?_
  refine JL.val (yl_sub rfl rfl) rfl ?_
  refine JL.val (yl_fieldAt (a := some _) Go.Proofs.Try.underlying42 rfl i2 i2n rfl rfl) rfl ?_
  refine JL.val (yl_load1 Go.Proofs.Try.underlying2 rfl rfl (fun w hC => rd_box hC 2 rfl) rfl) rfl ?_
  refine JL.val (yl_fieldAt (a := some _) Go.Proofs.Try.underlying42 rfl i2 i2n rfl rfl) rfl ?_
  refine JL.val (yl_load1 Go.Proofs.Try.underlying2 rfl rfl (fun w hC => rd_box hC 0 rfl) rfl) rfl ?_
  refine JL.val (yl_sub rfl rfl) rfl ?_
  refine JL.val (yl_mul rfl rfl) rfl ?_
  refine JL.val (yl_fieldAt (a := some _) Go.Proofs.Try.underlying42 rfl i2 i2n rfl rfl) rfl ?_
  refine JL.val (yl_load1 Go.Proofs.Try.underlying2 rfl rfl (fun w hC => rd_box hC 1 rfl) rfl) rfl ?_
  refine JL.val (yl_fieldAt (a := some _) Go.Proofs.Try.underlying42 rfl i2 i2n rfl rfl) rfl ?_
  refine JL.val (yl_load1 Go.Proofs.Try.underlying2 rfl rfl (fun w hC => rd_box hC 0 rfl) rfl) rfl ?_
  refine JL.val (yl_sub rfl rfl) rfl ?_
  refine JL.val (yl_fieldAt (a := some _) Go.Proofs.Try.underlying42 rfl i2 i2n rfl rfl) rfl ?_
  refine JL.val (yl_load1 Go.Proofs.Try.underlying2 rfl rfl (fun w hC => rd_box hC 2 rfl) rfl) rfl ?_
  refine JL.val (yl_fieldAt (a := some _) Go.Proofs.Try.underlying42 rfl i2 i2n rfl rfl) rfl ?_
  refine JL.val (yl_load1 Go.Proofs.Try.underlying2 rfl rfl (fun w hC => rd_box hC 0 rfl) rfl) rfl ?_
  refine JL.val (yl_sub rfl rfl) rfl ?_
  refine JL.val (yl_mul rfl rfl) rfl ?_
  refine JL.val (yl_sub rfl rfl) rfl ?_
  refine JL.val (yl_assign rfl) rfl ?_
  refine JL.nil ?_
  refine JE.weak (env' := [(6, .int .i64 (w64 ((w64 ((w64 (q1.X - q0.X)) * (w64 (q2.Y - q0.Y)))) - (w64 ((w64 (q1.Y - q0.Y)) * (w64 (q2.X - q0.X)))))))]) (es' := []) [] ?_ ⟨rfl, trivial⟩ (by decide) rfl
  refine JE.code ?_
  refine JX.ret ?_
  obtain rfl := Option.some.inj hres
  refine JE.ret (rs := [.tmp 6]) (vs := [.int .i64 (w64 ((w64 ((w64 (q1.X - q0.X)) * (w64 (q2.Y - q0.Y)))) - (w64 ((w64 (q1.Y - q0.Y)) * (w64 (q2.X - q0.X))))))]) rfl ⟨rfl, trivial⟩ ?_
  exact fun w' hb hs => ⟨_, _, ⟨rfl, rfl⟩, rfl, hb, hs.sel [] _ (by decide) rfl⟩

/- impl.IsConvex -/
def sh19_2 (q0 : List SPoint) (x3 : Int) (x5 : SPoint) (x9 : SPoint) : Int → Option (Int ⊕ (Unit ⊕ Bool))
  | x12 => bif decide (x12 < (q0.length : Int)) then (Option.bind (getI q0 x12) fun x13 => Option.bind (sh105 x5 x9 x13) fun x16 => bif decide ((w64 (x3 * x16)) < 0) then (some (.inr (.inr false))) else (some (.inl (w64 (x12 + 1))))) else (some (.inr (.inl ())))
def sh19_1 (q0 : List SPoint) (x3 : Int) : Int → Option (Int ⊕ (Unit ⊕ Bool))
  | x4 => bif decide (x4 < (q0.length : Int)) then (Option.bind (getI q0 x4) fun x5 => Option.bind (nzI (q0.length : Int)) fun x8 => Option.bind (getI q0 ((w64 (x4 + 1)).tmod (q0.length : Int))) fun x9 => Option.bind (iter (sh19_2 q0 x3 x5 x9) 0) fun y2 => elimS y2 (fun r => some (.inr (.inr r))) fun b2 => (some (.inl (w64 (x4 + 1))))) else (some (.inr (.inl ())))
def sh19 (q0 : List SPoint) : Option (Bool) := Option.bind (sh102 q0) fun x1 => bif !x1 then (some false) else (Option.bind (sh103 q0) fun x2 => Option.bind (sh104 x2 0) fun x3 => bif x3 == 0 then (some false) else (Option.bind (iter (sh19_1 q0 x3) 0) fun y1 => elimS y1 (fun r => some r) fun b1 => (some true)))
def T19 (r : Bool) (v : Value) (rs : List Own) : Prop := v = rets [.bool r] ∧ rs = []
set_option maxRecDepth 100000 in
theorem c19 {w : World} {q0 : List SPoint} {a_0 : Option Addr} {n_0 c_0 : Nat} (g_0 : Rd w a_0 (eSPoint.fl q0)) (l_0 : q0.length = n_0) (k_0 : n_0 ≤ c_0) {r : Bool} (hres : sh19 q0 = some r) : Calls Go.Proofs.Try.prog 19 [.slice a_0 n_0 c_0].toArray w (Ret w (T19 r)) := by
  subst l_0
  unfold sh19 at hres
  refine calls_of (n := 47) (M := []) (es := []) Go.Proofs.Try.func19 rfl rfl rfl (Sep.nil _ _ _) ?_
  refine JX.seq ?_
  refine JX.region ?_
  refine JL.val (yl_assign rfl) rfl ?_
  refine JL.nil ?_
  refine JE.code ?_
  refine JX.seq ?_
  refine JX.seq ?_
  refine JX.region ?_
  refine JL.val (yl_move rfl) rfl ?_
  obtain ⟨x1, hx1, hres⟩ := bind_some hres
  refine JL.eff (ef_call (T := T102 x1) Go.Proofs.Try.func102 rfl (by kernel_rfl) rfl (fun w hC => c102 (rd_arg g_0 hC) rfl k_0 hx1)) rfl ?_
  rintro _ _ ⟨_, ⟨rfl, rfl⟩, rfl⟩
  refine JL.val (yl_not rfl) rfl ?_
  refine JL.nil ?_
  refine JE.code ?_
  rcases cond_some hres with ⟨hb, hres⟩ | ⟨hb, hres⟩
  · refine JX.condT rfl hb ?_
    refine JX.seq ?_
    refine JX.region ?_
    refine JL.val (yl_assign rfl) rfl ?_
    refine JL.nil ?_
    refine JE.code ?_
    refine JX.ret ?_
    obtain rfl := Option.some.inj hres
    refine JE.ret (rs := [.tmp 2]) (vs := [.bool false]) rfl ⟨rfl, trivial⟩ ?_
    exact fun w' hb hs => ⟨_, _, ⟨rfl, rfl⟩, rfl, hb, hs.sel [] _ (by decide) rfl⟩
  · refine JX.condF rfl hb ?_
    refine JX.skip ?_
    refine JE.code ?_
    refine JX.seq ?_
    refine JX.region ?_
    refine JL.val (yl_move rfl) rfl ?_
    obtain ⟨x2, hx2, hres⟩ := bind_some hres
    refine JL.eff (ef_call (T := T103 x2) Go.Proofs.Try.func103 rfl (by kernel_rfl) rfl (fun w hC => c103 (rd_arg g_0 hC) rfl k_0 hx2)) rfl ?_
    rintro _ _ ⟨_, ⟨rfl, rfl⟩, rfl⟩
    obtain ⟨x3, hx3, hres⟩ := bind_some hres
    refine JL.eff (ef_call (T := T104 x3) Go.Proofs.Try.func104 rfl (by kernel_rfl) rfl (fun w hC => c104  hx3)) rfl ?_
    rintro _ _ ⟨_, ⟨rfl, rfl⟩, rfl⟩
    refine JL.val (yl_assign rfl) rfl ?_
    refine JL.nil ?_
    refine JE.weak (env' := [(0, .slice a_0 q0.length c_0), (3, .int .i64 x3)]) (es' := []) [] ?_ ⟨rfl, rfl, trivial⟩ (by decide) rfl
    refine JE.code ?_
    refine JX.seq ?_
    refine JX.seq ?_
    refine JX.region ?_
    refine JL.val (yl_move rfl) rfl ?_
    refine JL.val (yl_eql rfl rfl) rfl ?_
    refine JL.nil ?_
    refine JE.code ?_
    rcases cond_some hres with ⟨hb, hres⟩ | ⟨hb, hres⟩
    · refine JX.condT rfl hb ?_
      refine JX.seq ?_
      refine JX.region ?_
      refine JL.val (yl_assign rfl) rfl ?_
      refine JL.nil ?_
      refine JE.code ?_
      refine JX.ret ?_
      obtain rfl := Option.some.inj hres
      refine JE.ret (rs := [.tmp 2]) (vs := [.bool false]) rfl ⟨rfl, trivial⟩ ?_
      exact fun w' hb hs => ⟨_, _, ⟨rfl, rfl⟩, rfl, hb, hs.sel [] _ (by decide) rfl⟩
    · refine JX.condF rfl hb ?_
      refine JX.skip ?_
      refine JE.code ?_
      refine JX.seq ?_
      refine JX.seq ?_
      refine JX.region ?_
      refine JL.val (yl_move rfl) rfl ?_
      refine JL.val (yl_len_slice Go.Proofs.Try.underlying34 rfl) rfl ?_
      refine JL.val (yl_move rfl) rfl ?_
      refine JL.nil ?_
      refine JE.code ?_
      refine JX.block ?_
      obtain ⟨y1, hy1, hresO1⟩ := bind_some hres
      refine JX.loop (I := fun (s1 : Int) aa ww => St w [] 47 [(0, .slice a_0 q0.length c_0), (3, .int .i64 x3), (17, .slice a_0 q0.length c_0), (18, .int .i64 (q0.length : Int)), (19, .int .i64 s1)] [] aa ww) (sh19_1 q0 x3) hy1 (fun a w h => h.weak ⟨rfl, rfl, rfl, rfl, rfl, trivial⟩ [] (by decide) rfl) ?_
      rintro x4 o1 hres hox1 aa ww hS
      refine (?_ : JX Go.Proofs.Try.prog w [] 47 _ _ [(0, .slice a_0 q0.length c_0), (3, .int .i64 x3), (17, .slice a_0 q0.length c_0), (18, .int .i64 (q0.length : Int)), (19, .int .i64 x4)] [] _) aa ww hS
      clear hS
      unfold sh19_1 at hres
      refine JX.seq ?_
      refine JX.region ?_
      refine JL.val (yl_lss rfl rfl) rfl ?_
      refine JL.nil ?_
      refine JE.code ?_
      refine JX.seq ?_
      rcases cond_some hres with ⟨hb, hres⟩ | ⟨hb, hres⟩
      · refine JX.condT rfl hb ?_
        refine JX.skip ?_
        refine JE.code ?_
        refine JX.seq ?_
        refine JX.block ?_
        refine JX.seq ?_
        refine JX.region ?_
        refine JL.val (yl_move rfl) rfl ?_
        obtain ⟨x5, hx5, hres⟩ := bind_some hres
        refine JL.val (yl_idxT Go.Proofs.Try.underlying34 i42 i42s rfl rfl hx5 rfl (fun w hC => rd_arg g_0 hC)) rfl ?_
        refine JL.val (yl_loadTn Go.Proofs.Try.underlying42 rfl i42 i42s rfl hx5 (fun w hC => rd_arg g_0 hC)) rfl ?_
        refine JL.eff (ef_alloc i42 i42z rfl) rfl ?_
        rintro _ _ ⟨g6, rfl, rfl⟩
        refine JL.val (yl_assign rfl) rfl ?_
        refine JL.eff (ef_store_box (i := 0) (v := .agg #[.int .i64 x5.X, .int .i64 x5.Y]) i42 rfl rfl rfl (i42s).symm (Nat.le_of_ble_eq_true rfl) (by simp [Value.cells, Value.oneCell'])) rfl ?_
        rintro _ _ rfl
        refine JL.nil ?_
        refine JE.weak (env' := [(0, .slice a_0 q0.length c_0), (3, .int .i64 x3), (4, .int .i64 x4), (5, ptrAt (some ⟨g6, 0, none⟩) 0), (17, .slice a_0 q0.length c_0), (18, .int .i64 (q0.length : Int)), (19, .int .i64 x4)]) (es' := [boxO 42 g6 [.int .i64 x5.X, .int .i64 x5.Y]]) [0] ?_ ⟨rfl, rfl, rfl, rfl, rfl, rfl, rfl, trivial⟩ (by decide) rfl
        refine JE.code ?_
        refine JX.seq ?_
        refine JX.region ?_
        refine JL.val (yl_move rfl) rfl ?_
        refine JL.val (yl_move rfl) rfl ?_
        refine JL.val (yl_add rfl rfl) rfl ?_
        refine JL.val (yl_move rfl) rfl ?_
        refine JL.val (yl_len_slice Go.Proofs.Try.underlying34 rfl) rfl ?_
        obtain ⟨x8, hx8, hres⟩ := bind_some hres
        refine JL.val (yl_rem rfl rfl (nzI_some hx8)) rfl ?_
        obtain ⟨x9, hx9, hres⟩ := bind_some hres
        refine JL.val (yl_idxT Go.Proofs.Try.underlying34 i42 i42s rfl rfl hx9 rfl (fun w hC => rd_arg g_0 hC)) rfl ?_
        refine JL.val (yl_loadTn Go.Proofs.Try.underlying42 rfl i42 i42s rfl hx9 (fun w hC => rd_arg g_0 hC)) rfl ?_
        refine JL.eff (ef_alloc i42 i42z rfl) rfl ?_
        rintro _ _ ⟨g10, rfl, rfl⟩
        refine JL.eff (ef_store_box (i := 1) (v := .agg #[.int .i64 x9.X, .int .i64 x9.Y]) i42 rfl rfl rfl (i42s).symm (Nat.le_of_ble_eq_true rfl) (by simp [Value.cells, Value.oneCell'])) rfl ?_
        rintro _ _ rfl
        refine JL.nil ?_
        refine JE.weak (env' := [(0, .slice a_0 q0.length c_0), (3, .int .i64 x3), (5, ptrAt (some ⟨g6, 0, none⟩) 0), (6, ptrAt (some ⟨g10, 0, none⟩) 0), (17, .slice a_0 q0.length c_0), (18, .int .i64 (q0.length : Int)), (19, .int .i64 x4)]) (es' := [boxO 42 g6 [.int .i64 x5.X, .int .i64 x5.Y], boxO 42 g10 [.int .i64 x9.X, .int .i64 x9.Y]]) [0, 1] ?_ ⟨rfl, rfl, rfl, rfl, rfl, rfl, rfl, trivial⟩ (by decide) rfl
        refine JE.code ?_
        refine JX.seq ?_
        refine JX.region ?_
        refine JL.val (yl_move rfl) rfl ?_
        refine JL.val (yl_len_slice Go.Proofs.Try.underlying34 rfl) rfl ?_
        refine JL.val (yl_move rfl) rfl ?_
        refine JL.nil ?_
        refine JE.code ?_
        refine JX.block ?_
        obtain ⟨y2, hy2, hresO2⟩ := bind_some hres
        refine JX.loop (I := fun (s2 : Int) aa ww => St w [] 47 [(0, .slice a_0 q0.length c_0), (3, .int .i64 x3), (5, ptrAt (some ⟨g6, 0, none⟩) 0), (6, ptrAt (some ⟨g10, 0, none⟩) 0), (17, .slice a_0 q0.length c_0), (18, .int .i64 (q0.length : Int)), (19, .int .i64 x4), (32, .slice a_0 q0.length c_0), (33, .int .i64 (q0.length : Int)), (34, .int .i64 s2)] [boxO 42 g6 [.int .i64 x5.X, .int .i64 x5.Y], boxO 42 g10 [.int .i64 x9.X, .int .i64 x9.Y]] aa ww) (sh19_2 q0 x3 x5 x9) hy2 (fun a w h => h.weak ⟨rfl, rfl, rfl, rfl, rfl, rfl, rfl, rfl, rfl, rfl, trivial⟩ [0, 1] (by decide) rfl) ?_
        rintro x12 o2 hres hox2 aa ww hS
        refine (?_ : JX Go.Proofs.Try.prog w [] 47 _ _ [(0, .slice a_0 q0.length c_0), (3, .int .i64 x3), (5, ptrAt (some ⟨g6, 0, none⟩) 0), (6, ptrAt (some ⟨g10, 0, none⟩) 0), (17, .slice a_0 q0.length c_0), (18, .int .i64 (q0.length : Int)), (19, .int .i64 x4), (32, .slice a_0 q0.length c_0), (33, .int .i64 (q0.length : Int)), (34, .int .i64 x12)] [boxO 42 g6 [.int .i64 x5.X, .int .i64 x5.Y], boxO 42 g10 [.int .i64 x9.X, .int .i64 x9.Y]] _) aa ww hS
        clear hS
        unfold sh19_2 at hres
        refine JX.seq ?_
        refine JX.region ?_
        refine JL.val (yl_lss rfl rfl) rfl ?_
        refine JL.nil ?_
        refine JE.code ?_
        refine JX.seq ?_
        rcases cond_some hres with ⟨hb, hres⟩ | ⟨hb, hres⟩
        · refine JX.condT rfl hb ?_
          refine JX.skip ?_
          refine JE.code ?_
          refine JX.seq ?_
          refine JX.block ?_
          refine JX.seq ?_
          refine JX.region ?_
          obtain ⟨x13, hx13, hres⟩ := bind_some hres
          refine JL.val (yl_idxT Go.Proofs.Try.underlying34 i42 i42s rfl rfl hx13 rfl (fun w hC => rd_arg g_0 hC)) rfl ?_
          refine JL.val (yl_loadTn Go.Proofs.Try.underlying42 rfl i42 i42s rfl hx13 (fun w hC => rd_arg g_0 hC)) rfl ?_
          refine JL.eff (ef_alloc i42 i42z rfl) rfl ?_
          rintro _ _ ⟨g14, rfl, rfl⟩
          refine JL.eff (ef_store_box (i := 2) (v := .agg #[.int .i64 x13.X, .int .i64 x13.Y]) i42 rfl rfl rfl (i42s).symm (Nat.le_of_ble_eq_true rfl) (by simp [Value.cells, Value.oneCell'])) rfl ?_
          rintro _ _ rfl
          refine JL.nil ?_
          refine JE.weak (env' := [(0, .slice a_0 q0.length c_0), (3, .int .i64 x3), (5, ptrAt (some ⟨g6, 0, none⟩) 0), (6, ptrAt (some ⟨g10, 0, none⟩) 0), (8, ptrAt (some ⟨g14, 0, none⟩) 0), (17, .slice a_0 q0.length c_0), (18, .int .i64 (q0.length : Int)), (19, .int .i64 x4), (32, .slice a_0 q0.length c_0), (33, .int .i64 (q0.length : Int)), (34, .int .i64 x12)]) (es' := [boxO 42 g6 [.int .i64 x5.X, .int .i64 x5.Y], boxO 42 g10 [.int .i64 x9.X, .int .i64 x9.Y], boxO 42 g14 [.int .i64 x13.X, .int .i64 x13.Y]]) [0, 1, 2] ?_ ⟨rfl, rfl, rfl, rfl, rfl, rfl, rfl, rfl, rfl, rfl, rfl, trivial⟩ (by decide) rfl
          refine JE.code ?_
          refine JX.seq ?_
          refine JX.region ?_
          refine JL.val (yl_move rfl) rfl ?_
          refine JL.val (yl_loadn Go.Proofs.Try.underlying42 rfl i42 rfl (fun w hC => rd_box hC 0 rfl) rfl (i42s).symm i42p) rfl ?_
          refine JL.val (yl_loadn Go.Proofs.Try.underlying42 rfl i42 rfl (fun w hC => rd_box hC 1 rfl) rfl (i42s).symm i42p) rfl ?_
          refine JL.val (yl_loadn Go.Proofs.Try.underlying42 rfl i42 rfl (fun w hC => rd_box hC 2 rfl) rfl (i42s).symm i42p) rfl ?_
          obtain ⟨x16, hx16, hres⟩ := bind_some hres
          refine JL.eff (ef_call (vs := [.agg #[.int .i64 x5.X, .int .i64 x5.Y], .agg #[.int .i64 x9.X, .int .i64 x9.Y], .agg #[.int .i64 x13.X, .int .i64 x13.Y]]) (T := T105 x16) Go.Proofs.Try.func105 rfl (by kernel_rfl) rfl (fun w hC => c105 (q0 := x5) (q1 := x9) (q2 := x13) hx16)) rfl ?_
          rintro _ _ ⟨_, ⟨rfl, rfl⟩, rfl⟩
          refine JL.val (yl_mul rfl rfl) rfl ?_
          refine JL.val (yl_lss rfl rfl) rfl ?_
          refine JL.nil ?_
          refine JE.weak (env' := [(0, .slice a_0 q0.length c_0), (3, .int .i64 x3), (5, ptrAt (some ⟨g6, 0, none⟩) 0), (6, ptrAt (some ⟨g10, 0, none⟩) 0), (17, .slice a_0 q0.length c_0), (18, .int .i64 (q0.length : Int)), (19, .int .i64 x4), (32, .slice a_0 q0.length c_0), (33, .int .i64 (q0.length : Int)), (34, .int .i64 x12), (44, .bool (decide ((w64 (x3 * x16)) < 0)))]) (es' := [boxO 42 g6 [.int .i64 x5.X, .int .i64 x5.Y], boxO 42 g10 [.int .i64 x9.X, .int .i64 x9.Y]]) [0, 1] ?_ ⟨rfl, rfl, rfl, rfl, rfl, rfl, rfl, rfl, rfl, rfl, rfl, trivial⟩ (by decide) rfl
          refine JE.code ?_
          rcases cond_some hres with ⟨hb, hres⟩ | ⟨hb, hres⟩
          · refine JX.condT rfl hb ?_
            refine JX.seq ?_
            refine JX.region ?_
            refine JL.val (yl_assign rfl) rfl ?_
            refine JL.nil ?_
            refine JE.weak (env' := [(2, .bool false)]) (es' := []) [] ?_ ⟨rfl, trivial⟩ (by decide) rfl
            refine JE.code ?_
            refine JX.ret ?_
            refine JE.qbr ?_
            refine JE.qbr ?_
            refine JE.qbr ?_
            refine JE.qbr ?_
            have hres := elimS_inr hresO2 (hox2 _ (Option.some.inj hres).symm)
            have hres := elimS_inr hresO1 (hox1 _ (Option.some.inj hres).symm)
            obtain rfl := Option.some.inj hres
            refine JE.ret (rs := [.tmp 2]) (vs := [.bool false]) rfl ⟨rfl, trivial⟩ ?_
            exact fun w' hb hs => ⟨_, _, ⟨rfl, rfl⟩, rfl, hb, hs.sel [] _ (by decide) rfl⟩
          · refine JX.condF rfl hb ?_
            refine JX.skip ?_
            refine JE.code ?_
            refine JX.region ?_
            refine JL.val (yl_add rfl rfl) rfl ?_
            refine JL.val (yl_move rfl) rfl ?_
            refine JL.nil ?_
            refine JE.cont hres ?_
            exact fun a w h => h.weak ⟨rfl, rfl, rfl, rfl, rfl, rfl, rfl, rfl, rfl, rfl, trivial⟩ [0, 1] (by decide) rfl
        · refine JX.condF rfl hb ?_
          refine JX.exit ?_
          refine JE.qb rfl ?_
          obtain ⟨b2, hb2⟩ : ∃ b : Unit, b = () := ⟨_, rfl⟩
          have hy2 : Sum.inl b2 = y2 := by rw [hb2]; exact hox2 _ (Option.some.inj hres).symm
          have hres := elimS_inl hresO2 hy2
          refine JE.weak (env' := [(0, .slice a_0 q0.length c_0), (3, .int .i64 x3), (17, .slice a_0 q0.length c_0), (18, .int .i64 (q0.length : Int)), (19, .int .i64 x4)]) (es' := []) [] ?_ ⟨(by subst hb2; rfl), (by subst hb2; rfl), (by subst hb2; rfl), (by subst hb2; rfl), (by subst hb2; rfl), trivial⟩ (by decide) (by subst hb2; rfl)
          refine JE.code ?_
          refine JX.region ?_
          refine JL.val (yl_add rfl rfl) rfl ?_
          refine JL.val (yl_move rfl) rfl ?_
          refine JL.nil ?_
          refine JE.cont hres ?_
          exact fun a w h => h.weak ⟨rfl, rfl, rfl, rfl, rfl, trivial⟩ [] (by decide) rfl
      · refine JX.condF rfl hb ?_
        refine JX.exit ?_
        refine JE.qb rfl ?_
        obtain ⟨b1, hb1⟩ : ∃ b : Unit, b = () := ⟨_, rfl⟩
        have hy1 : Sum.inl b1 = y1 := by rw [hb1]; exact hox1 _ (Option.some.inj hres).symm
        have hres := elimS_inl hresO1 hy1
        refine JE.weak (env' := []) (es' := []) [] ?_ trivial (by decide) (by subst hb1; rfl)
        refine JE.code ?_
        refine JX.seq ?_
        refine JX.region ?_
        refine JL.val (yl_assign rfl) rfl ?_
        refine JL.nil ?_
        refine JE.code ?_
        refine JX.ret ?_
        obtain rfl := Option.some.inj hres
        refine JE.ret (rs := [.tmp 2]) (vs := [.bool true]) rfl ⟨rfl, trivial⟩ ?_
        exact fun w' hb hs => ⟨_, _, ⟨rfl, rfl⟩, rfl, hb, hs.sel [] _ (by decide) rfl⟩

/- impl.InPolygon -/
def sh20_1 (q0 : List SPoint) (q1 : SPoint) : (Int × Int) → Option ((Int × Int) ⊕ (Int ⊕ (Int × Int)))
  | (x5, x6) => bif decide (x6 < (q0.length : Int)) then (Option.bind (getI q0 x6) fun x7 => Option.bind (nzI (q0.length : Int)) fun x10 => Option.bind (getI q0 ((w64 (x6 + 1)).tmod (q0.length : Int))) fun x11 => Option.bind (sh105 x7 x11 q1) fun x14 => Option.bind (bif x14 == 0 then (Option.bind (sh107 q1.X (if x11.X < x7.X then x11.X else x7.X) (if x7.X < x11.X then x11.X else x7.X)) fun x16 => some x16) else (some false)) fun cb15 => (Option.bind (bif cb15 then (Option.bind (sh107 q1.Y (if x11.Y < x7.Y then x11.Y else x7.Y) (if x7.Y < x11.Y then x11.Y else x7.Y)) fun x18 => some x18) else (some false)) fun cb17 => (bif cb17 then (some (.inr (.inr (1, 0)))) else (Option.bind (bif decide (x11.Y < x7.Y) then (some (x11, x7)) else (some (x7, x11))) fun j19 => (Option.bind (bif (decide (j19.1.Y ≤ q1.Y)) && (decide (q1.Y < j19.2.Y)) then (Option.bind (sh105 j19.1 j19.2 q1) fun x21 => some (decide (0 < x21))) else (some false)) fun cb20 => (Option.bind (bif cb20 then (some (w64 (2 - x5))) else (some x5)) fun j22 => (some (.inl (j22, w64 (x6 + 1)))))))))) else (some (.inr (.inl x5)))
def sh20 (q0 : List SPoint) (q1 : SPoint) : Option (Int × Int) := Option.bind (sh102 q0) fun x3 => bif !x3 then (some (0, 1)) else (Option.bind (sh106 q1) fun x4 => bif !x4 then (some (0, 2)) else (Option.bind (iter (sh20_1 q0 q1) (0, 0)) fun y1 => elimS y1 (fun r => some r) fun b1 => (some (b1, 0))))
def T20 (r : Int × Int) (v : Value) (rs : List Own) : Prop := v = rets [.int .i64 r.1, .int .i64 r.2] ∧ rs = []
set_option maxRecDepth 100000 in
set_option maxHeartbeats 1000000 in
theorem c20 {w : World} {q0 : List SPoint} {a_0 : Option Addr} {n_0 c_0 : Nat} (g_0 : Rd w a_0 (eSPoint.fl q0)) (l_0 : q0.length = n_0) (k_0 : n_0 ≤ c_0) {q1 : SPoint} {r : Int × Int} (hres : sh20 q0 q1 = some r) : Calls Go.Proofs.Try.prog 20 [.slice a_0 n_0 c_0, .agg #[.int .i64 q1.X, .int .i64 q1.Y]].toArray w (Ret w (T20 r)) := by
  subst l_0
  unfold sh20 at hres
  refine calls_of (n := 96) (M := []) (es := []) Go.Proofs.Try.func20 rfl rfl rfl (Sep.nil _ _ _) ?_
  refine JX.seq ?_
  refine JX.region ?_
  refine JL.eff (ef_box rfl rfl) rfl ?_
  rintro _ _ ⟨g1, rfl, rfl⟩
  refine JL.val (yl_assign rfl) rfl ?_
  refine JL.val (yl_assign rfl) rfl ?_
  refine JL.nil ?_
  refine JE.code ?_
  refine JX.seq ?_
  refine JX.seq ?_
  refine JX.region ?_
  refine JL.val (yl_move rfl) rfl ?_
  obtain ⟨x3, hx3, hres⟩ := bind_some hres
  refine JL.eff (ef_call (T := T102 x3) Go.Proofs.Try.func102 rfl (by kernel_rfl) rfl (fun w hC => c102 (rd_arg g_0 hC) rfl k_0 hx3)) rfl ?_
  rintro _ _ ⟨_, ⟨rfl, rfl⟩, rfl⟩
  refine JL.val (yl_not rfl) rfl ?_
  refine JL.nil ?_
  refine JE.code ?_
  rcases cond_some hres with ⟨hb, hres⟩ | ⟨hb, hres⟩
  · refine JX.condT rfl hb ?_
    refine JX.seq ?_
    refine JX.region ?_
    refine JL.val (yl_assign rfl) rfl ?_
    refine JL.val (yl_assign rfl) rfl ?_
    refine JL.nil ?_
    refine JE.weak (env' := [(4, .int .i64 0), (5, .int .i64 1)]) (es' := []) [] ?_ ⟨rfl, rfl, trivial⟩ (by decide) rfl
    refine JE.code ?_
    refine JX.ret ?_
    obtain rfl := Option.some.inj hres
    refine JE.ret (rs := [.tmp 4, .tmp 5]) (vs := [.int .i64 0, .int .i64 1]) rfl ⟨rfl, rfl, trivial⟩ ?_
    exact fun w' hb hs => ⟨_, _, ⟨rfl, rfl⟩, rfl, hb, hs.sel [] _ (by decide) rfl⟩
  · refine JX.condF rfl hb ?_
    refine JX.skip ?_
    refine JE.code ?_
    refine JX.seq ?_
    refine JX.seq ?_
    refine JX.region ?_
    refine JL.val (yl_loadn Go.Proofs.Try.underlying42 rfl i42 rfl (fun w hC => rd_box hC 0 rfl) rfl (i42s).symm i42p) rfl ?_
    obtain ⟨x4, hx4, hres⟩ := bind_some hres
    refine JL.eff (ef_call (vs := [.agg #[.int .i64 q1.X, .int .i64 q1.Y]]) (T := T106 x4) Go.Proofs.Try.func106 rfl (by kernel_rfl) rfl (fun w hC => c106 (q0 := q1) hx4)) rfl ?_
    rintro _ _ ⟨_, ⟨rfl, rfl⟩, rfl⟩
    refine JL.val (yl_not rfl) rfl ?_
    refine JL.nil ?_
    refine JE.code ?_
    rcases cond_some hres with ⟨hb, hres⟩ | ⟨hb, hres⟩
    · refine JX.condT rfl hb ?_
      refine JX.seq ?_
      refine JX.region ?_
      refine JL.val (yl_assign rfl) rfl ?_
      refine JL.val (yl_assign rfl) rfl ?_
      refine JL.nil ?_
      refine JE.weak (env' := [(4, .int .i64 0), (5, .int .i64 2)]) (es' := []) [] ?_ ⟨rfl, rfl, trivial⟩ (by decide) rfl
      refine JE.code ?_
      refine JX.ret ?_
      obtain rfl := Option.some.inj hres
      refine JE.ret (rs := [.tmp 4, .tmp 5]) (vs := [.int .i64 0, .int .i64 2]) rfl ⟨rfl, rfl, trivial⟩ ?_
      exact fun w' hb hs => ⟨_, _, ⟨rfl, rfl⟩, rfl, hb, hs.sel [] _ (by decide) rfl⟩
    · refine JX.condF rfl hb ?_
      refine JX.skip ?_
      refine JE.code ?_
      refine JX.seq ?_
      refine JX.region ?_
      refine JL.val (yl_assign rfl) rfl ?_
      refine JL.nil ?_
      refine JE.code ?_
      refine JX.seq ?_
      refine JX.seq ?_
      refine JX.region ?_
      refine JL.val (yl_move rfl) rfl ?_
      refine JL.val (yl_len_slice Go.Proofs.Try.underlying34 rfl) rfl ?_
      refine JL.val (yl_move rfl) rfl ?_
      refine JL.nil ?_
      refine JE.code ?_
      refine JX.block ?_
      obtain ⟨y1, hy1, hresO1⟩ := bind_some hres
      refine JX.loop (I := fun (s1 : Int × Int) aa ww => St w [] 96 [(0, .slice a_0 q0.length c_0), (3, ptrAt (some ⟨g1, 0, none⟩) 0), (6, .int .i64 s1.1), (16, .slice a_0 q0.length c_0), (17, .int .i64 (q0.length : Int)), (18, .int .i64 s1.2)] [boxO 42 g1 [.int .i64 q1.X, .int .i64 q1.Y]] aa ww) (sh20_1 q0 q1) hy1 (fun a w h => h.weak ⟨rfl, rfl, rfl, rfl, rfl, rfl, trivial⟩ [0] (by decide) rfl) ?_
      rintro ⟨x5, x6⟩ o1 hres hox1 aa ww hS
      refine (?_ : JX Go.Proofs.Try.prog w [] 96 _ _ [(0, .slice a_0 q0.length c_0), (3, ptrAt (some ⟨g1, 0, none⟩) 0), (6, .int .i64 x5), (16, .slice a_0 q0.length c_0), (17, .int .i64 (q0.length : Int)), (18, .int .i64 x6)] [boxO 42 g1 [.int .i64 q1.X, .int .i64 q1.Y]] _) aa ww hS
      clear hS
      simp only [sh20_1] at hres
      refine JX.seq ?_
      refine JX.region ?_
      refine JL.val (yl_lss rfl rfl) rfl ?_
      refine JL.nil ?_
      refine JE.code ?_
      refine JX.seq ?_
      rcases cond_some hres with ⟨hb, hres⟩ | ⟨hb, hres⟩
      · refine JX.condT rfl hb ?_
        refine JX.skip ?_
        refine JE.code ?_
        refine JX.seq ?_
        refine JX.block ?_
        refine JX.seq ?_
        refine JX.region ?_
        refine JL.val (yl_move rfl) rfl ?_
        obtain ⟨x7, hx7, hres⟩ := bind_some hres
        refine JL.val (yl_idxT Go.Proofs.Try.underlying34 i42 i42s rfl rfl hx7 rfl (fun w hC => rd_arg g_0 hC)) rfl ?_
        refine JL.val (yl_loadTn Go.Proofs.Try.underlying42 rfl i42 i42s rfl hx7 (fun w hC => rd_arg g_0 hC)) rfl ?_
        refine JL.eff (ef_alloc i42 i42z rfl) rfl ?_
        rintro _ _ ⟨g8, rfl, rfl⟩
        refine JL.val (yl_assign rfl) rfl ?_
        refine JL.eff (ef_store_box (i := 1) (v := .agg #[.int .i64 x7.X, .int .i64 x7.Y]) i42 rfl rfl rfl (i42s).symm (Nat.le_of_ble_eq_true rfl) (by simp [Value.cells, Value.oneCell'])) rfl ?_
        rintro _ _ rfl
        refine JL.nil ?_
        refine JE.weak (env' := [(0, .slice a_0 q0.length c_0), (3, ptrAt (some ⟨g1, 0, none⟩) 0), (6, .int .i64 x5), (7, .int .i64 x6), (8, ptrAt (some ⟨g8, 0, none⟩) 0), (16, .slice a_0 q0.length c_0), (17, .int .i64 (q0.length : Int)), (18, .int .i64 x6)]) (es' := [boxO 42 g1 [.int .i64 q1.X, .int .i64 q1.Y], boxO 42 g8 [.int .i64 x7.X, .int .i64 x7.Y]]) [0, 1] ?_ ⟨rfl, rfl, rfl, rfl, rfl, rfl, rfl, rfl, trivial⟩ (by decide) rfl
        refine JE.code ?_
        refine JX.seq ?_
        refine JX.region ?_
        refine JL.val (yl_move rfl) rfl ?_
        refine JL.val (yl_move rfl) rfl ?_
        refine JL.val (yl_add rfl rfl) rfl ?_
        refine JL.val (yl_move rfl) rfl ?_
        refine JL.val (yl_len_slice Go.Proofs.Try.underlying34 rfl) rfl ?_
        obtain ⟨x10, hx10, hres⟩ := bind_some hres
        refine JL.val (yl_rem rfl rfl (nzI_some hx10)) rfl ?_
        obtain ⟨x11, hx11, hres⟩ := bind_some hres
        refine JL.val (yl_idxT Go.Proofs.Try.underlying34 i42 i42s rfl rfl hx11 rfl (fun w hC => rd_arg g_0 hC)) rfl ?_
        refine JL.val (yl_loadTn Go.Proofs.Try.underlying42 rfl i42 i42s rfl hx11 (fun w hC => rd_arg g_0 hC)) rfl ?_
        refine JL.eff (ef_alloc i42 i42z rfl) rfl ?_
        rintro _ _ ⟨g12, rfl, rfl⟩
        refine JL.eff (ef_store_box (i := 2) (v := .agg #[.int .i64 x11.X, .int .i64 x11.Y]) i42 rfl rfl rfl (i42s).symm (Nat.le_of_ble_eq_true rfl) (by simp [Value.cells, Value.oneCell'])) rfl ?_
        rintro _ _ rfl
        refine JL.nil ?_
        refine JE.weak (env' := [(0, .slice a_0 q0.length c_0), (3, ptrAt (some ⟨g1, 0, none⟩) 0), (6, .int .i64 x5), (8, ptrAt (some ⟨g8, 0, none⟩) 0), (9, ptrAt (some ⟨g12, 0, none⟩) 0), (16, .slice a_0 q0.length c_0), (17, .int .i64 (q0.length : Int)), (18, .int .i64 x6)]) (es' := [boxO 42 g1 [.int .i64 q1.X, .int .i64 q1.Y], boxO 42 g8 [.int .i64 x7.X, .int .i64 x7.Y], boxO 42 g12 [.int .i64 x11.X, .int .i64 x11.Y]]) [0, 1, 2] ?_ ⟨rfl, rfl, rfl, rfl, rfl, rfl, rfl, rfl, trivial⟩ (by decide) rfl
        refine JE.code ?_
        refine JX.seq ?_
        refine JX.seq ?_
        refine JX.region ?_
        refine JL.val (yl_loadn Go.Proofs.Try.underlying42 rfl i42 rfl (fun w hC => rd_box hC 1 rfl) rfl (i42s).symm i42p) rfl ?_
        refine JL.val (yl_loadn Go.Proofs.Try.underlying42 rfl i42 rfl (fun w hC => rd_box hC 2 rfl) rfl (i42s).symm i42p) rfl ?_
        refine JL.val (yl_loadn Go.Proofs.Try.underlying42 rfl i42 rfl (fun w hC => rd_box hC 0 rfl) rfl (i42s).symm i42p) rfl ?_
        obtain ⟨x14, hx14, hres⟩ := bind_some hres
        refine JL.eff (ef_call (vs := [.agg #[.int .i64 x7.X, .int .i64 x7.Y], .agg #[.int .i64 x11.X, .int .i64 x11.Y], .agg #[.int .i64 q1.X, .int .i64 q1.Y]]) (T := T105 x14) Go.Proofs.Try.func105 rfl (by kernel_rfl) rfl (fun w hC => c105 (q0 := x7) (q1 := x11) (q2 := q1) hx14)) rfl ?_
        rintro _ _ ⟨_, ⟨rfl, rfl⟩, rfl⟩
        refine JL.val (yl_eql rfl rfl) rfl ?_
        refine JL.val (yl_move rfl) rfl ?_
        obtain ⟨cb15, hcb15, hres⟩ := bind_some hres
        refine JL.cut (K := fun J => J [(0, .slice a_0 q0.length c_0), (3, ptrAt (some ⟨g1, 0, none⟩) 0), (6, .int .i64 x5), (8, ptrAt (some ⟨g8, 0, none⟩) 0), (9, ptrAt (some ⟨g12, 0, none⟩) 0), (16, .slice a_0 q0.length c_0), (17, .int .i64 (q0.length : Int)), (18, .int .i64 x6), (50, .bool cb15)] [boxO 42 g1 [.int .i64 q1.X, .int .i64 q1.Y], boxO 42 g8 [.int .i64 x7.X, .int .i64 x7.Y], boxO 42 g12 [.int .i64 x11.X, .int .i64 x11.Y]]) 14 ?_ ?_
        · refine JL.val (yl_move rfl) rfl ?_
          obtain ⟨cb17, hcb17, hres⟩ := bind_some hres
          refine JL.cut (K := fun J => J [(0, .slice a_0 q0.length c_0), (3, ptrAt (some ⟨g1, 0, none⟩) 0), (6, .int .i64 x5), (8, ptrAt (some ⟨g8, 0, none⟩) 0), (9, ptrAt (some ⟨g12, 0, none⟩) 0), (16, .slice a_0 q0.length c_0), (17, .int .i64 (q0.length : Int)), (18, .int .i64 x6), (65, .bool cb17)] [boxO 42 g1 [.int .i64 q1.X, .int .i64 q1.Y], boxO 42 g8 [.int .i64 x7.X, .int .i64 x7.Y], boxO 42 g12 [.int .i64 x11.X, .int .i64 x11.Y]]) 14 ?_ ?_
          · refine JL.nil ?_
            refine JE.weak (env' := [(0, .slice a_0 q0.length c_0), (3, ptrAt (some ⟨g1, 0, none⟩) 0), (6, .int .i64 x5), (8, ptrAt (some ⟨g8, 0, none⟩) 0), (9, ptrAt (some ⟨g12, 0, none⟩) 0), (16, .slice a_0 q0.length c_0), (17, .int .i64 (q0.length : Int)), (18, .int .i64 x6), (65, .bool cb17)]) (es' := [boxO 42 g1 [.int .i64 q1.X, .int .i64 q1.Y], boxO 42 g8 [.int .i64 x7.X, .int .i64 x7.Y], boxO 42 g12 [.int .i64 x11.X, .int .i64 x11.Y]]) [0, 1, 2] ?_ ⟨rfl, rfl, rfl, rfl, rfl, rfl, rfl, rfl, rfl, trivial⟩ (by decide) rfl
            refine JE.code ?_
            rcases cond_some hres with ⟨hb, hres⟩ | ⟨hb, hres⟩
            · refine JX.condT rfl hb ?_
              refine JX.seq ?_
              refine JX.region ?_
              refine JL.val (yl_assign rfl) rfl ?_
              refine JL.val (yl_assign rfl) rfl ?_
              refine JL.nil ?_
              refine JE.weak (env' := [(4, .int .i64 1), (5, .int .i64 0)]) (es' := []) [] ?_ ⟨rfl, rfl, trivial⟩ (by decide) rfl
              refine JE.code ?_
              refine JX.ret ?_
              refine JE.qbr ?_
              refine JE.qbr ?_
              have hres := elimS_inr hresO1 (hox1 _ (Option.some.inj hres).symm)
              obtain rfl := Option.some.inj hres
              refine JE.ret (rs := [.tmp 4, .tmp 5]) (vs := [.int .i64 1, .int .i64 0]) rfl ⟨rfl, rfl, trivial⟩ ?_
              exact fun w' hb hs => ⟨_, _, ⟨rfl, rfl⟩, rfl, hb, hs.sel [] _ (by decide) rfl⟩
            · refine JX.condF rfl hb ?_
              refine JX.skip ?_
              refine JE.code ?_
              refine JX.seq ?_
              refine JX.seq ?_
              refine JX.region ?_
              refine JL.val (yl_fieldAt (a := some _) Go.Proofs.Try.underlying42 rfl i2 i2n rfl rfl) rfl ?_
              refine JL.val (yl_load1 Go.Proofs.Try.underlying2 rfl rfl (fun w hC => rd_box hC 1 rfl) rfl) rfl ?_
              refine JL.val (yl_fieldAt (a := some _) Go.Proofs.Try.underlying42 rfl i2 i2n rfl rfl) rfl ?_
              refine JL.val (yl_load1 Go.Proofs.Try.underlying2 rfl rfl (fun w hC => rd_box hC 2 rfl) rfl) rfl ?_
              refine JL.val (yl_gtr rfl rfl) rfl ?_
              refine JL.nil ?_
              refine JE.weak (env' := [(0, .slice a_0 q0.length c_0), (3, ptrAt (some ⟨g1, 0, none⟩) 0), (6, .int .i64 x5), (8, ptrAt (some ⟨g8, 0, none⟩) 0), (9, ptrAt (some ⟨g12, 0, none⟩) 0), (16, .slice a_0 q0.length c_0), (17, .int .i64 (q0.length : Int)), (18, .int .i64 x6), (70, .bool (decide (x11.Y < x7.Y)))]) (es' := [boxO 42 g1 [.int .i64 q1.X, .int .i64 q1.Y], boxO 42 g8 [.int .i64 x7.X, .int .i64 x7.Y], boxO 42 g12 [.int .i64 x11.X, .int .i64 x11.Y]]) [0, 1, 2] ?_ ⟨rfl, rfl, rfl, rfl, rfl, rfl, rfl, rfl, rfl, trivial⟩ (by decide) rfl
              refine JE.code ?_
              obtain ⟨j19, hj19, hresj19⟩ := bind_some hres
              refine JX.cut (K := fun J => J [(0, .slice a_0 q0.length c_0), (3, ptrAt (some ⟨g1, 0, none⟩) 0), (6, .int .i64 x5), (8, ptrAt (some ⟨g8, 0, none⟩) 0), (9, ptrAt (some ⟨g12, 0, none⟩) 0), (16, .slice a_0 q0.length c_0), (17, .int .i64 (q0.length : Int)), (18, .int .i64 x6)] [boxO 42 g1 [.int .i64 q1.X, .int .i64 q1.Y], boxO 42 g8 [.int .i64 j19.1.X, .int .i64 j19.1.Y], boxO 42 g12 [.int .i64 j19.2.X, .int .i64 j19.2.Y]]) ?_ ?_
              · have hres := hresj19
                refine JE.code ?_
                refine JX.seq ?_
                refine JX.region ?_
                refine JL.val (yl_fieldAt (a := some _) Go.Proofs.Try.underlying42 rfl i2 i2n rfl rfl) rfl ?_
                refine JL.val (yl_load1 Go.Proofs.Try.underlying2 rfl rfl (fun w hC => rd_box hC 1 rfl) rfl) rfl ?_
                refine JL.val (yl_fieldAt (a := some _) Go.Proofs.Try.underlying42 rfl i2 i2n rfl rfl) rfl ?_
                refine JL.val (yl_load1 Go.Proofs.Try.underlying2 rfl rfl (fun w hC => rd_box hC 0 rfl) rfl) rfl ?_
                refine JL.val (yl_leq rfl rfl) rfl ?_
                refine JL.val (yl_move rfl) rfl ?_
                refine JL.cut (K := fun J => J [(0, .slice a_0 q0.length c_0), (3, ptrAt (some ⟨g1, 0, none⟩) 0), (6, .int .i64 x5), (8, ptrAt (some ⟨g8, 0, none⟩) 0), (9, ptrAt (some ⟨g12, 0, none⟩) 0), (16, .slice a_0 q0.length c_0), (17, .int .i64 (q0.length : Int)), (18, .int .i64 x6), (84, .bool ((decide (j19.1.Y ≤ q1.Y)) && (decide (q1.Y < j19.2.Y))))] [boxO 42 g1 [.int .i64 q1.X, .int .i64 q1.Y], boxO 42 g8 [.int .i64 j19.1.X, .int .i64 j19.1.Y], boxO 42 g12 [.int .i64 j19.2.X, .int .i64 j19.2.Y]]) 6 ?_ ?_
                · refine JL.val (yl_move rfl) rfl ?_
                  obtain ⟨cb20, hcb20, hres⟩ := bind_some hres
                  refine JL.cut (K := fun J => J [(0, .slice a_0 q0.length c_0), (3, ptrAt (some ⟨g1, 0, none⟩) 0), (6, .int .i64 x5), (16, .slice a_0 q0.length c_0), (17, .int .i64 (q0.length : Int)), (18, .int .i64 x6), (91, .bool cb20)] [boxO 42 g1 [.int .i64 q1.X, .int .i64 q1.Y]]) 6 ?_ ?_
                  · refine JL.nil ?_
                    refine JE.weak (env' := [(0, .slice a_0 q0.length c_0), (3, ptrAt (some ⟨g1, 0, none⟩) 0), (6, .int .i64 x5), (16, .slice a_0 q0.length c_0), (17, .int .i64 (q0.length : Int)), (18, .int .i64 x6), (91, .bool cb20)]) (es' := [boxO 42 g1 [.int .i64 q1.X, .int .i64 q1.Y]]) [0] ?_ ⟨rfl, rfl, rfl, rfl, rfl, rfl, rfl, trivial⟩ (by decide) rfl
                    refine JE.code ?_
                    obtain ⟨j22, hj22, hresj22⟩ := bind_some hres
                    refine JX.cut (K := fun J => J [(0, .slice a_0 q0.length c_0), (3, ptrAt (some ⟨g1, 0, none⟩) 0), (6, .int .i64 j22), (16, .slice a_0 q0.length c_0), (17, .int .i64 (q0.length : Int)), (18, .int .i64 x6)] [boxO 42 g1 [.int .i64 q1.X, .int .i64 q1.Y]]) ?_ ?_
                    · have hres := hresj22
                      refine JE.code ?_
                      refine JX.region ?_
                      refine JL.val (yl_add rfl rfl) rfl ?_
                      refine JL.val (yl_move rfl) rfl ?_
                      refine JL.nil ?_
                      refine JE.cont hres ?_
                      exact fun a w h => h.weak ⟨rfl, rfl, rfl, rfl, rfl, rfl, trivial⟩ [0] (by decide) rfl
                    · intro K
                      rcases cond_some hj22 with ⟨hb, hres⟩ | ⟨hb, hres⟩
                      · refine JX.condT rfl hb ?_
                        refine JX.region ?_
                        refine JL.val (yl_move rfl) rfl ?_
                        refine JL.val (yl_sub rfl rfl) rfl ?_
                        refine JL.val (yl_assign rfl) rfl ?_
                        refine JL.nil ?_
                        have hj := Option.some.inj hres
                        exact JE.weak [0] (K) ⟨(by subst hj; rfl), (by subst hj; rfl), (by subst hj; rfl), (by subst hj; rfl), (by subst hj; rfl), (by subst hj; rfl), trivial⟩ (by decide) (by subst hj; rfl)
                      · refine JX.condF rfl hb ?_
                        refine JX.skip ?_
                        have hj := Option.some.inj hres
                        exact JE.weak [0] (K) ⟨(by subst hj; rfl), (by subst hj; rfl), (by subst hj; rfl), (by subst hj; rfl), (by subst hj; rfl), (by subst hj; rfl), trivial⟩ (by decide) (by subst hj; rfl)
                  · intro K
                    rcases cond_some hcb20 with ⟨hb, hres⟩ | ⟨hb, hres⟩
                    · refine JL.set (d := 85) (v := .bool true) (congrArg (fun b => some (Value.bool b)) hb) ?_
                      refine JL.gval rfl rfl (yl_loadn Go.Proofs.Try.underlying42 rfl i42 rfl (fun w hC => rd_box hC 1 rfl) rfl (i42s).symm i42p) rfl ?_
                      refine JL.gval rfl rfl (yl_loadn Go.Proofs.Try.underlying42 rfl i42 rfl (fun w hC => rd_box hC 2 rfl) rfl (i42s).symm i42p) rfl ?_
                      refine JL.gval rfl rfl (yl_loadn Go.Proofs.Try.underlying42 rfl i42 rfl (fun w hC => rd_box hC 0 rfl) rfl (i42s).symm i42p) rfl ?_
                      obtain ⟨x21, hx21, hres⟩ := bind_some hres
                      refine JL.geff rfl rfl (ef_call (vs := [.agg #[.int .i64 j19.1.X, .int .i64 j19.1.Y], .agg #[.int .i64 j19.2.X, .int .i64 j19.2.Y], .agg #[.int .i64 q1.X, .int .i64 q1.Y]]) (T := T105 x21) Go.Proofs.Try.func105 rfl (by kernel_rfl) rfl (fun w hC => c105 (q0 := j19.1) (q1 := j19.2) (q2 := q1) hx21)) rfl ?_
                      rintro _ _ ⟨_, ⟨rfl, rfl⟩, rfl⟩
                      refine JL.gval rfl rfl (yl_gtr rfl rfl) rfl ?_
                      refine JL.val (yl_pick_true rfl rfl) rfl ?_
                      have he := Option.some.inj hres
                      exact JL.weak [0] K ⟨rfl, rfl, rfl, rfl, rfl, rfl, (by rw [← he]; rfl), trivial⟩ (by decide) rfl
                    · refine JL.set (d := 85) (v := .bool false) (congrArg (fun b => some (Value.bool b)) hb) ?_
                      refine JL.gskip rfl rfl rfl rfl ?_
                      refine JL.gskip rfl rfl rfl rfl ?_
                      refine JL.gskip rfl rfl rfl rfl ?_
                      refine JL.gskip rfl rfl rfl rfl ?_
                      refine JL.gskip rfl rfl rfl rfl ?_
                      refine JL.val (yl_pick_false rfl rfl) rfl ?_
                      have he := Option.some.inj hres
                      exact JL.weak [0] K ⟨rfl, rfl, rfl, rfl, rfl, rfl, (by rw [← he]; rfl), trivial⟩ (by decide) rfl
                · intro K
                  rcases Bool.eq_false_or_eq_true (decide (j19.1.Y ≤ q1.Y)) with hb | hb
                  · refine JL.set (d := 78) (v := .bool true) (congrArg (fun b => some (Value.bool b)) hb) ?_
                    refine JL.gval rfl rfl (yl_fieldAt (a := some _) Go.Proofs.Try.underlying42 rfl i2 i2n rfl rfl) rfl ?_
                    refine JL.gval rfl rfl (yl_load1 Go.Proofs.Try.underlying2 rfl rfl (fun w hC => rd_box hC 0 rfl) rfl) rfl ?_
                    refine JL.gval rfl rfl (yl_fieldAt (a := some _) Go.Proofs.Try.underlying42 rfl i2 i2n rfl rfl) rfl ?_
                    refine JL.gval rfl rfl (yl_load1 Go.Proofs.Try.underlying2 rfl rfl (fun w hC => rd_box hC 2 rfl) rfl) rfl ?_
                    refine JL.gval rfl rfl (yl_lss rfl rfl) rfl ?_
                    refine JL.val (yl_pick_true rfl rfl) rfl ?_
                    exact JL.weak [0, 1, 2] K ⟨rfl, rfl, rfl, rfl, rfl, rfl, rfl, rfl, (by rw [hb]; rfl), trivial⟩ (by decide) rfl
                  · refine JL.set (d := 78) (v := .bool false) (congrArg (fun b => some (Value.bool b)) hb) ?_
                    refine JL.gskip rfl rfl rfl rfl ?_
                    refine JL.gskip rfl rfl rfl rfl ?_
                    refine JL.gskip rfl rfl rfl rfl ?_
                    refine JL.gskip rfl rfl rfl rfl ?_
                    refine JL.gskip rfl rfl rfl rfl ?_
                    refine JL.val (yl_pick_false rfl rfl) rfl ?_
                    exact JL.weak [0, 1, 2] K ⟨rfl, rfl, rfl, rfl, rfl, rfl, rfl, rfl, (by rw [hb]; rfl), trivial⟩ (by decide) rfl
              · intro K
                rcases cond_some hj19 with ⟨hb, hres⟩ | ⟨hb, hres⟩
                · refine JX.condT rfl hb ?_
                  refine JX.region ?_
                  refine JL.val (yl_loadn Go.Proofs.Try.underlying42 rfl i42 rfl (fun w hC => rd_box hC 2 rfl) rfl (i42s).symm i42p) rfl ?_
                  refine JL.val (yl_loadn Go.Proofs.Try.underlying42 rfl i42 rfl (fun w hC => rd_box hC 1 rfl) rfl (i42s).symm i42p) rfl ?_
                  refine JL.eff (ef_store_box (i := 1) (v := .agg #[.int .i64 x11.X, .int .i64 x11.Y]) i42 rfl rfl rfl (i42s).symm (Nat.le_of_ble_eq_true rfl) (by simp [Value.cells, Value.oneCell'])) rfl ?_
                  rintro _ _ rfl
                  refine JL.eff (ef_store_box (i := 2) (v := .agg #[.int .i64 x7.X, .int .i64 x7.Y]) i42 rfl rfl rfl (i42s).symm (Nat.le_of_ble_eq_true rfl) (by simp [Value.cells, Value.oneCell'])) rfl ?_
                  rintro _ _ rfl
                  refine JL.nil ?_
                  refine JE.weak (env' := [(0, .slice a_0 q0.length c_0), (3, ptrAt (some ⟨g1, 0, none⟩) 0), (6, .int .i64 x5), (8, ptrAt (some ⟨g8, 0, none⟩) 0), (9, ptrAt (some ⟨g12, 0, none⟩) 0), (16, .slice a_0 q0.length c_0), (17, .int .i64 (q0.length : Int)), (18, .int .i64 x6)]) (es' := [boxO 42 g1 [.int .i64 q1.X, .int .i64 q1.Y], boxO 42 g8 [.int .i64 x11.X, .int .i64 x11.Y], boxO 42 g12 [.int .i64 x7.X, .int .i64 x7.Y]]) [0, 1, 2] ?_ ⟨rfl, rfl, rfl, rfl, rfl, rfl, rfl, rfl, trivial⟩ (by decide) rfl
                  have hj := Option.some.inj hres
                  exact JE.weak [0, 1, 2] (K) ⟨(by subst hj; rfl), (by subst hj; rfl), (by subst hj; rfl), (by subst hj; rfl), (by subst hj; rfl), (by subst hj; rfl), (by subst hj; rfl), (by subst hj; rfl), trivial⟩ (by decide) (by subst hj; rfl)
                · refine JX.condF rfl hb ?_
                  refine JX.skip ?_
                  have hj := Option.some.inj hres
                  exact JE.weak [0, 1, 2] (K) ⟨(by subst hj; rfl), (by subst hj; rfl), (by subst hj; rfl), (by subst hj; rfl), (by subst hj; rfl), (by subst hj; rfl), (by subst hj; rfl), (by subst hj; rfl), trivial⟩ (by decide) (by subst hj; rfl)
          · intro K
            rcases cond_some hcb17 with ⟨hb, hres⟩ | ⟨hb, hres⟩
            · refine JL.set (d := 51) (v := .bool true) (congrArg (fun b => some (Value.bool b)) hb) ?_
              refine JL.gval rfl rfl (yl_fieldAt (a := some _) Go.Proofs.Try.underlying42 rfl i2 i2n rfl rfl) rfl ?_
              refine JL.gval rfl rfl (yl_load1 Go.Proofs.Try.underlying2 rfl rfl (fun w hC => rd_box hC 0 rfl) rfl) rfl ?_
              refine JL.gval rfl rfl (yl_fieldAt (a := some _) Go.Proofs.Try.underlying42 rfl i2 i2n rfl rfl) rfl ?_
              refine JL.gval rfl rfl (yl_load1 Go.Proofs.Try.underlying2 rfl rfl (fun w hC => rd_box hC 1 rfl) rfl) rfl ?_
              refine JL.gval rfl rfl (yl_fieldAt (a := some _) Go.Proofs.Try.underlying42 rfl i2 i2n rfl rfl) rfl ?_
              refine JL.gval rfl rfl (yl_load1 Go.Proofs.Try.underlying2 rfl rfl (fun w hC => rd_box hC 2 rfl) rfl) rfl ?_
              refine JL.gval rfl rfl (yl_min rfl rfl) rfl ?_
              refine JL.gval rfl rfl (yl_fieldAt (a := some _) Go.Proofs.Try.underlying42 rfl i2 i2n rfl rfl) rfl ?_
              refine JL.gval rfl rfl (yl_load1 Go.Proofs.Try.underlying2 rfl rfl (fun w hC => rd_box hC 1 rfl) rfl) rfl ?_
              refine JL.gval rfl rfl (yl_fieldAt (a := some _) Go.Proofs.Try.underlying42 rfl i2 i2n rfl rfl) rfl ?_
              refine JL.gval rfl rfl (yl_load1 Go.Proofs.Try.underlying2 rfl rfl (fun w hC => rd_box hC 2 rfl) rfl) rfl ?_
              refine JL.gval rfl rfl (yl_max rfl rfl) rfl ?_
              obtain ⟨x18, hx18, hres⟩ := bind_some hres
              refine JL.geff rfl rfl (ef_call (T := T107 x18) Go.Proofs.Try.func107 rfl (by kernel_rfl) rfl (fun w hC => c107  hx18)) rfl ?_
              rintro _ _ ⟨_, ⟨rfl, rfl⟩, rfl⟩
              refine JL.val (yl_pick_true rfl rfl) rfl ?_
              have he := Option.some.inj hres
              exact JL.weak [0, 1, 2] K ⟨rfl, rfl, rfl, rfl, rfl, rfl, rfl, rfl, (by rw [← he]; rfl), trivial⟩ (by decide) rfl
            · refine JL.set (d := 51) (v := .bool false) (congrArg (fun b => some (Value.bool b)) hb) ?_
              refine JL.gskip rfl rfl rfl rfl ?_
              refine JL.gskip rfl rfl rfl rfl ?_
              refine JL.gskip rfl rfl rfl rfl ?_
              refine JL.gskip rfl rfl rfl rfl ?_
              refine JL.gskip rfl rfl rfl rfl ?_
              refine JL.gskip rfl rfl rfl rfl ?_
              refine JL.gskip rfl rfl rfl rfl ?_
              refine JL.gskip rfl rfl rfl rfl ?_
              refine JL.gskip rfl rfl rfl rfl ?_
              refine JL.gskip rfl rfl rfl rfl ?_
              refine JL.gskip rfl rfl rfl rfl ?_
              refine JL.gskip rfl rfl rfl rfl ?_
              refine JL.gskip rfl rfl rfl rfl ?_
              refine JL.val (yl_pick_false rfl rfl) rfl ?_
              have he := Option.some.inj hres
              exact JL.weak [0, 1, 2] K ⟨rfl, rfl, rfl, rfl, rfl, rfl, rfl, rfl, (by rw [← he]; rfl), trivial⟩ (by decide) rfl
        · intro K
          rcases cond_some hcb15 with ⟨hb, hres⟩ | ⟨hb, hres⟩
          · refine JL.set (d := 36) (v := .bool true) (congrArg (fun b => some (Value.bool b)) hb) ?_
            refine JL.gval rfl rfl (yl_fieldAt (a := some _) Go.Proofs.Try.underlying42 rfl i2 i2n rfl rfl) rfl ?_
            refine JL.gval rfl rfl (yl_load1 Go.Proofs.Try.underlying2 rfl rfl (fun w hC => rd_box hC 0 rfl) rfl) rfl ?_
            refine JL.gval rfl rfl (yl_fieldAt (a := some _) Go.Proofs.Try.underlying42 rfl i2 i2n rfl rfl) rfl ?_
            refine JL.gval rfl rfl (yl_load1 Go.Proofs.Try.underlying2 rfl rfl (fun w hC => rd_box hC 1 rfl) rfl) rfl ?_
            refine JL.gval rfl rfl (yl_fieldAt (a := some _) Go.Proofs.Try.underlying42 rfl i2 i2n rfl rfl) rfl ?_
            refine JL.gval rfl rfl (yl_load1 Go.Proofs.Try.underlying2 rfl rfl (fun w hC => rd_box hC 2 rfl) rfl) rfl ?_
            refine JL.gval rfl rfl (yl_min rfl rfl) rfl ?_
            refine JL.gval rfl rfl (yl_fieldAt (a := some _) Go.Proofs.Try.underlying42 rfl i2 i2n rfl rfl) rfl ?_
            refine JL.gval rfl rfl (yl_load1 Go.Proofs.Try.underlying2 rfl rfl (fun w hC => rd_box hC 1 rfl) rfl) rfl ?_
            refine JL.gval rfl rfl (yl_fieldAt (a := some _) Go.Proofs.Try.underlying42 rfl i2 i2n rfl rfl) rfl ?_
            refine JL.gval rfl rfl (yl_load1 Go.Proofs.Try.underlying2 rfl rfl (fun w hC => rd_box hC 2 rfl) rfl) rfl ?_
            refine JL.gval rfl rfl (yl_max rfl rfl) rfl ?_
            obtain ⟨x16, hx16, hres⟩ := bind_some hres
            refine JL.geff rfl rfl (ef_call (T := T107 x16) Go.Proofs.Try.func107 rfl (by kernel_rfl) rfl (fun w hC => c107  hx16)) rfl ?_
            rintro _ _ ⟨_, ⟨rfl, rfl⟩, rfl⟩
            refine JL.val (yl_pick_true rfl rfl) rfl ?_
            have he := Option.some.inj hres
            exact JL.weak [0, 1, 2] K ⟨rfl, rfl, rfl, rfl, rfl, rfl, rfl, rfl, (by rw [← he]; rfl), trivial⟩ (by decide) rfl
          · refine JL.set (d := 36) (v := .bool false) (congrArg (fun b => some (Value.bool b)) hb) ?_
            refine JL.gskip rfl rfl rfl rfl ?_
            refine JL.gskip rfl rfl rfl rfl ?_
            refine JL.gskip rfl rfl rfl rfl ?_
            refine JL.gskip rfl rfl rfl rfl ?_
            refine JL.gskip rfl rfl rfl rfl ?_
            refine JL.gskip rfl rfl rfl rfl ?_
            refine JL.gskip rfl rfl rfl rfl ?_
            refine JL.gskip rfl rfl rfl rfl ?_
            refine JL.gskip rfl rfl rfl rfl ?_
            refine JL.gskip rfl rfl rfl rfl ?_
            refine JL.gskip rfl rfl rfl rfl ?_
            refine JL.gskip rfl rfl rfl rfl ?_
            refine JL.gskip rfl rfl rfl rfl ?_
            refine JL.val (yl_pick_false rfl rfl) rfl ?_
            have he := Option.some.inj hres
            exact JL.weak [0, 1, 2] K ⟨rfl, rfl, rfl, rfl, rfl, rfl, rfl, rfl, (by rw [← he]; rfl), trivial⟩ (by decide) rfl
      · refine JX.condF rfl hb ?_
        refine JX.exit ?_
        refine JE.qb rfl ?_
        obtain ⟨b1, hb1⟩ : ∃ b : Int, b = x5 := ⟨_, rfl⟩
        have hy1 : Sum.inl b1 = y1 := by rw [hb1]; exact hox1 _ (Option.some.inj hres).symm
        have hres := elimS_inl hresO1 hy1
        refine JE.weak (env' := [(6, .int .i64 b1)]) (es' := []) [] ?_ ⟨(by subst hb1; rfl), trivial⟩ (by decide) (by subst hb1; rfl)
        refine JE.code ?_
        refine JX.seq ?_
        refine JX.region ?_
        refine JL.val (yl_move rfl) rfl ?_
        refine JL.val (yl_assign rfl) rfl ?_
        refine JL.val (yl_assign rfl) rfl ?_
        refine JL.nil ?_
        refine JE.code ?_
        refine JX.ret ?_
        obtain rfl := Option.some.inj hres
        refine JE.ret (rs := [.tmp 4, .tmp 5]) (vs := [.int .i64 b1, .int .i64 0]) rfl ⟨rfl, rfl, trivial⟩ ?_
        exact fun w' hb hs => ⟨_, _, ⟨rfl, rfl⟩, rfl, hb, hs.sel [] _ (by decide) rfl⟩

/- spec.l00From -/
def sh90 (q0 : List Int) : Option (Sl00Src) := some (Sl00Src.mk q0 0 0)
def T90 (a_0 : Option Addr) (n_0 c_0 : Nat) (r : Sl00Src) (v : Value) (rs : List Own) : Prop := ∃ (gr0 : Nat), v = rets [ptrAt (some ⟨gr0, 0, none⟩) 0] ∧ rs = [boxO 163 gr0 [.slice a_0 n_0 c_0, .int .i64 r.at_, .int .u64 r.seed]]
set_option maxRecDepth 100000 in
theorem c90 {w : World} {q0 : List Int} {a_0 : Option Addr} {n_0 c_0 : Nat} (g_0 : Rd w a_0 (eU8.fl q0)) (l_0 : q0.length = n_0) (k_0 : n_0 ≤ c_0) {r : Sl00Src} (hres : sh90 q0 = some r) : Calls Go.Proofs.Try.prog 90 [.slice a_0 n_0 c_0].toArray w (Ret w (T90 a_0 n_0 c_0 r)) := by
  subst l_0
  unfold sh90 at hres
  refine calls_of (n := 6) (M := []) (es := []) Go.Proofs.Try.func90 rfl rfl rfl (Sep.nil _ _ _) ?_
  refine JX.seq ?_
  refine JX.region ?_
  refine JL.val (yl_assign rfl) rfl ?_
  refine JL.nil ?_
  refine JE.code ?_
  refine JX.seq ?_
  refine JX.region ?_
  refine JL.val (yl_move rfl) rfl ?_
  refine JL.val (yl_build rfl (fun w => bld163_0 a_0 q0.length c_0 w)) rfl ?_
  refine JL.eff (ef_box rfl rfl) rfl ?_
  rintro _ _ ⟨g1, rfl, rfl⟩
  refine JL.val (yl_assign rfl) rfl ?_
  refine JL.nil ?_
  refine JE.weak (env' := [(2, ptrAt (some ⟨g1, 0, none⟩) 0)]) (es' := [boxO 163 g1 [.slice a_0 q0.length c_0, .int .i64 0, .int .u64 0]]) [0] ?_ ⟨rfl, trivial⟩ (by decide) rfl
  refine JE.code ?_
  refine JX.ret ?_
  obtain rfl := Option.some.inj hres
  refine JE.ret (rs := [.tmp 2]) (vs := [ptrAt (some ⟨g1, 0, none⟩) 0]) rfl ⟨rfl, trivial⟩ ?_
  exact fun w' hb hs => ⟨_, _, ⟨g1, rfl, rfl⟩, rfl, hb, hs.sel [0] _ (by decide) rfl⟩

/- (*spec.l00Src).next -/
def sh173 (q0 : Sl00Src) : Option (Int × Int × Int) := Option.bind (bif decide (q0.at_ < (q0.code.length : Int)) then (Option.bind (getI q0.code q0.at_) fun x5 => some (w64 (x5))) else (some 0)) fun j2 => (bif decide ((w64 (q0.at_ + 1)) ≤ (q0.code.length : Int)) then (some (j2, w64 (q0.at_ + 1), IntKind.u64.wrap ((IntKind.u64.wrap ((IntKind.u64.wrap (q0.seed * 6364136223846793005)) + (IntKind.u64.wrap (j2)))) + 1442695040888963407))) else (some (w64 (andI .u64 ((IntKind.u64.wrap ((IntKind.u64.wrap ((IntKind.u64.wrap (q0.seed * 6364136223846793005)) + (IntKind.u64.wrap (j2)))) + 1442695040888963407)) / 2 ^ 40) 255), w64 (q0.at_ + 1), IntKind.u64.wrap ((IntKind.u64.wrap ((IntKind.u64.wrap (q0.seed * 6364136223846793005)) + (IntKind.u64.wrap (j2)))) + 1442695040888963407))))
def T173 (gb_0 : Nat) (a_0_0 : Option Addr) (n_0_0 c_0_0 : Nat) (r : Int × Int × Int) (v : Value) (es' rs : List Own) : Prop := es' = [boxO 163 gb_0 [.slice a_0_0 n_0_0 c_0_0, .int .i64 r.2.1, .int .u64 r.2.2]] ∧ v = rets [.int .i64 r.1] ∧ rs = []
set_option maxRecDepth 100000 in
theorem c173 {w : World} {M : List Nat} {q0 : Sl00Src} {gb_0 : Nat} {a_0_0 : Option Addr} {n_0_0 c_0_0 : Nat} (g_0_0 : RdS M w a_0_0 (eU8.fl q0.code)) (l_0_0 : q0.code.length = n_0_0) (k_0_0 : n_0_0 ≤ c_0_0) (gs : Sep w.heap.size M w [boxO 163 gb_0 [.slice a_0_0 n_0_0 c_0_0, .int .i64 q0.at_, .int .u64 q0.seed]]) {r : Int × Int × Int} (hres : sh173 q0 = some r) : Calls Go.Proofs.Try.prog 173 [ptrAt (some ⟨gb_0, 0, none⟩) 0].toArray w (RetMs w M (T173 gb_0 a_0_0 n_0_0 c_0_0 r)) := by
  subst l_0_0
  unfold sh173 at hres
  refine calls_of (n := 62) (M := M) (es := [boxO 163 gb_0 [.slice a_0_0 q0.code.length c_0_0, .int .i64 q0.at_, .int .u64 q0.seed]]) Go.Proofs.Try.func173 rfl rfl rfl gs ?_
  refine JX.seq ?_
  refine JX.region ?_
  refine JL.val (yl_assign rfl) rfl ?_
  refine JL.nil ?_
  refine JE.code ?_
  refine JX.seq ?_
  refine JX.region ?_
  refine JL.val (yl_assign rfl) rfl ?_
  refine JL.nil ?_
  refine JE.code ?_
  refine JX.seq ?_
  refine JX.seq ?_
  refine JX.drawH [(0, .pure), (1, .pure), (2, .pure), (3, .read), (4, .pure), (5, .pure), (6, .pure), (7, .read), (8, .pure), (9, .pure)] [] [] [0] [] [boxO 163 gb_0 [.slice a_0_0 q0.code.length c_0_0, .int .i64 q0.at_, .int .u64 q0.seed]] mixedP (by kernel_rfl) (by kernel_rfl) (by decide) rfl rfl ?_
  intro wrr1 Nr1 hFr1
  refine JH.pure rfl (yl_move rfl) rfl ?_
  refine JH.pure rfl (yl_nilCheckAt (a := some _) rfl rfl) rfl ?_
  refine JH.pure rfl (yl_fieldAt (a := some _) Go.Proofs.Try.underlying163 rfl i3 i3n rfl rfl) rfl ?_
  refine JH.read rfl (yl_load1 Go.Proofs.Try.underlying3 rfl rfl (fun w hw => hFr1.box 0 rfl rfl hw) rfl) rfl ?_
  refine JH.pure rfl (yl_move rfl) rfl ?_
  refine JH.pure rfl (yl_nilCheckAt (a := some _) rfl rfl) rfl ?_
  refine JH.pure rfl (yl_fieldAt (a := some _) Go.Proofs.Try.underlying163 rfl i22 i22n rfl rfl) rfl ?_
  refine JH.read rfl (yl_load1 Go.Proofs.Try.underlying22 rfl rfl (fun w hw => hFr1.box 0 rfl rfl hw) rfl) rfl ?_
  refine JH.pure rfl (yl_len_slice Go.Proofs.Try.underlying22 rfl) rfl ?_
  refine JH.pure rfl (yl_lss rfl rfl) rfl ?_
  refine JH.nil ?_
  refine JE.weak (env' := [(0, ptrAt (some ⟨gb_0, 0, none⟩) 0), (3, .int .i64 0), (13, .bool (decide (q0.at_ < (q0.code.length : Int))))]) (es' := [boxO 163 gb_0 [.slice a_0_0 q0.code.length c_0_0, .int .i64 q0.at_, .int .u64 q0.seed]]) [0] ?_ ⟨rfl, rfl, rfl, trivial⟩ (by decide) rfl
  refine JE.code ?_
  obtain ⟨j2, hj2, hresj2⟩ := bind_some hres
  refine JX.cut (K := fun J => J [(0, ptrAt (some ⟨gb_0, 0, none⟩) 0), (3, .int .i64 j2)] [boxO 163 gb_0 [.slice a_0_0 q0.code.length c_0_0, .int .i64 q0.at_, .int .u64 q0.seed]]) ?_ ?_
  · have hres := hresj2
    refine JE.code ?_
    refine JX.seq ?_
    refine JX.region ?_
    refine JL.val (yl_move rfl) rfl ?_
    refine JL.val (yl_nilCheckAt (a := some _) rfl rfl) rfl ?_
    refine JL.val (yl_fieldAt (a := some _) Go.Proofs.Try.underlying163 rfl i3 i3n rfl rfl) rfl ?_
    refine JL.val (yl_load1 Go.Proofs.Try.underlying3 rfl rfl (fun w hC => rd_box hC 0 rfl) rfl) rfl ?_
    refine JL.val (yl_add rfl rfl) rfl ?_
    refine JL.val (yl_nilCheckAt (a := some _) rfl rfl) rfl ?_
    refine JL.val (yl_fieldAt (a := some _) Go.Proofs.Try.underlying163 rfl i3 i3n rfl rfl) rfl ?_
    refine JL.eff (ef_store_box (i := 0) (v := .int .i64 (w64 (q0.at_ + 1))) i3 rfl rfl rfl (i3s).symm (Nat.le_of_ble_eq_true rfl) (by simp [Value.cells, Value.oneCell'])) rfl ?_
    rintro _ _ rfl
    refine JL.nil ?_
    refine JE.weak (env' := [(0, ptrAt (some ⟨gb_0, 0, none⟩) 0), (3, .int .i64 j2)]) (es' := [boxO 163 gb_0 [.slice a_0_0 q0.code.length c_0_0, .int .i64 (w64 (q0.at_ + 1)), .int .u64 q0.seed]]) [0] ?_ ⟨rfl, rfl, trivial⟩ (by decide) rfl
    refine JE.code ?_
    refine JX.seq ?_
    refine JX.region ?_
    refine JL.val (yl_move rfl) rfl ?_
    refine JL.val (yl_move rfl) rfl ?_
    refine JL.val (yl_nilCheckAt (a := some _) rfl rfl) rfl ?_
    refine JL.val (yl_fieldAt (a := some _) Go.Proofs.Try.underlying163 rfl i161 i161n rfl rfl) rfl ?_
    refine JL.val (yl_load1 Go.Proofs.Try.underlying161 rfl rfl (fun w hC => rd_box hC 0 rfl) rfl) rfl ?_
    refine JL.val (yl_mul rfl rfl) rfl ?_
    refine JL.val (yl_move rfl) rfl ?_
    refine JL.val (yl_conv Go.Proofs.Try.underlying3 Go.Proofs.Try.underlying161 rfl) rfl ?_
    refine JL.val (yl_add rfl rfl) rfl ?_
    refine JL.val (yl_add rfl rfl) rfl ?_
    refine JL.val (yl_nilCheckAt (a := some _) rfl rfl) rfl ?_
    refine JL.val (yl_fieldAt (a := some _) Go.Proofs.Try.underlying163 rfl i161 i161n rfl rfl) rfl ?_
    refine JL.eff (ef_store_box (i := 0) (v := .int .u64 (IntKind.u64.wrap ((IntKind.u64.wrap ((IntKind.u64.wrap (q0.seed * 6364136223846793005)) + (IntKind.u64.wrap (j2)))) + 1442695040888963407))) i161 rfl rfl rfl (i161s).symm (Nat.le_of_ble_eq_true rfl) (by simp [Value.cells, Value.oneCell'])) rfl ?_
    rintro _ _ rfl
    refine JL.nil ?_
    refine JE.weak (env' := [(0, ptrAt (some ⟨gb_0, 0, none⟩) 0), (3, .int .i64 j2)]) (es' := [boxO 163 gb_0 [.slice a_0_0 q0.code.length c_0_0, .int .i64 (w64 (q0.at_ + 1)), .int .u64 (IntKind.u64.wrap ((IntKind.u64.wrap ((IntKind.u64.wrap (q0.seed * 6364136223846793005)) + (IntKind.u64.wrap (j2)))) + 1442695040888963407))]]) [0] ?_ ⟨rfl, rfl, trivial⟩ (by decide) rfl
    refine JE.code ?_
    refine JX.seq ?_
    refine JX.seq ?_
    refine JX.drawH [(0, .pure), (1, .pure), (2, .pure), (3, .read), (4, .pure), (5, .pure), (6, .pure), (7, .read), (8, .pure), (9, .pure)] [] [] [0] [] [boxO 163 gb_0 [.slice a_0_0 q0.code.length c_0_0, .int .i64 (w64 (q0.at_ + 1)), .int .u64 (IntKind.u64.wrap ((IntKind.u64.wrap ((IntKind.u64.wrap (q0.seed * 6364136223846793005)) + (IntKind.u64.wrap (j2)))) + 1442695040888963407))]] mixedP (by kernel_rfl) (by kernel_rfl) (by decide) rfl rfl ?_
    intro wrr3 Nr3 hFr3
    refine JH.pure rfl (yl_move rfl) rfl ?_
    refine JH.pure rfl (yl_nilCheckAt (a := some _) rfl rfl) rfl ?_
    refine JH.pure rfl (yl_fieldAt (a := some _) Go.Proofs.Try.underlying163 rfl i3 i3n rfl rfl) rfl ?_
    refine JH.read rfl (yl_load1 Go.Proofs.Try.underlying3 rfl rfl (fun w hw => hFr3.box 0 rfl rfl hw) rfl) rfl ?_
    refine JH.pure rfl (yl_move rfl) rfl ?_
    refine JH.pure rfl (yl_nilCheckAt (a := some _) rfl rfl) rfl ?_
    refine JH.pure rfl (yl_fieldAt (a := some _) Go.Proofs.Try.underlying163 rfl i22 i22n rfl rfl) rfl ?_
    refine JH.read rfl (yl_load1 Go.Proofs.Try.underlying22 rfl rfl (fun w hw => hFr3.box 0 rfl rfl hw) rfl) rfl ?_
    refine JH.pure rfl (yl_len_slice Go.Proofs.Try.underlying22 rfl) rfl ?_
    refine JH.pure rfl (yl_leq rfl rfl) rfl ?_
    refine JH.nil ?_
    refine JE.weak (env' := [(0, ptrAt (some ⟨gb_0, 0, none⟩) 0), (3, .int .i64 j2), (53, .bool (decide ((w64 (q0.at_ + 1)) ≤ (q0.code.length : Int))))]) (es' := [boxO 163 gb_0 [.slice a_0_0 q0.code.length c_0_0, .int .i64 (w64 (q0.at_ + 1)), .int .u64 (IntKind.u64.wrap ((IntKind.u64.wrap ((IntKind.u64.wrap (q0.seed * 6364136223846793005)) + (IntKind.u64.wrap (j2)))) + 1442695040888963407))]]) [0] ?_ ⟨rfl, rfl, rfl, trivial⟩ (by decide) rfl
    refine JE.code ?_
    rcases cond_some hres with ⟨hb, hres⟩ | ⟨hb, hres⟩
    · refine JX.condT rfl hb ?_
      refine JX.seq ?_
      refine JX.region ?_
      refine JL.val (yl_move rfl) rfl ?_
      refine JL.val (yl_assign rfl) rfl ?_
      refine JL.nil ?_
      refine JE.code ?_
      refine JX.ret ?_
      obtain rfl := Option.some.inj hres
      refine JE.ret (rs := [.tmp 2]) (vs := [.int .i64 j2]) rfl ⟨rfl, trivial⟩ ?_
      exact fun w' hb hs => ⟨_, _, _, ⟨rfl, rfl, rfl⟩, rfl, hb, hs.sel [0] _ (by decide) rfl⟩
    · refine JX.condF rfl hb ?_
      refine JX.skip ?_
      refine JE.code ?_
      refine JX.seq ?_
      refine JX.region ?_
      refine JL.val (yl_move rfl) rfl ?_
      refine JL.val (yl_nilCheckAt (a := some _) rfl rfl) rfl ?_
      refine JL.val (yl_fieldAt (a := some _) Go.Proofs.Try.underlying163 rfl i161 i161n rfl rfl) rfl ?_
      refine JL.val (yl_load1 Go.Proofs.Try.underlying161 rfl rfl (fun w hC => rd_box hC 0 rfl) rfl) rfl ?_
      refine JL.val (yl_shr rfl rfl (by decide) (by decide)) rfl ?_
      refine JL.val (yl_and rfl rfl) rfl ?_
      refine JL.val (yl_conv Go.Proofs.Try.underlying161 Go.Proofs.Try.underlying2 rfl) rfl ?_
      refine JL.val (yl_assign rfl) rfl ?_
      refine JL.nil ?_
      refine JE.weak (env' := [(2, .int .i64 (w64 (andI .u64 ((IntKind.u64.wrap ((IntKind.u64.wrap ((IntKind.u64.wrap (q0.seed * 6364136223846793005)) + (IntKind.u64.wrap (j2)))) + 1442695040888963407)) / 2 ^ 40) 255)))]) (es' := [boxO 163 gb_0 [.slice a_0_0 q0.code.length c_0_0, .int .i64 (w64 (q0.at_ + 1)), .int .u64 (IntKind.u64.wrap ((IntKind.u64.wrap ((IntKind.u64.wrap (q0.seed * 6364136223846793005)) + (IntKind.u64.wrap (j2)))) + 1442695040888963407))]]) [0] ?_ ⟨rfl, trivial⟩ (by decide) rfl
      refine JE.code ?_
      refine JX.ret ?_
      obtain rfl := Option.some.inj hres
      refine JE.ret (rs := [.tmp 2]) (vs := [.int .i64 (w64 (andI .u64 ((IntKind.u64.wrap ((IntKind.u64.wrap ((IntKind.u64.wrap (q0.seed * 6364136223846793005)) + (IntKind.u64.wrap (j2)))) + 1442695040888963407)) / 2 ^ 40) 255))]) rfl ⟨rfl, trivial⟩ ?_
      exact fun w' hb hs => ⟨_, _, _, ⟨rfl, rfl, rfl⟩, rfl, hb, hs.sel [0] _ (by decide) rfl⟩
  · intro K
    rcases cond_some hj2 with ⟨hb, hres⟩ | ⟨hb, hres⟩
    · refine JX.condT rfl hb ?_
      refine JX.drawH [(0, .pure), (1, .pure), (2, .pure), (3, .read), (4, .pure), (5, .pure), (6, .pure), (7, .read), (8, .pure), (9, .read), (10, .pure), (11, .pure)] [] [] [0] [] [boxO 163 gb_0 [.slice a_0_0 q0.code.length c_0_0, .int .i64 q0.at_, .int .u64 q0.seed]] mixedP (by kernel_rfl) (by kernel_rfl) (by decide) rfl rfl ?_
      intro wrr4 Nr4 hFr4
      refine JH.pure rfl (yl_move rfl) rfl ?_
      refine JH.pure rfl (yl_nilCheckAt (a := some _) rfl rfl) rfl ?_
      refine JH.pure rfl (yl_fieldAt (a := some _) Go.Proofs.Try.underlying163 rfl i22 i22n rfl rfl) rfl ?_
      refine JH.read rfl (yl_load1 Go.Proofs.Try.underlying22 rfl rfl (fun w hw => hFr4.box 0 rfl rfl hw) rfl) rfl ?_
      refine JH.pure rfl (yl_move rfl) rfl ?_
      refine JH.pure rfl (yl_nilCheckAt (a := some _) rfl rfl) rfl ?_
      refine JH.pure rfl (yl_fieldAt (a := some _) Go.Proofs.Try.underlying163 rfl i3 i3n rfl rfl) rfl ?_
      refine JH.read rfl (yl_load1 Go.Proofs.Try.underlying3 rfl rfl (fun w hw => hFr4.box 0 rfl rfl hw) rfl) rfl ?_
      obtain ⟨x5, hx5, hres⟩ := bind_some hres
      refine JH.pure rfl (yl_idxQ Go.Proofs.Try.underlying22 i5 i5s rfl rfl hx5 rfl (rd_argS g_0_0 hFr4.cl) rfl) rfl ?_
      refine JH.read rfl (yl_loadT0 Go.Proofs.Try.underlying5 rfl rfl hx5 (fun w hw => hFr4.argS g_0_0 hw) rfl) rfl ?_
      refine JH.pure rfl (yl_conv Go.Proofs.Try.underlying5 Go.Proofs.Try.underlying3 rfl) rfl ?_
      refine JH.pure rfl (yl_assign rfl) rfl ?_
      refine JH.nil ?_
      refine JE.weak (env' := [(0, ptrAt (some ⟨gb_0, 0, none⟩) 0), (3, .int .i64 (w64 (x5)))]) (es' := [boxO 163 gb_0 [.slice a_0_0 q0.code.length c_0_0, .int .i64 q0.at_, .int .u64 q0.seed]]) [0] ?_ ⟨rfl, rfl, trivial⟩ (by decide) rfl
      have hj := Option.some.inj hres
      exact JE.weak [0] (K) ⟨(by subst hj; rfl), (by subst hj; rfl), trivial⟩ (by decide) (by subst hj; rfl)
    · refine JX.condF rfl hb ?_
      refine JX.skip ?_
      have hj := Option.some.inj hres
      exact JE.weak [0] (K) ⟨(by subst hj; rfl), (by subst hj; rfl), trivial⟩ (by decide) (by subst hj; rfl)

/- (*spec.l00Src).pick -/
def sh92 (q0 : Sl00Src) (q1 : Int) : Option (Int × Int × Int) := bif decide (q1 ≤ 1) then (some (0, q0.at_, q0.seed)) else (Option.bind (sh173 q0) fun x1 => Option.bind (bif decide (200 < q1) then (Option.bind (sh173 (Sl00Src.mk q0.code x1.2.1 x1.2.2)) fun x4 => some (w64 ((w64 (x1.1 * 256)) + x4.1), (x4.2.1, x4.2.2))) else (some (x1.1, (x1.2.1, x1.2.2)))) fun j2 => (Option.bind (nzI q1) fun x3 => some (j2.1.tmod q1, j2.2.1, j2.2.2)))
def T92 (gb_0 : Nat) (a_0_0 : Option Addr) (n_0_0 c_0_0 : Nat) (r : Int × Int × Int) (v : Value) (es' rs : List Own) : Prop := es' = [boxO 163 gb_0 [.slice a_0_0 n_0_0 c_0_0, .int .i64 r.2.1, .int .u64 r.2.2]] ∧ v = rets [.int .i64 r.1] ∧ rs = []
set_option maxRecDepth 100000 in
theorem c92 {w : World} {M : List Nat} {q0 : Sl00Src} {gb_0 : Nat} {a_0_0 : Option Addr} {n_0_0 c_0_0 : Nat} (g_0_0 : RdS M w a_0_0 (eU8.fl q0.code)) (l_0_0 : q0.code.length = n_0_0) (k_0_0 : n_0_0 ≤ c_0_0) {q1 : Int} (gs : Sep w.heap.size M w [boxO 163 gb_0 [.slice a_0_0 n_0_0 c_0_0, .int .i64 q0.at_, .int .u64 q0.seed]]) {r : Int × Int × Int} (hres : sh92 q0 q1 = some r) : Calls Go.Proofs.Try.prog 92 [ptrAt (some ⟨gb_0, 0, none⟩) 0, .int .i64 q1].toArray w (RetMs w M (T92 gb_0 a_0_0 n_0_0 c_0_0 r)) := by
  subst l_0_0
  unfold sh92 at hres
  refine calls_of (n := 20) (M := M) (es := [boxO 163 gb_0 [.slice a_0_0 q0.code.length c_0_0, .int .i64 q0.at_, .int .u64 q0.seed]]) Go.Proofs.Try.func92 rfl rfl rfl gs ?_
  refine JX.seq ?_
  refine JX.region ?_
  refine JL.val (yl_assign rfl) rfl ?_
  refine JL.nil ?_
  refine JE.code ?_
  refine JX.seq ?_
  refine JX.seq ?_
  refine JX.region ?_
  refine JL.val (yl_move rfl) rfl ?_
  refine JL.val (yl_leq rfl rfl) rfl ?_
  refine JL.nil ?_
  refine JE.code ?_
  rcases cond_some hres with ⟨hb, hres⟩ | ⟨hb, hres⟩
  · refine JX.condT rfl hb ?_
    refine JX.seq ?_
    refine JX.region ?_
    refine JL.val (yl_assign rfl) rfl ?_
    refine JL.nil ?_
    refine JE.code ?_
    refine JX.ret ?_
    obtain rfl := Option.some.inj hres
    refine JE.ret (rs := [.tmp 4]) (vs := [.int .i64 0]) rfl ⟨rfl, trivial⟩ ?_
    exact fun w' hb hs => ⟨_, _, _, ⟨rfl, rfl, rfl⟩, rfl, hb, hs.sel [0] _ (by decide) rfl⟩
  · refine JX.condF rfl hb ?_
    refine JX.skip ?_
    refine JE.code ?_
    refine JX.seq ?_
    refine JX.region ?_
    refine JL.val (yl_move rfl) rfl ?_
    obtain ⟨x1, hx1, hres⟩ := bind_some hres
    refine JL.eff (ef_callms (caps := []) (vs := [ptrAt (some ⟨gb_0, 0, none⟩) 0]) (T := T173 gb_0 a_0_0 q0.code.length c_0_0 x1) [0] [] [boxO 163 gb_0 [.slice a_0_0 q0.code.length c_0_0, .int .i64 q0.at_, .int .u64 q0.seed]] [] rfl Go.Proofs.Try.func173 rfl (by kernel_rfl) rfl (by decide) rfl rfl (fun w N hF hS => c173 (q0 := q0) (RdS.pass hF g_0_0) rfl k_0_0 hS hx1)) rfl ?_
    rintro _ _ ⟨_, _, ⟨rfl, rfl, rfl⟩, rfl⟩
    refine JL.val (yl_assign rfl) rfl ?_
    refine JL.nil ?_
    refine JE.code ?_
    refine JX.seq ?_
    refine JX.seq ?_
    refine JX.region ?_
    refine JL.val (yl_move rfl) rfl ?_
    refine JL.val (yl_gtr rfl rfl) rfl ?_
    refine JL.nil ?_
    refine JE.code ?_
    obtain ⟨j2, hj2, hresj2⟩ := bind_some hres
    refine JX.cut (K := fun J => J [(1, .int .i64 q1), (5, .int .i64 j2.1)] [boxO 163 gb_0 [.slice a_0_0 q0.code.length c_0_0, .int .i64 j2.2.1, .int .u64 j2.2.2]]) ?_ ?_
    · have hres := hresj2
      refine JE.code ?_
      refine JX.seq ?_
      refine JX.region ?_
      refine JL.val (yl_move rfl) rfl ?_
      refine JL.val (yl_move rfl) rfl ?_
      obtain ⟨x3, hx3, hres⟩ := bind_some hres
      refine JL.val (yl_rem rfl rfl (nzI_some hx3)) rfl ?_
      refine JL.val (yl_assign rfl) rfl ?_
      refine JL.nil ?_
      refine JE.weak (env' := [(4, .int .i64 (j2.1.tmod q1))]) (es' := [boxO 163 gb_0 [.slice a_0_0 q0.code.length c_0_0, .int .i64 j2.2.1, .int .u64 j2.2.2]]) [0] ?_ ⟨rfl, trivial⟩ (by decide) rfl
      refine JE.code ?_
      refine JX.ret ?_
      obtain rfl := Option.some.inj hres
      refine JE.ret (rs := [.tmp 4]) (vs := [.int .i64 (j2.1.tmod q1)]) rfl ⟨rfl, trivial⟩ ?_
      exact fun w' hb hs => ⟨_, _, _, ⟨rfl, rfl, rfl⟩, rfl, hb, hs.sel [0] _ (by decide) rfl⟩
    · intro K
      rcases cond_some hj2 with ⟨hb, hres⟩ | ⟨hb, hres⟩
      · refine JX.condT rfl hb ?_
        refine JX.region ?_
        refine JL.val (yl_move rfl) rfl ?_
        refine JL.val (yl_mul rfl rfl) rfl ?_
        refine JL.val (yl_move rfl) rfl ?_
        obtain ⟨x4, hx4, hres⟩ := bind_some hres
        refine JL.eff (ef_callms (caps := []) (vs := [ptrAt (some ⟨gb_0, 0, none⟩) 0]) (T := T173 gb_0 a_0_0 q0.code.length c_0_0 x4) [0] [] [boxO 163 gb_0 [.slice a_0_0 q0.code.length c_0_0, .int .i64 x1.2.1, .int .u64 x1.2.2]] [] rfl Go.Proofs.Try.func173 rfl (by kernel_rfl) rfl (by decide) rfl rfl (fun w N hF hS => c173 (q0 := Sl00Src.mk q0.code x1.2.1 x1.2.2) (RdS.pass hF g_0_0) rfl k_0_0 hS hx4)) rfl ?_
        rintro _ _ ⟨_, _, ⟨rfl, rfl, rfl⟩, rfl⟩
        refine JL.val (yl_add rfl rfl) rfl ?_
        refine JL.val (yl_assign rfl) rfl ?_
        refine JL.nil ?_
        refine JE.weak (env' := [(1, .int .i64 q1), (5, .int .i64 (w64 ((w64 (x1.1 * 256)) + x4.1)))]) (es' := [boxO 163 gb_0 [.slice a_0_0 q0.code.length c_0_0, .int .i64 x4.2.1, .int .u64 x4.2.2]]) [0] ?_ ⟨rfl, rfl, trivial⟩ (by decide) rfl
        have hj := Option.some.inj hres
        exact JE.weak [0] (K) ⟨(by subst hj; rfl), (by subst hj; rfl), trivial⟩ (by decide) (by subst hj; rfl)
      · refine JX.condF rfl hb ?_
        refine JX.skip ?_
        have hj := Option.some.inj hres
        exact JE.weak [0] (K) ⟨(by subst hj; rfl), (by subst hj; rfl), trivial⟩ (by decide) (by subst hj; rfl)

/- (*spec.l00Src).among -/
def sh94 (q0 : Sl00Src) (q1 : List Int) : Option (Int × Int × Int) := Option.bind (sh92 q0 (q1.length : Int)) fun x1 => Option.bind (getI q1 x1.1) fun x2 => some (x2, x1.2.1, x1.2.2)
def T94 (gb_0 : Nat) (a_0_0 : Option Addr) (n_0_0 c_0_0 : Nat) (r : Int × Int × Int) (v : Value) (es' rs : List Own) : Prop := es' = [boxO 163 gb_0 [.slice a_0_0 n_0_0 c_0_0, .int .i64 r.2.1, .int .u64 r.2.2]] ∧ v = rets [.int .i64 r.1] ∧ rs = []
set_option maxRecDepth 100000 in
theorem c94 {w : World} {M : List Nat} {q0 : Sl00Src} {gb_0 : Nat} {a_0_0 : Option Addr} {n_0_0 c_0_0 : Nat} (g_0_0 : RdS M w a_0_0 (eU8.fl q0.code)) (l_0_0 : q0.code.length = n_0_0) (k_0_0 : n_0_0 ≤ c_0_0) {q1 : List Int} {a_1 : Option Addr} {n_1 c_1 : Nat} (g_1 : RdS M w a_1 (eI64.fl q1)) (l_1 : q1.length = n_1) (k_1 : n_1 ≤ c_1) (gs : Sep w.heap.size M w [boxO 163 gb_0 [.slice a_0_0 n_0_0 c_0_0, .int .i64 q0.at_, .int .u64 q0.seed]]) {r : Int × Int × Int} (hres : sh94 q0 q1 = some r) : Calls Go.Proofs.Try.prog 94 [ptrAt (some ⟨gb_0, 0, none⟩) 0, .slice a_1 n_1 c_1].toArray w (RetMs w M (T94 gb_0 a_0_0 n_0_0 c_0_0 r)) := by
  subst l_0_0
  subst l_1
  unfold sh94 at hres
  refine calls_of (n := 12) (M := M) (es := [boxO 163 gb_0 [.slice a_0_0 q0.code.length c_0_0, .int .i64 q0.at_, .int .u64 q0.seed]]) Go.Proofs.Try.func94 rfl rfl rfl gs ?_
  refine JX.seq ?_
  refine JX.region ?_
  refine JL.val (yl_assign rfl) rfl ?_
  refine JL.nil ?_
  refine JE.code ?_
  refine JX.seq ?_
  refine JX.region ?_
  refine JL.val (yl_move rfl) rfl ?_
  refine JL.val (yl_move rfl) rfl ?_
  refine JL.val (yl_move rfl) rfl ?_
  refine JL.val (yl_len_slice Go.Proofs.Try.underlying24 rfl) rfl ?_
  obtain ⟨x1, hx1, hres⟩ := bind_some hres
  refine JL.eff (ef_callms (caps := []) (vs := [ptrAt (some ⟨gb_0, 0, none⟩) 0, .int .i64 (q1.length : Int)]) (T := T92 gb_0 a_0_0 q0.code.length c_0_0 x1) [0] [] [boxO 163 gb_0 [.slice a_0_0 q0.code.length c_0_0, .int .i64 q0.at_, .int .u64 q0.seed]] [] rfl Go.Proofs.Try.func92 rfl (by kernel_rfl) rfl (by decide) rfl rfl (fun w N hF hS => c92 (q0 := q0) (RdS.pass hF g_0_0) rfl k_0_0 hS hx1)) rfl ?_
  rintro _ _ ⟨_, _, ⟨rfl, rfl, rfl⟩, rfl⟩
  obtain ⟨x2, hx2, hres⟩ := bind_some hres
  refine JL.val (yl_idxT Go.Proofs.Try.underlying24 i2 i2s rfl rfl hx2 rfl (fun w hC => rd_argS g_1 hC)) rfl ?_
  refine JL.val (yl_loadT0 Go.Proofs.Try.underlying2 rfl rfl hx2 (fun w hC => rd_argS g_1 hC) rfl) rfl ?_
  refine JL.val (yl_assign rfl) rfl ?_
  refine JL.nil ?_
  refine JE.weak (env' := [(4, .int .i64 x2)]) (es' := [boxO 163 gb_0 [.slice a_0_0 q0.code.length c_0_0, .int .i64 x1.2.1, .int .u64 x1.2.2]]) [0] ?_ ⟨rfl, trivial⟩ (by decide) rfl
  refine JE.code ?_
  refine JX.ret ?_
  obtain rfl := Option.some.inj hres
  refine JE.ret (rs := [.tmp 4]) (vs := [.int .i64 x2]) rfl ⟨rfl, trivial⟩ ?_
  exact fun w' hb hs => ⟨_, _, _, ⟨rfl, rfl, rfl⟩, rfl, hb, hs.sel [0] _ (by decide) rfl⟩

/- spec.l00In -/
def sh100 (q0 : Int) (q1 : Int) (q2 : Int) : Option (Bool) := some ((decide (q1 ≤ q0)) && (decide (q0 ≤ q2)))
def T100 (r : Bool) (v : Value) (rs : List Own) : Prop := v = rets [.bool r] ∧ rs = []
set_option maxRecDepth 100000 in
theorem c100 {w : World} {q0 : Int} {q1 : Int} {q2 : Int} {r : Bool} (hres : sh100 q0 q1 q2 = some r) : Calls Go.Proofs.Try.prog 100 [.int .i64 q0, .int .i64 q1, .int .i64 q2].toArray w (Ret w (T100 r)) := by
  unfold sh100 at hres
  refine calls_of (n := 15) (M := []) (es := []) Go.Proofs.Try.func100 rfl rfl rfl (Sep.nil _ _ _) ?_
  refine JX.seq ?_
  refine JX.region ?_
  refine JL.val (yl_assign rfl) rfl ?_
  refine JL.nil ?_
  refine JE.code ?_
  refine JX.seq ?_
  refine JX.region ?_
  refine JL.val (yl_move rfl) rfl ?_
  refine JL.val (yl_move rfl) rfl ?_
  refine JL.val (yl_geq rfl rfl) rfl ?_
  refine JL.val (yl_move rfl) rfl ?_
  refine JL.cut (K := fun J => J [(14, .bool ((decide (q1 ≤ q0)) && (decide (q0 ≤ q2))))] []) 4 ?_ ?_
  · refine JL.val (yl_assign rfl) rfl ?_
    refine JL.nil ?_
    refine JE.weak (env' := [(6, .bool ((decide (q1 ≤ q0)) && (decide (q0 ≤ q2))))]) (es' := []) [] ?_ ⟨rfl, trivial⟩ (by decide) rfl
    refine JE.code ?_
    refine JX.ret ?_
    obtain rfl := Option.some.inj hres
    refine JE.ret (rs := [.tmp 6]) (vs := [.bool ((decide (q1 ≤ q0)) && (decide (q0 ≤ q2)))]) rfl ⟨rfl, trivial⟩ ?_
    exact fun w' hb hs => ⟨_, _, ⟨rfl, rfl⟩, rfl, hb, hs.sel [] _ (by decide) rfl⟩
  · intro K
    rcases Bool.eq_false_or_eq_true (decide (q1 ≤ q0)) with hb | hb
    · refine JL.set (d := 10) (v := .bool true) (congrArg (fun b => some (Value.bool b)) hb) ?_
      refine JL.gval rfl rfl (yl_move rfl) rfl ?_
      refine JL.gval rfl rfl (yl_move rfl) rfl ?_
      refine JL.gval rfl rfl (yl_leq rfl rfl) rfl ?_
      refine JL.val (yl_pick_true rfl rfl) rfl ?_
      exact JL.weak [] K ⟨(by rw [hb]; rfl), trivial⟩ (by decide) rfl
    · refine JL.set (d := 10) (v := .bool false) (congrArg (fun b => some (Value.bool b)) hb) ?_
      refine JL.gskip rfl rfl rfl rfl ?_
      refine JL.gskip rfl rfl rfl rfl ?_
      refine JL.gskip rfl rfl rfl rfl ?_
      refine JL.val (yl_pick_false rfl rfl) rfl ?_
      exact JL.weak [] K ⟨(by rw [hb]; rfl), trivial⟩ (by decide) rfl

/- spec.l02Side -/
def sh201 (q0 : Int) : Option (Bool) := Option.bind (sh100 q0 1 8) fun x1 => some x1
def T201 (r : Bool) (v : Value) (rs : List Own) : Prop := v = rets [.bool r] ∧ rs = []
set_option maxRecDepth 100000 in
theorem c201 {w : World} {q0 : Int} {r : Bool} (hres : sh201 q0 = some r) : Calls Go.Proofs.Try.prog 201 [.int .i64 q0].toArray w (Ret w (T201 r)) := by
  unfold sh201 at hres
  refine calls_of (n := 5) (M := []) (es := []) Go.Proofs.Try.func201 rfl rfl rfl (Sep.nil _ _ _) ?_
  refine JX.seq ?_
  refine JX.region ?_
  refine JL.val (yl_assign rfl) rfl ?_
  refine JL.nil ?_
  refine JE.code ?_
  refine JX.seq ?_
  refine JX.region ?_
  refine JL.val (yl_move rfl) rfl ?_
  obtain ⟨x1, hx1, hres⟩ := bind_some hres
  refine JL.eff (ef_call (T := T100 x1) Go.Proofs.Try.func100 rfl (by kernel_rfl) rfl (fun w hC => c100  hx1)) rfl ?_
  rintro _ _ ⟨_, ⟨rfl, rfl⟩, rfl⟩
  refine JL.val (yl_assign rfl) rfl ?_
  refine JL.nil ?_
  refine JE.code ?_
  refine JX.ret ?_
  obtain rfl := Option.some.inj hres
  refine JE.ret (rs := [.tmp 2]) (vs := [.bool x1]) rfl ⟨rfl, trivial⟩ ?_
  exact fun w' hb hs => ⟨_, _, ⟨rfl, rfl⟩, rfl, hb, hs.sel [] _ (by decide) rfl⟩

/- spec.l02Inner -/
def sh202 (q0 : Int) (q1 : Int) : Option (Int) := some (w64 ((w64 (q0 * (w64 (q1 - 1)))) + (w64 (q1 * (w64 (q0 - 1))))))
def T202 (r : Int) (v : Value) (rs : List Own) : Prop := v = rets [.int .i64 r] ∧ rs = []
set_option maxRecDepth 100000 in
theorem c202 {w : World} {q0 : Int} {q1 : Int} {r : Int} (hres : sh202 q0 q1 = some r) : Calls Go.Proofs.Try.prog 202 [.int .i64 q0, .int .i64 q1].toArray w (Ret w (T202 r)) := by
  unfold sh202 at hres
  refine calls_of (n := 14) (M := []) (es := []) Go.Proofs.Try.func202 rfl rfl rfl (Sep.nil _ _ _) ?_
  refine JX.seq ?_
  refine JX.region ?_
  refine JL.val (yl_assign rfl) rfl ?_
  refine JL.nil ?_
  refine JE.code ?_
  refine JX.seq ?_
  refine JX.region ?_
  refine JL.val (yl_move rfl) rfl ?_
  refine JL.val (yl_move rfl) rfl ?_
  refine JL.val (yl_sub rfl rfl) rfl ?_
  refine JL.val (yl_mul rfl rfl) rfl ?_
  refine JL.val (yl_move rfl) rfl ?_
  refine JL.val (yl_move rfl) rfl ?_
  refine JL.val (yl_sub rfl rfl) rfl ?_
  refine JL.val (yl_mul rfl rfl) rfl ?_
  refine JL.val (yl_add rfl rfl) rfl ?_
  refine JL.val (yl_assign rfl) rfl ?_
  refine JL.nil ?_
  refine JE.weak (env' := [(4, .int .i64 (w64 ((w64 (q0 * (w64 (q1 - 1)))) + (w64 (q1 * (w64 (q0 - 1)))))))]) (es' := []) [] ?_ ⟨rfl, trivial⟩ (by decide) rfl
  refine JE.code ?_
  refine JX.ret ?_
  obtain rfl := Option.some.inj hres
  refine JE.ret (rs := [.tmp 4]) (vs := [.int .i64 (w64 ((w64 (q0 * (w64 (q1 - 1)))) + (w64 (q1 * (w64 (q0 - 1))))))]) rfl ⟨rfl, trivial⟩ ?_
  exact fun w' hb hs => ⟨_, _, ⟨rfl, rfl⟩, rfl, hb, hs.sel [] _ (by decide) rfl⟩

/- spec.l02Ok -/
def sh139_1 (q0 : SPanel) : Int → Option (Int ⊕ (Unit ⊕ Bool))
  | x7 => bif decide (x7 < (q0.Breaks.length : Int)) then (Option.bind (getI q0.Breaks x7) fun x8 => Option.bind (sh100 x8 0 2) fun x9 => bif !x9 then (some (.inr (.inr false))) else (some (.inl (w64 (x7 + 1))))) else (some (.inr (.inl ())))
def sh139 (q0 : SPanel) : Option (Bool) := Option.bind (sh201 q0.W) fun x2 => Option.bind (bif !x2 then (some true) else (Option.bind (sh201 q0.H) fun x4 => some !x4)) fun cb3 => (Option.bind (bif cb3 then (some true) else (Option.bind (sh202 q0.W q0.H) fun x6 => some ((q0.Breaks.length : Int) != x6))) fun cb5 => (bif cb5 then (some false) else (Option.bind (iter (sh139_1 q0) 0) fun y1 => elimS y1 (fun r => some r) fun b1 => (some true))))
def T139 (r : Bool) (v : Value) (rs : List Own) : Prop := v = rets [.bool r] ∧ rs = []
set_option maxRecDepth 100000 in
theorem c139 {w : World} {q0 : SPanel} {a_0 : Option Addr} {n_0 : Nat} {a_0_2 : Option Addr} {n_0_2 c_0_2 : Nat} (g_0 : RdAt w a_0 n_0 [.int .i64 q0.W, .int .i64 q0.H, .slice a_0_2 n_0_2 c_0_2]) (g_0_2 : Rd w a_0_2 (eI64.fl q0.Breaks)) (l_0_2 : q0.Breaks.length = n_0_2) (k_0_2 : n_0_2 ≤ c_0_2) {r : Bool} (hres : sh139 q0 = some r) : Calls Go.Proofs.Try.prog 139 [ptrAt a_0 n_0].toArray w (Ret w (T139 r)) := by
  subst l_0_2
  obtain ⟨b_0, e_0, g_0⟩ := g_0.norm0
  rw [e_0]
  unfold sh139 at hres
  refine calls_of (n := 53) (M := []) (es := []) Go.Proofs.Try.func139 rfl rfl rfl (Sep.nil _ _ _) ?_
  refine JX.seq ?_
  refine JX.region ?_
  refine JL.val (yl_assign rfl) rfl ?_
  refine JL.nil ?_
  refine JE.code ?_
  refine JX.seq ?_
  refine JX.seq ?_
  refine JX.drawH [(0, .pure), (1, .pure), (2, .pure), (3, .read), (4, .must), (5, .pure), (6, .pure), (7, .pure), (8, .pure), (9, .pure), (10, .read), (11, .must), (12, .pure), (13, .pure), (14, .pure), (15, .pure), (16, .pure), (17, .pure), (18, .read), (19, .pure), (20, .pure), (21, .pure), (22, .pure), (23, .read), (24, .pure), (25, .pure), (26, .pure), (27, .read), (28, .must), (29, .pure), (30, .pure)] [] [] [] [] [] mixedP (by kernel_rfl) (by kernel_rfl) (by decide) rfl rfl ?_
  intro wrr1 Nr1 hFr1
  refine JH.pure rfl (yl_move rfl) rfl ?_
  refine JH.pure rfl (yl_nilCheckAt rfl (Rd.some g_0 (j := 0) rfl)) rfl ?_
  refine JH.pure rfl (yl_fieldAt Go.Proofs.Try.underlying26 rfl i2 i2n rfl (Rd.some g_0 (j := 0) rfl)) rfl ?_
  refine JH.read rfl (yl_load1 Go.Proofs.Try.underlying2 rfl rfl (fun w hw => hFr1.arg g_0 hw) rfl) rfl ?_
  obtain ⟨x2, hx2, hres⟩ := bind_some hres
  refine JH.must rfl (ef_call (T := T201 x2) Go.Proofs.Try.func201 rfl (by kernel_rfl) rfl (fun w hC => c201  hx2)) rfl rfl ?_
  rintro _ _ ⟨_, ⟨rfl, rfl⟩, rfl⟩
  refine JH.pure rfl (yl_not rfl) rfl ?_
  refine JH.pure rfl (yl_move rfl) rfl ?_
  obtain ⟨cb3, hcb3, hres⟩ := bind_some hres
  refine JH.cut (K := fun J => J [(0, ptrAt b_0 0), (17, .bool cb3)] []) 7 ?_ ?_
  · refine JH.pure rfl (yl_move rfl) rfl ?_
    obtain ⟨cb5, hcb5, hres⟩ := bind_some hres
    refine JH.cut (K := fun J => J [(0, ptrAt b_0 0), (34, .bool cb5)] []) 16 ?_ ?_
    · refine JH.nil ?_
      refine JE.weak (env' := [(0, ptrAt b_0 0), (34, .bool cb5)]) (es' := []) [] ?_ ⟨rfl, rfl, trivial⟩ (by decide) rfl
      refine JE.code ?_
      rcases cond_some hres with ⟨hb, hres⟩ | ⟨hb, hres⟩
      · refine JX.condT rfl hb ?_
        refine JX.seq ?_
        refine JX.region ?_
        refine JL.val (yl_assign rfl) rfl ?_
        refine JL.nil ?_
        refine JE.code ?_
        refine JX.ret ?_
        obtain rfl := Option.some.inj hres
        refine JE.ret (rs := [.tmp 2]) (vs := [.bool false]) rfl ⟨rfl, trivial⟩ ?_
        exact fun w' hb hs => ⟨_, _, ⟨rfl, rfl⟩, rfl, hb, hs.sel [] _ (by decide) rfl⟩
      · refine JX.condF rfl hb ?_
        refine JX.skip ?_
        refine JE.code ?_
        refine JX.seq ?_
        refine JX.seq ?_
        refine JX.region ?_
        refine JL.val (yl_assign rfl) rfl ?_
        refine JL.nil ?_
        refine JE.code ?_
        refine JX.block ?_
        obtain ⟨y1, hy1, hresO1⟩ := bind_some hres
        refine JX.loop (I := fun (s1 : Int) aa ww => St w [] 53 [(0, ptrAt b_0 0), (3, .int .i64 s1)] [] aa ww) (sh139_1 q0) hy1 (fun a w h => h.weak ⟨rfl, rfl, trivial⟩ [] (by decide) rfl) ?_
        rintro x7 o1 hres hox1 aa ww hS
        refine (?_ : JX Go.Proofs.Try.prog w [] 53 _ _ [(0, ptrAt b_0 0), (3, .int .i64 x7)] [] _) aa ww hS
        clear hS
        unfold sh139_1 at hres
        refine JX.seq ?_
        refine JX.seq ?_
        refine JX.region ?_
        refine JL.val (yl_move rfl) rfl ?_
        refine JL.val (yl_move rfl) rfl ?_
        refine JL.val (yl_nilCheckAt rfl (Rd.some g_0 (j := 0) rfl)) rfl ?_
        refine JL.val (yl_fieldAt Go.Proofs.Try.underlying26 rfl i24 i24n rfl (Rd.some g_0 (j := 0) rfl)) rfl ?_
        refine JL.val (yl_load1 Go.Proofs.Try.underlying24 rfl rfl (fun w hC => rd_arg g_0 hC) rfl) rfl ?_
        refine JL.val (yl_len_slice Go.Proofs.Try.underlying24 rfl) rfl ?_
        refine JL.val (yl_lss rfl rfl) rfl ?_
        refine JL.nil ?_
        refine JE.weak (env' := [(0, ptrAt b_0 0), (3, .int .i64 x7), (41, .bool (decide (x7 < (q0.Breaks.length : Int))))]) (es' := []) [] ?_ ⟨rfl, rfl, rfl, trivial⟩ (by decide) rfl
        refine JE.code ?_
        rcases cond_some hres with ⟨hb, hres⟩ | ⟨hb, hres⟩
        · refine JX.condT rfl hb ?_
          refine JX.skip ?_
          refine JE.code ?_
          refine JX.seq ?_
          refine JX.block ?_
          refine JX.seq ?_
          refine JX.region ?_
          refine JL.val (yl_move rfl) rfl ?_
          refine JL.val (yl_nilCheckAt rfl (Rd.some g_0 (j := 0) rfl)) rfl ?_
          refine JL.val (yl_fieldAt Go.Proofs.Try.underlying26 rfl i24 i24n rfl (Rd.some g_0 (j := 0) rfl)) rfl ?_
          refine JL.val (yl_load1 Go.Proofs.Try.underlying24 rfl rfl (fun w hC => rd_arg g_0 hC) rfl) rfl ?_
          refine JL.val (yl_move rfl) rfl ?_
          obtain ⟨x8, hx8, hres⟩ := bind_some hres
          refine JL.val (yl_idxT Go.Proofs.Try.underlying24 i2 i2s rfl rfl hx8 rfl (fun w hC => rd_arg g_0_2 hC)) rfl ?_
          refine JL.val (yl_loadT0 Go.Proofs.Try.underlying2 rfl rfl hx8 (fun w hC => rd_arg g_0_2 hC) rfl) rfl ?_
          obtain ⟨x9, hx9, hres⟩ := bind_some hres
          refine JL.eff (ef_call (T := T100 x9) Go.Proofs.Try.func100 rfl (by kernel_rfl) rfl (fun w hC => c100  hx9)) rfl ?_
          rintro _ _ ⟨_, ⟨rfl, rfl⟩, rfl⟩
          refine JL.val (yl_not rfl) rfl ?_
          refine JL.nil ?_
          refine JE.weak (env' := [(0, ptrAt b_0 0), (3, .int .i64 x7), (52, .bool !x9)]) (es' := []) [] ?_ ⟨rfl, rfl, rfl, trivial⟩ (by decide) rfl
          refine JE.code ?_
          rcases cond_some hres with ⟨hb, hres⟩ | ⟨hb, hres⟩
          · refine JX.condT rfl hb ?_
            refine JX.seq ?_
            refine JX.region ?_
            refine JL.val (yl_assign rfl) rfl ?_
            refine JL.nil ?_
            refine JE.code ?_
            refine JX.ret ?_
            refine JE.qbr ?_
            refine JE.qbr ?_
            have hres := elimS_inr hresO1 (hox1 _ (Option.some.inj hres).symm)
            obtain rfl := Option.some.inj hres
            refine JE.ret (rs := [.tmp 2]) (vs := [.bool false]) rfl ⟨rfl, trivial⟩ ?_
            exact fun w' hb hs => ⟨_, _, ⟨rfl, rfl⟩, rfl, hb, hs.sel [] _ (by decide) rfl⟩
          · refine JX.condF rfl hb ?_
            refine JX.skip ?_
            refine JE.code ?_
            refine JX.region ?_
            refine JL.val (yl_move rfl) rfl ?_
            refine JL.val (yl_add rfl rfl) rfl ?_
            refine JL.val (yl_assign rfl) rfl ?_
            refine JL.nil ?_
            refine JE.cont hres ?_
            exact fun a w h => h.weak ⟨rfl, rfl, trivial⟩ [] (by decide) rfl
        · refine JX.condF rfl hb ?_
          refine JX.exit ?_
          refine JE.qb rfl ?_
          obtain ⟨b1, hb1⟩ : ∃ b : Unit, b = () := ⟨_, rfl⟩
          have hy1 : Sum.inl b1 = y1 := by rw [hb1]; exact hox1 _ (Option.some.inj hres).symm
          have hres := elimS_inl hresO1 hy1
          refine JE.weak (env' := []) (es' := []) [] ?_ trivial (by decide) (by subst hb1; rfl)
          refine JE.code ?_
          refine JX.seq ?_
          refine JX.region ?_
          refine JL.val (yl_assign rfl) rfl ?_
          refine JL.nil ?_
          refine JE.code ?_
          refine JX.ret ?_
          obtain rfl := Option.some.inj hres
          refine JE.ret (rs := [.tmp 2]) (vs := [.bool true]) rfl ⟨rfl, trivial⟩ ?_
          exact fun w' hb hs => ⟨_, _, ⟨rfl, rfl⟩, rfl, hb, hs.sel [] _ (by decide) rfl⟩
    · intro K
      rcases cond_some hcb5 with ⟨hb, hres⟩ | ⟨hb, hres⟩
      · refine JH.set (d := 18) (v := .bool true) (congrArg (fun b => some (Value.bool b)) hb) ?_
        refine JH.gskip rfl rfl rfl rfl rfl rfl ?_
        refine JH.gskip rfl rfl rfl rfl rfl rfl ?_
        refine JH.gskip rfl rfl rfl rfl rfl rfl ?_
        refine JH.gskip rfl rfl rfl rfl rfl rfl ?_
        refine JH.gskip rfl rfl rfl rfl rfl rfl ?_
        refine JH.gskip rfl rfl rfl rfl rfl rfl ?_
        refine JH.gskip rfl rfl rfl rfl rfl rfl ?_
        refine JH.gskip rfl rfl rfl rfl rfl rfl ?_
        refine JH.gskip rfl rfl rfl rfl rfl rfl ?_
        refine JH.gskip rfl rfl rfl rfl rfl rfl ?_
        refine JH.gskip rfl rfl rfl rfl rfl rfl ?_
        refine JH.gskip rfl rfl rfl rfl rfl rfl ?_
        refine JH.gskip rfl rfl rfl rfl rfl rfl ?_
        refine JH.gskip rfl rfl rfl rfl rfl rfl ?_
        refine JH.gskip rfl rfl rfl rfl rfl rfl ?_
        refine JH.pure rfl (yl_pick_true rfl rfl) rfl ?_
        have he := Option.some.inj hres
        exact JH.weak [] K ⟨rfl, (by rw [← he]; rfl), trivial⟩ (by decide) rfl
      · refine JH.set (d := 18) (v := .bool false) (congrArg (fun b => some (Value.bool b)) hb) ?_
        refine JH.gpure rfl rfl rfl (yl_move rfl) rfl ?_
        refine JH.gpure rfl rfl rfl (yl_nilCheckAt rfl (Rd.some g_0 (j := 0) rfl)) rfl ?_
        refine JH.gpure rfl rfl rfl (yl_fieldAt Go.Proofs.Try.underlying26 rfl i24 i24n rfl (Rd.some g_0 (j := 0) rfl)) rfl ?_
        refine JH.gread rfl rfl rfl (yl_load1 Go.Proofs.Try.underlying24 rfl rfl (fun w hw => hFr1.arg g_0 hw) rfl) rfl ?_
        refine JH.gpure rfl rfl rfl (yl_len_slice Go.Proofs.Try.underlying24 rfl) rfl ?_
        refine JH.gpure rfl rfl rfl (yl_move rfl) rfl ?_
        refine JH.gpure rfl rfl rfl (yl_nilCheckAt rfl (Rd.some g_0 (j := 0) rfl)) rfl ?_
        refine JH.gpure rfl rfl rfl (yl_fieldAt Go.Proofs.Try.underlying26 rfl i2 i2n rfl (Rd.some g_0 (j := 0) rfl)) rfl ?_
        refine JH.gread rfl rfl rfl (yl_load1 Go.Proofs.Try.underlying2 rfl rfl (fun w hw => hFr1.arg g_0 hw) rfl) rfl ?_
        refine JH.gpure rfl rfl rfl (yl_move rfl) rfl ?_
        refine JH.gpure rfl rfl rfl (yl_nilCheckAt rfl (Rd.some g_0 (j := 0) rfl)) rfl ?_
        refine JH.gpure rfl rfl rfl (yl_fieldAt Go.Proofs.Try.underlying26 rfl i2 i2n rfl (Rd.some g_0 (j := 0) rfl)) rfl ?_
        refine JH.gread rfl rfl rfl (yl_load1 Go.Proofs.Try.underlying2 rfl rfl (fun w hw => hFr1.arg g_0 hw) rfl) rfl ?_
        obtain ⟨x6, hx6, hres⟩ := bind_some hres
        refine JH.gmust rfl rfl rfl (ef_call (T := T202 x6) Go.Proofs.Try.func202 rfl (by kernel_rfl) rfl (fun w hC => c202  hx6)) rfl rfl ?_
        rintro _ _ ⟨_, ⟨rfl, rfl⟩, rfl⟩
        refine JH.gpure rfl rfl rfl (yl_neq rfl rfl) rfl ?_
        refine JH.pure rfl (yl_pick_false rfl rfl) rfl ?_
        have he := Option.some.inj hres
        exact JH.weak [] K ⟨rfl, (by rw [← he]; rfl), trivial⟩ (by decide) rfl
  · intro K
    rcases cond_some hcb3 with ⟨hb, hres⟩ | ⟨hb, hres⟩
    · refine JH.set (d := 10) (v := .bool true) (congrArg (fun b => some (Value.bool b)) hb) ?_
      refine JH.gskip rfl rfl rfl rfl rfl rfl ?_
      refine JH.gskip rfl rfl rfl rfl rfl rfl ?_
      refine JH.gskip rfl rfl rfl rfl rfl rfl ?_
      refine JH.gskip rfl rfl rfl rfl rfl rfl ?_
      refine JH.gskip rfl rfl rfl rfl rfl rfl ?_
      refine JH.gskip rfl rfl rfl rfl rfl rfl ?_
      refine JH.pure rfl (yl_pick_true rfl rfl) rfl ?_
      have he := Option.some.inj hres
      exact JH.weak [] K ⟨rfl, (by rw [← he]; rfl), trivial⟩ (by decide) rfl
    · refine JH.set (d := 10) (v := .bool false) (congrArg (fun b => some (Value.bool b)) hb) ?_
      refine JH.gpure rfl rfl rfl (yl_move rfl) rfl ?_
      refine JH.gpure rfl rfl rfl (yl_nilCheckAt rfl (Rd.some g_0 (j := 0) rfl)) rfl ?_
      refine JH.gpure rfl rfl rfl (yl_fieldAt Go.Proofs.Try.underlying26 rfl i2 i2n rfl (Rd.some g_0 (j := 0) rfl)) rfl ?_
      refine JH.gread rfl rfl rfl (yl_load1 Go.Proofs.Try.underlying2 rfl rfl (fun w hw => hFr1.arg g_0 hw) rfl) rfl ?_
      obtain ⟨x4, hx4, hres⟩ := bind_some hres
      refine JH.gmust rfl rfl rfl (ef_call (T := T201 x4) Go.Proofs.Try.func201 rfl (by kernel_rfl) rfl (fun w hC => c201  hx4)) rfl rfl ?_
      rintro _ _ ⟨_, ⟨rfl, rfl⟩, rfl⟩
      refine JH.gpure rfl rfl rfl (yl_not rfl) rfl ?_
      refine JH.pure rfl (yl_pick_false rfl rfl) rfl ?_
      have he := Option.some.inj hres
      exact JH.weak [] K ⟨rfl, (by rw [← he]; rfl), trivial⟩ (by decide) rfl

/- spec.l02Row -/
def sh203_1 (q0 : SPanel) (q1 : Int) : (Int × Int) → Option ((Int × Int) ⊕ (Int))
  | (x1, x2) => bif decide (x2 < q1) then (Option.bind (bif (x2.tmod 2) == 1 then (some (w64 ((w64 (x1 + q0.W)) - 1))) else (some (w64 (x1 + q0.W)))) fun j3 => (some (.inl (j3, w64 (x2 + 1))))) else (some (.inr x1))
def sh203 (q0 : SPanel) (q1 : Int) : Option (Int) := Option.bind (iter (sh203_1 q0 q1) (0, 1)) fun b1 => (some b1)
def T203 (r : Int) (v : Value) (rs : List Own) : Prop := v = rets [.int .i64 r] ∧ rs = []
set_option maxRecDepth 100000 in
theorem c203 {w : World} {q0 : SPanel} {a_0 : Option Addr} {n_0 : Nat} {a_0_2 : Option Addr} {n_0_2 c_0_2 : Nat} (g_0 : RdAt w a_0 n_0 [.int .i64 q0.W, .int .i64 q0.H, .slice a_0_2 n_0_2 c_0_2]) (g_0_2 : Rd w a_0_2 (eI64.fl q0.Breaks)) (l_0_2 : q0.Breaks.length = n_0_2) (k_0_2 : n_0_2 ≤ c_0_2) {q1 : Int} {r : Int} (hres : sh203 q0 q1 = some r) : Calls Go.Proofs.Try.prog 203 [ptrAt a_0 n_0, .int .i64 q1].toArray w (Ret w (T203 r)) := by
  subst l_0_2
  obtain ⟨b_0, e_0, g_0⟩ := g_0.norm0
  rw [e_0]
  unfold sh203 at hres
  refine calls_of (n := 24) (M := []) (es := []) Go.Proofs.Try.func203 rfl rfl rfl (Sep.nil _ _ _) ?_
  refine JX.seq ?_
  refine JX.region ?_
  refine JL.val (yl_assign rfl) rfl ?_
  refine JL.nil ?_
  refine JE.code ?_
  refine JX.seq ?_
  refine JX.region ?_
  refine JL.val (yl_assign rfl) rfl ?_
  refine JL.nil ?_
  refine JE.code ?_
  refine JX.seq ?_
  refine JX.seq ?_
  refine JX.region ?_
  refine JL.val (yl_assign rfl) rfl ?_
  refine JL.nil ?_
  refine JE.code ?_
  refine JX.block ?_
  obtain ⟨y1, hy1, hresO1⟩ := bind_some hres
  refine JX.loop (I := fun (s1 : Int × Int) aa ww => St w [] 24 [(0, ptrAt b_0 0), (1, .int .i64 q1), (5, .int .i64 s1.1), (6, .int .i64 s1.2)] [] aa ww) (sh203_1 q0 q1) hy1 (fun a w h => h.weak ⟨rfl, rfl, rfl, rfl, trivial⟩ [] (by decide) rfl) ?_
  rintro ⟨x1, x2⟩ o1 hres hox1 aa ww hS
  refine (?_ : JX Go.Proofs.Try.prog w [] 24 _ _ [(0, ptrAt b_0 0), (1, .int .i64 q1), (5, .int .i64 x1), (6, .int .i64 x2)] [] _) aa ww hS
  clear hS
  simp only [sh203_1] at hres
  refine JX.seq ?_
  refine JX.seq ?_
  refine JX.region ?_
  refine JL.val (yl_move rfl) rfl ?_
  refine JL.val (yl_move rfl) rfl ?_
  refine JL.val (yl_lss rfl rfl) rfl ?_
  refine JL.nil ?_
  refine JE.code ?_
  rcases cond_some hres with ⟨hb, hres⟩ | ⟨hb, hres⟩
  · refine JX.condT rfl hb ?_
    refine JX.skip ?_
    refine JE.code ?_
    refine JX.seq ?_
    refine JX.block ?_
    refine JX.seq ?_
    refine JX.region ?_
    refine JL.val (yl_move rfl) rfl ?_
    refine JL.val (yl_move rfl) rfl ?_
    refine JL.val (yl_nilCheckAt rfl (Rd.some g_0 (j := 0) rfl)) rfl ?_
    refine JL.val (yl_fieldAt Go.Proofs.Try.underlying26 rfl i2 i2n rfl (Rd.some g_0 (j := 0) rfl)) rfl ?_
    refine JL.val (yl_load1 Go.Proofs.Try.underlying2 rfl rfl (fun w hC => rd_arg g_0 hC) rfl) rfl ?_
    refine JL.val (yl_add rfl rfl) rfl ?_
    refine JL.val (yl_assign rfl) rfl ?_
    refine JL.nil ?_
    refine JE.weak (env' := [(0, ptrAt b_0 0), (1, .int .i64 q1), (5, .int .i64 (w64 (x1 + q0.W))), (6, .int .i64 x2)]) (es' := []) [] ?_ ⟨rfl, rfl, rfl, rfl, trivial⟩ (by decide) rfl
    refine JE.code ?_
    refine JX.seq ?_
    refine JX.region ?_
    refine JL.val (yl_move rfl) rfl ?_
    refine JL.val (yl_rem rfl rfl (by decide)) rfl ?_
    refine JL.val (yl_eql rfl rfl) rfl ?_
    refine JL.nil ?_
    refine JE.code ?_
    obtain ⟨j3, hj3, hresj3⟩ := bind_some hres
    refine JX.cut (K := fun J => J [(0, ptrAt b_0 0), (1, .int .i64 q1), (5, .int .i64 j3), (6, .int .i64 x2)] []) ?_ ?_
    · have hres := hresj3
      refine JE.code ?_
      refine JX.region ?_
      refine JL.val (yl_move rfl) rfl ?_
      refine JL.val (yl_add rfl rfl) rfl ?_
      refine JL.val (yl_assign rfl) rfl ?_
      refine JL.nil ?_
      refine JE.cont hres ?_
      exact fun a w h => h.weak ⟨rfl, rfl, rfl, rfl, trivial⟩ [] (by decide) rfl
    · intro K
      rcases cond_some hj3 with ⟨hb, hres⟩ | ⟨hb, hres⟩
      · refine JX.condT rfl hb ?_
        refine JX.region ?_
        refine JL.val (yl_move rfl) rfl ?_
        refine JL.val (yl_sub rfl rfl) rfl ?_
        refine JL.val (yl_assign rfl) rfl ?_
        refine JL.nil ?_
        have hj := Option.some.inj hres
        exact JE.weak [] (K) ⟨(by subst hj; rfl), (by subst hj; rfl), (by subst hj; rfl), (by subst hj; rfl), trivial⟩ (by decide) (by subst hj; rfl)
      · refine JX.condF rfl hb ?_
        refine JX.skip ?_
        have hj := Option.some.inj hres
        exact JE.weak [] (K) ⟨(by subst hj; rfl), (by subst hj; rfl), (by subst hj; rfl), (by subst hj; rfl), trivial⟩ (by decide) (by subst hj; rfl)
  · refine JX.condF rfl hb ?_
    refine JX.exit ?_
    refine JE.qb rfl ?_
    obtain ⟨b1, hb1⟩ : ∃ b : Int, b = x1 := ⟨_, rfl⟩
    have hy1 : b1 = y1 := by rw [hb1]; exact hox1 _ (Option.some.inj hres).symm
    have hres := hresO1
    rw [← hy1] at hres
    refine JE.weak (env' := [(5, .int .i64 b1)]) (es' := []) [] ?_ ⟨(by subst hb1; rfl), trivial⟩ (by decide) (by subst hb1; rfl)
    refine JE.code ?_
    refine JX.seq ?_
    refine JX.region ?_
    refine JL.val (yl_move rfl) rfl ?_
    refine JL.val (yl_assign rfl) rfl ?_
    refine JL.nil ?_
    refine JE.code ?_
    refine JX.ret ?_
    obtain rfl := Option.some.inj hres
    refine JE.ret (rs := [.tmp 4]) (vs := [.int .i64 b1]) rfl ⟨rfl, trivial⟩ ?_
    exact fun w' hb hs => ⟨_, _, ⟨rfl, rfl⟩, rfl, hb, hs.sel [] _ (by decide) rfl⟩

/- spec.l02Number -/
def sh141 (q0 : SPanel) (q1 : SPoint) : Option (Int) := Option.bind (sh203 q0 q1.Y) fun x4 => some (w64 (x4 + (w64 ((w64 (q1.X - 1)).tdiv 2))))
def T141 (r : Int) (v : Value) (rs : List Own) : Prop := v = rets [.int .i64 r] ∧ rs = []
set_option maxRecDepth 100000 in
theorem c141 {w : World} {q0 : SPanel} {a_0 : Option Addr} {n_0 : Nat} {a_0_2 : Option Addr} {n_0_2 c_0_2 : Nat} (g_0 : RdAt w a_0 n_0 [.int .i64 q0.W, .int .i64 q0.H, .slice a_0_2 n_0_2 c_0_2]) (g_0_2 : Rd w a_0_2 (eI64.fl q0.Breaks)) (l_0_2 : q0.Breaks.length = n_0_2) (k_0_2 : n_0_2 ≤ c_0_2) {q1 : SPoint} {r : Int} (hres : sh141 q0 q1 = some r) : Calls Go.Proofs.Try.prog 141 [ptrAt a_0 n_0, .agg #[.int .i64 q1.X, .int .i64 q1.Y]].toArray w (Ret w (T141 r)) := by
  subst l_0_2
  obtain ⟨b_0, e_0, g_0⟩ := g_0.norm0
  rw [e_0]
  unfold sh141 at hres
  refine calls_of (n := 14) (M := []) (es := []) Go.Proofs.Try.func141 rfl rfl rfl (Sep.nil _ _ _) ?_
  refine JX.seq ?_
  refine JX.region ?_
  refine JL.eff (ef_box rfl rfl) rfl ?_
  rintro _ _ ⟨g1, rfl, rfl⟩
  refine JL.val (yl_assign rfl) rfl ?_
  refine JL.nil ?_
  refine JE.code ?_
  refine JX.seq ?_
  refine JX.drawH [(0, .pure), (1, .pure), (2, .read), (4, .pure), (5, .read), (6, .pure), (7, .pure), (3, .must), (8, .pure), (9, .pure)] [] [] [0] [] [boxO 42 g1 [.int .i64 q1.X, .int .i64 q1.Y]] mixedP (by kernel_rfl) (by kernel_rfl) (by decide) rfl rfl ?_
  intro wrr3 Nr3 hFr3
  refine JH.pure rfl (yl_move rfl) rfl ?_
  refine JH.pure rfl (yl_fieldAt (a := some _) Go.Proofs.Try.underlying42 rfl i2 i2n rfl rfl) rfl ?_
  refine JH.read rfl (yl_load1 Go.Proofs.Try.underlying2 rfl rfl (fun w hw => hFr3.box 0 rfl rfl hw) rfl) rfl ?_
  refine JH.pure rfl (yl_fieldAt (a := some _) Go.Proofs.Try.underlying42 rfl i2 i2n rfl rfl) rfl ?_
  refine JH.read rfl (yl_load1 Go.Proofs.Try.underlying2 rfl rfl (fun w hw => hFr3.box 0 rfl rfl hw) rfl) rfl ?_
  refine JH.pure rfl (yl_sub rfl rfl) rfl ?_
  refine JH.pure rfl (yl_quo rfl rfl (by decide)) rfl ?_
  obtain ⟨x4, hx4, hres⟩ := bind_some hres
  refine JH.must rfl (ef_call (T := T203 x4) Go.Proofs.Try.func203 rfl (by kernel_rfl) rfl (fun w hC => c203 (RdAt.of0 (hFr3.arg g_0 hC.1)) (hFr3.arg g_0_2 hC.1) rfl k_0_2 hx4)) rfl rfl ?_
  rintro _ _ ⟨_, ⟨rfl, rfl⟩, rfl⟩
  refine JH.pure rfl (yl_add rfl rfl) rfl ?_
  refine JH.pure rfl (yl_assign rfl) rfl ?_
  refine JH.nil ?_
  refine JE.weak (env' := [(4, .int .i64 (w64 (x4 + (w64 ((w64 (q1.X - 1)).tdiv 2)))))]) (es' := []) [] ?_ ⟨rfl, trivial⟩ (by decide) rfl
  refine JE.code ?_
  refine JX.ret ?_
  obtain rfl := Option.some.inj hres
  refine JE.ret (rs := [.tmp 4]) (vs := [.int .i64 (w64 (x4 + (w64 ((w64 (q1.X - 1)).tdiv 2))))]) rfl ⟨rfl, trivial⟩ ?_
  exact fun w' hb hs => ⟨_, _, ⟨rfl, rfl⟩, rfl, hb, hs.sel [] _ (by decide) rfl⟩

/- spec.l02Edge -/
def sh188 (q0 : SPanel) (q1 : SPoint) : Option (Bool) := some ((((q1.X == 0) || (q1.Y == 0)) || (q1.X == (w64 (2 * q0.W)))) || (q1.Y == (w64 (2 * q0.H))))
def T188 (r : Bool) (v : Value) (rs : List Own) : Prop := v = rets [.bool r] ∧ rs = []
set_option maxRecDepth 100000 in
theorem c188 {w : World} {q0 : SPanel} {a_0 : Option Addr} {n_0 : Nat} {a_0_2 : Option Addr} {n_0_2 c_0_2 : Nat} (g_0 : RdAt w a_0 n_0 [.int .i64 q0.W, .int .i64 q0.H, .slice a_0_2 n_0_2 c_0_2]) (g_0_2 : Rd w a_0_2 (eI64.fl q0.Breaks)) (l_0_2 : q0.Breaks.length = n_0_2) (k_0_2 : n_0_2 ≤ c_0_2) {q1 : SPoint} {r : Bool} (hres : sh188 q0 q1 = some r) : Calls Go.Proofs.Try.prog 188 [ptrAt a_0 n_0, .agg #[.int .i64 q1.X, .int .i64 q1.Y]].toArray w (Ret w (T188 r)) := by
  subst l_0_2
  obtain ⟨b_0, e_0, g_0⟩ := g_0.norm0
  rw [e_0]
  unfold sh188 at hres
  refine calls_of (n := 33) (M := []) (es := []) Go.Proofs.Try.func188 rfl rfl rfl (Sep.nil _ _ _) ?_
  refine JX.seq ?_
  refine JX.region ?_
  refine JL.eff (ef_box rfl rfl) rfl ?_
  rintro _ _ ⟨g1, rfl, rfl⟩
  refine JL.val (yl_assign rfl) rfl ?_
  refine JL.nil ?_
  refine JE.code ?_
  refine JX.seq ?_
  refine JX.drawH [(0, .pure), (1, .read), (2, .pure), (3, .pure), (4, .pure), (5, .read), (6, .pure), (7, .pure), (8, .pure), (9, .pure), (10, .read), (11, .pure), (12, .pure), (13, .pure), (14, .read), (15, .pure), (16, .pure), (17, .pure), (18, .pure), (19, .pure), (20, .read), (21, .pure), (22, .pure), (23, .pure), (24, .read), (25, .pure), (26, .pure), (27, .pure), (28, .pure)] [] [] [0] [] [boxO 42 g1 [.int .i64 q1.X, .int .i64 q1.Y]] mixedP (by kernel_rfl) (by kernel_rfl) (by decide) rfl rfl ?_
  intro wrr3 Nr3 hFr3
  refine JH.pure rfl (yl_fieldAt (a := some _) Go.Proofs.Try.underlying42 rfl i2 i2n rfl rfl) rfl ?_
  refine JH.read rfl (yl_load1 Go.Proofs.Try.underlying2 rfl rfl (fun w hw => hFr3.box 0 rfl rfl hw) rfl) rfl ?_
  refine JH.pure rfl (yl_eql rfl rfl) rfl ?_
  refine JH.pure rfl (yl_move rfl) rfl ?_
  refine JH.cut (K := fun J => J [(0, ptrAt b_0 0), (3, ptrAt (some ⟨g1, 0, none⟩) 0), (12, .bool ((q1.X == 0) || (q1.Y == 0)))] []) 4 ?_ ?_
  · refine JH.pure rfl (yl_move rfl) rfl ?_
    refine JH.cut (K := fun J => J [(0, ptrAt b_0 0), (3, ptrAt (some ⟨g1, 0, none⟩) 0), (22, .bool (((q1.X == 0) || (q1.Y == 0)) || (q1.X == (w64 (2 * q0.W)))))] []) 9 ?_ ?_
    · refine JH.pure rfl (yl_move rfl) rfl ?_
      refine JH.cut (K := fun J => J [(32, .bool ((((q1.X == 0) || (q1.Y == 0)) || (q1.X == (w64 (2 * q0.W)))) || (q1.Y == (w64 (2 * q0.H)))))] []) 9 ?_ ?_
      · refine JH.pure rfl (yl_assign rfl) rfl ?_
        refine JH.nil ?_
        refine JE.weak (env' := [(4, .bool ((((q1.X == 0) || (q1.Y == 0)) || (q1.X == (w64 (2 * q0.W)))) || (q1.Y == (w64 (2 * q0.H)))))]) (es' := []) [] ?_ ⟨rfl, trivial⟩ (by decide) rfl
        refine JE.code ?_
        refine JX.ret ?_
        obtain rfl := Option.some.inj hres
        refine JE.ret (rs := [.tmp 4]) (vs := [.bool ((((q1.X == 0) || (q1.Y == 0)) || (q1.X == (w64 (2 * q0.W)))) || (q1.Y == (w64 (2 * q0.H))))]) rfl ⟨rfl, trivial⟩ ?_
        exact fun w' hb hs => ⟨_, _, ⟨rfl, rfl⟩, rfl, hb, hs.sel [] _ (by decide) rfl⟩
      · intro K
        rcases Bool.eq_false_or_eq_true (((q1.X == 0) || (q1.Y == 0)) || (q1.X == (w64 (2 * q0.W)))) with hb | hb
        · refine JH.set (d := 23) (v := .bool true) (congrArg (fun b => some (Value.bool b)) hb) ?_
          refine JH.gskip rfl rfl rfl rfl rfl rfl ?_
          refine JH.gskip rfl rfl rfl rfl rfl rfl ?_
          refine JH.gskip rfl rfl rfl rfl rfl rfl ?_
          refine JH.gskip rfl rfl rfl rfl rfl rfl ?_
          refine JH.gskip rfl rfl rfl rfl rfl rfl ?_
          refine JH.gskip rfl rfl rfl rfl rfl rfl ?_
          refine JH.gskip rfl rfl rfl rfl rfl rfl ?_
          refine JH.gskip rfl rfl rfl rfl rfl rfl ?_
          refine JH.pure rfl (yl_pick_true rfl rfl) rfl ?_
          exact JH.weak [] K ⟨(by rw [hb]; rfl), trivial⟩ (by decide) rfl
        · refine JH.set (d := 23) (v := .bool false) (congrArg (fun b => some (Value.bool b)) hb) ?_
          refine JH.gpure rfl rfl rfl (yl_fieldAt (a := some _) Go.Proofs.Try.underlying42 rfl i2 i2n rfl rfl) rfl ?_
          refine JH.gread rfl rfl rfl (yl_load1 Go.Proofs.Try.underlying2 rfl rfl (fun w hw => hFr3.box 0 rfl rfl hw) rfl) rfl ?_
          refine JH.gpure rfl rfl rfl (yl_move rfl) rfl ?_
          refine JH.gpure rfl rfl rfl (yl_nilCheckAt rfl (Rd.some g_0 (j := 0) rfl)) rfl ?_
          refine JH.gpure rfl rfl rfl (yl_fieldAt Go.Proofs.Try.underlying26 rfl i2 i2n rfl (Rd.some g_0 (j := 0) rfl)) rfl ?_
          refine JH.gread rfl rfl rfl (yl_load1 Go.Proofs.Try.underlying2 rfl rfl (fun w hw => hFr3.arg g_0 hw) rfl) rfl ?_
          refine JH.gpure rfl rfl rfl (yl_mul rfl rfl) rfl ?_
          refine JH.gpure rfl rfl rfl (yl_eql rfl rfl) rfl ?_
          refine JH.pure rfl (yl_pick_false rfl rfl) rfl ?_
          exact JH.weak [] K ⟨(by rw [hb]; rfl), trivial⟩ (by decide) rfl
    · intro K
      rcases Bool.eq_false_or_eq_true ((q1.X == 0) || (q1.Y == 0)) with hb | hb
      · refine JH.set (d := 13) (v := .bool true) (congrArg (fun b => some (Value.bool b)) hb) ?_
        refine JH.gskip rfl rfl rfl rfl rfl rfl ?_
        refine JH.gskip rfl rfl rfl rfl rfl rfl ?_
        refine JH.gskip rfl rfl rfl rfl rfl rfl ?_
        refine JH.gskip rfl rfl rfl rfl rfl rfl ?_
        refine JH.gskip rfl rfl rfl rfl rfl rfl ?_
        refine JH.gskip rfl rfl rfl rfl rfl rfl ?_
        refine JH.gskip rfl rfl rfl rfl rfl rfl ?_
        refine JH.gskip rfl rfl rfl rfl rfl rfl ?_
        refine JH.pure rfl (yl_pick_true rfl rfl) rfl ?_
        exact JH.weak [] K ⟨rfl, rfl, (by rw [hb]; rfl), trivial⟩ (by decide) rfl
      · refine JH.set (d := 13) (v := .bool false) (congrArg (fun b => some (Value.bool b)) hb) ?_
        refine JH.gpure rfl rfl rfl (yl_fieldAt (a := some _) Go.Proofs.Try.underlying42 rfl i2 i2n rfl rfl) rfl ?_
        refine JH.gread rfl rfl rfl (yl_load1 Go.Proofs.Try.underlying2 rfl rfl (fun w hw => hFr3.box 0 rfl rfl hw) rfl) rfl ?_
        refine JH.gpure rfl rfl rfl (yl_move rfl) rfl ?_
        refine JH.gpure rfl rfl rfl (yl_nilCheckAt rfl (Rd.some g_0 (j := 0) rfl)) rfl ?_
        refine JH.gpure rfl rfl rfl (yl_fieldAt Go.Proofs.Try.underlying26 rfl i2 i2n rfl (Rd.some g_0 (j := 0) rfl)) rfl ?_
        refine JH.gread rfl rfl rfl (yl_load1 Go.Proofs.Try.underlying2 rfl rfl (fun w hw => hFr3.arg g_0 hw) rfl) rfl ?_
        refine JH.gpure rfl rfl rfl (yl_mul rfl rfl) rfl ?_
        refine JH.gpure rfl rfl rfl (yl_eql rfl rfl) rfl ?_
        refine JH.pure rfl (yl_pick_false rfl rfl) rfl ?_
        exact JH.weak [] K ⟨rfl, rfl, (by rw [hb]; rfl), trivial⟩ (by decide) rfl
  · intro K
    rcases Bool.eq_false_or_eq_true (q1.X == 0) with hb | hb
    · refine JH.set (d := 8) (v := .bool true) (congrArg (fun b => some (Value.bool b)) hb) ?_
      refine JH.gskip rfl rfl rfl rfl rfl rfl ?_
      refine JH.gskip rfl rfl rfl rfl rfl rfl ?_
      refine JH.gskip rfl rfl rfl rfl rfl rfl ?_
      refine JH.pure rfl (yl_pick_true rfl rfl) rfl ?_
      exact JH.weak [] K ⟨rfl, rfl, (by rw [hb]; rfl), trivial⟩ (by decide) rfl
    · refine JH.set (d := 8) (v := .bool false) (congrArg (fun b => some (Value.bool b)) hb) ?_
      refine JH.gpure rfl rfl rfl (yl_fieldAt (a := some _) Go.Proofs.Try.underlying42 rfl i2 i2n rfl rfl) rfl ?_
      refine JH.gread rfl rfl rfl (yl_load1 Go.Proofs.Try.underlying2 rfl rfl (fun w hw => hFr3.box 0 rfl rfl hw) rfl) rfl ?_
      refine JH.gpure rfl rfl rfl (yl_eql rfl rfl) rfl ?_
      refine JH.pure rfl (yl_pick_false rfl rfl) rfl ?_
      exact JH.weak [] K ⟨rfl, rfl, (by rw [hb]; rfl), trivial⟩ (by decide) rfl

/- spec.l03Next -/
def sh216 (q0 : SWalker) : Option (SPoint) := some (SPoint.mk (w64 (q0.At.X + q0.DX)) (w64 (q0.At.Y + q0.DY)))
def T216 (r : SPoint) (v : Value) (rs : List Own) : Prop := v = rets [.agg #[.int .i64 r.X, .int .i64 r.Y]] ∧ rs = []
set_option maxRecDepth 100000 in
theorem c216 {w : World} {q0 : SWalker} {r : SPoint} (hres : sh216 q0 = some r) : Calls Go.Proofs.Try.prog 216 [.agg #[.int .i64 q0.At.X, .int .i64 q0.At.Y, .int .i64 q0.DX, .int .i64 q0.DY]].toArray w (Ret w (T216 r)) := by
  unfold sh216 at hres
  refine calls_of (n := 16) (M := []) (es := []) Go.Proofs.Try.func216 rfl rfl rfl (Sep.nil _ _ _) ?_
  refine JX.seq ?_
  refine JX.region ?_
  refine JL.eff (ef_box rfl rfl) rfl ?_
  rintro _ _ ⟨g1, rfl, rfl⟩
  refine JL.eff (ef_alloc i42 i42z rfl) rfl ?_
  rintro _ _ ⟨g3, rfl, rfl⟩
  refine JL.nil ?_
  refine JE.code ?_
  refine JX.seq ?_
  refine JX.region ?_
  refine JL.val (yl_fieldAt (a := some _) Go.Proofs.Try.underlying104 rfl i42 i42n rfl rfl) rfl ?_
  refine JL.val (yl_fieldAt (a := some _) Go.Proofs.Try.underlying42 rfl i2 i2n rfl rfl) rfl ?_
  refine JL.val (yl_load1 Go.Proofs.Try.underlying2 rfl rfl (fun w hC => rd_box hC 0 rfl) rfl) rfl ?_
  refine JL.val (yl_fieldAt (a := some _) Go.Proofs.Try.underlying104 rfl i2 i2n rfl rfl) rfl ?_
  refine JL.val (yl_load1 Go.Proofs.Try.underlying2 rfl rfl (fun w hC => rd_box hC 0 rfl) rfl) rfl ?_
  refine JL.val (yl_add rfl rfl) rfl ?_
  refine JL.val (yl_fieldAt (a := some _) Go.Proofs.Try.underlying104 rfl i42 i42n rfl rfl) rfl ?_
  refine JL.val (yl_fieldAt (a := some _) Go.Proofs.Try.underlying42 rfl i2 i2n rfl rfl) rfl ?_
  refine JL.val (yl_load1 Go.Proofs.Try.underlying2 rfl rfl (fun w hC => rd_box hC 0 rfl) rfl) rfl ?_
  refine JL.val (yl_fieldAt (a := some _) Go.Proofs.Try.underlying104 rfl i2 i2n rfl rfl) rfl ?_
  refine JL.val (yl_load1 Go.Proofs.Try.underlying2 rfl rfl (fun w hC => rd_box hC 0 rfl) rfl) rfl ?_
  refine JL.val (yl_add rfl rfl) rfl ?_
  refine JL.val (yl_build rfl (fun w => bld42_0_1 (w64 (q0.At.X + q0.DX)) (w64 (q0.At.Y + q0.DY)) w)) rfl ?_
  refine JL.eff (ef_store_box (i := 1) (v := .agg #[.int .i64 (w64 (q0.At.X + q0.DX)), .int .i64 (w64 (q0.At.Y + q0.DY))]) i42 rfl rfl rfl (i42s).symm (Nat.le_of_ble_eq_true rfl) (by simp [Value.cells, Value.oneCell'])) rfl ?_
  rintro _ _ rfl
  refine JL.nil ?_
  refine JE.weak (env' := [(2, ptrAt (some ⟨g3, 0, none⟩) 0)]) (es' := [boxO 42 g3 [.int .i64 (w64 (q0.At.X + q0.DX)), .int .i64 (w64 (q0.At.Y + q0.DY))]]) [1] ?_ ⟨rfl, trivial⟩ (by decide) rfl
  refine JE.code ?_
  refine JX.ret ?_
  obtain rfl := Option.some.inj hres
  refine JE.ret (rs := [.cell 2 42]) (vs := [.agg #[.int .i64 (w64 (q0.At.X + q0.DX)), .int .i64 (w64 (q0.At.Y + q0.DY))]]) rfl ⟨rv_box 0 rfl rfl Go.Proofs.Try.underlying42 rfl i42 (i42s).symm, trivial⟩ ?_
  exact fun w' hb hs => ⟨_, _, ⟨rfl, rfl⟩, rfl, hb, hs.sel [] _ (by decide) rfl⟩

/- spec.l03Step -/
def sh213 (q0 : SPanel) (q1 : SWalker) : Option (SWalker) := Option.bind (sh216 q1) fun x5 => Option.bind (bif (x5.X == 0) || (x5.X == (w64 (2 * q0.W))) then (some (SWalker.mk x5 (w64 (0 - q1.DX)) q1.DY)) else (some (SWalker.mk x5 q1.DX q1.DY))) fun j11 => (Option.bind (bif (x5.Y == 0) || (x5.Y == (w64 (2 * q0.H))) then (some (SWalker.mk j11.At j11.DX (w64 (0 - j11.DY)))) else (some j11)) fun j13 => (Option.bind (sh188 q0 x5) fun x14 => Option.bind (bif !x14 then (Option.bind (sh141 q0 x5) fun x17 => Option.bind (getI q0.Breaks x17) fun x18 => Option.bind (bif x18 == 1 then (some (SWalker.mk j13.At (w64 (0 - j13.DX)) j13.DY)) else (Option.bind (bif x18 == 2 then (some (SWalker.mk j13.At j13.DX (w64 (0 - j13.DY)))) else (some j13)) fun j20 => (some j20))) fun j19 => (some j19)) else (some j13)) fun j15 => (some j15)))
def T213 (r : SWalker) (v : Value) (rs : List Own) : Prop := v = rets [.agg #[.int .i64 r.At.X, .int .i64 r.At.Y, .int .i64 r.DX, .int .i64 r.DY]] ∧ rs = []
set_option maxRecDepth 100000 in
set_option maxHeartbeats 1000000 in
theorem c213 {w : World} {q0 : SPanel} {a_0 : Option Addr} {n_0 : Nat} {a_0_2 : Option Addr} {n_0_2 c_0_2 : Nat} (g_0 : RdAt w a_0 n_0 [.int .i64 q0.W, .int .i64 q0.H, .slice a_0_2 n_0_2 c_0_2]) (g_0_2 : Rd w a_0_2 (eI64.fl q0.Breaks)) (l_0_2 : q0.Breaks.length = n_0_2) (k_0_2 : n_0_2 ≤ c_0_2) {q1 : SWalker} {r : SWalker} (hres : sh213 q0 q1 = some r) : Calls Go.Proofs.Try.prog 213 [ptrAt a_0 n_0, .agg #[.int .i64 q1.At.X, .int .i64 q1.At.Y, .int .i64 q1.DX, .int .i64 q1.DY]].toArray w (Ret w (T213 r)) := by
  subst l_0_2
  obtain ⟨b_0, e_0, g_0⟩ := g_0.norm0
  rw [e_0]
  unfold sh213 at hres
  refine calls_of (n := 75) (M := []) (es := []) Go.Proofs.Try.func213 rfl rfl rfl (Sep.nil _ _ _) ?_
  refine JX.seq ?_
  refine JX.region ?_
  refine JL.eff (ef_box rfl rfl) rfl ?_
  rintro _ _ ⟨g1, rfl, rfl⟩
  refine JL.eff (ef_alloc i104 i104z rfl) rfl ?_
  rintro _ _ ⟨g3, rfl, rfl⟩
  refine JL.nil ?_
  refine JE.code ?_
  refine JX.seq ?_
  refine JX.region ?_
  refine JL.val (yl_loadn Go.Proofs.Try.underlying104 rfl i104 rfl (fun w hC => rd_box hC 0 rfl) rfl (i104s).symm i104p) rfl ?_
  obtain ⟨x5, hx5, hres⟩ := bind_some hres
  refine JL.eff (ef_call (vs := [.agg #[.int .i64 q1.At.X, .int .i64 q1.At.Y, .int .i64 q1.DX, .int .i64 q1.DY]]) (T := T216 x5) Go.Proofs.Try.func216 rfl (by kernel_rfl) rfl (fun w hC => c216 (q0 := q1) hx5)) rfl ?_
  rintro _ _ ⟨_, ⟨rfl, rfl⟩, rfl⟩
  refine JL.eff (ef_alloc i42 i42z rfl) rfl ?_
  rintro _ _ ⟨g6, rfl, rfl⟩
  refine JL.eff (ef_store_box (i := 2) (v := .agg #[.int .i64 x5.X, .int .i64 x5.Y]) i42 rfl rfl rfl (i42s).symm (Nat.le_of_ble_eq_true rfl) (by simp [Value.cells, Value.oneCell'])) rfl ?_
  rintro _ _ rfl
  refine JL.nil ?_
  refine JE.weak (env' := [(0, ptrAt b_0 0), (3, ptrAt (some ⟨g1, 0, none⟩) 0), (4, ptrAt (some ⟨g3, 0, none⟩) 0), (5, ptrAt (some ⟨g6, 0, none⟩) 0)]) (es' := [boxO 104 g1 [.int .i64 q1.At.X, .int .i64 q1.At.Y, .int .i64 q1.DX, .int .i64 q1.DY], boxO 104 g3 [.int .i64 0, .int .i64 0, .int .i64 0, .int .i64 0], boxO 42 g6 [.int .i64 x5.X, .int .i64 x5.Y]]) [0, 1, 2] ?_ ⟨rfl, rfl, rfl, rfl, trivial⟩ (by decide) rfl
  refine JE.code ?_
  refine JX.seq ?_
  refine JX.region ?_
  refine JL.val (yl_loadn Go.Proofs.Try.underlying42 rfl i42 rfl (fun w hC => rd_box hC 2 rfl) rfl (i42s).symm i42p) rfl ?_
  refine JL.val (yl_fieldAt (a := some _) Go.Proofs.Try.underlying104 rfl i2 i2n rfl rfl) rfl ?_
  refine JL.val (yl_load1 Go.Proofs.Try.underlying2 rfl rfl (fun w hC => rd_box hC 0 rfl) rfl) rfl ?_
  refine JL.val (yl_fieldAt (a := some _) Go.Proofs.Try.underlying104 rfl i2 i2n rfl rfl) rfl ?_
  refine JL.val (yl_load1 Go.Proofs.Try.underlying2 rfl rfl (fun w hC => rd_box hC 0 rfl) rfl) rfl ?_
  refine JL.val (yl_build rfl (fun w => bld104_0_1_2 x5.X x5.Y q1.DX q1.DY w)) rfl ?_
  refine JL.eff (ef_alloc i104 i104z rfl) rfl ?_
  rintro _ _ ⟨g8, rfl, rfl⟩
  refine JL.eff (ef_store_box (i := 3) (v := .agg #[.int .i64 x5.X, .int .i64 x5.Y, .int .i64 q1.DX, .int .i64 q1.DY]) i104 rfl rfl rfl (i104s).symm (Nat.le_of_ble_eq_true rfl) (by simp [Value.cells, Value.oneCell'])) rfl ?_
  rintro _ _ rfl
  refine JL.nil ?_
  refine JE.weak (env' := [(0, ptrAt b_0 0), (4, ptrAt (some ⟨g3, 0, none⟩) 0), (5, ptrAt (some ⟨g6, 0, none⟩) 0), (6, ptrAt (some ⟨g8, 0, none⟩) 0)]) (es' := [boxO 104 g3 [.int .i64 0, .int .i64 0, .int .i64 0, .int .i64 0], boxO 42 g6 [.int .i64 x5.X, .int .i64 x5.Y], boxO 104 g8 [.int .i64 x5.X, .int .i64 x5.Y, .int .i64 q1.DX, .int .i64 q1.DY]]) [1, 2, 3] ?_ ⟨rfl, rfl, rfl, rfl, trivial⟩ (by decide) rfl
  refine JE.code ?_
  refine JX.seq ?_
  refine JX.seq ?_
  refine JX.drawH [(0, .pure), (1, .read), (2, .pure), (3, .pure), (4, .pure), (5, .read), (6, .pure), (7, .pure), (8, .pure), (9, .read), (10, .pure), (11, .pure), (12, .pure)] [] [] [0, 1, 2] [] [boxO 104 g3 [.int .i64 0, .int .i64 0, .int .i64 0, .int .i64 0], boxO 42 g6 [.int .i64 x5.X, .int .i64 x5.Y], boxO 104 g8 [.int .i64 x5.X, .int .i64 x5.Y, .int .i64 q1.DX, .int .i64 q1.DY]] mixedP (by kernel_rfl) (by kernel_rfl) (by decide) rfl rfl ?_
  intro wrr10 Nr10 hFr10
  refine JH.pure rfl (yl_fieldAt (a := some _) Go.Proofs.Try.underlying42 rfl i2 i2n rfl rfl) rfl ?_
  refine JH.read rfl (yl_load1 Go.Proofs.Try.underlying2 rfl rfl (fun w hw => hFr10.box 1 rfl rfl hw) rfl) rfl ?_
  refine JH.pure rfl (yl_eql rfl rfl) rfl ?_
  refine JH.pure rfl (yl_move rfl) rfl ?_
  refine JH.cut (K := fun J => J [(0, ptrAt b_0 0), (4, ptrAt (some ⟨g3, 0, none⟩) 0), (5, ptrAt (some ⟨g6, 0, none⟩) 0), (6, ptrAt (some ⟨g8, 0, none⟩) 0), (27, .bool ((x5.X == 0) || (x5.X == (w64 (2 * q0.W)))))] []) 9 ?_ ?_
  · refine JH.nil ?_
    refine JE.weak (env' := [(0, ptrAt b_0 0), (4, ptrAt (some ⟨g3, 0, none⟩) 0), (5, ptrAt (some ⟨g6, 0, none⟩) 0), (6, ptrAt (some ⟨g8, 0, none⟩) 0), (27, .bool ((x5.X == 0) || (x5.X == (w64 (2 * q0.W)))))]) (es' := [boxO 104 g3 [.int .i64 0, .int .i64 0, .int .i64 0, .int .i64 0], boxO 42 g6 [.int .i64 x5.X, .int .i64 x5.Y], boxO 104 g8 [.int .i64 x5.X, .int .i64 x5.Y, .int .i64 q1.DX, .int .i64 q1.DY]]) [0, 1, 2] ?_ ⟨rfl, rfl, rfl, rfl, rfl, trivial⟩ (by decide) rfl
    refine JE.code ?_
    obtain ⟨j11, hj11, hresj11⟩ := bind_some hres
    refine JX.cut (K := fun J => J [(0, ptrAt b_0 0), (4, ptrAt (some ⟨g3, 0, none⟩) 0), (5, ptrAt (some ⟨g6, 0, none⟩) 0), (6, ptrAt (some ⟨g8, 0, none⟩) 0)] [boxO 104 g3 [.int .i64 0, .int .i64 0, .int .i64 0, .int .i64 0], boxO 42 g6 [.int .i64 x5.X, .int .i64 x5.Y], boxO 104 g8 [.int .i64 j11.At.X, .int .i64 j11.At.Y, .int .i64 j11.DX, .int .i64 j11.DY]]) ?_ ?_
    · have hres := hresj11
      refine JE.code ?_
      refine JX.seq ?_
      refine JX.seq ?_
      refine JX.drawH [(0, .pure), (1, .read), (2, .pure), (3, .pure), (4, .pure), (5, .read), (6, .pure), (7, .pure), (8, .pure), (9, .read), (10, .pure), (11, .pure), (12, .pure)] [] [] [0, 1, 2] [] [boxO 104 g3 [.int .i64 0, .int .i64 0, .int .i64 0, .int .i64 0], boxO 42 g6 [.int .i64 x5.X, .int .i64 x5.Y], boxO 104 g8 [.int .i64 j11.At.X, .int .i64 j11.At.Y, .int .i64 j11.DX, .int .i64 j11.DY]] mixedP (by kernel_rfl) (by kernel_rfl) (by decide) rfl rfl ?_
      intro wrr12 Nr12 hFr12
      refine JH.pure rfl (yl_fieldAt (a := some _) Go.Proofs.Try.underlying42 rfl i2 i2n rfl rfl) rfl ?_
      refine JH.read rfl (yl_load1 Go.Proofs.Try.underlying2 rfl rfl (fun w hw => hFr12.box 1 rfl rfl hw) rfl) rfl ?_
      refine JH.pure rfl (yl_eql rfl rfl) rfl ?_
      refine JH.pure rfl (yl_move rfl) rfl ?_
      refine JH.cut (K := fun J => J [(0, ptrAt b_0 0), (4, ptrAt (some ⟨g3, 0, none⟩) 0), (5, ptrAt (some ⟨g6, 0, none⟩) 0), (6, ptrAt (some ⟨g8, 0, none⟩) 0), (44, .bool ((x5.Y == 0) || (x5.Y == (w64 (2 * q0.H)))))] []) 9 ?_ ?_
      · refine JH.nil ?_
        refine JE.weak (env' := [(0, ptrAt b_0 0), (4, ptrAt (some ⟨g3, 0, none⟩) 0), (5, ptrAt (some ⟨g6, 0, none⟩) 0), (6, ptrAt (some ⟨g8, 0, none⟩) 0), (44, .bool ((x5.Y == 0) || (x5.Y == (w64 (2 * q0.H)))))]) (es' := [boxO 104 g3 [.int .i64 0, .int .i64 0, .int .i64 0, .int .i64 0], boxO 42 g6 [.int .i64 x5.X, .int .i64 x5.Y], boxO 104 g8 [.int .i64 j11.At.X, .int .i64 j11.At.Y, .int .i64 j11.DX, .int .i64 j11.DY]]) [0, 1, 2] ?_ ⟨rfl, rfl, rfl, rfl, rfl, trivial⟩ (by decide) rfl
        refine JE.code ?_
        obtain ⟨j13, hj13, hresj13⟩ := bind_some hres
        refine JX.cut (K := fun J => J [(0, ptrAt b_0 0), (4, ptrAt (some ⟨g3, 0, none⟩) 0), (5, ptrAt (some ⟨g6, 0, none⟩) 0), (6, ptrAt (some ⟨g8, 0, none⟩) 0)] [boxO 104 g3 [.int .i64 0, .int .i64 0, .int .i64 0, .int .i64 0], boxO 42 g6 [.int .i64 x5.X, .int .i64 x5.Y], boxO 104 g8 [.int .i64 j13.At.X, .int .i64 j13.At.Y, .int .i64 j13.DX, .int .i64 j13.DY]]) ?_ ?_
        · have hres := hresj13
          refine JE.code ?_
          refine JX.seq ?_
          refine JX.seq ?_
          refine JX.region ?_
          refine JL.val (yl_move rfl) rfl ?_
          refine JL.val (yl_loadn Go.Proofs.Try.underlying42 rfl i42 rfl (fun w hC => rd_box hC 1 rfl) rfl (i42s).symm i42p) rfl ?_
          obtain ⟨x14, hx14, hres⟩ := bind_some hres
          refine JL.eff (ef_call (vs := [ptrAt b_0 0, .agg #[.int .i64 x5.X, .int .i64 x5.Y]]) (T := T188 x14) Go.Proofs.Try.func188 rfl (by kernel_rfl) rfl (fun w hC => c188 (q1 := x5) (RdAt.of0 (rd_arg g_0 hC)) (rd_arg g_0_2 hC) rfl k_0_2 hx14)) rfl ?_
          rintro _ _ ⟨_, ⟨rfl, rfl⟩, rfl⟩
          refine JL.val (yl_not rfl) rfl ?_
          refine JL.nil ?_
          refine JE.weak (env' := [(0, ptrAt b_0 0), (4, ptrAt (some ⟨g3, 0, none⟩) 0), (5, ptrAt (some ⟨g6, 0, none⟩) 0), (6, ptrAt (some ⟨g8, 0, none⟩) 0), (52, .bool !x14)]) (es' := [boxO 104 g3 [.int .i64 0, .int .i64 0, .int .i64 0, .int .i64 0], boxO 42 g6 [.int .i64 x5.X, .int .i64 x5.Y], boxO 104 g8 [.int .i64 j13.At.X, .int .i64 j13.At.Y, .int .i64 j13.DX, .int .i64 j13.DY]]) [0, 1, 2] ?_ ⟨rfl, rfl, rfl, rfl, rfl, trivial⟩ (by decide) rfl
          refine JE.code ?_
          obtain ⟨j15, hj15, hresj15⟩ := bind_some hres
          refine JX.cut (K := fun J => J [(4, ptrAt (some ⟨g3, 0, none⟩) 0), (6, ptrAt (some ⟨g8, 0, none⟩) 0)] [boxO 104 g3 [.int .i64 0, .int .i64 0, .int .i64 0, .int .i64 0], boxO 104 g8 [.int .i64 j15.At.X, .int .i64 j15.At.Y, .int .i64 j15.DX, .int .i64 j15.DY]]) ?_ ?_
          · have hres := hresj15
            refine JE.code ?_
            refine JX.seq ?_
            refine JX.region ?_
            refine JL.val (yl_loadn Go.Proofs.Try.underlying104 rfl i104 rfl (fun w hC => rd_box hC 1 rfl) rfl (i104s).symm i104p) rfl ?_
            refine JL.eff (ef_store_box (i := 0) (v := .agg #[.int .i64 j15.At.X, .int .i64 j15.At.Y, .int .i64 j15.DX, .int .i64 j15.DY]) i104 rfl rfl rfl (i104s).symm (Nat.le_of_ble_eq_true rfl) (by simp [Value.cells, Value.oneCell'])) rfl ?_
            rintro _ _ rfl
            refine JL.nil ?_
            refine JE.weak (env' := [(4, ptrAt (some ⟨g3, 0, none⟩) 0)]) (es' := [boxO 104 g3 [.int .i64 j15.At.X, .int .i64 j15.At.Y, .int .i64 j15.DX, .int .i64 j15.DY]]) [0] ?_ ⟨rfl, trivial⟩ (by decide) rfl
            refine JE.code ?_
            refine JX.ret ?_
            obtain rfl := Option.some.inj hres
            refine JE.ret (rs := [.cell 4 104]) (vs := [.agg #[.int .i64 j15.At.X, .int .i64 j15.At.Y, .int .i64 j15.DX, .int .i64 j15.DY]]) rfl ⟨rv_box 0 rfl rfl Go.Proofs.Try.underlying104 rfl i104 (i104s).symm, trivial⟩ ?_
            exact fun w' hb hs => ⟨_, _, ⟨rfl, rfl⟩, rfl, hb, hs.sel [] _ (by decide) rfl⟩
          · intro K
            rcases cond_some hj15 with ⟨hb, hres⟩ | ⟨hb, hres⟩
            · refine JX.condT rfl hb ?_
              refine JX.seq ?_
              refine JX.drawH [(0, .pure), (1, .pure), (2, .pure), (3, .read), (4, .pure), (5, .read), (6, .must), (7, .pure), (8, .read)] [] [] [0, 1, 2] [] [boxO 104 g3 [.int .i64 0, .int .i64 0, .int .i64 0, .int .i64 0], boxO 42 g6 [.int .i64 x5.X, .int .i64 x5.Y], boxO 104 g8 [.int .i64 j13.At.X, .int .i64 j13.At.Y, .int .i64 j13.DX, .int .i64 j13.DY]] mixedP (by kernel_rfl) (by kernel_rfl) (by decide) rfl rfl ?_
              intro wrr16 Nr16 hFr16
              refine JH.pure rfl (yl_move rfl) rfl ?_
              refine JH.pure rfl (yl_nilCheckAt rfl (Rd.some g_0 (j := 0) rfl)) rfl ?_
              refine JH.pure rfl (yl_fieldAt Go.Proofs.Try.underlying26 rfl i24 i24n rfl (Rd.some g_0 (j := 0) rfl)) rfl ?_
              refine JH.read rfl (yl_load1 Go.Proofs.Try.underlying24 rfl rfl (fun w hw => hFr16.arg g_0 hw) rfl) rfl ?_
              refine JH.pure rfl (yl_move rfl) rfl ?_
              refine JH.read rfl (yl_loadn Go.Proofs.Try.underlying42 rfl i42 rfl (fun w hw => hFr16.box 1 rfl rfl hw) rfl (i42s).symm i42p) rfl ?_
              obtain ⟨x17, hx17, hres⟩ := bind_some hres
              refine JH.must rfl (ef_call (vs := [ptrAt b_0 0, .agg #[.int .i64 x5.X, .int .i64 x5.Y]]) (T := T141 x17) Go.Proofs.Try.func141 rfl (by kernel_rfl) rfl (fun w hC => c141 (q1 := x5) (RdAt.of0 (hFr16.arg g_0 hC.1)) (hFr16.arg g_0_2 hC.1) rfl k_0_2 hx17)) rfl rfl ?_
              rintro _ _ ⟨_, ⟨rfl, rfl⟩, rfl⟩
              obtain ⟨x18, hx18, hres⟩ := bind_some hres
              refine JH.pure rfl (yl_idxQ Go.Proofs.Try.underlying24 i2 i2s rfl rfl hx18 rfl (rd_arg g_0_2 hFr16.cl) rfl) rfl ?_
              refine JH.read rfl (yl_loadT0 Go.Proofs.Try.underlying2 rfl rfl hx18 (fun w hw => hFr16.arg g_0_2 hw) rfl) rfl ?_
              refine JH.nil ?_
              refine JE.weak (env' := [(4, ptrAt (some ⟨g3, 0, none⟩) 0), (6, ptrAt (some ⟨g8, 0, none⟩) 0), (61, .int .i64 x18)]) (es' := [boxO 104 g3 [.int .i64 0, .int .i64 0, .int .i64 0, .int .i64 0], boxO 104 g8 [.int .i64 j13.At.X, .int .i64 j13.At.Y, .int .i64 j13.DX, .int .i64 j13.DY]]) [0, 2] ?_ ⟨rfl, rfl, rfl, trivial⟩ (by decide) rfl
              refine JE.code ?_
              refine JX.block ?_
              refine JX.seq ?_
              refine JX.region ?_
              refine JL.val (yl_eql rfl rfl) rfl ?_
              refine JL.val (yl_assign rfl) rfl ?_
              refine JL.nil ?_
              refine JE.code ?_
              obtain ⟨j19, hj19, hresj19⟩ := bind_some hres
              refine JX.cut (K := fun J => J [(4, ptrAt (some ⟨g3, 0, none⟩) 0), (6, ptrAt (some ⟨g8, 0, none⟩) 0)] [boxO 104 g3 [.int .i64 0, .int .i64 0, .int .i64 0, .int .i64 0], boxO 104 g8 [.int .i64 j19.At.X, .int .i64 j19.At.Y, .int .i64 j19.DX, .int .i64 j19.DY]]) ?_ ?_
              · have hres := hresj19
                have hj := Option.some.inj hres
                exact JE.weak [0, 1] (K) ⟨(by subst hj; rfl), (by subst hj; rfl), trivial⟩ (by decide) (by subst hj; rfl)
              · intro K
                rcases cond_some hj19 with ⟨hb, hres⟩ | ⟨hb, hres⟩
                · refine JX.condT rfl hb ?_
                  refine JX.region ?_
                  refine JL.val (yl_fieldAt (a := some _) Go.Proofs.Try.underlying104 rfl i2 i2n rfl rfl) rfl ?_
                  refine JL.val (yl_load1 Go.Proofs.Try.underlying2 rfl rfl (fun w hC => rd_box hC 1 rfl) rfl) rfl ?_
                  refine JL.val (yl_neg rfl) rfl ?_
                  refine JL.val (yl_fieldAt (a := some _) Go.Proofs.Try.underlying104 rfl i2 i2n rfl rfl) rfl ?_
                  refine JL.eff (ef_store_box (i := 1) (v := .int .i64 (w64 (0 - j13.DX))) i2 rfl rfl rfl (i2s).symm (Nat.le_of_ble_eq_true rfl) (by simp [Value.cells, Value.oneCell'])) rfl ?_
                  rintro _ _ rfl
                  refine JL.nil ?_
                  refine JE.weak (env' := [(4, ptrAt (some ⟨g3, 0, none⟩) 0), (6, ptrAt (some ⟨g8, 0, none⟩) 0)]) (es' := [boxO 104 g3 [.int .i64 0, .int .i64 0, .int .i64 0, .int .i64 0], boxO 104 g8 [.int .i64 j13.At.X, .int .i64 j13.At.Y, .int .i64 (w64 (0 - j13.DX)), .int .i64 j13.DY]]) [0, 1] ?_ ⟨rfl, rfl, trivial⟩ (by decide) rfl
                  have hj := Option.some.inj hres
                  exact JE.weak [0, 1] (K) ⟨(by subst hj; rfl), (by subst hj; rfl), trivial⟩ (by decide) (by subst hj; rfl)
                · refine JX.condF rfl hb ?_
                  refine JX.seq ?_
                  refine JX.region ?_
                  refine JL.val (yl_eql rfl rfl) rfl ?_
                  refine JL.val (yl_assign rfl) rfl ?_
                  refine JL.nil ?_
                  refine JE.code ?_
                  obtain ⟨j20, hj20, hresj20⟩ := bind_some hres
                  refine JX.cut (K := fun J => J [(4, ptrAt (some ⟨g3, 0, none⟩) 0), (6, ptrAt (some ⟨g8, 0, none⟩) 0)] [boxO 104 g3 [.int .i64 0, .int .i64 0, .int .i64 0, .int .i64 0], boxO 104 g8 [.int .i64 j20.At.X, .int .i64 j20.At.Y, .int .i64 j20.DX, .int .i64 j20.DY]]) ?_ ?_
                  · have hres := hresj20
                    have hj := Option.some.inj hres
                    exact JE.weak [0, 1] (K) ⟨(by subst hj; rfl), (by subst hj; rfl), trivial⟩ (by decide) (by subst hj; rfl)
                  · intro K
                    rcases cond_some hj20 with ⟨hb, hres⟩ | ⟨hb, hres⟩
                    · refine JX.condT rfl hb ?_
                      refine JX.region ?_
                      refine JL.val (yl_fieldAt (a := some _) Go.Proofs.Try.underlying104 rfl i2 i2n rfl rfl) rfl ?_
                      refine JL.val (yl_load1 Go.Proofs.Try.underlying2 rfl rfl (fun w hC => rd_box hC 1 rfl) rfl) rfl ?_
                      refine JL.val (yl_neg rfl) rfl ?_
                      refine JL.val (yl_fieldAt (a := some _) Go.Proofs.Try.underlying104 rfl i2 i2n rfl rfl) rfl ?_
                      refine JL.eff (ef_store_box (i := 1) (v := .int .i64 (w64 (0 - j13.DY))) i2 rfl rfl rfl (i2s).symm (Nat.le_of_ble_eq_true rfl) (by simp [Value.cells, Value.oneCell'])) rfl ?_
                      rintro _ _ rfl
                      refine JL.nil ?_
                      refine JE.weak (env' := [(4, ptrAt (some ⟨g3, 0, none⟩) 0), (6, ptrAt (some ⟨g8, 0, none⟩) 0)]) (es' := [boxO 104 g3 [.int .i64 0, .int .i64 0, .int .i64 0, .int .i64 0], boxO 104 g8 [.int .i64 j13.At.X, .int .i64 j13.At.Y, .int .i64 j13.DX, .int .i64 (w64 (0 - j13.DY))]]) [0, 1] ?_ ⟨rfl, rfl, trivial⟩ (by decide) rfl
                      have hj := Option.some.inj hres
                      exact JE.weak [0, 1] (K) ⟨(by subst hj; rfl), (by subst hj; rfl), trivial⟩ (by decide) (by subst hj; rfl)
                    · refine JX.condF rfl hb ?_
                      refine JX.skip ?_
                      have hj := Option.some.inj hres
                      exact JE.weak [0, 1] (K) ⟨(by subst hj; rfl), (by subst hj; rfl), trivial⟩ (by decide) (by subst hj; rfl)
            · refine JX.condF rfl hb ?_
              refine JX.skip ?_
              have hj := Option.some.inj hres
              exact JE.weak [0, 2] (K) ⟨(by subst hj; rfl), (by subst hj; rfl), trivial⟩ (by decide) (by subst hj; rfl)
        · intro K
          rcases cond_some hj13 with ⟨hb, hres⟩ | ⟨hb, hres⟩
          · refine JX.condT rfl hb ?_
            refine JX.region ?_
            refine JL.val (yl_fieldAt (a := some _) Go.Proofs.Try.underlying104 rfl i2 i2n rfl rfl) rfl ?_
            refine JL.val (yl_load1 Go.Proofs.Try.underlying2 rfl rfl (fun w hC => rd_box hC 2 rfl) rfl) rfl ?_
            refine JL.val (yl_neg rfl) rfl ?_
            refine JL.val (yl_fieldAt (a := some _) Go.Proofs.Try.underlying104 rfl i2 i2n rfl rfl) rfl ?_
            refine JL.eff (ef_store_box (i := 2) (v := .int .i64 (w64 (0 - j11.DY))) i2 rfl rfl rfl (i2s).symm (Nat.le_of_ble_eq_true rfl) (by simp [Value.cells, Value.oneCell'])) rfl ?_
            rintro _ _ rfl
            refine JL.nil ?_
            refine JE.weak (env' := [(0, ptrAt b_0 0), (4, ptrAt (some ⟨g3, 0, none⟩) 0), (5, ptrAt (some ⟨g6, 0, none⟩) 0), (6, ptrAt (some ⟨g8, 0, none⟩) 0)]) (es' := [boxO 104 g3 [.int .i64 0, .int .i64 0, .int .i64 0, .int .i64 0], boxO 42 g6 [.int .i64 x5.X, .int .i64 x5.Y], boxO 104 g8 [.int .i64 j11.At.X, .int .i64 j11.At.Y, .int .i64 j11.DX, .int .i64 (w64 (0 - j11.DY))]]) [0, 1, 2] ?_ ⟨rfl, rfl, rfl, rfl, trivial⟩ (by decide) rfl
            have hj := Option.some.inj hres
            exact JE.weak [0, 1, 2] (K) ⟨(by subst hj; rfl), (by subst hj; rfl), (by subst hj; rfl), (by subst hj; rfl), trivial⟩ (by decide) (by subst hj; rfl)
          · refine JX.condF rfl hb ?_
            refine JX.skip ?_
            have hj := Option.some.inj hres
            exact JE.weak [0, 1, 2] (K) ⟨(by subst hj; rfl), (by subst hj; rfl), (by subst hj; rfl), (by subst hj; rfl), trivial⟩ (by decide) (by subst hj; rfl)
      · intro K
        rcases Bool.eq_false_or_eq_true (x5.Y == 0) with hb | hb
        · refine JH.set (d := 35) (v := .bool true) (congrArg (fun b => some (Value.bool b)) hb) ?_
          refine JH.gskip rfl rfl rfl rfl rfl rfl ?_
          refine JH.gskip rfl rfl rfl rfl rfl rfl ?_
          refine JH.gskip rfl rfl rfl rfl rfl rfl ?_
          refine JH.gskip rfl rfl rfl rfl rfl rfl ?_
          refine JH.gskip rfl rfl rfl rfl rfl rfl ?_
          refine JH.gskip rfl rfl rfl rfl rfl rfl ?_
          refine JH.gskip rfl rfl rfl rfl rfl rfl ?_
          refine JH.gskip rfl rfl rfl rfl rfl rfl ?_
          refine JH.pure rfl (yl_pick_true rfl rfl) rfl ?_
          exact JH.weak [] K ⟨rfl, rfl, rfl, rfl, (by rw [hb]; rfl), trivial⟩ (by decide) rfl
        · refine JH.set (d := 35) (v := .bool false) (congrArg (fun b => some (Value.bool b)) hb) ?_
          refine JH.gpure rfl rfl rfl (yl_fieldAt (a := some _) Go.Proofs.Try.underlying42 rfl i2 i2n rfl rfl) rfl ?_
          refine JH.gread rfl rfl rfl (yl_load1 Go.Proofs.Try.underlying2 rfl rfl (fun w hw => hFr12.box 1 rfl rfl hw) rfl) rfl ?_
          refine JH.gpure rfl rfl rfl (yl_move rfl) rfl ?_
          refine JH.gpure rfl rfl rfl (yl_nilCheckAt rfl (Rd.some g_0 (j := 0) rfl)) rfl ?_
          refine JH.gpure rfl rfl rfl (yl_fieldAt Go.Proofs.Try.underlying26 rfl i2 i2n rfl (Rd.some g_0 (j := 0) rfl)) rfl ?_
          refine JH.gread rfl rfl rfl (yl_load1 Go.Proofs.Try.underlying2 rfl rfl (fun w hw => hFr12.arg g_0 hw) rfl) rfl ?_
          refine JH.gpure rfl rfl rfl (yl_mul rfl rfl) rfl ?_
          refine JH.gpure rfl rfl rfl (yl_eql rfl rfl) rfl ?_
          refine JH.pure rfl (yl_pick_false rfl rfl) rfl ?_
          exact JH.weak [] K ⟨rfl, rfl, rfl, rfl, (by rw [hb]; rfl), trivial⟩ (by decide) rfl
    · intro K
      rcases cond_some hj11 with ⟨hb, hres⟩ | ⟨hb, hres⟩
      · refine JX.condT rfl hb ?_
        refine JX.region ?_
        refine JL.val (yl_fieldAt (a := some _) Go.Proofs.Try.underlying104 rfl i2 i2n rfl rfl) rfl ?_
        refine JL.val (yl_load1 Go.Proofs.Try.underlying2 rfl rfl (fun w hC => rd_box hC 2 rfl) rfl) rfl ?_
        refine JL.val (yl_neg rfl) rfl ?_
        refine JL.val (yl_fieldAt (a := some _) Go.Proofs.Try.underlying104 rfl i2 i2n rfl rfl) rfl ?_
        refine JL.eff (ef_store_box (i := 2) (v := .int .i64 (w64 (0 - q1.DX))) i2 rfl rfl rfl (i2s).symm (Nat.le_of_ble_eq_true rfl) (by simp [Value.cells, Value.oneCell'])) rfl ?_
        rintro _ _ rfl
        refine JL.nil ?_
        refine JE.weak (env' := [(0, ptrAt b_0 0), (4, ptrAt (some ⟨g3, 0, none⟩) 0), (5, ptrAt (some ⟨g6, 0, none⟩) 0), (6, ptrAt (some ⟨g8, 0, none⟩) 0)]) (es' := [boxO 104 g3 [.int .i64 0, .int .i64 0, .int .i64 0, .int .i64 0], boxO 42 g6 [.int .i64 x5.X, .int .i64 x5.Y], boxO 104 g8 [.int .i64 x5.X, .int .i64 x5.Y, .int .i64 (w64 (0 - q1.DX)), .int .i64 q1.DY]]) [0, 1, 2] ?_ ⟨rfl, rfl, rfl, rfl, trivial⟩ (by decide) rfl
        have hj := Option.some.inj hres
        exact JE.weak [0, 1, 2] (K) ⟨(by subst hj; rfl), (by subst hj; rfl), (by subst hj; rfl), (by subst hj; rfl), trivial⟩ (by decide) (by subst hj; rfl)
      · refine JX.condF rfl hb ?_
        refine JX.skip ?_
        have hj := Option.some.inj hres
        exact JE.weak [0, 1, 2] (K) ⟨(by subst hj; rfl), (by subst hj; rfl), (by subst hj; rfl), (by subst hj; rfl), trivial⟩ (by decide) (by subst hj; rfl)
  · intro K
    rcases Bool.eq_false_or_eq_true (x5.X == 0) with hb | hb
    · refine JH.set (d := 18) (v := .bool true) (congrArg (fun b => some (Value.bool b)) hb) ?_
      refine JH.gskip rfl rfl rfl rfl rfl rfl ?_
      refine JH.gskip rfl rfl rfl rfl rfl rfl ?_
      refine JH.gskip rfl rfl rfl rfl rfl rfl ?_
      refine JH.gskip rfl rfl rfl rfl rfl rfl ?_
      refine JH.gskip rfl rfl rfl rfl rfl rfl ?_
      refine JH.gskip rfl rfl rfl rfl rfl rfl ?_
      refine JH.gskip rfl rfl rfl rfl rfl rfl ?_
      refine JH.gskip rfl rfl rfl rfl rfl rfl ?_
      refine JH.pure rfl (yl_pick_true rfl rfl) rfl ?_
      exact JH.weak [] K ⟨rfl, rfl, rfl, rfl, (by rw [hb]; rfl), trivial⟩ (by decide) rfl
    · refine JH.set (d := 18) (v := .bool false) (congrArg (fun b => some (Value.bool b)) hb) ?_
      refine JH.gpure rfl rfl rfl (yl_fieldAt (a := some _) Go.Proofs.Try.underlying42 rfl i2 i2n rfl rfl) rfl ?_
      refine JH.gread rfl rfl rfl (yl_load1 Go.Proofs.Try.underlying2 rfl rfl (fun w hw => hFr10.box 1 rfl rfl hw) rfl) rfl ?_
      refine JH.gpure rfl rfl rfl (yl_move rfl) rfl ?_
      refine JH.gpure rfl rfl rfl (yl_nilCheckAt rfl (Rd.some g_0 (j := 0) rfl)) rfl ?_
      refine JH.gpure rfl rfl rfl (yl_fieldAt Go.Proofs.Try.underlying26 rfl i2 i2n rfl (Rd.some g_0 (j := 0) rfl)) rfl ?_
      refine JH.gread rfl rfl rfl (yl_load1 Go.Proofs.Try.underlying2 rfl rfl (fun w hw => hFr10.arg g_0 hw) rfl) rfl ?_
      refine JH.gpure rfl rfl rfl (yl_mul rfl rfl) rfl ?_
      refine JH.gpure rfl rfl rfl (yl_eql rfl rfl) rfl ?_
      refine JH.pure rfl (yl_pick_false rfl rfl) rfl ?_
      exact JH.weak [] K ⟨rfl, rfl, rfl, rfl, (by rw [hb]; rfl), trivial⟩ (by decide) rfl

/- spec.l03Left -/
def sh217 (q0 : SWalker) : Option (SPoint × Int) := Option.bind (sh216 q0) fun x5 => bif q0.DX == 1 then (some (q0.At, x5.Y)) else (some (x5, q0.At.Y))
def T217 (r : SPoint × Int) (v : Value) (rs : List Own) : Prop := v = rets [.agg #[.int .i64 r.1.X, .int .i64 r.1.Y], .int .i64 r.2] ∧ rs = []
set_option maxRecDepth 100000 in
theorem c217 {w : World} {q0 : SWalker} {r : SPoint × Int} (hres : sh217 q0 = some r) : Calls Go.Proofs.Try.prog 217 [.agg #[.int .i64 q0.At.X, .int .i64 q0.At.Y, .int .i64 q0.DX, .int .i64 q0.DY]].toArray w (Ret w (T217 r)) := by
  unfold sh217 at hres
  refine calls_of (n := 18) (M := []) (es := []) Go.Proofs.Try.func217 rfl rfl rfl (Sep.nil _ _ _) ?_
  refine JX.seq ?_
  refine JX.region ?_
  refine JL.eff (ef_box rfl rfl) rfl ?_
  rintro _ _ ⟨g1, rfl, rfl⟩
  refine JL.eff (ef_alloc i42 i42z rfl) rfl ?_
  rintro _ _ ⟨g3, rfl, rfl⟩
  refine JL.val (yl_assign rfl) rfl ?_
  refine JL.nil ?_
  refine JE.code ?_
  refine JX.seq ?_
  refine JX.region ?_
  refine JL.val (yl_loadn Go.Proofs.Try.underlying104 rfl i104 rfl (fun w hC => rd_box hC 0 rfl) rfl (i104s).symm i104p) rfl ?_
  obtain ⟨x5, hx5, hres⟩ := bind_some hres
  refine JL.eff (ef_call (vs := [.agg #[.int .i64 q0.At.X, .int .i64 q0.At.Y, .int .i64 q0.DX, .int .i64 q0.DY]]) (T := T216 x5) Go.Proofs.Try.func216 rfl (by kernel_rfl) rfl (fun w hC => c216 (q0 := q0) hx5)) rfl ?_
  rintro _ _ ⟨_, ⟨rfl, rfl⟩, rfl⟩
  refine JL.eff (ef_alloc i42 i42z rfl) rfl ?_
  rintro _ _ ⟨g6, rfl, rfl⟩
  refine JL.eff (ef_store_box (i := 2) (v := .agg #[.int .i64 x5.X, .int .i64 x5.Y]) i42 rfl rfl rfl (i42s).symm (Nat.le_of_ble_eq_true rfl) (by simp [Value.cells, Value.oneCell'])) rfl ?_
  rintro _ _ rfl
  refine JL.nil ?_
  refine JE.weak (env' := [(1, ptrAt (some ⟨g1, 0, none⟩) 0), (2, ptrAt (some ⟨g3, 0, none⟩) 0), (4, ptrAt (some ⟨g6, 0, none⟩) 0)]) (es' := [boxO 104 g1 [.int .i64 q0.At.X, .int .i64 q0.At.Y, .int .i64 q0.DX, .int .i64 q0.DY], boxO 42 g3 [.int .i64 0, .int .i64 0], boxO 42 g6 [.int .i64 x5.X, .int .i64 x5.Y]]) [0, 1, 2] ?_ ⟨rfl, rfl, rfl, trivial⟩ (by decide) rfl
  refine JE.code ?_
  refine JX.seq ?_
  refine JX.seq ?_
  refine JX.region ?_
  refine JL.val (yl_fieldAt (a := some _) Go.Proofs.Try.underlying104 rfl i2 i2n rfl rfl) rfl ?_
  refine JL.val (yl_load1 Go.Proofs.Try.underlying2 rfl rfl (fun w hC => rd_box hC 0 rfl) rfl) rfl ?_
  refine JL.val (yl_eql rfl rfl) rfl ?_
  refine JL.nil ?_
  refine JE.code ?_
  rcases cond_some hres with ⟨hb, hres⟩ | ⟨hb, hres⟩
  · refine JX.condT rfl hb ?_
    refine JX.seq ?_
    refine JX.drawH [(0, .pure), (1, .read), (2, .pure), (3, .read), (4, .must), (5, .pure)] [4] [1] [0, 2] [boxO 42 g3 [.int .i64 0, .int .i64 0]] [boxO 104 g1 [.int .i64 q0.At.X, .int .i64 q0.At.Y, .int .i64 q0.DX, .int .i64 q0.DY], boxO 42 g6 [.int .i64 x5.X, .int .i64 x5.Y]] mixedP (by kernel_rfl) (by kernel_rfl) (by decide) rfl rfl ?_
    intro wrr8 Nr8 hFr8
    refine JH.pure rfl (yl_fieldAt (a := some _) Go.Proofs.Try.underlying104 rfl i42 i42n rfl rfl) rfl ?_
    refine JH.read rfl (yl_loadn Go.Proofs.Try.underlying42 rfl i42 rfl (fun w hw => hFr8.box 0 rfl rfl hw) rfl (i42s).symm i42p) rfl ?_
    refine JH.pure rfl (yl_fieldAt (a := some _) Go.Proofs.Try.underlying42 rfl i2 i2n rfl rfl) rfl ?_
    refine JH.read rfl (yl_load1 Go.Proofs.Try.underlying2 rfl rfl (fun w hw => hFr8.box 2 rfl rfl hw) rfl) rfl ?_
    refine JH.must rfl (ef_store_box (i := 0) (v := .agg #[.int .i64 q0.At.X, .int .i64 q0.At.Y]) i42 rfl rfl rfl (i42s).symm (Nat.le_of_ble_eq_true rfl) (by simp [Value.cells, Value.oneCell'])) rfl rfl ?_
    rintro _ _ rfl
    refine JH.pure rfl (yl_assign rfl) rfl ?_
    refine JH.nil ?_
    refine JE.weak (env' := [(2, ptrAt (some ⟨g3, 0, none⟩) 0), (3, .int .i64 x5.Y)]) (es' := [boxO 42 g3 [.int .i64 q0.At.X, .int .i64 q0.At.Y]]) [2] ?_ ⟨rfl, rfl, trivial⟩ (by decide) rfl
    refine JE.code ?_
    refine JX.ret ?_
    obtain rfl := Option.some.inj hres
    refine JE.ret (rs := [.cell 2 42, .tmp 3]) (vs := [.agg #[.int .i64 q0.At.X, .int .i64 q0.At.Y], .int .i64 x5.Y]) rfl ⟨rv_box 0 rfl rfl Go.Proofs.Try.underlying42 rfl i42 (i42s).symm, rfl, trivial⟩ ?_
    exact fun w' hb hs => ⟨_, _, ⟨rfl, rfl⟩, rfl, hb, hs.sel [] _ (by decide) rfl⟩
  · refine JX.condF rfl hb ?_
    refine JX.skip ?_
    refine JE.code ?_
    refine JX.seq ?_
    refine JX.drawH [(0, .read), (1, .pure), (2, .pure), (3, .read), (4, .must), (5, .pure)] [4] [1] [0, 2] [boxO 42 g3 [.int .i64 0, .int .i64 0]] [boxO 104 g1 [.int .i64 q0.At.X, .int .i64 q0.At.Y, .int .i64 q0.DX, .int .i64 q0.DY], boxO 42 g6 [.int .i64 x5.X, .int .i64 x5.Y]] mixedP (by kernel_rfl) (by kernel_rfl) (by decide) rfl rfl ?_
    intro wrr9 Nr9 hFr9
    refine JH.read rfl (yl_loadn Go.Proofs.Try.underlying42 rfl i42 rfl (fun w hw => hFr9.box 2 rfl rfl hw) rfl (i42s).symm i42p) rfl ?_
    refine JH.pure rfl (yl_fieldAt (a := some _) Go.Proofs.Try.underlying104 rfl i42 i42n rfl rfl) rfl ?_
    refine JH.pure rfl (yl_fieldAt (a := some _) Go.Proofs.Try.underlying42 rfl i2 i2n rfl rfl) rfl ?_
    refine JH.read rfl (yl_load1 Go.Proofs.Try.underlying2 rfl rfl (fun w hw => hFr9.box 0 rfl rfl hw) rfl) rfl ?_
    refine JH.must rfl (ef_store_box (i := 0) (v := .agg #[.int .i64 x5.X, .int .i64 x5.Y]) i42 rfl rfl rfl (i42s).symm (Nat.le_of_ble_eq_true rfl) (by simp [Value.cells, Value.oneCell'])) rfl rfl ?_
    rintro _ _ rfl
    refine JH.pure rfl (yl_assign rfl) rfl ?_
    refine JH.nil ?_
    refine JE.weak (env' := [(2, ptrAt (some ⟨g3, 0, none⟩) 0), (3, .int .i64 q0.At.Y)]) (es' := [boxO 42 g3 [.int .i64 x5.X, .int .i64 x5.Y]]) [2] ?_ ⟨rfl, rfl, trivial⟩ (by decide) rfl
    refine JE.code ?_
    refine JX.ret ?_
    obtain rfl := Option.some.inj hres
    refine JE.ret (rs := [.cell 2 42, .tmp 3]) (vs := [.agg #[.int .i64 x5.X, .int .i64 x5.Y], .int .i64 q0.At.Y]) rfl ⟨rv_box 0 rfl rfl Go.Proofs.Try.underlying42 rfl i42 (i42s).symm, rfl, trivial⟩ ?_
    exact fun w' hb hs => ⟨_, _, ⟨rfl, rfl⟩, rfl, hb, hs.sel [] _ (by decide) rfl⟩

/- spec.l03Segment -/
def sh214 (q0 : SPanel) (q1 : SWalker) : Option (Int) := Option.bind (sh217 q1) fun x3 => Option.bind (bif decide (x3.1.Y < x3.2) then (some (w64 ((w64 ((w64 ((w64 ((w64 (x3.1.X * 2)) * q0.H)) + x3.1.Y)) - 1)) + 1))) else (some (w64 ((w64 ((w64 ((w64 (x3.1.X * 2)) * q0.H)) + x3.1.Y)) - 1)))) fun j7 => (some j7)
def T214 (r : Int) (v : Value) (rs : List Own) : Prop := v = rets [.int .i64 r] ∧ rs = []
set_option maxRecDepth 100000 in
theorem c214 {w : World} {q0 : SPanel} {a_0 : Option Addr} {n_0 : Nat} {a_0_2 : Option Addr} {n_0_2 c_0_2 : Nat} (g_0 : RdAt w a_0 n_0 [.int .i64 q0.W, .int .i64 q0.H, .slice a_0_2 n_0_2 c_0_2]) (g_0_2 : Rd w a_0_2 (eI64.fl q0.Breaks)) (l_0_2 : q0.Breaks.length = n_0_2) (k_0_2 : n_0_2 ≤ c_0_2) {q1 : SWalker} {r : Int} (hres : sh214 q0 q1 = some r) : Calls Go.Proofs.Try.prog 214 [ptrAt a_0 n_0, .agg #[.int .i64 q1.At.X, .int .i64 q1.At.Y, .int .i64 q1.DX, .int .i64 q1.DY]].toArray w (Ret w (T214 r)) := by
  subst l_0_2
  obtain ⟨b_0, e_0, g_0⟩ := g_0.norm0
  rw [e_0]
  unfold sh214 at hres
  refine calls_of (n := 32) (M := []) (es := []) Go.Proofs.Try.func214 rfl rfl rfl (Sep.nil _ _ _) ?_
  refine JX.seq ?_
  refine JX.region ?_
  refine JL.eff (ef_box rfl rfl) rfl ?_
  rintro _ _ ⟨g1, rfl, rfl⟩
  refine JL.val (yl_assign rfl) rfl ?_
  refine JL.nil ?_
  refine JE.code ?_
  refine JX.seq ?_
  refine JX.region ?_
  refine JL.val (yl_loadn Go.Proofs.Try.underlying104 rfl i104 rfl (fun w hC => rd_box hC 0 rfl) rfl (i104s).symm i104p) rfl ?_
  obtain ⟨x3, hx3, hres⟩ := bind_some hres
  refine JL.eff (ef_call (vs := [.agg #[.int .i64 q1.At.X, .int .i64 q1.At.Y, .int .i64 q1.DX, .int .i64 q1.DY]]) (T := T217 x3) Go.Proofs.Try.func217 rfl (by kernel_rfl) rfl (fun w hC => c217 (q0 := q1) hx3)) rfl ?_
  rintro _ _ ⟨_, ⟨rfl, rfl⟩, rfl⟩
  refine JL.val (yl_move rfl) rfl ?_
  refine JL.val (yl_extract rfl rfl) rfl ?_
  refine JL.val (yl_extract rfl rfl) rfl ?_
  refine JL.eff (ef_alloc i42 i42z rfl) rfl ?_
  rintro _ _ ⟨g4, rfl, rfl⟩
  refine JL.eff (ef_store_box (i := 1) (v := .agg #[.int .i64 x3.1.X, .int .i64 x3.1.Y]) i42 rfl rfl rfl (i42s).symm (Nat.le_of_ble_eq_true rfl) (by simp [Value.cells, Value.oneCell'])) rfl ?_
  rintro _ _ rfl
  refine JL.val (yl_assign rfl) rfl ?_
  refine JL.nil ?_
  refine JE.weak (env' := [(0, ptrAt b_0 0), (5, ptrAt (some ⟨g4, 0, none⟩) 0), (6, .int .i64 x3.2)]) (es' := [boxO 42 g4 [.int .i64 x3.1.X, .int .i64 x3.1.Y]]) [1] ?_ ⟨rfl, rfl, rfl, trivial⟩ (by decide) rfl
  refine JE.code ?_
  refine JX.seq ?_
  refine JX.drawH [(0, .pure), (1, .read), (2, .pure), (3, .pure), (4, .pure), (5, .pure), (6, .read), (7, .pure), (8, .pure), (9, .read), (10, .pure), (11, .pure), (12, .pure)] [] [] [0] [] [boxO 42 g4 [.int .i64 x3.1.X, .int .i64 x3.1.Y]] mixedP (by kernel_rfl) (by kernel_rfl) (by decide) rfl rfl ?_
  intro wrr6 Nr6 hFr6
  refine JH.pure rfl (yl_fieldAt (a := some _) Go.Proofs.Try.underlying42 rfl i2 i2n rfl rfl) rfl ?_
  refine JH.read rfl (yl_load1 Go.Proofs.Try.underlying2 rfl rfl (fun w hw => hFr6.box 0 rfl rfl hw) rfl) rfl ?_
  refine JH.pure rfl (yl_mul rfl rfl) rfl ?_
  refine JH.pure rfl (yl_move rfl) rfl ?_
  refine JH.pure rfl (yl_nilCheckAt rfl (Rd.some g_0 (j := 0) rfl)) rfl ?_
  refine JH.pure rfl (yl_fieldAt Go.Proofs.Try.underlying26 rfl i2 i2n rfl (Rd.some g_0 (j := 0) rfl)) rfl ?_
  refine JH.read rfl (yl_load1 Go.Proofs.Try.underlying2 rfl rfl (fun w hw => hFr6.arg g_0 hw) rfl) rfl ?_
  refine JH.pure rfl (yl_mul rfl rfl) rfl ?_
  refine JH.pure rfl (yl_fieldAt (a := some _) Go.Proofs.Try.underlying42 rfl i2 i2n rfl rfl) rfl ?_
  refine JH.read rfl (yl_load1 Go.Proofs.Try.underlying2 rfl rfl (fun w hw => hFr6.box 0 rfl rfl hw) rfl) rfl ?_
  refine JH.pure rfl (yl_add rfl rfl) rfl ?_
  refine JH.pure rfl (yl_sub rfl rfl) rfl ?_
  refine JH.pure rfl (yl_assign rfl) rfl ?_
  refine JH.nil ?_
  refine JE.weak (env' := [(5, ptrAt (some ⟨g4, 0, none⟩) 0), (6, .int .i64 x3.2), (7, .int .i64 (w64 ((w64 ((w64 ((w64 (x3.1.X * 2)) * q0.H)) + x3.1.Y)) - 1)))]) (es' := [boxO 42 g4 [.int .i64 x3.1.X, .int .i64 x3.1.Y]]) [0] ?_ ⟨rfl, rfl, rfl, trivial⟩ (by decide) rfl
  refine JE.code ?_
  refine JX.seq ?_
  refine JX.seq ?_
  refine JX.region ?_
  refine JL.val (yl_move rfl) rfl ?_
  refine JL.val (yl_fieldAt (a := some _) Go.Proofs.Try.underlying42 rfl i2 i2n rfl rfl) rfl ?_
  refine JL.val (yl_load1 Go.Proofs.Try.underlying2 rfl rfl (fun w hC => rd_box hC 0 rfl) rfl) rfl ?_
  refine JL.val (yl_gtr rfl rfl) rfl ?_
  refine JL.nil ?_
  refine JE.weak (env' := [(7, .int .i64 (w64 ((w64 ((w64 ((w64 (x3.1.X * 2)) * q0.H)) + x3.1.Y)) - 1))), (28, .bool (decide (x3.1.Y < x3.2)))]) (es' := []) [] ?_ ⟨rfl, rfl, trivial⟩ (by decide) rfl
  refine JE.code ?_
  obtain ⟨j7, hj7, hresj7⟩ := bind_some hres
  refine JX.cut (K := fun J => J [(7, .int .i64 j7)] []) ?_ ?_
  · have hres := hresj7
    refine JE.code ?_
    refine JX.seq ?_
    refine JX.region ?_
    refine JL.val (yl_move rfl) rfl ?_
    refine JL.val (yl_assign rfl) rfl ?_
    refine JL.nil ?_
    refine JE.code ?_
    refine JX.ret ?_
    obtain rfl := Option.some.inj hres
    refine JE.ret (rs := [.tmp 4]) (vs := [.int .i64 j7]) rfl ⟨rfl, trivial⟩ ?_
    exact fun w' hb hs => ⟨_, _, ⟨rfl, rfl⟩, rfl, hb, hs.sel [] _ (by decide) rfl⟩
  · intro K
    rcases cond_some hj7 with ⟨hb, hres⟩ | ⟨hb, hres⟩
    · refine JX.condT rfl hb ?_
      refine JX.region ?_
      refine JL.val (yl_move rfl) rfl ?_
      refine JL.val (yl_add rfl rfl) rfl ?_
      refine JL.val (yl_assign rfl) rfl ?_
      refine JL.nil ?_
      have hj := Option.some.inj hres
      exact JE.weak [] (K) ⟨(by subst hj; rfl), trivial⟩ (by decide) (by subst hj; rfl)
    · refine JX.condF rfl hb ?_
      refine JX.skip ?_
      have hj := Option.some.inj hres
      exact JE.weak [] (K) ⟨(by subst hj; rfl), trivial⟩ (by decide) (by subst hj; rfl)

end Go.Sh
