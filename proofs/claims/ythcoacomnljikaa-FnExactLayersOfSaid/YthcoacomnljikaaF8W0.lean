/- Walks through functions that the law reaches, printed by program. -/
import Derived.Test.YthcoacomnljikaaF8T
set_option linter.unusedVariables false
set_option linter.unusedSimpArgs false
namespace Go.Sh
open Go Go.RowKit
/- laws.szToolMoveS -/
def sh38 (q0 : List SToolMove) (q1 : Int) : Option (Int) := bif decide ((w64 (q1 - (q0.length : Int))) < 0) then (some (-1)) else (some (w64 (q1 - (q0.length : Int))))
def T38 (r : Int) (v : Value) (rs : List Own) : Prop := v = rets [.int .i64 r] ∧ rs = []
set_option maxRecDepth 100000 in
theorem c38 {w : World} {q0 : List SToolMove} {a_0 : Option Addr} {n_0 c_0 : Nat} (g_0 : Rd w a_0 (eSToolMove.fl q0)) (l_0 : q0.length = n_0) (k_0 : n_0 ≤ c_0) {q1 : Int} {r : Int} (hres : sh38 q0 q1 = some r) : Calls Go.Proofs.Try.prog 38 [.slice a_0 n_0 c_0, .int .i64 q1].toArray w (Ret w (T38 r)) := by
  subst l_0
  unfold sh38 at hres
  refine calls_of (n := 12) (M := []) (es := []) Go.Proofs.Try.func38 rfl rfl rfl (Sep.nil _ _ _) ?_
  refine JX.seq ?_
  refine JX.region ?_
  refine JL.val (yl_assign rfl) rfl ?_
  refine JL.nil ?_
  refine JE.code ?_
  refine JX.seq ?_
  refine JX.region ?_
  refine JL.val (yl_move rfl) rfl ?_
  refine JL.val (yl_move rfl) rfl ?_
  refine JL.val (yl_len_slice Go.Proofs.Try.underlying52 rfl) rfl ?_
  refine JL.val (yl_sub rfl rfl) rfl ?_
  refine JL.val (yl_assign rfl) rfl ?_
  refine JL.nil ?_
  refine JE.weak (env' := [(1, .int .i64 (w64 (q1 - (q0.length : Int))))]) (es' := []) [] ?_ ⟨rfl, trivial⟩ (by decide) rfl
  refine JE.code ?_
  refine JX.seq ?_
  refine JX.seq ?_
  refine JX.region ?_
  refine JL.val (yl_move rfl) rfl ?_
  refine JL.val (yl_lss rfl rfl) rfl ?_
  refine JL.nil ?_
  refine JE.code ?_
  rcases cond_some hres with ⟨hb, hres⟩ | ⟨hb, hres⟩
  · refine JX.condT rfl hb ?_
    refine JX.seq ?_
    refine JX.region ?_
    refine JL.val (yl_assign rfl) rfl ?_
    refine JL.nil ?_
    refine JE.code ?_
    refine JX.ret ?_
    obtain rfl := Option.some.inj hres
    refine JE.ret (rs := [.tmp 4]) (vs := [.int .i64 (-1)]) rfl ⟨rfl, trivial⟩ ?_
    exact fun w' hb hs => ⟨_, _, ⟨rfl, rfl⟩, rfl, hb, hs.sel [] _ (by decide) rfl⟩
  · refine JX.condF rfl hb ?_
    refine JX.skip ?_
    refine JE.code ?_
    refine JX.seq ?_
    refine JX.region ?_
    refine JL.val (yl_move rfl) rfl ?_
    refine JL.val (yl_assign rfl) rfl ?_
    refine JL.nil ?_
    refine JE.code ?_
    refine JX.ret ?_
    obtain rfl := Option.some.inj hres
    refine JE.ret (rs := [.tmp 4]) (vs := [.int .i64 (w64 (q1 - (q0.length : Int)))]) rfl ⟨rfl, trivial⟩ ?_
    exact fun w' hb hs => ⟨_, _, ⟨rfl, rfl⟩, rfl, hb, hs.sel [] _ (by decide) rfl⟩

/- spec.l00In -/
def sh65 (q0 : Int) (q1 : Int) (q2 : Int) : Option (Bool) := some ((decide (q1 ≤ q0)) && (decide (q0 ≤ q2)))
def T65 (r : Bool) (v : Value) (rs : List Own) : Prop := v = rets [.bool r] ∧ rs = []
set_option maxRecDepth 100000 in
theorem c65 {w : World} {q0 : Int} {q1 : Int} {q2 : Int} {r : Bool} (hres : sh65 q0 q1 q2 = some r) : Calls Go.Proofs.Try.prog 65 [.int .i64 q0, .int .i64 q1, .int .i64 q2].toArray w (Ret w (T65 r)) := by
  unfold sh65 at hres
  refine calls_of (n := 15) (M := []) (es := []) Go.Proofs.Try.func65 rfl rfl rfl (Sep.nil _ _ _) ?_
  refine JX.seq ?_
  refine JX.region ?_
  refine JL.val (yl_assign rfl) rfl ?_
  refine JL.nil ?_
  refine JE.code ?_
  refine JX.seq ?_
  refine JX.region ?_
  refine JL.val (yl_move rfl) rfl ?_
  refine JL.val (yl_move rfl) rfl ?_
  refine JL.val (yl_geq rfl rfl) rfl ?_
  refine JL.val (yl_move rfl) rfl ?_
  refine JL.cut (K := fun J => J [(14, .bool ((decide (q1 ≤ q0)) && (decide (q0 ≤ q2))))] []) 4 ?_ ?_
  · refine JL.val (yl_assign rfl) rfl ?_
    refine JL.nil ?_
    refine JE.weak (env' := [(6, .bool ((decide (q1 ≤ q0)) && (decide (q0 ≤ q2))))]) (es' := []) [] ?_ ⟨rfl, trivial⟩ (by decide) rfl
    refine JE.code ?_
    refine JX.ret ?_
    obtain rfl := Option.some.inj hres
    refine JE.ret (rs := [.tmp 6]) (vs := [.bool ((decide (q1 ≤ q0)) && (decide (q0 ≤ q2)))]) rfl ⟨rfl, trivial⟩ ?_
    exact fun w' hb hs => ⟨_, _, ⟨rfl, rfl⟩, rfl, hb, hs.sel [] _ (by decide) rfl⟩
  · intro K
    rcases Bool.eq_false_or_eq_true (decide (q1 ≤ q0)) with hb | hb
    · refine JL.set (d := 10) (v := .bool true) (congrArg (fun b => some (Value.bool b)) hb) ?_
      refine JL.gval rfl rfl (yl_move rfl) rfl ?_
      refine JL.gval rfl rfl (yl_move rfl) rfl ?_
      refine JL.gval rfl rfl (yl_leq rfl rfl) rfl ?_
      refine JL.val (yl_pick_true rfl rfl) rfl ?_
      exact JL.weak [] K ⟨(by rw [hb]; rfl), trivial⟩ (by decide) rfl
    · refine JL.set (d := 10) (v := .bool false) (congrArg (fun b => some (Value.bool b)) hb) ?_
      refine JL.gskip rfl rfl rfl rfl ?_
      refine JL.gskip rfl rfl rfl rfl ?_
      refine JL.gskip rfl rfl rfl rfl ?_
      refine JL.val (yl_pick_false rfl rfl) rfl ?_
      exact JL.weak [] K ⟨(by rw [hb]; rfl), trivial⟩ (by decide) rfl

/- spec.l22Ok -/
def sh85_1 (q0 : List SToolMove) : Int → Option (Int ⊕ (Unit ⊕ Bool))
  | x1 => bif decide (x1 < (q0.length : Int)) then (Option.bind (getI q0 x1) fun x2 => Option.bind (sh65 x2.X (-100000) 100000) fun x3 => Option.bind (bif !x3 then (some true) else (Option.bind (sh65 x2.Y (-100000) 100000) fun x5 => some !x5)) fun c4 => (Option.bind (bif c4 then (some true) else (Option.bind (sh65 x2.Z (-500) 500) fun x7 => some !x7)) fun c6 => (bif c6 then (some (.inr (.inr false))) else (some (.inl (w64 (x1 + 1))))))) else (some (.inr (.inl ())))
def sh85 (q0 : List SToolMove) : Option (Bool) := Option.bind (iter (sh85_1 q0) 0) fun y1 => elimS y1 (fun r => some r) fun b1 => (some (decide ((q0.length : Int) ≤ 700)))
def T85 (r : Bool) (v : Value) (rs : List Own) : Prop := v = rets [.bool r] ∧ rs = []
set_option maxRecDepth 100000 in
theorem c85 {w : World} {q0 : List SToolMove} {a_0 : Option Addr} {n_0 c_0 : Nat} (g_0 : Rd w a_0 (eSToolMove.fl q0)) (l_0 : q0.length = n_0) (k_0 : n_0 ≤ c_0) {r : Bool} (hres : sh85 q0 = some r) : Calls Go.Proofs.Try.prog 85 [.slice a_0 n_0 c_0].toArray w (Ret w (T85 r)) := by
  subst l_0
  unfold sh85 at hres
  refine calls_of (n := 39) (M := []) (es := []) Go.Proofs.Try.func85 rfl rfl rfl (Sep.nil _ _ _) ?_
  refine JX.seq ?_
  refine JX.region ?_
  refine JL.val (yl_assign rfl) rfl ?_
  refine JL.nil ?_
  refine JE.code ?_
  refine JX.seq ?_
  refine JX.seq ?_
  refine JX.region ?_
  refine JL.val (yl_assign rfl) rfl ?_
  refine JL.nil ?_
  refine JE.code ?_
  refine JX.block ?_
  obtain ⟨y1, hy1, hresO1⟩ := bind_some hres
  refine JX.loop (I := fun (s1 : Int) aa ww => St w [] 39 [(0, .slice a_0 q0.length c_0), (3, .int .i64 s1)] [] aa ww) (sh85_1 q0) hy1 (fun a w h => h.weak ⟨rfl, rfl, trivial⟩ [] (by decide) rfl) ?_
  rintro x1 o1 hres hox1 aa ww hS
  refine (?_ : JX Go.Proofs.Try.prog w [] 39 _ _ [(0, .slice a_0 q0.length c_0), (3, .int .i64 x1)] [] _) aa ww hS
  clear hS
  unfold sh85_1 at hres
  refine JX.seq ?_
  refine JX.seq ?_
  refine JX.region ?_
  refine JL.val (yl_move rfl) rfl ?_
  refine JL.val (yl_move rfl) rfl ?_
  refine JL.val (yl_len_slice Go.Proofs.Try.underlying54 rfl) rfl ?_
  refine JL.val (yl_lss rfl rfl) rfl ?_
  refine JL.nil ?_
  refine JE.weak (env' := [(0, .slice a_0 q0.length c_0), (3, .int .i64 x1), (8, .bool (decide (x1 < (q0.length : Int))))]) (es' := []) [] ?_ ⟨rfl, rfl, rfl, trivial⟩ (by decide) rfl
  refine JE.code ?_
  rcases cond_some hres with ⟨hb, hres⟩ | ⟨hb, hres⟩
  · refine JX.condT rfl hb ?_
    refine JX.skip ?_
    refine JE.code ?_
    refine JX.seq ?_
    refine JX.block ?_
    refine JX.seq ?_
    refine JX.region ?_
    refine JL.val (yl_move rfl) rfl ?_
    refine JL.val (yl_move rfl) rfl ?_
    obtain ⟨x2, hx2, hres⟩ := bind_some hres
    refine JL.val (yl_idxT Go.Proofs.Try.underlying54 i96 i96s rfl rfl hx2 rfl (fun w hC => rd_arg g_0 hC)) rfl ?_
    refine JL.val (yl_assign rfl) rfl ?_
    refine JL.nil ?_
    refine JE.weak (env' := [(0, .slice a_0 q0.length c_0), (3, .int .i64 x1), (4, ptrAt a_0 ((x1).toNat * eSToolMove.k))]) (es' := []) [] ?_ ⟨rfl, rfl, rfl, trivial⟩ (by decide) rfl
    refine JE.code ?_
    refine JX.seq ?_
    refine JX.region ?_
    refine JL.val (yl_move rfl) rfl ?_
    refine JL.val (yl_nilCheckT rfl hx2 (fun w hC => rd_arg g_0 hC)) rfl ?_
    refine JL.val (yl_fieldAtT Go.Proofs.Try.underlying96 rfl i2 i2n rfl hx2 (fun w hC => rd_arg g_0 hC)) rfl ?_
    refine JL.val (yl_loadT1 Go.Proofs.Try.underlying2 rfl rfl hx2 (fun w hC => rd_arg g_0 hC) rfl) rfl ?_
    obtain ⟨x3, hx3, hres⟩ := bind_some hres
    refine JL.eff (ef_call (T := T65 x3) Go.Proofs.Try.func65 rfl (by kernel_rfl) rfl (fun w hC => c65  hx3)) rfl ?_
    rintro _ _ ⟨_, ⟨rfl, rfl⟩, rfl⟩
    refine JL.val (yl_not rfl) rfl ?_
    refine JL.val (yl_move rfl) rfl ?_
    obtain ⟨c4, hc4, hres⟩ := bind_some hres
    refine JL.cut (K := fun J => J [(0, .slice a_0 q0.length c_0), (3, .int .i64 x1), (4, ptrAt a_0 ((x1).toNat * eSToolMove.k)), (27, .bool c4)] []) 7 ?_ ?_
    · refine JL.val (yl_move rfl) rfl ?_
      obtain ⟨c6, hc6, hres⟩ := bind_some hres
      refine JL.cut (K := fun J => J [(0, .slice a_0 q0.length c_0), (3, .int .i64 x1), (35, .bool c6)] []) 7 ?_ ?_
      · refine JL.nil ?_
        refine JE.weak (env' := [(0, .slice a_0 q0.length c_0), (3, .int .i64 x1), (35, .bool c6)]) (es' := []) [] ?_ ⟨rfl, rfl, rfl, trivial⟩ (by decide) rfl
        refine JE.code ?_
        rcases cond_some hres with ⟨hb, hres⟩ | ⟨hb, hres⟩
        · refine JX.condT rfl hb ?_
          refine JX.seq ?_
          refine JX.region ?_
          refine JL.val (yl_assign rfl) rfl ?_
          refine JL.nil ?_
          refine JE.code ?_
          refine JX.ret ?_
          refine JE.qbr ?_
          refine JE.qbr ?_
          have hres := elimS_inr hresO1 (hox1 _ (Option.some.inj hres).symm)
          obtain rfl := Option.some.inj hres
          refine JE.ret (rs := [.tmp 2]) (vs := [.bool false]) rfl ⟨rfl, trivial⟩ ?_
          exact fun w' hb hs => ⟨_, _, ⟨rfl, rfl⟩, rfl, hb, hs.sel [] _ (by decide) rfl⟩
        · refine JX.condF rfl hb ?_
          refine JX.skip ?_
          refine JE.code ?_
          refine JX.region ?_
          refine JL.val (yl_move rfl) rfl ?_
          refine JL.val (yl_add rfl rfl) rfl ?_
          refine JL.val (yl_assign rfl) rfl ?_
          refine JL.nil ?_
          refine JE.cont hres ?_
          exact fun a w h => h.weak ⟨rfl, rfl, trivial⟩ [] (by decide) rfl
      · intro K
        rcases cond_some hc6 with ⟨hb, hres⟩ | ⟨hb, hres⟩
        · refine JL.set (d := 28) (v := .bool true) (congrArg (fun b => some (Value.bool b)) hb) ?_
          refine JL.gskip rfl rfl rfl rfl ?_
          refine JL.gskip rfl rfl rfl rfl ?_
          refine JL.gskip rfl rfl rfl rfl ?_
          refine JL.gskip rfl rfl rfl rfl ?_
          refine JL.gskip rfl rfl rfl rfl ?_
          refine JL.gskip rfl rfl rfl rfl ?_
          refine JL.val (yl_pick_true rfl rfl) rfl ?_
          have he := Option.some.inj hres
          exact JL.weak [] K ⟨rfl, rfl, (by rw [← he]; rfl), trivial⟩ (by decide) rfl
        · refine JL.set (d := 28) (v := .bool false) (congrArg (fun b => some (Value.bool b)) hb) ?_
          refine JL.gval rfl rfl (yl_move rfl) rfl ?_
          refine JL.gval rfl rfl (yl_nilCheckT rfl hx2 (fun w hC => rd_arg g_0 hC)) rfl ?_
          refine JL.gval rfl rfl (yl_fieldAtT Go.Proofs.Try.underlying96 rfl i2 i2n rfl hx2 (fun w hC => rd_arg g_0 hC)) rfl ?_
          refine JL.gval rfl rfl (yl_loadT1 Go.Proofs.Try.underlying2 rfl rfl hx2 (fun w hC => rd_arg g_0 hC) rfl) rfl ?_
          obtain ⟨x7, hx7, hres⟩ := bind_some hres
          refine JL.geff rfl rfl (ef_call (T := T65 x7) Go.Proofs.Try.func65 rfl (by kernel_rfl) rfl (fun w hC => c65  hx7)) rfl ?_
          rintro _ _ ⟨_, ⟨rfl, rfl⟩, rfl⟩
          refine JL.gval rfl rfl (yl_not rfl) rfl ?_
          refine JL.val (yl_pick_false rfl rfl) rfl ?_
          have he := Option.some.inj hres
          exact JL.weak [] K ⟨rfl, rfl, (by rw [← he]; rfl), trivial⟩ (by decide) rfl
    · intro K
      rcases cond_some hc4 with ⟨hb, hres⟩ | ⟨hb, hres⟩
      · refine JL.set (d := 20) (v := .bool true) (congrArg (fun b => some (Value.bool b)) hb) ?_
        refine JL.gskip rfl rfl rfl rfl ?_
        refine JL.gskip rfl rfl rfl rfl ?_
        refine JL.gskip rfl rfl rfl rfl ?_
        refine JL.gskip rfl rfl rfl rfl ?_
        refine JL.gskip rfl rfl rfl rfl ?_
        refine JL.gskip rfl rfl rfl rfl ?_
        refine JL.val (yl_pick_true rfl rfl) rfl ?_
        have he := Option.some.inj hres
        exact JL.weak [] K ⟨rfl, rfl, rfl, (by rw [← he]; rfl), trivial⟩ (by decide) rfl
      · refine JL.set (d := 20) (v := .bool false) (congrArg (fun b => some (Value.bool b)) hb) ?_
        refine JL.gval rfl rfl (yl_move rfl) rfl ?_
        refine JL.gval rfl rfl (yl_nilCheckT rfl hx2 (fun w hC => rd_arg g_0 hC)) rfl ?_
        refine JL.gval rfl rfl (yl_fieldAtT Go.Proofs.Try.underlying96 rfl i2 i2n rfl hx2 (fun w hC => rd_arg g_0 hC)) rfl ?_
        refine JL.gval rfl rfl (yl_loadT1 Go.Proofs.Try.underlying2 rfl rfl hx2 (fun w hC => rd_arg g_0 hC) rfl) rfl ?_
        obtain ⟨x5, hx5, hres⟩ := bind_some hres
        refine JL.geff rfl rfl (ef_call (T := T65 x5) Go.Proofs.Try.func65 rfl (by kernel_rfl) rfl (fun w hC => c65  hx5)) rfl ?_
        rintro _ _ ⟨_, ⟨rfl, rfl⟩, rfl⟩
        refine JL.gval rfl rfl (yl_not rfl) rfl ?_
        refine JL.val (yl_pick_false rfl rfl) rfl ?_
        have he := Option.some.inj hres
        exact JL.weak [] K ⟨rfl, rfl, rfl, (by rw [← he]; rfl), trivial⟩ (by decide) rfl
  · refine JX.condF rfl hb ?_
    refine JX.exit ?_
    refine JE.qb rfl ?_
    obtain ⟨b1, hb1⟩ : ∃ b : Unit, b = () := ⟨_, rfl⟩
    have hy1 : Sum.inl b1 = y1 := by rw [hb1]; exact hox1 _ (Option.some.inj hres).symm
    have hres := elimS_inl hresO1 hy1
    refine JE.weak (env' := [(0, .slice a_0 q0.length c_0)]) (es' := []) [] ?_ ⟨(by subst hb1; rfl), trivial⟩ (by decide) (by subst hb1; rfl)
    refine JE.code ?_
    refine JX.seq ?_
    refine JX.region ?_
    refine JL.val (yl_move rfl) rfl ?_
    refine JL.val (yl_len_slice Go.Proofs.Try.underlying54 rfl) rfl ?_
    refine JL.val (yl_leq rfl rfl) rfl ?_
    refine JL.val (yl_assign rfl) rfl ?_
    refine JL.nil ?_
    refine JE.weak (env' := [(2, .bool (decide ((q0.length : Int) ≤ 700)))]) (es' := []) [] ?_ ⟨rfl, trivial⟩ (by decide) rfl
    refine JE.code ?_
    refine JX.ret ?_
    obtain rfl := Option.some.inj hres
    refine JE.ret (rs := [.tmp 2]) (vs := [.bool (decide ((q0.length : Int) ≤ 700))]) rfl ⟨rfl, trivial⟩ ?_
    exact fun w' hb hs => ⟨_, _, ⟨rfl, rfl⟩, rfl, hb, hs.sel [] _ (by decide) rfl⟩

/- spec.LayersOf -/
def sh39_2 (q0 : List SToolMove) (q1 : Int) (x10 : Int) : (Int × List SToolMove) → Option ((Int × List SToolMove) ⊕ (List SToolMove))
  | (x16, x17) => bif decide (x16 < (q0.length : Int)) then (Option.bind (getI q0 x16) fun x20 => Option.bind (bif decide (x20.Z < 0) then (Option.bind (nzI q1) fun x30 => some (SToolMove.mk x20.X x20.Y (w64 ((w64 (x20.Z * x10)).tdiv q1)))) else (some x20)) fun j23 => (Option.bind (appL x17 [j23]) fun x27 => some (.inl (w64 (x16 + 1), x27)))) else (some (.inr x17))
def sh39_1 (q0 : List SToolMove) (q1 : Int) : (Int × List SToolMove) → Option ((Int × List SToolMove) ⊕ (List SToolMove))
  | (x10, x11) => bif decide (x10 ≤ q1) then (Option.bind (iter (sh39_2 q0 q1 x10) (0, x11)) fun b2 => (some (.inl (w64 (x10 + 1), b2)))) else (some (.inr x11))
def sh39 (q0 : List SToolMove) (q1 : Int) : Option (List SToolMove × Int) := Option.bind (sh85 q0) fun x1 => bif !x1 then (some (([] : List SToolMove), 1)) else (Option.bind (sh65 q1 1 20) fun x3 => bif !x3 then (some (([] : List SToolMove), 2)) else (bif decide (700 < (w64 (q1 * (q0.length : Int)))) then (some (([] : List SToolMove), 5)) else (Option.bind (iter (sh39_1 q0 q1) (1, ([] : List SToolMove))) fun b1 => (some (b1, 0)))))
def T39 (r : List SToolMove × Int) (v : Value) (rs : List Own) : Prop := ∃ (a0 : Option Addr) (n0 c0 : Nat), r.1.length = n0 ∧ v = rets [.slice a0 n0 c0, .int .i64 r.2] ∧ rs = [rowT 96 eSToolMove a0 n0 c0 r.1]
set_option maxRecDepth 100000 in
theorem c39 {w : World} {q0 : List SToolMove} {a_0 : Option Addr} {n_0 c_0 : Nat} (g_0 : Rd w a_0 (eSToolMove.fl q0)) (l_0 : q0.length = n_0) (k_0 : n_0 ≤ c_0) {q1 : Int} {r : List SToolMove × Int} (hres : sh39 q0 q1 = some r) : Calls Go.Proofs.Try.prog 39 [.slice a_0 n_0 c_0, .int .i64 q1].toArray w (Ret w (T39 r)) := by
  subst l_0
  unfold sh39 at hres
  refine calls_of (n := 52) (M := []) (es := []) Go.Proofs.Try.func39 rfl rfl rfl (Sep.nil _ _ _) ?_
  refine JX.seq ?_
  refine JX.region ?_
  refine JL.val (yl_assign rfl) rfl ?_
  refine JL.val (yl_assign rfl) rfl ?_
  refine JL.nil ?_
  refine JE.code ?_
  refine JX.seq ?_
  refine JX.seq ?_
  refine JX.region ?_
  refine JL.val (yl_move rfl) rfl ?_
  obtain ⟨x1, hx1, hres⟩ := bind_some hres
  refine JL.eff (ef_call (T := T85 x1) Go.Proofs.Try.func85 rfl (by kernel_rfl) rfl (fun w hC => c85 (rd_arg g_0 hC) rfl k_0 hx1)) rfl ?_
  rintro _ _ ⟨_, ⟨rfl, rfl⟩, rfl⟩
  refine JL.val (yl_not rfl) rfl ?_
  refine JL.nil ?_
  refine JE.code ?_
  rcases cond_some hres with ⟨hb, hres⟩ | ⟨hb, hres⟩
  · refine JX.condT rfl hb ?_
    refine JX.seq ?_
    refine JX.region ?_
    refine JL.val (yl_assign rfl) rfl ?_
    refine JL.val (yl_assign rfl) rfl ?_
    refine JL.nil ?_
    refine JE.code ?_
    refine JX.ret ?_
    refine JE.nilrow 96 eSToolMove ?_
    obtain rfl := Option.some.inj hres
    refine JE.ret (rs := [.tmp 4, .tmp 5]) (vs := [.slice none 0 0, .int .i64 1]) rfl ⟨rfl, rfl, trivial⟩ ?_
    exact fun w' hb hs => ⟨_, _, ⟨none, 0, 0, rfl, rfl, rfl⟩, rfl, hb, hs.sel [0] _ (by decide) rfl⟩
  · refine JX.condF rfl hb ?_
    refine JX.skip ?_
    refine JE.code ?_
    refine JX.seq ?_
    refine JX.seq ?_
    refine JX.region ?_
    refine JL.val (yl_move rfl) rfl ?_
    obtain ⟨x3, hx3, hres⟩ := bind_some hres
    refine JL.eff (ef_call (T := T65 x3) Go.Proofs.Try.func65 rfl (by kernel_rfl) rfl (fun w hC => c65  hx3)) rfl ?_
    rintro _ _ ⟨_, ⟨rfl, rfl⟩, rfl⟩
    refine JL.val (yl_not rfl) rfl ?_
    refine JL.nil ?_
    refine JE.code ?_
    rcases cond_some hres with ⟨hb, hres⟩ | ⟨hb, hres⟩
    · refine JX.condT rfl hb ?_
      refine JX.seq ?_
      refine JX.region ?_
      refine JL.val (yl_assign rfl) rfl ?_
      refine JL.val (yl_assign rfl) rfl ?_
      refine JL.nil ?_
      refine JE.code ?_
      refine JX.ret ?_
      refine JE.nilrow 96 eSToolMove ?_
      obtain rfl := Option.some.inj hres
      refine JE.ret (rs := [.tmp 4, .tmp 5]) (vs := [.slice none 0 0, .int .i64 2]) rfl ⟨rfl, rfl, trivial⟩ ?_
      exact fun w' hb hs => ⟨_, _, ⟨none, 0, 0, rfl, rfl, rfl⟩, rfl, hb, hs.sel [0] _ (by decide) rfl⟩
    · refine JX.condF rfl hb ?_
      refine JX.skip ?_
      refine JE.code ?_
      refine JX.seq ?_
      refine JX.seq ?_
      refine JX.region ?_
      refine JL.val (yl_move rfl) rfl ?_
      refine JL.val (yl_move rfl) rfl ?_
      refine JL.val (yl_len_slice Go.Proofs.Try.underlying54 rfl) rfl ?_
      refine JL.val (yl_mul rfl rfl) rfl ?_
      refine JL.val (yl_gtr rfl rfl) rfl ?_
      refine JL.nil ?_
      refine JE.weak (env' := [(0, .slice a_0 q0.length c_0), (1, .int .i64 q1), (20, .bool (decide (700 < (w64 (q1 * (q0.length : Int))))))]) (es' := []) [] ?_ ⟨rfl, rfl, rfl, trivial⟩ (by decide) rfl
      refine JE.code ?_
      rcases cond_some hres with ⟨hb, hres⟩ | ⟨hb, hres⟩
      · refine JX.condT rfl hb ?_
        refine JX.seq ?_
        refine JX.region ?_
        refine JL.val (yl_assign rfl) rfl ?_
        refine JL.val (yl_assign rfl) rfl ?_
        refine JL.nil ?_
        refine JE.code ?_
        refine JX.ret ?_
        refine JE.nilrow 96 eSToolMove ?_
        obtain rfl := Option.some.inj hres
        refine JE.ret (rs := [.tmp 4, .tmp 5]) (vs := [.slice none 0 0, .int .i64 5]) rfl ⟨rfl, rfl, trivial⟩ ?_
        exact fun w' hb hs => ⟨_, _, ⟨none, 0, 0, rfl, rfl, rfl⟩, rfl, hb, hs.sel [0] _ (by decide) rfl⟩
      · refine JX.condF rfl hb ?_
        refine JX.skip ?_
        refine JE.code ?_
        refine JX.seq ?_
        refine JX.region ?_
        refine JL.eff (ef_buildSlice (E := 96) (k := eSToolMove.k) (us := eSToolMove.fl ([] : List SToolMove)) rfl (fun w => bsl54_0  w) rfl (by decide)) rfl ?_
        rintro _ _ ⟨a6, rfl, rfl⟩
        refine JL.val (yl_assign rfl) rfl ?_
        refine JL.nil ?_
        refine JE.code ?_
        refine JX.seq ?_
        refine JX.seq ?_
        refine JX.region ?_
        refine JL.val (yl_assign rfl) rfl ?_
        refine JL.nil ?_
        refine JE.code ?_
        refine JX.block ?_
        obtain ⟨y1, hy1, hresO1⟩ := bind_some hres
        refine JX.loop (I := fun (s1 : Int × List SToolMove) aa ww => ∃ (a8 : Option Addr) (cp9 : Nat), St w [] 52 [(0, .slice a_0 q0.length c_0), (1, .int .i64 q1), (6, .slice a8 s1.2.length cp9), (7, .int .i64 s1.1)] [rowT 96 eSToolMove a8 s1.2.length cp9 s1.2] aa ww) (sh39_1 q0 q1) hy1 (fun a w h => ⟨a6, 0, h.weak ⟨rfl, rfl, rfl, rfl, trivial⟩ [0] (by decide) rfl⟩) ?_
        rintro ⟨x10, x11⟩ o1 hres hox1 aa ww ⟨a12, cp13, hS⟩
        refine (?_ : JX Go.Proofs.Try.prog w [] 52 _ _ [(0, .slice a_0 q0.length c_0), (1, .int .i64 q1), (6, .slice a12 x11.length cp13), (7, .int .i64 x10)] [rowT 96 eSToolMove a12 x11.length cp13 x11] _) aa ww hS
        clear hS
        simp only [sh39_1] at hres
        refine JX.seq ?_
        refine JX.seq ?_
        refine JX.region ?_
        refine JL.val (yl_move rfl) rfl ?_
        refine JL.val (yl_move rfl) rfl ?_
        refine JL.val (yl_leq rfl rfl) rfl ?_
        refine JL.nil ?_
        refine JE.code ?_
        rcases cond_some hres with ⟨hb, hres⟩ | ⟨hb, hres⟩
        · refine JX.condT rfl hb ?_
          refine JX.skip ?_
          refine JE.code ?_
          refine JX.seq ?_
          refine JX.block ?_
          refine JX.seq ?_
          refine JX.region ?_
          refine JL.val (yl_assign rfl) rfl ?_
          refine JL.nil ?_
          refine JE.code ?_
          refine JX.block ?_
          obtain ⟨y2, hy2, hresO2⟩ := bind_some hres
          refine JX.loop (I := fun (s2 : Int × List SToolMove) aa ww => ∃ (a14 : Option Addr) (cp15 : Nat), St w [] 52 [(0, .slice a_0 q0.length c_0), (1, .int .i64 q1), (6, .slice a14 s2.2.length cp15), (7, .int .i64 x10), (8, .int .i64 s2.1)] [rowT 96 eSToolMove a14 s2.2.length cp15 s2.2] aa ww) (sh39_2 q0 q1 x10) hy2 (fun a w h => ⟨a12, cp13, h.weak ⟨rfl, rfl, rfl, rfl, rfl, trivial⟩ [0] (by decide) rfl⟩) ?_
          rintro ⟨x16, x17⟩ o2 hres hox2 aa ww ⟨a18, cp19, hS⟩
          refine (?_ : JX Go.Proofs.Try.prog w [] 52 _ _ [(0, .slice a_0 q0.length c_0), (1, .int .i64 q1), (6, .slice a18 x17.length cp19), (7, .int .i64 x10), (8, .int .i64 x16)] [rowT 96 eSToolMove a18 x17.length cp19 x17] _) aa ww hS
          clear hS
          simp only [sh39_2] at hres
          refine JX.seq ?_
          refine JX.seq ?_
          refine JX.region ?_
          refine JL.val (yl_move rfl) rfl ?_
          refine JL.val (yl_move rfl) rfl ?_
          refine JL.val (yl_len_slice Go.Proofs.Try.underlying54 rfl) rfl ?_
          refine JL.val (yl_lss rfl rfl) rfl ?_
          refine JL.nil ?_
          refine JE.weak (env' := [(0, .slice a_0 q0.length c_0), (1, .int .i64 q1), (6, .slice a18 x17.length cp19), (7, .int .i64 x10), (8, .int .i64 x16), (30, .bool (decide (x16 < (q0.length : Int))))]) (es' := [rowT 96 eSToolMove a18 x17.length cp19 x17]) [0] ?_ ⟨rfl, rfl, rfl, rfl, rfl, rfl, trivial⟩ (by decide) rfl
          refine JE.code ?_
          rcases cond_some hres with ⟨hb, hres⟩ | ⟨hb, hres⟩
          · refine JX.condT rfl hb ?_
            refine JX.skip ?_
            refine JE.code ?_
            refine JX.seq ?_
            refine JX.block ?_
            refine JX.seq ?_
            refine JX.region ?_
            refine JL.val (yl_move rfl) rfl ?_
            refine JL.val (yl_move rfl) rfl ?_
            obtain ⟨x20, hx20, hres⟩ := bind_some hres
            refine JL.val (yl_idxT Go.Proofs.Try.underlying54 i96 i96s rfl rfl hx20 rfl (fun w hC => rd_arg g_0 hC)) rfl ?_
            refine JL.val (yl_loadTn Go.Proofs.Try.underlying96 rfl i96 i96s rfl hx20 (fun w hC => rd_arg g_0 hC)) rfl ?_
            refine JL.eff (ef_alloc i96 i96z rfl) rfl ?_
            rintro _ _ ⟨g21, rfl, rfl⟩
            refine JL.eff (ef_store_box (i := 1) (v := .agg #[.int .i64 x20.X, .int .i64 x20.Y, .int .i64 x20.Z]) i96 rfl rfl rfl (i96s).symm (Nat.le_of_ble_eq_true rfl) (by simp [Value.cells, Value.oneCell'])) rfl ?_
            rintro _ _ rfl
            refine JL.nil ?_
            refine JE.weak (env' := [(0, .slice a_0 q0.length c_0), (1, .int .i64 q1), (6, .slice a18 x17.length cp19), (7, .int .i64 x10), (8, .int .i64 x16), (9, ptrAt (some ⟨g21, 0, none⟩) 0)]) (es' := [rowT 96 eSToolMove a18 x17.length cp19 x17, boxO 96 g21 [.int .i64 x20.X, .int .i64 x20.Y, .int .i64 x20.Z]]) [0, 1] ?_ ⟨rfl, rfl, rfl, rfl, rfl, rfl, trivial⟩ (by decide) rfl
            refine JE.code ?_
            refine JX.seq ?_
            refine JX.seq ?_
            refine JX.region ?_
            refine JL.val (yl_fieldAt (a := some _) Go.Proofs.Try.underlying96 rfl i2 i2n rfl rfl) rfl ?_
            refine JL.val (yl_load1 Go.Proofs.Try.underlying2 rfl rfl (fun w hC => rd_box hC 1 rfl) rfl) rfl ?_
            refine JL.val (yl_lss rfl rfl) rfl ?_
            refine JL.nil ?_
            refine JE.code ?_
            obtain ⟨j23, hj23, hresj23⟩ := bind_some hres
            refine JX.cut (K := fun J => ∀ (g24 : Nat), J [(0, .slice a_0 q0.length c_0), (1, .int .i64 q1), (6, .slice a18 x17.length cp19), (7, .int .i64 x10), (8, .int .i64 x16), (9, ptrAt (some ⟨g24, 0, none⟩) 0)] [rowT 96 eSToolMove a18 x17.length cp19 x17, boxO 96 g24 [.int .i64 j23.X, .int .i64 j23.Y, .int .i64 j23.Z]]) ?_ ?_
            · intro g24
              have hres := hresj23
              refine JE.code ?_
              refine JX.region ?_
              refine JL.val (yl_move rfl) rfl ?_
              refine JL.val (yl_loadn Go.Proofs.Try.underlying96 rfl i96 rfl (fun w hC => rd_box hC 1 rfl) rfl (i96s).symm i96p) rfl ?_
              refine JL.eff (ef_buildSlice (E := 96) (k := eSToolMove.k) (us := eSToolMove.fl [j23]) rfl (fun w => bsl54_1 j23.X j23.Y j23.Z w) rfl (by decide)) rfl ?_
              rintro _ _ ⟨a25, rfl, rfl⟩
              obtain ⟨x27, hx27, hres⟩ := bind_some hres
              refine JL.eff (ef_appendT (ix := 0) Go.Proofs.Try.underlying54 i96 i96z i96s rfl i96b0 i96b1 rfl rfl rfl rfl rfl (fun w hC => rd_row hC 2 rfl) hx27) rfl ?_
              rintro _ _ ⟨a28, cp29, rfl, rfl⟩
              refine JL.val (yl_assign rfl) rfl ?_
              refine JL.nil ?_
              refine JE.weak (env' := [(0, .slice a_0 q0.length c_0), (1, .int .i64 q1), (6, .slice a28 x27.length cp29), (7, .int .i64 x10), (8, .int .i64 x16)]) (es' := [rowT 96 eSToolMove a28 x27.length cp29 x27]) [0] ?_ ⟨rfl, rfl, rfl, rfl, rfl, trivial⟩ (by decide) rfl
              refine JE.code ?_
              refine JX.region ?_
              refine JL.val (yl_move rfl) rfl ?_
              refine JL.val (yl_add rfl rfl) rfl ?_
              refine JL.val (yl_assign rfl) rfl ?_
              refine JL.nil ?_
              refine JE.cont hres ?_
              exact fun a w h => ⟨a28, cp29, h.weak ⟨rfl, rfl, rfl, rfl, rfl, trivial⟩ [0] (by decide) rfl⟩
            · intro K
              rcases cond_some hj23 with ⟨hb, hres⟩ | ⟨hb, hres⟩
              · refine JX.condT rfl hb ?_
                refine JX.region ?_
                refine JL.val (yl_fieldAt (a := some _) Go.Proofs.Try.underlying96 rfl i2 i2n rfl rfl) rfl ?_
                refine JL.val (yl_load1 Go.Proofs.Try.underlying2 rfl rfl (fun w hC => rd_box hC 1 rfl) rfl) rfl ?_
                refine JL.val (yl_move rfl) rfl ?_
                refine JL.val (yl_mul rfl rfl) rfl ?_
                refine JL.val (yl_move rfl) rfl ?_
                obtain ⟨x30, hx30, hres⟩ := bind_some hres
                refine JL.val (yl_quo rfl rfl (nzI_some hx30)) rfl ?_
                refine JL.val (yl_fieldAt (a := some _) Go.Proofs.Try.underlying96 rfl i2 i2n rfl rfl) rfl ?_
                refine JL.eff (ef_store_box (i := 1) (v := .int .i64 (w64 ((w64 (x20.Z * x10)).tdiv q1))) i2 rfl rfl rfl (i2s).symm (Nat.le_of_ble_eq_true rfl) (by simp [Value.cells, Value.oneCell'])) rfl ?_
                rintro _ _ rfl
                refine JL.nil ?_
                refine JE.weak (env' := [(0, .slice a_0 q0.length c_0), (1, .int .i64 q1), (6, .slice a18 x17.length cp19), (7, .int .i64 x10), (8, .int .i64 x16), (9, ptrAt (some ⟨g21, 0, none⟩) 0)]) (es' := [rowT 96 eSToolMove a18 x17.length cp19 x17, boxO 96 g21 [.int .i64 x20.X, .int .i64 x20.Y, .int .i64 (w64 ((w64 (x20.Z * x10)).tdiv q1))]]) [0, 1] ?_ ⟨rfl, rfl, rfl, rfl, rfl, rfl, trivial⟩ (by decide) rfl
                have hj := Option.some.inj hres
                exact JE.weak [0, 1] (K g21) ⟨(by subst hj; rfl), (by subst hj; rfl), (by subst hj; rfl), (by subst hj; rfl), (by subst hj; rfl), (by subst hj; rfl), trivial⟩ (by decide) (by subst hj; rfl)
              · refine JX.condF rfl hb ?_
                refine JX.skip ?_
                have hj := Option.some.inj hres
                exact JE.weak [0, 1] (K g21) ⟨(by subst hj; rfl), (by subst hj; rfl), (by subst hj; rfl), (by subst hj; rfl), (by subst hj; rfl), (by subst hj; rfl), trivial⟩ (by decide) (by subst hj; rfl)
          · refine JX.condF rfl hb ?_
            refine JX.exit ?_
            refine JE.qb rfl ?_
            obtain ⟨b2, hb2⟩ : ∃ b : List SToolMove, b = x17 := ⟨_, rfl⟩
            have hy2 : b2 = y2 := by rw [hb2]; exact hox2 _ (Option.some.inj hres).symm
            have hres := hresO2
            rw [← hy2] at hres
            refine JE.weak (env' := [(0, .slice a_0 q0.length c_0), (1, .int .i64 q1), (6, .slice a18 b2.length cp19), (7, .int .i64 x10)]) (es' := [rowT 96 eSToolMove a18 b2.length cp19 b2]) [0] ?_ ⟨(by subst hb2; rfl), (by subst hb2; rfl), (by subst hb2; rfl), (by subst hb2; rfl), trivial⟩ (by decide) (by subst hb2; rfl)
            refine JE.code ?_
            refine JX.region ?_
            refine JL.val (yl_move rfl) rfl ?_
            refine JL.val (yl_add rfl rfl) rfl ?_
            refine JL.val (yl_assign rfl) rfl ?_
            refine JL.nil ?_
            refine JE.cont hres ?_
            exact fun a w h => ⟨a18, cp19, h.weak ⟨rfl, rfl, rfl, rfl, trivial⟩ [0] (by decide) rfl⟩
        · refine JX.condF rfl hb ?_
          refine JX.exit ?_
          refine JE.qb rfl ?_
          obtain ⟨b1, hb1⟩ : ∃ b : List SToolMove, b = x11 := ⟨_, rfl⟩
          have hy1 : b1 = y1 := by rw [hb1]; exact hox1 _ (Option.some.inj hres).symm
          have hres := hresO1
          rw [← hy1] at hres
          refine JE.weak (env' := [(6, .slice a12 b1.length cp13)]) (es' := [rowT 96 eSToolMove a12 b1.length cp13 b1]) [0] ?_ ⟨(by subst hb1; rfl), trivial⟩ (by decide) (by subst hb1; rfl)
          refine JE.code ?_
          refine JX.seq ?_
          refine JX.region ?_
          refine JL.val (yl_move rfl) rfl ?_
          refine JL.val (yl_assign rfl) rfl ?_
          refine JL.val (yl_assign rfl) rfl ?_
          refine JL.nil ?_
          refine JE.code ?_
          refine JX.ret ?_
          obtain rfl := Option.some.inj hres
          refine JE.ret (rs := [.tmp 4, .tmp 5]) (vs := [.slice a12 b1.length cp13, .int .i64 0]) rfl ⟨rfl, rfl, trivial⟩ ?_
          exact fun w' hb hs => ⟨_, _, ⟨a12, b1.length, cp13, rfl, rfl, rfl⟩, rfl, hb, hs.sel [0] _ (by decide) rfl⟩

/- laws.toToolMove -/
def sh86 (q0 : SToolMove) : Option (SToolMove) := some q0
def T86 (r : SToolMove) (v : Value) (rs : List Own) : Prop := v = rets [.agg #[.int .i64 r.X, .int .i64 r.Y, .int .i64 r.Z]] ∧ rs = []
set_option maxRecDepth 100000 in
theorem c86 {w : World} {q0 : SToolMove} {r : SToolMove} (hres : sh86 q0 = some r) : Calls Go.Proofs.Try.prog 86 [.agg #[.int .i64 q0.X, .int .i64 q0.Y, .int .i64 q0.Z]].toArray w (Ret w (T86 r)) := by
  unfold sh86 at hres
  refine calls_of (n := 14) (M := []) (es := []) Go.Proofs.Try.func86 rfl rfl rfl (Sep.nil _ _ _) ?_
  refine JX.seq ?_
  refine JX.region ?_
  refine JL.eff (ef_box rfl rfl) rfl ?_
  rintro _ _ ⟨g1, rfl, rfl⟩
  refine JL.eff (ef_alloc i96 i96z rfl) rfl ?_
  rintro _ _ ⟨g3, rfl, rfl⟩
  refine JL.nil ?_
  refine JE.code ?_
  refine JX.seq ?_
  refine JX.region ?_
  refine JL.eff (ef_alloc i96 i96z rfl) rfl ?_
  rintro _ _ ⟨g5, rfl, rfl⟩
  refine JL.nil ?_
  refine JE.code ?_
  refine JX.seq ?_
  refine JX.region ?_
  refine JL.val (yl_fieldAt (a := some _) Go.Proofs.Try.underlying98 rfl i2 i2n rfl rfl) rfl ?_
  refine JL.val (yl_load1 Go.Proofs.Try.underlying2 rfl rfl (fun w hC => rd_box hC 0 rfl) rfl) rfl ?_
  refine JL.val (yl_fieldAt (a := some _) Go.Proofs.Try.underlying96 rfl i2 i2n rfl rfl) rfl ?_
  refine JL.eff (ef_store_box (i := 2) (v := .int .i64 q0.X) i2 rfl rfl rfl (i2s).symm (Nat.le_of_ble_eq_true rfl) (by simp [Value.cells, Value.oneCell'])) rfl ?_
  rintro _ _ rfl
  refine JL.nil ?_
  refine JE.weak (env' := [(1, ptrAt (some ⟨g1, 0, none⟩) 0), (2, ptrAt (some ⟨g3, 0, none⟩) 0), (3, ptrAt (some ⟨g5, 0, none⟩) 0)]) (es' := [boxO 98 g1 [.int .i64 q0.X, .int .i64 q0.Y, .int .i64 q0.Z], boxO 96 g3 [.int .i64 0, .int .i64 0, .int .i64 0], boxO 96 g5 [.int .i64 q0.X, .int .i64 0, .int .i64 0]]) [0, 1, 2] ?_ ⟨rfl, rfl, rfl, trivial⟩ (by decide) rfl
  refine JE.code ?_
  refine JX.seq ?_
  refine JX.region ?_
  refine JL.val (yl_fieldAt (a := some _) Go.Proofs.Try.underlying98 rfl i2 i2n rfl rfl) rfl ?_
  refine JL.val (yl_load1 Go.Proofs.Try.underlying2 rfl rfl (fun w hC => rd_box hC 0 rfl) rfl) rfl ?_
  refine JL.val (yl_fieldAt (a := some _) Go.Proofs.Try.underlying96 rfl i2 i2n rfl rfl) rfl ?_
  refine JL.eff (ef_store_box (i := 2) (v := .int .i64 q0.Y) i2 rfl rfl rfl (i2s).symm (Nat.le_of_ble_eq_true rfl) (by simp [Value.cells, Value.oneCell'])) rfl ?_
  rintro _ _ rfl
  refine JL.nil ?_
  refine JE.weak (env' := [(1, ptrAt (some ⟨g1, 0, none⟩) 0), (2, ptrAt (some ⟨g3, 0, none⟩) 0), (3, ptrAt (some ⟨g5, 0, none⟩) 0)]) (es' := [boxO 98 g1 [.int .i64 q0.X, .int .i64 q0.Y, .int .i64 q0.Z], boxO 96 g3 [.int .i64 0, .int .i64 0, .int .i64 0], boxO 96 g5 [.int .i64 q0.X, .int .i64 q0.Y, .int .i64 0]]) [0, 1, 2] ?_ ⟨rfl, rfl, rfl, trivial⟩ (by decide) rfl
  refine JE.code ?_
  refine JX.seq ?_
  refine JX.region ?_
  refine JL.val (yl_fieldAt (a := some _) Go.Proofs.Try.underlying98 rfl i2 i2n rfl rfl) rfl ?_
  refine JL.val (yl_load1 Go.Proofs.Try.underlying2 rfl rfl (fun w hC => rd_box hC 0 rfl) rfl) rfl ?_
  refine JL.val (yl_fieldAt (a := some _) Go.Proofs.Try.underlying96 rfl i2 i2n rfl rfl) rfl ?_
  refine JL.eff (ef_store_box (i := 2) (v := .int .i64 q0.Z) i2 rfl rfl rfl (i2s).symm (Nat.le_of_ble_eq_true rfl) (by simp [Value.cells, Value.oneCell'])) rfl ?_
  rintro _ _ rfl
  refine JL.nil ?_
  refine JE.weak (env' := [(2, ptrAt (some ⟨g3, 0, none⟩) 0), (3, ptrAt (some ⟨g5, 0, none⟩) 0)]) (es' := [boxO 96 g3 [.int .i64 0, .int .i64 0, .int .i64 0], boxO 96 g5 [.int .i64 q0.X, .int .i64 q0.Y, .int .i64 q0.Z]]) [1, 2] ?_ ⟨rfl, rfl, trivial⟩ (by decide) rfl
  refine JE.code ?_
  refine JX.seq ?_
  refine JX.region ?_
  refine JL.val (yl_loadn Go.Proofs.Try.underlying96 rfl i96 rfl (fun w hC => rd_box hC 1 rfl) rfl (i96s).symm i96p) rfl ?_
  refine JL.eff (ef_store_box (i := 0) (v := .agg #[.int .i64 q0.X, .int .i64 q0.Y, .int .i64 q0.Z]) i96 rfl rfl rfl (i96s).symm (Nat.le_of_ble_eq_true rfl) (by simp [Value.cells, Value.oneCell'])) rfl ?_
  rintro _ _ rfl
  refine JL.nil ?_
  refine JE.weak (env' := [(2, ptrAt (some ⟨g3, 0, none⟩) 0)]) (es' := [boxO 96 g3 [.int .i64 q0.X, .int .i64 q0.Y, .int .i64 q0.Z]]) [0] ?_ ⟨rfl, trivial⟩ (by decide) rfl
  refine JE.code ?_
  refine JX.ret ?_
  obtain rfl := Option.some.inj hres
  refine JE.ret (rs := [.cell 2 96]) (vs := [.agg #[.int .i64 q0.X, .int .i64 q0.Y, .int .i64 q0.Z]]) rfl ⟨rv_box 0 rfl rfl Go.Proofs.Try.underlying96 rfl i96 (i96s).symm, trivial⟩ ?_
  exact fun w' hb hs => ⟨_, _, ⟨rfl, rfl⟩, rfl, hb, hs.sel [] _ (by decide) rfl⟩

/- laws.toToolMoveS -/
def sh40_1 (q0 : List SToolMove) : (Int × List SToolMove) → Option ((Int × List SToolMove) ⊕ (List SToolMove))
  | (x5, x6) => bif decide (x5 < (q0.length : Int)) then (Option.bind (getI q0 x5) fun x8 => Option.bind (sh86 x8) fun x9 => Option.bind (getI x6 x5) fun x10 => some (.inl (w64 (x5 + 1), x6.set (x5).toNat x9))) else (some (.inr x6))
def sh40 (q0 : List SToolMove) : Option (List SToolMove) := Option.bind (mkL (q0.length : Int) (SToolMove.mk 0 0 0)) fun x1 => Option.bind (iter (sh40_1 q0) (0, x1)) fun b1 => (some b1)
def T40 (r : List SToolMove) (v : Value) (rs : List Own) : Prop := ∃ (a0 : Option Addr) (n0 c0 : Nat), r.length = n0 ∧ v = rets [.slice a0 n0 c0] ∧ rs = [rowT 96 eSToolMove a0 n0 c0 r]
set_option maxRecDepth 100000 in
theorem c40 {w : World} {q0 : List SToolMove} {a_0 : Option Addr} {n_0 c_0 : Nat} (g_0 : Rd w a_0 (eSToolMove.fl q0)) (l_0 : q0.length = n_0) (k_0 : n_0 ≤ c_0) {r : List SToolMove} (hres : sh40 q0 = some r) : Calls Go.Proofs.Try.prog 40 [.slice a_0 n_0 c_0].toArray w (Ret w (T40 r)) := by
  subst l_0
  unfold sh40 at hres
  refine calls_of (n := 23) (M := []) (es := []) Go.Proofs.Try.func40 rfl rfl rfl (Sep.nil _ _ _) ?_
  refine JX.seq ?_
  refine JX.region ?_
  refine JL.val (yl_assign rfl) rfl ?_
  refine JL.nil ?_
  refine JE.code ?_
  refine JX.seq ?_
  refine JX.region ?_
  refine JL.val (yl_move rfl) rfl ?_
  refine JL.val (yl_len_slice Go.Proofs.Try.underlying52 rfl) rfl ?_
  obtain ⟨x1, hx1, hres⟩ := bind_some hres
  refine JL.eff (ef_makeS (e := eSToolMove) Go.Proofs.Try.underlying54 i96 i96s i96z rfl i96b1 rfl rfl hx1) rfl ?_
  rintro _ _ ⟨a2, rfl, rfl⟩
  refine JL.val (yl_assign rfl) rfl ?_
  refine JL.nil ?_
  refine JE.weak (env' := [(0, .slice a_0 q0.length c_0), (3, .slice a2 x1.length x1.length)]) (es' := [rowT 96 eSToolMove a2 x1.length x1.length x1]) [0] ?_ ⟨rfl, rfl, trivial⟩ (by decide) rfl
  refine JE.code ?_
  refine JX.seq ?_
  refine JX.seq ?_
  refine JX.region ?_
  refine JL.val (yl_assign rfl) rfl ?_
  refine JL.nil ?_
  refine JE.code ?_
  refine JX.block ?_
  obtain ⟨y1, hy1, hresO1⟩ := bind_some hres
  refine JX.loop (I := fun (s1 : Int × List SToolMove) aa ww => ∃ (l4 : s1.2.length = x1.length), St w [] 23 [(0, .slice a_0 q0.length c_0), (3, .slice a2 x1.length x1.length), (4, .int .i64 s1.1)] [rowT 96 eSToolMove a2 x1.length x1.length s1.2] aa ww) (sh40_1 q0) hy1 (fun a w h => ⟨rfl, h.weak ⟨rfl, rfl, rfl, trivial⟩ [0] (by decide) rfl⟩) ?_
  rintro ⟨x5, x6⟩ o1 hres hox1 aa ww ⟨l7, hS⟩
  refine (?_ : JX Go.Proofs.Try.prog w [] 23 _ _ [(0, .slice a_0 q0.length c_0), (3, .slice a2 x1.length x1.length), (4, .int .i64 x5)] [rowT 96 eSToolMove a2 x1.length x1.length x6] _) aa ww hS
  clear hS
  simp only [sh40_1] at hres
  refine JX.seq ?_
  refine JX.seq ?_
  refine JX.region ?_
  refine JL.val (yl_move rfl) rfl ?_
  refine JL.val (yl_move rfl) rfl ?_
  refine JL.val (yl_len_slice Go.Proofs.Try.underlying52 rfl) rfl ?_
  refine JL.val (yl_lss rfl rfl) rfl ?_
  refine JL.nil ?_
  refine JE.weak (env' := [(0, .slice a_0 q0.length c_0), (3, .slice a2 x1.length x1.length), (4, .int .i64 x5), (11, .bool (decide (x5 < (q0.length : Int))))]) (es' := [rowT 96 eSToolMove a2 x1.length x1.length x6]) [0] ?_ ⟨rfl, rfl, rfl, rfl, trivial⟩ (by decide) rfl
  refine JE.code ?_
  rcases cond_some hres with ⟨hb, hres⟩ | ⟨hb, hres⟩
  · refine JX.condT rfl hb ?_
    refine JX.skip ?_
    refine JE.code ?_
    refine JX.seq ?_
    refine JX.block ?_
    refine JX.region ?_
    refine JL.val (yl_move rfl) rfl ?_
    refine JL.val (yl_move rfl) rfl ?_
    refine JL.val (yl_move rfl) rfl ?_
    refine JL.val (yl_move rfl) rfl ?_
    obtain ⟨x8, hx8, hres⟩ := bind_some hres
    refine JL.val (yl_idxT Go.Proofs.Try.underlying52 i98 i98s rfl rfl hx8 rfl (fun w hC => rd_arg g_0 hC)) rfl ?_
    refine JL.val (yl_loadTn Go.Proofs.Try.underlying98 rfl i98 i98s rfl hx8 (fun w hC => rd_arg g_0 hC)) rfl ?_
    obtain ⟨x9, hx9, hres⟩ := bind_some hres
    refine JL.eff (ef_call (vs := [.agg #[.int .i64 x8.X, .int .i64 x8.Y, .int .i64 x8.Z]]) (T := T86 x9) Go.Proofs.Try.func86 rfl (by kernel_rfl) rfl (fun w hC => c86 (q0 := x8) hx9)) rfl ?_
    rintro _ _ ⟨_, ⟨rfl, rfl⟩, rfl⟩
    obtain ⟨x10, hx10, hres⟩ := bind_some hres
    refine JL.val (yl_idxT Go.Proofs.Try.underlying54 i96 i96s rfl rfl hx10 l7 (fun w hC => rd_row hC 0 rfl)) rfl ?_
    refine JL.eff (ef_storeT (ix := 0) (u := x9) i96 i96s rfl rfl rfl hx10 rfl) rfl ?_
    rintro _ _ rfl
    refine JL.nil ?_
    refine JE.weak (env' := [(0, .slice a_0 q0.length c_0), (3, .slice a2 x1.length x1.length), (4, .int .i64 x5)]) (es' := [rowT 96 eSToolMove a2 x1.length x1.length (x6.set (x5).toNat x9)]) [0] ?_ ⟨rfl, rfl, rfl, trivial⟩ (by decide) rfl
    refine JE.code ?_
    refine JX.region ?_
    refine JL.val (yl_move rfl) rfl ?_
    refine JL.val (yl_add rfl rfl) rfl ?_
    refine JL.val (yl_assign rfl) rfl ?_
    refine JL.nil ?_
    refine JE.cont hres ?_
    exact fun a w h => ⟨(List.length_set.trans l7), h.weak ⟨rfl, rfl, rfl, trivial⟩ [0] (by decide) rfl⟩
  · refine JX.condF rfl hb ?_
    refine JX.exit ?_
    refine JE.qb rfl ?_
    obtain ⟨b1, hb1⟩ : ∃ b : List SToolMove, b = x6 := ⟨_, rfl⟩
    have hy1 : b1 = y1 := by rw [hb1]; exact hox1 _ (Option.some.inj hres).symm
    have hres := hresO1
    rw [← hy1] at hres
    have l11 : b1.length = x1.length := by subst hb1; exact l7
    refine JE.weak (env' := [(3, .slice a2 x1.length x1.length)]) (es' := [rowT 96 eSToolMove a2 x1.length x1.length b1]) [0] ?_ ⟨(by subst hb1; rfl), trivial⟩ (by decide) (by subst hb1; rfl)
    refine JE.code ?_
    refine JX.seq ?_
    refine JX.region ?_
    refine JL.val (yl_move rfl) rfl ?_
    refine JL.val (yl_assign rfl) rfl ?_
    refine JL.nil ?_
    refine JE.code ?_
    refine JX.ret ?_
    obtain rfl := Option.some.inj hres
    refine JE.ret (rs := [.tmp 2]) (vs := [.slice a2 x1.length x1.length]) rfl ⟨rfl, trivial⟩ ?_
    exact fun w' hb hs => ⟨_, _, ⟨a2, x1.length, x1.length, l11, rfl, rfl⟩, rfl, hb, hs.sel [0] _ (by decide) rfl⟩

/- impl.inRange -/
def sh79 (q0 : Int) (q1 : Int) (q2 : Int) : Option (Bool) := some ((decide (q1 ≤ q0)) && (decide (q0 ≤ q2)))
def T79 (r : Bool) (v : Value) (rs : List Own) : Prop := v = rets [.bool r] ∧ rs = []
set_option maxRecDepth 100000 in
theorem c79 {w : World} {q0 : Int} {q1 : Int} {q2 : Int} {r : Bool} (hres : sh79 q0 q1 q2 = some r) : Calls Go.Proofs.Try.prog 79 [.int .i64 q0, .int .i64 q1, .int .i64 q2].toArray w (Ret w (T79 r)) := by
  unfold sh79 at hres
  refine calls_of (n := 15) (M := []) (es := []) Go.Proofs.Try.func79 rfl rfl rfl (Sep.nil _ _ _) ?_
  refine JX.seq ?_
  refine JX.region ?_
  refine JL.val (yl_assign rfl) rfl ?_
  refine JL.nil ?_
  refine JE.code ?_
  refine JX.seq ?_
  refine JX.region ?_
  refine JL.val (yl_move rfl) rfl ?_
  refine JL.val (yl_move rfl) rfl ?_
  refine JL.val (yl_geq rfl rfl) rfl ?_
  refine JL.val (yl_move rfl) rfl ?_
  refine JL.cut (K := fun J => J [(14, .bool ((decide (q1 ≤ q0)) && (decide (q0 ≤ q2))))] []) 4 ?_ ?_
  · refine JL.val (yl_assign rfl) rfl ?_
    refine JL.nil ?_
    refine JE.weak (env' := [(6, .bool ((decide (q1 ≤ q0)) && (decide (q0 ≤ q2))))]) (es' := []) [] ?_ ⟨rfl, trivial⟩ (by decide) rfl
    refine JE.code ?_
    refine JX.ret ?_
    obtain rfl := Option.some.inj hres
    refine JE.ret (rs := [.tmp 6]) (vs := [.bool ((decide (q1 ≤ q0)) && (decide (q0 ≤ q2)))]) rfl ⟨rfl, trivial⟩ ?_
    exact fun w' hb hs => ⟨_, _, ⟨rfl, rfl⟩, rfl, hb, hs.sel [] _ (by decide) rfl⟩
  · intro K
    rcases Bool.eq_false_or_eq_true (decide (q1 ≤ q0)) with hb | hb
    · refine JL.set (d := 10) (v := .bool true) (congrArg (fun b => some (Value.bool b)) hb) ?_
      refine JL.gval rfl rfl (yl_move rfl) rfl ?_
      refine JL.gval rfl rfl (yl_move rfl) rfl ?_
      refine JL.gval rfl rfl (yl_leq rfl rfl) rfl ?_
      refine JL.val (yl_pick_true rfl rfl) rfl ?_
      exact JL.weak [] K ⟨(by rw [hb]; rfl), trivial⟩ (by decide) rfl
    · refine JL.set (d := 10) (v := .bool false) (congrArg (fun b => some (Value.bool b)) hb) ?_
      refine JL.gskip rfl rfl rfl rfl ?_
      refine JL.gskip rfl rfl rfl rfl ?_
      refine JL.gskip rfl rfl rfl rfl ?_
      refine JL.val (yl_pick_false rfl rfl) rfl ?_
      exact JL.weak [] K ⟨(by rw [hb]; rfl), trivial⟩ (by decide) rfl

/- impl.isCorner -/
def sh67 (q0 : SPoint) : Option (Bool) := Option.bind (sh79 q0.X (-100000) 100000) fun x3 => Option.bind (bif x3 then (Option.bind (sh79 q0.Y (-100000) 100000) fun x5 => some x5) else (some false)) fun c4 => (some c4)
def T67 (r : Bool) (v : Value) (rs : List Own) : Prop := v = rets [.bool r] ∧ rs = []
set_option maxRecDepth 100000 in
theorem c67 {w : World} {q0 : SPoint} {r : Bool} (hres : sh67 q0 = some r) : Calls Go.Proofs.Try.prog 67 [.agg #[.int .i64 q0.X, .int .i64 q0.Y]].toArray w (Ret w (T67 r)) := by
  unfold sh67 at hres
  refine calls_of (n := 11) (M := []) (es := []) Go.Proofs.Try.func67 rfl rfl rfl (Sep.nil _ _ _) ?_
  refine JX.seq ?_
  refine JX.region ?_
  refine JL.eff (ef_box rfl rfl) rfl ?_
  rintro _ _ ⟨g1, rfl, rfl⟩
  refine JL.val (yl_assign rfl) rfl ?_
  refine JL.nil ?_
  refine JE.code ?_
  refine JX.seq ?_
  refine JX.region ?_
  refine JL.val (yl_fieldAt (a := some _) Go.Proofs.Try.underlying30 rfl i2 i2n rfl rfl) rfl ?_
  refine JL.val (yl_load1 Go.Proofs.Try.underlying2 rfl rfl (fun w hC => rd_box hC 0 rfl) rfl) rfl ?_
  obtain ⟨x3, hx3, hres⟩ := bind_some hres
  refine JL.eff (ef_call (T := T79 x3) Go.Proofs.Try.func79 rfl (by kernel_rfl) rfl (fun w hC => c79  hx3)) rfl ?_
  rintro _ _ ⟨_, ⟨rfl, rfl⟩, rfl⟩
  refine JL.val (yl_move rfl) rfl ?_
  obtain ⟨c4, hc4, hres⟩ := bind_some hres
  refine JL.cut (K := fun J => J [(10, .bool c4)] []) 4 ?_ ?_
  · refine JL.val (yl_assign rfl) rfl ?_
    refine JL.nil ?_
    refine JE.weak (env' := [(2, .bool c4)]) (es' := []) [] ?_ ⟨rfl, trivial⟩ (by decide) rfl
    refine JE.code ?_
    refine JX.ret ?_
    obtain rfl := Option.some.inj hres
    refine JE.ret (rs := [.tmp 2]) (vs := [.bool c4]) rfl ⟨rfl, trivial⟩ ?_
    exact fun w' hb hs => ⟨_, _, ⟨rfl, rfl⟩, rfl, hb, hs.sel [] _ (by decide) rfl⟩
  · intro K
    rcases cond_some hc4 with ⟨hb, hres⟩ | ⟨hb, hres⟩
    · refine JL.set (d := 6) (v := .bool true) (congrArg (fun b => some (Value.bool b)) hb) ?_
      refine JL.gval rfl rfl (yl_fieldAt (a := some _) Go.Proofs.Try.underlying30 rfl i2 i2n rfl rfl) rfl ?_
      refine JL.gval rfl rfl (yl_load1 Go.Proofs.Try.underlying2 rfl rfl (fun w hC => rd_box hC 0 rfl) rfl) rfl ?_
      obtain ⟨x5, hx5, hres⟩ := bind_some hres
      refine JL.geff rfl rfl (ef_call (T := T79 x5) Go.Proofs.Try.func79 rfl (by kernel_rfl) rfl (fun w hC => c79  hx5)) rfl ?_
      rintro _ _ ⟨_, ⟨rfl, rfl⟩, rfl⟩
      refine JL.val (yl_pick_true rfl rfl) rfl ?_
      have he := Option.some.inj hres
      exact JL.weak [] K ⟨(by rw [← he]; rfl), trivial⟩ (by decide) rfl
    · refine JL.set (d := 6) (v := .bool false) (congrArg (fun b => some (Value.bool b)) hb) ?_
      refine JL.gskip rfl rfl rfl rfl ?_
      refine JL.gskip rfl rfl rfl rfl ?_
      refine JL.gskip rfl rfl rfl rfl ?_
      refine JL.val (yl_pick_false rfl rfl) rfl ?_
      have he := Option.some.inj hres
      exact JL.weak [] K ⟨(by rw [← he]; rfl), trivial⟩ (by decide) rfl

/- impl.validMoves -/
def sh87_1 (q0 : List SToolMove) : Int → Option (Int ⊕ (Unit ⊕ Bool))
  | x1 => bif decide (x1 < (q0.length : Int)) then (Option.bind (getI q0 x1) fun x2 => Option.bind (sh67 (SPoint.mk x2.X x2.Y)) fun x5 => Option.bind (bif !x5 then (some true) else (Option.bind (sh79 x2.Z (-500) 500) fun x7 => some !x7)) fun c6 => (bif c6 then (some (.inr (.inr false))) else (some (.inl (w64 (x1 + 1)))))) else (some (.inr (.inl ())))
def sh87 (q0 : List SToolMove) : Option (Bool) := Option.bind (iter (sh87_1 q0) 0) fun y1 => elimS y1 (fun r => some r) fun b1 => (some (decide ((q0.length : Int) ≤ 700)))
def T87 (r : Bool) (v : Value) (rs : List Own) : Prop := v = rets [.bool r] ∧ rs = []
set_option maxRecDepth 100000 in
theorem c87 {w : World} {q0 : List SToolMove} {a_0 : Option Addr} {n_0 c_0 : Nat} (g_0 : Rd w a_0 (eSToolMove.fl q0)) (l_0 : q0.length = n_0) (k_0 : n_0 ≤ c_0) {r : Bool} (hres : sh87 q0 = some r) : Calls Go.Proofs.Try.prog 87 [.slice a_0 n_0 c_0].toArray w (Ret w (T87 r)) := by
  subst l_0
  unfold sh87 at hres
  refine calls_of (n := 28) (M := []) (es := []) Go.Proofs.Try.func87 rfl rfl rfl (Sep.nil _ _ _) ?_
  refine JX.seq ?_
  refine JX.region ?_
  refine JL.val (yl_assign rfl) rfl ?_
  refine JL.nil ?_
  refine JE.code ?_
  refine JX.seq ?_
  refine JX.seq ?_
  refine JX.region ?_
  refine JL.val (yl_move rfl) rfl ?_
  refine JL.val (yl_len_slice Go.Proofs.Try.underlying54 rfl) rfl ?_
  refine JL.val (yl_move rfl) rfl ?_
  refine JL.nil ?_
  refine JE.code ?_
  refine JX.block ?_
  obtain ⟨y1, hy1, hresO1⟩ := bind_some hres
  refine JX.loop (I := fun (s1 : Int) aa ww => St w [] 28 [(0, .slice a_0 q0.length c_0), (5, .slice a_0 q0.length c_0), (6, .int .i64 (q0.length : Int)), (7, .int .i64 s1)] [] aa ww) (sh87_1 q0) hy1 (fun a w h => h.weak ⟨rfl, rfl, rfl, rfl, trivial⟩ [] (by decide) rfl) ?_
  rintro x1 o1 hres hox1 aa ww hS
  refine (?_ : JX Go.Proofs.Try.prog w [] 28 _ _ [(0, .slice a_0 q0.length c_0), (5, .slice a_0 q0.length c_0), (6, .int .i64 (q0.length : Int)), (7, .int .i64 x1)] [] _) aa ww hS
  clear hS
  unfold sh87_1 at hres
  refine JX.seq ?_
  refine JX.region ?_
  refine JL.val (yl_lss rfl rfl) rfl ?_
  refine JL.nil ?_
  refine JE.code ?_
  refine JX.seq ?_
  rcases cond_some hres with ⟨hb, hres⟩ | ⟨hb, hres⟩
  · refine JX.condT rfl hb ?_
    refine JX.skip ?_
    refine JE.code ?_
    refine JX.seq ?_
    refine JX.block ?_
    refine JX.seq ?_
    refine JX.region ?_
    obtain ⟨x2, hx2, hres⟩ := bind_some hres
    refine JL.val (yl_idxT Go.Proofs.Try.underlying54 i96 i96s rfl rfl hx2 rfl (fun w hC => rd_arg g_0 hC)) rfl ?_
    refine JL.val (yl_loadTn Go.Proofs.Try.underlying96 rfl i96 i96s rfl hx2 (fun w hC => rd_arg g_0 hC)) rfl ?_
    refine JL.eff (ef_alloc i96 i96z rfl) rfl ?_
    rintro _ _ ⟨g3, rfl, rfl⟩
    refine JL.eff (ef_store_box (i := 0) (v := .agg #[.int .i64 x2.X, .int .i64 x2.Y, .int .i64 x2.Z]) i96 rfl rfl rfl (i96s).symm (Nat.le_of_ble_eq_true rfl) (by simp [Value.cells, Value.oneCell'])) rfl ?_
    rintro _ _ rfl
    refine JL.nil ?_
    refine JE.weak (env' := [(0, .slice a_0 q0.length c_0), (4, ptrAt (some ⟨g3, 0, none⟩) 0), (5, .slice a_0 q0.length c_0), (6, .int .i64 (q0.length : Int)), (7, .int .i64 x1)]) (es' := [boxO 96 g3 [.int .i64 x2.X, .int .i64 x2.Y, .int .i64 x2.Z]]) [0] ?_ ⟨rfl, rfl, rfl, rfl, rfl, trivial⟩ (by decide) rfl
    refine JE.code ?_
    refine JX.seq ?_
    refine JX.region ?_
    refine JL.val (yl_fieldAt (a := some _) Go.Proofs.Try.underlying96 rfl i2 i2n rfl rfl) rfl ?_
    refine JL.val (yl_load1 Go.Proofs.Try.underlying2 rfl rfl (fun w hC => rd_box hC 0 rfl) rfl) rfl ?_
    refine JL.val (yl_fieldAt (a := some _) Go.Proofs.Try.underlying96 rfl i2 i2n rfl rfl) rfl ?_
    refine JL.val (yl_load1 Go.Proofs.Try.underlying2 rfl rfl (fun w hC => rd_box hC 0 rfl) rfl) rfl ?_
    refine JL.val (yl_build rfl (fun w => bld30_0_1 x2.X x2.Y w)) rfl ?_
    obtain ⟨x5, hx5, hres⟩ := bind_some hres
    refine JL.eff (ef_call (vs := [.agg #[.int .i64 x2.X, .int .i64 x2.Y]]) (T := T67 x5) Go.Proofs.Try.func67 rfl (by kernel_rfl) rfl (fun w hC => c67 (q0 := SPoint.mk x2.X x2.Y) hx5)) rfl ?_
    rintro _ _ ⟨_, ⟨rfl, rfl⟩, rfl⟩
    refine JL.val (yl_not rfl) rfl ?_
    refine JL.val (yl_move rfl) rfl ?_
    obtain ⟨c6, hc6, hres⟩ := bind_some hres
    refine JL.cut (K := fun J => J [(0, .slice a_0 q0.length c_0), (5, .slice a_0 q0.length c_0), (6, .int .i64 (q0.length : Int)), (7, .int .i64 x1), (23, .bool c6)] []) 5 ?_ ?_
    · refine JL.nil ?_
      refine JE.weak (env' := [(0, .slice a_0 q0.length c_0), (5, .slice a_0 q0.length c_0), (6, .int .i64 (q0.length : Int)), (7, .int .i64 x1), (23, .bool c6)]) (es' := []) [] ?_ ⟨rfl, rfl, rfl, rfl, rfl, trivial⟩ (by decide) rfl
      refine JE.code ?_
      rcases cond_some hres with ⟨hb, hres⟩ | ⟨hb, hres⟩
      · refine JX.condT rfl hb ?_
        refine JX.seq ?_
        refine JX.region ?_
        refine JL.val (yl_assign rfl) rfl ?_
        refine JL.nil ?_
        refine JE.code ?_
        refine JX.ret ?_
        refine JE.qbr ?_
        refine JE.qbr ?_
        have hres := elimS_inr hresO1 (hox1 _ (Option.some.inj hres).symm)
        obtain rfl := Option.some.inj hres
        refine JE.ret (rs := [.tmp 2]) (vs := [.bool false]) rfl ⟨rfl, trivial⟩ ?_
        exact fun w' hb hs => ⟨_, _, ⟨rfl, rfl⟩, rfl, hb, hs.sel [] _ (by decide) rfl⟩
      · refine JX.condF rfl hb ?_
        refine JX.skip ?_
        refine JE.code ?_
        refine JX.region ?_
        refine JL.val (yl_add rfl rfl) rfl ?_
        refine JL.val (yl_move rfl) rfl ?_
        refine JL.nil ?_
        refine JE.cont hres ?_
        exact fun a w h => h.weak ⟨rfl, rfl, rfl, rfl, trivial⟩ [] (by decide) rfl
    · intro K
      rcases cond_some hc6 with ⟨hb, hres⟩ | ⟨hb, hres⟩
      · refine JL.set (d := 18) (v := .bool true) (congrArg (fun b => some (Value.bool b)) hb) ?_
        refine JL.gskip rfl rfl rfl rfl ?_
        refine JL.gskip rfl rfl rfl rfl ?_
        refine JL.gskip rfl rfl rfl rfl ?_
        refine JL.gskip rfl rfl rfl rfl ?_
        refine JL.val (yl_pick_true rfl rfl) rfl ?_
        have he := Option.some.inj hres
        exact JL.weak [] K ⟨rfl, rfl, rfl, rfl, (by rw [← he]; rfl), trivial⟩ (by decide) rfl
      · refine JL.set (d := 18) (v := .bool false) (congrArg (fun b => some (Value.bool b)) hb) ?_
        refine JL.gval rfl rfl (yl_fieldAt (a := some _) Go.Proofs.Try.underlying96 rfl i2 i2n rfl rfl) rfl ?_
        refine JL.gval rfl rfl (yl_load1 Go.Proofs.Try.underlying2 rfl rfl (fun w hC => rd_box hC 0 rfl) rfl) rfl ?_
        obtain ⟨x7, hx7, hres⟩ := bind_some hres
        refine JL.geff rfl rfl (ef_call (T := T79 x7) Go.Proofs.Try.func79 rfl (by kernel_rfl) rfl (fun w hC => c79  hx7)) rfl ?_
        rintro _ _ ⟨_, ⟨rfl, rfl⟩, rfl⟩
        refine JL.gval rfl rfl (yl_not rfl) rfl ?_
        refine JL.val (yl_pick_false rfl rfl) rfl ?_
        have he := Option.some.inj hres
        exact JL.weak [] K ⟨rfl, rfl, rfl, rfl, (by rw [← he]; rfl), trivial⟩ (by decide) rfl
  · refine JX.condF rfl hb ?_
    refine JX.exit ?_
    refine JE.qb rfl ?_
    obtain ⟨b1, hb1⟩ : ∃ b : Unit, b = () := ⟨_, rfl⟩
    have hy1 : Sum.inl b1 = y1 := by rw [hb1]; exact hox1 _ (Option.some.inj hres).symm
    have hres := elimS_inl hresO1 hy1
    refine JE.weak (env' := [(0, .slice a_0 q0.length c_0)]) (es' := []) [] ?_ ⟨(by subst hb1; rfl), trivial⟩ (by decide) (by subst hb1; rfl)
    refine JE.code ?_
    refine JX.seq ?_
    refine JX.region ?_
    refine JL.val (yl_move rfl) rfl ?_
    refine JL.val (yl_len_slice Go.Proofs.Try.underlying54 rfl) rfl ?_
    refine JL.val (yl_leq rfl rfl) rfl ?_
    refine JL.val (yl_assign rfl) rfl ?_
    refine JL.nil ?_
    refine JE.weak (env' := [(2, .bool (decide ((q0.length : Int) ≤ 700)))]) (es' := []) [] ?_ ⟨rfl, trivial⟩ (by decide) rfl
    refine JE.code ?_
    refine JX.ret ?_
    obtain rfl := Option.some.inj hres
    refine JE.ret (rs := [.tmp 2]) (vs := [.bool (decide ((q0.length : Int) ≤ 700))]) rfl ⟨rfl, trivial⟩ ?_
    exact fun w' hb hs => ⟨_, _, ⟨rfl, rfl⟩, rfl, hb, hs.sel [] _ (by decide) rfl⟩

/- impl.LayersOf -/
def sh41_2 (q0 : List SToolMove) (q1 : Int) (x10 : Int) : (Int × List SToolMove) → Option ((Int × List SToolMove) ⊕ (List SToolMove))
  | (x16, x17) => bif decide (x16 < (q0.length : Int)) then (Option.bind (getI q0 x16) fun x20 => Option.bind (bif decide (x20.Z < 0) then (Option.bind (nzI q1) fun x30 => some (SToolMove.mk x20.X x20.Y (w64 ((w64 (x20.Z * x10)).tdiv q1)))) else (some x20)) fun j23 => (Option.bind (appL x17 [j23]) fun x27 => some (.inl (w64 (x16 + 1), x27)))) else (some (.inr x17))
def sh41_1 (q0 : List SToolMove) (q1 : Int) : (Int × List SToolMove) → Option ((Int × List SToolMove) ⊕ (List SToolMove))
  | (x10, x11) => bif decide (x10 ≤ q1) then (Option.bind (iter (sh41_2 q0 q1 x10) (0, x11)) fun b2 => (some (.inl (w64 (x10 + 1), b2)))) else (some (.inr x11))
def sh41 (q0 : List SToolMove) (q1 : Int) : Option (List SToolMove × Int) := Option.bind (sh87 q0) fun x1 => bif !x1 then (some (([] : List SToolMove), 1)) else (Option.bind (sh79 q1 1 20) fun x3 => bif !x3 then (some (([] : List SToolMove), 2)) else (bif decide (700 < (w64 (q1 * (q0.length : Int)))) then (some (([] : List SToolMove), 5)) else (Option.bind (iter (sh41_1 q0 q1) (1, ([] : List SToolMove))) fun b1 => (some (b1, 0)))))
def T41 (r : List SToolMove × Int) (v : Value) (rs : List Own) : Prop := ∃ (a0 : Option Addr) (n0 c0 : Nat), r.1.length = n0 ∧ v = rets [.slice a0 n0 c0, .int .i64 r.2] ∧ rs = [rowT 96 eSToolMove a0 n0 c0 r.1]
set_option maxRecDepth 100000 in
theorem c41 {w : World} {q0 : List SToolMove} {a_0 : Option Addr} {n_0 c_0 : Nat} (g_0 : Rd w a_0 (eSToolMove.fl q0)) (l_0 : q0.length = n_0) (k_0 : n_0 ≤ c_0) {q1 : Int} {r : List SToolMove × Int} (hres : sh41 q0 q1 = some r) : Calls Go.Proofs.Try.prog 41 [.slice a_0 n_0 c_0, .int .i64 q1].toArray w (Ret w (T41 r)) := by
  subst l_0
  unfold sh41 at hres
  refine calls_of (n := 49) (M := []) (es := []) Go.Proofs.Try.func41 rfl rfl rfl (Sep.nil _ _ _) ?_
  refine JX.seq ?_
  refine JX.region ?_
  refine JL.val (yl_assign rfl) rfl ?_
  refine JL.val (yl_assign rfl) rfl ?_
  refine JL.nil ?_
  refine JE.code ?_
  refine JX.seq ?_
  refine JX.seq ?_
  refine JX.region ?_
  refine JL.val (yl_move rfl) rfl ?_
  obtain ⟨x1, hx1, hres⟩ := bind_some hres
  refine JL.eff (ef_call (T := T87 x1) Go.Proofs.Try.func87 rfl (by kernel_rfl) rfl (fun w hC => c87 (rd_arg g_0 hC) rfl k_0 hx1)) rfl ?_
  rintro _ _ ⟨_, ⟨rfl, rfl⟩, rfl⟩
  refine JL.val (yl_not rfl) rfl ?_
  refine JL.nil ?_
  refine JE.code ?_
  rcases cond_some hres with ⟨hb, hres⟩ | ⟨hb, hres⟩
  · refine JX.condT rfl hb ?_
    refine JX.seq ?_
    refine JX.region ?_
    refine JL.val (yl_assign rfl) rfl ?_
    refine JL.val (yl_assign rfl) rfl ?_
    refine JL.nil ?_
    refine JE.code ?_
    refine JX.ret ?_
    refine JE.nilrow 96 eSToolMove ?_
    obtain rfl := Option.some.inj hres
    refine JE.ret (rs := [.tmp 4, .tmp 5]) (vs := [.slice none 0 0, .int .i64 1]) rfl ⟨rfl, rfl, trivial⟩ ?_
    exact fun w' hb hs => ⟨_, _, ⟨none, 0, 0, rfl, rfl, rfl⟩, rfl, hb, hs.sel [0] _ (by decide) rfl⟩
  · refine JX.condF rfl hb ?_
    refine JX.skip ?_
    refine JE.code ?_
    refine JX.seq ?_
    refine JX.seq ?_
    refine JX.region ?_
    refine JL.val (yl_move rfl) rfl ?_
    obtain ⟨x3, hx3, hres⟩ := bind_some hres
    refine JL.eff (ef_call (T := T79 x3) Go.Proofs.Try.func79 rfl (by kernel_rfl) rfl (fun w hC => c79  hx3)) rfl ?_
    rintro _ _ ⟨_, ⟨rfl, rfl⟩, rfl⟩
    refine JL.val (yl_not rfl) rfl ?_
    refine JL.nil ?_
    refine JE.code ?_
    rcases cond_some hres with ⟨hb, hres⟩ | ⟨hb, hres⟩
    · refine JX.condT rfl hb ?_
      refine JX.seq ?_
      refine JX.region ?_
      refine JL.val (yl_assign rfl) rfl ?_
      refine JL.val (yl_assign rfl) rfl ?_
      refine JL.nil ?_
      refine JE.code ?_
      refine JX.ret ?_
      refine JE.nilrow 96 eSToolMove ?_
      obtain rfl := Option.some.inj hres
      refine JE.ret (rs := [.tmp 4, .tmp 5]) (vs := [.slice none 0 0, .int .i64 2]) rfl ⟨rfl, rfl, trivial⟩ ?_
      exact fun w' hb hs => ⟨_, _, ⟨none, 0, 0, rfl, rfl, rfl⟩, rfl, hb, hs.sel [0] _ (by decide) rfl⟩
    · refine JX.condF rfl hb ?_
      refine JX.skip ?_
      refine JE.code ?_
      refine JX.seq ?_
      refine JX.seq ?_
      refine JX.region ?_
      refine JL.val (yl_move rfl) rfl ?_
      refine JL.val (yl_move rfl) rfl ?_
      refine JL.val (yl_len_slice Go.Proofs.Try.underlying54 rfl) rfl ?_
      refine JL.val (yl_mul rfl rfl) rfl ?_
      refine JL.val (yl_gtr rfl rfl) rfl ?_
      refine JL.nil ?_
      refine JE.weak (env' := [(0, .slice a_0 q0.length c_0), (1, .int .i64 q1), (20, .bool (decide (700 < (w64 (q1 * (q0.length : Int))))))]) (es' := []) [] ?_ ⟨rfl, rfl, rfl, trivial⟩ (by decide) rfl
      refine JE.code ?_
      rcases cond_some hres with ⟨hb, hres⟩ | ⟨hb, hres⟩
      · refine JX.condT rfl hb ?_
        refine JX.seq ?_
        refine JX.region ?_
        refine JL.val (yl_assign rfl) rfl ?_
        refine JL.val (yl_assign rfl) rfl ?_
        refine JL.nil ?_
        refine JE.code ?_
        refine JX.ret ?_
        refine JE.nilrow 96 eSToolMove ?_
        obtain rfl := Option.some.inj hres
        refine JE.ret (rs := [.tmp 4, .tmp 5]) (vs := [.slice none 0 0, .int .i64 5]) rfl ⟨rfl, rfl, trivial⟩ ?_
        exact fun w' hb hs => ⟨_, _, ⟨none, 0, 0, rfl, rfl, rfl⟩, rfl, hb, hs.sel [0] _ (by decide) rfl⟩
      · refine JX.condF rfl hb ?_
        refine JX.skip ?_
        refine JE.code ?_
        refine JX.seq ?_
        refine JX.region ?_
        refine JL.eff (ef_buildSlice (E := 96) (k := eSToolMove.k) (us := eSToolMove.fl ([] : List SToolMove)) rfl (fun w => bsl54_0  w) rfl (by decide)) rfl ?_
        rintro _ _ ⟨a6, rfl, rfl⟩
        refine JL.val (yl_assign rfl) rfl ?_
        refine JL.nil ?_
        refine JE.code ?_
        refine JX.seq ?_
        refine JX.seq ?_
        refine JX.region ?_
        refine JL.val (yl_assign rfl) rfl ?_
        refine JL.nil ?_
        refine JE.code ?_
        refine JX.block ?_
        obtain ⟨y1, hy1, hresO1⟩ := bind_some hres
        refine JX.loop (I := fun (s1 : Int × List SToolMove) aa ww => ∃ (a8 : Option Addr) (cp9 : Nat), St w [] 49 [(0, .slice a_0 q0.length c_0), (1, .int .i64 q1), (6, .slice a8 s1.2.length cp9), (7, .int .i64 s1.1)] [rowT 96 eSToolMove a8 s1.2.length cp9 s1.2] aa ww) (sh41_1 q0 q1) hy1 (fun a w h => ⟨a6, 0, h.weak ⟨rfl, rfl, rfl, rfl, trivial⟩ [0] (by decide) rfl⟩) ?_
        rintro ⟨x10, x11⟩ o1 hres hox1 aa ww ⟨a12, cp13, hS⟩
        refine (?_ : JX Go.Proofs.Try.prog w [] 49 _ _ [(0, .slice a_0 q0.length c_0), (1, .int .i64 q1), (6, .slice a12 x11.length cp13), (7, .int .i64 x10)] [rowT 96 eSToolMove a12 x11.length cp13 x11] _) aa ww hS
        clear hS
        simp only [sh41_1] at hres
        refine JX.seq ?_
        refine JX.seq ?_
        refine JX.region ?_
        refine JL.val (yl_move rfl) rfl ?_
        refine JL.val (yl_move rfl) rfl ?_
        refine JL.val (yl_leq rfl rfl) rfl ?_
        refine JL.nil ?_
        refine JE.code ?_
        rcases cond_some hres with ⟨hb, hres⟩ | ⟨hb, hres⟩
        · refine JX.condT rfl hb ?_
          refine JX.skip ?_
          refine JE.code ?_
          refine JX.seq ?_
          refine JX.block ?_
          refine JX.seq ?_
          refine JX.region ?_
          refine JL.val (yl_move rfl) rfl ?_
          refine JL.val (yl_len_slice Go.Proofs.Try.underlying54 rfl) rfl ?_
          refine JL.val (yl_move rfl) rfl ?_
          refine JL.nil ?_
          refine JE.code ?_
          refine JX.block ?_
          obtain ⟨y2, hy2, hresO2⟩ := bind_some hres
          refine JX.loop (I := fun (s2 : Int × List SToolMove) aa ww => ∃ (a14 : Option Addr) (cp15 : Nat), St w [] 49 [(0, .slice a_0 q0.length c_0), (1, .int .i64 q1), (6, .slice a14 s2.2.length cp15), (7, .int .i64 x10), (27, .slice a_0 q0.length c_0), (28, .int .i64 (q0.length : Int)), (29, .int .i64 s2.1)] [rowT 96 eSToolMove a14 s2.2.length cp15 s2.2] aa ww) (sh41_2 q0 q1 x10) hy2 (fun a w h => ⟨a12, cp13, h.weak ⟨rfl, rfl, rfl, rfl, rfl, rfl, rfl, trivial⟩ [0] (by decide) rfl⟩) ?_
          rintro ⟨x16, x17⟩ o2 hres hox2 aa ww ⟨a18, cp19, hS⟩
          refine (?_ : JX Go.Proofs.Try.prog w [] 49 _ _ [(0, .slice a_0 q0.length c_0), (1, .int .i64 q1), (6, .slice a18 x17.length cp19), (7, .int .i64 x10), (27, .slice a_0 q0.length c_0), (28, .int .i64 (q0.length : Int)), (29, .int .i64 x16)] [rowT 96 eSToolMove a18 x17.length cp19 x17] _) aa ww hS
          clear hS
          simp only [sh41_2] at hres
          refine JX.seq ?_
          refine JX.region ?_
          refine JL.val (yl_lss rfl rfl) rfl ?_
          refine JL.nil ?_
          refine JE.code ?_
          refine JX.seq ?_
          rcases cond_some hres with ⟨hb, hres⟩ | ⟨hb, hres⟩
          · refine JX.condT rfl hb ?_
            refine JX.skip ?_
            refine JE.code ?_
            refine JX.seq ?_
            refine JX.block ?_
            refine JX.seq ?_
            refine JX.region ?_
            obtain ⟨x20, hx20, hres⟩ := bind_some hres
            refine JL.val (yl_idxT Go.Proofs.Try.underlying54 i96 i96s rfl rfl hx20 rfl (fun w hC => rd_arg g_0 hC)) rfl ?_
            refine JL.val (yl_loadTn Go.Proofs.Try.underlying96 rfl i96 i96s rfl hx20 (fun w hC => rd_arg g_0 hC)) rfl ?_
            refine JL.eff (ef_alloc i96 i96z rfl) rfl ?_
            rintro _ _ ⟨g21, rfl, rfl⟩
            refine JL.eff (ef_store_box (i := 1) (v := .agg #[.int .i64 x20.X, .int .i64 x20.Y, .int .i64 x20.Z]) i96 rfl rfl rfl (i96s).symm (Nat.le_of_ble_eq_true rfl) (by simp [Value.cells, Value.oneCell'])) rfl ?_
            rintro _ _ rfl
            refine JL.nil ?_
            refine JE.weak (env' := [(0, .slice a_0 q0.length c_0), (1, .int .i64 q1), (6, .slice a18 x17.length cp19), (7, .int .i64 x10), (9, ptrAt (some ⟨g21, 0, none⟩) 0), (27, .slice a_0 q0.length c_0), (28, .int .i64 (q0.length : Int)), (29, .int .i64 x16)]) (es' := [rowT 96 eSToolMove a18 x17.length cp19 x17, boxO 96 g21 [.int .i64 x20.X, .int .i64 x20.Y, .int .i64 x20.Z]]) [0, 1] ?_ ⟨rfl, rfl, rfl, rfl, rfl, rfl, rfl, rfl, trivial⟩ (by decide) rfl
            refine JE.code ?_
            refine JX.seq ?_
            refine JX.seq ?_
            refine JX.region ?_
            refine JL.val (yl_fieldAt (a := some _) Go.Proofs.Try.underlying96 rfl i2 i2n rfl rfl) rfl ?_
            refine JL.val (yl_load1 Go.Proofs.Try.underlying2 rfl rfl (fun w hC => rd_box hC 1 rfl) rfl) rfl ?_
            refine JL.val (yl_lss rfl rfl) rfl ?_
            refine JL.nil ?_
            refine JE.code ?_
            obtain ⟨j23, hj23, hresj23⟩ := bind_some hres
            refine JX.cut (K := fun J => ∀ (g24 : Nat), J [(0, .slice a_0 q0.length c_0), (1, .int .i64 q1), (6, .slice a18 x17.length cp19), (7, .int .i64 x10), (9, ptrAt (some ⟨g24, 0, none⟩) 0), (27, .slice a_0 q0.length c_0), (28, .int .i64 (q0.length : Int)), (29, .int .i64 x16)] [rowT 96 eSToolMove a18 x17.length cp19 x17, boxO 96 g24 [.int .i64 j23.X, .int .i64 j23.Y, .int .i64 j23.Z]]) ?_ ?_
            · intro g24
              have hres := hresj23
              refine JE.code ?_
              refine JX.region ?_
              refine JL.val (yl_move rfl) rfl ?_
              refine JL.val (yl_loadn Go.Proofs.Try.underlying96 rfl i96 rfl (fun w hC => rd_box hC 1 rfl) rfl (i96s).symm i96p) rfl ?_
              refine JL.eff (ef_buildSlice (E := 96) (k := eSToolMove.k) (us := eSToolMove.fl [j23]) rfl (fun w => bsl54_1 j23.X j23.Y j23.Z w) rfl (by decide)) rfl ?_
              rintro _ _ ⟨a25, rfl, rfl⟩
              obtain ⟨x27, hx27, hres⟩ := bind_some hres
              refine JL.eff (ef_appendT (ix := 0) Go.Proofs.Try.underlying54 i96 i96z i96s rfl i96b0 i96b1 rfl rfl rfl rfl rfl (fun w hC => rd_row hC 2 rfl) hx27) rfl ?_
              rintro _ _ ⟨a28, cp29, rfl, rfl⟩
              refine JL.val (yl_assign rfl) rfl ?_
              refine JL.nil ?_
              refine JE.weak (env' := [(0, .slice a_0 q0.length c_0), (1, .int .i64 q1), (6, .slice a28 x27.length cp29), (7, .int .i64 x10), (27, .slice a_0 q0.length c_0), (28, .int .i64 (q0.length : Int)), (29, .int .i64 x16)]) (es' := [rowT 96 eSToolMove a28 x27.length cp29 x27]) [0] ?_ ⟨rfl, rfl, rfl, rfl, rfl, rfl, rfl, trivial⟩ (by decide) rfl
              refine JE.code ?_
              refine JX.region ?_
              refine JL.val (yl_add rfl rfl) rfl ?_
              refine JL.val (yl_move rfl) rfl ?_
              refine JL.nil ?_
              refine JE.cont hres ?_
              exact fun a w h => ⟨a28, cp29, h.weak ⟨rfl, rfl, rfl, rfl, rfl, rfl, rfl, trivial⟩ [0] (by decide) rfl⟩
            · intro K
              rcases cond_some hj23 with ⟨hb, hres⟩ | ⟨hb, hres⟩
              · refine JX.condT rfl hb ?_
                refine JX.region ?_
                refine JL.val (yl_fieldAt (a := some _) Go.Proofs.Try.underlying96 rfl i2 i2n rfl rfl) rfl ?_
                refine JL.val (yl_load1 Go.Proofs.Try.underlying2 rfl rfl (fun w hC => rd_box hC 1 rfl) rfl) rfl ?_
                refine JL.val (yl_move rfl) rfl ?_
                refine JL.val (yl_mul rfl rfl) rfl ?_
                refine JL.val (yl_move rfl) rfl ?_
                obtain ⟨x30, hx30, hres⟩ := bind_some hres
                refine JL.val (yl_quo rfl rfl (nzI_some hx30)) rfl ?_
                refine JL.val (yl_fieldAt (a := some _) Go.Proofs.Try.underlying96 rfl i2 i2n rfl rfl) rfl ?_
                refine JL.eff (ef_store_box (i := 1) (v := .int .i64 (w64 ((w64 (x20.Z * x10)).tdiv q1))) i2 rfl rfl rfl (i2s).symm (Nat.le_of_ble_eq_true rfl) (by simp [Value.cells, Value.oneCell'])) rfl ?_
                rintro _ _ rfl
                refine JL.nil ?_
                refine JE.weak (env' := [(0, .slice a_0 q0.length c_0), (1, .int .i64 q1), (6, .slice a18 x17.length cp19), (7, .int .i64 x10), (9, ptrAt (some ⟨g21, 0, none⟩) 0), (27, .slice a_0 q0.length c_0), (28, .int .i64 (q0.length : Int)), (29, .int .i64 x16)]) (es' := [rowT 96 eSToolMove a18 x17.length cp19 x17, boxO 96 g21 [.int .i64 x20.X, .int .i64 x20.Y, .int .i64 (w64 ((w64 (x20.Z * x10)).tdiv q1))]]) [0, 1] ?_ ⟨rfl, rfl, rfl, rfl, rfl, rfl, rfl, rfl, trivial⟩ (by decide) rfl
                have hj := Option.some.inj hres
                exact JE.weak [0, 1] (K g21) ⟨(by subst hj; rfl), (by subst hj; rfl), (by subst hj; rfl), (by subst hj; rfl), (by subst hj; rfl), (by subst hj; rfl), (by subst hj; rfl), (by subst hj; rfl), trivial⟩ (by decide) (by subst hj; rfl)
              · refine JX.condF rfl hb ?_
                refine JX.skip ?_
                have hj := Option.some.inj hres
                exact JE.weak [0, 1] (K g21) ⟨(by subst hj; rfl), (by subst hj; rfl), (by subst hj; rfl), (by subst hj; rfl), (by subst hj; rfl), (by subst hj; rfl), (by subst hj; rfl), (by subst hj; rfl), trivial⟩ (by decide) (by subst hj; rfl)
          · refine JX.condF rfl hb ?_
            refine JX.exit ?_
            refine JE.qb rfl ?_
            obtain ⟨b2, hb2⟩ : ∃ b : List SToolMove, b = x17 := ⟨_, rfl⟩
            have hy2 : b2 = y2 := by rw [hb2]; exact hox2 _ (Option.some.inj hres).symm
            have hres := hresO2
            rw [← hy2] at hres
            refine JE.weak (env' := [(0, .slice a_0 q0.length c_0), (1, .int .i64 q1), (6, .slice a18 b2.length cp19), (7, .int .i64 x10)]) (es' := [rowT 96 eSToolMove a18 b2.length cp19 b2]) [0] ?_ ⟨(by subst hb2; rfl), (by subst hb2; rfl), (by subst hb2; rfl), (by subst hb2; rfl), trivial⟩ (by decide) (by subst hb2; rfl)
            refine JE.code ?_
            refine JX.region ?_
            refine JL.val (yl_move rfl) rfl ?_
            refine JL.val (yl_add rfl rfl) rfl ?_
            refine JL.val (yl_assign rfl) rfl ?_
            refine JL.nil ?_
            refine JE.cont hres ?_
            exact fun a w h => ⟨a18, cp19, h.weak ⟨rfl, rfl, rfl, rfl, trivial⟩ [0] (by decide) rfl⟩
        · refine JX.condF rfl hb ?_
          refine JX.exit ?_
          refine JE.qb rfl ?_
          obtain ⟨b1, hb1⟩ : ∃ b : List SToolMove, b = x11 := ⟨_, rfl⟩
          have hy1 : b1 = y1 := by rw [hb1]; exact hox1 _ (Option.some.inj hres).symm
          have hres := hresO1
          rw [← hy1] at hres
          refine JE.weak (env' := [(6, .slice a12 b1.length cp13)]) (es' := [rowT 96 eSToolMove a12 b1.length cp13 b1]) [0] ?_ ⟨(by subst hb1; rfl), trivial⟩ (by decide) (by subst hb1; rfl)
          refine JE.code ?_
          refine JX.seq ?_
          refine JX.region ?_
          refine JL.val (yl_move rfl) rfl ?_
          refine JL.val (yl_assign rfl) rfl ?_
          refine JL.val (yl_assign rfl) rfl ?_
          refine JL.nil ?_
          refine JE.code ?_
          refine JX.ret ?_
          obtain rfl := Option.some.inj hres
          refine JE.ret (rs := [.tmp 4, .tmp 5]) (vs := [.slice a12 b1.length cp13, .int .i64 0]) rfl ⟨rfl, rfl, trivial⟩ ?_
          exact fun w' hb hs => ⟨_, _, ⟨a12, b1.length, cp13, rfl, rfl, rfl⟩, rfl, hb, hs.sel [0] _ (by decide) rfl⟩

/- laws.eqToolMove -/
def sh88 (q0 : SToolMove) (q1 : SToolMove) : Option (Bool) := bif q0.X != q1.X then (some false) else (bif q0.Y != q1.Y then (some false) else (bif q0.Z != q1.Z then (some false) else (some true)))
def T88 (r : Bool) (v : Value) (rs : List Own) : Prop := v = rets [.bool r] ∧ rs = []
set_option maxRecDepth 100000 in
theorem c88 {w : World} {q0 : SToolMove} {q1 : SToolMove} {r : Bool} (hres : sh88 q0 q1 = some r) : Calls Go.Proofs.Try.prog 88 [.agg #[.int .i64 q0.X, .int .i64 q0.Y, .int .i64 q0.Z], .agg #[.int .i64 q1.X, .int .i64 q1.Y, .int .i64 q1.Z]].toArray w (Ret w (T88 r)) := by
  unfold sh88 at hres
  refine calls_of (n := 20) (M := []) (es := []) Go.Proofs.Try.func88 rfl rfl rfl (Sep.nil _ _ _) ?_
  refine JX.seq ?_
  refine JX.region ?_
  refine JL.eff (ef_box rfl rfl) rfl ?_
  rintro _ _ ⟨g1, rfl, rfl⟩
  refine JL.eff (ef_box rfl rfl) rfl ?_
  rintro _ _ ⟨g3, rfl, rfl⟩
  refine JL.val (yl_assign rfl) rfl ?_
  refine JL.nil ?_
  refine JE.code ?_
  refine JX.seq ?_
  refine JX.seq ?_
  refine JX.region ?_
  refine JL.val (yl_fieldAt (a := some _) Go.Proofs.Try.underlying96 rfl i2 i2n rfl rfl) rfl ?_
  refine JL.val (yl_load1 Go.Proofs.Try.underlying2 rfl rfl (fun w hC => rd_box hC 0 rfl) rfl) rfl ?_
  refine JL.val (yl_fieldAt (a := some _) Go.Proofs.Try.underlying96 rfl i2 i2n rfl rfl) rfl ?_
  refine JL.val (yl_load1 Go.Proofs.Try.underlying2 rfl rfl (fun w hC => rd_box hC 1 rfl) rfl) rfl ?_
  refine JL.val (yl_neq rfl rfl) rfl ?_
  refine JL.nil ?_
  refine JE.weak (env' := [(2, ptrAt (some ⟨g1, 0, none⟩) 0), (3, ptrAt (some ⟨g3, 0, none⟩) 0), (9, .bool (q0.X != q1.X))]) (es' := [boxO 96 g1 [.int .i64 q0.X, .int .i64 q0.Y, .int .i64 q0.Z], boxO 96 g3 [.int .i64 q1.X, .int .i64 q1.Y, .int .i64 q1.Z]]) [0, 1] ?_ ⟨rfl, rfl, rfl, trivial⟩ (by decide) rfl
  refine JE.code ?_
  rcases cond_some hres with ⟨hb, hres⟩ | ⟨hb, hres⟩
  · refine JX.condT rfl hb ?_
    refine JX.seq ?_
    refine JX.region ?_
    refine JL.val (yl_assign rfl) rfl ?_
    refine JL.nil ?_
    refine JE.weak (env' := [(4, .bool false)]) (es' := []) [] ?_ ⟨rfl, trivial⟩ (by decide) rfl
    refine JE.code ?_
    refine JX.ret ?_
    obtain rfl := Option.some.inj hres
    refine JE.ret (rs := [.tmp 4]) (vs := [.bool false]) rfl ⟨rfl, trivial⟩ ?_
    exact fun w' hb hs => ⟨_, _, ⟨rfl, rfl⟩, rfl, hb, hs.sel [] _ (by decide) rfl⟩
  · refine JX.condF rfl hb ?_
    refine JX.skip ?_
    refine JE.code ?_
    refine JX.seq ?_
    refine JX.seq ?_
    refine JX.region ?_
    refine JL.val (yl_fieldAt (a := some _) Go.Proofs.Try.underlying96 rfl i2 i2n rfl rfl) rfl ?_
    refine JL.val (yl_load1 Go.Proofs.Try.underlying2 rfl rfl (fun w hC => rd_box hC 0 rfl) rfl) rfl ?_
    refine JL.val (yl_fieldAt (a := some _) Go.Proofs.Try.underlying96 rfl i2 i2n rfl rfl) rfl ?_
    refine JL.val (yl_load1 Go.Proofs.Try.underlying2 rfl rfl (fun w hC => rd_box hC 1 rfl) rfl) rfl ?_
    refine JL.val (yl_neq rfl rfl) rfl ?_
    refine JL.nil ?_
    refine JE.weak (env' := [(2, ptrAt (some ⟨g1, 0, none⟩) 0), (3, ptrAt (some ⟨g3, 0, none⟩) 0), (14, .bool (q0.Y != q1.Y))]) (es' := [boxO 96 g1 [.int .i64 q0.X, .int .i64 q0.Y, .int .i64 q0.Z], boxO 96 g3 [.int .i64 q1.X, .int .i64 q1.Y, .int .i64 q1.Z]]) [0, 1] ?_ ⟨rfl, rfl, rfl, trivial⟩ (by decide) rfl
    refine JE.code ?_
    rcases cond_some hres with ⟨hb, hres⟩ | ⟨hb, hres⟩
    · refine JX.condT rfl hb ?_
      refine JX.seq ?_
      refine JX.region ?_
      refine JL.val (yl_assign rfl) rfl ?_
      refine JL.nil ?_
      refine JE.weak (env' := [(4, .bool false)]) (es' := []) [] ?_ ⟨rfl, trivial⟩ (by decide) rfl
      refine JE.code ?_
      refine JX.ret ?_
      obtain rfl := Option.some.inj hres
      refine JE.ret (rs := [.tmp 4]) (vs := [.bool false]) rfl ⟨rfl, trivial⟩ ?_
      exact fun w' hb hs => ⟨_, _, ⟨rfl, rfl⟩, rfl, hb, hs.sel [] _ (by decide) rfl⟩
    · refine JX.condF rfl hb ?_
      refine JX.skip ?_
      refine JE.code ?_
      refine JX.seq ?_
      refine JX.seq ?_
      refine JX.region ?_
      refine JL.val (yl_fieldAt (a := some _) Go.Proofs.Try.underlying96 rfl i2 i2n rfl rfl) rfl ?_
      refine JL.val (yl_load1 Go.Proofs.Try.underlying2 rfl rfl (fun w hC => rd_box hC 0 rfl) rfl) rfl ?_
      refine JL.val (yl_fieldAt (a := some _) Go.Proofs.Try.underlying96 rfl i2 i2n rfl rfl) rfl ?_
      refine JL.val (yl_load1 Go.Proofs.Try.underlying2 rfl rfl (fun w hC => rd_box hC 1 rfl) rfl) rfl ?_
      refine JL.val (yl_neq rfl rfl) rfl ?_
      refine JL.nil ?_
      refine JE.weak (env' := [(19, .bool (q0.Z != q1.Z))]) (es' := []) [] ?_ ⟨rfl, trivial⟩ (by decide) rfl
      refine JE.code ?_
      rcases cond_some hres with ⟨hb, hres⟩ | ⟨hb, hres⟩
      · refine JX.condT rfl hb ?_
        refine JX.seq ?_
        refine JX.region ?_
        refine JL.val (yl_assign rfl) rfl ?_
        refine JL.nil ?_
        refine JE.code ?_
        refine JX.ret ?_
        obtain rfl := Option.some.inj hres
        refine JE.ret (rs := [.tmp 4]) (vs := [.bool false]) rfl ⟨rfl, trivial⟩ ?_
        exact fun w' hb hs => ⟨_, _, ⟨rfl, rfl⟩, rfl, hb, hs.sel [] _ (by decide) rfl⟩
      · refine JX.condF rfl hb ?_
        refine JX.skip ?_
        refine JE.code ?_
        refine JX.seq ?_
        refine JX.region ?_
        refine JL.val (yl_assign rfl) rfl ?_
        refine JL.nil ?_
        refine JE.code ?_
        refine JX.ret ?_
        obtain rfl := Option.some.inj hres
        refine JE.ret (rs := [.tmp 4]) (vs := [.bool true]) rfl ⟨rfl, trivial⟩ ?_
        exact fun w' hb hs => ⟨_, _, ⟨rfl, rfl⟩, rfl, hb, hs.sel [] _ (by decide) rfl⟩

/- laws.eqToolMoveS -/
def sh42_1 (q0 : List SToolMove) (q1 : List SToolMove) : Int → Option (Int ⊕ (Unit ⊕ Bool))
  | x1 => bif decide (x1 < (q0.length : Int)) then (Option.bind (getI q0 x1) fun x3 => Option.bind (getI q1 x1) fun x4 => Option.bind (sh88 x3 x4) fun x5 => bif !x5 then (some (.inr (.inr false))) else (some (.inl (w64 (x1 + 1))))) else (some (.inr (.inl ())))
def sh42 (q0 : List SToolMove) (q1 : List SToolMove) : Option (Bool) := bif (q0.length : Int) != (q1.length : Int) then (some false) else (Option.bind (iter (sh42_1 q0 q1) 0) fun y1 => elimS y1 (fun r => some r) fun b1 => (some true))
def T42 (r : Bool) (v : Value) (rs : List Own) : Prop := v = rets [.bool r] ∧ rs = []
set_option maxRecDepth 100000 in
theorem c42 {w : World} {q0 : List SToolMove} {a_0 : Option Addr} {n_0 c_0 : Nat} (g_0 : Rd w a_0 (eSToolMove.fl q0)) (l_0 : q0.length = n_0) (k_0 : n_0 ≤ c_0) {q1 : List SToolMove} {a_1 : Option Addr} {n_1 c_1 : Nat} (g_1 : Rd w a_1 (eSToolMove.fl q1)) (l_1 : q1.length = n_1) (k_1 : n_1 ≤ c_1) {r : Bool} (hres : sh42 q0 q1 = some r) : Calls Go.Proofs.Try.prog 42 [.slice a_0 n_0 c_0, .slice a_1 n_1 c_1].toArray w (Ret w (T42 r)) := by
  subst l_0
  subst l_1
  unfold sh42 at hres
  refine calls_of (n := 27) (M := []) (es := []) Go.Proofs.Try.func42 rfl rfl rfl (Sep.nil _ _ _) ?_
  refine JX.seq ?_
  refine JX.region ?_
  refine JL.val (yl_assign rfl) rfl ?_
  refine JL.nil ?_
  refine JE.code ?_
  refine JX.seq ?_
  refine JX.seq ?_
  refine JX.region ?_
  refine JL.val (yl_move rfl) rfl ?_
  refine JL.val (yl_len_slice Go.Proofs.Try.underlying54 rfl) rfl ?_
  refine JL.val (yl_move rfl) rfl ?_
  refine JL.val (yl_len_slice Go.Proofs.Try.underlying54 rfl) rfl ?_
  refine JL.val (yl_neq rfl rfl) rfl ?_
  refine JL.nil ?_
  refine JE.weak (env' := [(0, .slice a_0 q0.length c_0), (1, .slice a_1 q1.length c_1), (10, .bool ((q0.length : Int) != (q1.length : Int)))]) (es' := []) [] ?_ ⟨rfl, rfl, rfl, trivial⟩ (by decide) rfl
  refine JE.code ?_
  rcases cond_some hres with ⟨hb, hres⟩ | ⟨hb, hres⟩
  · refine JX.condT rfl hb ?_
    refine JX.seq ?_
    refine JX.region ?_
    refine JL.val (yl_assign rfl) rfl ?_
    refine JL.nil ?_
    refine JE.code ?_
    refine JX.ret ?_
    obtain rfl := Option.some.inj hres
    refine JE.ret (rs := [.tmp 4]) (vs := [.bool false]) rfl ⟨rfl, trivial⟩ ?_
    exact fun w' hb hs => ⟨_, _, ⟨rfl, rfl⟩, rfl, hb, hs.sel [] _ (by decide) rfl⟩
  · refine JX.condF rfl hb ?_
    refine JX.skip ?_
    refine JE.code ?_
    refine JX.seq ?_
    refine JX.seq ?_
    refine JX.region ?_
    refine JL.val (yl_assign rfl) rfl ?_
    refine JL.nil ?_
    refine JE.code ?_
    refine JX.block ?_
    obtain ⟨y1, hy1, hresO1⟩ := bind_some hres
    refine JX.loop (I := fun (s1 : Int) aa ww => St w [] 27 [(0, .slice a_0 q0.length c_0), (1, .slice a_1 q1.length c_1), (5, .int .i64 s1)] [] aa ww) (sh42_1 q0 q1) hy1 (fun a w h => h.weak ⟨rfl, rfl, rfl, trivial⟩ [] (by decide) rfl) ?_
    rintro x1 o1 hres hox1 aa ww hS
    refine (?_ : JX Go.Proofs.Try.prog w [] 27 _ _ [(0, .slice a_0 q0.length c_0), (1, .slice a_1 q1.length c_1), (5, .int .i64 x1)] [] _) aa ww hS
    clear hS
    unfold sh42_1 at hres
    refine JX.seq ?_
    refine JX.seq ?_
    refine JX.region ?_
    refine JL.val (yl_move rfl) rfl ?_
    refine JL.val (yl_move rfl) rfl ?_
    refine JL.val (yl_len_slice Go.Proofs.Try.underlying54 rfl) rfl ?_
    refine JL.val (yl_lss rfl rfl) rfl ?_
    refine JL.nil ?_
    refine JE.weak (env' := [(0, .slice a_0 q0.length c_0), (1, .slice a_1 q1.length c_1), (5, .int .i64 x1), (14, .bool (decide (x1 < (q0.length : Int))))]) (es' := []) [] ?_ ⟨rfl, rfl, rfl, rfl, trivial⟩ (by decide) rfl
    refine JE.code ?_
    rcases cond_some hres with ⟨hb, hres⟩ | ⟨hb, hres⟩
    · refine JX.condT rfl hb ?_
      refine JX.skip ?_
      refine JE.code ?_
      refine JX.seq ?_
      refine JX.block ?_
      refine JX.seq ?_
      refine JX.drawH [(0, .pure), (1, .pure), (2, .pure), (3, .read), (4, .pure), (5, .pure), (6, .pure), (7, .read), (8, .must), (9, .pure)] [] [] [] [] [] mixedP rfl (by kernel_rfl) (by decide) rfl rfl ?_
      intro wrr2 Nr2 hFr2
      refine JH.pure rfl (yl_move rfl) rfl ?_
      refine JH.pure rfl (yl_move rfl) rfl ?_
      obtain ⟨x3, hx3, hres⟩ := bind_some hres
      refine JH.pure rfl (yl_idxQ Go.Proofs.Try.underlying54 i96 i96s rfl rfl hx3 rfl (rd_arg g_0 hFr2.cl) rfl) rfl ?_
      refine JH.read rfl (yl_loadTn Go.Proofs.Try.underlying96 rfl i96 i96s rfl hx3 (fun w hw => hFr2.arg g_0 hw)) rfl ?_
      refine JH.pure rfl (yl_move rfl) rfl ?_
      refine JH.pure rfl (yl_move rfl) rfl ?_
      obtain ⟨x4, hx4, hres⟩ := bind_some hres
      refine JH.pure rfl (yl_idxQ Go.Proofs.Try.underlying54 i96 i96s rfl rfl hx4 rfl (rd_arg g_1 hFr2.cl) rfl) rfl ?_
      refine JH.read rfl (yl_loadTn Go.Proofs.Try.underlying96 rfl i96 i96s rfl hx4 (fun w hw => hFr2.arg g_1 hw)) rfl ?_
      obtain ⟨x5, hx5, hres⟩ := bind_some hres
      refine JH.must rfl (ef_call (vs := [.agg #[.int .i64 x3.X, .int .i64 x3.Y, .int .i64 x3.Z], .agg #[.int .i64 x4.X, .int .i64 x4.Y, .int .i64 x4.Z]]) (T := T88 x5) Go.Proofs.Try.func88 rfl (by kernel_rfl) rfl (fun w hC => c88 (q0 := x3) (q1 := x4) hx5)) rfl rfl ?_
      rintro _ _ ⟨_, ⟨rfl, rfl⟩, rfl⟩
      refine JH.pure rfl (yl_not rfl) rfl ?_
      refine JH.nil ?_
      refine JE.weak (env' := [(0, .slice a_0 q0.length c_0), (1, .slice a_1 q1.length c_1), (5, .int .i64 x1), (26, .bool !x5)]) (es' := []) [] ?_ ⟨rfl, rfl, rfl, rfl, trivial⟩ (by decide) rfl
      refine JE.code ?_
      rcases cond_some hres with ⟨hb, hres⟩ | ⟨hb, hres⟩
      · refine JX.condT rfl hb ?_
        refine JX.seq ?_
        refine JX.region ?_
        refine JL.val (yl_assign rfl) rfl ?_
        refine JL.nil ?_
        refine JE.code ?_
        refine JX.ret ?_
        refine JE.qbr ?_
        refine JE.qbr ?_
        have hres := elimS_inr hresO1 (hox1 _ (Option.some.inj hres).symm)
        obtain rfl := Option.some.inj hres
        refine JE.ret (rs := [.tmp 4]) (vs := [.bool false]) rfl ⟨rfl, trivial⟩ ?_
        exact fun w' hb hs => ⟨_, _, ⟨rfl, rfl⟩, rfl, hb, hs.sel [] _ (by decide) rfl⟩
      · refine JX.condF rfl hb ?_
        refine JX.skip ?_
        refine JE.code ?_
        refine JX.region ?_
        refine JL.val (yl_move rfl) rfl ?_
        refine JL.val (yl_add rfl rfl) rfl ?_
        refine JL.val (yl_assign rfl) rfl ?_
        refine JL.nil ?_
        refine JE.cont hres ?_
        exact fun a w h => h.weak ⟨rfl, rfl, rfl, trivial⟩ [] (by decide) rfl
    · refine JX.condF rfl hb ?_
      refine JX.exit ?_
      refine JE.qb rfl ?_
      obtain ⟨b1, hb1⟩ : ∃ b : Unit, b = () := ⟨_, rfl⟩
      have hy1 : Sum.inl b1 = y1 := by rw [hb1]; exact hox1 _ (Option.some.inj hres).symm
      have hres := elimS_inl hresO1 hy1
      refine JE.weak (env' := []) (es' := []) [] ?_ trivial (by decide) (by subst hb1; rfl)
      refine JE.code ?_
      refine JX.seq ?_
      refine JX.region ?_
      refine JL.val (yl_assign rfl) rfl ?_
      refine JL.nil ?_
      refine JE.code ?_
      refine JX.ret ?_
      obtain rfl := Option.some.inj hres
      refine JE.ret (rs := [.tmp 4]) (vs := [.bool true]) rfl ⟨rfl, trivial⟩ ?_
      exact fun w' hb hs => ⟨_, _, ⟨rfl, rfl⟩, rfl, hb, hs.sel [] _ (by decide) rfl⟩

/- laws.markToolMoveS -/
def sh43_1 (q0 : List SToolMove) : (Int × Int × List SToolMove) → Option ((Int × Int × List SToolMove) ⊕ (Int × List SToolMove))
  | (x2, x3, x4) => bif decide (x3 < ((q0.length : Nat) : Int)) then (Option.bind (getI x4 x3) fun x6 => Option.bind (getI (x4.set (x3).toNat (SToolMove.mk x2 x6.Y x6.Z)) x3) fun x7 => Option.bind (getI ((x4.set (x3).toNat (SToolMove.mk x2 x6.Y x6.Z)).set (x3).toNat (SToolMove.mk x7.X (w64 (x2 + 1)) x7.Z)) x3) fun x8 => some (.inl (w64 ((w64 ((w64 (x2 + 1)) + 1)) + 1), w64 (x3 + 1), ((x4.set (x3).toNat (SToolMove.mk x2 x6.Y x6.Z)).set (x3).toNat (SToolMove.mk x7.X (w64 (x2 + 1)) x7.Z)).set (x3).toNat (SToolMove.mk x8.X x8.Y (w64 ((w64 (x2 + 1)) + 1)))))) else (some (.inr (x2, x4)))
def sh43 (q0 : List SToolMove) (q1 : Int) : Option (Int × List SToolMove) := Option.bind (iter (sh43_1 q0) (q1, 0, q0)) fun b1 => (some (b1.1, b1.2))
def T43 (a_ : Option Addr) (n_ c_ : Nat) (r : Int × List SToolMove) (v : Value) (e' : Own) (rs : List Own) : Prop := r.2.length = n_ ∧ e' = rowT 96 eSToolMove a_ n_ c_ r.2 ∧ v = rets [.int .i64 r.1] ∧ rs = []
set_option maxRecDepth 100000 in
theorem c43 {w : World} {q0 : List SToolMove} {a_0 : Option Addr} {n_0 c_0 : Nat} {M : List Nat} (g_0 : Sep w.heap.size M w [rowT 96 eSToolMove a_0 n_0 c_0 q0]) (l_0 : q0.length = n_0) {q1 : Int} {r : Int × List SToolMove} (hres : sh43 q0 q1 = some r) : Calls Go.Proofs.Try.prog 43 [.slice a_0 n_0 c_0, .int .i64 q1].toArray w (RetM w M (T43 a_0 n_0 c_0 r)) := by
  subst l_0
  unfold sh43 at hres
  refine calls_of (n := 34) (M := M) (es := [rowT 96 eSToolMove a_0 q0.length c_0 q0]) Go.Proofs.Try.func43 rfl rfl rfl g_0 ?_
  refine JX.seq ?_
  refine JX.region ?_
  refine JL.val (yl_assign rfl) rfl ?_
  refine JL.nil ?_
  refine JE.code ?_
  refine JX.seq ?_
  refine JX.seq ?_
  refine JX.region ?_
  refine JL.val (yl_assign rfl) rfl ?_
  refine JL.nil ?_
  refine JE.code ?_
  refine JX.block ?_
  obtain ⟨y1, hy1, hresO1⟩ := bind_some hres
  refine JX.loop (I := fun (s1 : Int × Int × List SToolMove) aa ww => ∃ (l1 : s1.2.2.length = q0.length), St w M 34 [(0, .slice a_0 q0.length c_0), (1, .int .i64 s1.1), (5, .int .i64 s1.2.1)] [rowT 96 eSToolMove a_0 q0.length c_0 s1.2.2] aa ww) (sh43_1 q0) hy1 (fun a w h => ⟨rfl, h.weak ⟨rfl, rfl, rfl, trivial⟩ [0] (by decide) rfl⟩) ?_
  rintro ⟨x2, x3, x4⟩ o1 hres hox1 aa ww ⟨l5, hS⟩
  refine (?_ : JX Go.Proofs.Try.prog w M 34 _ _ [(0, .slice a_0 q0.length c_0), (1, .int .i64 x2), (5, .int .i64 x3)] [rowT 96 eSToolMove a_0 q0.length c_0 x4] _) aa ww hS
  clear hS
  simp only [sh43_1] at hres
  refine JX.seq ?_
  refine JX.seq ?_
  refine JX.region ?_
  refine JL.val (yl_move rfl) rfl ?_
  refine JL.val (yl_move rfl) rfl ?_
  refine JL.val (yl_len_slice Go.Proofs.Try.underlying54 rfl) rfl ?_
  refine JL.val (yl_lss rfl rfl) rfl ?_
  refine JL.nil ?_
  refine JE.weak (env' := [(0, .slice a_0 q0.length c_0), (1, .int .i64 x2), (5, .int .i64 x3), (9, .bool (decide (x3 < ((q0.length : Nat) : Int))))]) (es' := [rowT 96 eSToolMove a_0 q0.length c_0 x4]) [0] ?_ ⟨rfl, rfl, rfl, rfl, trivial⟩ (by decide) rfl
  refine JE.code ?_
  rcases cond_some hres with ⟨hb, hres⟩ | ⟨hb, hres⟩
  · refine JX.condT rfl hb ?_
    refine JX.skip ?_
    refine JE.code ?_
    refine JX.seq ?_
    refine JX.block ?_
    refine JX.seq ?_
    refine JX.region ?_
    refine JL.val (yl_move rfl) rfl ?_
    refine JL.val (yl_move rfl) rfl ?_
    refine JL.val (yl_move rfl) rfl ?_
    obtain ⟨x6, hx6, hres⟩ := bind_some hres
    refine JL.val (yl_idxT Go.Proofs.Try.underlying54 i96 i96s rfl rfl hx6 l5 (fun w hC => rd_row hC 0 rfl)) rfl ?_
    refine JL.val (yl_fieldAtT Go.Proofs.Try.underlying96 rfl i2 i2n rfl hx6 (fun w hC => rd_row hC 0 rfl)) rfl ?_
    refine JL.eff (ef_storeF (ix := 0) (u := SToolMove.mk x2 x6.Y x6.Z) i2 i2s rfl rfl rfl hx6 (by decide) rfl rfl rfl) rfl ?_
    rintro _ _ rfl
    refine JL.nil ?_
    refine JE.weak (env' := [(0, .slice a_0 q0.length c_0), (1, .int .i64 x2), (5, .int .i64 x3)]) (es' := [rowT 96 eSToolMove a_0 q0.length c_0 (x4.set (x3).toNat (SToolMove.mk x2 x6.Y x6.Z))]) [0] ?_ ⟨rfl, rfl, rfl, trivial⟩ (by decide) rfl
    refine JE.code ?_
    refine JX.seq ?_
    refine JX.region ?_
    refine JL.val (yl_move rfl) rfl ?_
    refine JL.val (yl_add rfl rfl) rfl ?_
    refine JL.val (yl_assign rfl) rfl ?_
    refine JL.nil ?_
    refine JE.code ?_
    refine JX.seq ?_
    refine JX.region ?_
    refine JL.val (yl_move rfl) rfl ?_
    refine JL.val (yl_move rfl) rfl ?_
    refine JL.val (yl_move rfl) rfl ?_
    obtain ⟨x7, hx7, hres⟩ := bind_some hres
    refine JL.val (yl_idxT Go.Proofs.Try.underlying54 i96 i96s rfl rfl hx7 (List.length_set.trans l5) (fun w hC => rd_row hC 0 rfl)) rfl ?_
    refine JL.val (yl_fieldAtT Go.Proofs.Try.underlying96 rfl i2 i2n rfl hx7 (fun w hC => rd_row hC 0 rfl)) rfl ?_
    refine JL.eff (ef_storeF (ix := 0) (u := SToolMove.mk x7.X (w64 (x2 + 1)) x7.Z) i2 i2s rfl rfl rfl hx7 (by decide) rfl rfl rfl) rfl ?_
    rintro _ _ rfl
    refine JL.nil ?_
    refine JE.weak (env' := [(0, .slice a_0 q0.length c_0), (1, .int .i64 (w64 (x2 + 1))), (5, .int .i64 x3)]) (es' := [rowT 96 eSToolMove a_0 q0.length c_0 ((x4.set (x3).toNat (SToolMove.mk x2 x6.Y x6.Z)).set (x3).toNat (SToolMove.mk x7.X (w64 (x2 + 1)) x7.Z))]) [0] ?_ ⟨rfl, rfl, rfl, trivial⟩ (by decide) rfl
    refine JE.code ?_
    refine JX.seq ?_
    refine JX.region ?_
    refine JL.val (yl_move rfl) rfl ?_
    refine JL.val (yl_add rfl rfl) rfl ?_
    refine JL.val (yl_assign rfl) rfl ?_
    refine JL.nil ?_
    refine JE.code ?_
    refine JX.seq ?_
    refine JX.region ?_
    refine JL.val (yl_move rfl) rfl ?_
    refine JL.val (yl_move rfl) rfl ?_
    refine JL.val (yl_move rfl) rfl ?_
    obtain ⟨x8, hx8, hres⟩ := bind_some hres
    refine JL.val (yl_idxT Go.Proofs.Try.underlying54 i96 i96s rfl rfl hx8 (List.length_set.trans (List.length_set.trans l5)) (fun w hC => rd_row hC 0 rfl)) rfl ?_
    refine JL.val (yl_fieldAtT Go.Proofs.Try.underlying96 rfl i2 i2n rfl hx8 (fun w hC => rd_row hC 0 rfl)) rfl ?_
    refine JL.eff (ef_storeF (ix := 0) (u := SToolMove.mk x8.X x8.Y (w64 ((w64 (x2 + 1)) + 1))) i2 i2s rfl rfl rfl hx8 (by decide) rfl rfl rfl) rfl ?_
    rintro _ _ rfl
    refine JL.nil ?_
    refine JE.weak (env' := [(0, .slice a_0 q0.length c_0), (1, .int .i64 (w64 ((w64 (x2 + 1)) + 1))), (5, .int .i64 x3)]) (es' := [rowT 96 eSToolMove a_0 q0.length c_0 (((x4.set (x3).toNat (SToolMove.mk x2 x6.Y x6.Z)).set (x3).toNat (SToolMove.mk x7.X (w64 (x2 + 1)) x7.Z)).set (x3).toNat (SToolMove.mk x8.X x8.Y (w64 ((w64 (x2 + 1)) + 1))))]) [0] ?_ ⟨rfl, rfl, rfl, trivial⟩ (by decide) rfl
    refine JE.code ?_
    refine JX.region ?_
    refine JL.val (yl_move rfl) rfl ?_
    refine JL.val (yl_add rfl rfl) rfl ?_
    refine JL.val (yl_assign rfl) rfl ?_
    refine JL.nil ?_
    refine JE.code ?_
    refine JX.region ?_
    refine JL.val (yl_move rfl) rfl ?_
    refine JL.val (yl_add rfl rfl) rfl ?_
    refine JL.val (yl_assign rfl) rfl ?_
    refine JL.nil ?_
    refine JE.cont hres ?_
    exact fun a w h => ⟨(List.length_set.trans (List.length_set.trans (List.length_set.trans l5))), h.weak ⟨rfl, rfl, rfl, trivial⟩ [0] (by decide) rfl⟩
  · refine JX.condF rfl hb ?_
    refine JX.exit ?_
    refine JE.qb rfl ?_
    obtain ⟨b1, hb1⟩ : ∃ b : Int × List SToolMove, b = (x2, x4) := ⟨_, rfl⟩
    have hy1 : b1 = y1 := by rw [hb1]; exact hox1 _ (Option.some.inj hres).symm
    have hres := hresO1
    rw [← hy1] at hres
    have l9 : b1.2.length = q0.length := by subst hb1; exact l5
    refine JE.weak (env' := [(1, .int .i64 b1.1)]) (es' := [rowT 96 eSToolMove a_0 q0.length c_0 b1.2]) [0] ?_ ⟨(by subst hb1; rfl), trivial⟩ (by decide) (by subst hb1; rfl)
    refine JE.code ?_
    refine JX.seq ?_
    refine JX.region ?_
    refine JL.val (yl_move rfl) rfl ?_
    refine JL.val (yl_assign rfl) rfl ?_
    refine JL.nil ?_
    refine JE.code ?_
    refine JX.ret ?_
    obtain rfl := Option.some.inj hres
    refine JE.ret (rs := [.tmp 4]) (vs := [.int .i64 b1.1]) rfl ⟨rfl, trivial⟩ ?_
    exact fun w' hb hs => ⟨_, _, _, ⟨l9, rfl, rfl, rfl⟩, rfl, hb, hs.sel [0] _ (by decide) rfl⟩

/- laws.heldToolMoveS -/
def sh44_1 (q0 : List SToolMove) : (Int × Int) → Option ((Int × Int) ⊕ (Int ⊕ Int))
  | (x1, x2) => bif decide (x2 < (q0.length : Int)) then (Option.bind (getI q0 x2) fun x3 => bif x3.X != x1 then (some (.inr (.inr (-1)))) else (Option.bind (getI q0 x2) fun x4 => bif x4.Y != (w64 (x1 + 1)) then (some (.inr (.inr (-1)))) else (Option.bind (getI q0 x2) fun x5 => bif x5.Z != (w64 ((w64 (x1 + 1)) + 1)) then (some (.inr (.inr (-1)))) else (some (.inl (w64 ((w64 ((w64 (x1 + 1)) + 1)) + 1), w64 (x2 + 1))))))) else (some (.inr (.inl x1)))
def sh44 (q0 : List SToolMove) (q1 : Int) : Option (Int) := Option.bind (iter (sh44_1 q0) (q1, 0)) fun y1 => elimS y1 (fun r => some r) fun b1 => (some b1)
def T44 (r : Int) (v : Value) (rs : List Own) : Prop := v = rets [.int .i64 r] ∧ rs = []
set_option maxRecDepth 100000 in
theorem c44 {w : World} {q0 : List SToolMove} {a_0 : Option Addr} {n_0 c_0 : Nat} (g_0 : Rd w a_0 (eSToolMove.fl q0)) (l_0 : q0.length = n_0) (k_0 : n_0 ≤ c_0) {q1 : Int} {r : Int} (hres : sh44 q0 q1 = some r) : Calls Go.Proofs.Try.prog 44 [.slice a_0 n_0 c_0, .int .i64 q1].toArray w (Ret w (T44 r)) := by
  subst l_0
  unfold sh44 at hres
  refine calls_of (n := 40) (M := []) (es := []) Go.Proofs.Try.func44 rfl rfl rfl (Sep.nil _ _ _) ?_
  refine JX.seq ?_
  refine JX.region ?_
  refine JL.val (yl_assign rfl) rfl ?_
  refine JL.nil ?_
  refine JE.code ?_
  refine JX.seq ?_
  refine JX.seq ?_
  refine JX.region ?_
  refine JL.val (yl_assign rfl) rfl ?_
  refine JL.nil ?_
  refine JE.code ?_
  refine JX.block ?_
  obtain ⟨y1, hy1, hresO1⟩ := bind_some hres
  refine JX.loop (I := fun (s1 : Int × Int) aa ww => St w [] 40 [(0, .slice a_0 q0.length c_0), (1, .int .i64 s1.1), (5, .int .i64 s1.2)] [] aa ww) (sh44_1 q0) hy1 (fun a w h => h.weak ⟨rfl, rfl, rfl, trivial⟩ [] (by decide) rfl) ?_
  rintro ⟨x1, x2⟩ o1 hres hox1 aa ww hS
  refine (?_ : JX Go.Proofs.Try.prog w [] 40 _ _ [(0, .slice a_0 q0.length c_0), (1, .int .i64 x1), (5, .int .i64 x2)] [] _) aa ww hS
  clear hS
  simp only [sh44_1] at hres
  refine JX.seq ?_
  refine JX.seq ?_
  refine JX.region ?_
  refine JL.val (yl_move rfl) rfl ?_
  refine JL.val (yl_move rfl) rfl ?_
  refine JL.val (yl_len_slice Go.Proofs.Try.underlying54 rfl) rfl ?_
  refine JL.val (yl_lss rfl rfl) rfl ?_
  refine JL.nil ?_
  refine JE.weak (env' := [(0, .slice a_0 q0.length c_0), (1, .int .i64 x1), (5, .int .i64 x2), (9, .bool (decide (x2 < (q0.length : Int))))]) (es' := []) [] ?_ ⟨rfl, rfl, rfl, rfl, trivial⟩ (by decide) rfl
  refine JE.code ?_
  rcases cond_some hres with ⟨hb, hres⟩ | ⟨hb, hres⟩
  · refine JX.condT rfl hb ?_
    refine JX.skip ?_
    refine JE.code ?_
    refine JX.seq ?_
    refine JX.block ?_
    refine JX.seq ?_
    refine JX.seq ?_
    refine JX.region ?_
    refine JL.val (yl_move rfl) rfl ?_
    refine JL.val (yl_move rfl) rfl ?_
    obtain ⟨x3, hx3, hres⟩ := bind_some hres
    refine JL.val (yl_idxT Go.Proofs.Try.underlying54 i96 i96s rfl rfl hx3 rfl (fun w hC => rd_arg g_0 hC)) rfl ?_
    refine JL.val (yl_fieldAtT Go.Proofs.Try.underlying96 rfl i2 i2n rfl hx3 (fun w hC => rd_arg g_0 hC)) rfl ?_
    refine JL.val (yl_loadT1 Go.Proofs.Try.underlying2 rfl rfl hx3 (fun w hC => rd_arg g_0 hC) rfl) rfl ?_
    refine JL.val (yl_move rfl) rfl ?_
    refine JL.val (yl_neq rfl rfl) rfl ?_
    refine JL.nil ?_
    refine JE.weak (env' := [(0, .slice a_0 q0.length c_0), (1, .int .i64 x1), (5, .int .i64 x2), (18, .bool (x3.X != x1))]) (es' := []) [] ?_ ⟨rfl, rfl, rfl, rfl, trivial⟩ (by decide) rfl
    refine JE.code ?_
    rcases cond_some hres with ⟨hb, hres⟩ | ⟨hb, hres⟩
    · refine JX.condT rfl hb ?_
      refine JX.seq ?_
      refine JX.region ?_
      refine JL.val (yl_assign rfl) rfl ?_
      refine JL.nil ?_
      refine JE.code ?_
      refine JX.ret ?_
      refine JE.qbr ?_
      refine JE.qbr ?_
      have hres := elimS_inr hresO1 (hox1 _ (Option.some.inj hres).symm)
      obtain rfl := Option.some.inj hres
      refine JE.ret (rs := [.tmp 4]) (vs := [.int .i64 (-1)]) rfl ⟨rfl, trivial⟩ ?_
      exact fun w' hb hs => ⟨_, _, ⟨rfl, rfl⟩, rfl, hb, hs.sel [] _ (by decide) rfl⟩
    · refine JX.condF rfl hb ?_
      refine JX.skip ?_
      refine JE.code ?_
      refine JX.seq ?_
      refine JX.region ?_
      refine JL.val (yl_move rfl) rfl ?_
      refine JL.val (yl_add rfl rfl) rfl ?_
      refine JL.val (yl_assign rfl) rfl ?_
      refine JL.nil ?_
      refine JE.code ?_
      refine JX.seq ?_
      refine JX.seq ?_
      refine JX.region ?_
      refine JL.val (yl_move rfl) rfl ?_
      refine JL.val (yl_move rfl) rfl ?_
      obtain ⟨x4, hx4, hres⟩ := bind_some hres
      refine JL.val (yl_idxT Go.Proofs.Try.underlying54 i96 i96s rfl rfl hx4 rfl (fun w hC => rd_arg g_0 hC)) rfl ?_
      refine JL.val (yl_fieldAtT Go.Proofs.Try.underlying96 rfl i2 i2n rfl hx4 (fun w hC => rd_arg g_0 hC)) rfl ?_
      refine JL.val (yl_loadT1 Go.Proofs.Try.underlying2 rfl rfl hx4 (fun w hC => rd_arg g_0 hC) rfl) rfl ?_
      refine JL.val (yl_move rfl) rfl ?_
      refine JL.val (yl_neq rfl rfl) rfl ?_
      refine JL.nil ?_
      refine JE.weak (env' := [(0, .slice a_0 q0.length c_0), (1, .int .i64 (w64 (x1 + 1))), (5, .int .i64 x2), (27, .bool (x4.Y != (w64 (x1 + 1))))]) (es' := []) [] ?_ ⟨rfl, rfl, rfl, rfl, trivial⟩ (by decide) rfl
      refine JE.code ?_
      rcases cond_some hres with ⟨hb, hres⟩ | ⟨hb, hres⟩
      · refine JX.condT rfl hb ?_
        refine JX.seq ?_
        refine JX.region ?_
        refine JL.val (yl_assign rfl) rfl ?_
        refine JL.nil ?_
        refine JE.code ?_
        refine JX.ret ?_
        refine JE.qbr ?_
        refine JE.qbr ?_
        have hres := elimS_inr hresO1 (hox1 _ (Option.some.inj hres).symm)
        obtain rfl := Option.some.inj hres
        refine JE.ret (rs := [.tmp 4]) (vs := [.int .i64 (-1)]) rfl ⟨rfl, trivial⟩ ?_
        exact fun w' hb hs => ⟨_, _, ⟨rfl, rfl⟩, rfl, hb, hs.sel [] _ (by decide) rfl⟩
      · refine JX.condF rfl hb ?_
        refine JX.skip ?_
        refine JE.code ?_
        refine JX.seq ?_
        refine JX.region ?_
        refine JL.val (yl_move rfl) rfl ?_
        refine JL.val (yl_add rfl rfl) rfl ?_
        refine JL.val (yl_assign rfl) rfl ?_
        refine JL.nil ?_
        refine JE.code ?_
        refine JX.seq ?_
        refine JX.seq ?_
        refine JX.region ?_
        refine JL.val (yl_move rfl) rfl ?_
        refine JL.val (yl_move rfl) rfl ?_
        obtain ⟨x5, hx5, hres⟩ := bind_some hres
        refine JL.val (yl_idxT Go.Proofs.Try.underlying54 i96 i96s rfl rfl hx5 rfl (fun w hC => rd_arg g_0 hC)) rfl ?_
        refine JL.val (yl_fieldAtT Go.Proofs.Try.underlying96 rfl i2 i2n rfl hx5 (fun w hC => rd_arg g_0 hC)) rfl ?_
        refine JL.val (yl_loadT1 Go.Proofs.Try.underlying2 rfl rfl hx5 (fun w hC => rd_arg g_0 hC) rfl) rfl ?_
        refine JL.val (yl_move rfl) rfl ?_
        refine JL.val (yl_neq rfl rfl) rfl ?_
        refine JL.nil ?_
        refine JE.weak (env' := [(0, .slice a_0 q0.length c_0), (1, .int .i64 (w64 ((w64 (x1 + 1)) + 1))), (5, .int .i64 x2), (36, .bool (x5.Z != (w64 ((w64 (x1 + 1)) + 1))))]) (es' := []) [] ?_ ⟨rfl, rfl, rfl, rfl, trivial⟩ (by decide) rfl
        refine JE.code ?_
        rcases cond_some hres with ⟨hb, hres⟩ | ⟨hb, hres⟩
        · refine JX.condT rfl hb ?_
          refine JX.seq ?_
          refine JX.region ?_
          refine JL.val (yl_assign rfl) rfl ?_
          refine JL.nil ?_
          refine JE.code ?_
          refine JX.ret ?_
          refine JE.qbr ?_
          refine JE.qbr ?_
          have hres := elimS_inr hresO1 (hox1 _ (Option.some.inj hres).symm)
          obtain rfl := Option.some.inj hres
          refine JE.ret (rs := [.tmp 4]) (vs := [.int .i64 (-1)]) rfl ⟨rfl, trivial⟩ ?_
          exact fun w' hb hs => ⟨_, _, ⟨rfl, rfl⟩, rfl, hb, hs.sel [] _ (by decide) rfl⟩
        · refine JX.condF rfl hb ?_
          refine JX.skip ?_
          refine JE.code ?_
          refine JX.region ?_
          refine JL.val (yl_move rfl) rfl ?_
          refine JL.val (yl_add rfl rfl) rfl ?_
          refine JL.val (yl_assign rfl) rfl ?_
          refine JL.nil ?_
          refine JE.code ?_
          refine JX.region ?_
          refine JL.val (yl_move rfl) rfl ?_
          refine JL.val (yl_add rfl rfl) rfl ?_
          refine JL.val (yl_assign rfl) rfl ?_
          refine JL.nil ?_
          refine JE.cont hres ?_
          exact fun a w h => h.weak ⟨rfl, rfl, rfl, trivial⟩ [] (by decide) rfl
  · refine JX.condF rfl hb ?_
    refine JX.exit ?_
    refine JE.qb rfl ?_
    obtain ⟨b1, hb1⟩ : ∃ b : Int, b = x1 := ⟨_, rfl⟩
    have hy1 : Sum.inl b1 = y1 := by rw [hb1]; exact hox1 _ (Option.some.inj hres).symm
    have hres := elimS_inl hresO1 hy1
    refine JE.weak (env' := [(1, .int .i64 b1)]) (es' := []) [] ?_ ⟨(by subst hb1; rfl), trivial⟩ (by decide) (by subst hb1; rfl)
    refine JE.code ?_
    refine JX.seq ?_
    refine JX.region ?_
    refine JL.val (yl_move rfl) rfl ?_
    refine JL.val (yl_assign rfl) rfl ?_
    refine JL.nil ?_
    refine JE.code ?_
    refine JX.ret ?_
    obtain rfl := Option.some.inj hres
    refine JE.ret (rs := [.tmp 4]) (vs := [.int .i64 b1]) rfl ⟨rfl, trivial⟩ ?_
    exact fun w' hb hs => ⟨_, _, ⟨rfl, rfl⟩, rfl, hb, hs.sel [] _ (by decide) rfl⟩

/- laws.FnExactLayersOf -/
def sh8 (q0 : List SToolMove) (q1 : Int) : Option (Bool) := Option.bind (sh38 q0 1048576) fun x1 => bif decide (x1 < 0) then (some true) else (Option.bind (sh40 q0) fun x2 => Option.bind (sh39 x2 q1) fun x6 => Option.bind (sh40 q0) fun x10 => Option.bind (sh41 x10 q1) fun x14 => Option.bind (sh42 x14.1 x6.1) fun x18 => bif !x18 || (x14.2 != x6.2) then (some false) else (Option.bind (sh40 q0) fun x19 => Option.bind (sh42 x10 x19) fun x23 => bif !x23 then (some false) else (Option.bind (sh43 x10 1) fun x24 => Option.bind (bif decide (x24.1 < 0) then (some true) else (Option.bind (sh42 x14.1 x6.1) fun x27 => some !x27)) fun c26 => (bif c26 || (x14.2 != x6.2) then (some false) else (Option.bind (sh43 x14.1 1) fun x28 => Option.bind (sh44 x28.2 1) fun x30 => bif decide (x30 < 0) then (some false) else (bif x30 != x28.1 then (some false) else (Option.bind (sh40 q0) fun x31 => Option.bind (sh41 x31 q1) fun x35 => Option.bind (sh42 x35.1 x6.1) fun x39 => bif !x39 || (x35.2 != x6.2) then (some false) else (Option.bind (sh44 x28.2 1) fun x40 => bif decide (x40 < 0) then (some false) else (bif x40 != x28.1 then (some false) else (some true))))))))))
def T8 (r : Bool) (v : Value) (rs : List Own) : Prop := v = rets [.bool r] ∧ rs = []
set_option maxRecDepth 100000 in
theorem c8 {w : World} {q0 : List SToolMove} {a_0 : Option Addr} {n_0 c_0 : Nat} (g_0 : Rd w a_0 (eSToolMove.fl q0)) (l_0 : q0.length = n_0) (k_0 : n_0 ≤ c_0) {q1 : Int} {r : Bool} (hres : sh8 q0 q1 = some r) : Calls Go.Proofs.Try.prog 8 [.slice a_0 n_0 c_0, .int .i64 q1].toArray w (Ret w (T8 r)) := by
  subst l_0
  unfold sh8 at hres
  refine calls_of (n := 101) (M := []) (es := []) Go.Proofs.Try.func8 rfl rfl rfl (Sep.nil _ _ _) ?_
  refine JX.seq ?_
  refine JX.region ?_
  refine JL.val (yl_assign rfl) rfl ?_
  refine JL.nil ?_
  refine JE.code ?_
  refine JX.seq ?_
  refine JX.region ?_
  refine JL.val (yl_assign rfl) rfl ?_
  refine JL.nil ?_
  refine JE.code ?_
  refine JX.seq ?_
  refine JX.region ?_
  refine JL.val (yl_move rfl) rfl ?_
  refine JL.val (yl_move rfl) rfl ?_
  obtain ⟨x1, hx1, hres⟩ := bind_some hres
  refine JL.eff (ef_call (T := T38 x1) Go.Proofs.Try.func38 rfl (by kernel_rfl) rfl (fun w hC => c38 (rd_arg g_0 hC) rfl k_0 hx1)) rfl ?_
  rintro _ _ ⟨_, ⟨rfl, rfl⟩, rfl⟩
  refine JL.val (yl_assign rfl) rfl ?_
  refine JL.nil ?_
  refine JE.weak (env' := [(0, .slice a_0 q0.length c_0), (1, .int .i64 q1), (5, .int .i64 x1)]) (es' := []) [] ?_ ⟨rfl, rfl, rfl, trivial⟩ (by decide) rfl
  refine JE.code ?_
  refine JX.seq ?_
  refine JX.seq ?_
  refine JX.region ?_
  refine JL.val (yl_move rfl) rfl ?_
  refine JL.val (yl_lss rfl rfl) rfl ?_
  refine JL.nil ?_
  refine JE.code ?_
  rcases cond_some hres with ⟨hb, hres⟩ | ⟨hb, hres⟩
  · refine JX.condT rfl hb ?_
    refine JX.seq ?_
    refine JX.region ?_
    refine JL.val (yl_assign rfl) rfl ?_
    refine JL.nil ?_
    refine JE.code ?_
    refine JX.ret ?_
    obtain rfl := Option.some.inj hres
    refine JE.ret (rs := [.tmp 4]) (vs := [.bool true]) rfl ⟨rfl, trivial⟩ ?_
    exact fun w' hb hs => ⟨_, _, ⟨rfl, rfl⟩, rfl, hb, hs.sel [] _ (by decide) rfl⟩
  · refine JX.condF rfl hb ?_
    refine JX.skip ?_
    refine JE.code ?_
    refine JX.seq ?_
    refine JX.region ?_
    refine JL.val (yl_move rfl) rfl ?_
    obtain ⟨x2, hx2, hres⟩ := bind_some hres
    refine JL.eff (ef_call (T := T40 x2) Go.Proofs.Try.func40 rfl (by kernel_rfl) rfl (fun w hC => c40 (rd_arg g_0 hC) rfl k_0 hx2)) rfl ?_
    rintro _ _ ⟨_, ⟨a3, _, cp4, rfl, rfl, rfl⟩, rfl⟩
    refine JL.val (yl_move rfl) rfl ?_
    obtain ⟨x6, hx6, hres⟩ := bind_some hres
    refine JL.eff (ef_call (T := T39 x6) Go.Proofs.Try.func39 rfl (by kernel_rfl) rfl (fun w hC => c39 (rd_row hC 0 rfl) rfl (ln_row hC 0 rfl) hx6)) rfl ?_
    rintro _ _ ⟨_, ⟨a7, _, cp8, rfl, rfl, rfl⟩, rfl⟩
    refine JL.val (yl_move rfl) rfl ?_
    refine JL.val (yl_extract rfl rfl) rfl ?_
    refine JL.val (yl_extract rfl rfl) rfl ?_
    refine JL.val (yl_assign rfl) rfl ?_
    refine JL.val (yl_assign rfl) rfl ?_
    refine JL.nil ?_
    refine JE.weak (env' := [(0, .slice a_0 q0.length c_0), (1, .int .i64 q1), (6, .slice a7 x6.1.length cp8), (7, .int .i64 x6.2)]) (es' := [rowT 96 eSToolMove a7 x6.1.length cp8 x6.1]) [1] ?_ ⟨rfl, rfl, rfl, rfl, trivial⟩ (by decide) rfl
    refine JE.code ?_
    refine JX.seq ?_
    refine JX.region ?_
    refine JL.val (yl_move rfl) rfl ?_
    obtain ⟨x10, hx10, hres⟩ := bind_some hres
    refine JL.eff (ef_call (T := T40 x10) Go.Proofs.Try.func40 rfl (by kernel_rfl) rfl (fun w hC => c40 (rd_arg g_0 hC) rfl k_0 hx10)) rfl ?_
    rintro _ _ ⟨_, ⟨a11, _, cp12, rfl, rfl, rfl⟩, rfl⟩
    refine JL.val (yl_assign rfl) rfl ?_
    refine JL.nil ?_
    refine JE.code ?_
    refine JX.seq ?_
    refine JX.region ?_
    refine JL.val (yl_move rfl) rfl ?_
    refine JL.val (yl_move rfl) rfl ?_
    obtain ⟨x14, hx14, hres⟩ := bind_some hres
    refine JL.eff (ef_call (T := T41 x14) Go.Proofs.Try.func41 rfl (by kernel_rfl) rfl (fun w hC => c41 (rd_row hC 1 rfl) rfl (ln_row hC 1 rfl) hx14)) rfl ?_
    rintro _ _ ⟨_, ⟨a15, _, cp16, rfl, rfl, rfl⟩, rfl⟩
    refine JL.val (yl_move rfl) rfl ?_
    refine JL.val (yl_extract rfl rfl) rfl ?_
    refine JL.val (yl_extract rfl rfl) rfl ?_
    refine JL.val (yl_assign rfl) rfl ?_
    refine JL.val (yl_assign rfl) rfl ?_
    refine JL.nil ?_
    refine JE.weak (env' := [(0, .slice a_0 q0.length c_0), (1, .int .i64 q1), (6, .slice a7 x6.1.length cp8), (7, .int .i64 x6.2), (8, .slice a11 x10.length cp12), (9, .slice a15 x14.1.length cp16), (10, .int .i64 x14.2)]) (es' := [rowT 96 eSToolMove a7 x6.1.length cp8 x6.1, rowT 96 eSToolMove a11 x10.length cp12 x10, rowT 96 eSToolMove a15 x14.1.length cp16 x14.1]) [0, 1, 2] ?_ ⟨rfl, rfl, rfl, rfl, rfl, rfl, rfl, trivial⟩ (by decide) rfl
    refine JE.code ?_
    refine JX.seq ?_
    refine JX.seq ?_
    refine JX.region ?_
    refine JL.val (yl_move rfl) rfl ?_
    refine JL.val (yl_move rfl) rfl ?_
    obtain ⟨x18, hx18, hres⟩ := bind_some hres
    refine JL.eff (ef_call (T := T42 x18) Go.Proofs.Try.func42 rfl (by kernel_rfl) rfl (fun w hC => c42 (rd_row hC 2 rfl) rfl (ln_row hC 2 rfl) (rd_row hC 0 rfl) rfl (ln_row hC 0 rfl) hx18)) rfl ?_
    rintro _ _ ⟨_, ⟨rfl, rfl⟩, rfl⟩
    refine JL.val (yl_not rfl) rfl ?_
    refine JL.val (yl_move rfl) rfl ?_
    refine JL.cut (K := fun J => J [(0, .slice a_0 q0.length c_0), (1, .int .i64 q1), (6, .slice a7 x6.1.length cp8), (7, .int .i64 x6.2), (8, .slice a11 x10.length cp12), (9, .slice a15 x14.1.length cp16), (10, .int .i64 x14.2), (44, .bool (!x18 || (x14.2 != x6.2)))] [rowT 96 eSToolMove a7 x6.1.length cp8 x6.1, rowT 96 eSToolMove a11 x10.length cp12 x10, rowT 96 eSToolMove a15 x14.1.length cp16 x14.1]) 4 ?_ ?_
    · refine JL.nil ?_
      refine JE.weak (env' := [(0, .slice a_0 q0.length c_0), (1, .int .i64 q1), (6, .slice a7 x6.1.length cp8), (7, .int .i64 x6.2), (8, .slice a11 x10.length cp12), (9, .slice a15 x14.1.length cp16), (10, .int .i64 x14.2), (44, .bool (!x18 || (x14.2 != x6.2)))]) (es' := [rowT 96 eSToolMove a7 x6.1.length cp8 x6.1, rowT 96 eSToolMove a11 x10.length cp12 x10, rowT 96 eSToolMove a15 x14.1.length cp16 x14.1]) [0, 1, 2] ?_ ⟨rfl, rfl, rfl, rfl, rfl, rfl, rfl, rfl, trivial⟩ (by decide) rfl
      refine JE.code ?_
      rcases cond_some hres with ⟨hb, hres⟩ | ⟨hb, hres⟩
      · refine JX.condT rfl hb ?_
        refine JX.seq ?_
        refine JX.region ?_
        refine JL.val (yl_assign rfl) rfl ?_
        refine JL.nil ?_
        refine JE.weak (env' := [(4, .bool false)]) (es' := []) [] ?_ ⟨rfl, trivial⟩ (by decide) rfl
        refine JE.code ?_
        refine JX.ret ?_
        obtain rfl := Option.some.inj hres
        refine JE.ret (rs := [.tmp 4]) (vs := [.bool false]) rfl ⟨rfl, trivial⟩ ?_
        exact fun w' hb hs => ⟨_, _, ⟨rfl, rfl⟩, rfl, hb, hs.sel [] _ (by decide) rfl⟩
      · refine JX.condF rfl hb ?_
        refine JX.skip ?_
        refine JE.code ?_
        refine JX.seq ?_
        refine JX.seq ?_
        refine JX.region ?_
        refine JL.val (yl_move rfl) rfl ?_
        refine JL.val (yl_move rfl) rfl ?_
        obtain ⟨x19, hx19, hres⟩ := bind_some hres
        refine JL.eff (ef_call (T := T40 x19) Go.Proofs.Try.func40 rfl (by kernel_rfl) rfl (fun w hC => c40 (rd_arg g_0 hC) rfl k_0 hx19)) rfl ?_
        rintro _ _ ⟨_, ⟨a20, _, cp21, rfl, rfl, rfl⟩, rfl⟩
        obtain ⟨x23, hx23, hres⟩ := bind_some hres
        refine JL.eff (ef_call (T := T42 x23) Go.Proofs.Try.func42 rfl (by kernel_rfl) rfl (fun w hC => c42 (rd_row hC 1 rfl) rfl (ln_row hC 1 rfl) (rd_row hC 3 rfl) rfl (ln_row hC 3 rfl) hx23)) rfl ?_
        rintro _ _ ⟨_, ⟨rfl, rfl⟩, rfl⟩
        refine JL.val (yl_not rfl) rfl ?_
        refine JL.nil ?_
        refine JE.weak (env' := [(0, .slice a_0 q0.length c_0), (1, .int .i64 q1), (6, .slice a7 x6.1.length cp8), (7, .int .i64 x6.2), (8, .slice a11 x10.length cp12), (9, .slice a15 x14.1.length cp16), (10, .int .i64 x14.2), (49, .bool !x23)]) (es' := [rowT 96 eSToolMove a7 x6.1.length cp8 x6.1, rowT 96 eSToolMove a11 x10.length cp12 x10, rowT 96 eSToolMove a15 x14.1.length cp16 x14.1]) [0, 1, 2] ?_ ⟨rfl, rfl, rfl, rfl, rfl, rfl, rfl, rfl, trivial⟩ (by decide) rfl
        refine JE.code ?_
        rcases cond_some hres with ⟨hb, hres⟩ | ⟨hb, hres⟩
        · refine JX.condT rfl hb ?_
          refine JX.seq ?_
          refine JX.region ?_
          refine JL.val (yl_assign rfl) rfl ?_
          refine JL.nil ?_
          refine JE.weak (env' := [(4, .bool false)]) (es' := []) [] ?_ ⟨rfl, trivial⟩ (by decide) rfl
          refine JE.code ?_
          refine JX.ret ?_
          obtain rfl := Option.some.inj hres
          refine JE.ret (rs := [.tmp 4]) (vs := [.bool false]) rfl ⟨rfl, trivial⟩ ?_
          exact fun w' hb hs => ⟨_, _, ⟨rfl, rfl⟩, rfl, hb, hs.sel [] _ (by decide) rfl⟩
        · refine JX.condF rfl hb ?_
          refine JX.skip ?_
          refine JE.code ?_
          refine JX.seq ?_
          refine JX.region ?_
          refine JL.val (yl_assign rfl) rfl ?_
          refine JL.nil ?_
          refine JE.code ?_
          refine JX.seq ?_
          refine JX.region ?_
          refine JL.val (yl_move rfl) rfl ?_
          refine JL.val (yl_move rfl) rfl ?_
          obtain ⟨x24, hx24, hres⟩ := bind_some hres
          refine JL.eff (ef_callm (T := T43 a11 x10.length cp12 x24) 1 Go.Proofs.Try.func43 rfl (by kernel_rfl) rfl rfl (fun w fp hs => c43 hs rfl hx24)) rfl ?_
          rintro _ _ ⟨_, _, ⟨l25, rfl, rfl, rfl⟩, rfl⟩
          refine JL.val (yl_assign rfl) rfl ?_
          refine JL.nil ?_
          refine JE.weak (env' := [(0, .slice a_0 q0.length c_0), (1, .int .i64 q1), (6, .slice a7 x6.1.length cp8), (7, .int .i64 x6.2), (9, .slice a15 x14.1.length cp16), (10, .int .i64 x14.2), (11, .int .i64 x24.1)]) (es' := [rowT 96 eSToolMove a7 x6.1.length cp8 x6.1, rowT 96 eSToolMove a15 x14.1.length cp16 x14.1]) [0, 2] ?_ ⟨rfl, rfl, rfl, rfl, rfl, rfl, rfl, trivial⟩ (by decide) rfl
          refine JE.code ?_
          refine JX.seq ?_
          refine JX.seq ?_
          refine JX.region ?_
          refine JL.val (yl_move rfl) rfl ?_
          refine JL.val (yl_lss rfl rfl) rfl ?_
          refine JL.val (yl_move rfl) rfl ?_
          obtain ⟨c26, hc26, hres⟩ := bind_some hres
          refine JL.cut (K := fun J => J [(0, .slice a_0 q0.length c_0), (1, .int .i64 q1), (6, .slice a7 x6.1.length cp8), (7, .int .i64 x6.2), (9, .slice a15 x14.1.length cp16), (10, .int .i64 x14.2), (60, .bool c26)] [rowT 96 eSToolMove a7 x6.1.length cp8 x6.1, rowT 96 eSToolMove a15 x14.1.length cp16 x14.1]) 5 ?_ ?_
          · refine JL.val (yl_move rfl) rfl ?_
            refine JL.cut (K := fun J => J [(0, .slice a_0 q0.length c_0), (1, .int .i64 q1), (6, .slice a7 x6.1.length cp8), (7, .int .i64 x6.2), (9, .slice a15 x14.1.length cp16), (65, .bool (c26 || (x14.2 != x6.2)))] [rowT 96 eSToolMove a7 x6.1.length cp8 x6.1, rowT 96 eSToolMove a15 x14.1.length cp16 x14.1]) 4 ?_ ?_
            · refine JL.nil ?_
              refine JE.weak (env' := [(0, .slice a_0 q0.length c_0), (1, .int .i64 q1), (6, .slice a7 x6.1.length cp8), (7, .int .i64 x6.2), (9, .slice a15 x14.1.length cp16), (65, .bool (c26 || (x14.2 != x6.2)))]) (es' := [rowT 96 eSToolMove a7 x6.1.length cp8 x6.1, rowT 96 eSToolMove a15 x14.1.length cp16 x14.1]) [0, 1] ?_ ⟨rfl, rfl, rfl, rfl, rfl, rfl, trivial⟩ (by decide) rfl
              refine JE.code ?_
              rcases cond_some hres with ⟨hb, hres⟩ | ⟨hb, hres⟩
              · refine JX.condT rfl hb ?_
                refine JX.seq ?_
                refine JX.region ?_
                refine JL.val (yl_assign rfl) rfl ?_
                refine JL.nil ?_
                refine JE.weak (env' := [(4, .bool false)]) (es' := []) [] ?_ ⟨rfl, trivial⟩ (by decide) rfl
                refine JE.code ?_
                refine JX.ret ?_
                obtain rfl := Option.some.inj hres
                refine JE.ret (rs := [.tmp 4]) (vs := [.bool false]) rfl ⟨rfl, trivial⟩ ?_
                exact fun w' hb hs => ⟨_, _, ⟨rfl, rfl⟩, rfl, hb, hs.sel [] _ (by decide) rfl⟩
              · refine JX.condF rfl hb ?_
                refine JX.skip ?_
                refine JE.code ?_
                refine JX.seq ?_
                refine JX.region ?_
                refine JL.val (yl_assign rfl) rfl ?_
                refine JL.nil ?_
                refine JE.code ?_
                refine JX.seq ?_
                refine JX.region ?_
                refine JL.val (yl_move rfl) rfl ?_
                refine JL.val (yl_move rfl) rfl ?_
                obtain ⟨x28, hx28, hres⟩ := bind_some hres
                refine JL.eff (ef_callm (T := T43 a15 x14.1.length cp16 x28) 1 Go.Proofs.Try.func43 rfl (by kernel_rfl) rfl rfl (fun w fp hs => c43 hs rfl hx28)) rfl ?_
                rintro _ _ ⟨_, _, ⟨l29, rfl, rfl, rfl⟩, rfl⟩
                refine JL.val (yl_assign rfl) rfl ?_
                refine JL.nil ?_
                refine JE.weak (env' := [(0, .slice a_0 q0.length c_0), (1, .int .i64 q1), (6, .slice a7 x6.1.length cp8), (7, .int .i64 x6.2), (9, .slice a15 x14.1.length cp16), (12, .int .i64 x28.1)]) (es' := [rowT 96 eSToolMove a7 x6.1.length cp8 x6.1, rowT 96 eSToolMove a15 x14.1.length cp16 x28.2]) [0, 1] ?_ ⟨rfl, rfl, rfl, rfl, rfl, rfl, trivial⟩ (by decide) rfl
                refine JE.code ?_
                refine JX.seq ?_
                refine JX.region ?_
                refine JL.val (yl_assign rfl) rfl ?_
                refine JL.nil ?_
                refine JE.code ?_
                refine JX.seq ?_
                refine JX.region ?_
                refine JL.val (yl_move rfl) rfl ?_
                refine JL.val (yl_move rfl) rfl ?_
                obtain ⟨x30, hx30, hres⟩ := bind_some hres
                refine JL.eff (ef_call (T := T44 x30) Go.Proofs.Try.func44 rfl (by kernel_rfl) rfl (fun w hC => c44 (rd_row hC 1 rfl) l29 (ln_row hC 1 rfl) hx30)) rfl ?_
                rintro _ _ ⟨_, ⟨rfl, rfl⟩, rfl⟩
                refine JL.val (yl_assign rfl) rfl ?_
                refine JL.nil ?_
                refine JE.weak (env' := [(0, .slice a_0 q0.length c_0), (1, .int .i64 q1), (6, .slice a7 x6.1.length cp8), (7, .int .i64 x6.2), (9, .slice a15 x14.1.length cp16), (12, .int .i64 x28.1), (13, .int .i64 x30)]) (es' := [rowT 96 eSToolMove a7 x6.1.length cp8 x6.1, rowT 96 eSToolMove a15 x14.1.length cp16 x28.2]) [0, 1] ?_ ⟨rfl, rfl, rfl, rfl, rfl, rfl, rfl, trivial⟩ (by decide) rfl
                refine JE.code ?_
                refine JX.seq ?_
                refine JX.seq ?_
                refine JX.region ?_
                refine JL.val (yl_move rfl) rfl ?_
                refine JL.val (yl_lss rfl rfl) rfl ?_
                refine JL.nil ?_
                refine JE.code ?_
                rcases cond_some hres with ⟨hb, hres⟩ | ⟨hb, hres⟩
                · refine JX.condT rfl hb ?_
                  refine JX.seq ?_
                  refine JX.region ?_
                  refine JL.val (yl_assign rfl) rfl ?_
                  refine JL.nil ?_
                  refine JE.weak (env' := [(4, .bool false)]) (es' := []) [] ?_ ⟨rfl, trivial⟩ (by decide) rfl
                  refine JE.code ?_
                  refine JX.ret ?_
                  obtain rfl := Option.some.inj hres
                  refine JE.ret (rs := [.tmp 4]) (vs := [.bool false]) rfl ⟨rfl, trivial⟩ ?_
                  exact fun w' hb hs => ⟨_, _, ⟨rfl, rfl⟩, rfl, hb, hs.sel [] _ (by decide) rfl⟩
                · refine JX.condF rfl hb ?_
                  refine JX.skip ?_
                  refine JE.code ?_
                  refine JX.seq ?_
                  refine JX.seq ?_
                  refine JX.region ?_
                  refine JL.val (yl_move rfl) rfl ?_
                  refine JL.val (yl_move rfl) rfl ?_
                  refine JL.val (yl_neq rfl rfl) rfl ?_
                  refine JL.nil ?_
                  refine JE.code ?_
                  rcases cond_some hres with ⟨hb, hres⟩ | ⟨hb, hres⟩
                  · refine JX.condT rfl hb ?_
                    refine JX.seq ?_
                    refine JX.region ?_
                    refine JL.val (yl_assign rfl) rfl ?_
                    refine JL.nil ?_
                    refine JE.weak (env' := [(4, .bool false)]) (es' := []) [] ?_ ⟨rfl, trivial⟩ (by decide) rfl
                    refine JE.code ?_
                    refine JX.ret ?_
                    obtain rfl := Option.some.inj hres
                    refine JE.ret (rs := [.tmp 4]) (vs := [.bool false]) rfl ⟨rfl, trivial⟩ ?_
                    exact fun w' hb hs => ⟨_, _, ⟨rfl, rfl⟩, rfl, hb, hs.sel [] _ (by decide) rfl⟩
                  · refine JX.condF rfl hb ?_
                    refine JX.skip ?_
                    refine JE.code ?_
                    refine JX.seq ?_
                    refine JX.region ?_
                    refine JL.val (yl_move rfl) rfl ?_
                    obtain ⟨x31, hx31, hres⟩ := bind_some hres
                    refine JL.eff (ef_call (T := T40 x31) Go.Proofs.Try.func40 rfl (by kernel_rfl) rfl (fun w hC => c40 (rd_arg g_0 hC) rfl k_0 hx31)) rfl ?_
                    rintro _ _ ⟨_, ⟨a32, _, cp33, rfl, rfl, rfl⟩, rfl⟩
                    refine JL.val (yl_move rfl) rfl ?_
                    obtain ⟨x35, hx35, hres⟩ := bind_some hres
                    refine JL.eff (ef_call (T := T41 x35) Go.Proofs.Try.func41 rfl (by kernel_rfl) rfl (fun w hC => c41 (rd_row hC 2 rfl) rfl (ln_row hC 2 rfl) hx35)) rfl ?_
                    rintro _ _ ⟨_, ⟨a36, _, cp37, rfl, rfl, rfl⟩, rfl⟩
                    refine JL.val (yl_move rfl) rfl ?_
                    refine JL.val (yl_extract rfl rfl) rfl ?_
                    refine JL.val (yl_extract rfl rfl) rfl ?_
                    refine JL.val (yl_assign rfl) rfl ?_
                    refine JL.val (yl_assign rfl) rfl ?_
                    refine JL.nil ?_
                    refine JE.weak (env' := [(6, .slice a7 x6.1.length cp8), (7, .int .i64 x6.2), (9, .slice a15 x14.1.length cp16), (12, .int .i64 x28.1), (14, .slice a36 x35.1.length cp37), (15, .int .i64 x35.2)]) (es' := [rowT 96 eSToolMove a7 x6.1.length cp8 x6.1, rowT 96 eSToolMove a15 x14.1.length cp16 x28.2, rowT 96 eSToolMove a36 x35.1.length cp37 x35.1]) [0, 1, 3] ?_ ⟨rfl, rfl, rfl, rfl, rfl, rfl, trivial⟩ (by decide) rfl
                    refine JE.code ?_
                    refine JX.seq ?_
                    refine JX.seq ?_
                    refine JX.region ?_
                    refine JL.val (yl_move rfl) rfl ?_
                    refine JL.val (yl_move rfl) rfl ?_
                    obtain ⟨x39, hx39, hres⟩ := bind_some hres
                    refine JL.eff (ef_call (T := T42 x39) Go.Proofs.Try.func42 rfl (by kernel_rfl) rfl (fun w hC => c42 (rd_row hC 2 rfl) rfl (ln_row hC 2 rfl) (rd_row hC 0 rfl) rfl (ln_row hC 0 rfl) hx39)) rfl ?_
                    rintro _ _ ⟨_, ⟨rfl, rfl⟩, rfl⟩
                    refine JL.val (yl_not rfl) rfl ?_
                    refine JL.val (yl_move rfl) rfl ?_
                    refine JL.cut (K := fun J => J [(9, .slice a15 x14.1.length cp16), (12, .int .i64 x28.1), (92, .bool (!x39 || (x35.2 != x6.2)))] [rowT 96 eSToolMove a15 x14.1.length cp16 x28.2]) 4 ?_ ?_
                    · refine JL.nil ?_
                      refine JE.weak (env' := [(9, .slice a15 x14.1.length cp16), (12, .int .i64 x28.1), (92, .bool (!x39 || (x35.2 != x6.2)))]) (es' := [rowT 96 eSToolMove a15 x14.1.length cp16 x28.2]) [0] ?_ ⟨rfl, rfl, rfl, trivial⟩ (by decide) rfl
                      refine JE.code ?_
                      rcases cond_some hres with ⟨hb, hres⟩ | ⟨hb, hres⟩
                      · refine JX.condT rfl hb ?_
                        refine JX.seq ?_
                        refine JX.region ?_
                        refine JL.val (yl_assign rfl) rfl ?_
                        refine JL.nil ?_
                        refine JE.weak (env' := [(4, .bool false)]) (es' := []) [] ?_ ⟨rfl, trivial⟩ (by decide) rfl
                        refine JE.code ?_
                        refine JX.ret ?_
                        obtain rfl := Option.some.inj hres
                        refine JE.ret (rs := [.tmp 4]) (vs := [.bool false]) rfl ⟨rfl, trivial⟩ ?_
                        exact fun w' hb hs => ⟨_, _, ⟨rfl, rfl⟩, rfl, hb, hs.sel [] _ (by decide) rfl⟩
                      · refine JX.condF rfl hb ?_
                        refine JX.skip ?_
                        refine JE.code ?_
                        refine JX.seq ?_
                        refine JX.region ?_
                        refine JL.val (yl_assign rfl) rfl ?_
                        refine JL.nil ?_
                        refine JE.code ?_
                        refine JX.seq ?_
                        refine JX.region ?_
                        refine JL.val (yl_move rfl) rfl ?_
                        refine JL.val (yl_move rfl) rfl ?_
                        obtain ⟨x40, hx40, hres⟩ := bind_some hres
                        refine JL.eff (ef_call (T := T44 x40) Go.Proofs.Try.func44 rfl (by kernel_rfl) rfl (fun w hC => c44 (rd_row hC 0 rfl) l29 (ln_row hC 0 rfl) hx40)) rfl ?_
                        rintro _ _ ⟨_, ⟨rfl, rfl⟩, rfl⟩
                        refine JL.val (yl_assign rfl) rfl ?_
                        refine JL.nil ?_
                        refine JE.weak (env' := [(12, .int .i64 x28.1), (13, .int .i64 x40)]) (es' := []) [] ?_ ⟨rfl, rfl, trivial⟩ (by decide) rfl
                        refine JE.code ?_
                        refine JX.seq ?_
                        refine JX.seq ?_
                        refine JX.region ?_
                        refine JL.val (yl_move rfl) rfl ?_
                        refine JL.val (yl_lss rfl rfl) rfl ?_
                        refine JL.nil ?_
                        refine JE.code ?_
                        rcases cond_some hres with ⟨hb, hres⟩ | ⟨hb, hres⟩
                        · refine JX.condT rfl hb ?_
                          refine JX.seq ?_
                          refine JX.region ?_
                          refine JL.val (yl_assign rfl) rfl ?_
                          refine JL.nil ?_
                          refine JE.code ?_
                          refine JX.ret ?_
                          obtain rfl := Option.some.inj hres
                          refine JE.ret (rs := [.tmp 4]) (vs := [.bool false]) rfl ⟨rfl, trivial⟩ ?_
                          exact fun w' hb hs => ⟨_, _, ⟨rfl, rfl⟩, rfl, hb, hs.sel [] _ (by decide) rfl⟩
                        · refine JX.condF rfl hb ?_
                          refine JX.skip ?_
                          refine JE.code ?_
                          refine JX.seq ?_
                          refine JX.seq ?_
                          refine JX.region ?_
                          refine JL.val (yl_move rfl) rfl ?_
                          refine JL.val (yl_move rfl) rfl ?_
                          refine JL.val (yl_neq rfl rfl) rfl ?_
                          refine JL.nil ?_
                          refine JE.code ?_
                          rcases cond_some hres with ⟨hb, hres⟩ | ⟨hb, hres⟩
                          · refine JX.condT rfl hb ?_
                            refine JX.seq ?_
                            refine JX.region ?_
                            refine JL.val (yl_assign rfl) rfl ?_
                            refine JL.nil ?_
                            refine JE.code ?_
                            refine JX.ret ?_
                            obtain rfl := Option.some.inj hres
                            refine JE.ret (rs := [.tmp 4]) (vs := [.bool false]) rfl ⟨rfl, trivial⟩ ?_
                            exact fun w' hb hs => ⟨_, _, ⟨rfl, rfl⟩, rfl, hb, hs.sel [] _ (by decide) rfl⟩
                          · refine JX.condF rfl hb ?_
                            refine JX.skip ?_
                            refine JE.code ?_
                            refine JX.seq ?_
                            refine JX.region ?_
                            refine JL.val (yl_assign rfl) rfl ?_
                            refine JL.nil ?_
                            refine JE.code ?_
                            refine JX.ret ?_
                            obtain rfl := Option.some.inj hres
                            refine JE.ret (rs := [.tmp 4]) (vs := [.bool true]) rfl ⟨rfl, trivial⟩ ?_
                            exact fun w' hb hs => ⟨_, _, ⟨rfl, rfl⟩, rfl, hb, hs.sel [] _ (by decide) rfl⟩
                    · intro K
                      rcases Bool.eq_false_or_eq_true (!x39) with hb | hb
                      · refine JL.set (d := 88) (v := .bool true) (congrArg (fun b => some (Value.bool b)) hb) ?_
                        refine JL.gskip rfl rfl rfl rfl ?_
                        refine JL.gskip rfl rfl rfl rfl ?_
                        refine JL.gskip rfl rfl rfl rfl ?_
                        refine JL.val (yl_pick_true rfl rfl) rfl ?_
                        exact JL.weak [1] K ⟨rfl, rfl, (by rw [hb]; rfl), trivial⟩ (by decide) rfl
                      · refine JL.set (d := 88) (v := .bool false) (congrArg (fun b => some (Value.bool b)) hb) ?_
                        refine JL.gval rfl rfl (yl_move rfl) rfl ?_
                        refine JL.gval rfl rfl (yl_move rfl) rfl ?_
                        refine JL.gval rfl rfl (yl_neq rfl rfl) rfl ?_
                        refine JL.val (yl_pick_false rfl rfl) rfl ?_
                        exact JL.weak [1] K ⟨rfl, rfl, (by rw [hb]; rfl), trivial⟩ (by decide) rfl
            · intro K
              rcases Bool.eq_false_or_eq_true (c26) with hb | hb
              · refine JL.set (d := 61) (v := .bool true) (congrArg (fun b => some (Value.bool b)) hb) ?_
                refine JL.gskip rfl rfl rfl rfl ?_
                refine JL.gskip rfl rfl rfl rfl ?_
                refine JL.gskip rfl rfl rfl rfl ?_
                refine JL.val (yl_pick_true rfl rfl) rfl ?_
                exact JL.weak [0, 1] K ⟨rfl, rfl, rfl, rfl, rfl, (by rw [hb]; rfl), trivial⟩ (by decide) rfl
              · refine JL.set (d := 61) (v := .bool false) (congrArg (fun b => some (Value.bool b)) hb) ?_
                refine JL.gval rfl rfl (yl_move rfl) rfl ?_
                refine JL.gval rfl rfl (yl_move rfl) rfl ?_
                refine JL.gval rfl rfl (yl_neq rfl rfl) rfl ?_
                refine JL.val (yl_pick_false rfl rfl) rfl ?_
                exact JL.weak [0, 1] K ⟨rfl, rfl, rfl, rfl, rfl, (by rw [hb]; rfl), trivial⟩ (by decide) rfl
          · intro K
            rcases cond_some hc26 with ⟨hb, hres⟩ | ⟨hb, hres⟩
            · refine JL.set (d := 55) (v := .bool true) (congrArg (fun b => some (Value.bool b)) hb) ?_
              refine JL.gskip rfl rfl rfl rfl ?_
              refine JL.gskip rfl rfl rfl rfl ?_
              refine JL.gskip rfl rfl rfl rfl ?_
              refine JL.gskip rfl rfl rfl rfl ?_
              refine JL.val (yl_pick_true rfl rfl) rfl ?_
              have he := Option.some.inj hres
              exact JL.weak [0, 1] K ⟨rfl, rfl, rfl, rfl, rfl, rfl, (by rw [← he]; rfl), trivial⟩ (by decide) rfl
            · refine JL.set (d := 55) (v := .bool false) (congrArg (fun b => some (Value.bool b)) hb) ?_
              refine JL.gval rfl rfl (yl_move rfl) rfl ?_
              refine JL.gval rfl rfl (yl_move rfl) rfl ?_
              obtain ⟨x27, hx27, hres⟩ := bind_some hres
              refine JL.geff rfl rfl (ef_call (T := T42 x27) Go.Proofs.Try.func42 rfl (by kernel_rfl) rfl (fun w hC => c42 (rd_row hC 1 rfl) rfl (ln_row hC 1 rfl) (rd_row hC 0 rfl) rfl (ln_row hC 0 rfl) hx27)) rfl ?_
              rintro _ _ ⟨_, ⟨rfl, rfl⟩, rfl⟩
              refine JL.gval rfl rfl (yl_not rfl) rfl ?_
              refine JL.val (yl_pick_false rfl rfl) rfl ?_
              have he := Option.some.inj hres
              exact JL.weak [0, 1] K ⟨rfl, rfl, rfl, rfl, rfl, rfl, (by rw [← he]; rfl), trivial⟩ (by decide) rfl
    · intro K
      rcases Bool.eq_false_or_eq_true (!x18) with hb | hb
      · refine JL.set (d := 40) (v := .bool true) (congrArg (fun b => some (Value.bool b)) hb) ?_
        refine JL.gskip rfl rfl rfl rfl ?_
        refine JL.gskip rfl rfl rfl rfl ?_
        refine JL.gskip rfl rfl rfl rfl ?_
        refine JL.val (yl_pick_true rfl rfl) rfl ?_
        exact JL.weak [0, 1, 2] K ⟨rfl, rfl, rfl, rfl, rfl, rfl, rfl, (by rw [hb]; rfl), trivial⟩ (by decide) rfl
      · refine JL.set (d := 40) (v := .bool false) (congrArg (fun b => some (Value.bool b)) hb) ?_
        refine JL.gval rfl rfl (yl_move rfl) rfl ?_
        refine JL.gval rfl rfl (yl_move rfl) rfl ?_
        refine JL.gval rfl rfl (yl_neq rfl rfl) rfl ?_
        refine JL.val (yl_pick_false rfl rfl) rfl ?_
        exact JL.weak [0, 1, 2] K ⟨rfl, rfl, rfl, rfl, rfl, rfl, rfl, (by rw [hb]; rfl), trivial⟩ (by decide) rfl

end Go.Sh
