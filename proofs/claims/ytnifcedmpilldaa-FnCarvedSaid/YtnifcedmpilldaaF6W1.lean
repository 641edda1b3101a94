/- Walks through functions that the law reaches, printed by program. -/
import Derived.Test.YtnifcedmpilldaaF6W0
set_option linter.unusedVariables false
set_option linter.unusedSimpArgs false
namespace Go.Sh
open Go Go.RowKit
/- impl.ValidPanel -/
def sh128_1 (q0 : SPanel) : Int → Option (Int ⊕ (Unit ⊕ Bool))
  | x7 => bif decide (x7 < (q0.Breaks.length : Int)) then (Option.bind (getI q0.Breaks x7) fun x8 => Option.bind (sh122 x8) fun x9 => bif !x9 then (some (.inr (.inr false))) else (some (.inl (w64 (x7 + 1))))) else (some (.inr (.inl ())))
def sh128 (q0 : SPanel) : Option (Bool) := Option.bind (sh189 q0.W q0.H) fun x4 => Option.bind (bif !x4 then (some true) else (Option.bind (sh190 q0.W q0.H) fun x6 => some ((q0.Breaks.length : Int) != x6))) fun cb5 => (bif cb5 then (some false) else (Option.bind (iter (sh128_1 q0) 0) fun y1 => elimS y1 (fun r => some r) fun b1 => (some true)))
def T128 (r : Bool) (v : Value) (rs : List Own) : Prop := v = rets [.bool r] ∧ rs = []
set_option maxRecDepth 100000 in
theorem c128 {w : World} {q0 : SPanel} {a_0_2 : Option Addr} {n_0_2 c_0_2 : Nat} (g_0_2 : Rd w a_0_2 (eI64.fl q0.Breaks)) (l_0_2 : q0.Breaks.length = n_0_2) (k_0_2 : n_0_2 ≤ c_0_2) {r : Bool} (hres : sh128 q0 = some r) : Calls Go.Proofs.Try.prog 128 [.agg #[.int .i64 q0.W, .int .i64 q0.H, .slice a_0_2 n_0_2 c_0_2]].toArray w (Ret w (T128 r)) := by
  subst l_0_2
  unfold sh128 at hres
  refine calls_of (n := 33) (M := []) (es := []) Go.Proofs.Try.func128 rfl rfl rfl (Sep.nil _ _ _) ?_
  refine JX.seq ?_
  refine JX.region ?_
  refine JL.eff (ef_box rfl rfl) rfl ?_
  rintro _ _ ⟨g1, rfl, rfl⟩
  refine JL.val (yl_assign rfl) rfl ?_
  refine JL.nil ?_
  refine JE.code ?_
  refine JX.seq ?_
  refine JX.seq ?_
  refine JX.drawH [(0, .pure), (1, .read), (2, .pure), (3, .read), (4, .must), (5, .pure), (6, .pure), (7, .pure), (8, .read), (9, .pure), (10, .pure), (11, .read), (12, .pure), (13, .read), (14, .must), (15, .pure), (16, .pure)] [] [] [0] [] [boxO 26 g1 [.int .i64 q0.W, .int .i64 q0.H, .slice a_0_2 q0.Breaks.length c_0_2]] mixedP (by kernel_rfl) (by kernel_rfl) (by decide) rfl rfl ?_
  intro wrr3 Nr3 hFr3
  refine JH.pure rfl (yl_fieldAt (a := some _) Go.Proofs.Try.underlying26 rfl i2 i2n rfl rfl) rfl ?_
  refine JH.read rfl (yl_load1 Go.Proofs.Try.underlying2 rfl rfl (fun w hw => hFr3.box 0 rfl rfl hw) rfl) rfl ?_
  refine JH.pure rfl (yl_fieldAt (a := some _) Go.Proofs.Try.underlying26 rfl i2 i2n rfl rfl) rfl ?_
  refine JH.read rfl (yl_load1 Go.Proofs.Try.underlying2 rfl rfl (fun w hw => hFr3.box 0 rfl rfl hw) rfl) rfl ?_
  obtain ⟨x4, hx4, hres⟩ := bind_some hres
  refine JH.must rfl (ef_call (T := T189 x4) Go.Proofs.Try.func189 rfl (by kernel_rfl) rfl (fun w hC => c189  hx4)) rfl rfl ?_
  rintro _ _ ⟨_, ⟨rfl, rfl⟩, rfl⟩
  refine JH.pure rfl (yl_not rfl) rfl ?_
  refine JH.pure rfl (yl_move rfl) rfl ?_
  obtain ⟨cb5, hcb5, hres⟩ := bind_some hres
  refine JH.cut (K := fun J => J [(1, ptrAt (some ⟨g1, 0, none⟩) 0), (21, .bool cb5)] []) 10 ?_ ?_
  · refine JH.nil ?_
    refine JE.weak (env' := [(1, ptrAt (some ⟨g1, 0, none⟩) 0), (21, .bool cb5)]) (es' := [boxO 26 g1 [.int .i64 q0.W, .int .i64 q0.H, .slice a_0_2 q0.Breaks.length c_0_2]]) [0] ?_ ⟨rfl, rfl, trivial⟩ (by decide) rfl
    refine JE.code ?_
    rcases cond_some hres with ⟨hb, hres⟩ | ⟨hb, hres⟩
    · refine JX.condT rfl hb ?_
      refine JX.seq ?_
      refine JX.region ?_
      refine JL.val (yl_assign rfl) rfl ?_
      refine JL.nil ?_
      refine JE.weak (env' := [(2, .bool false)]) (es' := []) [] ?_ ⟨rfl, trivial⟩ (by decide) rfl
      refine JE.code ?_
      refine JX.ret ?_
      obtain rfl := Option.some.inj hres
      refine JE.ret (rs := [.tmp 2]) (vs := [.bool false]) rfl ⟨rfl, trivial⟩ ?_
      exact fun w' hb hs => ⟨_, _, ⟨rfl, rfl⟩, rfl, hb, hs.sel [] _ (by decide) rfl⟩
    · refine JX.condF rfl hb ?_
      refine JX.skip ?_
      refine JE.code ?_
      refine JX.seq ?_
      refine JX.seq ?_
      refine JX.region ?_
      refine JL.val (yl_fieldAt (a := some _) Go.Proofs.Try.underlying26 rfl i24 i24n rfl rfl) rfl ?_
      refine JL.val (yl_load1 Go.Proofs.Try.underlying24 rfl rfl (fun w hC => rd_box hC 0 rfl) rfl) rfl ?_
      refine JL.val (yl_len_slice Go.Proofs.Try.underlying24 rfl) rfl ?_
      refine JL.val (yl_move rfl) rfl ?_
      refine JL.nil ?_
      refine JE.weak (env' := [(23, .slice a_0_2 q0.Breaks.length c_0_2), (24, .int .i64 (q0.Breaks.length : Int)), (25, .int .i64 0)]) (es' := []) [] ?_ ⟨rfl, rfl, rfl, trivial⟩ (by decide) rfl
      refine JE.code ?_
      refine JX.block ?_
      obtain ⟨y1, hy1, hresO1⟩ := bind_some hres
      refine JX.loop (I := fun (s1 : Int) aa ww => St w [] 33 [(23, .slice a_0_2 q0.Breaks.length c_0_2), (24, .int .i64 (q0.Breaks.length : Int)), (25, .int .i64 s1)] [] aa ww) (sh128_1 q0) hy1 (fun a w h => h.weak ⟨rfl, rfl, rfl, trivial⟩ [] (by decide) rfl) ?_
      rintro x7 o1 hres hox1 aa ww hS
      refine (?_ : JX Go.Proofs.Try.prog w [] 33 _ _ [(23, .slice a_0_2 q0.Breaks.length c_0_2), (24, .int .i64 (q0.Breaks.length : Int)), (25, .int .i64 x7)] [] _) aa ww hS
      clear hS
      unfold sh128_1 at hres
      refine JX.seq ?_
      refine JX.region ?_
      refine JL.val (yl_lss rfl rfl) rfl ?_
      refine JL.nil ?_
      refine JE.code ?_
      refine JX.seq ?_
      rcases cond_some hres with ⟨hb, hres⟩ | ⟨hb, hres⟩
      · refine JX.condT rfl hb ?_
        refine JX.skip ?_
        refine JE.code ?_
        refine JX.seq ?_
        refine JX.block ?_
        refine JX.seq ?_
        refine JX.region ?_
        obtain ⟨x8, hx8, hres⟩ := bind_some hres
        refine JL.val (yl_idxT Go.Proofs.Try.underlying24 i2 i2s rfl rfl hx8 rfl (fun w hC => rd_arg g_0_2 hC)) rfl ?_
        refine JL.val (yl_loadT0 Go.Proofs.Try.underlying2 rfl rfl hx8 (fun w hC => rd_arg g_0_2 hC) rfl) rfl ?_
        refine JL.val (yl_assign rfl) rfl ?_
        refine JL.nil ?_
        refine JE.code ?_
        refine JX.seq ?_
        refine JX.region ?_
        refine JL.val (yl_move rfl) rfl ?_
        obtain ⟨x9, hx9, hres⟩ := bind_some hres
        refine JL.eff (ef_call (T := T122 x9) Go.Proofs.Try.func122 rfl (by kernel_rfl) rfl (fun w hC => c122  hx9)) rfl ?_
        rintro _ _ ⟨_, ⟨rfl, rfl⟩, rfl⟩
        refine JL.val (yl_not rfl) rfl ?_
        refine JL.nil ?_
        refine JE.code ?_
        rcases cond_some hres with ⟨hb, hres⟩ | ⟨hb, hres⟩
        · refine JX.condT rfl hb ?_
          refine JX.seq ?_
          refine JX.region ?_
          refine JL.val (yl_assign rfl) rfl ?_
          refine JL.nil ?_
          refine JE.code ?_
          refine JX.ret ?_
          refine JE.qbr ?_
          refine JE.qbr ?_
          have hres := elimS_inr hresO1 (hox1 _ (Option.some.inj hres).symm)
          obtain rfl := Option.some.inj hres
          refine JE.ret (rs := [.tmp 2]) (vs := [.bool false]) rfl ⟨rfl, trivial⟩ ?_
          exact fun w' hb hs => ⟨_, _, ⟨rfl, rfl⟩, rfl, hb, hs.sel [] _ (by decide) rfl⟩
        · refine JX.condF rfl hb ?_
          refine JX.skip ?_
          refine JE.code ?_
          refine JX.region ?_
          refine JL.val (yl_add rfl rfl) rfl ?_
          refine JL.val (yl_move rfl) rfl ?_
          refine JL.nil ?_
          refine JE.cont hres ?_
          exact fun a w h => h.weak ⟨rfl, rfl, rfl, trivial⟩ [] (by decide) rfl
      · refine JX.condF rfl hb ?_
        refine JX.exit ?_
        refine JE.qb rfl ?_
        obtain ⟨b1, hb1⟩ : ∃ b : Unit, b = () := ⟨_, rfl⟩
        have hy1 : Sum.inl b1 = y1 := by rw [hb1]; exact hox1 _ (Option.some.inj hres).symm
        have hres := elimS_inl hresO1 hy1
        refine JE.weak (env' := []) (es' := []) [] ?_ trivial (by decide) (by subst hb1; rfl)
        refine JE.code ?_
        refine JX.seq ?_
        refine JX.region ?_
        refine JL.val (yl_assign rfl) rfl ?_
        refine JL.nil ?_
        refine JE.code ?_
        refine JX.ret ?_
        obtain rfl := Option.some.inj hres
        refine JE.ret (rs := [.tmp 2]) (vs := [.bool true]) rfl ⟨rfl, trivial⟩ ?_
        exact fun w' hb hs => ⟨_, _, ⟨rfl, rfl⟩, rfl, hb, hs.sel [] _ (by decide) rfl⟩
  · intro K
    rcases cond_some hcb5 with ⟨hb, hres⟩ | ⟨hb, hres⟩
    · refine JH.set (d := 11) (v := .bool true) (congrArg (fun b => some (Value.bool b)) hb) ?_
      refine JH.gskip rfl rfl rfl rfl rfl rfl ?_
      refine JH.gskip rfl rfl rfl rfl rfl rfl ?_
      refine JH.gskip rfl rfl rfl rfl rfl rfl ?_
      refine JH.gskip rfl rfl rfl rfl rfl rfl ?_
      refine JH.gskip rfl rfl rfl rfl rfl rfl ?_
      refine JH.gskip rfl rfl rfl rfl rfl rfl ?_
      refine JH.gskip rfl rfl rfl rfl rfl rfl ?_
      refine JH.gskip rfl rfl rfl rfl rfl rfl ?_
      refine JH.gskip rfl rfl rfl rfl rfl rfl ?_
      refine JH.pure rfl (yl_pick_true rfl rfl) rfl ?_
      have he := Option.some.inj hres
      exact JH.weak [] K ⟨rfl, (by rw [← he]; rfl), trivial⟩ (by decide) rfl
    · refine JH.set (d := 11) (v := .bool false) (congrArg (fun b => some (Value.bool b)) hb) ?_
      refine JH.gpure rfl rfl rfl (yl_fieldAt (a := some _) Go.Proofs.Try.underlying26 rfl i24 i24n rfl rfl) rfl ?_
      refine JH.gread rfl rfl rfl (yl_load1 Go.Proofs.Try.underlying24 rfl rfl (fun w hw => hFr3.box 0 rfl rfl hw) rfl) rfl ?_
      refine JH.gpure rfl rfl rfl (yl_len_slice Go.Proofs.Try.underlying24 rfl) rfl ?_
      refine JH.gpure rfl rfl rfl (yl_fieldAt (a := some _) Go.Proofs.Try.underlying26 rfl i2 i2n rfl rfl) rfl ?_
      refine JH.gread rfl rfl rfl (yl_load1 Go.Proofs.Try.underlying2 rfl rfl (fun w hw => hFr3.box 0 rfl rfl hw) rfl) rfl ?_
      refine JH.gpure rfl rfl rfl (yl_fieldAt (a := some _) Go.Proofs.Try.underlying26 rfl i2 i2n rfl rfl) rfl ?_
      refine JH.gread rfl rfl rfl (yl_load1 Go.Proofs.Try.underlying2 rfl rfl (fun w hw => hFr3.box 0 rfl rfl hw) rfl) rfl ?_
      obtain ⟨x6, hx6, hres⟩ := bind_some hres
      refine JH.gmust rfl rfl rfl (ef_call (T := T190 x6) Go.Proofs.Try.func190 rfl (by kernel_rfl) rfl (fun w hC => c190  hx6)) rfl rfl ?_
      rintro _ _ ⟨_, ⟨rfl, rfl⟩, rfl⟩
      refine JH.gpure rfl rfl rfl (yl_neq rfl rfl) rfl ?_
      refine JH.pure rfl (yl_pick_false rfl rfl) rfl ?_
      have he := Option.some.inj hres
      exact JH.weak [] K ⟨rfl, (by rw [← he]; rfl), trivial⟩ (by decide) rfl

/- impl.validUnit -/
def sh96 (q0 : Int) : Option (Bool) := Option.bind (sh107 q0 1 1000) fun x1 => some x1
def T96 (r : Bool) (v : Value) (rs : List Own) : Prop := v = rets [.bool r] ∧ rs = []
set_option maxRecDepth 100000 in
theorem c96 {w : World} {q0 : Int} {r : Bool} (hres : sh96 q0 = some r) : Calls Go.Proofs.Try.prog 96 [.int .i64 q0].toArray w (Ret w (T96 r)) := by
  unfold sh96 at hres
  refine calls_of (n := 5) (M := []) (es := []) Go.Proofs.Try.func96 rfl rfl rfl (Sep.nil _ _ _) ?_
  refine JX.seq ?_
  refine JX.region ?_
  refine JL.val (yl_assign rfl) rfl ?_
  refine JL.nil ?_
  refine JE.code ?_
  refine JX.seq ?_
  refine JX.region ?_
  refine JL.val (yl_move rfl) rfl ?_
  obtain ⟨x1, hx1, hres⟩ := bind_some hres
  refine JL.eff (ef_call (T := T107 x1) Go.Proofs.Try.func107 rfl (by kernel_rfl) rfl (fun w hC => c107  hx1)) rfl ?_
  rintro _ _ ⟨_, ⟨rfl, rfl⟩, rfl⟩
  refine JL.val (yl_assign rfl) rfl ?_
  refine JL.nil ?_
  refine JE.code ?_
  refine JX.ret ?_
  obtain rfl := Option.some.inj hres
  refine JE.ret (rs := [.tmp 2]) (vs := [.bool x1]) rfl ⟨rfl, trivial⟩ ?_
  exact fun w' hb hs => ⟨_, _, ⟨rfl, rfl⟩, rfl, hb, hs.sel [] _ (by decide) rfl⟩

/- impl.validCut -/
def sh143 (q0 : Int) (q1 : Int) (q2 : Int) : Option (Bool) := Option.bind (sh96 q0) fun x1 => Option.bind (bif x1 then (Option.bind (sh107 q1 1 500) fun x3 => some x3) else (some false)) fun cb2 => (Option.bind (bif cb2 then (Option.bind (sh107 q2 1 500) fun x5 => some x5) else (some false)) fun cb4 => (some cb4))
def T143 (r : Bool) (v : Value) (rs : List Own) : Prop := v = rets [.bool r] ∧ rs = []
set_option maxRecDepth 100000 in
theorem c143 {w : World} {q0 : Int} {q1 : Int} {q2 : Int} {r : Bool} (hres : sh143 q0 q1 q2 = some r) : Calls Go.Proofs.Try.prog 143 [.int .i64 q0, .int .i64 q1, .int .i64 q2].toArray w (Ret w (T143 r)) := by
  unfold sh143 at hres
  refine calls_of (n := 17) (M := []) (es := []) Go.Proofs.Try.func143 rfl rfl rfl (Sep.nil _ _ _) ?_
  refine JX.seq ?_
  refine JX.region ?_
  refine JL.val (yl_assign rfl) rfl ?_
  refine JL.nil ?_
  refine JE.code ?_
  refine JX.seq ?_
  refine JX.region ?_
  refine JL.val (yl_move rfl) rfl ?_
  obtain ⟨x1, hx1, hres⟩ := bind_some hres
  refine JL.eff (ef_call (T := T96 x1) Go.Proofs.Try.func96 rfl (by kernel_rfl) rfl (fun w hC => c96  hx1)) rfl ?_
  rintro _ _ ⟨_, ⟨rfl, rfl⟩, rfl⟩
  refine JL.val (yl_move rfl) rfl ?_
  obtain ⟨cb2, hcb2, hres⟩ := bind_some hres
  refine JL.cut (K := fun J => J [(2, .int .i64 q2), (12, .bool cb2)] []) 3 ?_ ?_
  · refine JL.val (yl_move rfl) rfl ?_
    obtain ⟨cb4, hcb4, hres⟩ := bind_some hres
    refine JL.cut (K := fun J => J [(16, .bool cb4)] []) 3 ?_ ?_
    · refine JL.val (yl_assign rfl) rfl ?_
      refine JL.nil ?_
      refine JE.weak (env' := [(6, .bool cb4)]) (es' := []) [] ?_ ⟨rfl, trivial⟩ (by decide) rfl
      refine JE.code ?_
      refine JX.ret ?_
      obtain rfl := Option.some.inj hres
      refine JE.ret (rs := [.tmp 6]) (vs := [.bool cb4]) rfl ⟨rfl, trivial⟩ ?_
      exact fun w' hb hs => ⟨_, _, ⟨rfl, rfl⟩, rfl, hb, hs.sel [] _ (by decide) rfl⟩
    · intro K
      rcases cond_some hcb4 with ⟨hb, hres⟩ | ⟨hb, hres⟩
      · refine JL.set (d := 13) (v := .bool true) (congrArg (fun b => some (Value.bool b)) hb) ?_
        refine JL.gval rfl rfl (yl_move rfl) rfl ?_
        obtain ⟨x5, hx5, hres⟩ := bind_some hres
        refine JL.geff rfl rfl (ef_call (T := T107 x5) Go.Proofs.Try.func107 rfl (by kernel_rfl) rfl (fun w hC => c107  hx5)) rfl ?_
        rintro _ _ ⟨_, ⟨rfl, rfl⟩, rfl⟩
        refine JL.val (yl_pick_true rfl rfl) rfl ?_
        have he := Option.some.inj hres
        exact JL.weak [] K ⟨(by rw [← he]; rfl), trivial⟩ (by decide) rfl
      · refine JL.set (d := 13) (v := .bool false) (congrArg (fun b => some (Value.bool b)) hb) ?_
        refine JL.gskip rfl rfl rfl rfl ?_
        refine JL.gskip rfl rfl rfl rfl ?_
        refine JL.val (yl_pick_false rfl rfl) rfl ?_
        have he := Option.some.inj hres
        exact JL.weak [] K ⟨(by rw [← he]; rfl), trivial⟩ (by decide) rfl
  · intro K
    rcases cond_some hcb2 with ⟨hb, hres⟩ | ⟨hb, hres⟩
    · refine JL.set (d := 9) (v := .bool true) (congrArg (fun b => some (Value.bool b)) hb) ?_
      refine JL.gval rfl rfl (yl_move rfl) rfl ?_
      obtain ⟨x3, hx3, hres⟩ := bind_some hres
      refine JL.geff rfl rfl (ef_call (T := T107 x3) Go.Proofs.Try.func107 rfl (by kernel_rfl) rfl (fun w hC => c107  hx3)) rfl ?_
      rintro _ _ ⟨_, ⟨rfl, rfl⟩, rfl⟩
      refine JL.val (yl_pick_true rfl rfl) rfl ?_
      have he := Option.some.inj hres
      exact JL.weak [] K ⟨rfl, (by rw [← he]; rfl), trivial⟩ (by decide) rfl
    · refine JL.set (d := 9) (v := .bool false) (congrArg (fun b => some (Value.bool b)) hb) ?_
      refine JL.gskip rfl rfl rfl rfl ?_
      refine JL.gskip rfl rfl rfl rfl ?_
      refine JL.val (yl_pick_false rfl rfl) rfl ?_
      have he := Option.some.inj hres
      exact JL.weak [] K ⟨rfl, (by rw [← he]; rfl), trivial⟩ (by decide) rfl

/- impl.distance -/
def sh204 (q0 : Int) (q1 : Int) : Option (Int) := some (if (w64 (q0 - q1)) < (w64 (q1 - q0)) then (w64 (q1 - q0)) else (w64 (q0 - q1)))
def T204 (r : Int) (v : Value) (rs : List Own) : Prop := v = rets [.int .i64 r] ∧ rs = []
set_option maxRecDepth 100000 in
theorem c204 {w : World} {q0 : Int} {q1 : Int} {r : Int} (hres : sh204 q0 q1 = some r) : Calls Go.Proofs.Try.prog 204 [.int .i64 q0, .int .i64 q1].toArray w (Ret w (T204 r)) := by
  unfold sh204 at hres
  refine calls_of (n := 12) (M := []) (es := []) Go.Proofs.Try.func204 rfl rfl rfl (Sep.nil _ _ _) ?_
  refine JX.seq ?_
  refine JX.region ?_
  refine JL.val (yl_assign rfl) rfl ?_
  refine JL.nil ?_
  refine JE.code ?_
  refine JX.seq ?_
  refine JX.region ?_
  refine JL.val (yl_move rfl) rfl ?_
  refine JL.val (yl_move rfl) rfl ?_
  refine JL.val (yl_sub rfl rfl) rfl ?_
  refine JL.val (yl_move rfl) rfl ?_
  refine JL.val (yl_move rfl) rfl ?_
  refine JL.val (yl_sub rfl rfl) rfl ?_
  refine JL.val (yl_max rfl rfl) rfl ?_
  refine JL.val (yl_assign rfl) rfl ?_
  refine JL.nil ?_
  refine JE.weak (env' := [(4, .int .i64 (if (w64 (q0 - q1)) < (w64 (q1 - q0)) then (w64 (q1 - q0)) else (w64 (q0 - q1))))]) (es' := []) [] ?_ ⟨rfl, trivial⟩ (by decide) rfl
  refine JE.code ?_
  refine JX.ret ?_
  obtain rfl := Option.some.inj hres
  refine JE.ret (rs := [.tmp 4]) (vs := [.int .i64 (if (w64 (q0 - q1)) < (w64 (q1 - q0)) then (w64 (q1 - q0)) else (w64 (q0 - q1)))]) rfl ⟨rfl, trivial⟩ ?_
  exact fun w' hb hs => ⟨_, _, ⟨rfl, rfl⟩, rfl, hb, hs.sel [] _ (by decide) rfl⟩

/- (impl.Panel).carveOrder -/
def sh144_2 (x3 : List (List SWalker) × List Int) (x1820 : List Bool) (x1819 : SPoint) : (Int × Int × Int) → Option ((Int × Int × Int) ⊕ (Int))
  | (x1824, x1825, x1826) => bif decide (x1826 < ((x3.1.length : Nat) : Int)) then (Option.bind (getI x3.1 x1826) fun x1827 => Option.bind (getI x1827 (0 : Int)) fun x1831 => Option.bind (sh204 x1831.At.X x1819.X) fun x1835 => Option.bind (sh204 x1831.At.Y x1819.Y) fun x1836 => Option.bind (getI x1820 x1826) fun x1837 => Option.bind (bif !x1837 && ((decide (x1824 < 0)) || (decide ((w64 (x1835 + x1836)) < x1825))) then (some (x1826, w64 (x1835 + x1836))) else (some (x1824, x1825))) fun j1838 => (some (.inl (j1838.1, j1838.2, w64 (x1826 + 1))))) else (some (.inr x1824))
def sh144_1 (x3 : List (List SWalker) × List Int) : (Int × List Int × SPoint × List Bool) → Option ((Int × List Int × SPoint × List Bool) ⊕ (List Int))
  | (x1817, x1818, x1819, x1820) => bif decide (x1817 < ((x3.1.length : Nat) : Int)) then (Option.bind (iter (sh144_2 x3 x1820 x1819) ((-1), 0, 0)) fun b2 => (Option.bind (getI x1820 b2) fun x1839 => Option.bind (getI x3.1 b2) fun x1840 => Option.bind (getI x1840 (0 : Int)) fun x1844 => Option.bind (appL x1818 [b2]) fun x1847 => some (.inl (w64 (x1817 + 1), x1847, x1844.At, x1820.set (b2).toNat true)))) else (some (.inr x1818))
def sh144 (q0 : SPanel) : Option (List Int) := Option.bind (sh97 q0) fun x3 => Option.bind (mkL ((x3.1.length : Nat) : Int) false) fun x314 => Option.bind (iter (sh144_1 x3) (0, ([] : List Int), SPoint.mk 0 0, x314)) fun b1 => (some b1)
def T144 (r : List Int) (v : Value) (rs : List Own) : Prop := ∃ (a0 : Option Addr) (n0 c0 : Nat), r.length = n0 ∧ v = rets [.slice a0 n0 c0] ∧ rs = [rowT 2 eI64 a0 n0 c0 r]
set_option maxRecDepth 100000 in
set_option maxHeartbeats 1000000 in
theorem c144 {w : World} {q0 : SPanel} {a_0_2 : Option Addr} {n_0_2 c_0_2 : Nat} (g_0_2 : Rd w a_0_2 (eI64.fl q0.Breaks)) (l_0_2 : q0.Breaks.length = n_0_2) (k_0_2 : n_0_2 ≤ c_0_2) {r : List Int} (hres : sh144 q0 = some r) : Calls Go.Proofs.Try.prog 144 [.agg #[.int .i64 q0.W, .int .i64 q0.H, .slice a_0_2 n_0_2 c_0_2]].toArray w (Ret w (T144 r)) := by
  subst l_0_2
  unfold sh144 at hres
  refine calls_of (n := 83) (M := []) (es := []) Go.Proofs.Try.func144 rfl rfl rfl (Sep.nil _ _ _) ?_
  refine JX.seq ?_
  refine JX.region ?_
  refine JL.eff (ef_box rfl rfl) rfl ?_
  rintro _ _ ⟨g1, rfl, rfl⟩
  refine JL.val (yl_assign rfl) rfl ?_
  refine JL.nil ?_
  refine JE.code ?_
  refine JX.seq ?_
  refine JX.region ?_
  refine JL.val (yl_loadn Go.Proofs.Try.underlying26 rfl i26 rfl (fun w hC => rd_box hC 0 rfl) rfl (i26s).symm i26p) rfl ?_
  obtain ⟨x3, hx3, hres⟩ := bind_some hres
  refine JL.eff (ef_call (vs := [.agg #[.int .i64 q0.W, .int .i64 q0.H, .slice a_0_2 q0.Breaks.length c_0_2]]) (T := T97 x3) Go.Proofs.Try.func97 rfl (by kernel_rfl) rfl (fun w hC => c97 (q0 := q0) (rd_arg g_0_2 hC) rfl k_0_2 hx3)) rfl ?_
  rintro _ _ ⟨_, ⟨a4, _, cp5, hs7, rfl, hi8, a10, _, cp11, rfl, rfl, rfl⟩, rfl⟩
  refine JL.val (yl_move rfl) rfl ?_
  refine JL.val (yl_extract rfl rfl) rfl ?_
  refine JL.val (yl_extract rfl rfl) rfl ?_
  refine JL.val (yl_assign rfl) rfl ?_
  refine JL.val (yl_assign rfl) rfl ?_
  refine JL.nil ?_
  refine JE.weak (env' := [(3, .slice a4 x3.1.length cp5)]) (es' := [rowT 102 eHd a4 x3.1.length cp5 hs7, innO 104 eSWalker none hs7 x3.1]) [1, 2] ?_ ⟨rfl, trivial⟩ (by decide) rfl
  refine JE.code ?_
  refine JX.seq ?_
  refine JX.drawH [(1, .pure), (2, .pure), (3, .pure), (0, .tree (.alt 0 (.alt 4 (.alt 5 (.pure 6 (.alt 7 (.pure 8 .done) .nil)) .nil) (.alt 5 (.pure 6 (.alt 4 (.alt 7 (.pure 8 .done) .nil) (.alt 7 (.alt 4 (.pure 8 .done) .nil) .nil))) .nil)) (.alt 4 (.alt 0 (.alt 5 (.pure 6 (.alt 7 (.pure 8 .done) .nil)) .nil) (.alt 5 (.alt 0 (.pure 6 (.alt 7 (.pure 8 .done) .nil)) .nil) .nil)) (.alt 5 (.alt 0 (.pure 6 (.alt 4 (.alt 7 (.pure 8 .done) .nil) (.alt 7 (.alt 4 (.pure 8 .done) .nil) .nil))) (.alt 4 (.alt 0 (.pure 6 (.alt 7 (.pure 8 .done) .nil)) .nil) .nil)) .nil))))] [7] [] [0, 1] [] [rowT 102 eHd a4 x3.1.length cp5 hs7, innO 104 eSWalker none hs7 x3.1] mixedP (by kernel_rfl) (by kernel_rfl) (by decide) rfl rfl ?_
  intro wrr13 Nr13 hFr13
  refine JH.pure rfl (yl_build rfl (fun w => bld42_  w)) rfl ?_
  refine JH.pure rfl (yl_move rfl) rfl ?_
  refine JH.pure rfl (yl_len_slice Go.Proofs.Try.underlying99 rfl) rfl ?_
  obtain ⟨x314, hx314, hres⟩ := bind_some hres
  refine JH.cutS (K := fun J => ∀ (a14 : Option Addr) (a315 : Option Addr) (g614 : Nat), J [(3, .slice a4 x3.1.length cp5), (5, .slice a14 0 0), (6, ptrAt (some ⟨g614, 0, none⟩) 0), (7, .slice a315 x314.length x314.length)] [rowT 2 eI64 a14 0 0 ([] : List Int), rowT 4 eBool a315 x314.length x314.length x314, boxO 42 g614 [.int .i64 0, .int .i64 0]]) false 1 ?_ ?_
  · intro a14 a315 g614
    refine JH.nil ?_
    refine JE.weak (env' := [(3, .slice a4 x3.1.length cp5), (5, .slice a14 0 0), (6, ptrAt (some ⟨g614, 0, none⟩) 0), (7, .slice a315 x314.length x314.length)]) (es' := [rowT 102 eHd a4 x3.1.length cp5 hs7, innO 104 eSWalker none hs7 x3.1, rowT 2 eI64 a14 0 0 ([] : List Int), boxO 42 g614 [.int .i64 0, .int .i64 0], rowT 4 eBool a315 x314.length x314.length x314]) [0, 1, 2, 4, 3] ?_ ⟨rfl, rfl, rfl, rfl, trivial⟩ (by decide) rfl
    refine JE.code ?_
    refine JX.seq ?_
    refine JX.seq ?_
    refine JX.region ?_
    refine JL.val (yl_move rfl) rfl ?_
    refine JL.val (yl_len_slice Go.Proofs.Try.underlying99 rfl) rfl ?_
    refine JL.val (yl_move rfl) rfl ?_
    refine JL.nil ?_
    refine JE.code ?_
    refine JX.block ?_
    obtain ⟨y1, hy1, hresO1⟩ := bind_some hres
    refine JX.loop (I := fun (s1 : Int × List Int × SPoint × List Bool) aa ww => ∃ (a1814 : Option Addr) (cp1815 : Nat) (l1816 : s1.2.2.2.length = x314.length), St w [] 83 [(3, .slice a4 x3.1.length cp5), (5, .slice a1814 s1.2.1.length cp1815), (6, ptrAt (some ⟨g614, 0, none⟩) 0), (7, .slice a315 x314.length x314.length), (25, .int .i64 ((x3.1.length : Nat) : Int)), (26, .int .i64 s1.1)] [rowT 102 eHd a4 x3.1.length cp5 hs7, innO 104 eSWalker none hs7 x3.1, rowT 2 eI64 a1814 s1.2.1.length cp1815 s1.2.1, boxO 42 g614 [.int .i64 s1.2.2.1.X, .int .i64 s1.2.2.1.Y], rowT 4 eBool a315 x314.length x314.length s1.2.2.2] aa ww) (sh144_1 x3) hy1 (fun a w h => ⟨a14, 0, rfl, h.weak ⟨rfl, rfl, rfl, rfl, rfl, rfl, trivial⟩ [0, 1, 2, 3, 4] (by decide) rfl⟩) ?_
    rintro ⟨x1817, x1818, x1819, x1820⟩ o1 hres hox1 aa ww ⟨a1821, cp1822, l1823, hS⟩
    refine (?_ : JX Go.Proofs.Try.prog w [] 83 _ _ [(3, .slice a4 x3.1.length cp5), (5, .slice a1821 x1818.length cp1822), (6, ptrAt (some ⟨g614, 0, none⟩) 0), (7, .slice a315 x314.length x314.length), (25, .int .i64 ((x3.1.length : Nat) : Int)), (26, .int .i64 x1817)] [rowT 102 eHd a4 x3.1.length cp5 hs7, innO 104 eSWalker none hs7 x3.1, rowT 2 eI64 a1821 x1818.length cp1822 x1818, boxO 42 g614 [.int .i64 x1819.X, .int .i64 x1819.Y], rowT 4 eBool a315 x314.length x314.length x1820] _) aa ww hS
    clear hS
    simp only [sh144_1] at hres
    refine JX.seq ?_
    refine JX.region ?_
    refine JL.val (yl_lss rfl rfl) rfl ?_
    refine JL.nil ?_
    refine JE.code ?_
    refine JX.seq ?_
    rcases cond_some hres with ⟨hb, hres⟩ | ⟨hb, hres⟩
    · refine JX.condT rfl hb ?_
      refine JX.skip ?_
      refine JE.code ?_
      refine JX.seq ?_
      refine JX.block ?_
      refine JX.seq ?_
      refine JX.region ?_
      refine JL.val (yl_assign rfl) rfl ?_
      refine JL.val (yl_assign rfl) rfl ?_
      refine JL.nil ?_
      refine JE.code ?_
      refine JX.seq ?_
      refine JX.seq ?_
      refine JX.region ?_
      refine JL.val (yl_move rfl) rfl ?_
      refine JL.val (yl_len_slice Go.Proofs.Try.underlying99 rfl) rfl ?_
      refine JL.val (yl_move rfl) rfl ?_
      refine JL.nil ?_
      refine JE.code ?_
      refine JX.block ?_
      obtain ⟨y2, hy2, hresO2⟩ := bind_some hres
      refine JX.loop (I := fun (s2 : Int × Int × Int) aa ww => St w [] 83 [(3, .slice a4 x3.1.length cp5), (5, .slice a1821 x1818.length cp1822), (6, ptrAt (some ⟨g614, 0, none⟩) 0), (7, .slice a315 x314.length x314.length), (8, .int .i64 s2.1), (9, .int .i64 s2.2.1), (25, .int .i64 ((x3.1.length : Nat) : Int)), (26, .int .i64 x1817), (28, .slice a4 x3.1.length cp5), (29, .int .i64 ((x3.1.length : Nat) : Int)), (30, .int .i64 s2.2.2)] [rowT 102 eHd a4 x3.1.length cp5 hs7, innO 104 eSWalker none hs7 x3.1, rowT 2 eI64 a1821 x1818.length cp1822 x1818, boxO 42 g614 [.int .i64 x1819.X, .int .i64 x1819.Y], rowT 4 eBool a315 x314.length x314.length x1820] aa ww) (sh144_2 x3 x1820 x1819) hy2 (fun a w h => h.weak ⟨rfl, rfl, rfl, rfl, rfl, rfl, rfl, rfl, rfl, rfl, rfl, trivial⟩ [0, 1, 2, 3, 4] (by decide) rfl) ?_
      rintro ⟨x1824, x1825, x1826⟩ o2 hres hox2 aa ww hS
      refine (?_ : JX Go.Proofs.Try.prog w [] 83 _ _ [(3, .slice a4 x3.1.length cp5), (5, .slice a1821 x1818.length cp1822), (6, ptrAt (some ⟨g614, 0, none⟩) 0), (7, .slice a315 x314.length x314.length), (8, .int .i64 x1824), (9, .int .i64 x1825), (25, .int .i64 ((x3.1.length : Nat) : Int)), (26, .int .i64 x1817), (28, .slice a4 x3.1.length cp5), (29, .int .i64 ((x3.1.length : Nat) : Int)), (30, .int .i64 x1826)] [rowT 102 eHd a4 x3.1.length cp5 hs7, innO 104 eSWalker none hs7 x3.1, rowT 2 eI64 a1821 x1818.length cp1822 x1818, boxO 42 g614 [.int .i64 x1819.X, .int .i64 x1819.Y], rowT 4 eBool a315 x314.length x314.length x1820] _) aa ww hS
      clear hS
      simp only [sh144_2] at hres
      refine JX.seq ?_
      refine JX.region ?_
      refine JL.val (yl_lss rfl rfl) rfl ?_
      refine JL.nil ?_
      refine JE.code ?_
      refine JX.seq ?_
      rcases cond_some hres with ⟨hb, hres⟩ | ⟨hb, hres⟩
      · refine JX.condT rfl hb ?_
        refine JX.skip ?_
        refine JE.code ?_
        refine JX.seq ?_
        refine JX.block ?_
        refine JX.seq ?_
        refine JX.region ?_
        refine JL.val (yl_move rfl) rfl ?_
        obtain ⟨x1827, hx1827, hres⟩ := bind_some hres
        obtain ⟨ha1828, hc1829, hhx1827⟩ := Inn.sub hi8 hx1827
        refine JL.val (yl_idxT Go.Proofs.Try.underlying99 i102 i102s rfl rfl hhx1827 (Inn.len hi8) (fun w hC => rd_row hC 0 rfl)) rfl ?_
        refine JL.val (yl_loadT0 (z := ⟨ha1828, x1827.length, hc1829⟩) Go.Proofs.Try.underlying102 rfl rfl hhx1827 (fun w hC => rd_row hC 0 rfl) rfl) rfl ?_
        refine JL.val (yl_assign rfl) rfl ?_
        refine JL.val (yl_assign rfl) rfl ?_
        refine JL.nil ?_
        refine JE.weak (env' := [(3, .slice a4 x3.1.length cp5), (5, .slice a1821 x1818.length cp1822), (6, ptrAt (some ⟨g614, 0, none⟩) 0), (7, .slice a315 x314.length x314.length), (8, .int .i64 x1824), (9, .int .i64 x1825), (10, .int .i64 x1826), (11, .slice ha1828 x1827.length hc1829), (25, .int .i64 ((x3.1.length : Nat) : Int)), (26, .int .i64 x1817), (28, .slice a4 x3.1.length cp5), (29, .int .i64 ((x3.1.length : Nat) : Int)), (30, .int .i64 x1826)]) (es' := [rowT 102 eHd a4 x3.1.length cp5 hs7, innO 104 eSWalker none hs7 x3.1, rowT 2 eI64 a1821 x1818.length cp1822 x1818, boxO 42 g614 [.int .i64 x1819.X, .int .i64 x1819.Y], rowT 4 eBool a315 x314.length x314.length x1820]) [0, 1, 2, 3, 4] ?_ ⟨rfl, rfl, rfl, rfl, rfl, rfl, rfl, rfl, rfl, rfl, rfl, rfl, rfl, trivial⟩ (by decide) rfl
        refine JE.code ?_
        refine JX.seq ?_
        refine JX.region ?_
        refine JL.val (yl_move rfl) rfl ?_
        obtain ⟨x1831, hx1831, hres⟩ := bind_some hres
        refine JL.val (yl_idxT Go.Proofs.Try.underlying102 i104 i104s rfl rfl hx1831 rfl (fun w hC => (RdI.sub (rd_inn hC 1 rfl) hx1827 hhx1827))) rfl ?_
        refine JL.val (yl_fieldAtT Go.Proofs.Try.underlying104 rfl i42 i42n rfl hx1831 (fun w hC => (RdI.sub (rd_inn hC 1 rfl) hx1827 hhx1827))) rfl ?_
        refine JL.val (yl_loadTs (j := 0) (kk := 2) Go.Proofs.Try.underlying42 rfl i42 i42s rfl hx1831 (fun w hC => (RdI.sub (rd_inn hC 1 rfl) hx1827 hhx1827)) rfl rfl (by decide) (Nat.le_of_ble_eq_true rfl)) rfl ?_
        refine JL.eff (ef_alloc i42 i42z rfl) rfl ?_
        rintro _ _ ⟨g1832, rfl, rfl⟩
        refine JL.eff (ef_store_box (i := 5) (v := .agg #[.int .i64 x1831.At.X, .int .i64 x1831.At.Y]) i42 rfl rfl rfl (i42s).symm (Nat.le_of_ble_eq_true rfl) (by simp [Value.cells, Value.oneCell'])) rfl ?_
        rintro _ _ rfl
        refine JL.nil ?_
        refine JE.weak (env' := [(3, .slice a4 x3.1.length cp5), (5, .slice a1821 x1818.length cp1822), (6, ptrAt (some ⟨g614, 0, none⟩) 0), (7, .slice a315 x314.length x314.length), (8, .int .i64 x1824), (9, .int .i64 x1825), (10, .int .i64 x1826), (12, ptrAt (some ⟨g1832, 0, none⟩) 0), (25, .int .i64 ((x3.1.length : Nat) : Int)), (26, .int .i64 x1817), (28, .slice a4 x3.1.length cp5), (29, .int .i64 ((x3.1.length : Nat) : Int)), (30, .int .i64 x1826)]) (es' := [rowT 102 eHd a4 x3.1.length cp5 hs7, innO 104 eSWalker none hs7 x3.1, rowT 2 eI64 a1821 x1818.length cp1822 x1818, boxO 42 g614 [.int .i64 x1819.X, .int .i64 x1819.Y], rowT 4 eBool a315 x314.length x314.length x1820, boxO 42 g1832 [.int .i64 x1831.At.X, .int .i64 x1831.At.Y]]) [0, 1, 2, 3, 4, 5] ?_ ⟨rfl, rfl, rfl, rfl, rfl, rfl, rfl, rfl, rfl, rfl, rfl, rfl, rfl, trivial⟩ (by decide) rfl
        refine JE.code ?_
        refine JX.seq ?_
        refine JX.drawH [(0, .pure), (1, .read), (2, .pure), (3, .read), (5, .pure), (6, .read), (7, .pure), (8, .read), (4, .must), (9, .must), (10, .pure), (11, .pure)] [] [] [0, 1, 2, 3, 4, 5] [] [rowT 102 eHd a4 x3.1.length cp5 hs7, innO 104 eSWalker none hs7 x3.1, rowT 2 eI64 a1821 x1818.length cp1822 x1818, boxO 42 g614 [.int .i64 x1819.X, .int .i64 x1819.Y], rowT 4 eBool a315 x314.length x314.length x1820, boxO 42 g1832 [.int .i64 x1831.At.X, .int .i64 x1831.At.Y]] mixedP (by kernel_rfl) (by kernel_rfl) (by decide) rfl rfl ?_
        intro wrr1834 Nr1834 hFr1834
        refine JH.pure rfl (yl_fieldAt (a := some _) Go.Proofs.Try.underlying42 rfl i2 i2n rfl rfl) rfl ?_
        refine JH.read rfl (yl_load1 Go.Proofs.Try.underlying2 rfl rfl (fun w hw => hFr1834.box 5 rfl rfl hw) rfl) rfl ?_
        refine JH.pure rfl (yl_fieldAt (a := some _) Go.Proofs.Try.underlying42 rfl i2 i2n rfl rfl) rfl ?_
        refine JH.read rfl (yl_load1 Go.Proofs.Try.underlying2 rfl rfl (fun w hw => hFr1834.box 3 rfl rfl hw) rfl) rfl ?_
        refine JH.pure rfl (yl_fieldAt (a := some _) Go.Proofs.Try.underlying42 rfl i2 i2n rfl rfl) rfl ?_
        refine JH.read rfl (yl_load1 Go.Proofs.Try.underlying2 rfl rfl (fun w hw => hFr1834.box 5 rfl rfl hw) rfl) rfl ?_
        refine JH.pure rfl (yl_fieldAt (a := some _) Go.Proofs.Try.underlying42 rfl i2 i2n rfl rfl) rfl ?_
        refine JH.read rfl (yl_load1 Go.Proofs.Try.underlying2 rfl rfl (fun w hw => hFr1834.box 3 rfl rfl hw) rfl) rfl ?_
        obtain ⟨x1835, hx1835, hres⟩ := bind_some hres
        refine JH.must rfl (ef_call (T := T204 x1835) Go.Proofs.Try.func204 rfl (by kernel_rfl) rfl (fun w hC => c204  hx1835)) rfl rfl ?_
        rintro _ _ ⟨_, ⟨rfl, rfl⟩, rfl⟩
        obtain ⟨x1836, hx1836, hres⟩ := bind_some hres
        refine JH.must rfl (ef_call (T := T204 x1836) Go.Proofs.Try.func204 rfl (by kernel_rfl) rfl (fun w hC => c204  hx1836)) rfl rfl ?_
        rintro _ _ ⟨_, ⟨rfl, rfl⟩, rfl⟩
        refine JH.pure rfl (yl_add rfl rfl) rfl ?_
        refine JH.pure rfl (yl_assign rfl) rfl ?_
        refine JH.nil ?_
        refine JE.weak (env' := [(3, .slice a4 x3.1.length cp5), (5, .slice a1821 x1818.length cp1822), (6, ptrAt (some ⟨g614, 0, none⟩) 0), (7, .slice a315 x314.length x314.length), (8, .int .i64 x1824), (9, .int .i64 x1825), (10, .int .i64 x1826), (13, .int .i64 (w64 (x1835 + x1836))), (25, .int .i64 ((x3.1.length : Nat) : Int)), (26, .int .i64 x1817), (28, .slice a4 x3.1.length cp5), (29, .int .i64 ((x3.1.length : Nat) : Int)), (30, .int .i64 x1826)]) (es' := [rowT 102 eHd a4 x3.1.length cp5 hs7, innO 104 eSWalker none hs7 x3.1, rowT 2 eI64 a1821 x1818.length cp1822 x1818, boxO 42 g614 [.int .i64 x1819.X, .int .i64 x1819.Y], rowT 4 eBool a315 x314.length x314.length x1820]) [0, 1, 2, 3, 4] ?_ ⟨rfl, rfl, rfl, rfl, rfl, rfl, rfl, rfl, rfl, rfl, rfl, rfl, rfl, trivial⟩ (by decide) rfl
        refine JE.code ?_
        refine JX.seq ?_
        refine JX.region ?_
        refine JL.val (yl_move rfl) rfl ?_
        refine JL.val (yl_move rfl) rfl ?_
        obtain ⟨x1837, hx1837, hres⟩ := bind_some hres
        refine JL.val (yl_idxT Go.Proofs.Try.underlying182 i4 i4s rfl rfl hx1837 l1823 (fun w hC => rd_row hC 4 rfl)) rfl ?_
        refine JL.val (yl_loadT0 Go.Proofs.Try.underlying4 rfl rfl hx1837 (fun w hC => rd_row hC 4 rfl) rfl) rfl ?_
        refine JL.val (yl_not rfl) rfl ?_
        refine JL.val (yl_move rfl) rfl ?_
        refine JL.cut (K := fun J => J [(3, .slice a4 x3.1.length cp5), (5, .slice a1821 x1818.length cp1822), (6, ptrAt (some ⟨g614, 0, none⟩) 0), (7, .slice a315 x314.length x314.length), (8, .int .i64 x1824), (9, .int .i64 x1825), (10, .int .i64 x1826), (13, .int .i64 (w64 (x1835 + x1836))), (25, .int .i64 ((x3.1.length : Nat) : Int)), (26, .int .i64 x1817), (28, .slice a4 x3.1.length cp5), (29, .int .i64 ((x3.1.length : Nat) : Int)), (30, .int .i64 x1826), (63, .bool (!x1837 && ((decide (x1824 < 0)) || (decide ((w64 (x1835 + x1836)) < x1825)))))] [rowT 102 eHd a4 x3.1.length cp5 hs7, innO 104 eSWalker none hs7 x3.1, rowT 2 eI64 a1821 x1818.length cp1822 x1818, boxO 42 g614 [.int .i64 x1819.X, .int .i64 x1819.Y], rowT 4 eBool a315 x314.length x314.length x1820]) 8 ?_ ?_
        · refine JL.nil ?_
          refine JE.weak (env' := [(3, .slice a4 x3.1.length cp5), (5, .slice a1821 x1818.length cp1822), (6, ptrAt (some ⟨g614, 0, none⟩) 0), (7, .slice a315 x314.length x314.length), (8, .int .i64 x1824), (9, .int .i64 x1825), (10, .int .i64 x1826), (13, .int .i64 (w64 (x1835 + x1836))), (25, .int .i64 ((x3.1.length : Nat) : Int)), (26, .int .i64 x1817), (28, .slice a4 x3.1.length cp5), (29, .int .i64 ((x3.1.length : Nat) : Int)), (30, .int .i64 x1826), (63, .bool (!x1837 && ((decide (x1824 < 0)) || (decide ((w64 (x1835 + x1836)) < x1825)))))]) (es' := [rowT 102 eHd a4 x3.1.length cp5 hs7, innO 104 eSWalker none hs7 x3.1, rowT 2 eI64 a1821 x1818.length cp1822 x1818, boxO 42 g614 [.int .i64 x1819.X, .int .i64 x1819.Y], rowT 4 eBool a315 x314.length x314.length x1820]) [0, 1, 2, 3, 4] ?_ ⟨rfl, rfl, rfl, rfl, rfl, rfl, rfl, rfl, rfl, rfl, rfl, rfl, rfl, rfl, trivial⟩ (by decide) rfl
          refine JE.code ?_
          obtain ⟨j1838, hj1838, hresj1838⟩ := bind_some hres
          refine JX.cut (K := fun J => J [(3, .slice a4 x3.1.length cp5), (5, .slice a1821 x1818.length cp1822), (6, ptrAt (some ⟨g614, 0, none⟩) 0), (7, .slice a315 x314.length x314.length), (8, .int .i64 j1838.1), (9, .int .i64 j1838.2), (25, .int .i64 ((x3.1.length : Nat) : Int)), (26, .int .i64 x1817), (28, .slice a4 x3.1.length cp5), (29, .int .i64 ((x3.1.length : Nat) : Int)), (30, .int .i64 x1826)] [rowT 102 eHd a4 x3.1.length cp5 hs7, innO 104 eSWalker none hs7 x3.1, rowT 2 eI64 a1821 x1818.length cp1822 x1818, boxO 42 g614 [.int .i64 x1819.X, .int .i64 x1819.Y], rowT 4 eBool a315 x314.length x314.length x1820]) ?_ ?_
          · have hres := hresj1838
            refine JE.code ?_
            refine JX.region ?_
            refine JL.val (yl_add rfl rfl) rfl ?_
            refine JL.val (yl_move rfl) rfl ?_
            refine JL.nil ?_
            refine JE.cont hres ?_
            exact fun a w h => h.weak ⟨rfl, rfl, rfl, rfl, rfl, rfl, rfl, rfl, rfl, rfl, rfl, trivial⟩ [0, 1, 2, 3, 4] (by decide) rfl
          · intro K
            rcases cond_some hj1838 with ⟨hb, hres⟩ | ⟨hb, hres⟩
            · refine JX.condT rfl hb ?_
              refine JX.region ?_
              refine JL.val (yl_move rfl) rfl ?_
              refine JL.val (yl_move rfl) rfl ?_
              refine JL.val (yl_assign rfl) rfl ?_
              refine JL.val (yl_assign rfl) rfl ?_
              refine JL.nil ?_
              refine JE.weak (env' := [(3, .slice a4 x3.1.length cp5), (5, .slice a1821 x1818.length cp1822), (6, ptrAt (some ⟨g614, 0, none⟩) 0), (7, .slice a315 x314.length x314.length), (8, .int .i64 x1826), (9, .int .i64 (w64 (x1835 + x1836))), (25, .int .i64 ((x3.1.length : Nat) : Int)), (26, .int .i64 x1817), (28, .slice a4 x3.1.length cp5), (29, .int .i64 ((x3.1.length : Nat) : Int)), (30, .int .i64 x1826)]) (es' := [rowT 102 eHd a4 x3.1.length cp5 hs7, innO 104 eSWalker none hs7 x3.1, rowT 2 eI64 a1821 x1818.length cp1822 x1818, boxO 42 g614 [.int .i64 x1819.X, .int .i64 x1819.Y], rowT 4 eBool a315 x314.length x314.length x1820]) [0, 1, 2, 3, 4] ?_ ⟨rfl, rfl, rfl, rfl, rfl, rfl, rfl, rfl, rfl, rfl, rfl, trivial⟩ (by decide) rfl
              have hj := Option.some.inj hres
              exact JE.weak [0, 1, 2, 3, 4] (K) ⟨(by subst hj; rfl), (by subst hj; rfl), (by subst hj; rfl), (by subst hj; rfl), (by subst hj; rfl), (by subst hj; rfl), (by subst hj; rfl), (by subst hj; rfl), (by subst hj; rfl), (by subst hj; rfl), (by subst hj; rfl), trivial⟩ (by decide) (by subst hj; rfl)
            · refine JX.condF rfl hb ?_
              refine JX.skip ?_
              have hj := Option.some.inj hres
              exact JE.weak [0, 1, 2, 3, 4] (K) ⟨(by subst hj; rfl), (by subst hj; rfl), (by subst hj; rfl), (by subst hj; rfl), (by subst hj; rfl), (by subst hj; rfl), (by subst hj; rfl), (by subst hj; rfl), (by subst hj; rfl), (by subst hj; rfl), (by subst hj; rfl), trivial⟩ (by decide) (by subst hj; rfl)
        · intro K
          rcases Bool.eq_false_or_eq_true (!x1837) with hb | hb
          · refine JL.set (d := 55) (v := .bool true) (congrArg (fun b => some (Value.bool b)) hb) ?_
            refine JL.gval rfl rfl (yl_move rfl) rfl ?_
            refine JL.gval rfl rfl (yl_lss rfl rfl) rfl ?_
            refine JL.gval rfl rfl (yl_move rfl) rfl ?_
            refine JL.cut (K := fun J => J [(3, .slice a4 x3.1.length cp5), (5, .slice a1821 x1818.length cp1822), (6, ptrAt (some ⟨g614, 0, none⟩) 0), (7, .slice a315 x314.length x314.length), (8, .int .i64 x1824), (9, .int .i64 x1825), (10, .int .i64 x1826), (13, .int .i64 (w64 (x1835 + x1836))), (25, .int .i64 ((x3.1.length : Nat) : Int)), (26, .int .i64 x1817), (28, .slice a4 x3.1.length cp5), (29, .int .i64 ((x3.1.length : Nat) : Int)), (30, .int .i64 x1826), (55, .bool true), (62, .bool ((decide (x1824 < 0)) || (decide ((w64 (x1835 + x1836)) < x1825))))] [rowT 102 eHd a4 x3.1.length cp5 hs7, innO 104 eSWalker none hs7 x3.1, rowT 2 eI64 a1821 x1818.length cp1822 x1818, boxO 42 g614 [.int .i64 x1819.X, .int .i64 x1819.Y], rowT 4 eBool a315 x314.length x314.length x1820]) 4 ?_ ?_
            · refine JL.val (yl_pick_true rfl rfl) rfl ?_
              exact JL.weak [0, 1, 2, 3, 4] K ⟨rfl, rfl, rfl, rfl, rfl, rfl, rfl, rfl, rfl, rfl, rfl, rfl, rfl, (by rw [hb]; rfl), trivial⟩ (by decide) rfl
            · intro K
              rcases Bool.eq_false_or_eq_true (decide (x1824 < 0)) with hb | hb
              · refine JL.set (d := 58) (v := .bool true) (congrArg (fun b => some (Value.bool b)) hb) ?_
                refine JL.gskip rfl rfl rfl rfl ?_
                refine JL.gskip rfl rfl rfl rfl ?_
                refine JL.gskip rfl rfl rfl rfl ?_
                refine JL.gval rfl rfl (yl_pick_true rfl rfl) rfl ?_
                exact JL.weak [0, 1, 2, 3, 4] K ⟨rfl, rfl, rfl, rfl, rfl, rfl, rfl, rfl, rfl, rfl, rfl, rfl, rfl, rfl, (by rw [hb]; rfl), trivial⟩ (by decide) rfl
              · refine JL.set (d := 58) (v := .bool false) (congrArg (fun b => some (Value.bool b)) hb) ?_
                refine JL.gval rfl rfl (yl_move rfl) rfl ?_
                refine JL.gval rfl rfl (yl_move rfl) rfl ?_
                refine JL.gval rfl rfl (yl_lss rfl rfl) rfl ?_
                refine JL.gval rfl rfl (yl_pick_false rfl rfl) rfl ?_
                exact JL.weak [0, 1, 2, 3, 4] K ⟨rfl, rfl, rfl, rfl, rfl, rfl, rfl, rfl, rfl, rfl, rfl, rfl, rfl, rfl, (by rw [hb]; rfl), trivial⟩ (by decide) rfl
          · refine JL.set (d := 55) (v := .bool false) (congrArg (fun b => some (Value.bool b)) hb) ?_
            refine JL.gskip rfl rfl rfl rfl ?_
            refine JL.gskip rfl rfl rfl rfl ?_
            refine JL.gskip rfl rfl rfl rfl ?_
            refine JL.gnone rfl rfl rfl ?_
            refine JL.gnone rfl rfl rfl ?_
            refine JL.gnone rfl rfl rfl ?_
            refine JL.gskip rfl rfl rfl rfl ?_
            refine JL.val (yl_pick_false rfl rfl) rfl ?_
            exact JL.weak [0, 1, 2, 3, 4] K ⟨rfl, rfl, rfl, rfl, rfl, rfl, rfl, rfl, rfl, rfl, rfl, rfl, rfl, (by rw [hb]; rfl), trivial⟩ (by decide) rfl
      · refine JX.condF rfl hb ?_
        refine JX.exit ?_
        refine JE.qb rfl ?_
        obtain ⟨b2, hb2⟩ : ∃ b : Int, b = x1824 := ⟨_, rfl⟩
        have hy2 : b2 = y2 := by rw [hb2]; exact hox2 _ (Option.some.inj hres).symm
        have hres := hresO2
        rw [← hy2] at hres
        refine JE.weak (env' := [(3, .slice a4 x3.1.length cp5), (5, .slice a1821 x1818.length cp1822), (6, ptrAt (some ⟨g614, 0, none⟩) 0), (7, .slice a315 x314.length x314.length), (8, .int .i64 b2), (25, .int .i64 ((x3.1.length : Nat) : Int)), (26, .int .i64 x1817)]) (es' := [rowT 102 eHd a4 x3.1.length cp5 hs7, innO 104 eSWalker none hs7 x3.1, rowT 2 eI64 a1821 x1818.length cp1822 x1818, boxO 42 g614 [.int .i64 x1819.X, .int .i64 x1819.Y], rowT 4 eBool a315 x314.length x314.length x1820]) [0, 1, 2, 3, 4] ?_ ⟨(by subst hb2; rfl), (by subst hb2; rfl), (by subst hb2; rfl), (by subst hb2; rfl), (by subst hb2; rfl), (by subst hb2; rfl), (by subst hb2; rfl), trivial⟩ (by decide) (by subst hb2; rfl)
        refine JE.code ?_
        refine JX.seq ?_
        refine JX.region ?_
        refine JL.val (yl_move rfl) rfl ?_
        refine JL.val (yl_move rfl) rfl ?_
        obtain ⟨x1839, hx1839, hres⟩ := bind_some hres
        refine JL.val (yl_idxT Go.Proofs.Try.underlying182 i4 i4s rfl rfl hx1839 l1823 (fun w hC => rd_row hC 4 rfl)) rfl ?_
        refine JL.eff (ef_storeT (ix := 4) (u := true) i4 i4s rfl rfl rfl hx1839 rfl) rfl ?_
        rintro _ _ rfl
        refine JL.nil ?_
        refine JE.weak (env' := [(3, .slice a4 x3.1.length cp5), (5, .slice a1821 x1818.length cp1822), (6, ptrAt (some ⟨g614, 0, none⟩) 0), (7, .slice a315 x314.length x314.length), (8, .int .i64 b2), (25, .int .i64 ((x3.1.length : Nat) : Int)), (26, .int .i64 x1817)]) (es' := [rowT 102 eHd a4 x3.1.length cp5 hs7, innO 104 eSWalker none hs7 x3.1, rowT 2 eI64 a1821 x1818.length cp1822 x1818, boxO 42 g614 [.int .i64 x1819.X, .int .i64 x1819.Y], rowT 4 eBool a315 x314.length x314.length (x1820.set (b2).toNat true)]) [0, 1, 2, 3, 4] ?_ ⟨rfl, rfl, rfl, rfl, rfl, rfl, rfl, trivial⟩ (by decide) rfl
        refine JE.code ?_
        refine JX.seq ?_
        refine JX.region ?_
        refine JL.val (yl_move rfl) rfl ?_
        refine JL.val (yl_move rfl) rfl ?_
        obtain ⟨x1840, hx1840, hres⟩ := bind_some hres
        obtain ⟨ha1841, hc1842, hhx1840⟩ := Inn.sub hi8 hx1840
        refine JL.val (yl_idxT Go.Proofs.Try.underlying99 i102 i102s rfl rfl hhx1840 (Inn.len hi8) (fun w hC => rd_row hC 0 rfl)) rfl ?_
        refine JL.val (yl_loadT0 (z := ⟨ha1841, x1840.length, hc1842⟩) Go.Proofs.Try.underlying102 rfl rfl hhx1840 (fun w hC => rd_row hC 0 rfl) rfl) rfl ?_
        obtain ⟨x1844, hx1844, hres⟩ := bind_some hres
        refine JL.val (yl_idxT Go.Proofs.Try.underlying102 i104 i104s rfl rfl hx1844 rfl (fun w hC => (RdI.sub (rd_inn hC 1 rfl) hx1840 hhx1840))) rfl ?_
        refine JL.val (yl_fieldAtT Go.Proofs.Try.underlying104 rfl i42 i42n rfl hx1844 (fun w hC => (RdI.sub (rd_inn hC 1 rfl) hx1840 hhx1840))) rfl ?_
        refine JL.val (yl_loadTs (j := 0) (kk := 2) Go.Proofs.Try.underlying42 rfl i42 i42s rfl hx1844 (fun w hC => (RdI.sub (rd_inn hC 1 rfl) hx1840 hhx1840)) rfl rfl (by decide) (Nat.le_of_ble_eq_true rfl)) rfl ?_
        refine JL.eff (ef_store_box (i := 3) (v := .agg #[.int .i64 x1844.At.X, .int .i64 x1844.At.Y]) i42 rfl rfl rfl (i42s).symm (Nat.le_of_ble_eq_true rfl) (by simp [Value.cells, Value.oneCell'])) rfl ?_
        rintro _ _ rfl
        refine JL.nil ?_
        refine JE.weak (env' := [(3, .slice a4 x3.1.length cp5), (5, .slice a1821 x1818.length cp1822), (6, ptrAt (some ⟨g614, 0, none⟩) 0), (7, .slice a315 x314.length x314.length), (8, .int .i64 b2), (25, .int .i64 ((x3.1.length : Nat) : Int)), (26, .int .i64 x1817)]) (es' := [rowT 102 eHd a4 x3.1.length cp5 hs7, innO 104 eSWalker none hs7 x3.1, rowT 2 eI64 a1821 x1818.length cp1822 x1818, boxO 42 g614 [.int .i64 x1844.At.X, .int .i64 x1844.At.Y], rowT 4 eBool a315 x314.length x314.length (x1820.set (b2).toNat true)]) [0, 1, 2, 3, 4] ?_ ⟨rfl, rfl, rfl, rfl, rfl, rfl, rfl, trivial⟩ (by decide) rfl
        refine JE.code ?_
        refine JX.region ?_
        refine JL.val (yl_move rfl) rfl ?_
        refine JL.val (yl_move rfl) rfl ?_
        refine JL.eff (ef_buildSlice (E := 2) (k := eI64.k) (us := eI64.fl [b2]) rfl (fun w => bsl24_1 b2 w) rfl (by decide)) rfl ?_
        rintro _ _ ⟨a1845, rfl, rfl⟩
        obtain ⟨x1847, hx1847, hres⟩ := bind_some hres
        refine JL.eff (ef_appendT (ix := 2) Go.Proofs.Try.underlying24 i2 i2z i2s rfl i2b0 i2b1 rfl rfl rfl rfl rfl (fun w hC => rd_row hC 5 rfl) hx1847) rfl ?_
        rintro _ _ ⟨a1848, cp1849, rfl, rfl⟩
        refine JL.val (yl_assign rfl) rfl ?_
        refine JL.nil ?_
        refine JE.weak (env' := [(3, .slice a4 x3.1.length cp5), (5, .slice a1848 x1847.length cp1849), (6, ptrAt (some ⟨g614, 0, none⟩) 0), (7, .slice a315 x314.length x314.length), (25, .int .i64 ((x3.1.length : Nat) : Int)), (26, .int .i64 x1817)]) (es' := [rowT 102 eHd a4 x3.1.length cp5 hs7, innO 104 eSWalker none hs7 x3.1, rowT 2 eI64 a1848 x1847.length cp1849 x1847, boxO 42 g614 [.int .i64 x1844.At.X, .int .i64 x1844.At.Y], rowT 4 eBool a315 x314.length x314.length (x1820.set (b2).toNat true)]) [0, 1, 2, 3, 4] ?_ ⟨rfl, rfl, rfl, rfl, rfl, rfl, trivial⟩ (by decide) rfl
        refine JE.code ?_
        refine JX.region ?_
        refine JL.val (yl_add rfl rfl) rfl ?_
        refine JL.val (yl_move rfl) rfl ?_
        refine JL.nil ?_
        refine JE.cont hres ?_
        exact fun a w h => ⟨a1848, cp1849, (List.length_set.trans l1823), h.weak ⟨rfl, rfl, rfl, rfl, rfl, rfl, trivial⟩ [0, 1, 2, 3, 4] (by decide) rfl⟩
    · refine JX.condF rfl hb ?_
      refine JX.exit ?_
      refine JE.qb rfl ?_
      obtain ⟨b1, hb1⟩ : ∃ b : List Int, b = x1818 := ⟨_, rfl⟩
      have hy1 : b1 = y1 := by rw [hb1]; exact hox1 _ (Option.some.inj hres).symm
      have hres := hresO1
      rw [← hy1] at hres
      refine JE.weak (env' := [(5, .slice a1821 b1.length cp1822)]) (es' := [rowT 2 eI64 a1821 b1.length cp1822 b1]) [2] ?_ ⟨(by subst hb1; rfl), trivial⟩ (by decide) (by subst hb1; rfl)
      refine JE.code ?_
      refine JX.seq ?_
      refine JX.region ?_
      refine JL.val (yl_move rfl) rfl ?_
      refine JL.val (yl_assign rfl) rfl ?_
      refine JL.nil ?_
      refine JE.code ?_
      refine JX.ret ?_
      obtain rfl := Option.some.inj hres
      refine JE.ret (rs := [.tmp 2]) (vs := [.slice a1821 b1.length cp1822]) rfl ⟨rfl, trivial⟩ ?_
      exact fun w' hb hs => ⟨_, _, ⟨a1821, b1.length, cp1822, rfl, rfl, rfl⟩, rfl, hb, hs.sel [0] _ (by decide) rfl⟩
  · intro K
    refine JH.talt ?_ ?_
    · refine JH.must rfl (ef_buildSlice (E := 2) (k := eI64.k) (us := eI64.fl ([] : List Int)) rfl (fun w => bsl24_0  w) rfl (by decide)) rfl rfl ?_
      rintro _ _ ⟨a14, rfl, rfl⟩
      refine JH.talt ?_ ?_
      · refine JH.must rfl (ef_makeS (e := eBool) Go.Proofs.Try.underlying182 i4 i4s i4z rfl i4b1 rfl rfl hx314) rfl rfl ?_
        rintro _ _ ⟨a315, rfl, rfl⟩
        refine JH.talt ?_ ?_
        · refine JH.must rfl (ef_alloc i42 i42z rfl) rfl rfl ?_
          rintro _ _ ⟨g614, rfl, rfl⟩
          refine JH.tpure ?_
          refine JH.pure rfl (yl_assign rfl) rfl ?_
          refine JH.talt ?_ ?_
          · refine JH.must rfl (ef_store_box (i := 2) (v := .agg #[.int .i64 0, .int .i64 0]) i42 rfl rfl rfl (i42s).symm (Nat.le_of_ble_eq_true rfl) (by simp [Value.cells, Value.oneCell'])) rfl rfl ?_
            rintro _ _ rfl
            refine JH.tpure ?_
            refine JH.pure rfl (yl_assign rfl) rfl ?_
            refine JH.tdone ?_
            exact JH.weak [0, 1, 2] (K a14 a315 g614) ⟨rfl, rfl, rfl, rfl, trivial⟩ (by decide) rfl
          · exact JH.tnil
        · exact JH.tnil
      · refine JH.talt ?_ ?_
        · refine JH.must rfl (ef_alloc i42 i42z rfl) rfl rfl ?_
          rintro _ _ ⟨g614, rfl, rfl⟩
          refine JH.tpure ?_
          refine JH.pure rfl (yl_assign rfl) rfl ?_
          refine JH.talt ?_ ?_
          · refine JH.must rfl (ef_makeS (e := eBool) Go.Proofs.Try.underlying182 i4 i4s i4z rfl i4b1 rfl rfl hx314) rfl rfl ?_
            rintro _ _ ⟨a315, rfl, rfl⟩
            refine JH.talt ?_ ?_
            · refine JH.must rfl (ef_store_box (i := 1) (v := .agg #[.int .i64 0, .int .i64 0]) i42 rfl rfl rfl (i42s).symm (Nat.le_of_ble_eq_true rfl) (by simp [Value.cells, Value.oneCell'])) rfl rfl ?_
              rintro _ _ rfl
              refine JH.tpure ?_
              refine JH.pure rfl (yl_assign rfl) rfl ?_
              refine JH.tdone ?_
              exact JH.weak [0, 2, 1] (K a14 a315 g614) ⟨rfl, rfl, rfl, rfl, trivial⟩ (by decide) rfl
            · exact JH.tnil
          · refine JH.talt ?_ ?_
            · refine JH.must rfl (ef_store_box (i := 1) (v := .agg #[.int .i64 0, .int .i64 0]) i42 rfl rfl rfl (i42s).symm (Nat.le_of_ble_eq_true rfl) (by simp [Value.cells, Value.oneCell'])) rfl rfl ?_
              rintro _ _ rfl
              refine JH.talt ?_ ?_
              · refine JH.must rfl (ef_makeS (e := eBool) Go.Proofs.Try.underlying182 i4 i4s i4z rfl i4b1 rfl rfl hx314) rfl rfl ?_
                rintro _ _ ⟨a315, rfl, rfl⟩
                refine JH.tpure ?_
                refine JH.pure rfl (yl_assign rfl) rfl ?_
                refine JH.tdone ?_
                exact JH.weak [0, 2, 1] (K a14 a315 g614) ⟨rfl, rfl, rfl, rfl, trivial⟩ (by decide) rfl
              · exact JH.tnil
            · exact JH.tnil
        · exact JH.tnil
    · refine JH.talt ?_ ?_
      · refine JH.must rfl (ef_makeS (e := eBool) Go.Proofs.Try.underlying182 i4 i4s i4z rfl i4b1 rfl rfl hx314) rfl rfl ?_
        rintro _ _ ⟨a315, rfl, rfl⟩
        refine JH.talt ?_ ?_
        · refine JH.must rfl (ef_buildSlice (E := 2) (k := eI64.k) (us := eI64.fl ([] : List Int)) rfl (fun w => bsl24_0  w) rfl (by decide)) rfl rfl ?_
          rintro _ _ ⟨a14, rfl, rfl⟩
          refine JH.talt ?_ ?_
          · refine JH.must rfl (ef_alloc i42 i42z rfl) rfl rfl ?_
            rintro _ _ ⟨g614, rfl, rfl⟩
            refine JH.tpure ?_
            refine JH.pure rfl (yl_assign rfl) rfl ?_
            refine JH.talt ?_ ?_
            · refine JH.must rfl (ef_store_box (i := 2) (v := .agg #[.int .i64 0, .int .i64 0]) i42 rfl rfl rfl (i42s).symm (Nat.le_of_ble_eq_true rfl) (by simp [Value.cells, Value.oneCell'])) rfl rfl ?_
              rintro _ _ rfl
              refine JH.tpure ?_
              refine JH.pure rfl (yl_assign rfl) rfl ?_
              refine JH.tdone ?_
              exact JH.weak [1, 0, 2] (K a14 a315 g614) ⟨rfl, rfl, rfl, rfl, trivial⟩ (by decide) rfl
            · exact JH.tnil
          · exact JH.tnil
        · refine JH.talt ?_ ?_
          · refine JH.must rfl (ef_alloc i42 i42z rfl) rfl rfl ?_
            rintro _ _ ⟨g614, rfl, rfl⟩
            refine JH.talt ?_ ?_
            · refine JH.must rfl (ef_buildSlice (E := 2) (k := eI64.k) (us := eI64.fl ([] : List Int)) rfl (fun w => bsl24_0  w) rfl (by decide)) rfl rfl ?_
              rintro _ _ ⟨a14, rfl, rfl⟩
              refine JH.tpure ?_
              refine JH.pure rfl (yl_assign rfl) rfl ?_
              refine JH.talt ?_ ?_
              · refine JH.must rfl (ef_store_box (i := 1) (v := .agg #[.int .i64 0, .int .i64 0]) i42 rfl rfl rfl (i42s).symm (Nat.le_of_ble_eq_true rfl) (by simp [Value.cells, Value.oneCell'])) rfl rfl ?_
                rintro _ _ rfl
                refine JH.tpure ?_
                refine JH.pure rfl (yl_assign rfl) rfl ?_
                refine JH.tdone ?_
                exact JH.weak [2, 0, 1] (K a14 a315 g614) ⟨rfl, rfl, rfl, rfl, trivial⟩ (by decide) rfl
              · exact JH.tnil
            · exact JH.tnil
          · exact JH.tnil
      · refine JH.talt ?_ ?_
        · refine JH.must rfl (ef_alloc i42 i42z rfl) rfl rfl ?_
          rintro _ _ ⟨g614, rfl, rfl⟩
          refine JH.talt ?_ ?_
          · refine JH.must rfl (ef_buildSlice (E := 2) (k := eI64.k) (us := eI64.fl ([] : List Int)) rfl (fun w => bsl24_0  w) rfl (by decide)) rfl rfl ?_
            rintro _ _ ⟨a14, rfl, rfl⟩
            refine JH.tpure ?_
            refine JH.pure rfl (yl_assign rfl) rfl ?_
            refine JH.talt ?_ ?_
            · refine JH.must rfl (ef_makeS (e := eBool) Go.Proofs.Try.underlying182 i4 i4s i4z rfl i4b1 rfl rfl hx314) rfl rfl ?_
              rintro _ _ ⟨a315, rfl, rfl⟩
              refine JH.talt ?_ ?_
              · refine JH.must rfl (ef_store_box (i := 0) (v := .agg #[.int .i64 0, .int .i64 0]) i42 rfl rfl rfl (i42s).symm (Nat.le_of_ble_eq_true rfl) (by simp [Value.cells, Value.oneCell'])) rfl rfl ?_
                rintro _ _ rfl
                refine JH.tpure ?_
                refine JH.pure rfl (yl_assign rfl) rfl ?_
                refine JH.tdone ?_
                exact JH.weak [1, 2, 0] (K a14 a315 g614) ⟨rfl, rfl, rfl, rfl, trivial⟩ (by decide) rfl
              · exact JH.tnil
            · refine JH.talt ?_ ?_
              · refine JH.must rfl (ef_store_box (i := 0) (v := .agg #[.int .i64 0, .int .i64 0]) i42 rfl rfl rfl (i42s).symm (Nat.le_of_ble_eq_true rfl) (by simp [Value.cells, Value.oneCell'])) rfl rfl ?_
                rintro _ _ rfl
                refine JH.talt ?_ ?_
                · refine JH.must rfl (ef_makeS (e := eBool) Go.Proofs.Try.underlying182 i4 i4s i4z rfl i4b1 rfl rfl hx314) rfl rfl ?_
                  rintro _ _ ⟨a315, rfl, rfl⟩
                  refine JH.tpure ?_
                  refine JH.pure rfl (yl_assign rfl) rfl ?_
                  refine JH.tdone ?_
                  exact JH.weak [1, 2, 0] (K a14 a315 g614) ⟨rfl, rfl, rfl, rfl, trivial⟩ (by decide) rfl
                · exact JH.tnil
              · exact JH.tnil
          · refine JH.talt ?_ ?_
            · refine JH.must rfl (ef_makeS (e := eBool) Go.Proofs.Try.underlying182 i4 i4s i4z rfl i4b1 rfl rfl hx314) rfl rfl ?_
              rintro _ _ ⟨a315, rfl, rfl⟩
              refine JH.talt ?_ ?_
              · refine JH.must rfl (ef_buildSlice (E := 2) (k := eI64.k) (us := eI64.fl ([] : List Int)) rfl (fun w => bsl24_0  w) rfl (by decide)) rfl rfl ?_
                rintro _ _ ⟨a14, rfl, rfl⟩
                refine JH.tpure ?_
                refine JH.pure rfl (yl_assign rfl) rfl ?_
                refine JH.talt ?_ ?_
                · refine JH.must rfl (ef_store_box (i := 0) (v := .agg #[.int .i64 0, .int .i64 0]) i42 rfl rfl rfl (i42s).symm (Nat.le_of_ble_eq_true rfl) (by simp [Value.cells, Value.oneCell'])) rfl rfl ?_
                  rintro _ _ rfl
                  refine JH.tpure ?_
                  refine JH.pure rfl (yl_assign rfl) rfl ?_
                  refine JH.tdone ?_
                  exact JH.weak [2, 1, 0] (K a14 a315 g614) ⟨rfl, rfl, rfl, rfl, trivial⟩ (by decide) rfl
                · exact JH.tnil
              · exact JH.tnil
            · exact JH.tnil
        · exact JH.tnil

/- impl.path -/
def sh101_1 (q0 : List SWalker) (q1 : Int) : (Int × List SPoint) → Option ((Int × List SPoint) ⊕ (List SPoint))
  | (x5, x6) => bif decide (x5 < (q0.length : Int)) then (Option.bind (getI q0 x5) fun x9 => Option.bind (appL x6 [SPoint.mk (w64 (x9.At.X * q1)) (w64 (x9.At.Y * q1))]) fun x14 => some (.inl (w64 (x5 + 1), x14))) else (some (.inr x6))
def sh101 (q0 : List SWalker) (q1 : Int) : Option (List SPoint) := Option.bind (iter (sh101_1 q0 q1) (0, ([] : List SPoint))) fun b1 => (some b1)
def T101 (r : List SPoint) (v : Value) (rs : List Own) : Prop := ∃ (a0 : Option Addr) (n0 c0 : Nat), r.length = n0 ∧ v = rets [.slice a0 n0 c0] ∧ rs = [rowT 42 eSPoint a0 n0 c0 r]
set_option maxRecDepth 100000 in
theorem c101 {w : World} {q0 : List SWalker} {a_0 : Option Addr} {n_0 c_0 : Nat} (g_0 : Rd w a_0 (eSWalker.fl q0)) (l_0 : q0.length = n_0) (k_0 : n_0 ≤ c_0) {q1 : Int} {r : List SPoint} (hres : sh101 q0 q1 = some r) : Calls Go.Proofs.Try.prog 101 [.slice a_0 n_0 c_0, .int .i64 q1].toArray w (Ret w (T101 r)) := by
  subst l_0
  unfold sh101 at hres
  refine calls_of (n := 31) (M := []) (es := []) Go.Proofs.Try.func101 rfl rfl rfl (Sep.nil _ _ _) ?_
  refine JX.seq ?_
  refine JX.region ?_
  refine JL.val (yl_assign rfl) rfl ?_
  refine JL.nil ?_
  refine JE.code ?_
  refine JX.seq ?_
  refine JX.region ?_
  refine JL.eff (ef_buildSlice (E := 42) (k := eSPoint.k) (us := eSPoint.fl ([] : List SPoint)) rfl (fun w => bsl34_0  w) rfl (by decide)) rfl ?_
  rintro _ _ ⟨a1, rfl, rfl⟩
  refine JL.val (yl_assign rfl) rfl ?_
  refine JL.nil ?_
  refine JE.code ?_
  refine JX.seq ?_
  refine JX.seq ?_
  refine JX.region ?_
  refine JL.val (yl_move rfl) rfl ?_
  refine JL.val (yl_len_slice Go.Proofs.Try.underlying102 rfl) rfl ?_
  refine JL.val (yl_move rfl) rfl ?_
  refine JL.nil ?_
  refine JE.code ?_
  refine JX.block ?_
  obtain ⟨y1, hy1, hresO1⟩ := bind_some hres
  refine JX.loop (I := fun (s1 : Int × List SPoint) aa ww => ∃ (a3 : Option Addr) (cp4 : Nat), St w [] 31 [(1, .int .i64 q1), (5, .slice a3 s1.2.length cp4), (9, .slice a_0 q0.length c_0), (10, .int .i64 (q0.length : Int)), (11, .int .i64 s1.1)] [rowT 42 eSPoint a3 s1.2.length cp4 s1.2] aa ww) (sh101_1 q0 q1) hy1 (fun a w h => ⟨a1, 0, h.weak ⟨rfl, rfl, rfl, rfl, rfl, trivial⟩ [0] (by decide) rfl⟩) ?_
  rintro ⟨x5, x6⟩ o1 hres hox1 aa ww ⟨a7, cp8, hS⟩
  refine (?_ : JX Go.Proofs.Try.prog w [] 31 _ _ [(1, .int .i64 q1), (5, .slice a7 x6.length cp8), (9, .slice a_0 q0.length c_0), (10, .int .i64 (q0.length : Int)), (11, .int .i64 x5)] [rowT 42 eSPoint a7 x6.length cp8 x6] _) aa ww hS
  clear hS
  simp only [sh101_1] at hres
  refine JX.seq ?_
  refine JX.region ?_
  refine JL.val (yl_lss rfl rfl) rfl ?_
  refine JL.nil ?_
  refine JE.code ?_
  refine JX.seq ?_
  rcases cond_some hres with ⟨hb, hres⟩ | ⟨hb, hres⟩
  · refine JX.condT rfl hb ?_
    refine JX.skip ?_
    refine JE.code ?_
    refine JX.seq ?_
    refine JX.block ?_
    refine JX.seq ?_
    refine JX.region ?_
    obtain ⟨x9, hx9, hres⟩ := bind_some hres
    refine JL.val (yl_idxT Go.Proofs.Try.underlying102 i104 i104s rfl rfl hx9 rfl (fun w hC => rd_arg g_0 hC)) rfl ?_
    refine JL.val (yl_loadTn Go.Proofs.Try.underlying104 rfl i104 i104s rfl hx9 (fun w hC => rd_arg g_0 hC)) rfl ?_
    refine JL.eff (ef_alloc i104 i104z rfl) rfl ?_
    rintro _ _ ⟨g10, rfl, rfl⟩
    refine JL.eff (ef_store_box (i := 1) (v := .agg #[.int .i64 x9.At.X, .int .i64 x9.At.Y, .int .i64 x9.DX, .int .i64 x9.DY]) i104 rfl rfl rfl (i104s).symm (Nat.le_of_ble_eq_true rfl) (by simp [Value.cells, Value.oneCell'])) rfl ?_
    rintro _ _ rfl
    refine JL.nil ?_
    refine JE.weak (env' := [(1, .int .i64 q1), (5, .slice a7 x6.length cp8), (7, ptrAt (some ⟨g10, 0, none⟩) 0), (9, .slice a_0 q0.length c_0), (10, .int .i64 (q0.length : Int)), (11, .int .i64 x5)]) (es' := [rowT 42 eSPoint a7 x6.length cp8 x6, boxO 104 g10 [.int .i64 x9.At.X, .int .i64 x9.At.Y, .int .i64 x9.DX, .int .i64 x9.DY]]) [0, 1] ?_ ⟨rfl, rfl, rfl, rfl, rfl, rfl, trivial⟩ (by decide) rfl
    refine JE.code ?_
    refine JX.region ?_
    refine JL.val (yl_move rfl) rfl ?_
    refine JL.val (yl_fieldAt (a := some _) Go.Proofs.Try.underlying104 rfl i42 i42n rfl rfl) rfl ?_
    refine JL.val (yl_fieldAt (a := some _) Go.Proofs.Try.underlying42 rfl i2 i2n rfl rfl) rfl ?_
    refine JL.val (yl_load1 Go.Proofs.Try.underlying2 rfl rfl (fun w hC => rd_box hC 1 rfl) rfl) rfl ?_
    refine JL.val (yl_move rfl) rfl ?_
    refine JL.val (yl_mul rfl rfl) rfl ?_
    refine JL.val (yl_fieldAt (a := some _) Go.Proofs.Try.underlying104 rfl i42 i42n rfl rfl) rfl ?_
    refine JL.val (yl_fieldAt (a := some _) Go.Proofs.Try.underlying42 rfl i2 i2n rfl rfl) rfl ?_
    refine JL.val (yl_load1 Go.Proofs.Try.underlying2 rfl rfl (fun w hC => rd_box hC 1 rfl) rfl) rfl ?_
    refine JL.val (yl_move rfl) rfl ?_
    refine JL.val (yl_mul rfl rfl) rfl ?_
    refine JL.val (yl_build rfl (fun w => bld42_0_1 (w64 (x9.At.X * q1)) (w64 (x9.At.Y * q1)) w)) rfl ?_
    refine JL.eff (ef_buildSlice (E := 42) (k := eSPoint.k) (us := eSPoint.fl [SPoint.mk (w64 (x9.At.X * q1)) (w64 (x9.At.Y * q1))]) rfl (fun w => bsl34_1 (w64 (x9.At.X * q1)) (w64 (x9.At.Y * q1)) w) rfl (by decide)) rfl ?_
    rintro _ _ ⟨a12, rfl, rfl⟩
    obtain ⟨x14, hx14, hres⟩ := bind_some hres
    refine JL.eff (ef_appendT (ix := 0) Go.Proofs.Try.underlying34 i42 i42z i42s rfl i42b0 i42b1 rfl rfl rfl rfl rfl (fun w hC => rd_row hC 2 rfl) hx14) rfl ?_
    rintro _ _ ⟨a15, cp16, rfl, rfl⟩
    refine JL.val (yl_assign rfl) rfl ?_
    refine JL.nil ?_
    refine JE.weak (env' := [(1, .int .i64 q1), (5, .slice a15 x14.length cp16), (9, .slice a_0 q0.length c_0), (10, .int .i64 (q0.length : Int)), (11, .int .i64 x5)]) (es' := [rowT 42 eSPoint a15 x14.length cp16 x14]) [0] ?_ ⟨rfl, rfl, rfl, rfl, rfl, trivial⟩ (by decide) rfl
    refine JE.code ?_
    refine JX.region ?_
    refine JL.val (yl_add rfl rfl) rfl ?_
    refine JL.val (yl_move rfl) rfl ?_
    refine JL.nil ?_
    refine JE.cont hres ?_
    exact fun a w h => ⟨a15, cp16, h.weak ⟨rfl, rfl, rfl, rfl, rfl, trivial⟩ [0] (by decide) rfl⟩
  · refine JX.condF rfl hb ?_
    refine JX.exit ?_
    refine JE.qb rfl ?_
    obtain ⟨b1, hb1⟩ : ∃ b : List SPoint, b = x6 := ⟨_, rfl⟩
    have hy1 : b1 = y1 := by rw [hb1]; exact hox1 _ (Option.some.inj hres).symm
    have hres := hresO1
    rw [← hy1] at hres
    refine JE.weak (env' := [(5, .slice a7 b1.length cp8)]) (es' := [rowT 42 eSPoint a7 b1.length cp8 b1]) [0] ?_ ⟨(by subst hb1; rfl), trivial⟩ (by decide) (by subst hb1; rfl)
    refine JE.code ?_
    refine JX.seq ?_
    refine JX.region ?_
    refine JL.val (yl_move rfl) rfl ?_
    refine JL.val (yl_assign rfl) rfl ?_
    refine JL.nil ?_
    refine JE.code ?_
    refine JX.ret ?_
    obtain rfl := Option.some.inj hres
    refine JE.ret (rs := [.tmp 4]) (vs := [.slice a7 b1.length cp8]) rfl ⟨rfl, trivial⟩ ?_
    exact fun w' hb hs => ⟨_, _, ⟨a7, b1.length, cp8, rfl, rfl, rfl⟩, rfl, hb, hs.sel [0] _ (by decide) rfl⟩

/- impl.carve -/
def sh145_1 (q2 : Int) (x1 : List SPoint) : (Int × List SToolMove) → Option ((Int × List SToolMove) ⊕ (List SToolMove))
  | (x12, x13) => bif decide (x12 < (x1.length : Int)) then (Option.bind (getI x1 x12) fun x16 => Option.bind (appL x13 [SToolMove.mk x16.X x16.Y (w64 (0 - q2))]) fun x21 => some (.inl (w64 (x12 + 1), x21))) else (some (.inr x13))
def sh145 (q0 : List SWalker) (q1 : Int) (q2 : Int) (q3 : Int) : Option (List SToolMove) := Option.bind (sh101 q0 q1) fun x1 => Option.bind (getI x1 (0 : Int)) fun x5 => Option.bind (iter (sh145_1 q2 x1) (0, [SToolMove.mk x5.X x5.Y q3])) fun b1 => (Option.bind (appL b1 [SToolMove.mk x5.X x5.Y (w64 (0 - q2)), SToolMove.mk x5.X x5.Y q3]) fun x28 => some x28)
def T145 (r : List SToolMove) (v : Value) (rs : List Own) : Prop := ∃ (a0 : Option Addr) (n0 c0 : Nat), r.length = n0 ∧ v = rets [.slice a0 n0 c0] ∧ rs = [rowT 88 eSToolMove a0 n0 c0 r]
set_option maxRecDepth 100000 in
theorem c145 {w : World} {q0 : List SWalker} {a_0 : Option Addr} {n_0 c_0 : Nat} (g_0 : Rd w a_0 (eSWalker.fl q0)) (l_0 : q0.length = n_0) (k_0 : n_0 ≤ c_0) {q1 : Int} {q2 : Int} {q3 : Int} {r : List SToolMove} (hres : sh145 q0 q1 q2 q3 = some r) : Calls Go.Proofs.Try.prog 145 [.slice a_0 n_0 c_0, .int .i64 q1, .int .i64 q2, .int .i64 q3].toArray w (Ret w (T145 r)) := by
  subst l_0
  unfold sh145 at hres
  refine calls_of (n := 60) (M := []) (es := []) Go.Proofs.Try.func145 rfl rfl rfl (Sep.nil _ _ _) ?_
  refine JX.seq ?_
  refine JX.region ?_
  refine JL.val (yl_assign rfl) rfl ?_
  refine JL.nil ?_
  refine JE.code ?_
  refine JX.seq ?_
  refine JX.region ?_
  refine JL.val (yl_move rfl) rfl ?_
  refine JL.val (yl_move rfl) rfl ?_
  obtain ⟨x1, hx1, hres⟩ := bind_some hres
  refine JL.eff (ef_call (T := T101 x1) Go.Proofs.Try.func101 rfl (by kernel_rfl) rfl (fun w hC => c101 (rd_arg g_0 hC) rfl k_0 hx1)) rfl ?_
  rintro _ _ ⟨_, ⟨a2, _, cp3, rfl, rfl, rfl⟩, rfl⟩
  refine JL.val (yl_assign rfl) rfl ?_
  refine JL.nil ?_
  refine JE.weak (env' := [(2, .int .i64 q2), (3, .int .i64 q3), (9, .slice a2 x1.length cp3)]) (es' := [rowT 42 eSPoint a2 x1.length cp3 x1]) [0] ?_ ⟨rfl, rfl, rfl, trivial⟩ (by decide) rfl
  refine JE.code ?_
  refine JX.seq ?_
  refine JX.region ?_
  refine JL.val (yl_move rfl) rfl ?_
  obtain ⟨x5, hx5, hres⟩ := bind_some hres
  refine JL.val (yl_idxT Go.Proofs.Try.underlying34 i42 i42s rfl rfl hx5 rfl (fun w hC => rd_row hC 0 rfl)) rfl ?_
  refine JL.val (yl_loadTn Go.Proofs.Try.underlying42 rfl i42 i42s rfl hx5 (fun w hC => rd_row hC 0 rfl)) rfl ?_
  refine JL.eff (ef_alloc i42 i42z rfl) rfl ?_
  rintro _ _ ⟨g6, rfl, rfl⟩
  refine JL.eff (ef_store_box (i := 1) (v := .agg #[.int .i64 x5.X, .int .i64 x5.Y]) i42 rfl rfl rfl (i42s).symm (Nat.le_of_ble_eq_true rfl) (by simp [Value.cells, Value.oneCell'])) rfl ?_
  rintro _ _ rfl
  refine JL.nil ?_
  refine JE.weak (env' := [(2, .int .i64 q2), (3, .int .i64 q3), (9, .slice a2 x1.length cp3), (10, ptrAt (some ⟨g6, 0, none⟩) 0)]) (es' := [rowT 42 eSPoint a2 x1.length cp3 x1, boxO 42 g6 [.int .i64 x5.X, .int .i64 x5.Y]]) [0, 1] ?_ ⟨rfl, rfl, rfl, rfl, trivial⟩ (by decide) rfl
  refine JE.code ?_
  refine JX.seq ?_
  refine JX.region ?_
  refine JL.val (yl_fieldAt (a := some _) Go.Proofs.Try.underlying42 rfl i2 i2n rfl rfl) rfl ?_
  refine JL.val (yl_load1 Go.Proofs.Try.underlying2 rfl rfl (fun w hC => rd_box hC 1 rfl) rfl) rfl ?_
  refine JL.val (yl_fieldAt (a := some _) Go.Proofs.Try.underlying42 rfl i2 i2n rfl rfl) rfl ?_
  refine JL.val (yl_load1 Go.Proofs.Try.underlying2 rfl rfl (fun w hC => rd_box hC 1 rfl) rfl) rfl ?_
  refine JL.val (yl_move rfl) rfl ?_
  refine JL.val (yl_build rfl (fun w => bld88_0_1_2 x5.X x5.Y q3 w)) rfl ?_
  refine JL.eff (ef_buildSlice (E := 88) (k := eSToolMove.k) (us := eSToolMove.fl [SToolMove.mk x5.X x5.Y q3]) rfl (fun w => bsl65_1 x5.X x5.Y q3 w) rfl (by decide)) rfl ?_
  rintro _ _ ⟨a8, rfl, rfl⟩
  refine JL.val (yl_assign rfl) rfl ?_
  refine JL.nil ?_
  refine JE.weak (env' := [(2, .int .i64 q2), (3, .int .i64 q3), (9, .slice a2 x1.length cp3), (10, ptrAt (some ⟨g6, 0, none⟩) 0), (11, .slice a8 1 1)]) (es' := [rowT 42 eSPoint a2 x1.length cp3 x1, boxO 42 g6 [.int .i64 x5.X, .int .i64 x5.Y], rowT 88 eSToolMove a8 1 1 [SToolMove.mk x5.X x5.Y q3]]) [0, 1, 2] ?_ ⟨rfl, rfl, rfl, rfl, rfl, trivial⟩ (by decide) rfl
  refine JE.code ?_
  refine JX.seq ?_
  refine JX.seq ?_
  refine JX.region ?_
  refine JL.val (yl_move rfl) rfl ?_
  refine JL.val (yl_len_slice Go.Proofs.Try.underlying34 rfl) rfl ?_
  refine JL.val (yl_move rfl) rfl ?_
  refine JL.nil ?_
  refine JE.code ?_
  refine JX.block ?_
  obtain ⟨y1, hy1, hresO1⟩ := bind_some hres
  refine JX.loop (I := fun (s1 : Int × List SToolMove) aa ww => ∃ (a10 : Option Addr) (cp11 : Nat), St w [] 60 [(2, .int .i64 q2), (3, .int .i64 q3), (10, ptrAt (some ⟨g6, 0, none⟩) 0), (11, .slice a10 s1.2.length cp11), (27, .slice a2 x1.length cp3), (28, .int .i64 (x1.length : Int)), (29, .int .i64 s1.1)] [boxO 42 g6 [.int .i64 x5.X, .int .i64 x5.Y], rowT 88 eSToolMove a10 s1.2.length cp11 s1.2, rowT 42 eSPoint a2 x1.length cp3 x1] aa ww) (sh145_1 q2 x1) hy1 (fun a w h => ⟨a8, 1, h.weak ⟨rfl, rfl, rfl, rfl, rfl, rfl, rfl, trivial⟩ [1, 2, 0] (by decide) rfl⟩) ?_
  rintro ⟨x12, x13⟩ o1 hres hox1 aa ww ⟨a14, cp15, hS⟩
  refine (?_ : JX Go.Proofs.Try.prog w [] 60 _ _ [(2, .int .i64 q2), (3, .int .i64 q3), (10, ptrAt (some ⟨g6, 0, none⟩) 0), (11, .slice a14 x13.length cp15), (27, .slice a2 x1.length cp3), (28, .int .i64 (x1.length : Int)), (29, .int .i64 x12)] [boxO 42 g6 [.int .i64 x5.X, .int .i64 x5.Y], rowT 88 eSToolMove a14 x13.length cp15 x13, rowT 42 eSPoint a2 x1.length cp3 x1] _) aa ww hS
  clear hS
  simp only [sh145_1] at hres
  refine JX.seq ?_
  refine JX.region ?_
  refine JL.val (yl_lss rfl rfl) rfl ?_
  refine JL.nil ?_
  refine JE.code ?_
  refine JX.seq ?_
  rcases cond_some hres with ⟨hb, hres⟩ | ⟨hb, hres⟩
  · refine JX.condT rfl hb ?_
    refine JX.skip ?_
    refine JE.code ?_
    refine JX.seq ?_
    refine JX.block ?_
    refine JX.seq ?_
    refine JX.region ?_
    obtain ⟨x16, hx16, hres⟩ := bind_some hres
    refine JL.val (yl_idxT Go.Proofs.Try.underlying34 i42 i42s rfl rfl hx16 rfl (fun w hC => rd_row hC 2 rfl)) rfl ?_
    refine JL.val (yl_loadTn Go.Proofs.Try.underlying42 rfl i42 i42s rfl hx16 (fun w hC => rd_row hC 2 rfl)) rfl ?_
    refine JL.eff (ef_alloc i42 i42z rfl) rfl ?_
    rintro _ _ ⟨g17, rfl, rfl⟩
    refine JL.eff (ef_store_box (i := 3) (v := .agg #[.int .i64 x16.X, .int .i64 x16.Y]) i42 rfl rfl rfl (i42s).symm (Nat.le_of_ble_eq_true rfl) (by simp [Value.cells, Value.oneCell'])) rfl ?_
    rintro _ _ rfl
    refine JL.nil ?_
    refine JE.weak (env' := [(2, .int .i64 q2), (3, .int .i64 q3), (10, ptrAt (some ⟨g6, 0, none⟩) 0), (11, .slice a14 x13.length cp15), (13, ptrAt (some ⟨g17, 0, none⟩) 0), (27, .slice a2 x1.length cp3), (28, .int .i64 (x1.length : Int)), (29, .int .i64 x12)]) (es' := [boxO 42 g6 [.int .i64 x5.X, .int .i64 x5.Y], rowT 88 eSToolMove a14 x13.length cp15 x13, boxO 42 g17 [.int .i64 x16.X, .int .i64 x16.Y], rowT 42 eSPoint a2 x1.length cp3 x1]) [0, 1, 3, 2] ?_ ⟨rfl, rfl, rfl, rfl, rfl, rfl, rfl, rfl, trivial⟩ (by decide) rfl
    refine JE.code ?_
    refine JX.region ?_
    refine JL.val (yl_move rfl) rfl ?_
    refine JL.val (yl_fieldAt (a := some _) Go.Proofs.Try.underlying42 rfl i2 i2n rfl rfl) rfl ?_
    refine JL.val (yl_load1 Go.Proofs.Try.underlying2 rfl rfl (fun w hC => rd_box hC 2 rfl) rfl) rfl ?_
    refine JL.val (yl_fieldAt (a := some _) Go.Proofs.Try.underlying42 rfl i2 i2n rfl rfl) rfl ?_
    refine JL.val (yl_load1 Go.Proofs.Try.underlying2 rfl rfl (fun w hC => rd_box hC 2 rfl) rfl) rfl ?_
    refine JL.val (yl_move rfl) rfl ?_
    refine JL.val (yl_neg rfl) rfl ?_
    refine JL.val (yl_build rfl (fun w => bld88_0_1_2 x16.X x16.Y (w64 (0 - q2)) w)) rfl ?_
    refine JL.eff (ef_buildSlice (E := 88) (k := eSToolMove.k) (us := eSToolMove.fl [SToolMove.mk x16.X x16.Y (w64 (0 - q2))]) rfl (fun w => bsl65_1 x16.X x16.Y (w64 (0 - q2)) w) rfl (by decide)) rfl ?_
    rintro _ _ ⟨a19, rfl, rfl⟩
    obtain ⟨x21, hx21, hres⟩ := bind_some hres
    refine JL.eff (ef_appendT (ix := 1) Go.Proofs.Try.underlying65 i88 i88z i88s rfl i88b0 i88b1 rfl rfl rfl rfl rfl (fun w hC => rd_row hC 4 rfl) hx21) rfl ?_
    rintro _ _ ⟨a22, cp23, rfl, rfl⟩
    refine JL.val (yl_assign rfl) rfl ?_
    refine JL.nil ?_
    refine JE.weak (env' := [(2, .int .i64 q2), (3, .int .i64 q3), (10, ptrAt (some ⟨g6, 0, none⟩) 0), (11, .slice a22 x21.length cp23), (27, .slice a2 x1.length cp3), (28, .int .i64 (x1.length : Int)), (29, .int .i64 x12)]) (es' := [boxO 42 g6 [.int .i64 x5.X, .int .i64 x5.Y], rowT 88 eSToolMove a22 x21.length cp23 x21, rowT 42 eSPoint a2 x1.length cp3 x1]) [0, 1, 3] ?_ ⟨rfl, rfl, rfl, rfl, rfl, rfl, rfl, trivial⟩ (by decide) rfl
    refine JE.code ?_
    refine JX.region ?_
    refine JL.val (yl_add rfl rfl) rfl ?_
    refine JL.val (yl_move rfl) rfl ?_
    refine JL.nil ?_
    refine JE.cont hres ?_
    exact fun a w h => ⟨a22, cp23, h.weak ⟨rfl, rfl, rfl, rfl, rfl, rfl, rfl, trivial⟩ [0, 1, 2] (by decide) rfl⟩
  · refine JX.condF rfl hb ?_
    refine JX.exit ?_
    refine JE.qb rfl ?_
    obtain ⟨b1, hb1⟩ : ∃ b : List SToolMove, b = x13 := ⟨_, rfl⟩
    have hy1 : b1 = y1 := by rw [hb1]; exact hox1 _ (Option.some.inj hres).symm
    have hres := hresO1
    rw [← hy1] at hres
    refine JE.weak (env' := [(2, .int .i64 q2), (3, .int .i64 q3), (10, ptrAt (some ⟨g6, 0, none⟩) 0), (11, .slice a14 b1.length cp15)]) (es' := [boxO 42 g6 [.int .i64 x5.X, .int .i64 x5.Y], rowT 88 eSToolMove a14 b1.length cp15 b1]) [0, 1] ?_ ⟨(by subst hb1; rfl), (by subst hb1; rfl), (by subst hb1; rfl), (by subst hb1; rfl), trivial⟩ (by decide) (by subst hb1; rfl)
    refine JE.code ?_
    refine JX.seq ?_
    refine JX.region ?_
    refine JL.val (yl_move rfl) rfl ?_
    refine JL.val (yl_fieldAt (a := some _) Go.Proofs.Try.underlying42 rfl i2 i2n rfl rfl) rfl ?_
    refine JL.val (yl_load1 Go.Proofs.Try.underlying2 rfl rfl (fun w hC => rd_box hC 0 rfl) rfl) rfl ?_
    refine JL.val (yl_fieldAt (a := some _) Go.Proofs.Try.underlying42 rfl i2 i2n rfl rfl) rfl ?_
    refine JL.val (yl_load1 Go.Proofs.Try.underlying2 rfl rfl (fun w hC => rd_box hC 0 rfl) rfl) rfl ?_
    refine JL.val (yl_move rfl) rfl ?_
    refine JL.val (yl_neg rfl) rfl ?_
    refine JL.val (yl_build rfl (fun w => bld88_0_1_2 x5.X x5.Y (w64 (0 - q2)) w)) rfl ?_
    refine JL.val (yl_fieldAt (a := some _) Go.Proofs.Try.underlying42 rfl i2 i2n rfl rfl) rfl ?_
    refine JL.val (yl_load1 Go.Proofs.Try.underlying2 rfl rfl (fun w hC => rd_box hC 0 rfl) rfl) rfl ?_
    refine JL.val (yl_fieldAt (a := some _) Go.Proofs.Try.underlying42 rfl i2 i2n rfl rfl) rfl ?_
    refine JL.val (yl_load1 Go.Proofs.Try.underlying2 rfl rfl (fun w hC => rd_box hC 0 rfl) rfl) rfl ?_
    refine JL.val (yl_move rfl) rfl ?_
    refine JL.val (yl_build rfl (fun w => bld88_0_1_2 x5.X x5.Y q3 w)) rfl ?_
    refine JL.eff (ef_buildSlice (E := 88) (k := eSToolMove.k) (us := eSToolMove.fl [SToolMove.mk x5.X x5.Y (w64 (0 - q2)), SToolMove.mk x5.X x5.Y q3]) rfl (fun w => bsl65_2 x5.X x5.Y (w64 (0 - q2)) x5.X x5.Y q3 w) rfl (by decide)) rfl ?_
    rintro _ _ ⟨a26, rfl, rfl⟩
    obtain ⟨x28, hx28, hres⟩ := bind_some hres
    refine JL.eff (ef_appendT (ix := 1) Go.Proofs.Try.underlying65 i88 i88z i88s rfl i88b0 i88b1 rfl rfl rfl rfl rfl (fun w hC => rd_row hC 2 rfl) hx28) rfl ?_
    rintro _ _ ⟨a29, cp30, rfl, rfl⟩
    refine JL.val (yl_assign rfl) rfl ?_
    refine JL.nil ?_
    refine JE.weak (env' := [(8, .slice a29 x28.length cp30)]) (es' := [rowT 88 eSToolMove a29 x28.length cp30 x28]) [1] ?_ ⟨rfl, trivial⟩ (by decide) rfl
    refine JE.code ?_
    refine JX.ret ?_
    obtain rfl := Option.some.inj hres
    refine JE.ret (rs := [.tmp 8]) (vs := [.slice a29 x28.length cp30]) rfl ⟨rfl, trivial⟩ ?_
    exact fun w' hb hs => ⟨_, _, ⟨a29, x28.length, cp30, rfl, rfl, rfl⟩, rfl, hb, hs.sel [0] _ (by decide) rfl⟩

/- impl.CarvePanel -/
def sh50_1 (q1 : Int) (q2 : Int) (q3 : Int) (x9 : List (List SWalker) × List Int) (x19 : List Int) : (Int × List SToolMove) → Option ((Int × List SToolMove) ⊕ (List SToolMove))
  | (x25, x26) => bif decide (x25 < (x19.length : Int)) then (Option.bind (getI x19 x25) fun x29 => Option.bind (getI x9.1 x29) fun x30 => Option.bind (sh145 x30 q1 q2 q3) fun x34 => Option.bind (appL x26 x34) fun x38 => some (.inl (w64 (x25 + 1), x38))) else (some (.inr x26))
def sh50 (q0 : SPanel) (q1 : Int) (q2 : Int) (q3 : Int) : Option (List SToolMove × Int) := Option.bind (sh128 q0) fun x3 => bif !x3 then (some (([] : List SToolMove), 1)) else (Option.bind (sh143 q1 q2 q3) fun x5 => bif !x5 then (some (([] : List SToolMove), 2)) else (Option.bind (sh97 q0) fun x9 => Option.bind (sh144 q0) fun x19 => Option.bind (iter (sh50_1 q1 q2 q3 x9 x19) (0, ([] : List SToolMove))) fun b1 => (some (b1, 0))))
def T50 (r : List SToolMove × Int) (v : Value) (rs : List Own) : Prop := ∃ (a0 : Option Addr) (n0 c0 : Nat), r.1.length = n0 ∧ v = rets [.slice a0 n0 c0, .int .i64 r.2] ∧ rs = [rowT 88 eSToolMove a0 n0 c0 r.1]
set_option maxRecDepth 100000 in
theorem c50 {w : World} {q0 : SPanel} {a_0_2 : Option Addr} {n_0_2 c_0_2 : Nat} (g_0_2 : Rd w a_0_2 (eI64.fl q0.Breaks)) (l_0_2 : q0.Breaks.length = n_0_2) (k_0_2 : n_0_2 ≤ c_0_2) {q1 : Int} {q2 : Int} {q3 : Int} {r : List SToolMove × Int} (hres : sh50 q0 q1 q2 q3 = some r) : Calls Go.Proofs.Try.prog 50 [.agg #[.int .i64 q0.W, .int .i64 q0.H, .slice a_0_2 n_0_2 c_0_2], .int .i64 q1, .int .i64 q2, .int .i64 q3].toArray w (Ret w (T50 r)) := by
  subst l_0_2
  unfold sh50 at hres
  refine calls_of (n := 48) (M := []) (es := []) Go.Proofs.Try.func50 rfl rfl rfl (Sep.nil _ _ _) ?_
  refine JX.seq ?_
  refine JX.region ?_
  refine JL.eff (ef_box rfl rfl) rfl ?_
  rintro _ _ ⟨g1, rfl, rfl⟩
  refine JL.val (yl_assign rfl) rfl ?_
  refine JL.val (yl_assign rfl) rfl ?_
  refine JL.nil ?_
  refine JE.code ?_
  refine JX.seq ?_
  refine JX.seq ?_
  refine JX.region ?_
  refine JL.val (yl_loadn Go.Proofs.Try.underlying26 rfl i26 rfl (fun w hC => rd_box hC 0 rfl) rfl (i26s).symm i26p) rfl ?_
  obtain ⟨x3, hx3, hres⟩ := bind_some hres
  refine JL.eff (ef_call (vs := [.agg #[.int .i64 q0.W, .int .i64 q0.H, .slice a_0_2 q0.Breaks.length c_0_2]]) (T := T128 x3) Go.Proofs.Try.func128 rfl (by kernel_rfl) rfl (fun w hC => c128 (q0 := q0) (rd_arg g_0_2 hC) rfl k_0_2 hx3)) rfl ?_
  rintro _ _ ⟨_, ⟨rfl, rfl⟩, rfl⟩
  refine JL.val (yl_not rfl) rfl ?_
  refine JL.nil ?_
  refine JE.code ?_
  rcases cond_some hres with ⟨hb, hres⟩ | ⟨hb, hres⟩
  · refine JX.condT rfl hb ?_
    refine JX.seq ?_
    refine JX.region ?_
    refine JL.val (yl_assign rfl) rfl ?_
    refine JL.val (yl_assign rfl) rfl ?_
    refine JL.nil ?_
    refine JE.weak (env' := [(8, .slice none 0 0), (9, .int .i64 1)]) (es' := []) [] ?_ ⟨rfl, rfl, trivial⟩ (by decide) rfl
    refine JE.code ?_
    refine JX.ret ?_
    refine JE.nilrow 88 eSToolMove ?_
    obtain rfl := Option.some.inj hres
    refine JE.ret (rs := [.tmp 8, .tmp 9]) (vs := [.slice none 0 0, .int .i64 1]) rfl ⟨rfl, rfl, trivial⟩ ?_
    exact fun w' hb hs => ⟨_, _, ⟨none, 0, 0, rfl, rfl, rfl⟩, rfl, hb, hs.sel [0] _ (by decide) rfl⟩
  · refine JX.condF rfl hb ?_
    refine JX.skip ?_
    refine JE.code ?_
    refine JX.seq ?_
    refine JX.seq ?_
    refine JX.region ?_
    refine JL.val (yl_move rfl) rfl ?_
    refine JL.val (yl_move rfl) rfl ?_
    refine JL.val (yl_move rfl) rfl ?_
    obtain ⟨x5, hx5, hres⟩ := bind_some hres
    refine JL.eff (ef_call (T := T143 x5) Go.Proofs.Try.func143 rfl (by kernel_rfl) rfl (fun w hC => c143  hx5)) rfl ?_
    rintro _ _ ⟨_, ⟨rfl, rfl⟩, rfl⟩
    refine JL.val (yl_not rfl) rfl ?_
    refine JL.nil ?_
    refine JE.weak (env' := [(1, .int .i64 q1), (2, .int .i64 q2), (3, .int .i64 q3), (4, ptrAt (some ⟨g1, 0, none⟩) 0), (22, .bool !x5)]) (es' := [boxO 26 g1 [.int .i64 q0.W, .int .i64 q0.H, .slice a_0_2 q0.Breaks.length c_0_2]]) [0] ?_ ⟨rfl, rfl, rfl, rfl, rfl, trivial⟩ (by decide) rfl
    refine JE.code ?_
    rcases cond_some hres with ⟨hb, hres⟩ | ⟨hb, hres⟩
    · refine JX.condT rfl hb ?_
      refine JX.seq ?_
      refine JX.region ?_
      refine JL.val (yl_assign rfl) rfl ?_
      refine JL.val (yl_assign rfl) rfl ?_
      refine JL.nil ?_
      refine JE.weak (env' := [(8, .slice none 0 0), (9, .int .i64 2)]) (es' := []) [] ?_ ⟨rfl, rfl, trivial⟩ (by decide) rfl
      refine JE.code ?_
      refine JX.ret ?_
      refine JE.nilrow 88 eSToolMove ?_
      obtain rfl := Option.some.inj hres
      refine JE.ret (rs := [.tmp 8, .tmp 9]) (vs := [.slice none 0 0, .int .i64 2]) rfl ⟨rfl, rfl, trivial⟩ ?_
      exact fun w' hb hs => ⟨_, _, ⟨none, 0, 0, rfl, rfl, rfl⟩, rfl, hb, hs.sel [0] _ (by decide) rfl⟩
    · refine JX.condF rfl hb ?_
      refine JX.skip ?_
      refine JE.code ?_
      refine JX.seq ?_
      refine JX.region ?_
      refine JL.eff (ef_buildSlice (E := 88) (k := eSToolMove.k) (us := eSToolMove.fl ([] : List SToolMove)) rfl (fun w => bsl65_0  w) rfl (by decide)) rfl ?_
      rintro _ _ ⟨a7, rfl, rfl⟩
      refine JL.val (yl_assign rfl) rfl ?_
      refine JL.nil ?_
      refine JE.code ?_
      refine JX.seq ?_
      refine JX.region ?_
      refine JL.val (yl_loadn Go.Proofs.Try.underlying26 rfl i26 rfl (fun w hC => rd_box hC 0 rfl) rfl (i26s).symm i26p) rfl ?_
      obtain ⟨x9, hx9, hres⟩ := bind_some hres
      refine JL.eff (ef_call (vs := [.agg #[.int .i64 q0.W, .int .i64 q0.H, .slice a_0_2 q0.Breaks.length c_0_2]]) (T := T97 x9) Go.Proofs.Try.func97 rfl (by kernel_rfl) rfl (fun w hC => c97 (q0 := q0) (rd_arg g_0_2 hC) rfl k_0_2 hx9)) rfl ?_
      rintro _ _ ⟨_, ⟨a10, _, cp11, hs13, rfl, hi14, a16, _, cp17, rfl, rfl, rfl⟩, rfl⟩
      refine JL.val (yl_move rfl) rfl ?_
      refine JL.val (yl_extract rfl rfl) rfl ?_
      refine JL.val (yl_extract rfl rfl) rfl ?_
      refine JL.val (yl_assign rfl) rfl ?_
      refine JL.val (yl_assign rfl) rfl ?_
      refine JL.nil ?_
      refine JE.weak (env' := [(1, .int .i64 q1), (2, .int .i64 q2), (3, .int .i64 q3), (4, ptrAt (some ⟨g1, 0, none⟩) 0), (10, .slice a7 0 0), (11, .slice a10 x9.1.length cp11)]) (es' := [boxO 26 g1 [.int .i64 q0.W, .int .i64 q0.H, .slice a_0_2 q0.Breaks.length c_0_2], rowT 88 eSToolMove a7 0 0 ([] : List SToolMove), rowT 102 eHd a10 x9.1.length cp11 hs13, innO 104 eSWalker none hs13 x9.1]) [0, 1, 2, 3] ?_ ⟨rfl, rfl, rfl, rfl, rfl, rfl, trivial⟩ (by decide) rfl
      refine JE.code ?_
      refine JX.seq ?_
      refine JX.seq ?_
      refine JX.region ?_
      refine JL.val (yl_loadn Go.Proofs.Try.underlying26 rfl i26 rfl (fun w hC => rd_box hC 0 rfl) rfl (i26s).symm i26p) rfl ?_
      obtain ⟨x19, hx19, hres⟩ := bind_some hres
      refine JL.eff (ef_call (vs := [.agg #[.int .i64 q0.W, .int .i64 q0.H, .slice a_0_2 q0.Breaks.length c_0_2]]) (T := T144 x19) Go.Proofs.Try.func144 rfl (by kernel_rfl) rfl (fun w hC => c144 (q0 := q0) (rd_arg g_0_2 hC) rfl k_0_2 hx19)) rfl ?_
      rintro _ _ ⟨_, ⟨a20, _, cp21, rfl, rfl, rfl⟩, rfl⟩
      refine JL.val (yl_len_slice Go.Proofs.Try.underlying24 rfl) rfl ?_
      refine JL.val (yl_move rfl) rfl ?_
      refine JL.nil ?_
      refine JE.weak (env' := [(1, .int .i64 q1), (2, .int .i64 q2), (3, .int .i64 q3), (10, .slice a7 0 0), (11, .slice a10 x9.1.length cp11), (30, .slice a20 x19.length cp21), (31, .int .i64 (x19.length : Int)), (32, .int .i64 0)]) (es' := [rowT 88 eSToolMove a7 0 0 ([] : List SToolMove), rowT 102 eHd a10 x9.1.length cp11 hs13, innO 104 eSWalker none hs13 x9.1, rowT 2 eI64 a20 x19.length cp21 x19]) [1, 2, 3, 4] ?_ ⟨rfl, rfl, rfl, rfl, rfl, rfl, rfl, rfl, trivial⟩ (by decide) rfl
      refine JE.code ?_
      refine JX.block ?_
      obtain ⟨y1, hy1, hresO1⟩ := bind_some hres
      refine JX.loop (I := fun (s1 : Int × List SToolMove) aa ww => ∃ (a23 : Option Addr) (cp24 : Nat), St w [] 48 [(1, .int .i64 q1), (2, .int .i64 q2), (3, .int .i64 q3), (10, .slice a23 s1.2.length cp24), (11, .slice a10 x9.1.length cp11), (30, .slice a20 x19.length cp21), (31, .int .i64 (x19.length : Int)), (32, .int .i64 s1.1)] [rowT 88 eSToolMove a23 s1.2.length cp24 s1.2, rowT 102 eHd a10 x9.1.length cp11 hs13, innO 104 eSWalker none hs13 x9.1, rowT 2 eI64 a20 x19.length cp21 x19] aa ww) (sh50_1 q1 q2 q3 x9 x19) hy1 (fun a w h => ⟨a7, 0, h.weak ⟨rfl, rfl, rfl, rfl, rfl, rfl, rfl, rfl, trivial⟩ [0, 1, 2, 3] (by decide) rfl⟩) ?_
      rintro ⟨x25, x26⟩ o1 hres hox1 aa ww ⟨a27, cp28, hS⟩
      refine (?_ : JX Go.Proofs.Try.prog w [] 48 _ _ [(1, .int .i64 q1), (2, .int .i64 q2), (3, .int .i64 q3), (10, .slice a27 x26.length cp28), (11, .slice a10 x9.1.length cp11), (30, .slice a20 x19.length cp21), (31, .int .i64 (x19.length : Int)), (32, .int .i64 x25)] [rowT 88 eSToolMove a27 x26.length cp28 x26, rowT 102 eHd a10 x9.1.length cp11 hs13, innO 104 eSWalker none hs13 x9.1, rowT 2 eI64 a20 x19.length cp21 x19] _) aa ww hS
      clear hS
      simp only [sh50_1] at hres
      refine JX.seq ?_
      refine JX.region ?_
      refine JL.val (yl_lss rfl rfl) rfl ?_
      refine JL.nil ?_
      refine JE.code ?_
      refine JX.seq ?_
      rcases cond_some hres with ⟨hb, hres⟩ | ⟨hb, hres⟩
      · refine JX.condT rfl hb ?_
        refine JX.skip ?_
        refine JE.code ?_
        refine JX.seq ?_
        refine JX.block ?_
        refine JX.seq ?_
        refine JX.region ?_
        obtain ⟨x29, hx29, hres⟩ := bind_some hres
        refine JL.val (yl_idxT Go.Proofs.Try.underlying24 i2 i2s rfl rfl hx29 rfl (fun w hC => rd_row hC 3 rfl)) rfl ?_
        refine JL.val (yl_loadT0 Go.Proofs.Try.underlying2 rfl rfl hx29 (fun w hC => rd_row hC 3 rfl) rfl) rfl ?_
        refine JL.val (yl_assign rfl) rfl ?_
        refine JL.nil ?_
        refine JE.code ?_
        refine JX.region ?_
        refine JL.val (yl_move rfl) rfl ?_
        refine JL.val (yl_move rfl) rfl ?_
        refine JL.val (yl_move rfl) rfl ?_
        obtain ⟨x30, hx30, hres⟩ := bind_some hres
        obtain ⟨ha31, hc32, hhx30⟩ := Inn.sub hi14 hx30
        refine JL.val (yl_idxT Go.Proofs.Try.underlying99 i102 i102s rfl rfl hhx30 (Inn.len hi14) (fun w hC => rd_row hC 1 rfl)) rfl ?_
        refine JL.val (yl_loadT0 (z := ⟨ha31, x30.length, hc32⟩) Go.Proofs.Try.underlying102 rfl rfl hhx30 (fun w hC => rd_row hC 1 rfl) rfl) rfl ?_
        refine JL.val (yl_move rfl) rfl ?_
        refine JL.val (yl_move rfl) rfl ?_
        refine JL.val (yl_move rfl) rfl ?_
        obtain ⟨x34, hx34, hres⟩ := bind_some hres
        refine JL.eff (ef_call (T := T145 x34) Go.Proofs.Try.func145 rfl (by kernel_rfl) rfl (fun w hC => c145 ((RdI.sub (rd_inn hC 2 rfl) hx30 hhx30)) rfl (RdI.ln (rd_inn hC 2 rfl) hx30 hhx30) hx34)) rfl ?_
        rintro _ _ ⟨_, ⟨a35, _, cp36, rfl, rfl, rfl⟩, rfl⟩
        obtain ⟨x38, hx38, hres⟩ := bind_some hres
        refine JL.eff (ef_appendT (ix := 0) Go.Proofs.Try.underlying65 i88 i88z i88s rfl i88b0 i88b1 rfl rfl rfl rfl rfl (fun w hC => rd_row hC 4 rfl) hx38) rfl ?_
        rintro _ _ ⟨a39, cp40, rfl, rfl⟩
        refine JL.val (yl_assign rfl) rfl ?_
        refine JL.nil ?_
        refine JE.weak (env' := [(1, .int .i64 q1), (2, .int .i64 q2), (3, .int .i64 q3), (10, .slice a39 x38.length cp40), (11, .slice a10 x9.1.length cp11), (30, .slice a20 x19.length cp21), (31, .int .i64 (x19.length : Int)), (32, .int .i64 x25)]) (es' := [rowT 88 eSToolMove a39 x38.length cp40 x38, rowT 102 eHd a10 x9.1.length cp11 hs13, innO 104 eSWalker none hs13 x9.1, rowT 2 eI64 a20 x19.length cp21 x19]) [0, 1, 2, 3] ?_ ⟨rfl, rfl, rfl, rfl, rfl, rfl, rfl, rfl, trivial⟩ (by decide) rfl
        refine JE.code ?_
        refine JX.region ?_
        refine JL.val (yl_add rfl rfl) rfl ?_
        refine JL.val (yl_move rfl) rfl ?_
        refine JL.nil ?_
        refine JE.cont hres ?_
        exact fun a w h => ⟨a39, cp40, h.weak ⟨rfl, rfl, rfl, rfl, rfl, rfl, rfl, rfl, trivial⟩ [0, 1, 2, 3] (by decide) rfl⟩
      · refine JX.condF rfl hb ?_
        refine JX.exit ?_
        refine JE.qb rfl ?_
        obtain ⟨b1, hb1⟩ : ∃ b : List SToolMove, b = x26 := ⟨_, rfl⟩
        have hy1 : b1 = y1 := by rw [hb1]; exact hox1 _ (Option.some.inj hres).symm
        have hres := hresO1
        rw [← hy1] at hres
        refine JE.weak (env' := [(10, .slice a27 b1.length cp28)]) (es' := [rowT 88 eSToolMove a27 b1.length cp28 b1]) [0] ?_ ⟨(by subst hb1; rfl), trivial⟩ (by decide) (by subst hb1; rfl)
        refine JE.code ?_
        refine JX.seq ?_
        refine JX.region ?_
        refine JL.val (yl_move rfl) rfl ?_
        refine JL.val (yl_assign rfl) rfl ?_
        refine JL.val (yl_assign rfl) rfl ?_
        refine JL.nil ?_
        refine JE.code ?_
        refine JX.ret ?_
        obtain rfl := Option.some.inj hres
        refine JE.ret (rs := [.tmp 8, .tmp 9]) (vs := [.slice a27 b1.length cp28, .int .i64 0]) rfl ⟨rfl, rfl, trivial⟩ ?_
        exact fun w' hb hs => ⟨_, _, ⟨a27, b1.length, cp28, rfl, rfl, rfl⟩, rfl, hb, hs.sel [0] _ (by decide) rfl⟩

/- spec.l00In -/
def sh100 (q0 : Int) (q1 : Int) (q2 : Int) : Option (Bool) := some ((decide (q1 ≤ q0)) && (decide (q0 ≤ q2)))
def T100 (r : Bool) (v : Value) (rs : List Own) : Prop := v = rets [.bool r] ∧ rs = []
set_option maxRecDepth 100000 in
theorem c100 {w : World} {q0 : Int} {q1 : Int} {q2 : Int} {r : Bool} (hres : sh100 q0 q1 q2 = some r) : Calls Go.Proofs.Try.prog 100 [.int .i64 q0, .int .i64 q1, .int .i64 q2].toArray w (Ret w (T100 r)) := by
  unfold sh100 at hres
  refine calls_of (n := 15) (M := []) (es := []) Go.Proofs.Try.func100 rfl rfl rfl (Sep.nil _ _ _) ?_
  refine JX.seq ?_
  refine JX.region ?_
  refine JL.val (yl_assign rfl) rfl ?_
  refine JL.nil ?_
  refine JE.code ?_
  refine JX.seq ?_
  refine JX.region ?_
  refine JL.val (yl_move rfl) rfl ?_
  refine JL.val (yl_move rfl) rfl ?_
  refine JL.val (yl_geq rfl rfl) rfl ?_
  refine JL.val (yl_move rfl) rfl ?_
  refine JL.cut (K := fun J => J [(14, .bool ((decide (q1 ≤ q0)) && (decide (q0 ≤ q2))))] []) 4 ?_ ?_
  · refine JL.val (yl_assign rfl) rfl ?_
    refine JL.nil ?_
    refine JE.weak (env' := [(6, .bool ((decide (q1 ≤ q0)) && (decide (q0 ≤ q2))))]) (es' := []) [] ?_ ⟨rfl, trivial⟩ (by decide) rfl
    refine JE.code ?_
    refine JX.ret ?_
    obtain rfl := Option.some.inj hres
    refine JE.ret (rs := [.tmp 6]) (vs := [.bool ((decide (q1 ≤ q0)) && (decide (q0 ≤ q2)))]) rfl ⟨rfl, trivial⟩ ?_
    exact fun w' hb hs => ⟨_, _, ⟨rfl, rfl⟩, rfl, hb, hs.sel [] _ (by decide) rfl⟩
  · intro K
    rcases Bool.eq_false_or_eq_true (decide (q1 ≤ q0)) with hb | hb
    · refine JL.set (d := 10) (v := .bool true) (congrArg (fun b => some (Value.bool b)) hb) ?_
      refine JL.gval rfl rfl (yl_move rfl) rfl ?_
      refine JL.gval rfl rfl (yl_move rfl) rfl ?_
      refine JL.gval rfl rfl (yl_leq rfl rfl) rfl ?_
      refine JL.val (yl_pick_true rfl rfl) rfl ?_
      exact JL.weak [] K ⟨(by rw [hb]; rfl), trivial⟩ (by decide) rfl
    · refine JL.set (d := 10) (v := .bool false) (congrArg (fun b => some (Value.bool b)) hb) ?_
      refine JL.gskip rfl rfl rfl rfl ?_
      refine JL.gskip rfl rfl rfl rfl ?_
      refine JL.gskip rfl rfl rfl rfl ?_
      refine JL.val (yl_pick_false rfl rfl) rfl ?_
      exact JL.weak [] K ⟨(by rw [hb]; rfl), trivial⟩ (by decide) rfl

/- spec.l02Side -/
def sh201 (q0 : Int) : Option (Bool) := Option.bind (sh100 q0 1 8) fun x1 => some x1
def T201 (r : Bool) (v : Value) (rs : List Own) : Prop := v = rets [.bool r] ∧ rs = []
set_option maxRecDepth 100000 in
theorem c201 {w : World} {q0 : Int} {r : Bool} (hres : sh201 q0 = some r) : Calls Go.Proofs.Try.prog 201 [.int .i64 q0].toArray w (Ret w (T201 r)) := by
  unfold sh201 at hres
  refine calls_of (n := 5) (M := []) (es := []) Go.Proofs.Try.func201 rfl rfl rfl (Sep.nil _ _ _) ?_
  refine JX.seq ?_
  refine JX.region ?_
  refine JL.val (yl_assign rfl) rfl ?_
  refine JL.nil ?_
  refine JE.code ?_
  refine JX.seq ?_
  refine JX.region ?_
  refine JL.val (yl_move rfl) rfl ?_
  obtain ⟨x1, hx1, hres⟩ := bind_some hres
  refine JL.eff (ef_call (T := T100 x1) Go.Proofs.Try.func100 rfl (by kernel_rfl) rfl (fun w hC => c100  hx1)) rfl ?_
  rintro _ _ ⟨_, ⟨rfl, rfl⟩, rfl⟩
  refine JL.val (yl_assign rfl) rfl ?_
  refine JL.nil ?_
  refine JE.code ?_
  refine JX.ret ?_
  obtain rfl := Option.some.inj hres
  refine JE.ret (rs := [.tmp 2]) (vs := [.bool x1]) rfl ⟨rfl, trivial⟩ ?_
  exact fun w' hb hs => ⟨_, _, ⟨rfl, rfl⟩, rfl, hb, hs.sel [] _ (by decide) rfl⟩

/- spec.l02Ok -/
def sh139_1 (q0 : SPanel) : Int → Option (Int ⊕ (Unit ⊕ Bool))
  | x7 => bif decide (x7 < (q0.Breaks.length : Int)) then (Option.bind (getI q0.Breaks x7) fun x8 => Option.bind (sh100 x8 0 2) fun x9 => bif !x9 then (some (.inr (.inr false))) else (some (.inl (w64 (x7 + 1))))) else (some (.inr (.inl ())))
def sh139 (q0 : SPanel) : Option (Bool) := Option.bind (sh201 q0.W) fun x2 => Option.bind (bif !x2 then (some true) else (Option.bind (sh201 q0.H) fun x4 => some !x4)) fun cb3 => (Option.bind (bif cb3 then (some true) else (Option.bind (sh202 q0.W q0.H) fun x6 => some ((q0.Breaks.length : Int) != x6))) fun cb5 => (bif cb5 then (some false) else (Option.bind (iter (sh139_1 q0) 0) fun y1 => elimS y1 (fun r => some r) fun b1 => (some true))))
def T139 (r : Bool) (v : Value) (rs : List Own) : Prop := v = rets [.bool r] ∧ rs = []
set_option maxRecDepth 100000 in
theorem c139 {w : World} {q0 : SPanel} {a_0 : Option Addr} {n_0 : Nat} {a_0_2 : Option Addr} {n_0_2 c_0_2 : Nat} (g_0 : RdAt w a_0 n_0 [.int .i64 q0.W, .int .i64 q0.H, .slice a_0_2 n_0_2 c_0_2]) (g_0_2 : Rd w a_0_2 (eI64.fl q0.Breaks)) (l_0_2 : q0.Breaks.length = n_0_2) (k_0_2 : n_0_2 ≤ c_0_2) {r : Bool} (hres : sh139 q0 = some r) : Calls Go.Proofs.Try.prog 139 [ptrAt a_0 n_0].toArray w (Ret w (T139 r)) := by
  subst l_0_2
  obtain ⟨b_0, e_0, g_0⟩ := g_0.norm0
  rw [e_0]
  unfold sh139 at hres
  refine calls_of (n := 53) (M := []) (es := []) Go.Proofs.Try.func139 rfl rfl rfl (Sep.nil _ _ _) ?_
  refine JX.seq ?_
  refine JX.region ?_
  refine JL.val (yl_assign rfl) rfl ?_
  refine JL.nil ?_
  refine JE.code ?_
  refine JX.seq ?_
  refine JX.seq ?_
  refine JX.drawH [(0, .pure), (1, .pure), (2, .pure), (3, .read), (4, .must), (5, .pure), (6, .pure), (7, .pure), (8, .pure), (9, .pure), (10, .read), (11, .must), (12, .pure), (13, .pure), (14, .pure), (15, .pure), (16, .pure), (17, .pure), (18, .read), (19, .pure), (20, .pure), (21, .pure), (22, .pure), (23, .read), (24, .pure), (25, .pure), (26, .pure), (27, .read), (28, .must), (29, .pure), (30, .pure)] [] [] [] [] [] mixedP (by kernel_rfl) (by kernel_rfl) (by decide) rfl rfl ?_
  intro wrr1 Nr1 hFr1
  refine JH.pure rfl (yl_move rfl) rfl ?_
  refine JH.pure rfl (yl_nilCheckAt rfl (Rd.some g_0 (j := 0) rfl)) rfl ?_
  refine JH.pure rfl (yl_fieldAt Go.Proofs.Try.underlying26 rfl i2 i2n rfl (Rd.some g_0 (j := 0) rfl)) rfl ?_
  refine JH.read rfl (yl_load1 Go.Proofs.Try.underlying2 rfl rfl (fun w hw => hFr1.arg g_0 hw) rfl) rfl ?_
  obtain ⟨x2, hx2, hres⟩ := bind_some hres
  refine JH.must rfl (ef_call (T := T201 x2) Go.Proofs.Try.func201 rfl (by kernel_rfl) rfl (fun w hC => c201  hx2)) rfl rfl ?_
  rintro _ _ ⟨_, ⟨rfl, rfl⟩, rfl⟩
  refine JH.pure rfl (yl_not rfl) rfl ?_
  refine JH.pure rfl (yl_move rfl) rfl ?_
  obtain ⟨cb3, hcb3, hres⟩ := bind_some hres
  refine JH.cut (K := fun J => J [(0, ptrAt b_0 0), (17, .bool cb3)] []) 7 ?_ ?_
  · refine JH.pure rfl (yl_move rfl) rfl ?_
    obtain ⟨cb5, hcb5, hres⟩ := bind_some hres
    refine JH.cut (K := fun J => J [(0, ptrAt b_0 0), (34, .bool cb5)] []) 16 ?_ ?_
    · refine JH.nil ?_
      refine JE.weak (env' := [(0, ptrAt b_0 0), (34, .bool cb5)]) (es' := []) [] ?_ ⟨rfl, rfl, trivial⟩ (by decide) rfl
      refine JE.code ?_
      rcases cond_some hres with ⟨hb, hres⟩ | ⟨hb, hres⟩
      · refine JX.condT rfl hb ?_
        refine JX.seq ?_
        refine JX.region ?_
        refine JL.val (yl_assign rfl) rfl ?_
        refine JL.nil ?_
        refine JE.code ?_
        refine JX.ret ?_
        obtain rfl := Option.some.inj hres
        refine JE.ret (rs := [.tmp 2]) (vs := [.bool false]) rfl ⟨rfl, trivial⟩ ?_
        exact fun w' hb hs => ⟨_, _, ⟨rfl, rfl⟩, rfl, hb, hs.sel [] _ (by decide) rfl⟩
      · refine JX.condF rfl hb ?_
        refine JX.skip ?_
        refine JE.code ?_
        refine JX.seq ?_
        refine JX.seq ?_
        refine JX.region ?_
        refine JL.val (yl_assign rfl) rfl ?_
        refine JL.nil ?_
        refine JE.code ?_
        refine JX.block ?_
        obtain ⟨y1, hy1, hresO1⟩ := bind_some hres
        refine JX.loop (I := fun (s1 : Int) aa ww => St w [] 53 [(0, ptrAt b_0 0), (3, .int .i64 s1)] [] aa ww) (sh139_1 q0) hy1 (fun a w h => h.weak ⟨rfl, rfl, trivial⟩ [] (by decide) rfl) ?_
        rintro x7 o1 hres hox1 aa ww hS
        refine (?_ : JX Go.Proofs.Try.prog w [] 53 _ _ [(0, ptrAt b_0 0), (3, .int .i64 x7)] [] _) aa ww hS
        clear hS
        unfold sh139_1 at hres
        refine JX.seq ?_
        refine JX.seq ?_
        refine JX.region ?_
        refine JL.val (yl_move rfl) rfl ?_
        refine JL.val (yl_move rfl) rfl ?_
        refine JL.val (yl_nilCheckAt rfl (Rd.some g_0 (j := 0) rfl)) rfl ?_
        refine JL.val (yl_fieldAt Go.Proofs.Try.underlying26 rfl i24 i24n rfl (Rd.some g_0 (j := 0) rfl)) rfl ?_
        refine JL.val (yl_load1 Go.Proofs.Try.underlying24 rfl rfl (fun w hC => rd_arg g_0 hC) rfl) rfl ?_
        refine JL.val (yl_len_slice Go.Proofs.Try.underlying24 rfl) rfl ?_
        refine JL.val (yl_lss rfl rfl) rfl ?_
        refine JL.nil ?_
        refine JE.weak (env' := [(0, ptrAt b_0 0), (3, .int .i64 x7), (41, .bool (decide (x7 < (q0.Breaks.length : Int))))]) (es' := []) [] ?_ ⟨rfl, rfl, rfl, trivial⟩ (by decide) rfl
        refine JE.code ?_
        rcases cond_some hres with ⟨hb, hres⟩ | ⟨hb, hres⟩
        · refine JX.condT rfl hb ?_
          refine JX.skip ?_
          refine JE.code ?_
          refine JX.seq ?_
          refine JX.block ?_
          refine JX.seq ?_
          refine JX.region ?_
          refine JL.val (yl_move rfl) rfl ?_
          refine JL.val (yl_nilCheckAt rfl (Rd.some g_0 (j := 0) rfl)) rfl ?_
          refine JL.val (yl_fieldAt Go.Proofs.Try.underlying26 rfl i24 i24n rfl (Rd.some g_0 (j := 0) rfl)) rfl ?_
          refine JL.val (yl_load1 Go.Proofs.Try.underlying24 rfl rfl (fun w hC => rd_arg g_0 hC) rfl) rfl ?_
          refine JL.val (yl_move rfl) rfl ?_
          obtain ⟨x8, hx8, hres⟩ := bind_some hres
          refine JL.val (yl_idxT Go.Proofs.Try.underlying24 i2 i2s rfl rfl hx8 rfl (fun w hC => rd_arg g_0_2 hC)) rfl ?_
          refine JL.val (yl_loadT0 Go.Proofs.Try.underlying2 rfl rfl hx8 (fun w hC => rd_arg g_0_2 hC) rfl) rfl ?_
          obtain ⟨x9, hx9, hres⟩ := bind_some hres
          refine JL.eff (ef_call (T := T100 x9) Go.Proofs.Try.func100 rfl (by kernel_rfl) rfl (fun w hC => c100  hx9)) rfl ?_
          rintro _ _ ⟨_, ⟨rfl, rfl⟩, rfl⟩
          refine JL.val (yl_not rfl) rfl ?_
          refine JL.nil ?_
          refine JE.weak (env' := [(0, ptrAt b_0 0), (3, .int .i64 x7), (52, .bool !x9)]) (es' := []) [] ?_ ⟨rfl, rfl, rfl, trivial⟩ (by decide) rfl
          refine JE.code ?_
          rcases cond_some hres with ⟨hb, hres⟩ | ⟨hb, hres⟩
          · refine JX.condT rfl hb ?_
            refine JX.seq ?_
            refine JX.region ?_
            refine JL.val (yl_assign rfl) rfl ?_
            refine JL.nil ?_
            refine JE.code ?_
            refine JX.ret ?_
            refine JE.qbr ?_
            refine JE.qbr ?_
            have hres := elimS_inr hresO1 (hox1 _ (Option.some.inj hres).symm)
            obtain rfl := Option.some.inj hres
            refine JE.ret (rs := [.tmp 2]) (vs := [.bool false]) rfl ⟨rfl, trivial⟩ ?_
            exact fun w' hb hs => ⟨_, _, ⟨rfl, rfl⟩, rfl, hb, hs.sel [] _ (by decide) rfl⟩
          · refine JX.condF rfl hb ?_
            refine JX.skip ?_
            refine JE.code ?_
            refine JX.region ?_
            refine JL.val (yl_move rfl) rfl ?_
            refine JL.val (yl_add rfl rfl) rfl ?_
            refine JL.val (yl_assign rfl) rfl ?_
            refine JL.nil ?_
            refine JE.cont hres ?_
            exact fun a w h => h.weak ⟨rfl, rfl, trivial⟩ [] (by decide) rfl
        · refine JX.condF rfl hb ?_
          refine JX.exit ?_
          refine JE.qb rfl ?_
          obtain ⟨b1, hb1⟩ : ∃ b : Unit, b = () := ⟨_, rfl⟩
          have hy1 : Sum.inl b1 = y1 := by rw [hb1]; exact hox1 _ (Option.some.inj hres).symm
          have hres := elimS_inl hresO1 hy1
          refine JE.weak (env' := []) (es' := []) [] ?_ trivial (by decide) (by subst hb1; rfl)
          refine JE.code ?_
          refine JX.seq ?_
          refine JX.region ?_
          refine JL.val (yl_assign rfl) rfl ?_
          refine JL.nil ?_
          refine JE.code ?_
          refine JX.ret ?_
          obtain rfl := Option.some.inj hres
          refine JE.ret (rs := [.tmp 2]) (vs := [.bool true]) rfl ⟨rfl, trivial⟩ ?_
          exact fun w' hb hs => ⟨_, _, ⟨rfl, rfl⟩, rfl, hb, hs.sel [] _ (by decide) rfl⟩
    · intro K
      rcases cond_some hcb5 with ⟨hb, hres⟩ | ⟨hb, hres⟩
      · refine JH.set (d := 18) (v := .bool true) (congrArg (fun b => some (Value.bool b)) hb) ?_
        refine JH.gskip rfl rfl rfl rfl rfl rfl ?_
        refine JH.gskip rfl rfl rfl rfl rfl rfl ?_
        refine JH.gskip rfl rfl rfl rfl rfl rfl ?_
        refine JH.gskip rfl rfl rfl rfl rfl rfl ?_
        refine JH.gskip rfl rfl rfl rfl rfl rfl ?_
        refine JH.gskip rfl rfl rfl rfl rfl rfl ?_
        refine JH.gskip rfl rfl rfl rfl rfl rfl ?_
        refine JH.gskip rfl rfl rfl rfl rfl rfl ?_
        refine JH.gskip rfl rfl rfl rfl rfl rfl ?_
        refine JH.gskip rfl rfl rfl rfl rfl rfl ?_
        refine JH.gskip rfl rfl rfl rfl rfl rfl ?_
        refine JH.gskip rfl rfl rfl rfl rfl rfl ?_
        refine JH.gskip rfl rfl rfl rfl rfl rfl ?_
        refine JH.gskip rfl rfl rfl rfl rfl rfl ?_
        refine JH.gskip rfl rfl rfl rfl rfl rfl ?_
        refine JH.pure rfl (yl_pick_true rfl rfl) rfl ?_
        have he := Option.some.inj hres
        exact JH.weak [] K ⟨rfl, (by rw [← he]; rfl), trivial⟩ (by decide) rfl
      · refine JH.set (d := 18) (v := .bool false) (congrArg (fun b => some (Value.bool b)) hb) ?_
        refine JH.gpure rfl rfl rfl (yl_move rfl) rfl ?_
        refine JH.gpure rfl rfl rfl (yl_nilCheckAt rfl (Rd.some g_0 (j := 0) rfl)) rfl ?_
        refine JH.gpure rfl rfl rfl (yl_fieldAt Go.Proofs.Try.underlying26 rfl i24 i24n rfl (Rd.some g_0 (j := 0) rfl)) rfl ?_
        refine JH.gread rfl rfl rfl (yl_load1 Go.Proofs.Try.underlying24 rfl rfl (fun w hw => hFr1.arg g_0 hw) rfl) rfl ?_
        refine JH.gpure rfl rfl rfl (yl_len_slice Go.Proofs.Try.underlying24 rfl) rfl ?_
        refine JH.gpure rfl rfl rfl (yl_move rfl) rfl ?_
        refine JH.gpure rfl rfl rfl (yl_nilCheckAt rfl (Rd.some g_0 (j := 0) rfl)) rfl ?_
        refine JH.gpure rfl rfl rfl (yl_fieldAt Go.Proofs.Try.underlying26 rfl i2 i2n rfl (Rd.some g_0 (j := 0) rfl)) rfl ?_
        refine JH.gread rfl rfl rfl (yl_load1 Go.Proofs.Try.underlying2 rfl rfl (fun w hw => hFr1.arg g_0 hw) rfl) rfl ?_
        refine JH.gpure rfl rfl rfl (yl_move rfl) rfl ?_
        refine JH.gpure rfl rfl rfl (yl_nilCheckAt rfl (Rd.some g_0 (j := 0) rfl)) rfl ?_
        refine JH.gpure rfl rfl rfl (yl_fieldAt Go.Proofs.Try.underlying26 rfl i2 i2n rfl (Rd.some g_0 (j := 0) rfl)) rfl ?_
        refine JH.gread rfl rfl rfl (yl_load1 Go.Proofs.Try.underlying2 rfl rfl (fun w hw => hFr1.arg g_0 hw) rfl) rfl ?_
        obtain ⟨x6, hx6, hres⟩ := bind_some hres
        refine JH.gmust rfl rfl rfl (ef_call (T := T202 x6) Go.Proofs.Try.func202 rfl (by kernel_rfl) rfl (fun w hC => c202  hx6)) rfl rfl ?_
        rintro _ _ ⟨_, ⟨rfl, rfl⟩, rfl⟩
        refine JH.gpure rfl rfl rfl (yl_neq rfl rfl) rfl ?_
        refine JH.pure rfl (yl_pick_false rfl rfl) rfl ?_
        have he := Option.some.inj hres
        exact JH.weak [] K ⟨rfl, (by rw [← he]; rfl), trivial⟩ (by decide) rfl
  · intro K
    rcases cond_some hcb3 with ⟨hb, hres⟩ | ⟨hb, hres⟩
    · refine JH.set (d := 10) (v := .bool true) (congrArg (fun b => some (Value.bool b)) hb) ?_
      refine JH.gskip rfl rfl rfl rfl rfl rfl ?_
      refine JH.gskip rfl rfl rfl rfl rfl rfl ?_
      refine JH.gskip rfl rfl rfl rfl rfl rfl ?_
      refine JH.gskip rfl rfl rfl rfl rfl rfl ?_
      refine JH.gskip rfl rfl rfl rfl rfl rfl ?_
      refine JH.gskip rfl rfl rfl rfl rfl rfl ?_
      refine JH.pure rfl (yl_pick_true rfl rfl) rfl ?_
      have he := Option.some.inj hres
      exact JH.weak [] K ⟨rfl, (by rw [← he]; rfl), trivial⟩ (by decide) rfl
    · refine JH.set (d := 10) (v := .bool false) (congrArg (fun b => some (Value.bool b)) hb) ?_
      refine JH.gpure rfl rfl rfl (yl_move rfl) rfl ?_
      refine JH.gpure rfl rfl rfl (yl_nilCheckAt rfl (Rd.some g_0 (j := 0) rfl)) rfl ?_
      refine JH.gpure rfl rfl rfl (yl_fieldAt Go.Proofs.Try.underlying26 rfl i2 i2n rfl (Rd.some g_0 (j := 0) rfl)) rfl ?_
      refine JH.gread rfl rfl rfl (yl_load1 Go.Proofs.Try.underlying2 rfl rfl (fun w hw => hFr1.arg g_0 hw) rfl) rfl ?_
      obtain ⟨x4, hx4, hres⟩ := bind_some hres
      refine JH.gmust rfl rfl rfl (ef_call (T := T201 x4) Go.Proofs.Try.func201 rfl (by kernel_rfl) rfl (fun w hC => c201  hx4)) rfl rfl ?_
      rintro _ _ ⟨_, ⟨rfl, rfl⟩, rfl⟩
      refine JH.gpure rfl rfl rfl (yl_not rfl) rfl ?_
      refine JH.pure rfl (yl_pick_false rfl rfl) rfl ?_
      have he := Option.some.inj hres
      exact JH.weak [] K ⟨rfl, (by rw [← he]; rfl), trivial⟩ (by decide) rfl

/- spec.l02Row -/
def sh203_1 (q0 : SPanel) (q1 : Int) : (Int × Int) → Option ((Int × Int) ⊕ (Int))
  | (x1, x2) => bif decide (x2 < q1) then (Option.bind (bif (x2.tmod 2) == 1 then (some (w64 ((w64 (x1 + q0.W)) - 1))) else (some (w64 (x1 + q0.W)))) fun j3 => (some (.inl (j3, w64 (x2 + 1))))) else (some (.inr x1))
def sh203 (q0 : SPanel) (q1 : Int) : Option (Int) := Option.bind (iter (sh203_1 q0 q1) (0, 1)) fun b1 => (some b1)
def T203 (r : Int) (v : Value) (rs : List Own) : Prop := v = rets [.int .i64 r] ∧ rs = []
set_option maxRecDepth 100000 in
theorem c203 {w : World} {q0 : SPanel} {a_0 : Option Addr} {n_0 : Nat} {a_0_2 : Option Addr} {n_0_2 c_0_2 : Nat} (g_0 : RdAt w a_0 n_0 [.int .i64 q0.W, .int .i64 q0.H, .slice a_0_2 n_0_2 c_0_2]) (g_0_2 : Rd w a_0_2 (eI64.fl q0.Breaks)) (l_0_2 : q0.Breaks.length = n_0_2) (k_0_2 : n_0_2 ≤ c_0_2) {q1 : Int} {r : Int} (hres : sh203 q0 q1 = some r) : Calls Go.Proofs.Try.prog 203 [ptrAt a_0 n_0, .int .i64 q1].toArray w (Ret w (T203 r)) := by
  subst l_0_2
  obtain ⟨b_0, e_0, g_0⟩ := g_0.norm0
  rw [e_0]
  unfold sh203 at hres
  refine calls_of (n := 24) (M := []) (es := []) Go.Proofs.Try.func203 rfl rfl rfl (Sep.nil _ _ _) ?_
  refine JX.seq ?_
  refine JX.region ?_
  refine JL.val (yl_assign rfl) rfl ?_
  refine JL.nil ?_
  refine JE.code ?_
  refine JX.seq ?_
  refine JX.region ?_
  refine JL.val (yl_assign rfl) rfl ?_
  refine JL.nil ?_
  refine JE.code ?_
  refine JX.seq ?_
  refine JX.seq ?_
  refine JX.region ?_
  refine JL.val (yl_assign rfl) rfl ?_
  refine JL.nil ?_
  refine JE.code ?_
  refine JX.block ?_
  obtain ⟨y1, hy1, hresO1⟩ := bind_some hres
  refine JX.loop (I := fun (s1 : Int × Int) aa ww => St w [] 24 [(0, ptrAt b_0 0), (1, .int .i64 q1), (5, .int .i64 s1.1), (6, .int .i64 s1.2)] [] aa ww) (sh203_1 q0 q1) hy1 (fun a w h => h.weak ⟨rfl, rfl, rfl, rfl, trivial⟩ [] (by decide) rfl) ?_
  rintro ⟨x1, x2⟩ o1 hres hox1 aa ww hS
  refine (?_ : JX Go.Proofs.Try.prog w [] 24 _ _ [(0, ptrAt b_0 0), (1, .int .i64 q1), (5, .int .i64 x1), (6, .int .i64 x2)] [] _) aa ww hS
  clear hS
  simp only [sh203_1] at hres
  refine JX.seq ?_
  refine JX.seq ?_
  refine JX.region ?_
  refine JL.val (yl_move rfl) rfl ?_
  refine JL.val (yl_move rfl) rfl ?_
  refine JL.val (yl_lss rfl rfl) rfl ?_
  refine JL.nil ?_
  refine JE.code ?_
  rcases cond_some hres with ⟨hb, hres⟩ | ⟨hb, hres⟩
  · refine JX.condT rfl hb ?_
    refine JX.skip ?_
    refine JE.code ?_
    refine JX.seq ?_
    refine JX.block ?_
    refine JX.seq ?_
    refine JX.region ?_
    refine JL.val (yl_move rfl) rfl ?_
    refine JL.val (yl_move rfl) rfl ?_
    refine JL.val (yl_nilCheckAt rfl (Rd.some g_0 (j := 0) rfl)) rfl ?_
    refine JL.val (yl_fieldAt Go.Proofs.Try.underlying26 rfl i2 i2n rfl (Rd.some g_0 (j := 0) rfl)) rfl ?_
    refine JL.val (yl_load1 Go.Proofs.Try.underlying2 rfl rfl (fun w hC => rd_arg g_0 hC) rfl) rfl ?_
    refine JL.val (yl_add rfl rfl) rfl ?_
    refine JL.val (yl_assign rfl) rfl ?_
    refine JL.nil ?_
    refine JE.weak (env' := [(0, ptrAt b_0 0), (1, .int .i64 q1), (5, .int .i64 (w64 (x1 + q0.W))), (6, .int .i64 x2)]) (es' := []) [] ?_ ⟨rfl, rfl, rfl, rfl, trivial⟩ (by decide) rfl
    refine JE.code ?_
    refine JX.seq ?_
    refine JX.region ?_
    refine JL.val (yl_move rfl) rfl ?_
    refine JL.val (yl_rem rfl rfl (by decide)) rfl ?_
    refine JL.val (yl_eql rfl rfl) rfl ?_
    refine JL.nil ?_
    refine JE.code ?_
    obtain ⟨j3, hj3, hresj3⟩ := bind_some hres
    refine JX.cut (K := fun J => J [(0, ptrAt b_0 0), (1, .int .i64 q1), (5, .int .i64 j3), (6, .int .i64 x2)] []) ?_ ?_
    · have hres := hresj3
      refine JE.code ?_
      refine JX.region ?_
      refine JL.val (yl_move rfl) rfl ?_
      refine JL.val (yl_add rfl rfl) rfl ?_
      refine JL.val (yl_assign rfl) rfl ?_
      refine JL.nil ?_
      refine JE.cont hres ?_
      exact fun a w h => h.weak ⟨rfl, rfl, rfl, rfl, trivial⟩ [] (by decide) rfl
    · intro K
      rcases cond_some hj3 with ⟨hb, hres⟩ | ⟨hb, hres⟩
      · refine JX.condT rfl hb ?_
        refine JX.region ?_
        refine JL.val (yl_move rfl) rfl ?_
        refine JL.val (yl_sub rfl rfl) rfl ?_
        refine JL.val (yl_assign rfl) rfl ?_
        refine JL.nil ?_
        have hj := Option.some.inj hres
        exact JE.weak [] (K) ⟨(by subst hj; rfl), (by subst hj; rfl), (by subst hj; rfl), (by subst hj; rfl), trivial⟩ (by decide) (by subst hj; rfl)
      · refine JX.condF rfl hb ?_
        refine JX.skip ?_
        have hj := Option.some.inj hres
        exact JE.weak [] (K) ⟨(by subst hj; rfl), (by subst hj; rfl), (by subst hj; rfl), (by subst hj; rfl), trivial⟩ (by decide) (by subst hj; rfl)
  · refine JX.condF rfl hb ?_
    refine JX.exit ?_
    refine JE.qb rfl ?_
    obtain ⟨b1, hb1⟩ : ∃ b : Int, b = x1 := ⟨_, rfl⟩
    have hy1 : b1 = y1 := by rw [hb1]; exact hox1 _ (Option.some.inj hres).symm
    have hres := hresO1
    rw [← hy1] at hres
    refine JE.weak (env' := [(5, .int .i64 b1)]) (es' := []) [] ?_ ⟨(by subst hb1; rfl), trivial⟩ (by decide) (by subst hb1; rfl)
    refine JE.code ?_
    refine JX.seq ?_
    refine JX.region ?_
    refine JL.val (yl_move rfl) rfl ?_
    refine JL.val (yl_assign rfl) rfl ?_
    refine JL.nil ?_
    refine JE.code ?_
    refine JX.ret ?_
    obtain rfl := Option.some.inj hres
    refine JE.ret (rs := [.tmp 4]) (vs := [.int .i64 b1]) rfl ⟨rfl, trivial⟩ ?_
    exact fun w' hb hs => ⟨_, _, ⟨rfl, rfl⟩, rfl, hb, hs.sel [] _ (by decide) rfl⟩

/- spec.l02Number -/
def sh141 (q0 : SPanel) (q1 : SPoint) : Option (Int) := Option.bind (sh203 q0 q1.Y) fun x4 => some (w64 (x4 + (w64 ((w64 (q1.X - 1)).tdiv 2))))
def T141 (r : Int) (v : Value) (rs : List Own) : Prop := v = rets [.int .i64 r] ∧ rs = []
set_option maxRecDepth 100000 in
theorem c141 {w : World} {q0 : SPanel} {a_0 : Option Addr} {n_0 : Nat} {a_0_2 : Option Addr} {n_0_2 c_0_2 : Nat} (g_0 : RdAt w a_0 n_0 [.int .i64 q0.W, .int .i64 q0.H, .slice a_0_2 n_0_2 c_0_2]) (g_0_2 : Rd w a_0_2 (eI64.fl q0.Breaks)) (l_0_2 : q0.Breaks.length = n_0_2) (k_0_2 : n_0_2 ≤ c_0_2) {q1 : SPoint} {r : Int} (hres : sh141 q0 q1 = some r) : Calls Go.Proofs.Try.prog 141 [ptrAt a_0 n_0, .agg #[.int .i64 q1.X, .int .i64 q1.Y]].toArray w (Ret w (T141 r)) := by
  subst l_0_2
  obtain ⟨b_0, e_0, g_0⟩ := g_0.norm0
  rw [e_0]
  unfold sh141 at hres
  refine calls_of (n := 14) (M := []) (es := []) Go.Proofs.Try.func141 rfl rfl rfl (Sep.nil _ _ _) ?_
  refine JX.seq ?_
  refine JX.region ?_
  refine JL.eff (ef_box rfl rfl) rfl ?_
  rintro _ _ ⟨g1, rfl, rfl⟩
  refine JL.val (yl_assign rfl) rfl ?_
  refine JL.nil ?_
  refine JE.code ?_
  refine JX.seq ?_
  refine JX.drawH [(0, .pure), (1, .pure), (2, .read), (4, .pure), (5, .read), (6, .pure), (7, .pure), (3, .must), (8, .pure), (9, .pure)] [] [] [0] [] [boxO 42 g1 [.int .i64 q1.X, .int .i64 q1.Y]] mixedP (by kernel_rfl) (by kernel_rfl) (by decide) rfl rfl ?_
  intro wrr3 Nr3 hFr3
  refine JH.pure rfl (yl_move rfl) rfl ?_
  refine JH.pure rfl (yl_fieldAt (a := some _) Go.Proofs.Try.underlying42 rfl i2 i2n rfl rfl) rfl ?_
  refine JH.read rfl (yl_load1 Go.Proofs.Try.underlying2 rfl rfl (fun w hw => hFr3.box 0 rfl rfl hw) rfl) rfl ?_
  refine JH.pure rfl (yl_fieldAt (a := some _) Go.Proofs.Try.underlying42 rfl i2 i2n rfl rfl) rfl ?_
  refine JH.read rfl (yl_load1 Go.Proofs.Try.underlying2 rfl rfl (fun w hw => hFr3.box 0 rfl rfl hw) rfl) rfl ?_
  refine JH.pure rfl (yl_sub rfl rfl) rfl ?_
  refine JH.pure rfl (yl_quo rfl rfl (by decide)) rfl ?_
  obtain ⟨x4, hx4, hres⟩ := bind_some hres
  refine JH.must rfl (ef_call (T := T203 x4) Go.Proofs.Try.func203 rfl (by kernel_rfl) rfl (fun w hC => c203 (RdAt.of0 (hFr3.arg g_0 hC.1)) (hFr3.arg g_0_2 hC.1) rfl k_0_2 hx4)) rfl rfl ?_
  rintro _ _ ⟨_, ⟨rfl, rfl⟩, rfl⟩
  refine JH.pure rfl (yl_add rfl rfl) rfl ?_
  refine JH.pure rfl (yl_assign rfl) rfl ?_
  refine JH.nil ?_
  refine JE.weak (env' := [(4, .int .i64 (w64 (x4 + (w64 ((w64 (q1.X - 1)).tdiv 2)))))]) (es' := []) [] ?_ ⟨rfl, trivial⟩ (by decide) rfl
  refine JE.code ?_
  refine JX.ret ?_
  obtain rfl := Option.some.inj hres
  refine JE.ret (rs := [.tmp 4]) (vs := [.int .i64 (w64 (x4 + (w64 ((w64 (q1.X - 1)).tdiv 2))))]) rfl ⟨rfl, trivial⟩ ?_
  exact fun w' hb hs => ⟨_, _, ⟨rfl, rfl⟩, rfl, hb, hs.sel [] _ (by decide) rfl⟩

/- spec.l02Edge -/
def sh188 (q0 : SPanel) (q1 : SPoint) : Option (Bool) := some ((((q1.X == 0) || (q1.Y == 0)) || (q1.X == (w64 (2 * q0.W)))) || (q1.Y == (w64 (2 * q0.H))))
def T188 (r : Bool) (v : Value) (rs : List Own) : Prop := v = rets [.bool r] ∧ rs = []
set_option maxRecDepth 100000 in
theorem c188 {w : World} {q0 : SPanel} {a_0 : Option Addr} {n_0 : Nat} {a_0_2 : Option Addr} {n_0_2 c_0_2 : Nat} (g_0 : RdAt w a_0 n_0 [.int .i64 q0.W, .int .i64 q0.H, .slice a_0_2 n_0_2 c_0_2]) (g_0_2 : Rd w a_0_2 (eI64.fl q0.Breaks)) (l_0_2 : q0.Breaks.length = n_0_2) (k_0_2 : n_0_2 ≤ c_0_2) {q1 : SPoint} {r : Bool} (hres : sh188 q0 q1 = some r) : Calls Go.Proofs.Try.prog 188 [ptrAt a_0 n_0, .agg #[.int .i64 q1.X, .int .i64 q1.Y]].toArray w (Ret w (T188 r)) := by
  subst l_0_2
  obtain ⟨b_0, e_0, g_0⟩ := g_0.norm0
  rw [e_0]
  unfold sh188 at hres
  refine calls_of (n := 33) (M := []) (es := []) Go.Proofs.Try.func188 rfl rfl rfl (Sep.nil _ _ _) ?_
  refine JX.seq ?_
  refine JX.region ?_
  refine JL.eff (ef_box rfl rfl) rfl ?_
  rintro _ _ ⟨g1, rfl, rfl⟩
  refine JL.val (yl_assign rfl) rfl ?_
  refine JL.nil ?_
  refine JE.code ?_
  refine JX.seq ?_
  refine JX.drawH [(0, .pure), (1, .read), (2, .pure), (3, .pure), (4, .pure), (5, .read), (6, .pure), (7, .pure), (8, .pure), (9, .pure), (10, .read), (11, .pure), (12, .pure), (13, .pure), (14, .read), (15, .pure), (16, .pure), (17, .pure), (18, .pure), (19, .pure), (20, .read), (21, .pure), (22, .pure), (23, .pure), (24, .read), (25, .pure), (26, .pure), (27, .pure), (28, .pure)] [] [] [0] [] [boxO 42 g1 [.int .i64 q1.X, .int .i64 q1.Y]] mixedP (by kernel_rfl) (by kernel_rfl) (by decide) rfl rfl ?_
  intro wrr3 Nr3 hFr3
  refine JH.pure rfl (yl_fieldAt (a := some _) Go.Proofs.Try.underlying42 rfl i2 i2n rfl rfl) rfl ?_
  refine JH.read rfl (yl_load1 Go.Proofs.Try.underlying2 rfl rfl (fun w hw => hFr3.box 0 rfl rfl hw) rfl) rfl ?_
  refine JH.pure rfl (yl_eql rfl rfl) rfl ?_
  refine JH.pure rfl (yl_move rfl) rfl ?_
  refine JH.cut (K := fun J => J [(0, ptrAt b_0 0), (3, ptrAt (some ⟨g1, 0, none⟩) 0), (12, .bool ((q1.X == 0) || (q1.Y == 0)))] []) 4 ?_ ?_
  · refine JH.pure rfl (yl_move rfl) rfl ?_
    refine JH.cut (K := fun J => J [(0, ptrAt b_0 0), (3, ptrAt (some ⟨g1, 0, none⟩) 0), (22, .bool (((q1.X == 0) || (q1.Y == 0)) || (q1.X == (w64 (2 * q0.W)))))] []) 9 ?_ ?_
    · refine JH.pure rfl (yl_move rfl) rfl ?_
      refine JH.cut (K := fun J => J [(32, .bool ((((q1.X == 0) || (q1.Y == 0)) || (q1.X == (w64 (2 * q0.W)))) || (q1.Y == (w64 (2 * q0.H)))))] []) 9 ?_ ?_
      · refine JH.pure rfl (yl_assign rfl) rfl ?_
        refine JH.nil ?_
        refine JE.weak (env' := [(4, .bool ((((q1.X == 0) || (q1.Y == 0)) || (q1.X == (w64 (2 * q0.W)))) || (q1.Y == (w64 (2 * q0.H)))))]) (es' := []) [] ?_ ⟨rfl, trivial⟩ (by decide) rfl
        refine JE.code ?_
        refine JX.ret ?_
        obtain rfl := Option.some.inj hres
        refine JE.ret (rs := [.tmp 4]) (vs := [.bool ((((q1.X == 0) || (q1.Y == 0)) || (q1.X == (w64 (2 * q0.W)))) || (q1.Y == (w64 (2 * q0.H))))]) rfl ⟨rfl, trivial⟩ ?_
        exact fun w' hb hs => ⟨_, _, ⟨rfl, rfl⟩, rfl, hb, hs.sel [] _ (by decide) rfl⟩
      · intro K
        rcases Bool.eq_false_or_eq_true (((q1.X == 0) || (q1.Y == 0)) || (q1.X == (w64 (2 * q0.W)))) with hb | hb
        · refine JH.set (d := 23) (v := .bool true) (congrArg (fun b => some (Value.bool b)) hb) ?_
          refine JH.gskip rfl rfl rfl rfl rfl rfl ?_
          refine JH.gskip rfl rfl rfl rfl rfl rfl ?_
          refine JH.gskip rfl rfl rfl rfl rfl rfl ?_
          refine JH.gskip rfl rfl rfl rfl rfl rfl ?_
          refine JH.gskip rfl rfl rfl rfl rfl rfl ?_
          refine JH.gskip rfl rfl rfl rfl rfl rfl ?_
          refine JH.gskip rfl rfl rfl rfl rfl rfl ?_
          refine JH.gskip rfl rfl rfl rfl rfl rfl ?_
          refine JH.pure rfl (yl_pick_true rfl rfl) rfl ?_
          exact JH.weak [] K ⟨(by rw [hb]; rfl), trivial⟩ (by decide) rfl
        · refine JH.set (d := 23) (v := .bool false) (congrArg (fun b => some (Value.bool b)) hb) ?_
          refine JH.gpure rfl rfl rfl (yl_fieldAt (a := some _) Go.Proofs.Try.underlying42 rfl i2 i2n rfl rfl) rfl ?_
          refine JH.gread rfl rfl rfl (yl_load1 Go.Proofs.Try.underlying2 rfl rfl (fun w hw => hFr3.box 0 rfl rfl hw) rfl) rfl ?_
          refine JH.gpure rfl rfl rfl (yl_move rfl) rfl ?_
          refine JH.gpure rfl rfl rfl (yl_nilCheckAt rfl (Rd.some g_0 (j := 0) rfl)) rfl ?_
          refine JH.gpure rfl rfl rfl (yl_fieldAt Go.Proofs.Try.underlying26 rfl i2 i2n rfl (Rd.some g_0 (j := 0) rfl)) rfl ?_
          refine JH.gread rfl rfl rfl (yl_load1 Go.Proofs.Try.underlying2 rfl rfl (fun w hw => hFr3.arg g_0 hw) rfl) rfl ?_
          refine JH.gpure rfl rfl rfl (yl_mul rfl rfl) rfl ?_
          refine JH.gpure rfl rfl rfl (yl_eql rfl rfl) rfl ?_
          refine JH.pure rfl (yl_pick_false rfl rfl) rfl ?_
          exact JH.weak [] K ⟨(by rw [hb]; rfl), trivial⟩ (by decide) rfl
    · intro K
      rcases Bool.eq_false_or_eq_true ((q1.X == 0) || (q1.Y == 0)) with hb | hb
      · refine JH.set (d := 13) (v := .bool true) (congrArg (fun b => some (Value.bool b)) hb) ?_
        refine JH.gskip rfl rfl rfl rfl rfl rfl ?_
        refine JH.gskip rfl rfl rfl rfl rfl rfl ?_
        refine JH.gskip rfl rfl rfl rfl rfl rfl ?_
        refine JH.gskip rfl rfl rfl rfl rfl rfl ?_
        refine JH.gskip rfl rfl rfl rfl rfl rfl ?_
        refine JH.gskip rfl rfl rfl rfl rfl rfl ?_
        refine JH.gskip rfl rfl rfl rfl rfl rfl ?_
        refine JH.gskip rfl rfl rfl rfl rfl rfl ?_
        refine JH.pure rfl (yl_pick_true rfl rfl) rfl ?_
        exact JH.weak [] K ⟨rfl, rfl, (by rw [hb]; rfl), trivial⟩ (by decide) rfl
      · refine JH.set (d := 13) (v := .bool false) (congrArg (fun b => some (Value.bool b)) hb) ?_
        refine JH.gpure rfl rfl rfl (yl_fieldAt (a := some _) Go.Proofs.Try.underlying42 rfl i2 i2n rfl rfl) rfl ?_
        refine JH.gread rfl rfl rfl (yl_load1 Go.Proofs.Try.underlying2 rfl rfl (fun w hw => hFr3.box 0 rfl rfl hw) rfl) rfl ?_
        refine JH.gpure rfl rfl rfl (yl_move rfl) rfl ?_
        refine JH.gpure rfl rfl rfl (yl_nilCheckAt rfl (Rd.some g_0 (j := 0) rfl)) rfl ?_
        refine JH.gpure rfl rfl rfl (yl_fieldAt Go.Proofs.Try.underlying26 rfl i2 i2n rfl (Rd.some g_0 (j := 0) rfl)) rfl ?_
        refine JH.gread rfl rfl rfl (yl_load1 Go.Proofs.Try.underlying2 rfl rfl (fun w hw => hFr3.arg g_0 hw) rfl) rfl ?_
        refine JH.gpure rfl rfl rfl (yl_mul rfl rfl) rfl ?_
        refine JH.gpure rfl rfl rfl (yl_eql rfl rfl) rfl ?_
        refine JH.pure rfl (yl_pick_false rfl rfl) rfl ?_
        exact JH.weak [] K ⟨rfl, rfl, (by rw [hb]; rfl), trivial⟩ (by decide) rfl
  · intro K
    rcases Bool.eq_false_or_eq_true (q1.X == 0) with hb | hb
    · refine JH.set (d := 8) (v := .bool true) (congrArg (fun b => some (Value.bool b)) hb) ?_
      refine JH.gskip rfl rfl rfl rfl rfl rfl ?_
      refine JH.gskip rfl rfl rfl rfl rfl rfl ?_
      refine JH.gskip rfl rfl rfl rfl rfl rfl ?_
      refine JH.pure rfl (yl_pick_true rfl rfl) rfl ?_
      exact JH.weak [] K ⟨rfl, rfl, (by rw [hb]; rfl), trivial⟩ (by decide) rfl
    · refine JH.set (d := 8) (v := .bool false) (congrArg (fun b => some (Value.bool b)) hb) ?_
      refine JH.gpure rfl rfl rfl (yl_fieldAt (a := some _) Go.Proofs.Try.underlying42 rfl i2 i2n rfl rfl) rfl ?_
      refine JH.gread rfl rfl rfl (yl_load1 Go.Proofs.Try.underlying2 rfl rfl (fun w hw => hFr3.box 0 rfl rfl hw) rfl) rfl ?_
      refine JH.gpure rfl rfl rfl (yl_eql rfl rfl) rfl ?_
      refine JH.pure rfl (yl_pick_false rfl rfl) rfl ?_
      exact JH.weak [] K ⟨rfl, rfl, (by rw [hb]; rfl), trivial⟩ (by decide) rfl

/- spec.l03Next -/
def sh216 (q0 : SWalker) : Option (SPoint) := some (SPoint.mk (w64 (q0.At.X + q0.DX)) (w64 (q0.At.Y + q0.DY)))
def T216 (r : SPoint) (v : Value) (rs : List Own) : Prop := v = rets [.agg #[.int .i64 r.X, .int .i64 r.Y]] ∧ rs = []
set_option maxRecDepth 100000 in
theorem c216 {w : World} {q0 : SWalker} {r : SPoint} (hres : sh216 q0 = some r) : Calls Go.Proofs.Try.prog 216 [.agg #[.int .i64 q0.At.X, .int .i64 q0.At.Y, .int .i64 q0.DX, .int .i64 q0.DY]].toArray w (Ret w (T216 r)) := by
  unfold sh216 at hres
  refine calls_of (n := 16) (M := []) (es := []) Go.Proofs.Try.func216 rfl rfl rfl (Sep.nil _ _ _) ?_
  refine JX.seq ?_
  refine JX.region ?_
  refine JL.eff (ef_box rfl rfl) rfl ?_
  rintro _ _ ⟨g1, rfl, rfl⟩
  refine JL.eff (ef_alloc i42 i42z rfl) rfl ?_
  rintro _ _ ⟨g3, rfl, rfl⟩
  refine JL.nil ?_
  refine JE.code ?_
  refine JX.seq ?_
  refine JX.region ?_
  refine JL.val (yl_fieldAt (a := some _) Go.Proofs.Try.underlying104 rfl i42 i42n rfl rfl) rfl ?_
  refine JL.val (yl_fieldAt (a := some _) Go.Proofs.Try.underlying42 rfl i2 i2n rfl rfl) rfl ?_
  refine JL.val (yl_load1 Go.Proofs.Try.underlying2 rfl rfl (fun w hC => rd_box hC 0 rfl) rfl) rfl ?_
  refine JL.val (yl_fieldAt (a := some _) Go.Proofs.Try.underlying104 rfl i2 i2n rfl rfl) rfl ?_
  refine JL.val (yl_load1 Go.Proofs.Try.underlying2 rfl rfl (fun w hC => rd_box hC 0 rfl) rfl) rfl ?_
  refine JL.val (yl_add rfl rfl) rfl ?_
  refine JL.val (yl_fieldAt (a := some _) Go.Proofs.Try.underlying104 rfl i42 i42n rfl rfl) rfl ?_
  refine JL.val (yl_fieldAt (a := some _) Go.Proofs.Try.underlying42 rfl i2 i2n rfl rfl) rfl ?_
  refine JL.val (yl_load1 Go.Proofs.Try.underlying2 rfl rfl (fun w hC => rd_box hC 0 rfl) rfl) rfl ?_
  refine JL.val (yl_fieldAt (a := some _) Go.Proofs.Try.underlying104 rfl i2 i2n rfl rfl) rfl ?_
  refine JL.val (yl_load1 Go.Proofs.Try.underlying2 rfl rfl (fun w hC => rd_box hC 0 rfl) rfl) rfl ?_
  refine JL.val (yl_add rfl rfl) rfl ?_
  refine JL.val (yl_build rfl (fun w => bld42_0_1 (w64 (q0.At.X + q0.DX)) (w64 (q0.At.Y + q0.DY)) w)) rfl ?_
  refine JL.eff (ef_store_box (i := 1) (v := .agg #[.int .i64 (w64 (q0.At.X + q0.DX)), .int .i64 (w64 (q0.At.Y + q0.DY))]) i42 rfl rfl rfl (i42s).symm (Nat.le_of_ble_eq_true rfl) (by simp [Value.cells, Value.oneCell'])) rfl ?_
  rintro _ _ rfl
  refine JL.nil ?_
  refine JE.weak (env' := [(2, ptrAt (some ⟨g3, 0, none⟩) 0)]) (es' := [boxO 42 g3 [.int .i64 (w64 (q0.At.X + q0.DX)), .int .i64 (w64 (q0.At.Y + q0.DY))]]) [1] ?_ ⟨rfl, trivial⟩ (by decide) rfl
  refine JE.code ?_
  refine JX.ret ?_
  obtain rfl := Option.some.inj hres
  refine JE.ret (rs := [.cell 2 42]) (vs := [.agg #[.int .i64 (w64 (q0.At.X + q0.DX)), .int .i64 (w64 (q0.At.Y + q0.DY))]]) rfl ⟨rv_box 0 rfl rfl Go.Proofs.Try.underlying42 rfl i42 (i42s).symm, trivial⟩ ?_
  exact fun w' hb hs => ⟨_, _, ⟨rfl, rfl⟩, rfl, hb, hs.sel [] _ (by decide) rfl⟩

/- spec.l03Step -/
def sh213 (q0 : SPanel) (q1 : SWalker) : Option (SWalker) := Option.bind (sh216 q1) fun x5 => Option.bind (bif (x5.X == 0) || (x5.X == (w64 (2 * q0.W))) then (some (SWalker.mk x5 (w64 (0 - q1.DX)) q1.DY)) else (some (SWalker.mk x5 q1.DX q1.DY))) fun j11 => (Option.bind (bif (x5.Y == 0) || (x5.Y == (w64 (2 * q0.H))) then (some (SWalker.mk j11.At j11.DX (w64 (0 - j11.DY)))) else (some j11)) fun j13 => (Option.bind (sh188 q0 x5) fun x14 => Option.bind (bif !x14 then (Option.bind (sh141 q0 x5) fun x17 => Option.bind (getI q0.Breaks x17) fun x18 => Option.bind (bif x18 == 1 then (some (SWalker.mk j13.At (w64 (0 - j13.DX)) j13.DY)) else (Option.bind (bif x18 == 2 then (some (SWalker.mk j13.At j13.DX (w64 (0 - j13.DY)))) else (some j13)) fun j20 => (some j20))) fun j19 => (some j19)) else (some j13)) fun j15 => (some j15)))
def T213 (r : SWalker) (v : Value) (rs : List Own) : Prop := v = rets [.agg #[.int .i64 r.At.X, .int .i64 r.At.Y, .int .i64 r.DX, .int .i64 r.DY]] ∧ rs = []
set_option maxRecDepth 100000 in
set_option maxHeartbeats 1000000 in
theorem c213 {w : World} {q0 : SPanel} {a_0 : Option Addr} {n_0 : Nat} {a_0_2 : Option Addr} {n_0_2 c_0_2 : Nat} (g_0 : RdAt w a_0 n_0 [.int .i64 q0.W, .int .i64 q0.H, .slice a_0_2 n_0_2 c_0_2]) (g_0_2 : Rd w a_0_2 (eI64.fl q0.Breaks)) (l_0_2 : q0.Breaks.length = n_0_2) (k_0_2 : n_0_2 ≤ c_0_2) {q1 : SWalker} {r : SWalker} (hres : sh213 q0 q1 = some r) : Calls Go.Proofs.Try.prog 213 [ptrAt a_0 n_0, .agg #[.int .i64 q1.At.X, .int .i64 q1.At.Y, .int .i64 q1.DX, .int .i64 q1.DY]].toArray w (Ret w (T213 r)) := by
  subst l_0_2
  obtain ⟨b_0, e_0, g_0⟩ := g_0.norm0
  rw [e_0]
  unfold sh213 at hres
  refine calls_of (n := 75) (M := []) (es := []) Go.Proofs.Try.func213 rfl rfl rfl (Sep.nil _ _ _) ?_
  refine JX.seq ?_
  refine JX.region ?_
  refine JL.eff (ef_box rfl rfl) rfl ?_
  rintro _ _ ⟨g1, rfl, rfl⟩
  refine JL.eff (ef_alloc i104 i104z rfl) rfl ?_
  rintro _ _ ⟨g3, rfl, rfl⟩
  refine JL.nil ?_
  refine JE.code ?_
  refine JX.seq ?_
  refine JX.region ?_
  refine JL.val (yl_loadn Go.Proofs.Try.underlying104 rfl i104 rfl (fun w hC => rd_box hC 0 rfl) rfl (i104s).symm i104p) rfl ?_
  obtain ⟨x5, hx5, hres⟩ := bind_some hres
  refine JL.eff (ef_call (vs := [.agg #[.int .i64 q1.At.X, .int .i64 q1.At.Y, .int .i64 q1.DX, .int .i64 q1.DY]]) (T := T216 x5) Go.Proofs.Try.func216 rfl (by kernel_rfl) rfl (fun w hC => c216 (q0 := q1) hx5)) rfl ?_
  rintro _ _ ⟨_, ⟨rfl, rfl⟩, rfl⟩
  refine JL.eff (ef_alloc i42 i42z rfl) rfl ?_
  rintro _ _ ⟨g6, rfl, rfl⟩
  refine JL.eff (ef_store_box (i := 2) (v := .agg #[.int .i64 x5.X, .int .i64 x5.Y]) i42 rfl rfl rfl (i42s).symm (Nat.le_of_ble_eq_true rfl) (by simp [Value.cells, Value.oneCell'])) rfl ?_
  rintro _ _ rfl
  refine JL.nil ?_
  refine JE.weak (env' := [(0, ptrAt b_0 0), (3, ptrAt (some ⟨g1, 0, none⟩) 0), (4, ptrAt (some ⟨g3, 0, none⟩) 0), (5, ptrAt (some ⟨g6, 0, none⟩) 0)]) (es' := [boxO 104 g1 [.int .i64 q1.At.X, .int .i64 q1.At.Y, .int .i64 q1.DX, .int .i64 q1.DY], boxO 104 g3 [.int .i64 0, .int .i64 0, .int .i64 0, .int .i64 0], boxO 42 g6 [.int .i64 x5.X, .int .i64 x5.Y]]) [0, 1, 2] ?_ ⟨rfl, rfl, rfl, rfl, trivial⟩ (by decide) rfl
  refine JE.code ?_
  refine JX.seq ?_
  refine JX.region ?_
  refine JL.val (yl_loadn Go.Proofs.Try.underlying42 rfl i42 rfl (fun w hC => rd_box hC 2 rfl) rfl (i42s).symm i42p) rfl ?_
  refine JL.val (yl_fieldAt (a := some _) Go.Proofs.Try.underlying104 rfl i2 i2n rfl rfl) rfl ?_
  refine JL.val (yl_load1 Go.Proofs.Try.underlying2 rfl rfl (fun w hC => rd_box hC 0 rfl) rfl) rfl ?_
  refine JL.val (yl_fieldAt (a := some _) Go.Proofs.Try.underlying104 rfl i2 i2n rfl rfl) rfl ?_
  refine JL.val (yl_load1 Go.Proofs.Try.underlying2 rfl rfl (fun w hC => rd_box hC 0 rfl) rfl) rfl ?_
  refine JL.val (yl_build rfl (fun w => bld104_0_1_2 x5.X x5.Y q1.DX q1.DY w)) rfl ?_
  refine JL.eff (ef_alloc i104 i104z rfl) rfl ?_
  rintro _ _ ⟨g8, rfl, rfl⟩
  refine JL.eff (ef_store_box (i := 3) (v := .agg #[.int .i64 x5.X, .int .i64 x5.Y, .int .i64 q1.DX, .int .i64 q1.DY]) i104 rfl rfl rfl (i104s).symm (Nat.le_of_ble_eq_true rfl) (by simp [Value.cells, Value.oneCell'])) rfl ?_
  rintro _ _ rfl
  refine JL.nil ?_
  refine JE.weak (env' := [(0, ptrAt b_0 0), (4, ptrAt (some ⟨g3, 0, none⟩) 0), (5, ptrAt (some ⟨g6, 0, none⟩) 0), (6, ptrAt (some ⟨g8, 0, none⟩) 0)]) (es' := [boxO 104 g3 [.int .i64 0, .int .i64 0, .int .i64 0, .int .i64 0], boxO 42 g6 [.int .i64 x5.X, .int .i64 x5.Y], boxO 104 g8 [.int .i64 x5.X, .int .i64 x5.Y, .int .i64 q1.DX, .int .i64 q1.DY]]) [1, 2, 3] ?_ ⟨rfl, rfl, rfl, rfl, trivial⟩ (by decide) rfl
  refine JE.code ?_
  refine JX.seq ?_
  refine JX.seq ?_
  refine JX.drawH [(0, .pure), (1, .read), (2, .pure), (3, .pure), (4, .pure), (5, .read), (6, .pure), (7, .pure), (8, .pure), (9, .read), (10, .pure), (11, .pure), (12, .pure)] [] [] [0, 1, 2] [] [boxO 104 g3 [.int .i64 0, .int .i64 0, .int .i64 0, .int .i64 0], boxO 42 g6 [.int .i64 x5.X, .int .i64 x5.Y], boxO 104 g8 [.int .i64 x5.X, .int .i64 x5.Y, .int .i64 q1.DX, .int .i64 q1.DY]] mixedP (by kernel_rfl) (by kernel_rfl) (by decide) rfl rfl ?_
  intro wrr10 Nr10 hFr10
  refine JH.pure rfl (yl_fieldAt (a := some _) Go.Proofs.Try.underlying42 rfl i2 i2n rfl rfl) rfl ?_
  refine JH.read rfl (yl_load1 Go.Proofs.Try.underlying2 rfl rfl (fun w hw => hFr10.box 1 rfl rfl hw) rfl) rfl ?_
  refine JH.pure rfl (yl_eql rfl rfl) rfl ?_
  refine JH.pure rfl (yl_move rfl) rfl ?_
  refine JH.cut (K := fun J => J [(0, ptrAt b_0 0), (4, ptrAt (some ⟨g3, 0, none⟩) 0), (5, ptrAt (some ⟨g6, 0, none⟩) 0), (6, ptrAt (some ⟨g8, 0, none⟩) 0), (27, .bool ((x5.X == 0) || (x5.X == (w64 (2 * q0.W)))))] []) 9 ?_ ?_
  · refine JH.nil ?_
    refine JE.weak (env' := [(0, ptrAt b_0 0), (4, ptrAt (some ⟨g3, 0, none⟩) 0), (5, ptrAt (some ⟨g6, 0, none⟩) 0), (6, ptrAt (some ⟨g8, 0, none⟩) 0), (27, .bool ((x5.X == 0) || (x5.X == (w64 (2 * q0.W)))))]) (es' := [boxO 104 g3 [.int .i64 0, .int .i64 0, .int .i64 0, .int .i64 0], boxO 42 g6 [.int .i64 x5.X, .int .i64 x5.Y], boxO 104 g8 [.int .i64 x5.X, .int .i64 x5.Y, .int .i64 q1.DX, .int .i64 q1.DY]]) [0, 1, 2] ?_ ⟨rfl, rfl, rfl, rfl, rfl, trivial⟩ (by decide) rfl
    refine JE.code ?_
    obtain ⟨j11, hj11, hresj11⟩ := bind_some hres
    refine JX.cut (K := fun J => J [(0, ptrAt b_0 0), (4, ptrAt (some ⟨g3, 0, none⟩) 0), (5, ptrAt (some ⟨g6, 0, none⟩) 0), (6, ptrAt (some ⟨g8, 0, none⟩) 0)] [boxO 104 g3 [.int .i64 0, .int .i64 0, .int .i64 0, .int .i64 0], boxO 42 g6 [.int .i64 x5.X, .int .i64 x5.Y], boxO 104 g8 [.int .i64 j11.At.X, .int .i64 j11.At.Y, .int .i64 j11.DX, .int .i64 j11.DY]]) ?_ ?_
    · have hres := hresj11
      refine JE.code ?_
      refine JX.seq ?_
      refine JX.seq ?_
      refine JX.drawH [(0, .pure), (1, .read), (2, .pure), (3, .pure), (4, .pure), (5, .read), (6, .pure), (7, .pure), (8, .pure), (9, .read), (10, .pure), (11, .pure), (12, .pure)] [] [] [0, 1, 2] [] [boxO 104 g3 [.int .i64 0, .int .i64 0, .int .i64 0, .int .i64 0], boxO 42 g6 [.int .i64 x5.X, .int .i64 x5.Y], boxO 104 g8 [.int .i64 j11.At.X, .int .i64 j11.At.Y, .int .i64 j11.DX, .int .i64 j11.DY]] mixedP (by kernel_rfl) (by kernel_rfl) (by decide) rfl rfl ?_
      intro wrr12 Nr12 hFr12
      refine JH.pure rfl (yl_fieldAt (a := some _) Go.Proofs.Try.underlying42 rfl i2 i2n rfl rfl) rfl ?_
      refine JH.read rfl (yl_load1 Go.Proofs.Try.underlying2 rfl rfl (fun w hw => hFr12.box 1 rfl rfl hw) rfl) rfl ?_
      refine JH.pure rfl (yl_eql rfl rfl) rfl ?_
      refine JH.pure rfl (yl_move rfl) rfl ?_
      refine JH.cut (K := fun J => J [(0, ptrAt b_0 0), (4, ptrAt (some ⟨g3, 0, none⟩) 0), (5, ptrAt (some ⟨g6, 0, none⟩) 0), (6, ptrAt (some ⟨g8, 0, none⟩) 0), (44, .bool ((x5.Y == 0) || (x5.Y == (w64 (2 * q0.H)))))] []) 9 ?_ ?_
      · refine JH.nil ?_
        refine JE.weak (env' := [(0, ptrAt b_0 0), (4, ptrAt (some ⟨g3, 0, none⟩) 0), (5, ptrAt (some ⟨g6, 0, none⟩) 0), (6, ptrAt (some ⟨g8, 0, none⟩) 0), (44, .bool ((x5.Y == 0) || (x5.Y == (w64 (2 * q0.H)))))]) (es' := [boxO 104 g3 [.int .i64 0, .int .i64 0, .int .i64 0, .int .i64 0], boxO 42 g6 [.int .i64 x5.X, .int .i64 x5.Y], boxO 104 g8 [.int .i64 j11.At.X, .int .i64 j11.At.Y, .int .i64 j11.DX, .int .i64 j11.DY]]) [0, 1, 2] ?_ ⟨rfl, rfl, rfl, rfl, rfl, trivial⟩ (by decide) rfl
        refine JE.code ?_
        obtain ⟨j13, hj13, hresj13⟩ := bind_some hres
        refine JX.cut (K := fun J => J [(0, ptrAt b_0 0), (4, ptrAt (some ⟨g3, 0, none⟩) 0), (5, ptrAt (some ⟨g6, 0, none⟩) 0), (6, ptrAt (some ⟨g8, 0, none⟩) 0)] [boxO 104 g3 [.int .i64 0, .int .i64 0, .int .i64 0, .int .i64 0], boxO 42 g6 [.int .i64 x5.X, .int .i64 x5.Y], boxO 104 g8 [.int .i64 j13.At.X, .int .i64 j13.At.Y, .int .i64 j13.DX, .int .i64 j13.DY]]) ?_ ?_
        · have hres := hresj13
          refine JE.code ?_
          refine JX.seq ?_
          refine JX.seq ?_
          refine JX.region ?_
          refine JL.val (yl_move rfl) rfl ?_
          refine JL.val (yl_loadn Go.Proofs.Try.underlying42 rfl i42 rfl (fun w hC => rd_box hC 1 rfl) rfl (i42s).symm i42p) rfl ?_
          obtain ⟨x14, hx14, hres⟩ := bind_some hres
          refine JL.eff (ef_call (vs := [ptrAt b_0 0, .agg #[.int .i64 x5.X, .int .i64 x5.Y]]) (T := T188 x14) Go.Proofs.Try.func188 rfl (by kernel_rfl) rfl (fun w hC => c188 (q1 := x5) (RdAt.of0 (rd_arg g_0 hC)) (rd_arg g_0_2 hC) rfl k_0_2 hx14)) rfl ?_
          rintro _ _ ⟨_, ⟨rfl, rfl⟩, rfl⟩
          refine JL.val (yl_not rfl) rfl ?_
          refine JL.nil ?_
          refine JE.weak (env' := [(0, ptrAt b_0 0), (4, ptrAt (some ⟨g3, 0, none⟩) 0), (5, ptrAt (some ⟨g6, 0, none⟩) 0), (6, ptrAt (some ⟨g8, 0, none⟩) 0), (52, .bool !x14)]) (es' := [boxO 104 g3 [.int .i64 0, .int .i64 0, .int .i64 0, .int .i64 0], boxO 42 g6 [.int .i64 x5.X, .int .i64 x5.Y], boxO 104 g8 [.int .i64 j13.At.X, .int .i64 j13.At.Y, .int .i64 j13.DX, .int .i64 j13.DY]]) [0, 1, 2] ?_ ⟨rfl, rfl, rfl, rfl, rfl, trivial⟩ (by decide) rfl
          refine JE.code ?_
          obtain ⟨j15, hj15, hresj15⟩ := bind_some hres
          refine JX.cut (K := fun J => J [(4, ptrAt (some ⟨g3, 0, none⟩) 0), (6, ptrAt (some ⟨g8, 0, none⟩) 0)] [boxO 104 g3 [.int .i64 0, .int .i64 0, .int .i64 0, .int .i64 0], boxO 104 g8 [.int .i64 j15.At.X, .int .i64 j15.At.Y, .int .i64 j15.DX, .int .i64 j15.DY]]) ?_ ?_
          · have hres := hresj15
            refine JE.code ?_
            refine JX.seq ?_
            refine JX.region ?_
            refine JL.val (yl_loadn Go.Proofs.Try.underlying104 rfl i104 rfl (fun w hC => rd_box hC 1 rfl) rfl (i104s).symm i104p) rfl ?_
            refine JL.eff (ef_store_box (i := 0) (v := .agg #[.int .i64 j15.At.X, .int .i64 j15.At.Y, .int .i64 j15.DX, .int .i64 j15.DY]) i104 rfl rfl rfl (i104s).symm (Nat.le_of_ble_eq_true rfl) (by simp [Value.cells, Value.oneCell'])) rfl ?_
            rintro _ _ rfl
            refine JL.nil ?_
            refine JE.weak (env' := [(4, ptrAt (some ⟨g3, 0, none⟩) 0)]) (es' := [boxO 104 g3 [.int .i64 j15.At.X, .int .i64 j15.At.Y, .int .i64 j15.DX, .int .i64 j15.DY]]) [0] ?_ ⟨rfl, trivial⟩ (by decide) rfl
            refine JE.code ?_
            refine JX.ret ?_
            obtain rfl := Option.some.inj hres
            refine JE.ret (rs := [.cell 4 104]) (vs := [.agg #[.int .i64 j15.At.X, .int .i64 j15.At.Y, .int .i64 j15.DX, .int .i64 j15.DY]]) rfl ⟨rv_box 0 rfl rfl Go.Proofs.Try.underlying104 rfl i104 (i104s).symm, trivial⟩ ?_
            exact fun w' hb hs => ⟨_, _, ⟨rfl, rfl⟩, rfl, hb, hs.sel [] _ (by decide) rfl⟩
          · intro K
            rcases cond_some hj15 with ⟨hb, hres⟩ | ⟨hb, hres⟩
            · refine JX.condT rfl hb ?_
              refine JX.seq ?_
              refine JX.drawH [(0, .pure), (1, .pure), (2, .pure), (3, .read), (4, .pure), (5, .read), (6, .must), (7, .pure), (8, .read)] [] [] [0, 1, 2] [] [boxO 104 g3 [.int .i64 0, .int .i64 0, .int .i64 0, .int .i64 0], boxO 42 g6 [.int .i64 x5.X, .int .i64 x5.Y], boxO 104 g8 [.int .i64 j13.At.X, .int .i64 j13.At.Y, .int .i64 j13.DX, .int .i64 j13.DY]] mixedP (by kernel_rfl) (by kernel_rfl) (by decide) rfl rfl ?_
              intro wrr16 Nr16 hFr16
              refine JH.pure rfl (yl_move rfl) rfl ?_
              refine JH.pure rfl (yl_nilCheckAt rfl (Rd.some g_0 (j := 0) rfl)) rfl ?_
              refine JH.pure rfl (yl_fieldAt Go.Proofs.Try.underlying26 rfl i24 i24n rfl (Rd.some g_0 (j := 0) rfl)) rfl ?_
              refine JH.read rfl (yl_load1 Go.Proofs.Try.underlying24 rfl rfl (fun w hw => hFr16.arg g_0 hw) rfl) rfl ?_
              refine JH.pure rfl (yl_move rfl) rfl ?_
              refine JH.read rfl (yl_loadn Go.Proofs.Try.underlying42 rfl i42 rfl (fun w hw => hFr16.box 1 rfl rfl hw) rfl (i42s).symm i42p) rfl ?_
              obtain ⟨x17, hx17, hres⟩ := bind_some hres
              refine JH.must rfl (ef_call (vs := [ptrAt b_0 0, .agg #[.int .i64 x5.X, .int .i64 x5.Y]]) (T := T141 x17) Go.Proofs.Try.func141 rfl (by kernel_rfl) rfl (fun w hC => c141 (q1 := x5) (RdAt.of0 (hFr16.arg g_0 hC.1)) (hFr16.arg g_0_2 hC.1) rfl k_0_2 hx17)) rfl rfl ?_
              rintro _ _ ⟨_, ⟨rfl, rfl⟩, rfl⟩
              obtain ⟨x18, hx18, hres⟩ := bind_some hres
              refine JH.pure rfl (yl_idxQ Go.Proofs.Try.underlying24 i2 i2s rfl rfl hx18 rfl (rd_arg g_0_2 hFr16.cl) rfl) rfl ?_
              refine JH.read rfl (yl_loadT0 Go.Proofs.Try.underlying2 rfl rfl hx18 (fun w hw => hFr16.arg g_0_2 hw) rfl) rfl ?_
              refine JH.nil ?_
              refine JE.weak (env' := [(4, ptrAt (some ⟨g3, 0, none⟩) 0), (6, ptrAt (some ⟨g8, 0, none⟩) 0), (61, .int .i64 x18)]) (es' := [boxO 104 g3 [.int .i64 0, .int .i64 0, .int .i64 0, .int .i64 0], boxO 104 g8 [.int .i64 j13.At.X, .int .i64 j13.At.Y, .int .i64 j13.DX, .int .i64 j13.DY]]) [0, 2] ?_ ⟨rfl, rfl, rfl, trivial⟩ (by decide) rfl
              refine JE.code ?_
              refine JX.block ?_
              refine JX.seq ?_
              refine JX.region ?_
              refine JL.val (yl_eql rfl rfl) rfl ?_
              refine JL.val (yl_assign rfl) rfl ?_
              refine JL.nil ?_
              refine JE.code ?_
              obtain ⟨j19, hj19, hresj19⟩ := bind_some hres
              refine JX.cut (K := fun J => J [(4, ptrAt (some ⟨g3, 0, none⟩) 0), (6, ptrAt (some ⟨g8, 0, none⟩) 0)] [boxO 104 g3 [.int .i64 0, .int .i64 0, .int .i64 0, .int .i64 0], boxO 104 g8 [.int .i64 j19.At.X, .int .i64 j19.At.Y, .int .i64 j19.DX, .int .i64 j19.DY]]) ?_ ?_
              · have hres := hresj19
                have hj := Option.some.inj hres
                exact JE.weak [0, 1] (K) ⟨(by subst hj; rfl), (by subst hj; rfl), trivial⟩ (by decide) (by subst hj; rfl)
              · intro K
                rcases cond_some hj19 with ⟨hb, hres⟩ | ⟨hb, hres⟩
                · refine JX.condT rfl hb ?_
                  refine JX.region ?_
                  refine JL.val (yl_fieldAt (a := some _) Go.Proofs.Try.underlying104 rfl i2 i2n rfl rfl) rfl ?_
                  refine JL.val (yl_load1 Go.Proofs.Try.underlying2 rfl rfl (fun w hC => rd_box hC 1 rfl) rfl) rfl ?_
                  refine JL.val (yl_neg rfl) rfl ?_
                  refine JL.val (yl_fieldAt (a := some _) Go.Proofs.Try.underlying104 rfl i2 i2n rfl rfl) rfl ?_
                  refine JL.eff (ef_store_box (i := 1) (v := .int .i64 (w64 (0 - j13.DX))) i2 rfl rfl rfl (i2s).symm (Nat.le_of_ble_eq_true rfl) (by simp [Value.cells, Value.oneCell'])) rfl ?_
                  rintro _ _ rfl
                  refine JL.nil ?_
                  refine JE.weak (env' := [(4, ptrAt (some ⟨g3, 0, none⟩) 0), (6, ptrAt (some ⟨g8, 0, none⟩) 0)]) (es' := [boxO 104 g3 [.int .i64 0, .int .i64 0, .int .i64 0, .int .i64 0], boxO 104 g8 [.int .i64 j13.At.X, .int .i64 j13.At.Y, .int .i64 (w64 (0 - j13.DX)), .int .i64 j13.DY]]) [0, 1] ?_ ⟨rfl, rfl, trivial⟩ (by decide) rfl
                  have hj := Option.some.inj hres
                  exact JE.weak [0, 1] (K) ⟨(by subst hj; rfl), (by subst hj; rfl), trivial⟩ (by decide) (by subst hj; rfl)
                · refine JX.condF rfl hb ?_
                  refine JX.seq ?_
                  refine JX.region ?_
                  refine JL.val (yl_eql rfl rfl) rfl ?_
                  refine JL.val (yl_assign rfl) rfl ?_
                  refine JL.nil ?_
                  refine JE.code ?_
                  obtain ⟨j20, hj20, hresj20⟩ := bind_some hres
                  refine JX.cut (K := fun J => J [(4, ptrAt (some ⟨g3, 0, none⟩) 0), (6, ptrAt (some ⟨g8, 0, none⟩) 0)] [boxO 104 g3 [.int .i64 0, .int .i64 0, .int .i64 0, .int .i64 0], boxO 104 g8 [.int .i64 j20.At.X, .int .i64 j20.At.Y, .int .i64 j20.DX, .int .i64 j20.DY]]) ?_ ?_
                  · have hres := hresj20
                    have hj := Option.some.inj hres
                    exact JE.weak [0, 1] (K) ⟨(by subst hj; rfl), (by subst hj; rfl), trivial⟩ (by decide) (by subst hj; rfl)
                  · intro K
                    rcases cond_some hj20 with ⟨hb, hres⟩ | ⟨hb, hres⟩
                    · refine JX.condT rfl hb ?_
                      refine JX.region ?_
                      refine JL.val (yl_fieldAt (a := some _) Go.Proofs.Try.underlying104 rfl i2 i2n rfl rfl) rfl ?_
                      refine JL.val (yl_load1 Go.Proofs.Try.underlying2 rfl rfl (fun w hC => rd_box hC 1 rfl) rfl) rfl ?_
                      refine JL.val (yl_neg rfl) rfl ?_
                      refine JL.val (yl_fieldAt (a := some _) Go.Proofs.Try.underlying104 rfl i2 i2n rfl rfl) rfl ?_
                      refine JL.eff (ef_store_box (i := 1) (v := .int .i64 (w64 (0 - j13.DY))) i2 rfl rfl rfl (i2s).symm (Nat.le_of_ble_eq_true rfl) (by simp [Value.cells, Value.oneCell'])) rfl ?_
                      rintro _ _ rfl
                      refine JL.nil ?_
                      refine JE.weak (env' := [(4, ptrAt (some ⟨g3, 0, none⟩) 0), (6, ptrAt (some ⟨g8, 0, none⟩) 0)]) (es' := [boxO 104 g3 [.int .i64 0, .int .i64 0, .int .i64 0, .int .i64 0], boxO 104 g8 [.int .i64 j13.At.X, .int .i64 j13.At.Y, .int .i64 j13.DX, .int .i64 (w64 (0 - j13.DY))]]) [0, 1] ?_ ⟨rfl, rfl, trivial⟩ (by decide) rfl
                      have hj := Option.some.inj hres
                      exact JE.weak [0, 1] (K) ⟨(by subst hj; rfl), (by subst hj; rfl), trivial⟩ (by decide) (by subst hj; rfl)
                    · refine JX.condF rfl hb ?_
                      refine JX.skip ?_
                      have hj := Option.some.inj hres
                      exact JE.weak [0, 1] (K) ⟨(by subst hj; rfl), (by subst hj; rfl), trivial⟩ (by decide) (by subst hj; rfl)
            · refine JX.condF rfl hb ?_
              refine JX.skip ?_
              have hj := Option.some.inj hres
              exact JE.weak [0, 2] (K) ⟨(by subst hj; rfl), (by subst hj; rfl), trivial⟩ (by decide) (by subst hj; rfl)
        · intro K
          rcases cond_some hj13 with ⟨hb, hres⟩ | ⟨hb, hres⟩
          · refine JX.condT rfl hb ?_
            refine JX.region ?_
            refine JL.val (yl_fieldAt (a := some _) Go.Proofs.Try.underlying104 rfl i2 i2n rfl rfl) rfl ?_
            refine JL.val (yl_load1 Go.Proofs.Try.underlying2 rfl rfl (fun w hC => rd_box hC 2 rfl) rfl) rfl ?_
            refine JL.val (yl_neg rfl) rfl ?_
            refine JL.val (yl_fieldAt (a := some _) Go.Proofs.Try.underlying104 rfl i2 i2n rfl rfl) rfl ?_
            refine JL.eff (ef_store_box (i := 2) (v := .int .i64 (w64 (0 - j11.DY))) i2 rfl rfl rfl (i2s).symm (Nat.le_of_ble_eq_true rfl) (by simp [Value.cells, Value.oneCell'])) rfl ?_
            rintro _ _ rfl
            refine JL.nil ?_
            refine JE.weak (env' := [(0, ptrAt b_0 0), (4, ptrAt (some ⟨g3, 0, none⟩) 0), (5, ptrAt (some ⟨g6, 0, none⟩) 0), (6, ptrAt (some ⟨g8, 0, none⟩) 0)]) (es' := [boxO 104 g3 [.int .i64 0, .int .i64 0, .int .i64 0, .int .i64 0], boxO 42 g6 [.int .i64 x5.X, .int .i64 x5.Y], boxO 104 g8 [.int .i64 j11.At.X, .int .i64 j11.At.Y, .int .i64 j11.DX, .int .i64 (w64 (0 - j11.DY))]]) [0, 1, 2] ?_ ⟨rfl, rfl, rfl, rfl, trivial⟩ (by decide) rfl
            have hj := Option.some.inj hres
            exact JE.weak [0, 1, 2] (K) ⟨(by subst hj; rfl), (by subst hj; rfl), (by subst hj; rfl), (by subst hj; rfl), trivial⟩ (by decide) (by subst hj; rfl)
          · refine JX.condF rfl hb ?_
            refine JX.skip ?_
            have hj := Option.some.inj hres
            exact JE.weak [0, 1, 2] (K) ⟨(by subst hj; rfl), (by subst hj; rfl), (by subst hj; rfl), (by subst hj; rfl), trivial⟩ (by decide) (by subst hj; rfl)
      · intro K
        rcases Bool.eq_false_or_eq_true (x5.Y == 0) with hb | hb
        · refine JH.set (d := 35) (v := .bool true) (congrArg (fun b => some (Value.bool b)) hb) ?_
          refine JH.gskip rfl rfl rfl rfl rfl rfl ?_
          refine JH.gskip rfl rfl rfl rfl rfl rfl ?_
          refine JH.gskip rfl rfl rfl rfl rfl rfl ?_
          refine JH.gskip rfl rfl rfl rfl rfl rfl ?_
          refine JH.gskip rfl rfl rfl rfl rfl rfl ?_
          refine JH.gskip rfl rfl rfl rfl rfl rfl ?_
          refine JH.gskip rfl rfl rfl rfl rfl rfl ?_
          refine JH.gskip rfl rfl rfl rfl rfl rfl ?_
          refine JH.pure rfl (yl_pick_true rfl rfl) rfl ?_
          exact JH.weak [] K ⟨rfl, rfl, rfl, rfl, (by rw [hb]; rfl), trivial⟩ (by decide) rfl
        · refine JH.set (d := 35) (v := .bool false) (congrArg (fun b => some (Value.bool b)) hb) ?_
          refine JH.gpure rfl rfl rfl (yl_fieldAt (a := some _) Go.Proofs.Try.underlying42 rfl i2 i2n rfl rfl) rfl ?_
          refine JH.gread rfl rfl rfl (yl_load1 Go.Proofs.Try.underlying2 rfl rfl (fun w hw => hFr12.box 1 rfl rfl hw) rfl) rfl ?_
          refine JH.gpure rfl rfl rfl (yl_move rfl) rfl ?_
          refine JH.gpure rfl rfl rfl (yl_nilCheckAt rfl (Rd.some g_0 (j := 0) rfl)) rfl ?_
          refine JH.gpure rfl rfl rfl (yl_fieldAt Go.Proofs.Try.underlying26 rfl i2 i2n rfl (Rd.some g_0 (j := 0) rfl)) rfl ?_
          refine JH.gread rfl rfl rfl (yl_load1 Go.Proofs.Try.underlying2 rfl rfl (fun w hw => hFr12.arg g_0 hw) rfl) rfl ?_
          refine JH.gpure rfl rfl rfl (yl_mul rfl rfl) rfl ?_
          refine JH.gpure rfl rfl rfl (yl_eql rfl rfl) rfl ?_
          refine JH.pure rfl (yl_pick_false rfl rfl) rfl ?_
          exact JH.weak [] K ⟨rfl, rfl, rfl, rfl, (by rw [hb]; rfl), trivial⟩ (by decide) rfl
    · intro K
      rcases cond_some hj11 with ⟨hb, hres⟩ | ⟨hb, hres⟩
      · refine JX.condT rfl hb ?_
        refine JX.region ?_
        refine JL.val (yl_fieldAt (a := some _) Go.Proofs.Try.underlying104 rfl i2 i2n rfl rfl) rfl ?_
        refine JL.val (yl_load1 Go.Proofs.Try.underlying2 rfl rfl (fun w hC => rd_box hC 2 rfl) rfl) rfl ?_
        refine JL.val (yl_neg rfl) rfl ?_
        refine JL.val (yl_fieldAt (a := some _) Go.Proofs.Try.underlying104 rfl i2 i2n rfl rfl) rfl ?_
        refine JL.eff (ef_store_box (i := 2) (v := .int .i64 (w64 (0 - q1.DX))) i2 rfl rfl rfl (i2s).symm (Nat.le_of_ble_eq_true rfl) (by simp [Value.cells, Value.oneCell'])) rfl ?_
        rintro _ _ rfl
        refine JL.nil ?_
        refine JE.weak (env' := [(0, ptrAt b_0 0), (4, ptrAt (some ⟨g3, 0, none⟩) 0), (5, ptrAt (some ⟨g6, 0, none⟩) 0), (6, ptrAt (some ⟨g8, 0, none⟩) 0)]) (es' := [boxO 104 g3 [.int .i64 0, .int .i64 0, .int .i64 0, .int .i64 0], boxO 42 g6 [.int .i64 x5.X, .int .i64 x5.Y], boxO 104 g8 [.int .i64 x5.X, .int .i64 x5.Y, .int .i64 (w64 (0 - q1.DX)), .int .i64 q1.DY]]) [0, 1, 2] ?_ ⟨rfl, rfl, rfl, rfl, trivial⟩ (by decide) rfl
        have hj := Option.some.inj hres
        exact JE.weak [0, 1, 2] (K) ⟨(by subst hj; rfl), (by subst hj; rfl), (by subst hj; rfl), (by subst hj; rfl), trivial⟩ (by decide) (by subst hj; rfl)
      · refine JX.condF rfl hb ?_
        refine JX.skip ?_
        have hj := Option.some.inj hres
        exact JE.weak [0, 1, 2] (K) ⟨(by subst hj; rfl), (by subst hj; rfl), (by subst hj; rfl), (by subst hj; rfl), trivial⟩ (by decide) (by subst hj; rfl)
  · intro K
    rcases Bool.eq_false_or_eq_true (x5.X == 0) with hb | hb
    · refine JH.set (d := 18) (v := .bool true) (congrArg (fun b => some (Value.bool b)) hb) ?_
      refine JH.gskip rfl rfl rfl rfl rfl rfl ?_
      refine JH.gskip rfl rfl rfl rfl rfl rfl ?_
      refine JH.gskip rfl rfl rfl rfl rfl rfl ?_
      refine JH.gskip rfl rfl rfl rfl rfl rfl ?_
      refine JH.gskip rfl rfl rfl rfl rfl rfl ?_
      refine JH.gskip rfl rfl rfl rfl rfl rfl ?_
      refine JH.gskip rfl rfl rfl rfl rfl rfl ?_
      refine JH.gskip rfl rfl rfl rfl rfl rfl ?_
      refine JH.pure rfl (yl_pick_true rfl rfl) rfl ?_
      exact JH.weak [] K ⟨rfl, rfl, rfl, rfl, (by rw [hb]; rfl), trivial⟩ (by decide) rfl
    · refine JH.set (d := 18) (v := .bool false) (congrArg (fun b => some (Value.bool b)) hb) ?_
      refine JH.gpure rfl rfl rfl (yl_fieldAt (a := some _) Go.Proofs.Try.underlying42 rfl i2 i2n rfl rfl) rfl ?_
      refine JH.gread rfl rfl rfl (yl_load1 Go.Proofs.Try.underlying2 rfl rfl (fun w hw => hFr10.box 1 rfl rfl hw) rfl) rfl ?_
      refine JH.gpure rfl rfl rfl (yl_move rfl) rfl ?_
      refine JH.gpure rfl rfl rfl (yl_nilCheckAt rfl (Rd.some g_0 (j := 0) rfl)) rfl ?_
      refine JH.gpure rfl rfl rfl (yl_fieldAt Go.Proofs.Try.underlying26 rfl i2 i2n rfl (Rd.some g_0 (j := 0) rfl)) rfl ?_
      refine JH.gread rfl rfl rfl (yl_load1 Go.Proofs.Try.underlying2 rfl rfl (fun w hw => hFr10.arg g_0 hw) rfl) rfl ?_
      refine JH.gpure rfl rfl rfl (yl_mul rfl rfl) rfl ?_
      refine JH.gpure rfl rfl rfl (yl_eql rfl rfl) rfl ?_
      refine JH.pure rfl (yl_pick_false rfl rfl) rfl ?_
      exact JH.weak [] K ⟨rfl, rfl, rfl, rfl, (by rw [hb]; rfl), trivial⟩ (by decide) rfl

/- spec.l03Left -/
def sh217 (q0 : SWalker) : Option (SPoint × Int) := Option.bind (sh216 q0) fun x5 => bif q0.DX == 1 then (some (q0.At, x5.Y)) else (some (x5, q0.At.Y))
def T217 (r : SPoint × Int) (v : Value) (rs : List Own) : Prop := v = rets [.agg #[.int .i64 r.1.X, .int .i64 r.1.Y], .int .i64 r.2] ∧ rs = []
set_option maxRecDepth 100000 in
theorem c217 {w : World} {q0 : SWalker} {r : SPoint × Int} (hres : sh217 q0 = some r) : Calls Go.Proofs.Try.prog 217 [.agg #[.int .i64 q0.At.X, .int .i64 q0.At.Y, .int .i64 q0.DX, .int .i64 q0.DY]].toArray w (Ret w (T217 r)) := by
  unfold sh217 at hres
  refine calls_of (n := 18) (M := []) (es := []) Go.Proofs.Try.func217 rfl rfl rfl (Sep.nil _ _ _) ?_
  refine JX.seq ?_
  refine JX.region ?_
  refine JL.eff (ef_box rfl rfl) rfl ?_
  rintro _ _ ⟨g1, rfl, rfl⟩
  refine JL.eff (ef_alloc i42 i42z rfl) rfl ?_
  rintro _ _ ⟨g3, rfl, rfl⟩
  refine JL.val (yl_assign rfl) rfl ?_
  refine JL.nil ?_
  refine JE.code ?_
  refine JX.seq ?_
  refine JX.region ?_
  refine JL.val (yl_loadn Go.Proofs.Try.underlying104 rfl i104 rfl (fun w hC => rd_box hC 0 rfl) rfl (i104s).symm i104p) rfl ?_
  obtain ⟨x5, hx5, hres⟩ := bind_some hres
  refine JL.eff (ef_call (vs := [.agg #[.int .i64 q0.At.X, .int .i64 q0.At.Y, .int .i64 q0.DX, .int .i64 q0.DY]]) (T := T216 x5) Go.Proofs.Try.func216 rfl (by kernel_rfl) rfl (fun w hC => c216 (q0 := q0) hx5)) rfl ?_
  rintro _ _ ⟨_, ⟨rfl, rfl⟩, rfl⟩
  refine JL.eff (ef_alloc i42 i42z rfl) rfl ?_
  rintro _ _ ⟨g6, rfl, rfl⟩
  refine JL.eff (ef_store_box (i := 2) (v := .agg #[.int .i64 x5.X, .int .i64 x5.Y]) i42 rfl rfl rfl (i42s).symm (Nat.le_of_ble_eq_true rfl) (by simp [Value.cells, Value.oneCell'])) rfl ?_
  rintro _ _ rfl
  refine JL.nil ?_
  refine JE.weak (env' := [(1, ptrAt (some ⟨g1, 0, none⟩) 0), (2, ptrAt (some ⟨g3, 0, none⟩) 0), (4, ptrAt (some ⟨g6, 0, none⟩) 0)]) (es' := [boxO 104 g1 [.int .i64 q0.At.X, .int .i64 q0.At.Y, .int .i64 q0.DX, .int .i64 q0.DY], boxO 42 g3 [.int .i64 0, .int .i64 0], boxO 42 g6 [.int .i64 x5.X, .int .i64 x5.Y]]) [0, 1, 2] ?_ ⟨rfl, rfl, rfl, trivial⟩ (by decide) rfl
  refine JE.code ?_
  refine JX.seq ?_
  refine JX.seq ?_
  refine JX.region ?_
  refine JL.val (yl_fieldAt (a := some _) Go.Proofs.Try.underlying104 rfl i2 i2n rfl rfl) rfl ?_
  refine JL.val (yl_load1 Go.Proofs.Try.underlying2 rfl rfl (fun w hC => rd_box hC 0 rfl) rfl) rfl ?_
  refine JL.val (yl_eql rfl rfl) rfl ?_
  refine JL.nil ?_
  refine JE.code ?_
  rcases cond_some hres with ⟨hb, hres⟩ | ⟨hb, hres⟩
  · refine JX.condT rfl hb ?_
    refine JX.seq ?_
    refine JX.drawH [(0, .pure), (1, .read), (2, .pure), (3, .read), (4, .must), (5, .pure)] [4] [1] [0, 2] [boxO 42 g3 [.int .i64 0, .int .i64 0]] [boxO 104 g1 [.int .i64 q0.At.X, .int .i64 q0.At.Y, .int .i64 q0.DX, .int .i64 q0.DY], boxO 42 g6 [.int .i64 x5.X, .int .i64 x5.Y]] mixedP (by kernel_rfl) (by kernel_rfl) (by decide) rfl rfl ?_
    intro wrr8 Nr8 hFr8
    refine JH.pure rfl (yl_fieldAt (a := some _) Go.Proofs.Try.underlying104 rfl i42 i42n rfl rfl) rfl ?_
    refine JH.read rfl (yl_loadn Go.Proofs.Try.underlying42 rfl i42 rfl (fun w hw => hFr8.box 0 rfl rfl hw) rfl (i42s).symm i42p) rfl ?_
    refine JH.pure rfl (yl_fieldAt (a := some _) Go.Proofs.Try.underlying42 rfl i2 i2n rfl rfl) rfl ?_
    refine JH.read rfl (yl_load1 Go.Proofs.Try.underlying2 rfl rfl (fun w hw => hFr8.box 2 rfl rfl hw) rfl) rfl ?_
    refine JH.must rfl (ef_store_box (i := 0) (v := .agg #[.int .i64 q0.At.X, .int .i64 q0.At.Y]) i42 rfl rfl rfl (i42s).symm (Nat.le_of_ble_eq_true rfl) (by simp [Value.cells, Value.oneCell'])) rfl rfl ?_
    rintro _ _ rfl
    refine JH.pure rfl (yl_assign rfl) rfl ?_
    refine JH.nil ?_
    refine JE.weak (env' := [(2, ptrAt (some ⟨g3, 0, none⟩) 0), (3, .int .i64 x5.Y)]) (es' := [boxO 42 g3 [.int .i64 q0.At.X, .int .i64 q0.At.Y]]) [2] ?_ ⟨rfl, rfl, trivial⟩ (by decide) rfl
    refine JE.code ?_
    refine JX.ret ?_
    obtain rfl := Option.some.inj hres
    refine JE.ret (rs := [.cell 2 42, .tmp 3]) (vs := [.agg #[.int .i64 q0.At.X, .int .i64 q0.At.Y], .int .i64 x5.Y]) rfl ⟨rv_box 0 rfl rfl Go.Proofs.Try.underlying42 rfl i42 (i42s).symm, rfl, trivial⟩ ?_
    exact fun w' hb hs => ⟨_, _, ⟨rfl, rfl⟩, rfl, hb, hs.sel [] _ (by decide) rfl⟩
  · refine JX.condF rfl hb ?_
    refine JX.skip ?_
    refine JE.code ?_
    refine JX.seq ?_
    refine JX.drawH [(0, .read), (1, .pure), (2, .pure), (3, .read), (4, .must), (5, .pure)] [4] [1] [0, 2] [boxO 42 g3 [.int .i64 0, .int .i64 0]] [boxO 104 g1 [.int .i64 q0.At.X, .int .i64 q0.At.Y, .int .i64 q0.DX, .int .i64 q0.DY], boxO 42 g6 [.int .i64 x5.X, .int .i64 x5.Y]] mixedP (by kernel_rfl) (by kernel_rfl) (by decide) rfl rfl ?_
    intro wrr9 Nr9 hFr9
    refine JH.read rfl (yl_loadn Go.Proofs.Try.underlying42 rfl i42 rfl (fun w hw => hFr9.box 2 rfl rfl hw) rfl (i42s).symm i42p) rfl ?_
    refine JH.pure rfl (yl_fieldAt (a := some _) Go.Proofs.Try.underlying104 rfl i42 i42n rfl rfl) rfl ?_
    refine JH.pure rfl (yl_fieldAt (a := some _) Go.Proofs.Try.underlying42 rfl i2 i2n rfl rfl) rfl ?_
    refine JH.read rfl (yl_load1 Go.Proofs.Try.underlying2 rfl rfl (fun w hw => hFr9.box 0 rfl rfl hw) rfl) rfl ?_
    refine JH.must rfl (ef_store_box (i := 0) (v := .agg #[.int .i64 x5.X, .int .i64 x5.Y]) i42 rfl rfl rfl (i42s).symm (Nat.le_of_ble_eq_true rfl) (by simp [Value.cells, Value.oneCell'])) rfl rfl ?_
    rintro _ _ rfl
    refine JH.pure rfl (yl_assign rfl) rfl ?_
    refine JH.nil ?_
    refine JE.weak (env' := [(2, ptrAt (some ⟨g3, 0, none⟩) 0), (3, .int .i64 q0.At.Y)]) (es' := [boxO 42 g3 [.int .i64 x5.X, .int .i64 x5.Y]]) [2] ?_ ⟨rfl, rfl, trivial⟩ (by decide) rfl
    refine JE.code ?_
    refine JX.ret ?_
    obtain rfl := Option.some.inj hres
    refine JE.ret (rs := [.cell 2 42, .tmp 3]) (vs := [.agg #[.int .i64 x5.X, .int .i64 x5.Y], .int .i64 q0.At.Y]) rfl ⟨rv_box 0 rfl rfl Go.Proofs.Try.underlying42 rfl i42 (i42s).symm, rfl, trivial⟩ ?_
    exact fun w' hb hs => ⟨_, _, ⟨rfl, rfl⟩, rfl, hb, hs.sel [] _ (by decide) rfl⟩

/- spec.l03Segment -/
def sh214 (q0 : SPanel) (q1 : SWalker) : Option (Int) := Option.bind (sh217 q1) fun x3 => Option.bind (bif decide (x3.1.Y < x3.2) then (some (w64 ((w64 ((w64 ((w64 ((w64 (x3.1.X * 2)) * q0.H)) + x3.1.Y)) - 1)) + 1))) else (some (w64 ((w64 ((w64 ((w64 (x3.1.X * 2)) * q0.H)) + x3.1.Y)) - 1)))) fun j7 => (some j7)
def T214 (r : Int) (v : Value) (rs : List Own) : Prop := v = rets [.int .i64 r] ∧ rs = []
set_option maxRecDepth 100000 in
theorem c214 {w : World} {q0 : SPanel} {a_0 : Option Addr} {n_0 : Nat} {a_0_2 : Option Addr} {n_0_2 c_0_2 : Nat} (g_0 : RdAt w a_0 n_0 [.int .i64 q0.W, .int .i64 q0.H, .slice a_0_2 n_0_2 c_0_2]) (g_0_2 : Rd w a_0_2 (eI64.fl q0.Breaks)) (l_0_2 : q0.Breaks.length = n_0_2) (k_0_2 : n_0_2 ≤ c_0_2) {q1 : SWalker} {r : Int} (hres : sh214 q0 q1 = some r) : Calls Go.Proofs.Try.prog 214 [ptrAt a_0 n_0, .agg #[.int .i64 q1.At.X, .int .i64 q1.At.Y, .int .i64 q1.DX, .int .i64 q1.DY]].toArray w (Ret w (T214 r)) := by
  subst l_0_2
  obtain ⟨b_0, e_0, g_0⟩ := g_0.norm0
  rw [e_0]
  unfold sh214 at hres
  refine calls_of (n := 32) (M := []) (es := []) Go.Proofs.Try.func214 rfl rfl rfl (Sep.nil _ _ _) ?_
  refine JX.seq ?_
  refine JX.region ?_
  refine JL.eff (ef_box rfl rfl) rfl ?_
  rintro _ _ ⟨g1, rfl, rfl⟩
  refine JL.val (yl_assign rfl) rfl ?_
  refine JL.nil ?_
  refine JE.code ?_
  refine JX.seq ?_
  refine JX.region ?_
  refine JL.val (yl_loadn Go.Proofs.Try.underlying104 rfl i104 rfl (fun w hC => rd_box hC 0 rfl) rfl (i104s).symm i104p) rfl ?_
  obtain ⟨x3, hx3, hres⟩ := bind_some hres
  refine JL.eff (ef_call (vs := [.agg #[.int .i64 q1.At.X, .int .i64 q1.At.Y, .int .i64 q1.DX, .int .i64 q1.DY]]) (T := T217 x3) Go.Proofs.Try.func217 rfl (by kernel_rfl) rfl (fun w hC => c217 (q0 := q1) hx3)) rfl ?_
  rintro _ _ ⟨_, ⟨rfl, rfl⟩, rfl⟩
  refine JL.val (yl_move rfl) rfl ?_
  refine JL.val (yl_extract rfl rfl) rfl ?_
  refine JL.val (yl_extract rfl rfl) rfl ?_
  refine JL.eff (ef_alloc i42 i42z rfl) rfl ?_
  rintro _ _ ⟨g4, rfl, rfl⟩
  refine JL.eff (ef_store_box (i := 1) (v := .agg #[.int .i64 x3.1.X, .int .i64 x3.1.Y]) i42 rfl rfl rfl (i42s).symm (Nat.le_of_ble_eq_true rfl) (by simp [Value.cells, Value.oneCell'])) rfl ?_
  rintro _ _ rfl
  refine JL.val (yl_assign rfl) rfl ?_
  refine JL.nil ?_
  refine JE.weak (env' := [(0, ptrAt b_0 0), (5, ptrAt (some ⟨g4, 0, none⟩) 0), (6, .int .i64 x3.2)]) (es' := [boxO 42 g4 [.int .i64 x3.1.X, .int .i64 x3.1.Y]]) [1] ?_ ⟨rfl, rfl, rfl, trivial⟩ (by decide) rfl
  refine JE.code ?_
  refine JX.seq ?_
  refine JX.drawH [(0, .pure), (1, .read), (2, .pure), (3, .pure), (4, .pure), (5, .pure), (6, .read), (7, .pure), (8, .pure), (9, .read), (10, .pure), (11, .pure), (12, .pure)] [] [] [0] [] [boxO 42 g4 [.int .i64 x3.1.X, .int .i64 x3.1.Y]] mixedP (by kernel_rfl) (by kernel_rfl) (by decide) rfl rfl ?_
  intro wrr6 Nr6 hFr6
  refine JH.pure rfl (yl_fieldAt (a := some _) Go.Proofs.Try.underlying42 rfl i2 i2n rfl rfl) rfl ?_
  refine JH.read rfl (yl_load1 Go.Proofs.Try.underlying2 rfl rfl (fun w hw => hFr6.box 0 rfl rfl hw) rfl) rfl ?_
  refine JH.pure rfl (yl_mul rfl rfl) rfl ?_
  refine JH.pure rfl (yl_move rfl) rfl ?_
  refine JH.pure rfl (yl_nilCheckAt rfl (Rd.some g_0 (j := 0) rfl)) rfl ?_
  refine JH.pure rfl (yl_fieldAt Go.Proofs.Try.underlying26 rfl i2 i2n rfl (Rd.some g_0 (j := 0) rfl)) rfl ?_
  refine JH.read rfl (yl_load1 Go.Proofs.Try.underlying2 rfl rfl (fun w hw => hFr6.arg g_0 hw) rfl) rfl ?_
  refine JH.pure rfl (yl_mul rfl rfl) rfl ?_
  refine JH.pure rfl (yl_fieldAt (a := some _) Go.Proofs.Try.underlying42 rfl i2 i2n rfl rfl) rfl ?_
  refine JH.read rfl (yl_load1 Go.Proofs.Try.underlying2 rfl rfl (fun w hw => hFr6.box 0 rfl rfl hw) rfl) rfl ?_
  refine JH.pure rfl (yl_add rfl rfl) rfl ?_
  refine JH.pure rfl (yl_sub rfl rfl) rfl ?_
  refine JH.pure rfl (yl_assign rfl) rfl ?_
  refine JH.nil ?_
  refine JE.weak (env' := [(5, ptrAt (some ⟨g4, 0, none⟩) 0), (6, .int .i64 x3.2), (7, .int .i64 (w64 ((w64 ((w64 ((w64 (x3.1.X * 2)) * q0.H)) + x3.1.Y)) - 1)))]) (es' := [boxO 42 g4 [.int .i64 x3.1.X, .int .i64 x3.1.Y]]) [0] ?_ ⟨rfl, rfl, rfl, trivial⟩ (by decide) rfl
  refine JE.code ?_
  refine JX.seq ?_
  refine JX.seq ?_
  refine JX.region ?_
  refine JL.val (yl_move rfl) rfl ?_
  refine JL.val (yl_fieldAt (a := some _) Go.Proofs.Try.underlying42 rfl i2 i2n rfl rfl) rfl ?_
  refine JL.val (yl_load1 Go.Proofs.Try.underlying2 rfl rfl (fun w hC => rd_box hC 0 rfl) rfl) rfl ?_
  refine JL.val (yl_gtr rfl rfl) rfl ?_
  refine JL.nil ?_
  refine JE.weak (env' := [(7, .int .i64 (w64 ((w64 ((w64 ((w64 (x3.1.X * 2)) * q0.H)) + x3.1.Y)) - 1))), (28, .bool (decide (x3.1.Y < x3.2)))]) (es' := []) [] ?_ ⟨rfl, rfl, trivial⟩ (by decide) rfl
  refine JE.code ?_
  obtain ⟨j7, hj7, hresj7⟩ := bind_some hres
  refine JX.cut (K := fun J => J [(7, .int .i64 j7)] []) ?_ ?_
  · have hres := hresj7
    refine JE.code ?_
    refine JX.seq ?_
    refine JX.region ?_
    refine JL.val (yl_move rfl) rfl ?_
    refine JL.val (yl_assign rfl) rfl ?_
    refine JL.nil ?_
    refine JE.code ?_
    refine JX.ret ?_
    obtain rfl := Option.some.inj hres
    refine JE.ret (rs := [.tmp 4]) (vs := [.int .i64 j7]) rfl ⟨rfl, trivial⟩ ?_
    exact fun w' hb hs => ⟨_, _, ⟨rfl, rfl⟩, rfl, hb, hs.sel [] _ (by decide) rfl⟩
  · intro K
    rcases cond_some hj7 with ⟨hb, hres⟩ | ⟨hb, hres⟩
    · refine JX.condT rfl hb ?_
      refine JX.region ?_
      refine JL.val (yl_move rfl) rfl ?_
      refine JL.val (yl_add rfl rfl) rfl ?_
      refine JL.val (yl_assign rfl) rfl ?_
      refine JL.nil ?_
      have hj := Option.some.inj hres
      exact JE.weak [] (K) ⟨(by subst hj; rfl), trivial⟩ (by decide) (by subst hj; rfl)
    · refine JX.condF rfl hb ?_
      refine JX.skip ?_
      have hj := Option.some.inj hres
      exact JE.weak [] (K) ⟨(by subst hj; rfl), trivial⟩ (by decide) (by subst hj; rfl)

/- spec.l04Trace -/
def sh205_1 (q0 : SPanel) (q1 : SWalker) : (List SPoint × List Int × SWalker) → Option ((List SPoint × List Int × SWalker) ⊕ (List SPoint × List Int))
  | (x14, x15, x16) => bif ((x14.length : Int) == 0) || (!((((x16.At.X == q1.At.X) && ((x16.At.Y == q1.At.Y) && true)) && ((x16.DX == q1.DX) && ((x16.DY == q1.DY) && true))))) then (Option.bind (appL x14 [x16.At]) fun x24 => Option.bind (sh214 q0 x16) fun x27 => Option.bind (appL x15 [x27]) fun x30 => Option.bind (sh213 q0 x16) fun x35 => some (.inl (x24, x30, x35))) else (some (.inr (x14, x15)))
def sh205 (q0 : SPanel) (q1 : SWalker) : Option (List SPoint × List Int) := Option.bind (iter (sh205_1 q0 q1) (([] : List SPoint), ([] : List Int), q1)) fun b1 => (some (b1.1, b1.2))
def T205 (r : List SPoint × List Int) (v : Value) (rs : List Own) : Prop := ∃ (a0 : Option Addr) (n0 c0 : Nat), r.1.length = n0 ∧ ∃ (a1 : Option Addr) (n1 c1 : Nat), r.2.length = n1 ∧ v = rets [.slice a0 n0 c0, .slice a1 n1 c1] ∧ rs = [rowT 42 eSPoint a0 n0 c0 r.1, rowT 2 eI64 a1 n1 c1 r.2]
set_option maxRecDepth 100000 in
theorem c205 {w : World} {q0 : SPanel} {a_0 : Option Addr} {n_0 : Nat} {a_0_2 : Option Addr} {n_0_2 c_0_2 : Nat} (g_0 : RdAt w a_0 n_0 [.int .i64 q0.W, .int .i64 q0.H, .slice a_0_2 n_0_2 c_0_2]) (g_0_2 : Rd w a_0_2 (eI64.fl q0.Breaks)) (l_0_2 : q0.Breaks.length = n_0_2) (k_0_2 : n_0_2 ≤ c_0_2) {q1 : SWalker} {r : List SPoint × List Int} (hres : sh205 q0 q1 = some r) : Calls Go.Proofs.Try.prog 205 [ptrAt a_0 n_0, .agg #[.int .i64 q1.At.X, .int .i64 q1.At.Y, .int .i64 q1.DX, .int .i64 q1.DY]].toArray w (Ret w (T205 r)) := by
  subst l_0_2
  obtain ⟨b_0, e_0, g_0⟩ := g_0.norm0
  rw [e_0]
  unfold sh205 at hres
  refine calls_of (n := 37) (M := []) (es := []) Go.Proofs.Try.func205 rfl rfl rfl (Sep.nil _ _ _) ?_
  refine JX.seq ?_
  refine JX.region ?_
  refine JL.eff (ef_box rfl rfl) rfl ?_
  rintro _ _ ⟨g1, rfl, rfl⟩
  refine JL.val (yl_assign rfl) rfl ?_
  refine JL.val (yl_assign rfl) rfl ?_
  refine JL.nil ?_
  refine JE.code ?_
  refine JX.seq ?_
  refine JX.region ?_
  refine JL.eff (ef_buildSlice (E := 42) (k := eSPoint.k) (us := eSPoint.fl ([] : List SPoint)) rfl (fun w => bsl34_0  w) rfl (by decide)) rfl ?_
  rintro _ _ ⟨a3, rfl, rfl⟩
  refine JL.val (yl_assign rfl) rfl ?_
  refine JL.nil ?_
  refine JE.code ?_
  refine JX.seq ?_
  refine JX.region ?_
  refine JL.eff (ef_buildSlice (E := 2) (k := eI64.k) (us := eI64.fl ([] : List Int)) rfl (fun w => bsl24_0  w) rfl (by decide)) rfl ?_
  rintro _ _ ⟨a5, rfl, rfl⟩
  refine JL.val (yl_assign rfl) rfl ?_
  refine JL.nil ?_
  refine JE.code ?_
  refine JX.seq ?_
  refine JX.seq ?_
  refine JX.region ?_
  refine JL.val (yl_loadn Go.Proofs.Try.underlying104 rfl i104 rfl (fun w hC => rd_box hC 0 rfl) rfl (i104s).symm i104p) rfl ?_
  refine JL.eff (ef_alloc i104 i104z rfl) rfl ?_
  rintro _ _ ⟨g7, rfl, rfl⟩
  refine JL.eff (ef_store_box (i := 3) (v := .agg #[.int .i64 q1.At.X, .int .i64 q1.At.Y, .int .i64 q1.DX, .int .i64 q1.DY]) i104 rfl rfl rfl (i104s).symm (Nat.le_of_ble_eq_true rfl) (by simp [Value.cells, Value.oneCell'])) rfl ?_
  rintro _ _ rfl
  refine JL.nil ?_
  refine JE.code ?_
  refine JX.block ?_
  obtain ⟨y1, hy1, hresO1⟩ := bind_some hres
  refine JX.loop (I := fun (s1 : List SPoint × List Int × SWalker) aa ww => ∃ (a9 : Option Addr) (cp10 : Nat) (a11 : Option Addr) (cp12 : Nat) (g13 : Nat), St w [] 37 [(0, ptrAt b_0 0), (3, ptrAt (some ⟨g1, 0, none⟩) 0), (6, .slice a9 s1.1.length cp10), (7, .slice a11 s1.2.1.length cp12), (8, ptrAt (some ⟨g13, 0, none⟩) 0)] [boxO 104 g1 [.int .i64 q1.At.X, .int .i64 q1.At.Y, .int .i64 q1.DX, .int .i64 q1.DY], rowT 42 eSPoint a9 s1.1.length cp10 s1.1, rowT 2 eI64 a11 s1.2.1.length cp12 s1.2.1, boxO 104 g13 [.int .i64 s1.2.2.At.X, .int .i64 s1.2.2.At.Y, .int .i64 s1.2.2.DX, .int .i64 s1.2.2.DY]] aa ww) (sh205_1 q0 q1) hy1 (fun a w h => ⟨a3, 0, a5, 0, g7, h.weak ⟨rfl, rfl, rfl, rfl, rfl, trivial⟩ [0, 1, 2, 3] (by decide) rfl⟩) ?_
  rintro ⟨x14, x15, x16⟩ o1 hres hox1 aa ww ⟨a17, cp18, a19, cp20, g21, hS⟩
  refine (?_ : JX Go.Proofs.Try.prog w [] 37 _ _ [(0, ptrAt b_0 0), (3, ptrAt (some ⟨g1, 0, none⟩) 0), (6, .slice a17 x14.length cp18), (7, .slice a19 x15.length cp20), (8, ptrAt (some ⟨g21, 0, none⟩) 0)] [boxO 104 g1 [.int .i64 q1.At.X, .int .i64 q1.At.Y, .int .i64 q1.DX, .int .i64 q1.DY], rowT 42 eSPoint a17 x14.length cp18 x14, rowT 2 eI64 a19 x15.length cp20 x15, boxO 104 g21 [.int .i64 x16.At.X, .int .i64 x16.At.Y, .int .i64 x16.DX, .int .i64 x16.DY]] _) aa ww hS
  clear hS
  simp only [sh205_1] at hres
  refine JX.seq ?_
  refine JX.seq ?_
  refine JX.region ?_
  refine JL.val (yl_move rfl) rfl ?_
  refine JL.val (yl_len_slice Go.Proofs.Try.underlying34 rfl) rfl ?_
  refine JL.val (yl_eql rfl rfl) rfl ?_
  refine JL.val (yl_move rfl) rfl ?_
  refine JL.cut (K := fun J => J [(0, ptrAt b_0 0), (3, ptrAt (some ⟨g1, 0, none⟩) 0), (6, .slice a17 x14.length cp18), (7, .slice a19 x15.length cp20), (8, ptrAt (some ⟨g21, 0, none⟩) 0), (19, .bool (((x14.length : Int) == 0) || (!((((x16.At.X == q1.At.X) && ((x16.At.Y == q1.At.Y) && true)) && ((x16.DX == q1.DX) && ((x16.DY == q1.DY) && true)))))))] [boxO 104 g1 [.int .i64 q1.At.X, .int .i64 q1.At.Y, .int .i64 q1.DX, .int .i64 q1.DY], rowT 42 eSPoint a17 x14.length cp18 x14, rowT 2 eI64 a19 x15.length cp20 x15, boxO 104 g21 [.int .i64 x16.At.X, .int .i64 x16.At.Y, .int .i64 x16.DX, .int .i64 x16.DY]]) 4 ?_ ?_
  · refine JL.nil ?_
    refine JE.weak (env' := [(0, ptrAt b_0 0), (3, ptrAt (some ⟨g1, 0, none⟩) 0), (6, .slice a17 x14.length cp18), (7, .slice a19 x15.length cp20), (8, ptrAt (some ⟨g21, 0, none⟩) 0), (19, .bool (((x14.length : Int) == 0) || (!((((x16.At.X == q1.At.X) && ((x16.At.Y == q1.At.Y) && true)) && ((x16.DX == q1.DX) && ((x16.DY == q1.DY) && true)))))))]) (es' := [boxO 104 g1 [.int .i64 q1.At.X, .int .i64 q1.At.Y, .int .i64 q1.DX, .int .i64 q1.DY], rowT 42 eSPoint a17 x14.length cp18 x14, rowT 2 eI64 a19 x15.length cp20 x15, boxO 104 g21 [.int .i64 x16.At.X, .int .i64 x16.At.Y, .int .i64 x16.DX, .int .i64 x16.DY]]) [0, 1, 2, 3] ?_ ⟨rfl, rfl, rfl, rfl, rfl, rfl, trivial⟩ (by decide) rfl
    refine JE.code ?_
    rcases cond_some hres with ⟨hb, hres⟩ | ⟨hb, hres⟩
    · refine JX.condT rfl hb ?_
      refine JX.skip ?_
      refine JE.code ?_
      refine JX.seq ?_
      refine JX.block ?_
      refine JX.seq ?_
      refine JX.region ?_
      refine JL.val (yl_move rfl) rfl ?_
      refine JL.val (yl_fieldAt (a := some _) Go.Proofs.Try.underlying104 rfl i42 i42n rfl rfl) rfl ?_
      refine JL.val (yl_loadn Go.Proofs.Try.underlying42 rfl i42 rfl (fun w hC => rd_box hC 3 rfl) rfl (i42s).symm i42p) rfl ?_
      refine JL.eff (ef_buildSlice (E := 42) (k := eSPoint.k) (us := eSPoint.fl [x16.At]) rfl (fun w => bsl34_1 x16.At.X x16.At.Y w) rfl (by decide)) rfl ?_
      rintro _ _ ⟨a22, rfl, rfl⟩
      obtain ⟨x24, hx24, hres⟩ := bind_some hres
      refine JL.eff (ef_appendT (ix := 1) Go.Proofs.Try.underlying34 i42 i42z i42s rfl i42b0 i42b1 rfl rfl rfl rfl rfl (fun w hC => rd_row hC 4 rfl) hx24) rfl ?_
      rintro _ _ ⟨a25, cp26, rfl, rfl⟩
      refine JL.val (yl_assign rfl) rfl ?_
      refine JL.nil ?_
      refine JE.weak (env' := [(0, ptrAt b_0 0), (3, ptrAt (some ⟨g1, 0, none⟩) 0), (6, .slice a25 x24.length cp26), (7, .slice a19 x15.length cp20), (8, ptrAt (some ⟨g21, 0, none⟩) 0)]) (es' := [boxO 104 g1 [.int .i64 q1.At.X, .int .i64 q1.At.Y, .int .i64 q1.DX, .int .i64 q1.DY], rowT 42 eSPoint a25 x24.length cp26 x24, rowT 2 eI64 a19 x15.length cp20 x15, boxO 104 g21 [.int .i64 x16.At.X, .int .i64 x16.At.Y, .int .i64 x16.DX, .int .i64 x16.DY]]) [0, 1, 2, 3] ?_ ⟨rfl, rfl, rfl, rfl, rfl, trivial⟩ (by decide) rfl
      refine JE.code ?_
      refine JX.region ?_
      refine JL.val (yl_move rfl) rfl ?_
      refine JL.val (yl_move rfl) rfl ?_
      refine JL.val (yl_loadn Go.Proofs.Try.underlying104 rfl i104 rfl (fun w hC => rd_box hC 3 rfl) rfl (i104s).symm i104p) rfl ?_
      obtain ⟨x27, hx27, hres⟩ := bind_some hres
      refine JL.eff (ef_call (vs := [ptrAt b_0 0, .agg #[.int .i64 x16.At.X, .int .i64 x16.At.Y, .int .i64 x16.DX, .int .i64 x16.DY]]) (T := T214 x27) Go.Proofs.Try.func214 rfl (by kernel_rfl) rfl (fun w hC => c214 (q1 := x16) (RdAt.of0 (rd_arg g_0 hC)) (rd_arg g_0_2 hC) rfl k_0_2 hx27)) rfl ?_
      rintro _ _ ⟨_, ⟨rfl, rfl⟩, rfl⟩
      refine JL.eff (ef_buildSlice (E := 2) (k := eI64.k) (us := eI64.fl [x27]) rfl (fun w => bsl24_1 x27 w) rfl (by decide)) rfl ?_
      rintro _ _ ⟨a28, rfl, rfl⟩
      obtain ⟨x30, hx30, hres⟩ := bind_some hres
      refine JL.eff (ef_appendT (ix := 2) Go.Proofs.Try.underlying24 i2 i2z i2s rfl i2b0 i2b1 rfl rfl rfl rfl rfl (fun w hC => rd_row hC 4 rfl) hx30) rfl ?_
      rintro _ _ ⟨a31, cp32, rfl, rfl⟩
      refine JL.val (yl_assign rfl) rfl ?_
      refine JL.nil ?_
      refine JE.weak (env' := [(0, ptrAt b_0 0), (3, ptrAt (some ⟨g1, 0, none⟩) 0), (6, .slice a25 x24.length cp26), (7, .slice a31 x30.length cp32), (8, ptrAt (some ⟨g21, 0, none⟩) 0)]) (es' := [boxO 104 g1 [.int .i64 q1.At.X, .int .i64 q1.At.Y, .int .i64 q1.DX, .int .i64 q1.DY], rowT 42 eSPoint a25 x24.length cp26 x24, rowT 2 eI64 a31 x30.length cp32 x30, boxO 104 g21 [.int .i64 x16.At.X, .int .i64 x16.At.Y, .int .i64 x16.DX, .int .i64 x16.DY]]) [0, 1, 2, 3] ?_ ⟨rfl, rfl, rfl, rfl, rfl, trivial⟩ (by decide) rfl
      refine JE.code ?_
      refine JX.seq ?_
      refine JX.seq ?_
      refine JX.region ?_
      refine JL.val (yl_loadn Go.Proofs.Try.underlying104 rfl i104 rfl (fun w hC => rd_box hC 3 rfl) rfl (i104s).symm i104p) rfl ?_
      refine JL.nil ?_
      refine JE.weak (env' := [(0, ptrAt b_0 0), (3, ptrAt (some ⟨g1, 0, none⟩) 0), (6, .slice a25 x24.length cp26), (7, .slice a31 x30.length cp32), (34, .agg #[.int .i64 x16.At.X, .int .i64 x16.At.Y, .int .i64 x16.DX, .int .i64 x16.DY])]) (es' := [boxO 104 g1 [.int .i64 q1.At.X, .int .i64 q1.At.Y, .int .i64 q1.DX, .int .i64 q1.DY], rowT 42 eSPoint a25 x24.length cp26 x24, rowT 2 eI64 a31 x30.length cp32 x30]) [0, 1, 2] ?_ ⟨rfl, rfl, rfl, rfl, rfl, trivial⟩ (by decide) rfl
      refine JE.code ?_
      refine JX.region ?_
      refine JL.eff (ef_alloc i104 i104z rfl) rfl ?_
      rintro _ _ ⟨g33, rfl, rfl⟩
      refine JL.eff (ef_store_box (i := 3) (v := .agg #[.int .i64 x16.At.X, .int .i64 x16.At.Y, .int .i64 x16.DX, .int .i64 x16.DY]) i104 rfl rfl rfl (i104s).symm (Nat.le_of_ble_eq_true rfl) (by simp [Value.cells, Value.oneCell'])) rfl ?_
      rintro _ _ rfl
      refine JL.nil ?_
      refine JE.code ?_
      refine JX.region ?_
      refine JL.val (yl_move rfl) rfl ?_
      refine JL.val (yl_loadn Go.Proofs.Try.underlying104 rfl i104 rfl (fun w hC => rd_box hC 3 rfl) rfl (i104s).symm i104p) rfl ?_
      obtain ⟨x35, hx35, hres⟩ := bind_some hres
      refine JL.eff (ef_call (vs := [ptrAt b_0 0, .agg #[.int .i64 x16.At.X, .int .i64 x16.At.Y, .int .i64 x16.DX, .int .i64 x16.DY]]) (T := T213 x35) Go.Proofs.Try.func213 rfl (by kernel_rfl) rfl (fun w hC => c213 (q1 := x16) (RdAt.of0 (rd_arg g_0 hC)) (rd_arg g_0_2 hC) rfl k_0_2 hx35)) rfl ?_
      rintro _ _ ⟨_, ⟨rfl, rfl⟩, rfl⟩
      refine JL.eff (ef_store_box (i := 3) (v := .agg #[.int .i64 x35.At.X, .int .i64 x35.At.Y, .int .i64 x35.DX, .int .i64 x35.DY]) i104 rfl rfl rfl (i104s).symm (Nat.le_of_ble_eq_true rfl) (by simp [Value.cells, Value.oneCell'])) rfl ?_
      rintro _ _ rfl
      refine JL.nil ?_
      refine JE.weak (env' := [(0, ptrAt b_0 0), (3, ptrAt (some ⟨g1, 0, none⟩) 0), (6, .slice a25 x24.length cp26), (7, .slice a31 x30.length cp32), (8, ptrAt (some ⟨g33, 0, none⟩) 0)]) (es' := [boxO 104 g1 [.int .i64 q1.At.X, .int .i64 q1.At.Y, .int .i64 q1.DX, .int .i64 q1.DY], rowT 42 eSPoint a25 x24.length cp26 x24, rowT 2 eI64 a31 x30.length cp32 x30, boxO 104 g33 [.int .i64 x35.At.X, .int .i64 x35.At.Y, .int .i64 x35.DX, .int .i64 x35.DY]]) [0, 1, 2, 3] ?_ ⟨rfl, rfl, rfl, rfl, rfl, trivial⟩ (by decide) rfl
      refine JE.cont hres ?_
      exact fun a w h => ⟨a25, cp26, a31, cp32, g33, h.weak ⟨rfl, rfl, rfl, rfl, rfl, trivial⟩ [0, 1, 2, 3] (by decide) rfl⟩
    · refine JX.condF rfl hb ?_
      refine JX.exit ?_
      refine JE.qb rfl ?_
      obtain ⟨b1, hb1⟩ : ∃ b : List SPoint × List Int, b = (x14, x15) := ⟨_, rfl⟩
      have hy1 : b1 = y1 := by rw [hb1]; exact hox1 _ (Option.some.inj hres).symm
      have hres := hresO1
      rw [← hy1] at hres
      refine JE.weak (env' := [(6, .slice a17 b1.1.length cp18), (7, .slice a19 b1.2.length cp20)]) (es' := [rowT 42 eSPoint a17 b1.1.length cp18 b1.1, rowT 2 eI64 a19 b1.2.length cp20 b1.2]) [1, 2] ?_ ⟨(by subst hb1; rfl), (by subst hb1; rfl), trivial⟩ (by decide) (by subst hb1; rfl)
      refine JE.code ?_
      refine JX.seq ?_
      refine JX.region ?_
      refine JL.val (yl_move rfl) rfl ?_
      refine JL.val (yl_move rfl) rfl ?_
      refine JL.val (yl_assign rfl) rfl ?_
      refine JL.val (yl_assign rfl) rfl ?_
      refine JL.nil ?_
      refine JE.weak (env' := [(4, .slice a17 b1.1.length cp18), (5, .slice a19 b1.2.length cp20)]) (es' := [rowT 42 eSPoint a17 b1.1.length cp18 b1.1, rowT 2 eI64 a19 b1.2.length cp20 b1.2]) [0, 1] ?_ ⟨rfl, rfl, trivial⟩ (by decide) rfl
      refine JE.code ?_
      refine JX.ret ?_
      obtain rfl := Option.some.inj hres
      refine JE.ret (rs := [.tmp 4, .tmp 5]) (vs := [.slice a17 b1.1.length cp18, .slice a19 b1.2.length cp20]) rfl ⟨rfl, rfl, trivial⟩ ?_
      exact fun w' hb hs => ⟨_, _, ⟨a17, b1.1.length, cp18, rfl, a19, b1.2.length, cp20, rfl, rfl, rfl⟩, rfl, hb, hs.sel [0, 1] _ (by decide) rfl⟩
  · intro K
    rcases Bool.eq_false_or_eq_true ((x14.length : Int) == 0) with hb | hb
    · refine JL.set (d := 15) (v := .bool true) (congrArg (fun b => some (Value.bool b)) hb) ?_
      refine JL.gskip rfl rfl rfl rfl ?_
      refine JL.gskip rfl rfl rfl rfl ?_
      refine JL.gskip rfl rfl rfl rfl ?_
      refine JL.val (yl_pick_true rfl rfl) rfl ?_
      exact JL.weak [0, 1, 2, 3] K ⟨rfl, rfl, rfl, rfl, rfl, (by rw [hb]; rfl), trivial⟩ (by decide) rfl
    · refine JL.set (d := 15) (v := .bool false) (congrArg (fun b => some (Value.bool b)) hb) ?_
      refine JL.gval rfl rfl (yl_loadn Go.Proofs.Try.underlying104 rfl i104 rfl (fun w hC => rd_box hC 3 rfl) rfl (i104s).symm i104p) rfl ?_
      refine JL.gval rfl rfl (yl_loadn Go.Proofs.Try.underlying104 rfl i104 rfl (fun w hC => rd_box hC 0 rfl) rfl (i104s).symm i104p) rfl ?_
      refine JL.gval rfl rfl (yl_binop_of rfl rfl (fun w => eqs104_g _ _ _ _ _ w) (fun w => eqs104_neq x16.At.X x16.At.Y x16.DX x16.DY q1.At.X q1.At.Y q1.DX q1.DY w)) rfl ?_
      refine JL.val (yl_pick_false rfl rfl) rfl ?_
      exact JL.weak [0, 1, 2, 3] K ⟨rfl, rfl, rfl, rfl, rfl, (by rw [hb]; rfl), trivial⟩ (by decide) rfl

/- spec.l03Walker -/
def sh206 (q0 : SPanel) (q1 : Int) : Option (SWalker) := Option.bind (nzI (w64 (2 * q0.H))) fun x3 => Option.bind (nzI (w64 (2 * q0.H))) fun x4 => bif ((w64 (q1.tdiv (w64 (2 * q0.H)))).tmod 2) == 0 then (some (SWalker.mk (SPoint.mk (w64 (q1.tdiv (w64 (2 * q0.H)))) (w64 ((w64 ((w64 ((q1.tmod (w64 (2 * q0.H))).tdiv 2)) * 2)) + 1))) 1 (w64 ((w64 (2 * ((q1.tmod (w64 (2 * q0.H))).tmod 2))) - 1)))) else (Option.bind (bif ((q1.tmod (w64 (2 * q0.H))).tmod 2) == 1 then (some (SWalker.mk (SPoint.mk (w64 (q1.tdiv (w64 (2 * q0.H)))) (w64 ((w64 ((w64 ((q1.tmod (w64 (2 * q0.H))) + 1)).tdiv 2)) * 2))) 1 (-1))) else (some (SWalker.mk (SPoint.mk (w64 (q1.tdiv (w64 (2 * q0.H)))) (w64 ((w64 ((w64 ((q1.tmod (w64 (2 * q0.H))) + 1)).tdiv 2)) * 2))) 1 1))) fun j7 => (some j7))
def T206 (r : SWalker) (v : Value) (rs : List Own) : Prop := v = rets [.agg #[.int .i64 r.At.X, .int .i64 r.At.Y, .int .i64 r.DX, .int .i64 r.DY]] ∧ rs = []
set_option maxRecDepth 100000 in
theorem c206 {w : World} {q0 : SPanel} {a_0 : Option Addr} {n_0 : Nat} {a_0_2 : Option Addr} {n_0_2 c_0_2 : Nat} (g_0 : RdAt w a_0 n_0 [.int .i64 q0.W, .int .i64 q0.H, .slice a_0_2 n_0_2 c_0_2]) (g_0_2 : Rd w a_0_2 (eI64.fl q0.Breaks)) (l_0_2 : q0.Breaks.length = n_0_2) (k_0_2 : n_0_2 ≤ c_0_2) {q1 : Int} {r : SWalker} (hres : sh206 q0 q1 = some r) : Calls Go.Proofs.Try.prog 206 [ptrAt a_0 n_0, .int .i64 q1].toArray w (Ret w (T206 r)) := by
  subst l_0_2
  obtain ⟨b_0, e_0, g_0⟩ := g_0.norm0
  rw [e_0]
  unfold sh206 at hres
  refine calls_of (n := 48) (M := []) (es := []) Go.Proofs.Try.func206 rfl rfl rfl (Sep.nil _ _ _) ?_
  refine JX.seq ?_
  refine JX.region ?_
  refine JL.eff (ef_alloc i104 i104z rfl) rfl ?_
  rintro _ _ ⟨g1, rfl, rfl⟩
  refine JL.nil ?_
  refine JE.code ?_
  refine JX.seq ?_
  refine JX.region ?_
  refine JL.val (yl_move rfl) rfl ?_
  refine JL.val (yl_move rfl) rfl ?_
  refine JL.val (yl_nilCheckAt rfl (Rd.some g_0 (j := 0) rfl)) rfl ?_
  refine JL.val (yl_fieldAt Go.Proofs.Try.underlying26 rfl i2 i2n rfl (Rd.some g_0 (j := 0) rfl)) rfl ?_
  refine JL.val (yl_load1 Go.Proofs.Try.underlying2 rfl rfl (fun w hC => rd_arg g_0 hC) rfl) rfl ?_
  refine JL.val (yl_mul rfl rfl) rfl ?_
  obtain ⟨x3, hx3, hres⟩ := bind_some hres
  refine JL.val (yl_quo rfl rfl (nzI_some hx3)) rfl ?_
  refine JL.val (yl_assign rfl) rfl ?_
  refine JL.nil ?_
  refine JE.weak (env' := [(0, ptrAt b_0 0), (1, .int .i64 q1), (4, ptrAt (some ⟨g1, 0, none⟩) 0), (5, .int .i64 (w64 (q1.tdiv (w64 (2 * q0.H)))))]) (es' := [boxO 104 g1 [.int .i64 0, .int .i64 0, .int .i64 0, .int .i64 0]]) [0] ?_ ⟨rfl, rfl, rfl, rfl, trivial⟩ (by decide) rfl
  refine JE.code ?_
  refine JX.seq ?_
  refine JX.region ?_
  refine JL.val (yl_move rfl) rfl ?_
  refine JL.val (yl_move rfl) rfl ?_
  refine JL.val (yl_nilCheckAt rfl (Rd.some g_0 (j := 0) rfl)) rfl ?_
  refine JL.val (yl_fieldAt Go.Proofs.Try.underlying26 rfl i2 i2n rfl (Rd.some g_0 (j := 0) rfl)) rfl ?_
  refine JL.val (yl_load1 Go.Proofs.Try.underlying2 rfl rfl (fun w hC => rd_arg g_0 hC) rfl) rfl ?_
  refine JL.val (yl_mul rfl rfl) rfl ?_
  obtain ⟨x4, hx4, hres⟩ := bind_some hres
  refine JL.val (yl_rem rfl rfl (nzI_some hx4)) rfl ?_
  refine JL.val (yl_assign rfl) rfl ?_
  refine JL.nil ?_
  refine JE.weak (env' := [(4, ptrAt (some ⟨g1, 0, none⟩) 0), (5, .int .i64 (w64 (q1.tdiv (w64 (2 * q0.H))))), (6, .int .i64 (q1.tmod (w64 (2 * q0.H))))]) (es' := [boxO 104 g1 [.int .i64 0, .int .i64 0, .int .i64 0, .int .i64 0]]) [0] ?_ ⟨rfl, rfl, rfl, trivial⟩ (by decide) rfl
  refine JE.code ?_
  refine JX.seq ?_
  refine JX.seq ?_
  refine JX.region ?_
  refine JL.val (yl_move rfl) rfl ?_
  refine JL.val (yl_rem rfl rfl (by decide)) rfl ?_
  refine JL.val (yl_eql rfl rfl) rfl ?_
  refine JL.nil ?_
  refine JE.code ?_
  rcases cond_some hres with ⟨hb, hres⟩ | ⟨hb, hres⟩
  · refine JX.condT rfl hb ?_
    refine JX.seq ?_
    refine JX.region ?_
    refine JL.val (yl_move rfl) rfl ?_
    refine JL.val (yl_move rfl) rfl ?_
    refine JL.val (yl_quo rfl rfl (by decide)) rfl ?_
    refine JL.val (yl_mul rfl rfl) rfl ?_
    refine JL.val (yl_add rfl rfl) rfl ?_
    refine JL.val (yl_build rfl (fun w => bld42_0_1 (w64 (q1.tdiv (w64 (2 * q0.H)))) (w64 ((w64 ((w64 ((q1.tmod (w64 (2 * q0.H))).tdiv 2)) * 2)) + 1)) w)) rfl ?_
    refine JL.val (yl_move rfl) rfl ?_
    refine JL.val (yl_rem rfl rfl (by decide)) rfl ?_
    refine JL.val (yl_mul rfl rfl) rfl ?_
    refine JL.val (yl_sub rfl rfl) rfl ?_
    refine JL.val (yl_build rfl (fun w => bld104_0_1_2 (w64 (q1.tdiv (w64 (2 * q0.H)))) (w64 ((w64 ((w64 ((q1.tmod (w64 (2 * q0.H))).tdiv 2)) * 2)) + 1)) 1 (w64 ((w64 (2 * ((q1.tmod (w64 (2 * q0.H))).tmod 2))) - 1)) w)) rfl ?_
    refine JL.eff (ef_store_box (i := 0) (v := .agg #[.int .i64 (w64 (q1.tdiv (w64 (2 * q0.H)))), .int .i64 (w64 ((w64 ((w64 ((q1.tmod (w64 (2 * q0.H))).tdiv 2)) * 2)) + 1)), .int .i64 1, .int .i64 (w64 ((w64 (2 * ((q1.tmod (w64 (2 * q0.H))).tmod 2))) - 1))]) i104 rfl rfl rfl (i104s).symm (Nat.le_of_ble_eq_true rfl) (by simp [Value.cells, Value.oneCell'])) rfl ?_
    rintro _ _ rfl
    refine JL.nil ?_
    refine JE.weak (env' := [(4, ptrAt (some ⟨g1, 0, none⟩) 0)]) (es' := [boxO 104 g1 [.int .i64 (w64 (q1.tdiv (w64 (2 * q0.H)))), .int .i64 (w64 ((w64 ((w64 ((q1.tmod (w64 (2 * q0.H))).tdiv 2)) * 2)) + 1)), .int .i64 1, .int .i64 (w64 ((w64 (2 * ((q1.tmod (w64 (2 * q0.H))).tmod 2))) - 1))]]) [0] ?_ ⟨rfl, trivial⟩ (by decide) rfl
    refine JE.code ?_
    refine JX.ret ?_
    obtain rfl := Option.some.inj hres
    refine JE.ret (rs := [.cell 4 104]) (vs := [.agg #[.int .i64 (w64 (q1.tdiv (w64 (2 * q0.H)))), .int .i64 (w64 ((w64 ((w64 ((q1.tmod (w64 (2 * q0.H))).tdiv 2)) * 2)) + 1)), .int .i64 1, .int .i64 (w64 ((w64 (2 * ((q1.tmod (w64 (2 * q0.H))).tmod 2))) - 1))]]) rfl ⟨rv_box 0 rfl rfl Go.Proofs.Try.underlying104 rfl i104 (i104s).symm, trivial⟩ ?_
    exact fun w' hb hs => ⟨_, _, ⟨rfl, rfl⟩, rfl, hb, hs.sel [] _ (by decide) rfl⟩
  · refine JX.condF rfl hb ?_
    refine JX.skip ?_
    refine JE.code ?_
    refine JX.seq ?_
    refine JX.region ?_
    refine JL.val (yl_move rfl) rfl ?_
    refine JL.val (yl_move rfl) rfl ?_
    refine JL.val (yl_add rfl rfl) rfl ?_
    refine JL.val (yl_quo rfl rfl (by decide)) rfl ?_
    refine JL.val (yl_mul rfl rfl) rfl ?_
    refine JL.val (yl_build rfl (fun w => bld42_0_1 (w64 (q1.tdiv (w64 (2 * q0.H)))) (w64 ((w64 ((w64 ((q1.tmod (w64 (2 * q0.H))) + 1)).tdiv 2)) * 2)) w)) rfl ?_
    refine JL.val (yl_build rfl (fun w => bld104_0_1_2 (w64 (q1.tdiv (w64 (2 * q0.H)))) (w64 ((w64 ((w64 ((q1.tmod (w64 (2 * q0.H))) + 1)).tdiv 2)) * 2)) 1 1 w)) rfl ?_
    refine JL.eff (ef_alloc i104 i104z rfl) rfl ?_
    rintro _ _ ⟨g5, rfl, rfl⟩
    refine JL.eff (ef_store_box (i := 1) (v := .agg #[.int .i64 (w64 (q1.tdiv (w64 (2 * q0.H)))), .int .i64 (w64 ((w64 ((w64 ((q1.tmod (w64 (2 * q0.H))) + 1)).tdiv 2)) * 2)), .int .i64 1, .int .i64 1]) i104 rfl rfl rfl (i104s).symm (Nat.le_of_ble_eq_true rfl) (by simp [Value.cells, Value.oneCell'])) rfl ?_
    rintro _ _ rfl
    refine JL.nil ?_
    refine JE.weak (env' := [(4, ptrAt (some ⟨g1, 0, none⟩) 0), (6, .int .i64 (q1.tmod (w64 (2 * q0.H)))), (7, ptrAt (some ⟨g5, 0, none⟩) 0)]) (es' := [boxO 104 g1 [.int .i64 0, .int .i64 0, .int .i64 0, .int .i64 0], boxO 104 g5 [.int .i64 (w64 (q1.tdiv (w64 (2 * q0.H)))), .int .i64 (w64 ((w64 ((w64 ((q1.tmod (w64 (2 * q0.H))) + 1)).tdiv 2)) * 2)), .int .i64 1, .int .i64 1]]) [0, 1] ?_ ⟨rfl, rfl, rfl, trivial⟩ (by decide) rfl
    refine JE.code ?_
    refine JX.seq ?_
    refine JX.seq ?_
    refine JX.region ?_
    refine JL.val (yl_move rfl) rfl ?_
    refine JL.val (yl_rem rfl rfl (by decide)) rfl ?_
    refine JL.val (yl_eql rfl rfl) rfl ?_
    refine JL.nil ?_
    refine JE.code ?_
    obtain ⟨j7, hj7, hresj7⟩ := bind_some hres
    refine JX.cut (K := fun J => J [(4, ptrAt (some ⟨g1, 0, none⟩) 0), (7, ptrAt (some ⟨g5, 0, none⟩) 0)] [boxO 104 g1 [.int .i64 0, .int .i64 0, .int .i64 0, .int .i64 0], boxO 104 g5 [.int .i64 j7.At.X, .int .i64 j7.At.Y, .int .i64 j7.DX, .int .i64 j7.DY]]) ?_ ?_
    · have hres := hresj7
      refine JE.code ?_
      refine JX.seq ?_
      refine JX.region ?_
      refine JL.val (yl_loadn Go.Proofs.Try.underlying104 rfl i104 rfl (fun w hC => rd_box hC 1 rfl) rfl (i104s).symm i104p) rfl ?_
      refine JL.eff (ef_store_box (i := 0) (v := .agg #[.int .i64 j7.At.X, .int .i64 j7.At.Y, .int .i64 j7.DX, .int .i64 j7.DY]) i104 rfl rfl rfl (i104s).symm (Nat.le_of_ble_eq_true rfl) (by simp [Value.cells, Value.oneCell'])) rfl ?_
      rintro _ _ rfl
      refine JL.nil ?_
      refine JE.weak (env' := [(4, ptrAt (some ⟨g1, 0, none⟩) 0)]) (es' := [boxO 104 g1 [.int .i64 j7.At.X, .int .i64 j7.At.Y, .int .i64 j7.DX, .int .i64 j7.DY]]) [0] ?_ ⟨rfl, trivial⟩ (by decide) rfl
      refine JE.code ?_
      refine JX.ret ?_
      obtain rfl := Option.some.inj hres
      refine JE.ret (rs := [.cell 4 104]) (vs := [.agg #[.int .i64 j7.At.X, .int .i64 j7.At.Y, .int .i64 j7.DX, .int .i64 j7.DY]]) rfl ⟨rv_box 0 rfl rfl Go.Proofs.Try.underlying104 rfl i104 (i104s).symm, trivial⟩ ?_
      exact fun w' hb hs => ⟨_, _, ⟨rfl, rfl⟩, rfl, hb, hs.sel [] _ (by decide) rfl⟩
    · intro K
      rcases cond_some hj7 with ⟨hb, hres⟩ | ⟨hb, hres⟩
      · refine JX.condT rfl hb ?_
        refine JX.region ?_
        refine JL.val (yl_fieldAt (a := some _) Go.Proofs.Try.underlying104 rfl i2 i2n rfl rfl) rfl ?_
        refine JL.eff (ef_store_box (i := 1) (v := .int .i64 (-1)) i2 rfl rfl rfl (i2s).symm (Nat.le_of_ble_eq_true rfl) (by simp [Value.cells, Value.oneCell'])) rfl ?_
        rintro _ _ rfl
        refine JL.nil ?_
        have hj := Option.some.inj hres
        exact JE.weak [0, 1] (K) ⟨(by subst hj; rfl), (by subst hj; rfl), trivial⟩ (by decide) (by subst hj; rfl)
      · refine JX.condF rfl hb ?_
        refine JX.skip ?_
        have hj := Option.some.inj hres
        exact JE.weak [0, 1] (K) ⟨(by subst hj; rfl), (by subst hj; rfl), trivial⟩ (by decide) (by subst hj; rfl)

end Go.Sh
