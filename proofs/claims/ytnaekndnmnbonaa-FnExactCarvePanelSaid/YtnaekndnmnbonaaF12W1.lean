/- Walks through functions that the law reaches, printed by program. -/
import Derived.Test.YtnaekndnmnbonaaF12W0
set_option linter.unusedVariables false
set_option linter.unusedSimpArgs false
namespace Go.Sh
open Go Go.RowKit
/- spec.l00In -/
def sh115 (q0 : Int) (q1 : Int) (q2 : Int) : Option (Bool) := some ((decide (q1 ≤ q0)) && (decide (q0 ≤ q2)))
def T115 (r : Bool) (v : Value) (rs : List Own) : Prop := v = rets [.bool r] ∧ rs = []
set_option maxRecDepth 100000 in
theorem c115 {w : World} {q0 : Int} {q1 : Int} {q2 : Int} {r : Bool} (hres : sh115 q0 q1 q2 = some r) : Calls Go.Proofs.Try.prog 115 [.int .i64 q0, .int .i64 q1, .int .i64 q2].toArray w (Ret w (T115 r)) := by
  unfold sh115 at hres
  refine calls_of (n := 15) (M := []) (es := []) Go.Proofs.Try.func115 rfl rfl rfl (Sep.nil _ _ _) ?_
  refine JX.seq ?_
  refine JX.region ?_
  refine JL.val (yl_assign rfl) rfl ?_
  refine JL.nil ?_
  refine JE.code ?_
  refine JX.seq ?_
  refine JX.region ?_
  refine JL.val (yl_move rfl) rfl ?_
  refine JL.val (yl_move rfl) rfl ?_
  refine JL.val (yl_geq rfl rfl) rfl ?_
  refine JL.val (yl_move rfl) rfl ?_
  refine JL.cut (K := fun J => J [(14, .bool ((decide (q1 ≤ q0)) && (decide (q0 ≤ q2))))] []) 4 ?_ ?_
  · refine JL.val (yl_assign rfl) rfl ?_
    refine JL.nil ?_
    refine JE.weak (env' := [(6, .bool ((decide (q1 ≤ q0)) && (decide (q0 ≤ q2))))]) (es' := []) [] ?_ ⟨rfl, trivial⟩ (by decide) rfl
    refine JE.code ?_
    refine JX.ret ?_
    obtain rfl := Option.some.inj hres
    refine JE.ret (rs := [.tmp 6]) (vs := [.bool ((decide (q1 ≤ q0)) && (decide (q0 ≤ q2)))]) rfl ⟨rfl, trivial⟩ ?_
    exact fun w' hb hs => ⟨_, _, ⟨rfl, rfl⟩, rfl, hb, hs.sel [] _ (by decide) rfl⟩
  · intro K
    rcases Bool.eq_false_or_eq_true (decide (q1 ≤ q0)) with hb | hb
    · refine JL.set (d := 10) (v := .bool true) (congrArg (fun b => some (Value.bool b)) hb) ?_
      refine JL.gval rfl rfl (yl_move rfl) rfl ?_
      refine JL.gval rfl rfl (yl_move rfl) rfl ?_
      refine JL.gval rfl rfl (yl_leq rfl rfl) rfl ?_
      refine JL.val (yl_pick_true rfl rfl) rfl ?_
      exact JL.weak [] K ⟨(by rw [hb]; rfl), trivial⟩ (by decide) rfl
    · refine JL.set (d := 10) (v := .bool false) (congrArg (fun b => some (Value.bool b)) hb) ?_
      refine JL.gskip rfl rfl rfl rfl ?_
      refine JL.gskip rfl rfl rfl rfl ?_
      refine JL.gskip rfl rfl rfl rfl ?_
      refine JL.val (yl_pick_false rfl rfl) rfl ?_
      exact JL.weak [] K ⟨(by rw [hb]; rfl), trivial⟩ (by decide) rfl

/- spec.l02Side -/
def sh147 (q0 : Int) : Option (Bool) := Option.bind (sh115 q0 1 8) fun x1 => some x1
def T147 (r : Bool) (v : Value) (rs : List Own) : Prop := v = rets [.bool r] ∧ rs = []
set_option maxRecDepth 100000 in
theorem c147 {w : World} {q0 : Int} {r : Bool} (hres : sh147 q0 = some r) : Calls Go.Proofs.Try.prog 147 [.int .i64 q0].toArray w (Ret w (T147 r)) := by
  unfold sh147 at hres
  refine calls_of (n := 5) (M := []) (es := []) Go.Proofs.Try.func147 rfl rfl rfl (Sep.nil _ _ _) ?_
  refine JX.seq ?_
  refine JX.region ?_
  refine JL.val (yl_assign rfl) rfl ?_
  refine JL.nil ?_
  refine JE.code ?_
  refine JX.seq ?_
  refine JX.region ?_
  refine JL.val (yl_move rfl) rfl ?_
  obtain ⟨x1, hx1, hres⟩ := bind_some hres
  refine JL.eff (ef_call (T := T115 x1) Go.Proofs.Try.func115 rfl (by kernel_rfl) rfl (fun w hC => c115  hx1)) rfl ?_
  rintro _ _ ⟨_, ⟨rfl, rfl⟩, rfl⟩
  refine JL.val (yl_assign rfl) rfl ?_
  refine JL.nil ?_
  refine JE.code ?_
  refine JX.ret ?_
  obtain rfl := Option.some.inj hres
  refine JE.ret (rs := [.tmp 2]) (vs := [.bool x1]) rfl ⟨rfl, trivial⟩ ?_
  exact fun w' hb hs => ⟨_, _, ⟨rfl, rfl⟩, rfl, hb, hs.sel [] _ (by decide) rfl⟩

/- spec.l02Inner -/
def sh148 (q0 : Int) (q1 : Int) : Option (Int) := some (w64 ((w64 (q0 * (w64 (q1 - 1)))) + (w64 (q1 * (w64 (q0 - 1))))))
def T148 (r : Int) (v : Value) (rs : List Own) : Prop := v = rets [.int .i64 r] ∧ rs = []
set_option maxRecDepth 100000 in
theorem c148 {w : World} {q0 : Int} {q1 : Int} {r : Int} (hres : sh148 q0 q1 = some r) : Calls Go.Proofs.Try.prog 148 [.int .i64 q0, .int .i64 q1].toArray w (Ret w (T148 r)) := by
  unfold sh148 at hres
  refine calls_of (n := 14) (M := []) (es := []) Go.Proofs.Try.func148 rfl rfl rfl (Sep.nil _ _ _) ?_
  refine JX.seq ?_
  refine JX.region ?_
  refine JL.val (yl_assign rfl) rfl ?_
  refine JL.nil ?_
  refine JE.code ?_
  refine JX.seq ?_
  refine JX.region ?_
  refine JL.val (yl_move rfl) rfl ?_
  refine JL.val (yl_move rfl) rfl ?_
  refine JL.val (yl_sub rfl rfl) rfl ?_
  refine JL.val (yl_mul rfl rfl) rfl ?_
  refine JL.val (yl_move rfl) rfl ?_
  refine JL.val (yl_move rfl) rfl ?_
  refine JL.val (yl_sub rfl rfl) rfl ?_
  refine JL.val (yl_mul rfl rfl) rfl ?_
  refine JL.val (yl_add rfl rfl) rfl ?_
  refine JL.val (yl_assign rfl) rfl ?_
  refine JL.nil ?_
  refine JE.weak (env' := [(4, .int .i64 (w64 ((w64 (q0 * (w64 (q1 - 1)))) + (w64 (q1 * (w64 (q0 - 1)))))))]) (es' := []) [] ?_ ⟨rfl, trivial⟩ (by decide) rfl
  refine JE.code ?_
  refine JX.ret ?_
  obtain rfl := Option.some.inj hres
  refine JE.ret (rs := [.tmp 4]) (vs := [.int .i64 (w64 ((w64 (q0 * (w64 (q1 - 1)))) + (w64 (q1 * (w64 (q0 - 1))))))]) rfl ⟨rfl, trivial⟩ ?_
  exact fun w' hb hs => ⟨_, _, ⟨rfl, rfl⟩, rfl, hb, hs.sel [] _ (by decide) rfl⟩

/- spec.l02Ok -/
def sh96_1 (q0 : SPanel) : Int → Option (Int ⊕ (Unit ⊕ Bool))
  | x7 => bif decide (x7 < (q0.Breaks.length : Int)) then (Option.bind (getI q0.Breaks x7) fun x8 => Option.bind (sh115 x8 0 2) fun x9 => bif !x9 then (some (.inr (.inr false))) else (some (.inl (w64 (x7 + 1))))) else (some (.inr (.inl ())))
def sh96 (q0 : SPanel) : Option (Bool) := Option.bind (sh147 q0.W) fun x2 => Option.bind (bif !x2 then (some true) else (Option.bind (sh147 q0.H) fun x4 => some !x4)) fun cb3 => (Option.bind (bif cb3 then (some true) else (Option.bind (sh148 q0.W q0.H) fun x6 => some ((q0.Breaks.length : Int) != x6))) fun cb5 => (bif cb5 then (some false) else (Option.bind (iter (sh96_1 q0) 0) fun y1 => elimS y1 (fun r => some r) fun b1 => (some true))))
def T96 (r : Bool) (v : Value) (rs : List Own) : Prop := v = rets [.bool r] ∧ rs = []
set_option maxRecDepth 100000 in
theorem c96 {w : World} {q0 : SPanel} {a_0 : Option Addr} {n_0 : Nat} {a_0_2 : Option Addr} {n_0_2 c_0_2 : Nat} (g_0 : RdAt w a_0 n_0 [.int .i64 q0.W, .int .i64 q0.H, .slice a_0_2 n_0_2 c_0_2]) (g_0_2 : Rd w a_0_2 (eI64.fl q0.Breaks)) (l_0_2 : q0.Breaks.length = n_0_2) (k_0_2 : n_0_2 ≤ c_0_2) {r : Bool} (hres : sh96 q0 = some r) : Calls Go.Proofs.Try.prog 96 [ptrAt a_0 n_0].toArray w (Ret w (T96 r)) := by
  subst l_0_2
  obtain ⟨b_0, e_0, g_0⟩ := g_0.norm0
  rw [e_0]
  unfold sh96 at hres
  refine calls_of (n := 53) (M := []) (es := []) Go.Proofs.Try.func96 rfl rfl rfl (Sep.nil _ _ _) ?_
  refine JX.seq ?_
  refine JX.region ?_
  refine JL.val (yl_assign rfl) rfl ?_
  refine JL.nil ?_
  refine JE.code ?_
  refine JX.seq ?_
  refine JX.seq ?_
  refine JX.drawH [(0, .pure), (1, .pure), (2, .pure), (3, .read), (4, .must), (5, .pure), (6, .pure), (7, .pure), (8, .pure), (9, .pure), (10, .read), (11, .must), (12, .pure), (13, .pure), (14, .pure), (15, .pure), (16, .pure), (17, .pure), (18, .read), (19, .pure), (20, .pure), (21, .pure), (22, .pure), (23, .read), (24, .pure), (25, .pure), (26, .pure), (27, .read), (28, .must), (29, .pure), (30, .pure)] [] [] [] [] [] mixedP (by kernel_rfl) (by kernel_rfl) (by decide) rfl rfl ?_
  intro wrr1 Nr1 hFr1
  refine JH.pure rfl (yl_move rfl) rfl ?_
  refine JH.pure rfl (yl_nilCheckAt rfl (Rd.some g_0 (j := 0) rfl)) rfl ?_
  refine JH.pure rfl (yl_fieldAt Go.Proofs.Try.underlying39 rfl i2 i2n rfl (Rd.some g_0 (j := 0) rfl)) rfl ?_
  refine JH.read rfl (yl_load1 Go.Proofs.Try.underlying2 rfl rfl (fun w hw => hFr1.arg g_0 hw) rfl) rfl ?_
  obtain ⟨x2, hx2, hres⟩ := bind_some hres
  refine JH.must rfl (ef_call (T := T147 x2) Go.Proofs.Try.func147 rfl (by kernel_rfl) rfl (fun w hC => c147  hx2)) rfl rfl ?_
  rintro _ _ ⟨_, ⟨rfl, rfl⟩, rfl⟩
  refine JH.pure rfl (yl_not rfl) rfl ?_
  refine JH.pure rfl (yl_move rfl) rfl ?_
  obtain ⟨cb3, hcb3, hres⟩ := bind_some hres
  refine JH.cut (K := fun J => J [(0, ptrAt b_0 0), (17, .bool cb3)] []) 7 ?_ ?_
  · refine JH.pure rfl (yl_move rfl) rfl ?_
    obtain ⟨cb5, hcb5, hres⟩ := bind_some hres
    refine JH.cut (K := fun J => J [(0, ptrAt b_0 0), (34, .bool cb5)] []) 16 ?_ ?_
    · refine JH.nil ?_
      refine JE.weak (env' := [(0, ptrAt b_0 0), (34, .bool cb5)]) (es' := []) [] ?_ ⟨rfl, rfl, trivial⟩ (by decide) rfl
      refine JE.code ?_
      rcases cond_some hres with ⟨hb, hres⟩ | ⟨hb, hres⟩
      · refine JX.condT rfl hb ?_
        refine JX.seq ?_
        refine JX.region ?_
        refine JL.val (yl_assign rfl) rfl ?_
        refine JL.nil ?_
        refine JE.code ?_
        refine JX.ret ?_
        obtain rfl := Option.some.inj hres
        refine JE.ret (rs := [.tmp 2]) (vs := [.bool false]) rfl ⟨rfl, trivial⟩ ?_
        exact fun w' hb hs => ⟨_, _, ⟨rfl, rfl⟩, rfl, hb, hs.sel [] _ (by decide) rfl⟩
      · refine JX.condF rfl hb ?_
        refine JX.skip ?_
        refine JE.code ?_
        refine JX.seq ?_
        refine JX.seq ?_
        refine JX.region ?_
        refine JL.val (yl_assign rfl) rfl ?_
        refine JL.nil ?_
        refine JE.code ?_
        refine JX.block ?_
        obtain ⟨y1, hy1, hresO1⟩ := bind_some hres
        refine JX.loop (I := fun (s1 : Int) aa ww => St w [] 53 [(0, ptrAt b_0 0), (3, .int .i64 s1)] [] aa ww) (sh96_1 q0) hy1 (fun a w h => h.weak ⟨rfl, rfl, trivial⟩ [] (by decide) rfl) ?_
        rintro x7 o1 hres hox1 aa ww hS
        refine (?_ : JX Go.Proofs.Try.prog w [] 53 _ _ [(0, ptrAt b_0 0), (3, .int .i64 x7)] [] _) aa ww hS
        clear hS
        unfold sh96_1 at hres
        refine JX.seq ?_
        refine JX.seq ?_
        refine JX.region ?_
        refine JL.val (yl_move rfl) rfl ?_
        refine JL.val (yl_move rfl) rfl ?_
        refine JL.val (yl_nilCheckAt rfl (Rd.some g_0 (j := 0) rfl)) rfl ?_
        refine JL.val (yl_fieldAt Go.Proofs.Try.underlying39 rfl i33 i33n rfl (Rd.some g_0 (j := 0) rfl)) rfl ?_
        refine JL.val (yl_load1 Go.Proofs.Try.underlying33 rfl rfl (fun w hC => rd_arg g_0 hC) rfl) rfl ?_
        refine JL.val (yl_len_slice Go.Proofs.Try.underlying33 rfl) rfl ?_
        refine JL.val (yl_lss rfl rfl) rfl ?_
        refine JL.nil ?_
        refine JE.weak (env' := [(0, ptrAt b_0 0), (3, .int .i64 x7), (41, .bool (decide (x7 < (q0.Breaks.length : Int))))]) (es' := []) [] ?_ ⟨rfl, rfl, rfl, trivial⟩ (by decide) rfl
        refine JE.code ?_
        rcases cond_some hres with ⟨hb, hres⟩ | ⟨hb, hres⟩
        · refine JX.condT rfl hb ?_
          refine JX.skip ?_
          refine JE.code ?_
          refine JX.seq ?_
          refine JX.block ?_
          refine JX.seq ?_
          refine JX.region ?_
          refine JL.val (yl_move rfl) rfl ?_
          refine JL.val (yl_nilCheckAt rfl (Rd.some g_0 (j := 0) rfl)) rfl ?_
          refine JL.val (yl_fieldAt Go.Proofs.Try.underlying39 rfl i33 i33n rfl (Rd.some g_0 (j := 0) rfl)) rfl ?_
          refine JL.val (yl_load1 Go.Proofs.Try.underlying33 rfl rfl (fun w hC => rd_arg g_0 hC) rfl) rfl ?_
          refine JL.val (yl_move rfl) rfl ?_
          obtain ⟨x8, hx8, hres⟩ := bind_some hres
          refine JL.val (yl_idxT Go.Proofs.Try.underlying33 i2 i2s rfl rfl hx8 rfl (fun w hC => rd_arg g_0_2 hC)) rfl ?_
          refine JL.val (yl_loadT0 Go.Proofs.Try.underlying2 rfl rfl hx8 (fun w hC => rd_arg g_0_2 hC) rfl) rfl ?_
          obtain ⟨x9, hx9, hres⟩ := bind_some hres
          refine JL.eff (ef_call (T := T115 x9) Go.Proofs.Try.func115 rfl (by kernel_rfl) rfl (fun w hC => c115  hx9)) rfl ?_
          rintro _ _ ⟨_, ⟨rfl, rfl⟩, rfl⟩
          refine JL.val (yl_not rfl) rfl ?_
          refine JL.nil ?_
          refine JE.weak (env' := [(0, ptrAt b_0 0), (3, .int .i64 x7), (52, .bool !x9)]) (es' := []) [] ?_ ⟨rfl, rfl, rfl, trivial⟩ (by decide) rfl
          refine JE.code ?_
          rcases cond_some hres with ⟨hb, hres⟩ | ⟨hb, hres⟩
          · refine JX.condT rfl hb ?_
            refine JX.seq ?_
            refine JX.region ?_
            refine JL.val (yl_assign rfl) rfl ?_
            refine JL.nil ?_
            refine JE.code ?_
            refine JX.ret ?_
            refine JE.qbr ?_
            refine JE.qbr ?_
            have hres := elimS_inr hresO1 (hox1 _ (Option.some.inj hres).symm)
            obtain rfl := Option.some.inj hres
            refine JE.ret (rs := [.tmp 2]) (vs := [.bool false]) rfl ⟨rfl, trivial⟩ ?_
            exact fun w' hb hs => ⟨_, _, ⟨rfl, rfl⟩, rfl, hb, hs.sel [] _ (by decide) rfl⟩
          · refine JX.condF rfl hb ?_
            refine JX.skip ?_
            refine JE.code ?_
            refine JX.region ?_
            refine JL.val (yl_move rfl) rfl ?_
            refine JL.val (yl_add rfl rfl) rfl ?_
            refine JL.val (yl_assign rfl) rfl ?_
            refine JL.nil ?_
            refine JE.cont hres ?_
            exact fun a w h => h.weak ⟨rfl, rfl, trivial⟩ [] (by decide) rfl
        · refine JX.condF rfl hb ?_
          refine JX.exit ?_
          refine JE.qb rfl ?_
          obtain ⟨b1, hb1⟩ : ∃ b : Unit, b = () := ⟨_, rfl⟩
          have hy1 : Sum.inl b1 = y1 := by rw [hb1]; exact hox1 _ (Option.some.inj hres).symm
          have hres := elimS_inl hresO1 hy1
          refine JE.weak (env' := []) (es' := []) [] ?_ trivial (by decide) (by subst hb1; rfl)
          refine JE.code ?_
          refine JX.seq ?_
          refine JX.region ?_
          refine JL.val (yl_assign rfl) rfl ?_
          refine JL.nil ?_
          refine JE.code ?_
          refine JX.ret ?_
          obtain rfl := Option.some.inj hres
          refine JE.ret (rs := [.tmp 2]) (vs := [.bool true]) rfl ⟨rfl, trivial⟩ ?_
          exact fun w' hb hs => ⟨_, _, ⟨rfl, rfl⟩, rfl, hb, hs.sel [] _ (by decide) rfl⟩
    · intro K
      rcases cond_some hcb5 with ⟨hb, hres⟩ | ⟨hb, hres⟩
      · refine JH.set (d := 18) (v := .bool true) (congrArg (fun b => some (Value.bool b)) hb) ?_
        refine JH.gskip rfl rfl rfl rfl rfl rfl ?_
        refine JH.gskip rfl rfl rfl rfl rfl rfl ?_
        refine JH.gskip rfl rfl rfl rfl rfl rfl ?_
        refine JH.gskip rfl rfl rfl rfl rfl rfl ?_
        refine JH.gskip rfl rfl rfl rfl rfl rfl ?_
        refine JH.gskip rfl rfl rfl rfl rfl rfl ?_
        refine JH.gskip rfl rfl rfl rfl rfl rfl ?_
        refine JH.gskip rfl rfl rfl rfl rfl rfl ?_
        refine JH.gskip rfl rfl rfl rfl rfl rfl ?_
        refine JH.gskip rfl rfl rfl rfl rfl rfl ?_
        refine JH.gskip rfl rfl rfl rfl rfl rfl ?_
        refine JH.gskip rfl rfl rfl rfl rfl rfl ?_
        refine JH.gskip rfl rfl rfl rfl rfl rfl ?_
        refine JH.gskip rfl rfl rfl rfl rfl rfl ?_
        refine JH.gskip rfl rfl rfl rfl rfl rfl ?_
        refine JH.pure rfl (yl_pick_true rfl rfl) rfl ?_
        have he := Option.some.inj hres
        exact JH.weak [] K ⟨rfl, (by rw [← he]; rfl), trivial⟩ (by decide) rfl
      · refine JH.set (d := 18) (v := .bool false) (congrArg (fun b => some (Value.bool b)) hb) ?_
        refine JH.gpure rfl rfl rfl (yl_move rfl) rfl ?_
        refine JH.gpure rfl rfl rfl (yl_nilCheckAt rfl (Rd.some g_0 (j := 0) rfl)) rfl ?_
        refine JH.gpure rfl rfl rfl (yl_fieldAt Go.Proofs.Try.underlying39 rfl i33 i33n rfl (Rd.some g_0 (j := 0) rfl)) rfl ?_
        refine JH.gread rfl rfl rfl (yl_load1 Go.Proofs.Try.underlying33 rfl rfl (fun w hw => hFr1.arg g_0 hw) rfl) rfl ?_
        refine JH.gpure rfl rfl rfl (yl_len_slice Go.Proofs.Try.underlying33 rfl) rfl ?_
        refine JH.gpure rfl rfl rfl (yl_move rfl) rfl ?_
        refine JH.gpure rfl rfl rfl (yl_nilCheckAt rfl (Rd.some g_0 (j := 0) rfl)) rfl ?_
        refine JH.gpure rfl rfl rfl (yl_fieldAt Go.Proofs.Try.underlying39 rfl i2 i2n rfl (Rd.some g_0 (j := 0) rfl)) rfl ?_
        refine JH.gread rfl rfl rfl (yl_load1 Go.Proofs.Try.underlying2 rfl rfl (fun w hw => hFr1.arg g_0 hw) rfl) rfl ?_
        refine JH.gpure rfl rfl rfl (yl_move rfl) rfl ?_
        refine JH.gpure rfl rfl rfl (yl_nilCheckAt rfl (Rd.some g_0 (j := 0) rfl)) rfl ?_
        refine JH.gpure rfl rfl rfl (yl_fieldAt Go.Proofs.Try.underlying39 rfl i2 i2n rfl (Rd.some g_0 (j := 0) rfl)) rfl ?_
        refine JH.gread rfl rfl rfl (yl_load1 Go.Proofs.Try.underlying2 rfl rfl (fun w hw => hFr1.arg g_0 hw) rfl) rfl ?_
        obtain ⟨x6, hx6, hres⟩ := bind_some hres
        refine JH.gmust rfl rfl rfl (ef_call (T := T148 x6) Go.Proofs.Try.func148 rfl (by kernel_rfl) rfl (fun w hC => c148  hx6)) rfl rfl ?_
        rintro _ _ ⟨_, ⟨rfl, rfl⟩, rfl⟩
        refine JH.gpure rfl rfl rfl (yl_neq rfl rfl) rfl ?_
        refine JH.pure rfl (yl_pick_false rfl rfl) rfl ?_
        have he := Option.some.inj hres
        exact JH.weak [] K ⟨rfl, (by rw [← he]; rfl), trivial⟩ (by decide) rfl
  · intro K
    rcases cond_some hcb3 with ⟨hb, hres⟩ | ⟨hb, hres⟩
    · refine JH.set (d := 10) (v := .bool true) (congrArg (fun b => some (Value.bool b)) hb) ?_
      refine JH.gskip rfl rfl rfl rfl rfl rfl ?_
      refine JH.gskip rfl rfl rfl rfl rfl rfl ?_
      refine JH.gskip rfl rfl rfl rfl rfl rfl ?_
      refine JH.gskip rfl rfl rfl rfl rfl rfl ?_
      refine JH.gskip rfl rfl rfl rfl rfl rfl ?_
      refine JH.gskip rfl rfl rfl rfl rfl rfl ?_
      refine JH.pure rfl (yl_pick_true rfl rfl) rfl ?_
      have he := Option.some.inj hres
      exact JH.weak [] K ⟨rfl, (by rw [← he]; rfl), trivial⟩ (by decide) rfl
    · refine JH.set (d := 10) (v := .bool false) (congrArg (fun b => some (Value.bool b)) hb) ?_
      refine JH.gpure rfl rfl rfl (yl_move rfl) rfl ?_
      refine JH.gpure rfl rfl rfl (yl_nilCheckAt rfl (Rd.some g_0 (j := 0) rfl)) rfl ?_
      refine JH.gpure rfl rfl rfl (yl_fieldAt Go.Proofs.Try.underlying39 rfl i2 i2n rfl (Rd.some g_0 (j := 0) rfl)) rfl ?_
      refine JH.gread rfl rfl rfl (yl_load1 Go.Proofs.Try.underlying2 rfl rfl (fun w hw => hFr1.arg g_0 hw) rfl) rfl ?_
      obtain ⟨x4, hx4, hres⟩ := bind_some hres
      refine JH.gmust rfl rfl rfl (ef_call (T := T147 x4) Go.Proofs.Try.func147 rfl (by kernel_rfl) rfl (fun w hC => c147  hx4)) rfl rfl ?_
      rintro _ _ ⟨_, ⟨rfl, rfl⟩, rfl⟩
      refine JH.gpure rfl rfl rfl (yl_not rfl) rfl ?_
      refine JH.pure rfl (yl_pick_false rfl rfl) rfl ?_
      have he := Option.some.inj hres
      exact JH.weak [] K ⟨rfl, (by rw [← he]; rfl), trivial⟩ (by decide) rfl

/- spec.l20Code -/
def sh101 (q0 : SPanel) (q1 : Int) (q2 : Int) : Option (List SPoint × Int) := Option.bind (sh96 q0) fun x1 => bif !x1 then (some (([] : List SPoint), 1)) else (Option.bind (sh97 q0) fun x3 => Option.bind (sh115 q1 0 (w64 (((x3.1.length : Nat) : Int) - 1))) fun x13 => Option.bind (bif !x13 then (some true) else (Option.bind (sh115 q2 1 1000) fun x15 => some !x15)) fun cb14 => (bif cb14 then (some (([] : List SPoint), 2)) else (Option.bind (getI x3.1 q1) fun x17 => some (x17, 0))))
def T101 (r : List SPoint × Int) (v : Value) (rs : List Own) : Prop := ∃ (a0 : Option Addr) (n0 c0 : Nat), r.1.length = n0 ∧ v = rets [.slice a0 n0 c0, .int .i64 r.2] ∧ rs = [rowT 93 eSPoint a0 n0 c0 r.1]
set_option maxRecDepth 100000 in
theorem c101 {w : World} {q0 : SPanel} {a_0 : Option Addr} {n_0 : Nat} {a_0_2 : Option Addr} {n_0_2 c_0_2 : Nat} (g_0 : RdAt w a_0 n_0 [.int .i64 q0.W, .int .i64 q0.H, .slice a_0_2 n_0_2 c_0_2]) (g_0_2 : Rd w a_0_2 (eI64.fl q0.Breaks)) (l_0_2 : q0.Breaks.length = n_0_2) (k_0_2 : n_0_2 ≤ c_0_2) {q1 : Int} {q2 : Int} {r : List SPoint × Int} (hres : sh101 q0 q1 q2 = some r) : Calls Go.Proofs.Try.prog 101 [ptrAt a_0 n_0, .int .i64 q1, .int .i64 q2].toArray w (Ret w (T101 r)) := by
  subst l_0_2
  obtain ⟨b_0, e_0, g_0⟩ := g_0.norm0
  rw [e_0]
  unfold sh101 at hres
  refine calls_of (n := 33) (M := []) (es := []) Go.Proofs.Try.func101 rfl rfl rfl (Sep.nil _ _ _) ?_
  refine JX.seq ?_
  refine JX.region ?_
  refine JL.val (yl_assign rfl) rfl ?_
  refine JL.val (yl_assign rfl) rfl ?_
  refine JL.nil ?_
  refine JE.code ?_
  refine JX.seq ?_
  refine JX.seq ?_
  refine JX.region ?_
  refine JL.val (yl_move rfl) rfl ?_
  obtain ⟨x1, hx1, hres⟩ := bind_some hres
  refine JL.eff (ef_call (T := T96 x1) Go.Proofs.Try.func96 rfl (by kernel_rfl) rfl (fun w hC => c96 (RdAt.of0 (rd_arg g_0 hC)) (rd_arg g_0_2 hC) rfl k_0_2 hx1)) rfl ?_
  rintro _ _ ⟨_, ⟨rfl, rfl⟩, rfl⟩
  refine JL.val (yl_not rfl) rfl ?_
  refine JL.nil ?_
  refine JE.code ?_
  rcases cond_some hres with ⟨hb, hres⟩ | ⟨hb, hres⟩
  · refine JX.condT rfl hb ?_
    refine JX.seq ?_
    refine JX.region ?_
    refine JL.val (yl_assign rfl) rfl ?_
    refine JL.val (yl_assign rfl) rfl ?_
    refine JL.nil ?_
    refine JE.code ?_
    refine JX.ret ?_
    refine JE.nilrow 93 eSPoint ?_
    obtain rfl := Option.some.inj hres
    refine JE.ret (rs := [.tmp 6, .tmp 7]) (vs := [.slice none 0 0, .int .i64 1]) rfl ⟨rfl, rfl, trivial⟩ ?_
    exact fun w' hb hs => ⟨_, _, ⟨none, 0, 0, rfl, rfl, rfl⟩, rfl, hb, hs.sel [0] _ (by decide) rfl⟩
  · refine JX.condF rfl hb ?_
    refine JX.skip ?_
    refine JE.code ?_
    refine JX.seq ?_
    refine JX.region ?_
    refine JL.val (yl_move rfl) rfl ?_
    obtain ⟨x3, hx3, hres⟩ := bind_some hres
    refine JL.eff (ef_call (T := T97 x3) Go.Proofs.Try.func97 rfl (by kernel_rfl) rfl (fun w hC => c97 (RdAt.of0 (rd_arg g_0 hC)) (rd_arg g_0_2 hC) rfl k_0_2 hx3)) rfl ?_
    rintro _ _ ⟨_, ⟨a4, _, cp5, hs7, rfl, hi8, a10, _, cp11, rfl, rfl, rfl⟩, rfl⟩
    refine JL.val (yl_move rfl) rfl ?_
    refine JL.val (yl_extract rfl rfl) rfl ?_
    refine JL.val (yl_extract rfl rfl) rfl ?_
    refine JL.val (yl_assign rfl) rfl ?_
    refine JL.val (yl_assign rfl) rfl ?_
    refine JL.nil ?_
    refine JE.weak (env' := [(1, .int .i64 q1), (2, .int .i64 q2), (8, .slice a4 x3.1.length cp5)]) (es' := [rowT 22 eHd a4 x3.1.length cp5 hs7, innO 93 eSPoint none hs7 x3.1]) [0, 1] ?_ ⟨rfl, rfl, rfl, trivial⟩ (by decide) rfl
    refine JE.code ?_
    refine JX.seq ?_
    refine JX.seq ?_
    refine JX.region ?_
    refine JL.val (yl_move rfl) rfl ?_
    refine JL.val (yl_move rfl) rfl ?_
    refine JL.val (yl_len_slice Go.Proofs.Try.underlying59 rfl) rfl ?_
    refine JL.val (yl_sub rfl rfl) rfl ?_
    obtain ⟨x13, hx13, hres⟩ := bind_some hres
    refine JL.eff (ef_call (T := T115 x13) Go.Proofs.Try.func115 rfl (by kernel_rfl) rfl (fun w hC => c115  hx13)) rfl ?_
    rintro _ _ ⟨_, ⟨rfl, rfl⟩, rfl⟩
    refine JL.val (yl_not rfl) rfl ?_
    refine JL.val (yl_move rfl) rfl ?_
    obtain ⟨cb14, hcb14, hres⟩ := bind_some hres
    refine JL.cut (K := fun J => J [(1, .int .i64 q1), (8, .slice a4 x3.1.length cp5), (28, .bool cb14)] [rowT 22 eHd a4 x3.1.length cp5 hs7, innO 93 eSPoint none hs7 x3.1]) 4 ?_ ?_
    · refine JL.nil ?_
      refine JE.weak (env' := [(1, .int .i64 q1), (8, .slice a4 x3.1.length cp5), (28, .bool cb14)]) (es' := [rowT 22 eHd a4 x3.1.length cp5 hs7, innO 93 eSPoint none hs7 x3.1]) [0, 1] ?_ ⟨rfl, rfl, rfl, trivial⟩ (by decide) rfl
      refine JE.code ?_
      rcases cond_some hres with ⟨hb, hres⟩ | ⟨hb, hres⟩
      · refine JX.condT rfl hb ?_
        refine JX.seq ?_
        refine JX.region ?_
        refine JL.val (yl_assign rfl) rfl ?_
        refine JL.val (yl_assign rfl) rfl ?_
        refine JL.nil ?_
        refine JE.weak (env' := [(6, .slice none 0 0), (7, .int .i64 2)]) (es' := []) [] ?_ ⟨rfl, rfl, trivial⟩ (by decide) rfl
        refine JE.code ?_
        refine JX.ret ?_
        refine JE.nilrow 93 eSPoint ?_
        obtain rfl := Option.some.inj hres
        refine JE.ret (rs := [.tmp 6, .tmp 7]) (vs := [.slice none 0 0, .int .i64 2]) rfl ⟨rfl, rfl, trivial⟩ ?_
        exact fun w' hb hs => ⟨_, _, ⟨none, 0, 0, rfl, rfl, rfl⟩, rfl, hb, hs.sel [0] _ (by decide) rfl⟩
      · refine JX.condF rfl hb ?_
        refine JX.skip ?_
        refine JE.code ?_
        refine JX.seq ?_
        refine JX.region ?_
        refine JL.val (yl_move rfl) rfl ?_
        refine JL.val (yl_move rfl) rfl ?_
        obtain ⟨x17, hx17, hres⟩ := bind_some hres
        obtain ⟨ha18, hc19, hhx17⟩ := Inn.sub hi8 hx17
        refine JL.val (yl_idxT Go.Proofs.Try.underlying59 i22 i22s rfl rfl hhx17 (Inn.len hi8) (fun w hC => rd_row hC 0 rfl)) rfl ?_
        refine JL.val (yl_loadT0 (z := ⟨ha18, x17.length, hc19⟩) Go.Proofs.Try.underlying22 rfl rfl hhx17 (fun w hC => rd_row hC 0 rfl) rfl) rfl ?_
        refine JL.val (yl_assign rfl) rfl ?_
        refine JL.val (yl_assign rfl) rfl ?_
        refine JL.nil ?_
        refine JE.weak (env' := [(6, .slice ha18 x17.length hc19), (7, .int .i64 0)]) (es' := [rowT 22 eHd a4 x3.1.length cp5 hs7, innO 93 eSPoint none hs7 x3.1]) [0, 1] ?_ ⟨rfl, rfl, trivial⟩ (by decide) rfl
        refine JE.code ?_
        refine JX.ret ?_
        refine JE.focus (es' := [rowT 22 eHd a4 x3.1.length cp5 hs7]) [0, 1] (by decide) rfl hhx17 hx17 ?_
        obtain rfl := Option.some.inj hres
        refine JE.ret (rs := [.tmp 6, .tmp 7]) (vs := [.slice ha18 x17.length hc19, .int .i64 0]) rfl ⟨rfl, rfl, trivial⟩ ?_
        exact fun w' hb hs => ⟨_, _, ⟨ha18, x17.length, hc19, rfl, rfl, rfl⟩, rfl, hb, hs.sel [2] _ (by decide) rfl⟩
    · intro K
      rcases cond_some hcb14 with ⟨hb, hres⟩ | ⟨hb, hres⟩
      · refine JL.set (d := 24) (v := .bool true) (congrArg (fun b => some (Value.bool b)) hb) ?_
        refine JL.gskip rfl rfl rfl rfl ?_
        refine JL.gskip rfl rfl rfl rfl ?_
        refine JL.gskip rfl rfl rfl rfl ?_
        refine JL.val (yl_pick_true rfl rfl) rfl ?_
        have he := Option.some.inj hres
        exact JL.weak [0, 1] K ⟨rfl, rfl, (by rw [← he]; rfl), trivial⟩ (by decide) rfl
      · refine JL.set (d := 24) (v := .bool false) (congrArg (fun b => some (Value.bool b)) hb) ?_
        refine JL.gval rfl rfl (yl_move rfl) rfl ?_
        obtain ⟨x15, hx15, hres⟩ := bind_some hres
        refine JL.geff rfl rfl (ef_call (T := T115 x15) Go.Proofs.Try.func115 rfl (by kernel_rfl) rfl (fun w hC => c115  hx15)) rfl ?_
        rintro _ _ ⟨_, ⟨rfl, rfl⟩, rfl⟩
        refine JL.gval rfl rfl (yl_not rfl) rfl ?_
        refine JL.val (yl_pick_false rfl rfl) rfl ?_
        have he := Option.some.inj hres
        exact JL.weak [0, 1] K ⟨rfl, rfl, (by rw [← he]; rfl), trivial⟩ (by decide) rfl

/- spec.l22Code -/
def sh111 (q0 : SPanel) (q1 : Int) (q2 : Int) (q3 : Int) (q4 : Int) : Option (List SPoint × Int) := Option.bind (sh101 q0 q1 q2) fun x1 => Option.bind (bif x1.2 == 0 then (Option.bind (sh115 q3 1 500) fun x6 => Option.bind (bif !x6 then (some true) else (Option.bind (sh115 q4 1 500) fun x8 => some !x8)) fun cb7 => (some cb7)) else (some false)) fun cb5 => (Option.bind (bif cb5 then (some 2) else (some x1.2)) fun j9 => (some (x1.1, j9)))
def T111 (r : List SPoint × Int) (v : Value) (rs : List Own) : Prop := ∃ (a0 : Option Addr) (n0 c0 : Nat), r.1.length = n0 ∧ v = rets [.slice a0 n0 c0, .int .i64 r.2] ∧ rs = [rowT 93 eSPoint a0 n0 c0 r.1]
set_option maxRecDepth 100000 in
theorem c111 {w : World} {q0 : SPanel} {a_0 : Option Addr} {n_0 : Nat} {a_0_2 : Option Addr} {n_0_2 c_0_2 : Nat} (g_0 : RdAt w a_0 n_0 [.int .i64 q0.W, .int .i64 q0.H, .slice a_0_2 n_0_2 c_0_2]) (g_0_2 : Rd w a_0_2 (eI64.fl q0.Breaks)) (l_0_2 : q0.Breaks.length = n_0_2) (k_0_2 : n_0_2 ≤ c_0_2) {q1 : Int} {q2 : Int} {q3 : Int} {q4 : Int} {r : List SPoint × Int} (hres : sh111 q0 q1 q2 q3 q4 = some r) : Calls Go.Proofs.Try.prog 111 [ptrAt a_0 n_0, .int .i64 q1, .int .i64 q2, .int .i64 q3, .int .i64 q4].toArray w (Ret w (T111 r)) := by
  subst l_0_2
  obtain ⟨b_0, e_0, g_0⟩ := g_0.norm0
  rw [e_0]
  unfold sh111 at hres
  refine calls_of (n := 35) (M := []) (es := []) Go.Proofs.Try.func111 rfl rfl rfl (Sep.nil _ _ _) ?_
  refine JX.seq ?_
  refine JX.region ?_
  refine JL.val (yl_assign rfl) rfl ?_
  refine JL.val (yl_assign rfl) rfl ?_
  refine JL.nil ?_
  refine JE.code ?_
  refine JX.seq ?_
  refine JX.region ?_
  refine JL.val (yl_move rfl) rfl ?_
  refine JL.val (yl_move rfl) rfl ?_
  refine JL.val (yl_move rfl) rfl ?_
  obtain ⟨x1, hx1, hres⟩ := bind_some hres
  refine JL.eff (ef_call (T := T101 x1) Go.Proofs.Try.func101 rfl (by kernel_rfl) rfl (fun w hC => c101 (RdAt.of0 (rd_arg g_0 hC)) (rd_arg g_0_2 hC) rfl k_0_2 hx1)) rfl ?_
  rintro _ _ ⟨_, ⟨a2, _, cp3, rfl, rfl, rfl⟩, rfl⟩
  refine JL.val (yl_move rfl) rfl ?_
  refine JL.val (yl_extract rfl rfl) rfl ?_
  refine JL.val (yl_extract rfl rfl) rfl ?_
  refine JL.val (yl_assign rfl) rfl ?_
  refine JL.val (yl_assign rfl) rfl ?_
  refine JL.nil ?_
  refine JE.weak (env' := [(3, .int .i64 q3), (4, .int .i64 q4), (12, .slice a2 x1.1.length cp3), (13, .int .i64 x1.2)]) (es' := [rowT 93 eSPoint a2 x1.1.length cp3 x1.1]) [0] ?_ ⟨rfl, rfl, rfl, rfl, trivial⟩ (by decide) rfl
  refine JE.code ?_
  refine JX.seq ?_
  refine JX.seq ?_
  refine JX.region ?_
  refine JL.val (yl_move rfl) rfl ?_
  refine JL.val (yl_eql rfl rfl) rfl ?_
  refine JL.val (yl_move rfl) rfl ?_
  obtain ⟨cb5, hcb5, hres⟩ := bind_some hres
  refine JL.cut (K := fun J => J [(12, .slice a2 x1.1.length cp3), (13, .int .i64 x1.2), (32, .bool cb5)] [rowT 93 eSPoint a2 x1.1.length cp3 x1.1]) 9 ?_ ?_
  · refine JL.nil ?_
    refine JE.weak (env' := [(12, .slice a2 x1.1.length cp3), (13, .int .i64 x1.2), (32, .bool cb5)]) (es' := [rowT 93 eSPoint a2 x1.1.length cp3 x1.1]) [0] ?_ ⟨rfl, rfl, rfl, trivial⟩ (by decide) rfl
    refine JE.code ?_
    obtain ⟨j9, hj9, hresj9⟩ := bind_some hres
    refine JX.cut (K := fun J => J [(12, .slice a2 x1.1.length cp3), (13, .int .i64 j9)] [rowT 93 eSPoint a2 x1.1.length cp3 x1.1]) ?_ ?_
    · have hres := hresj9
      refine JE.code ?_
      refine JX.seq ?_
      refine JX.region ?_
      refine JL.val (yl_move rfl) rfl ?_
      refine JL.val (yl_move rfl) rfl ?_
      refine JL.val (yl_assign rfl) rfl ?_
      refine JL.val (yl_assign rfl) rfl ?_
      refine JL.nil ?_
      refine JE.weak (env' := [(10, .slice a2 x1.1.length cp3), (11, .int .i64 j9)]) (es' := [rowT 93 eSPoint a2 x1.1.length cp3 x1.1]) [0] ?_ ⟨rfl, rfl, trivial⟩ (by decide) rfl
      refine JE.code ?_
      refine JX.ret ?_
      obtain rfl := Option.some.inj hres
      refine JE.ret (rs := [.tmp 10, .tmp 11]) (vs := [.slice a2 x1.1.length cp3, .int .i64 j9]) rfl ⟨rfl, rfl, trivial⟩ ?_
      exact fun w' hb hs => ⟨_, _, ⟨a2, x1.1.length, cp3, rfl, rfl, rfl⟩, rfl, hb, hs.sel [0] _ (by decide) rfl⟩
    · intro K
      rcases cond_some hj9 with ⟨hb, hres⟩ | ⟨hb, hres⟩
      · refine JX.condT rfl hb ?_
        refine JX.region ?_
        refine JL.val (yl_assign rfl) rfl ?_
        refine JL.nil ?_
        have hj := Option.some.inj hres
        exact JE.weak [0] (K) ⟨(by subst hj; rfl), (by subst hj; rfl), trivial⟩ (by decide) (by subst hj; rfl)
      · refine JX.condF rfl hb ?_
        refine JX.skip ?_
        have hj := Option.some.inj hres
        exact JE.weak [0] (K) ⟨(by subst hj; rfl), (by subst hj; rfl), trivial⟩ (by decide) (by subst hj; rfl)
  · intro K
    rcases cond_some hcb5 with ⟨hb, hres⟩ | ⟨hb, hres⟩
    · refine JL.set (d := 23) (v := .bool true) (congrArg (fun b => some (Value.bool b)) hb) ?_
      refine JL.gval rfl rfl (yl_move rfl) rfl ?_
      obtain ⟨x6, hx6, hres⟩ := bind_some hres
      refine JL.geff rfl rfl (ef_call (T := T115 x6) Go.Proofs.Try.func115 rfl (by kernel_rfl) rfl (fun w hC => c115  hx6)) rfl ?_
      rintro _ _ ⟨_, ⟨rfl, rfl⟩, rfl⟩
      refine JL.gval rfl rfl (yl_not rfl) rfl ?_
      refine JL.gval rfl rfl (yl_move rfl) rfl ?_
      obtain ⟨cb7, hcb7, hres⟩ := bind_some hres
      refine JL.cut (K := fun J => J [(12, .slice a2 x1.1.length cp3), (13, .int .i64 x1.2), (23, .bool true), (31, .bool cb7)] [rowT 93 eSPoint a2 x1.1.length cp3 x1.1]) 4 ?_ ?_
      · refine JL.val (yl_pick_true rfl rfl) rfl ?_
        have he := Option.some.inj hres
        exact JL.weak [0] K ⟨rfl, rfl, (by rw [← he]; rfl), trivial⟩ (by decide) rfl
      · intro K
        rcases cond_some hcb7 with ⟨hb, hres⟩ | ⟨hb, hres⟩
        · refine JL.set (d := 27) (v := .bool true) (congrArg (fun b => some (Value.bool b)) hb) ?_
          refine JL.gskip rfl rfl rfl rfl ?_
          refine JL.gskip rfl rfl rfl rfl ?_
          refine JL.gskip rfl rfl rfl rfl ?_
          refine JL.gval rfl rfl (yl_pick_true rfl rfl) rfl ?_
          have he := Option.some.inj hres
          exact JL.weak [0] K ⟨rfl, rfl, rfl, (by rw [← he]; rfl), trivial⟩ (by decide) rfl
        · refine JL.set (d := 27) (v := .bool false) (congrArg (fun b => some (Value.bool b)) hb) ?_
          refine JL.gval rfl rfl (yl_move rfl) rfl ?_
          obtain ⟨x8, hx8, hres⟩ := bind_some hres
          refine JL.geff rfl rfl (ef_call (T := T115 x8) Go.Proofs.Try.func115 rfl (by kernel_rfl) rfl (fun w hC => c115  hx8)) rfl ?_
          rintro _ _ ⟨_, ⟨rfl, rfl⟩, rfl⟩
          refine JL.gval rfl rfl (yl_not rfl) rfl ?_
          refine JL.gval rfl rfl (yl_pick_false rfl rfl) rfl ?_
          have he := Option.some.inj hres
          exact JL.weak [0] K ⟨rfl, rfl, rfl, (by rw [← he]; rfl), trivial⟩ (by decide) rfl
    · refine JL.set (d := 23) (v := .bool false) (congrArg (fun b => some (Value.bool b)) hb) ?_
      refine JL.gskip rfl rfl rfl rfl ?_
      refine JL.gskip rfl rfl rfl rfl ?_
      refine JL.gskip rfl rfl rfl rfl ?_
      refine JL.gskip rfl rfl rfl rfl ?_
      refine JL.gnone rfl rfl rfl ?_
      refine JL.gnone rfl rfl rfl ?_
      refine JL.gnone rfl rfl rfl ?_
      refine JL.gskip rfl rfl rfl rfl ?_
      refine JL.val (yl_pick_false rfl rfl) rfl ?_
      have he := Option.some.inj hres
      exact JL.weak [0] K ⟨rfl, rfl, (by rw [← he]; rfl), trivial⟩ (by decide) rfl

/- spec.l22Curve -/
def sh112_1 (q0 : List SPoint) (q1 : Int) (q2 : Int) : (Int × List SToolMove) → Option ((Int × List SToolMove) ⊕ (List SToolMove))
  | (x13, x14) => bif decide (x13 ≤ (q0.length : Int)) then (Option.bind (nzI (q0.length : Int)) fun x17 => Option.bind (getI q0 (x13.tmod (q0.length : Int))) fun x18 => Option.bind (appL x14 [SToolMove.mk (w64 (x18.X * q1)) (w64 (x18.Y * q1)) (w64 (0 - q2))]) fun x23 => some (.inl (w64 (x13 + 1), x23))) else (some (.inr x14))
def sh112 (q0 : List SPoint) (q1 : Int) (q2 : Int) (q3 : Int) : Option (List SToolMove) := Option.bind (getI q0 0) fun x4 => Option.bind (getI q0 0) fun x5 => Option.bind (appL ([] : List SToolMove) [SToolMove.mk (w64 (x4.X * q1)) (w64 (x5.Y * q1)) q3]) fun x8 => Option.bind (iter (sh112_1 q0 q1 q2) (0, x8)) fun b1 => (Option.bind (getI q0 0) fun x29 => Option.bind (getI q0 0) fun x30 => Option.bind (appL b1 [SToolMove.mk (w64 (x29.X * q1)) (w64 (x30.Y * q1)) q3]) fun x33 => some x33)
def T112 (r : List SToolMove) (v : Value) (rs : List Own) : Prop := ∃ (a0 : Option Addr) (n0 c0 : Nat), r.length = n0 ∧ v = rets [.slice a0 n0 c0] ∧ rs = [rowT 97 eSToolMove a0 n0 c0 r]
set_option maxRecDepth 100000 in
theorem c112 {w : World} {q0 : List SPoint} {a_0 : Option Addr} {n_0 c_0 : Nat} (g_0 : Rd w a_0 (eSPoint.fl q0)) (l_0 : q0.length = n_0) (k_0 : n_0 ≤ c_0) {q1 : Int} {q2 : Int} {q3 : Int} {r : List SToolMove} (hres : sh112 q0 q1 q2 q3 = some r) : Calls Go.Proofs.Try.prog 112 [.slice a_0 n_0 c_0, .int .i64 q1, .int .i64 q2, .int .i64 q3].toArray w (Ret w (T112 r)) := by
  subst l_0
  unfold sh112 at hres
  refine calls_of (n := 75) (M := []) (es := []) Go.Proofs.Try.func112 rfl rfl rfl (Sep.nil _ _ _) ?_
  refine JX.seq ?_
  refine JX.region ?_
  refine JL.val (yl_assign rfl) rfl ?_
  refine JL.nil ?_
  refine JE.code ?_
  refine JX.seq ?_
  refine JX.region ?_
  refine JL.eff (ef_buildSlice (E := 97) (k := eSToolMove.k) (us := eSToolMove.fl ([] : List SToolMove)) rfl (fun w => bsl28_0  w) rfl (by decide)) rfl ?_
  rintro _ _ ⟨a1, rfl, rfl⟩
  refine JL.val (yl_assign rfl) rfl ?_
  refine JL.nil ?_
  refine JE.code ?_
  refine JX.seq ?_
  refine JX.region ?_
  refine JL.val (yl_move rfl) rfl ?_
  refine JL.val (yl_len_slice Go.Proofs.Try.underlying22 rfl) rfl ?_
  refine JL.val (yl_assign rfl) rfl ?_
  refine JL.nil ?_
  refine JE.code ?_
  refine JX.seq ?_
  refine JX.drawH [(0, .pure), (1, .pure), (2, .pure), (3, .pure), (4, .read), (5, .pure), (6, .pure), (7, .pure), (8, .pure), (9, .pure), (10, .read), (11, .pure), (12, .pure), (13, .pure), (14, .pure), (15, .must), (16, .must), (17, .pure)] [16] [0] [] [rowT 97 eSToolMove a1 0 0 ([] : List SToolMove)] [] mixedP (by kernel_rfl) (by kernel_rfl) (by decide) rfl rfl ?_
  intro wrr3 Nr3 hFr3
  refine JH.pure rfl (yl_move rfl) rfl ?_
  refine JH.pure rfl (yl_move rfl) rfl ?_
  obtain ⟨x4, hx4, hres⟩ := bind_some hres
  refine JH.pure rfl (yl_idxQ Go.Proofs.Try.underlying22 i93 i93s rfl rfl hx4 rfl (rd_arg g_0 hFr3.cl) rfl) rfl ?_
  refine JH.pure rfl (yl_fieldAt Go.Proofs.Try.underlying93 rfl i2 i2n rfl (RdT.someQ (rd_arg g_0 hFr3.cl) hx4 rfl rfl)) rfl ?_
  refine JH.read rfl (yl_loadT1 Go.Proofs.Try.underlying2 rfl rfl hx4 (fun w hw => hFr3.arg g_0 hw) rfl) rfl ?_
  refine JH.pure rfl (yl_move rfl) rfl ?_
  refine JH.pure rfl (yl_mul rfl rfl) rfl ?_
  refine JH.pure rfl (yl_move rfl) rfl ?_
  obtain ⟨x5, hx5, hres⟩ := bind_some hres
  refine JH.pure rfl (yl_idxQ Go.Proofs.Try.underlying22 i93 i93s rfl rfl hx5 rfl (rd_arg g_0 hFr3.cl) rfl) rfl ?_
  refine JH.pure rfl (yl_fieldAt Go.Proofs.Try.underlying93 rfl i2 i2n rfl (RdT.someQ (rd_arg g_0 hFr3.cl) hx5 rfl rfl)) rfl ?_
  refine JH.read rfl (yl_loadT1 Go.Proofs.Try.underlying2 rfl rfl hx5 (fun w hw => hFr3.arg g_0 hw) rfl) rfl ?_
  refine JH.pure rfl (yl_move rfl) rfl ?_
  refine JH.pure rfl (yl_mul rfl rfl) rfl ?_
  refine JH.pure rfl (yl_move rfl) rfl ?_
  refine JH.pure rfl (yl_build rfl (fun w => bld97_0_1_2 (w64 (x4.X * q1)) (w64 (x5.Y * q1)) q3 w)) rfl ?_
  refine JH.must rfl (ef_buildSlice (E := 97) (k := eSToolMove.k) (us := eSToolMove.fl [SToolMove.mk (w64 (x4.X * q1)) (w64 (x5.Y * q1)) q3]) rfl (fun w => bsl28_1 (w64 (x4.X * q1)) (w64 (x5.Y * q1)) q3 w) rfl (by decide)) rfl rfl ?_
  rintro _ _ ⟨a6, rfl, rfl⟩
  obtain ⟨x8, hx8, hres⟩ := bind_some hres
  refine JH.must rfl (ef_appendT (ix := 0) Go.Proofs.Try.underlying28 i97 i97z i97s rfl i97b0 i97b1 rfl rfl rfl rfl rfl (fun w hC => rd_row hC 1 rfl) hx8) rfl rfl ?_
  rintro _ _ ⟨a9, cp10, rfl, rfl⟩
  refine JH.pure rfl (yl_assign rfl) rfl ?_
  refine JH.nil ?_
  refine JE.weak (env' := [(0, .slice a_0 q0.length c_0), (1, .int .i64 q1), (2, .int .i64 q2), (3, .int .i64 q3), (9, .slice a9 x8.length cp10), (10, .int .i64 (q0.length : Int))]) (es' := [rowT 97 eSToolMove a9 x8.length cp10 x8]) [0] ?_ ⟨rfl, rfl, rfl, rfl, rfl, rfl, trivial⟩ (by decide) rfl
  refine JE.code ?_
  refine JX.seq ?_
  refine JX.seq ?_
  refine JX.region ?_
  refine JL.val (yl_assign rfl) rfl ?_
  refine JL.nil ?_
  refine JE.code ?_
  refine JX.block ?_
  obtain ⟨y1, hy1, hresO1⟩ := bind_some hres
  refine JX.loop (I := fun (s1 : Int × List SToolMove) aa ww => ∃ (a11 : Option Addr) (cp12 : Nat), St w [] 75 [(0, .slice a_0 q0.length c_0), (1, .int .i64 q1), (2, .int .i64 q2), (3, .int .i64 q3), (9, .slice a11 s1.2.length cp12), (10, .int .i64 (q0.length : Int)), (11, .int .i64 s1.1)] [rowT 97 eSToolMove a11 s1.2.length cp12 s1.2] aa ww) (sh112_1 q0 q1 q2) hy1 (fun a w h => ⟨a9, cp10, h.weak ⟨rfl, rfl, rfl, rfl, rfl, rfl, rfl, trivial⟩ [0] (by decide) rfl⟩) ?_
  rintro ⟨x13, x14⟩ o1 hres hox1 aa ww ⟨a15, cp16, hS⟩
  refine (?_ : JX Go.Proofs.Try.prog w [] 75 _ _ [(0, .slice a_0 q0.length c_0), (1, .int .i64 q1), (2, .int .i64 q2), (3, .int .i64 q3), (9, .slice a15 x14.length cp16), (10, .int .i64 (q0.length : Int)), (11, .int .i64 x13)] [rowT 97 eSToolMove a15 x14.length cp16 x14] _) aa ww hS
  clear hS
  simp only [sh112_1] at hres
  refine JX.seq ?_
  refine JX.seq ?_
  refine JX.region ?_
  refine JL.val (yl_move rfl) rfl ?_
  refine JL.val (yl_move rfl) rfl ?_
  refine JL.val (yl_leq rfl rfl) rfl ?_
  refine JL.nil ?_
  refine JE.code ?_
  rcases cond_some hres with ⟨hb, hres⟩ | ⟨hb, hres⟩
  · refine JX.condT rfl hb ?_
    refine JX.skip ?_
    refine JE.code ?_
    refine JX.seq ?_
    refine JX.block ?_
    refine JX.seq ?_
    refine JX.region ?_
    refine JL.val (yl_move rfl) rfl ?_
    refine JL.val (yl_move rfl) rfl ?_
    refine JL.val (yl_move rfl) rfl ?_
    obtain ⟨x17, hx17, hres⟩ := bind_some hres
    refine JL.val (yl_rem rfl rfl (nzI_some hx17)) rfl ?_
    obtain ⟨x18, hx18, hres⟩ := bind_some hres
    refine JL.val (yl_idxT Go.Proofs.Try.underlying22 i93 i93s rfl rfl hx18 rfl (fun w hC => rd_arg g_0 hC)) rfl ?_
    refine JL.val (yl_loadTn Go.Proofs.Try.underlying93 rfl i93 i93s rfl hx18 (fun w hC => rd_arg g_0 hC)) rfl ?_
    refine JL.eff (ef_alloc i93 i93z rfl) rfl ?_
    rintro _ _ ⟨g19, rfl, rfl⟩
    refine JL.eff (ef_store_box (i := 1) (v := .agg #[.int .i64 x18.X, .int .i64 x18.Y]) i93 rfl rfl rfl (i93s).symm (Nat.le_of_ble_eq_true rfl) (by simp [Value.cells, Value.oneCell'])) rfl ?_
    rintro _ _ rfl
    refine JL.nil ?_
    refine JE.weak (env' := [(0, .slice a_0 q0.length c_0), (1, .int .i64 q1), (2, .int .i64 q2), (3, .int .i64 q3), (9, .slice a15 x14.length cp16), (10, .int .i64 (q0.length : Int)), (11, .int .i64 x13), (12, ptrAt (some ⟨g19, 0, none⟩) 0)]) (es' := [rowT 97 eSToolMove a15 x14.length cp16 x14, boxO 93 g19 [.int .i64 x18.X, .int .i64 x18.Y]]) [0, 1] ?_ ⟨rfl, rfl, rfl, rfl, rfl, rfl, rfl, rfl, trivial⟩ (by decide) rfl
    refine JE.code ?_
    refine JX.region ?_
    refine JL.val (yl_move rfl) rfl ?_
    refine JL.val (yl_fieldAt (a := some _) Go.Proofs.Try.underlying93 rfl i2 i2n rfl rfl) rfl ?_
    refine JL.val (yl_load1 Go.Proofs.Try.underlying2 rfl rfl (fun w hC => rd_box hC 1 rfl) rfl) rfl ?_
    refine JL.val (yl_move rfl) rfl ?_
    refine JL.val (yl_mul rfl rfl) rfl ?_
    refine JL.val (yl_fieldAt (a := some _) Go.Proofs.Try.underlying93 rfl i2 i2n rfl rfl) rfl ?_
    refine JL.val (yl_load1 Go.Proofs.Try.underlying2 rfl rfl (fun w hC => rd_box hC 1 rfl) rfl) rfl ?_
    refine JL.val (yl_move rfl) rfl ?_
    refine JL.val (yl_mul rfl rfl) rfl ?_
    refine JL.val (yl_move rfl) rfl ?_
    refine JL.val (yl_neg rfl) rfl ?_
    refine JL.val (yl_build rfl (fun w => bld97_0_1_2 (w64 (x18.X * q1)) (w64 (x18.Y * q1)) (w64 (0 - q2)) w)) rfl ?_
    refine JL.eff (ef_buildSlice (E := 97) (k := eSToolMove.k) (us := eSToolMove.fl [SToolMove.mk (w64 (x18.X * q1)) (w64 (x18.Y * q1)) (w64 (0 - q2))]) rfl (fun w => bsl28_1 (w64 (x18.X * q1)) (w64 (x18.Y * q1)) (w64 (0 - q2)) w) rfl (by decide)) rfl ?_
    rintro _ _ ⟨a21, rfl, rfl⟩
    obtain ⟨x23, hx23, hres⟩ := bind_some hres
    refine JL.eff (ef_appendT (ix := 0) Go.Proofs.Try.underlying28 i97 i97z i97s rfl i97b0 i97b1 rfl rfl rfl rfl rfl (fun w hC => rd_row hC 2 rfl) hx23) rfl ?_
    rintro _ _ ⟨a24, cp25, rfl, rfl⟩
    refine JL.val (yl_assign rfl) rfl ?_
    refine JL.nil ?_
    refine JE.weak (env' := [(0, .slice a_0 q0.length c_0), (1, .int .i64 q1), (2, .int .i64 q2), (3, .int .i64 q3), (9, .slice a24 x23.length cp25), (10, .int .i64 (q0.length : Int)), (11, .int .i64 x13)]) (es' := [rowT 97 eSToolMove a24 x23.length cp25 x23]) [0] ?_ ⟨rfl, rfl, rfl, rfl, rfl, rfl, rfl, trivial⟩ (by decide) rfl
    refine JE.code ?_
    refine JX.region ?_
    refine JL.val (yl_move rfl) rfl ?_
    refine JL.val (yl_add rfl rfl) rfl ?_
    refine JL.val (yl_assign rfl) rfl ?_
    refine JL.nil ?_
    refine JE.cont hres ?_
    exact fun a w h => ⟨a24, cp25, h.weak ⟨rfl, rfl, rfl, rfl, rfl, rfl, rfl, trivial⟩ [0] (by decide) rfl⟩
  · refine JX.condF rfl hb ?_
    refine JX.exit ?_
    refine JE.qb rfl ?_
    obtain ⟨b1, hb1⟩ : ∃ b : List SToolMove, b = x14 := ⟨_, rfl⟩
    have hy1 : b1 = y1 := by rw [hb1]; exact hox1 _ (Option.some.inj hres).symm
    have hres := hresO1
    rw [← hy1] at hres
    refine JE.weak (env' := [(0, .slice a_0 q0.length c_0), (1, .int .i64 q1), (3, .int .i64 q3), (9, .slice a15 b1.length cp16)]) (es' := [rowT 97 eSToolMove a15 b1.length cp16 b1]) [0] ?_ ⟨(by subst hb1; rfl), (by subst hb1; rfl), (by subst hb1; rfl), (by subst hb1; rfl), trivial⟩ (by decide) (by subst hb1; rfl)
    refine JE.code ?_
    refine JX.seq ?_
    refine JX.drawH [(0, .pure), (1, .pure), (2, .pure), (3, .pure), (4, .read), (5, .pure), (6, .pure), (7, .pure), (8, .pure), (9, .pure), (10, .read), (11, .pure), (12, .pure), (13, .pure), (14, .pure), (15, .must), (16, .must), (17, .pure)] [16] [0] [] [rowT 97 eSToolMove a15 b1.length cp16 b1] [] mixedP (by kernel_rfl) (by kernel_rfl) (by decide) rfl rfl ?_
    intro wrr28 Nr28 hFr28
    refine JH.pure rfl (yl_move rfl) rfl ?_
    refine JH.pure rfl (yl_move rfl) rfl ?_
    obtain ⟨x29, hx29, hres⟩ := bind_some hres
    refine JH.pure rfl (yl_idxQ Go.Proofs.Try.underlying22 i93 i93s rfl rfl hx29 rfl (rd_arg g_0 hFr28.cl) rfl) rfl ?_
    refine JH.pure rfl (yl_fieldAt Go.Proofs.Try.underlying93 rfl i2 i2n rfl (RdT.someQ (rd_arg g_0 hFr28.cl) hx29 rfl rfl)) rfl ?_
    refine JH.read rfl (yl_loadT1 Go.Proofs.Try.underlying2 rfl rfl hx29 (fun w hw => hFr28.arg g_0 hw) rfl) rfl ?_
    refine JH.pure rfl (yl_move rfl) rfl ?_
    refine JH.pure rfl (yl_mul rfl rfl) rfl ?_
    refine JH.pure rfl (yl_move rfl) rfl ?_
    obtain ⟨x30, hx30, hres⟩ := bind_some hres
    refine JH.pure rfl (yl_idxQ Go.Proofs.Try.underlying22 i93 i93s rfl rfl hx30 rfl (rd_arg g_0 hFr28.cl) rfl) rfl ?_
    refine JH.pure rfl (yl_fieldAt Go.Proofs.Try.underlying93 rfl i2 i2n rfl (RdT.someQ (rd_arg g_0 hFr28.cl) hx30 rfl rfl)) rfl ?_
    refine JH.read rfl (yl_loadT1 Go.Proofs.Try.underlying2 rfl rfl hx30 (fun w hw => hFr28.arg g_0 hw) rfl) rfl ?_
    refine JH.pure rfl (yl_move rfl) rfl ?_
    refine JH.pure rfl (yl_mul rfl rfl) rfl ?_
    refine JH.pure rfl (yl_move rfl) rfl ?_
    refine JH.pure rfl (yl_build rfl (fun w => bld97_0_1_2 (w64 (x29.X * q1)) (w64 (x30.Y * q1)) q3 w)) rfl ?_
    refine JH.must rfl (ef_buildSlice (E := 97) (k := eSToolMove.k) (us := eSToolMove.fl [SToolMove.mk (w64 (x29.X * q1)) (w64 (x30.Y * q1)) q3]) rfl (fun w => bsl28_1 (w64 (x29.X * q1)) (w64 (x30.Y * q1)) q3 w) rfl (by decide)) rfl rfl ?_
    rintro _ _ ⟨a31, rfl, rfl⟩
    obtain ⟨x33, hx33, hres⟩ := bind_some hres
    refine JH.must rfl (ef_appendT (ix := 0) Go.Proofs.Try.underlying28 i97 i97z i97s rfl i97b0 i97b1 rfl rfl rfl rfl rfl (fun w hC => rd_row hC 1 rfl) hx33) rfl rfl ?_
    rintro _ _ ⟨a34, cp35, rfl, rfl⟩
    refine JH.pure rfl (yl_assign rfl) rfl ?_
    refine JH.nil ?_
    refine JE.weak (env' := [(8, .slice a34 x33.length cp35)]) (es' := [rowT 97 eSToolMove a34 x33.length cp35 x33]) [0] ?_ ⟨rfl, trivial⟩ (by decide) rfl
    refine JE.code ?_
    refine JX.ret ?_
    obtain rfl := Option.some.inj hres
    refine JE.ret (rs := [.tmp 8]) (vs := [.slice a34 x33.length cp35]) rfl ⟨rfl, trivial⟩ ?_
    exact fun w' hb hs => ⟨_, _, ⟨a34, x33.length, cp35, rfl, rfl, rfl⟩, rfl, hb, hs.sel [0] _ (by decide) rfl⟩

/- spec.CarvePanel -/
def sh56_1 (q1 : Int) (q2 : Int) (q3 : Int) (x8 : List (List SPoint) × List Int) (x18 : List Int) : (Int × List SToolMove) → Option ((Int × List SToolMove) ⊕ (List SToolMove))
  | (x26, x27) => bif decide (x26 < (x18.length : Int)) then (Option.bind (getI x18 x26) fun x30 => Option.bind (getI x8.1 x30) fun x31 => Option.bind (sh112 x31 q1 q2 q3) fun x35 => Option.bind (appL x27 x35) fun x39 => some (.inl (w64 (x26 + 1), x39))) else (some (.inr x27))
def sh56 (q0 : SPanel) (q1 : Int) (q2 : Int) (q3 : Int) : Option (List SToolMove × Int) := Option.bind (sh111 q0 0 q1 q2 q3) fun x3 => bif x3.2 != 0 then (some (([] : List SToolMove), x3.2)) else (Option.bind (sh97 q0) fun x8 => Option.bind (sh98 x8.1) fun x18 => Option.bind (iter (sh56_1 q1 q2 q3 x8 x18) (0, ([] : List SToolMove))) fun b1 => (some (b1, 0)))
def T56 (r : List SToolMove × Int) (v : Value) (rs : List Own) : Prop := ∃ (a0 : Option Addr) (n0 c0 : Nat), r.1.length = n0 ∧ v = rets [.slice a0 n0 c0, .int .i64 r.2] ∧ rs = [rowT 97 eSToolMove a0 n0 c0 r.1]
set_option maxRecDepth 100000 in
theorem c56 {w : World} {q0 : SPanel} {a_0_2 : Option Addr} {n_0_2 c_0_2 : Nat} (g_0_2 : Rd w a_0_2 (eI64.fl q0.Breaks)) (l_0_2 : q0.Breaks.length = n_0_2) (k_0_2 : n_0_2 ≤ c_0_2) {q1 : Int} {q2 : Int} {q3 : Int} {r : List SToolMove × Int} (hres : sh56 q0 q1 q2 q3 = some r) : Calls Go.Proofs.Try.prog 56 [.agg #[.int .i64 q0.W, .int .i64 q0.H, .slice a_0_2 n_0_2 c_0_2], .int .i64 q1, .int .i64 q2, .int .i64 q3].toArray w (Ret w (T56 r)) := by
  subst l_0_2
  unfold sh56 at hres
  refine calls_of (n := 54) (M := []) (es := []) Go.Proofs.Try.func56 rfl rfl rfl (Sep.nil _ _ _) ?_
  refine JX.seq ?_
  refine JX.region ?_
  refine JL.eff (ef_box rfl rfl) rfl ?_
  rintro _ _ ⟨g1, rfl, rfl⟩
  refine JL.val (yl_assign rfl) rfl ?_
  refine JL.val (yl_assign rfl) rfl ?_
  refine JL.nil ?_
  refine JE.code ?_
  refine JX.seq ?_
  refine JX.region ?_
  refine JL.val (yl_move rfl) rfl ?_
  refine JL.val (yl_move rfl) rfl ?_
  refine JL.val (yl_move rfl) rfl ?_
  obtain ⟨x3, hx3, hres⟩ := bind_some hres
  refine JL.eff (ef_call (T := T111 x3) Go.Proofs.Try.func111 rfl (by kernel_rfl) rfl (fun w hC => c111 (RdAt.of0 (rd_box hC 0 rfl)) (rd_arg g_0_2 hC) rfl k_0_2 hx3)) rfl ?_
  rintro _ _ ⟨_, ⟨a4, _, cp5, rfl, rfl, rfl⟩, rfl⟩
  refine JL.val (yl_move rfl) rfl ?_
  refine JL.val (yl_extract rfl rfl) rfl ?_
  refine JL.val (yl_extract rfl rfl) rfl ?_
  refine JL.val (yl_assign rfl) rfl ?_
  refine JL.val (yl_assign rfl) rfl ?_
  refine JL.nil ?_
  refine JE.weak (env' := [(1, .int .i64 q1), (2, .int .i64 q2), (3, .int .i64 q3), (4, ptrAt (some ⟨g1, 0, none⟩) 0), (11, .int .i64 x3.2)]) (es' := [boxO 39 g1 [.int .i64 q0.W, .int .i64 q0.H, .slice a_0_2 q0.Breaks.length c_0_2]]) [0] ?_ ⟨rfl, rfl, rfl, rfl, rfl, trivial⟩ (by decide) rfl
  refine JE.code ?_
  refine JX.seq ?_
  refine JX.seq ?_
  refine JX.region ?_
  refine JL.val (yl_move rfl) rfl ?_
  refine JL.val (yl_neq rfl rfl) rfl ?_
  refine JL.nil ?_
  refine JE.code ?_
  rcases cond_some hres with ⟨hb, hres⟩ | ⟨hb, hres⟩
  · refine JX.condT rfl hb ?_
    refine JX.seq ?_
    refine JX.region ?_
    refine JL.val (yl_move rfl) rfl ?_
    refine JL.val (yl_assign rfl) rfl ?_
    refine JL.val (yl_assign rfl) rfl ?_
    refine JL.nil ?_
    refine JE.weak (env' := [(8, .slice none 0 0), (9, .int .i64 x3.2)]) (es' := []) [] ?_ ⟨rfl, rfl, trivial⟩ (by decide) rfl
    refine JE.code ?_
    refine JX.ret ?_
    refine JE.nilrow 97 eSToolMove ?_
    obtain rfl := Option.some.inj hres
    refine JE.ret (rs := [.tmp 8, .tmp 9]) (vs := [.slice none 0 0, .int .i64 x3.2]) rfl ⟨rfl, rfl, trivial⟩ ?_
    exact fun w' hb hs => ⟨_, _, ⟨none, 0, 0, rfl, rfl, rfl⟩, rfl, hb, hs.sel [0] _ (by decide) rfl⟩
  · refine JX.condF rfl hb ?_
    refine JX.skip ?_
    refine JE.code ?_
    refine JX.seq ?_
    refine JX.region ?_
    obtain ⟨x8, hx8, hres⟩ := bind_some hres
    refine JL.eff (ef_call (T := T97 x8) Go.Proofs.Try.func97 rfl (by kernel_rfl) rfl (fun w hC => c97 (RdAt.of0 (rd_box hC 0 rfl)) (rd_arg g_0_2 hC) rfl k_0_2 hx8)) rfl ?_
    rintro _ _ ⟨_, ⟨a9, _, cp10, hs12, rfl, hi13, a15, _, cp16, rfl, rfl, rfl⟩, rfl⟩
    refine JL.val (yl_move rfl) rfl ?_
    refine JL.val (yl_extract rfl rfl) rfl ?_
    refine JL.val (yl_extract rfl rfl) rfl ?_
    refine JL.val (yl_assign rfl) rfl ?_
    refine JL.val (yl_assign rfl) rfl ?_
    refine JL.nil ?_
    refine JE.weak (env' := [(1, .int .i64 q1), (2, .int .i64 q2), (3, .int .i64 q3), (12, .slice a9 x8.1.length cp10)]) (es' := [rowT 22 eHd a9 x8.1.length cp10 hs12, innO 93 eSPoint none hs12 x8.1]) [1, 2] ?_ ⟨rfl, rfl, rfl, rfl, trivial⟩ (by decide) rfl
    refine JE.code ?_
    refine JX.seq ?_
    refine JX.region ?_
    refine JL.val (yl_move rfl) rfl ?_
    obtain ⟨x18, hx18, hres⟩ := bind_some hres
    refine JL.eff (ef_call (T := T98 x18) Go.Proofs.Try.func98 rfl (by kernel_rfl) rfl (fun w hC => c98 (rd_row hC 0 rfl) (rd_inn hC 1 rfl) hi13 rfl (ln_row hC 0 rfl) hx18)) rfl ?_
    rintro _ _ ⟨_, ⟨a19, _, cp20, rfl, rfl, rfl⟩, rfl⟩
    refine JL.val (yl_assign rfl) rfl ?_
    refine JL.nil ?_
    refine JE.code ?_
    refine JX.seq ?_
    refine JX.region ?_
    refine JL.eff (ef_buildSlice (E := 97) (k := eSToolMove.k) (us := eSToolMove.fl ([] : List SToolMove)) rfl (fun w => bsl28_0  w) rfl (by decide)) rfl ?_
    rintro _ _ ⟨a22, rfl, rfl⟩
    refine JL.val (yl_assign rfl) rfl ?_
    refine JL.nil ?_
    refine JE.code ?_
    refine JX.seq ?_
    refine JX.seq ?_
    refine JX.region ?_
    refine JL.val (yl_assign rfl) rfl ?_
    refine JL.nil ?_
    refine JE.code ?_
    refine JX.block ?_
    obtain ⟨y1, hy1, hresO1⟩ := bind_some hres
    refine JX.loop (I := fun (s1 : Int × List SToolMove) aa ww => ∃ (a24 : Option Addr) (cp25 : Nat), St w [] 54 [(1, .int .i64 q1), (2, .int .i64 q2), (3, .int .i64 q3), (12, .slice a9 x8.1.length cp10), (14, .slice a19 x18.length cp20), (15, .slice a24 s1.2.length cp25), (16, .int .i64 s1.1)] [rowT 22 eHd a9 x8.1.length cp10 hs12, innO 93 eSPoint none hs12 x8.1, rowT 2 eI64 a19 x18.length cp20 x18, rowT 97 eSToolMove a24 s1.2.length cp25 s1.2] aa ww) (sh56_1 q1 q2 q3 x8 x18) hy1 (fun a w h => ⟨a22, 0, h.weak ⟨rfl, rfl, rfl, rfl, rfl, rfl, rfl, trivial⟩ [0, 1, 2, 3] (by decide) rfl⟩) ?_
    rintro ⟨x26, x27⟩ o1 hres hox1 aa ww ⟨a28, cp29, hS⟩
    refine (?_ : JX Go.Proofs.Try.prog w [] 54 _ _ [(1, .int .i64 q1), (2, .int .i64 q2), (3, .int .i64 q3), (12, .slice a9 x8.1.length cp10), (14, .slice a19 x18.length cp20), (15, .slice a28 x27.length cp29), (16, .int .i64 x26)] [rowT 22 eHd a9 x8.1.length cp10 hs12, innO 93 eSPoint none hs12 x8.1, rowT 2 eI64 a19 x18.length cp20 x18, rowT 97 eSToolMove a28 x27.length cp29 x27] _) aa ww hS
    clear hS
    simp only [sh56_1] at hres
    refine JX.seq ?_
    refine JX.seq ?_
    refine JX.region ?_
    refine JL.val (yl_move rfl) rfl ?_
    refine JL.val (yl_move rfl) rfl ?_
    refine JL.val (yl_len_slice Go.Proofs.Try.underlying33 rfl) rfl ?_
    refine JL.val (yl_lss rfl rfl) rfl ?_
    refine JL.nil ?_
    refine JE.weak (env' := [(1, .int .i64 q1), (2, .int .i64 q2), (3, .int .i64 q3), (12, .slice a9 x8.1.length cp10), (14, .slice a19 x18.length cp20), (15, .slice a28 x27.length cp29), (16, .int .i64 x26), (37, .bool (decide (x26 < (x18.length : Int))))]) (es' := [rowT 22 eHd a9 x8.1.length cp10 hs12, innO 93 eSPoint none hs12 x8.1, rowT 2 eI64 a19 x18.length cp20 x18, rowT 97 eSToolMove a28 x27.length cp29 x27]) [0, 1, 2, 3] ?_ ⟨rfl, rfl, rfl, rfl, rfl, rfl, rfl, rfl, trivial⟩ (by decide) rfl
    refine JE.code ?_
    rcases cond_some hres with ⟨hb, hres⟩ | ⟨hb, hres⟩
    · refine JX.condT rfl hb ?_
      refine JX.skip ?_
      refine JE.code ?_
      refine JX.seq ?_
      refine JX.block ?_
      refine JX.region ?_
      refine JL.val (yl_move rfl) rfl ?_
      refine JL.val (yl_move rfl) rfl ?_
      refine JL.val (yl_move rfl) rfl ?_
      refine JL.val (yl_move rfl) rfl ?_
      obtain ⟨x30, hx30, hres⟩ := bind_some hres
      refine JL.val (yl_idxT Go.Proofs.Try.underlying33 i2 i2s rfl rfl hx30 rfl (fun w hC => rd_row hC 2 rfl)) rfl ?_
      refine JL.val (yl_loadT0 Go.Proofs.Try.underlying2 rfl rfl hx30 (fun w hC => rd_row hC 2 rfl) rfl) rfl ?_
      obtain ⟨x31, hx31, hres⟩ := bind_some hres
      obtain ⟨ha32, hc33, hhx31⟩ := Inn.sub hi13 hx31
      refine JL.val (yl_idxT Go.Proofs.Try.underlying59 i22 i22s rfl rfl hhx31 (Inn.len hi13) (fun w hC => rd_row hC 0 rfl)) rfl ?_
      refine JL.val (yl_loadT0 (z := ⟨ha32, x31.length, hc33⟩) Go.Proofs.Try.underlying22 rfl rfl hhx31 (fun w hC => rd_row hC 0 rfl) rfl) rfl ?_
      refine JL.val (yl_move rfl) rfl ?_
      refine JL.val (yl_move rfl) rfl ?_
      refine JL.val (yl_move rfl) rfl ?_
      obtain ⟨x35, hx35, hres⟩ := bind_some hres
      refine JL.eff (ef_call (T := T112 x35) Go.Proofs.Try.func112 rfl (by kernel_rfl) rfl (fun w hC => c112 ((RdI.sub (rd_inn hC 1 rfl) hx31 hhx31)) rfl (RdI.ln (rd_inn hC 1 rfl) hx31 hhx31) hx35)) rfl ?_
      rintro _ _ ⟨_, ⟨a36, _, cp37, rfl, rfl, rfl⟩, rfl⟩
      obtain ⟨x39, hx39, hres⟩ := bind_some hres
      refine JL.eff (ef_appendT (ix := 3) Go.Proofs.Try.underlying28 i97 i97z i97s rfl i97b0 i97b1 rfl rfl rfl rfl rfl (fun w hC => rd_row hC 4 rfl) hx39) rfl ?_
      rintro _ _ ⟨a40, cp41, rfl, rfl⟩
      refine JL.val (yl_assign rfl) rfl ?_
      refine JL.nil ?_
      refine JE.weak (env' := [(1, .int .i64 q1), (2, .int .i64 q2), (3, .int .i64 q3), (12, .slice a9 x8.1.length cp10), (14, .slice a19 x18.length cp20), (15, .slice a40 x39.length cp41), (16, .int .i64 x26)]) (es' := [rowT 22 eHd a9 x8.1.length cp10 hs12, innO 93 eSPoint none hs12 x8.1, rowT 2 eI64 a19 x18.length cp20 x18, rowT 97 eSToolMove a40 x39.length cp41 x39]) [0, 1, 2, 3] ?_ ⟨rfl, rfl, rfl, rfl, rfl, rfl, rfl, trivial⟩ (by decide) rfl
      refine JE.code ?_
      refine JX.region ?_
      refine JL.val (yl_move rfl) rfl ?_
      refine JL.val (yl_add rfl rfl) rfl ?_
      refine JL.val (yl_assign rfl) rfl ?_
      refine JL.nil ?_
      refine JE.cont hres ?_
      exact fun a w h => ⟨a40, cp41, h.weak ⟨rfl, rfl, rfl, rfl, rfl, rfl, rfl, trivial⟩ [0, 1, 2, 3] (by decide) rfl⟩
    · refine JX.condF rfl hb ?_
      refine JX.exit ?_
      refine JE.qb rfl ?_
      obtain ⟨b1, hb1⟩ : ∃ b : List SToolMove, b = x27 := ⟨_, rfl⟩
      have hy1 : b1 = y1 := by rw [hb1]; exact hox1 _ (Option.some.inj hres).symm
      have hres := hresO1
      rw [← hy1] at hres
      refine JE.weak (env' := [(15, .slice a28 b1.length cp29)]) (es' := [rowT 97 eSToolMove a28 b1.length cp29 b1]) [3] ?_ ⟨(by subst hb1; rfl), trivial⟩ (by decide) (by subst hb1; rfl)
      refine JE.code ?_
      refine JX.seq ?_
      refine JX.region ?_
      refine JL.val (yl_move rfl) rfl ?_
      refine JL.val (yl_assign rfl) rfl ?_
      refine JL.val (yl_assign rfl) rfl ?_
      refine JL.nil ?_
      refine JE.code ?_
      refine JX.ret ?_
      obtain rfl := Option.some.inj hres
      refine JE.ret (rs := [.tmp 8, .tmp 9]) (vs := [.slice a28 b1.length cp29, .int .i64 0]) rfl ⟨rfl, rfl, trivial⟩ ?_
      exact fun w' hb hs => ⟨_, _, ⟨a28, b1.length, cp29, rfl, rfl, rfl⟩, rfl, hb, hs.sel [0] _ (by decide) rfl⟩

/- impl.inRange -/
def sh136 (q0 : Int) (q1 : Int) (q2 : Int) : Option (Bool) := some ((decide (q1 ≤ q0)) && (decide (q0 ≤ q2)))
def T136 (r : Bool) (v : Value) (rs : List Own) : Prop := v = rets [.bool r] ∧ rs = []
set_option maxRecDepth 100000 in
theorem c136 {w : World} {q0 : Int} {q1 : Int} {q2 : Int} {r : Bool} (hres : sh136 q0 q1 q2 = some r) : Calls Go.Proofs.Try.prog 136 [.int .i64 q0, .int .i64 q1, .int .i64 q2].toArray w (Ret w (T136 r)) := by
  unfold sh136 at hres
  refine calls_of (n := 15) (M := []) (es := []) Go.Proofs.Try.func136 rfl rfl rfl (Sep.nil _ _ _) ?_
  refine JX.seq ?_
  refine JX.region ?_
  refine JL.val (yl_assign rfl) rfl ?_
  refine JL.nil ?_
  refine JE.code ?_
  refine JX.seq ?_
  refine JX.region ?_
  refine JL.val (yl_move rfl) rfl ?_
  refine JL.val (yl_move rfl) rfl ?_
  refine JL.val (yl_geq rfl rfl) rfl ?_
  refine JL.val (yl_move rfl) rfl ?_
  refine JL.cut (K := fun J => J [(14, .bool ((decide (q1 ≤ q0)) && (decide (q0 ≤ q2))))] []) 4 ?_ ?_
  · refine JL.val (yl_assign rfl) rfl ?_
    refine JL.nil ?_
    refine JE.weak (env' := [(6, .bool ((decide (q1 ≤ q0)) && (decide (q0 ≤ q2))))]) (es' := []) [] ?_ ⟨rfl, trivial⟩ (by decide) rfl
    refine JE.code ?_
    refine JX.ret ?_
    obtain rfl := Option.some.inj hres
    refine JE.ret (rs := [.tmp 6]) (vs := [.bool ((decide (q1 ≤ q0)) && (decide (q0 ≤ q2)))]) rfl ⟨rfl, trivial⟩ ?_
    exact fun w' hb hs => ⟨_, _, ⟨rfl, rfl⟩, rfl, hb, hs.sel [] _ (by decide) rfl⟩
  · intro K
    rcases Bool.eq_false_or_eq_true (decide (q1 ≤ q0)) with hb | hb
    · refine JL.set (d := 10) (v := .bool true) (congrArg (fun b => some (Value.bool b)) hb) ?_
      refine JL.gval rfl rfl (yl_move rfl) rfl ?_
      refine JL.gval rfl rfl (yl_move rfl) rfl ?_
      refine JL.gval rfl rfl (yl_leq rfl rfl) rfl ?_
      refine JL.val (yl_pick_true rfl rfl) rfl ?_
      exact JL.weak [] K ⟨(by rw [hb]; rfl), trivial⟩ (by decide) rfl
    · refine JL.set (d := 10) (v := .bool false) (congrArg (fun b => some (Value.bool b)) hb) ?_
      refine JL.gskip rfl rfl rfl rfl ?_
      refine JL.gskip rfl rfl rfl rfl ?_
      refine JL.gskip rfl rfl rfl rfl ?_
      refine JL.val (yl_pick_false rfl rfl) rfl ?_
      exact JL.weak [] K ⟨(by rw [hb]; rfl), trivial⟩ (by decide) rfl

/- impl.validSize -/
def sh152 (q0 : Int) (q1 : Int) : Option (Bool) := Option.bind (sh136 q0 1 8) fun x1 => Option.bind (bif x1 then (Option.bind (sh136 q1 1 8) fun x3 => some x3) else (some false)) fun cb2 => (some cb2)
def T152 (r : Bool) (v : Value) (rs : List Own) : Prop := v = rets [.bool r] ∧ rs = []
set_option maxRecDepth 100000 in
theorem c152 {w : World} {q0 : Int} {q1 : Int} {r : Bool} (hres : sh152 q0 q1 = some r) : Calls Go.Proofs.Try.prog 152 [.int .i64 q0, .int .i64 q1].toArray w (Ret w (T152 r)) := by
  unfold sh152 at hres
  refine calls_of (n := 11) (M := []) (es := []) Go.Proofs.Try.func152 rfl rfl rfl (Sep.nil _ _ _) ?_
  refine JX.seq ?_
  refine JX.region ?_
  refine JL.val (yl_assign rfl) rfl ?_
  refine JL.nil ?_
  refine JE.code ?_
  refine JX.seq ?_
  refine JX.region ?_
  refine JL.val (yl_move rfl) rfl ?_
  obtain ⟨x1, hx1, hres⟩ := bind_some hres
  refine JL.eff (ef_call (T := T136 x1) Go.Proofs.Try.func136 rfl (by kernel_rfl) rfl (fun w hC => c136  hx1)) rfl ?_
  rintro _ _ ⟨_, ⟨rfl, rfl⟩, rfl⟩
  refine JL.val (yl_move rfl) rfl ?_
  obtain ⟨cb2, hcb2, hres⟩ := bind_some hres
  refine JL.cut (K := fun J => J [(10, .bool cb2)] []) 3 ?_ ?_
  · refine JL.val (yl_assign rfl) rfl ?_
    refine JL.nil ?_
    refine JE.weak (env' := [(4, .bool cb2)]) (es' := []) [] ?_ ⟨rfl, trivial⟩ (by decide) rfl
    refine JE.code ?_
    refine JX.ret ?_
    obtain rfl := Option.some.inj hres
    refine JE.ret (rs := [.tmp 4]) (vs := [.bool cb2]) rfl ⟨rfl, trivial⟩ ?_
    exact fun w' hb hs => ⟨_, _, ⟨rfl, rfl⟩, rfl, hb, hs.sel [] _ (by decide) rfl⟩
  · intro K
    rcases cond_some hcb2 with ⟨hb, hres⟩ | ⟨hb, hres⟩
    · refine JL.set (d := 7) (v := .bool true) (congrArg (fun b => some (Value.bool b)) hb) ?_
      refine JL.gval rfl rfl (yl_move rfl) rfl ?_
      obtain ⟨x3, hx3, hres⟩ := bind_some hres
      refine JL.geff rfl rfl (ef_call (T := T136 x3) Go.Proofs.Try.func136 rfl (by kernel_rfl) rfl (fun w hC => c136  hx3)) rfl ?_
      rintro _ _ ⟨_, ⟨rfl, rfl⟩, rfl⟩
      refine JL.val (yl_pick_true rfl rfl) rfl ?_
      have he := Option.some.inj hres
      exact JL.weak [] K ⟨(by rw [← he]; rfl), trivial⟩ (by decide) rfl
    · refine JL.set (d := 7) (v := .bool false) (congrArg (fun b => some (Value.bool b)) hb) ?_
      refine JL.gskip rfl rfl rfl rfl ?_
      refine JL.gskip rfl rfl rfl rfl ?_
      refine JL.val (yl_pick_false rfl rfl) rfl ?_
      have he := Option.some.inj hres
      exact JL.weak [] K ⟨(by rw [← he]; rfl), trivial⟩ (by decide) rfl

/- impl.innerPoints -/
def sh153 (q0 : Int) (q1 : Int) : Option (Int) := some (w64 ((w64 (q0 * (w64 (q1 - 1)))) + (w64 (q1 * (w64 (q0 - 1))))))
def T153 (r : Int) (v : Value) (rs : List Own) : Prop := v = rets [.int .i64 r] ∧ rs = []
set_option maxRecDepth 100000 in
theorem c153 {w : World} {q0 : Int} {q1 : Int} {r : Int} (hres : sh153 q0 q1 = some r) : Calls Go.Proofs.Try.prog 153 [.int .i64 q0, .int .i64 q1].toArray w (Ret w (T153 r)) := by
  unfold sh153 at hres
  refine calls_of (n := 14) (M := []) (es := []) Go.Proofs.Try.func153 rfl rfl rfl (Sep.nil _ _ _) ?_
  refine JX.seq ?_
  refine JX.region ?_
  refine JL.val (yl_assign rfl) rfl ?_
  refine JL.nil ?_
  refine JE.code ?_
  refine JX.seq ?_
  refine JX.region ?_
  refine JL.val (yl_move rfl) rfl ?_
  refine JL.val (yl_move rfl) rfl ?_
  refine JL.val (yl_sub rfl rfl) rfl ?_
  refine JL.val (yl_mul rfl rfl) rfl ?_
  refine JL.val (yl_move rfl) rfl ?_
  refine JL.val (yl_move rfl) rfl ?_
  refine JL.val (yl_sub rfl rfl) rfl ?_
  refine JL.val (yl_mul rfl rfl) rfl ?_
  refine JL.val (yl_add rfl rfl) rfl ?_
  refine JL.val (yl_assign rfl) rfl ?_
  refine JL.nil ?_
  refine JE.weak (env' := [(4, .int .i64 (w64 ((w64 (q0 * (w64 (q1 - 1)))) + (w64 (q1 * (w64 (q0 - 1)))))))]) (es' := []) [] ?_ ⟨rfl, trivial⟩ (by decide) rfl
  refine JE.code ?_
  refine JX.ret ?_
  obtain rfl := Option.some.inj hres
  refine JE.ret (rs := [.tmp 4]) (vs := [.int .i64 (w64 ((w64 (q0 * (w64 (q1 - 1)))) + (w64 (q1 * (w64 (q0 - 1))))))]) rfl ⟨rfl, trivial⟩ ?_
  exact fun w' hb hs => ⟨_, _, ⟨rfl, rfl⟩, rfl, hb, hs.sel [] _ (by decide) rfl⟩

/- impl.validBreak -/
def sh154 (q0 : Int) : Option (Bool) := Option.bind (sh136 q0 0 2) fun x1 => some x1
def T154 (r : Bool) (v : Value) (rs : List Own) : Prop := v = rets [.bool r] ∧ rs = []
set_option maxRecDepth 100000 in
theorem c154 {w : World} {q0 : Int} {r : Bool} (hres : sh154 q0 = some r) : Calls Go.Proofs.Try.prog 154 [.int .i64 q0].toArray w (Ret w (T154 r)) := by
  unfold sh154 at hres
  refine calls_of (n := 5) (M := []) (es := []) Go.Proofs.Try.func154 rfl rfl rfl (Sep.nil _ _ _) ?_
  refine JX.seq ?_
  refine JX.region ?_
  refine JL.val (yl_assign rfl) rfl ?_
  refine JL.nil ?_
  refine JE.code ?_
  refine JX.seq ?_
  refine JX.region ?_
  refine JL.val (yl_move rfl) rfl ?_
  obtain ⟨x1, hx1, hres⟩ := bind_some hres
  refine JL.eff (ef_call (T := T136 x1) Go.Proofs.Try.func136 rfl (by kernel_rfl) rfl (fun w hC => c136  hx1)) rfl ?_
  rintro _ _ ⟨_, ⟨rfl, rfl⟩, rfl⟩
  refine JL.val (yl_assign rfl) rfl ?_
  refine JL.nil ?_
  refine JE.code ?_
  refine JX.ret ?_
  obtain rfl := Option.some.inj hres
  refine JE.ret (rs := [.tmp 2]) (vs := [.bool x1]) rfl ⟨rfl, trivial⟩ ?_
  exact fun w' hb hs => ⟨_, _, ⟨rfl, rfl⟩, rfl, hb, hs.sel [] _ (by decide) rfl⟩

/- impl.ValidPanel -/
def sh99_1 (q0 : SPanel) : Int → Option (Int ⊕ (Unit ⊕ Bool))
  | x7 => bif decide (x7 < (q0.Breaks.length : Int)) then (Option.bind (getI q0.Breaks x7) fun x8 => Option.bind (sh154 x8) fun x9 => bif !x9 then (some (.inr (.inr false))) else (some (.inl (w64 (x7 + 1))))) else (some (.inr (.inl ())))
def sh99 (q0 : SPanel) : Option (Bool) := Option.bind (sh152 q0.W q0.H) fun x4 => Option.bind (bif !x4 then (some true) else (Option.bind (sh153 q0.W q0.H) fun x6 => some ((q0.Breaks.length : Int) != x6))) fun cb5 => (bif cb5 then (some false) else (Option.bind (iter (sh99_1 q0) 0) fun y1 => elimS y1 (fun r => some r) fun b1 => (some true)))
def T99 (r : Bool) (v : Value) (rs : List Own) : Prop := v = rets [.bool r] ∧ rs = []
set_option maxRecDepth 100000 in
theorem c99 {w : World} {q0 : SPanel} {a_0_2 : Option Addr} {n_0_2 c_0_2 : Nat} (g_0_2 : Rd w a_0_2 (eI64.fl q0.Breaks)) (l_0_2 : q0.Breaks.length = n_0_2) (k_0_2 : n_0_2 ≤ c_0_2) {r : Bool} (hres : sh99 q0 = some r) : Calls Go.Proofs.Try.prog 99 [.agg #[.int .i64 q0.W, .int .i64 q0.H, .slice a_0_2 n_0_2 c_0_2]].toArray w (Ret w (T99 r)) := by
  subst l_0_2
  unfold sh99 at hres
  refine calls_of (n := 33) (M := []) (es := []) Go.Proofs.Try.func99 rfl rfl rfl (Sep.nil _ _ _) ?_
  refine JX.seq ?_
  refine JX.region ?_
  refine JL.eff (ef_box rfl rfl) rfl ?_
  rintro _ _ ⟨g1, rfl, rfl⟩
  refine JL.val (yl_assign rfl) rfl ?_
  refine JL.nil ?_
  refine JE.code ?_
  refine JX.seq ?_
  refine JX.seq ?_
  refine JX.drawH [(0, .pure), (1, .read), (2, .pure), (3, .read), (4, .must), (5, .pure), (6, .pure), (7, .pure), (8, .read), (9, .pure), (10, .pure), (11, .read), (12, .pure), (13, .read), (14, .must), (15, .pure), (16, .pure)] [] [] [0] [] [boxO 39 g1 [.int .i64 q0.W, .int .i64 q0.H, .slice a_0_2 q0.Breaks.length c_0_2]] mixedP (by kernel_rfl) (by kernel_rfl) (by decide) rfl rfl ?_
  intro wrr3 Nr3 hFr3
  refine JH.pure rfl (yl_fieldAt (a := some _) Go.Proofs.Try.underlying39 rfl i2 i2n rfl rfl) rfl ?_
  refine JH.read rfl (yl_load1 Go.Proofs.Try.underlying2 rfl rfl (fun w hw => hFr3.box 0 rfl rfl hw) rfl) rfl ?_
  refine JH.pure rfl (yl_fieldAt (a := some _) Go.Proofs.Try.underlying39 rfl i2 i2n rfl rfl) rfl ?_
  refine JH.read rfl (yl_load1 Go.Proofs.Try.underlying2 rfl rfl (fun w hw => hFr3.box 0 rfl rfl hw) rfl) rfl ?_
  obtain ⟨x4, hx4, hres⟩ := bind_some hres
  refine JH.must rfl (ef_call (T := T152 x4) Go.Proofs.Try.func152 rfl (by kernel_rfl) rfl (fun w hC => c152  hx4)) rfl rfl ?_
  rintro _ _ ⟨_, ⟨rfl, rfl⟩, rfl⟩
  refine JH.pure rfl (yl_not rfl) rfl ?_
  refine JH.pure rfl (yl_move rfl) rfl ?_
  obtain ⟨cb5, hcb5, hres⟩ := bind_some hres
  refine JH.cut (K := fun J => J [(1, ptrAt (some ⟨g1, 0, none⟩) 0), (21, .bool cb5)] []) 10 ?_ ?_
  · refine JH.nil ?_
    refine JE.weak (env' := [(1, ptrAt (some ⟨g1, 0, none⟩) 0), (21, .bool cb5)]) (es' := [boxO 39 g1 [.int .i64 q0.W, .int .i64 q0.H, .slice a_0_2 q0.Breaks.length c_0_2]]) [0] ?_ ⟨rfl, rfl, trivial⟩ (by decide) rfl
    refine JE.code ?_
    rcases cond_some hres with ⟨hb, hres⟩ | ⟨hb, hres⟩
    · refine JX.condT rfl hb ?_
      refine JX.seq ?_
      refine JX.region ?_
      refine JL.val (yl_assign rfl) rfl ?_
      refine JL.nil ?_
      refine JE.weak (env' := [(2, .bool false)]) (es' := []) [] ?_ ⟨rfl, trivial⟩ (by decide) rfl
      refine JE.code ?_
      refine JX.ret ?_
      obtain rfl := Option.some.inj hres
      refine JE.ret (rs := [.tmp 2]) (vs := [.bool false]) rfl ⟨rfl, trivial⟩ ?_
      exact fun w' hb hs => ⟨_, _, ⟨rfl, rfl⟩, rfl, hb, hs.sel [] _ (by decide) rfl⟩
    · refine JX.condF rfl hb ?_
      refine JX.skip ?_
      refine JE.code ?_
      refine JX.seq ?_
      refine JX.seq ?_
      refine JX.region ?_
      refine JL.val (yl_fieldAt (a := some _) Go.Proofs.Try.underlying39 rfl i33 i33n rfl rfl) rfl ?_
      refine JL.val (yl_load1 Go.Proofs.Try.underlying33 rfl rfl (fun w hC => rd_box hC 0 rfl) rfl) rfl ?_
      refine JL.val (yl_len_slice Go.Proofs.Try.underlying33 rfl) rfl ?_
      refine JL.val (yl_move rfl) rfl ?_
      refine JL.nil ?_
      refine JE.weak (env' := [(23, .slice a_0_2 q0.Breaks.length c_0_2), (24, .int .i64 (q0.Breaks.length : Int)), (25, .int .i64 0)]) (es' := []) [] ?_ ⟨rfl, rfl, rfl, trivial⟩ (by decide) rfl
      refine JE.code ?_
      refine JX.block ?_
      obtain ⟨y1, hy1, hresO1⟩ := bind_some hres
      refine JX.loop (I := fun (s1 : Int) aa ww => St w [] 33 [(23, .slice a_0_2 q0.Breaks.length c_0_2), (24, .int .i64 (q0.Breaks.length : Int)), (25, .int .i64 s1)] [] aa ww) (sh99_1 q0) hy1 (fun a w h => h.weak ⟨rfl, rfl, rfl, trivial⟩ [] (by decide) rfl) ?_
      rintro x7 o1 hres hox1 aa ww hS
      refine (?_ : JX Go.Proofs.Try.prog w [] 33 _ _ [(23, .slice a_0_2 q0.Breaks.length c_0_2), (24, .int .i64 (q0.Breaks.length : Int)), (25, .int .i64 x7)] [] _) aa ww hS
      clear hS
      unfold sh99_1 at hres
      refine JX.seq ?_
      refine JX.region ?_
      refine JL.val (yl_lss rfl rfl) rfl ?_
      refine JL.nil ?_
      refine JE.code ?_
      refine JX.seq ?_
      rcases cond_some hres with ⟨hb, hres⟩ | ⟨hb, hres⟩
      · refine JX.condT rfl hb ?_
        refine JX.skip ?_
        refine JE.code ?_
        refine JX.seq ?_
        refine JX.block ?_
        refine JX.seq ?_
        refine JX.region ?_
        obtain ⟨x8, hx8, hres⟩ := bind_some hres
        refine JL.val (yl_idxT Go.Proofs.Try.underlying33 i2 i2s rfl rfl hx8 rfl (fun w hC => rd_arg g_0_2 hC)) rfl ?_
        refine JL.val (yl_loadT0 Go.Proofs.Try.underlying2 rfl rfl hx8 (fun w hC => rd_arg g_0_2 hC) rfl) rfl ?_
        refine JL.val (yl_assign rfl) rfl ?_
        refine JL.nil ?_
        refine JE.code ?_
        refine JX.seq ?_
        refine JX.region ?_
        refine JL.val (yl_move rfl) rfl ?_
        obtain ⟨x9, hx9, hres⟩ := bind_some hres
        refine JL.eff (ef_call (T := T154 x9) Go.Proofs.Try.func154 rfl (by kernel_rfl) rfl (fun w hC => c154  hx9)) rfl ?_
        rintro _ _ ⟨_, ⟨rfl, rfl⟩, rfl⟩
        refine JL.val (yl_not rfl) rfl ?_
        refine JL.nil ?_
        refine JE.code ?_
        rcases cond_some hres with ⟨hb, hres⟩ | ⟨hb, hres⟩
        · refine JX.condT rfl hb ?_
          refine JX.seq ?_
          refine JX.region ?_
          refine JL.val (yl_assign rfl) rfl ?_
          refine JL.nil ?_
          refine JE.code ?_
          refine JX.ret ?_
          refine JE.qbr ?_
          refine JE.qbr ?_
          have hres := elimS_inr hresO1 (hox1 _ (Option.some.inj hres).symm)
          obtain rfl := Option.some.inj hres
          refine JE.ret (rs := [.tmp 2]) (vs := [.bool false]) rfl ⟨rfl, trivial⟩ ?_
          exact fun w' hb hs => ⟨_, _, ⟨rfl, rfl⟩, rfl, hb, hs.sel [] _ (by decide) rfl⟩
        · refine JX.condF rfl hb ?_
          refine JX.skip ?_
          refine JE.code ?_
          refine JX.region ?_
          refine JL.val (yl_add rfl rfl) rfl ?_
          refine JL.val (yl_move rfl) rfl ?_
          refine JL.nil ?_
          refine JE.cont hres ?_
          exact fun a w h => h.weak ⟨rfl, rfl, rfl, trivial⟩ [] (by decide) rfl
      · refine JX.condF rfl hb ?_
        refine JX.exit ?_
        refine JE.qb rfl ?_
        obtain ⟨b1, hb1⟩ : ∃ b : Unit, b = () := ⟨_, rfl⟩
        have hy1 : Sum.inl b1 = y1 := by rw [hb1]; exact hox1 _ (Option.some.inj hres).symm
        have hres := elimS_inl hresO1 hy1
        refine JE.weak (env' := []) (es' := []) [] ?_ trivial (by decide) (by subst hb1; rfl)
        refine JE.code ?_
        refine JX.seq ?_
        refine JX.region ?_
        refine JL.val (yl_assign rfl) rfl ?_
        refine JL.nil ?_
        refine JE.code ?_
        refine JX.ret ?_
        obtain rfl := Option.some.inj hres
        refine JE.ret (rs := [.tmp 2]) (vs := [.bool true]) rfl ⟨rfl, trivial⟩ ?_
        exact fun w' hb hs => ⟨_, _, ⟨rfl, rfl⟩, rfl, hb, hs.sel [] _ (by decide) rfl⟩
  · intro K
    rcases cond_some hcb5 with ⟨hb, hres⟩ | ⟨hb, hres⟩
    · refine JH.set (d := 11) (v := .bool true) (congrArg (fun b => some (Value.bool b)) hb) ?_
      refine JH.gskip rfl rfl rfl rfl rfl rfl ?_
      refine JH.gskip rfl rfl rfl rfl rfl rfl ?_
      refine JH.gskip rfl rfl rfl rfl rfl rfl ?_
      refine JH.gskip rfl rfl rfl rfl rfl rfl ?_
      refine JH.gskip rfl rfl rfl rfl rfl rfl ?_
      refine JH.gskip rfl rfl rfl rfl rfl rfl ?_
      refine JH.gskip rfl rfl rfl rfl rfl rfl ?_
      refine JH.gskip rfl rfl rfl rfl rfl rfl ?_
      refine JH.gskip rfl rfl rfl rfl rfl rfl ?_
      refine JH.pure rfl (yl_pick_true rfl rfl) rfl ?_
      have he := Option.some.inj hres
      exact JH.weak [] K ⟨rfl, (by rw [← he]; rfl), trivial⟩ (by decide) rfl
    · refine JH.set (d := 11) (v := .bool false) (congrArg (fun b => some (Value.bool b)) hb) ?_
      refine JH.gpure rfl rfl rfl (yl_fieldAt (a := some _) Go.Proofs.Try.underlying39 rfl i33 i33n rfl rfl) rfl ?_
      refine JH.gread rfl rfl rfl (yl_load1 Go.Proofs.Try.underlying33 rfl rfl (fun w hw => hFr3.box 0 rfl rfl hw) rfl) rfl ?_
      refine JH.gpure rfl rfl rfl (yl_len_slice Go.Proofs.Try.underlying33 rfl) rfl ?_
      refine JH.gpure rfl rfl rfl (yl_fieldAt (a := some _) Go.Proofs.Try.underlying39 rfl i2 i2n rfl rfl) rfl ?_
      refine JH.gread rfl rfl rfl (yl_load1 Go.Proofs.Try.underlying2 rfl rfl (fun w hw => hFr3.box 0 rfl rfl hw) rfl) rfl ?_
      refine JH.gpure rfl rfl rfl (yl_fieldAt (a := some _) Go.Proofs.Try.underlying39 rfl i2 i2n rfl rfl) rfl ?_
      refine JH.gread rfl rfl rfl (yl_load1 Go.Proofs.Try.underlying2 rfl rfl (fun w hw => hFr3.box 0 rfl rfl hw) rfl) rfl ?_
      obtain ⟨x6, hx6, hres⟩ := bind_some hres
      refine JH.gmust rfl rfl rfl (ef_call (T := T153 x6) Go.Proofs.Try.func153 rfl (by kernel_rfl) rfl (fun w hC => c153  hx6)) rfl rfl ?_
      rintro _ _ ⟨_, ⟨rfl, rfl⟩, rfl⟩
      refine JH.gpure rfl rfl rfl (yl_neq rfl rfl) rfl ?_
      refine JH.pure rfl (yl_pick_false rfl rfl) rfl ?_
      have he := Option.some.inj hres
      exact JH.weak [] K ⟨rfl, (by rw [← he]; rfl), trivial⟩ (by decide) rfl

/- (impl.Panel).segments -/
def sh157 (q0 : SPanel) : Option (Int) := some (w64 ((w64 (4 * q0.W)) * q0.H))
def T157 (r : Int) (v : Value) (rs : List Own) : Prop := v = rets [.int .i64 r] ∧ rs = []
set_option maxRecDepth 100000 in
theorem c157 {w : World} {q0 : SPanel} {a_0_2 : Option Addr} {n_0_2 c_0_2 : Nat} (g_0_2 : Rd w a_0_2 (eI64.fl q0.Breaks)) (l_0_2 : q0.Breaks.length = n_0_2) (k_0_2 : n_0_2 ≤ c_0_2) {r : Int} (hres : sh157 q0 = some r) : Calls Go.Proofs.Try.prog 157 [.agg #[.int .i64 q0.W, .int .i64 q0.H, .slice a_0_2 n_0_2 c_0_2]].toArray w (Ret w (T157 r)) := by
  subst l_0_2
  unfold sh157 at hres
  refine calls_of (n := 9) (M := []) (es := []) Go.Proofs.Try.func157 rfl rfl rfl (Sep.nil _ _ _) ?_
  refine JX.seq ?_
  refine JX.region ?_
  refine JL.eff (ef_box rfl rfl) rfl ?_
  rintro _ _ ⟨g1, rfl, rfl⟩
  refine JL.val (yl_assign rfl) rfl ?_
  refine JL.nil ?_
  refine JE.code ?_
  refine JX.seq ?_
  refine JX.region ?_
  refine JL.val (yl_fieldAt (a := some _) Go.Proofs.Try.underlying39 rfl i2 i2n rfl rfl) rfl ?_
  refine JL.val (yl_load1 Go.Proofs.Try.underlying2 rfl rfl (fun w hC => rd_box hC 0 rfl) rfl) rfl ?_
  refine JL.val (yl_mul rfl rfl) rfl ?_
  refine JL.val (yl_fieldAt (a := some _) Go.Proofs.Try.underlying39 rfl i2 i2n rfl rfl) rfl ?_
  refine JL.val (yl_load1 Go.Proofs.Try.underlying2 rfl rfl (fun w hC => rd_box hC 0 rfl) rfl) rfl ?_
  refine JL.val (yl_mul rfl rfl) rfl ?_
  refine JL.val (yl_assign rfl) rfl ?_
  refine JL.nil ?_
  refine JE.weak (env' := [(2, .int .i64 (w64 ((w64 (4 * q0.W)) * q0.H)))]) (es' := []) [] ?_ ⟨rfl, trivial⟩ (by decide) rfl
  refine JE.code ?_
  refine JX.ret ?_
  obtain rfl := Option.some.inj hres
  refine JE.ret (rs := [.tmp 2]) (vs := [.int .i64 (w64 ((w64 (4 * q0.W)) * q0.H))]) rfl ⟨rfl, trivial⟩ ?_
  exact fun w' hb hs => ⟨_, _, ⟨rfl, rfl⟩, rfl, hb, hs.sel [] _ (by decide) rfl⟩

/- (impl.Panel).walker -/
def sh158 (q0 : SPanel) (q1 : Int) : Option (SWalker) := Option.bind (nzI (w64 (2 * q0.H))) fun x6 => Option.bind (nzI (w64 (2 * q0.H))) fun x7 => bif ((w64 ((w64 (q1.tdiv (w64 (2 * q0.H)))) + (q1.tmod (w64 (2 * q0.H))))).tmod 2) == 1 then (some (SWalker.mk (SPoint.mk (w64 (q1.tdiv (w64 (2 * q0.H)))) (q1.tmod (w64 (2 * q0.H)))) 1 1)) else (some (SWalker.mk (SPoint.mk (w64 (q1.tdiv (w64 (2 * q0.H)))) (w64 ((q1.tmod (w64 (2 * q0.H))) + 1))) 1 (-1)))
def T158 (r : SWalker) (v : Value) (rs : List Own) : Prop := v = rets [.agg #[.int .i64 r.At.X, .int .i64 r.At.Y, .int .i64 r.DX, .int .i64 r.DY]] ∧ rs = []
set_option maxRecDepth 100000 in
theorem c158 {w : World} {q0 : SPanel} {a_0_2 : Option Addr} {n_0_2 c_0_2 : Nat} (g_0_2 : Rd w a_0_2 (eI64.fl q0.Breaks)) (l_0_2 : q0.Breaks.length = n_0_2) (k_0_2 : n_0_2 ≤ c_0_2) {q1 : Int} {r : SWalker} (hres : sh158 q0 q1 = some r) : Calls Go.Proofs.Try.prog 158 [.agg #[.int .i64 q0.W, .int .i64 q0.H, .slice a_0_2 n_0_2 c_0_2], .int .i64 q1].toArray w (Ret w (T158 r)) := by
  subst l_0_2
  unfold sh158 at hres
  refine calls_of (n := 31) (M := []) (es := []) Go.Proofs.Try.func158 rfl rfl rfl (Sep.nil _ _ _) ?_
  refine JX.seq ?_
  refine JX.region ?_
  refine JL.eff (ef_box rfl rfl) rfl ?_
  rintro _ _ ⟨g1, rfl, rfl⟩
  refine JL.eff (ef_alloc i120 i120z rfl) rfl ?_
  rintro _ _ ⟨g3, rfl, rfl⟩
  refine JL.nil ?_
  refine JE.code ?_
  refine JX.seq ?_
  refine JX.drawH [(0, .pure), (1, .pure), (2, .read), (3, .pure), (4, .pure), (5, .pure), (6, .pure), (7, .read), (8, .pure), (9, .pure), (10, .pure), (11, .pure)] [] [] [0, 1] [] [boxO 39 g1 [.int .i64 q0.W, .int .i64 q0.H, .slice a_0_2 q0.Breaks.length c_0_2], boxO 120 g3 [.int .i64 0, .int .i64 0, .int .i64 0, .int .i64 0]] mixedP (by kernel_rfl) (by kernel_rfl) (by decide) rfl rfl ?_
  intro wrr5 Nr5 hFr5
  refine JH.pure rfl (yl_move rfl) rfl ?_
  refine JH.pure rfl (yl_fieldAt (a := some _) Go.Proofs.Try.underlying39 rfl i2 i2n rfl rfl) rfl ?_
  refine JH.read rfl (yl_load1 Go.Proofs.Try.underlying2 rfl rfl (fun w hw => hFr5.box 0 rfl rfl hw) rfl) rfl ?_
  refine JH.pure rfl (yl_mul rfl rfl) rfl ?_
  obtain ⟨x6, hx6, hres⟩ := bind_some hres
  refine JH.pure rfl (yl_quo rfl rfl (nzI_some hx6)) rfl ?_
  refine JH.pure rfl (yl_move rfl) rfl ?_
  refine JH.pure rfl (yl_fieldAt (a := some _) Go.Proofs.Try.underlying39 rfl i2 i2n rfl rfl) rfl ?_
  refine JH.read rfl (yl_load1 Go.Proofs.Try.underlying2 rfl rfl (fun w hw => hFr5.box 0 rfl rfl hw) rfl) rfl ?_
  refine JH.pure rfl (yl_mul rfl rfl) rfl ?_
  obtain ⟨x7, hx7, hres⟩ := bind_some hres
  refine JH.pure rfl (yl_rem rfl rfl (nzI_some hx7)) rfl ?_
  refine JH.pure rfl (yl_assign rfl) rfl ?_
  refine JH.pure rfl (yl_assign rfl) rfl ?_
  refine JH.nil ?_
  refine JE.weak (env' := [(4, ptrAt (some ⟨g3, 0, none⟩) 0), (5, .int .i64 (w64 (q1.tdiv (w64 (2 * q0.H))))), (6, .int .i64 (q1.tmod (w64 (2 * q0.H))))]) (es' := [boxO 120 g3 [.int .i64 0, .int .i64 0, .int .i64 0, .int .i64 0]]) [1] ?_ ⟨rfl, rfl, rfl, trivial⟩ (by decide) rfl
  refine JE.code ?_
  refine JX.seq ?_
  refine JX.seq ?_
  refine JX.region ?_
  refine JL.val (yl_move rfl) rfl ?_
  refine JL.val (yl_move rfl) rfl ?_
  refine JL.val (yl_add rfl rfl) rfl ?_
  refine JL.val (yl_rem rfl rfl (by decide)) rfl ?_
  refine JL.val (yl_eql rfl rfl) rfl ?_
  refine JL.nil ?_
  refine JE.weak (env' := [(4, ptrAt (some ⟨g3, 0, none⟩) 0), (5, .int .i64 (w64 (q1.tdiv (w64 (2 * q0.H))))), (6, .int .i64 (q1.tmod (w64 (2 * q0.H)))), (21, .bool (((w64 ((w64 (q1.tdiv (w64 (2 * q0.H)))) + (q1.tmod (w64 (2 * q0.H))))).tmod 2) == 1))]) (es' := [boxO 120 g3 [.int .i64 0, .int .i64 0, .int .i64 0, .int .i64 0]]) [0] ?_ ⟨rfl, rfl, rfl, rfl, trivial⟩ (by decide) rfl
  refine JE.code ?_
  rcases cond_some hres with ⟨hb, hres⟩ | ⟨hb, hres⟩
  · refine JX.condT rfl hb ?_
    refine JX.seq ?_
    refine JX.region ?_
    refine JL.val (yl_move rfl) rfl ?_
    refine JL.val (yl_move rfl) rfl ?_
    refine JL.val (yl_build rfl (fun w => bld93_0_1 (w64 (q1.tdiv (w64 (2 * q0.H)))) (q1.tmod (w64 (2 * q0.H))) w)) rfl ?_
    refine JL.val (yl_build rfl (fun w => bld120_0_1_2 (w64 (q1.tdiv (w64 (2 * q0.H)))) (q1.tmod (w64 (2 * q0.H))) 1 1 w)) rfl ?_
    refine JL.eff (ef_store_box (i := 0) (v := .agg #[.int .i64 (w64 (q1.tdiv (w64 (2 * q0.H)))), .int .i64 (q1.tmod (w64 (2 * q0.H))), .int .i64 1, .int .i64 1]) i120 rfl rfl rfl (i120s).symm (Nat.le_of_ble_eq_true rfl) (by simp [Value.cells, Value.oneCell'])) rfl ?_
    rintro _ _ rfl
    refine JL.nil ?_
    refine JE.weak (env' := [(4, ptrAt (some ⟨g3, 0, none⟩) 0)]) (es' := [boxO 120 g3 [.int .i64 (w64 (q1.tdiv (w64 (2 * q0.H)))), .int .i64 (q1.tmod (w64 (2 * q0.H))), .int .i64 1, .int .i64 1]]) [0] ?_ ⟨rfl, trivial⟩ (by decide) rfl
    refine JE.code ?_
    refine JX.ret ?_
    obtain rfl := Option.some.inj hres
    refine JE.ret (rs := [.cell 4 120]) (vs := [.agg #[.int .i64 (w64 (q1.tdiv (w64 (2 * q0.H)))), .int .i64 (q1.tmod (w64 (2 * q0.H))), .int .i64 1, .int .i64 1]]) rfl ⟨rv_box 0 rfl rfl Go.Proofs.Try.underlying120 rfl i120 (i120s).symm, trivial⟩ ?_
    exact fun w' hb hs => ⟨_, _, ⟨rfl, rfl⟩, rfl, hb, hs.sel [] _ (by decide) rfl⟩
  · refine JX.condF rfl hb ?_
    refine JX.skip ?_
    refine JE.code ?_
    refine JX.seq ?_
    refine JX.region ?_
    refine JL.val (yl_move rfl) rfl ?_
    refine JL.val (yl_move rfl) rfl ?_
    refine JL.val (yl_add rfl rfl) rfl ?_
    refine JL.val (yl_build rfl (fun w => bld93_0_1 (w64 (q1.tdiv (w64 (2 * q0.H)))) (w64 ((q1.tmod (w64 (2 * q0.H))) + 1)) w)) rfl ?_
    refine JL.val (yl_build rfl (fun w => bld120_0_1_2 (w64 (q1.tdiv (w64 (2 * q0.H)))) (w64 ((q1.tmod (w64 (2 * q0.H))) + 1)) 1 (-1) w)) rfl ?_
    refine JL.eff (ef_store_box (i := 0) (v := .agg #[.int .i64 (w64 (q1.tdiv (w64 (2 * q0.H)))), .int .i64 (w64 ((q1.tmod (w64 (2 * q0.H))) + 1)), .int .i64 1, .int .i64 (-1)]) i120 rfl rfl rfl (i120s).symm (Nat.le_of_ble_eq_true rfl) (by simp [Value.cells, Value.oneCell'])) rfl ?_
    rintro _ _ rfl
    refine JL.nil ?_
    refine JE.weak (env' := [(4, ptrAt (some ⟨g3, 0, none⟩) 0)]) (es' := [boxO 120 g3 [.int .i64 (w64 (q1.tdiv (w64 (2 * q0.H)))), .int .i64 (w64 ((q1.tmod (w64 (2 * q0.H))) + 1)), .int .i64 1, .int .i64 (-1)]]) [0] ?_ ⟨rfl, trivial⟩ (by decide) rfl
    refine JE.code ?_
    refine JX.ret ?_
    obtain rfl := Option.some.inj hres
    refine JE.ret (rs := [.cell 4 120]) (vs := [.agg #[.int .i64 (w64 (q1.tdiv (w64 (2 * q0.H)))), .int .i64 (w64 ((q1.tmod (w64 (2 * q0.H))) + 1)), .int .i64 1, .int .i64 (-1)]]) rfl ⟨rv_box 0 rfl rfl Go.Proofs.Try.underlying120 rfl i120 (i120s).symm, trivial⟩ ?_
    exact fun w' hb hs => ⟨_, _, ⟨rfl, rfl⟩, rfl, hb, hs.sel [] _ (by decide) rfl⟩

/- (impl.Walker).next -/
def sh116 (q0 : SWalker) : Option (SPoint) := some (SPoint.mk (w64 (q0.At.X + q0.DX)) (w64 (q0.At.Y + q0.DY)))
def T116 (r : SPoint) (v : Value) (rs : List Own) : Prop := v = rets [.agg #[.int .i64 r.X, .int .i64 r.Y]] ∧ rs = []
set_option maxRecDepth 100000 in
theorem c116 {w : World} {q0 : SWalker} {r : SPoint} (hres : sh116 q0 = some r) : Calls Go.Proofs.Try.prog 116 [.agg #[.int .i64 q0.At.X, .int .i64 q0.At.Y, .int .i64 q0.DX, .int .i64 q0.DY]].toArray w (Ret w (T116 r)) := by
  unfold sh116 at hres
  refine calls_of (n := 16) (M := []) (es := []) Go.Proofs.Try.func116 rfl rfl rfl (Sep.nil _ _ _) ?_
  refine JX.seq ?_
  refine JX.region ?_
  refine JL.eff (ef_box rfl rfl) rfl ?_
  rintro _ _ ⟨g1, rfl, rfl⟩
  refine JL.eff (ef_alloc i93 i93z rfl) rfl ?_
  rintro _ _ ⟨g3, rfl, rfl⟩
  refine JL.nil ?_
  refine JE.code ?_
  refine JX.seq ?_
  refine JX.region ?_
  refine JL.val (yl_fieldAt (a := some _) Go.Proofs.Try.underlying120 rfl i93 i93n rfl rfl) rfl ?_
  refine JL.val (yl_fieldAt (a := some _) Go.Proofs.Try.underlying93 rfl i2 i2n rfl rfl) rfl ?_
  refine JL.val (yl_load1 Go.Proofs.Try.underlying2 rfl rfl (fun w hC => rd_box hC 0 rfl) rfl) rfl ?_
  refine JL.val (yl_fieldAt (a := some _) Go.Proofs.Try.underlying120 rfl i2 i2n rfl rfl) rfl ?_
  refine JL.val (yl_load1 Go.Proofs.Try.underlying2 rfl rfl (fun w hC => rd_box hC 0 rfl) rfl) rfl ?_
  refine JL.val (yl_add rfl rfl) rfl ?_
  refine JL.val (yl_fieldAt (a := some _) Go.Proofs.Try.underlying120 rfl i93 i93n rfl rfl) rfl ?_
  refine JL.val (yl_fieldAt (a := some _) Go.Proofs.Try.underlying93 rfl i2 i2n rfl rfl) rfl ?_
  refine JL.val (yl_load1 Go.Proofs.Try.underlying2 rfl rfl (fun w hC => rd_box hC 0 rfl) rfl) rfl ?_
  refine JL.val (yl_fieldAt (a := some _) Go.Proofs.Try.underlying120 rfl i2 i2n rfl rfl) rfl ?_
  refine JL.val (yl_load1 Go.Proofs.Try.underlying2 rfl rfl (fun w hC => rd_box hC 0 rfl) rfl) rfl ?_
  refine JL.val (yl_add rfl rfl) rfl ?_
  refine JL.val (yl_build rfl (fun w => bld93_0_1 (w64 (q0.At.X + q0.DX)) (w64 (q0.At.Y + q0.DY)) w)) rfl ?_
  refine JL.eff (ef_store_box (i := 1) (v := .agg #[.int .i64 (w64 (q0.At.X + q0.DX)), .int .i64 (w64 (q0.At.Y + q0.DY))]) i93 rfl rfl rfl (i93s).symm (Nat.le_of_ble_eq_true rfl) (by simp [Value.cells, Value.oneCell'])) rfl ?_
  rintro _ _ rfl
  refine JL.nil ?_
  refine JE.weak (env' := [(2, ptrAt (some ⟨g3, 0, none⟩) 0)]) (es' := [boxO 93 g3 [.int .i64 (w64 (q0.At.X + q0.DX)), .int .i64 (w64 (q0.At.Y + q0.DY))]]) [1] ?_ ⟨rfl, trivial⟩ (by decide) rfl
  refine JE.code ?_
  refine JX.ret ?_
  obtain rfl := Option.some.inj hres
  refine JE.ret (rs := [.cell 2 93]) (vs := [.agg #[.int .i64 (w64 (q0.At.X + q0.DX)), .int .i64 (w64 (q0.At.Y + q0.DY))]]) rfl ⟨rv_box 0 rfl rfl Go.Proofs.Try.underlying93 rfl i93 (i93s).symm, trivial⟩ ?_
  exact fun w' hb hs => ⟨_, _, ⟨rfl, rfl⟩, rfl, hb, hs.sel [] _ (by decide) rfl⟩

/- (impl.Panel).segment -/
def sh159 (q0 : SPanel) (q1 : SWalker) : Option (Int) := Option.bind (sh116 q1) fun x5 => some (w64 ((w64 ((w64 ((if x5.X < q1.At.X then x5.X else q1.At.X) * 2)) * q0.H)) + (if x5.Y < q1.At.Y then x5.Y else q1.At.Y)))
def T159 (r : Int) (v : Value) (rs : List Own) : Prop := v = rets [.int .i64 r] ∧ rs = []
set_option maxRecDepth 100000 in
theorem c159 {w : World} {q0 : SPanel} {a_0_2 : Option Addr} {n_0_2 c_0_2 : Nat} (g_0_2 : Rd w a_0_2 (eI64.fl q0.Breaks)) (l_0_2 : q0.Breaks.length = n_0_2) (k_0_2 : n_0_2 ≤ c_0_2) {q1 : SWalker} {r : Int} (hres : sh159 q0 q1 = some r) : Calls Go.Proofs.Try.prog 159 [.agg #[.int .i64 q0.W, .int .i64 q0.H, .slice a_0_2 n_0_2 c_0_2], .agg #[.int .i64 q1.At.X, .int .i64 q1.At.Y, .int .i64 q1.DX, .int .i64 q1.DY]].toArray w (Ret w (T159 r)) := by
  subst l_0_2
  unfold sh159 at hres
  refine calls_of (n := 25) (M := []) (es := []) Go.Proofs.Try.func159 rfl rfl rfl (Sep.nil _ _ _) ?_
  refine JX.seq ?_
  refine JX.region ?_
  refine JL.eff (ef_box rfl rfl) rfl ?_
  rintro _ _ ⟨g1, rfl, rfl⟩
  refine JL.eff (ef_box rfl rfl) rfl ?_
  rintro _ _ ⟨g3, rfl, rfl⟩
  refine JL.val (yl_assign rfl) rfl ?_
  refine JL.nil ?_
  refine JE.code ?_
  refine JX.seq ?_
  refine JX.region ?_
  refine JL.val (yl_loadn Go.Proofs.Try.underlying120 rfl i120 rfl (fun w hC => rd_box hC 1 rfl) rfl (i120s).symm i120p) rfl ?_
  obtain ⟨x5, hx5, hres⟩ := bind_some hres
  refine JL.eff (ef_call (vs := [.agg #[.int .i64 q1.At.X, .int .i64 q1.At.Y, .int .i64 q1.DX, .int .i64 q1.DY]]) (T := T116 x5) Go.Proofs.Try.func116 rfl (by kernel_rfl) rfl (fun w hC => c116 (q0 := q1) hx5)) rfl ?_
  rintro _ _ ⟨_, ⟨rfl, rfl⟩, rfl⟩
  refine JL.eff (ef_alloc i93 i93z rfl) rfl ?_
  rintro _ _ ⟨g6, rfl, rfl⟩
  refine JL.eff (ef_store_box (i := 2) (v := .agg #[.int .i64 x5.X, .int .i64 x5.Y]) i93 rfl rfl rfl (i93s).symm (Nat.le_of_ble_eq_true rfl) (by simp [Value.cells, Value.oneCell'])) rfl ?_
  rintro _ _ rfl
  refine JL.nil ?_
  refine JE.weak (env' := [(2, ptrAt (some ⟨g1, 0, none⟩) 0), (3, ptrAt (some ⟨g3, 0, none⟩) 0), (5, ptrAt (some ⟨g6, 0, none⟩) 0)]) (es' := [boxO 39 g1 [.int .i64 q0.W, .int .i64 q0.H, .slice a_0_2 q0.Breaks.length c_0_2], boxO 120 g3 [.int .i64 q1.At.X, .int .i64 q1.At.Y, .int .i64 q1.DX, .int .i64 q1.DY], boxO 93 g6 [.int .i64 x5.X, .int .i64 x5.Y]]) [0, 1, 2] ?_ ⟨rfl, rfl, rfl, trivial⟩ (by decide) rfl
  refine JE.code ?_
  refine JX.seq ?_
  refine JX.region ?_
  refine JL.val (yl_fieldAt (a := some _) Go.Proofs.Try.underlying120 rfl i93 i93n rfl rfl) rfl ?_
  refine JL.val (yl_fieldAt (a := some _) Go.Proofs.Try.underlying93 rfl i2 i2n rfl rfl) rfl ?_
  refine JL.val (yl_load1 Go.Proofs.Try.underlying2 rfl rfl (fun w hC => rd_box hC 1 rfl) rfl) rfl ?_
  refine JL.val (yl_fieldAt (a := some _) Go.Proofs.Try.underlying93 rfl i2 i2n rfl rfl) rfl ?_
  refine JL.val (yl_load1 Go.Proofs.Try.underlying2 rfl rfl (fun w hC => rd_box hC 2 rfl) rfl) rfl ?_
  refine JL.val (yl_min rfl rfl) rfl ?_
  refine JL.val (yl_mul rfl rfl) rfl ?_
  refine JL.val (yl_fieldAt (a := some _) Go.Proofs.Try.underlying39 rfl i2 i2n rfl rfl) rfl ?_
  refine JL.val (yl_load1 Go.Proofs.Try.underlying2 rfl rfl (fun w hC => rd_box hC 0 rfl) rfl) rfl ?_
  refine JL.val (yl_mul rfl rfl) rfl ?_
  refine JL.val (yl_fieldAt (a := some _) Go.Proofs.Try.underlying120 rfl i93 i93n rfl rfl) rfl ?_
  refine JL.val (yl_fieldAt (a := some _) Go.Proofs.Try.underlying93 rfl i2 i2n rfl rfl) rfl ?_
  refine JL.val (yl_load1 Go.Proofs.Try.underlying2 rfl rfl (fun w hC => rd_box hC 1 rfl) rfl) rfl ?_
  refine JL.val (yl_fieldAt (a := some _) Go.Proofs.Try.underlying93 rfl i2 i2n rfl rfl) rfl ?_
  refine JL.val (yl_load1 Go.Proofs.Try.underlying2 rfl rfl (fun w hC => rd_box hC 2 rfl) rfl) rfl ?_
  refine JL.val (yl_min rfl rfl) rfl ?_
  refine JL.val (yl_add rfl rfl) rfl ?_
  refine JL.val (yl_assign rfl) rfl ?_
  refine JL.nil ?_
  refine JE.weak (env' := [(4, .int .i64 (w64 ((w64 ((w64 ((if x5.X < q1.At.X then x5.X else q1.At.X) * 2)) * q0.H)) + (if x5.Y < q1.At.Y then x5.Y else q1.At.Y))))]) (es' := []) [] ?_ ⟨rfl, trivial⟩ (by decide) rfl
  refine JE.code ?_
  refine JX.ret ?_
  obtain rfl := Option.some.inj hres
  refine JE.ret (rs := [.tmp 4]) (vs := [.int .i64 (w64 ((w64 ((w64 ((if x5.X < q1.At.X then x5.X else q1.At.X) * 2)) * q0.H)) + (if x5.Y < q1.At.Y then x5.Y else q1.At.Y)))]) rfl ⟨rfl, trivial⟩ ?_
  exact fun w' hb hs => ⟨_, _, ⟨rfl, rfl⟩, rfl, hb, hs.sel [] _ (by decide) rfl⟩

/- (impl.Panel).isBorder -/
def sh172 (q0 : SPanel) (q1 : SPoint) : Option (Bool) := some ((((q1.X == 0) || (q1.X == (w64 (2 * q0.W)))) || (q1.Y == 0)) || (q1.Y == (w64 (2 * q0.H))))
def T172 (r : Bool) (v : Value) (rs : List Own) : Prop := v = rets [.bool r] ∧ rs = []
set_option maxRecDepth 100000 in
theorem c172 {w : World} {q0 : SPanel} {a_0_2 : Option Addr} {n_0_2 c_0_2 : Nat} (g_0_2 : Rd w a_0_2 (eI64.fl q0.Breaks)) (l_0_2 : q0.Breaks.length = n_0_2) (k_0_2 : n_0_2 ≤ c_0_2) {q1 : SPoint} {r : Bool} (hres : sh172 q0 q1 = some r) : Calls Go.Proofs.Try.prog 172 [.agg #[.int .i64 q0.W, .int .i64 q0.H, .slice a_0_2 n_0_2 c_0_2], .agg #[.int .i64 q1.X, .int .i64 q1.Y]].toArray w (Ret w (T172 r)) := by
  subst l_0_2
  unfold sh172 at hres
  refine calls_of (n := 29) (M := []) (es := []) Go.Proofs.Try.func172 rfl rfl rfl (Sep.nil _ _ _) ?_
  refine JX.seq ?_
  refine JX.region ?_
  refine JL.eff (ef_box rfl rfl) rfl ?_
  rintro _ _ ⟨g1, rfl, rfl⟩
  refine JL.eff (ef_box rfl rfl) rfl ?_
  rintro _ _ ⟨g3, rfl, rfl⟩
  refine JL.val (yl_assign rfl) rfl ?_
  refine JL.nil ?_
  refine JE.code ?_
  refine JX.seq ?_
  refine JX.region ?_
  refine JL.val (yl_fieldAt (a := some _) Go.Proofs.Try.underlying93 rfl i2 i2n rfl rfl) rfl ?_
  refine JL.val (yl_load1 Go.Proofs.Try.underlying2 rfl rfl (fun w hC => rd_box hC 1 rfl) rfl) rfl ?_
  refine JL.val (yl_eql rfl rfl) rfl ?_
  refine JL.val (yl_move rfl) rfl ?_
  refine JL.cut (K := fun J => J [(2, ptrAt (some ⟨g1, 0, none⟩) 0), (3, ptrAt (some ⟨g3, 0, none⟩) 0), (15, .bool ((q1.X == 0) || (q1.X == (w64 (2 * q0.W)))))] [boxO 39 g1 [.int .i64 q0.W, .int .i64 q0.H, .slice a_0_2 q0.Breaks.length c_0_2], boxO 93 g3 [.int .i64 q1.X, .int .i64 q1.Y]]) 7 ?_ ?_
  · refine JL.val (yl_move rfl) rfl ?_
    refine JL.cut (K := fun J => J [(2, ptrAt (some ⟨g1, 0, none⟩) 0), (3, ptrAt (some ⟨g3, 0, none⟩) 0), (20, .bool (((q1.X == 0) || (q1.X == (w64 (2 * q0.W)))) || (q1.Y == 0)))] [boxO 39 g1 [.int .i64 q0.W, .int .i64 q0.H, .slice a_0_2 q0.Breaks.length c_0_2], boxO 93 g3 [.int .i64 q1.X, .int .i64 q1.Y]]) 4 ?_ ?_
    · refine JL.val (yl_move rfl) rfl ?_
      refine JL.cut (K := fun J => J [(28, .bool ((((q1.X == 0) || (q1.X == (w64 (2 * q0.W)))) || (q1.Y == 0)) || (q1.Y == (w64 (2 * q0.H)))))] []) 7 ?_ ?_
      · refine JL.val (yl_assign rfl) rfl ?_
        refine JL.nil ?_
        refine JE.weak (env' := [(4, .bool ((((q1.X == 0) || (q1.X == (w64 (2 * q0.W)))) || (q1.Y == 0)) || (q1.Y == (w64 (2 * q0.H)))))]) (es' := []) [] ?_ ⟨rfl, trivial⟩ (by decide) rfl
        refine JE.code ?_
        refine JX.ret ?_
        obtain rfl := Option.some.inj hres
        refine JE.ret (rs := [.tmp 4]) (vs := [.bool ((((q1.X == 0) || (q1.X == (w64 (2 * q0.W)))) || (q1.Y == 0)) || (q1.Y == (w64 (2 * q0.H))))]) rfl ⟨rfl, trivial⟩ ?_
        exact fun w' hb hs => ⟨_, _, ⟨rfl, rfl⟩, rfl, hb, hs.sel [] _ (by decide) rfl⟩
      · intro K
        rcases Bool.eq_false_or_eq_true (((q1.X == 0) || (q1.X == (w64 (2 * q0.W)))) || (q1.Y == 0)) with hb | hb
        · refine JL.set (d := 21) (v := .bool true) (congrArg (fun b => some (Value.bool b)) hb) ?_
          refine JL.gskip rfl rfl rfl rfl ?_
          refine JL.gskip rfl rfl rfl rfl ?_
          refine JL.gskip rfl rfl rfl rfl ?_
          refine JL.gskip rfl rfl rfl rfl ?_
          refine JL.gskip rfl rfl rfl rfl ?_
          refine JL.gskip rfl rfl rfl rfl ?_
          refine JL.val (yl_pick_true rfl rfl) rfl ?_
          exact JL.weak [] K ⟨(by rw [hb]; rfl), trivial⟩ (by decide) rfl
        · refine JL.set (d := 21) (v := .bool false) (congrArg (fun b => some (Value.bool b)) hb) ?_
          refine JL.gval rfl rfl (yl_fieldAt (a := some _) Go.Proofs.Try.underlying93 rfl i2 i2n rfl rfl) rfl ?_
          refine JL.gval rfl rfl (yl_load1 Go.Proofs.Try.underlying2 rfl rfl (fun w hC => rd_box hC 1 rfl) rfl) rfl ?_
          refine JL.gval rfl rfl (yl_fieldAt (a := some _) Go.Proofs.Try.underlying39 rfl i2 i2n rfl rfl) rfl ?_
          refine JL.gval rfl rfl (yl_load1 Go.Proofs.Try.underlying2 rfl rfl (fun w hC => rd_box hC 0 rfl) rfl) rfl ?_
          refine JL.gval rfl rfl (yl_mul rfl rfl) rfl ?_
          refine JL.gval rfl rfl (yl_eql rfl rfl) rfl ?_
          refine JL.val (yl_pick_false rfl rfl) rfl ?_
          exact JL.weak [] K ⟨(by rw [hb]; rfl), trivial⟩ (by decide) rfl
    · intro K
      rcases Bool.eq_false_or_eq_true ((q1.X == 0) || (q1.X == (w64 (2 * q0.W)))) with hb | hb
      · refine JL.set (d := 16) (v := .bool true) (congrArg (fun b => some (Value.bool b)) hb) ?_
        refine JL.gskip rfl rfl rfl rfl ?_
        refine JL.gskip rfl rfl rfl rfl ?_
        refine JL.gskip rfl rfl rfl rfl ?_
        refine JL.val (yl_pick_true rfl rfl) rfl ?_
        exact JL.weak [0, 1] K ⟨rfl, rfl, (by rw [hb]; rfl), trivial⟩ (by decide) rfl
      · refine JL.set (d := 16) (v := .bool false) (congrArg (fun b => some (Value.bool b)) hb) ?_
        refine JL.gval rfl rfl (yl_fieldAt (a := some _) Go.Proofs.Try.underlying93 rfl i2 i2n rfl rfl) rfl ?_
        refine JL.gval rfl rfl (yl_load1 Go.Proofs.Try.underlying2 rfl rfl (fun w hC => rd_box hC 1 rfl) rfl) rfl ?_
        refine JL.gval rfl rfl (yl_eql rfl rfl) rfl ?_
        refine JL.val (yl_pick_false rfl rfl) rfl ?_
        exact JL.weak [0, 1] K ⟨rfl, rfl, (by rw [hb]; rfl), trivial⟩ (by decide) rfl
  · intro K
    rcases Bool.eq_false_or_eq_true (q1.X == 0) with hb | hb
    · refine JL.set (d := 8) (v := .bool true) (congrArg (fun b => some (Value.bool b)) hb) ?_
      refine JL.gskip rfl rfl rfl rfl ?_
      refine JL.gskip rfl rfl rfl rfl ?_
      refine JL.gskip rfl rfl rfl rfl ?_
      refine JL.gskip rfl rfl rfl rfl ?_
      refine JL.gskip rfl rfl rfl rfl ?_
      refine JL.gskip rfl rfl rfl rfl ?_
      refine JL.val (yl_pick_true rfl rfl) rfl ?_
      exact JL.weak [0, 1] K ⟨rfl, rfl, (by rw [hb]; rfl), trivial⟩ (by decide) rfl
    · refine JL.set (d := 8) (v := .bool false) (congrArg (fun b => some (Value.bool b)) hb) ?_
      refine JL.gval rfl rfl (yl_fieldAt (a := some _) Go.Proofs.Try.underlying93 rfl i2 i2n rfl rfl) rfl ?_
      refine JL.gval rfl rfl (yl_load1 Go.Proofs.Try.underlying2 rfl rfl (fun w hC => rd_box hC 1 rfl) rfl) rfl ?_
      refine JL.gval rfl rfl (yl_fieldAt (a := some _) Go.Proofs.Try.underlying39 rfl i2 i2n rfl rfl) rfl ?_
      refine JL.gval rfl rfl (yl_load1 Go.Proofs.Try.underlying2 rfl rfl (fun w hC => rd_box hC 0 rfl) rfl) rfl ?_
      refine JL.gval rfl rfl (yl_mul rfl rfl) rfl ?_
      refine JL.gval rfl rfl (yl_eql rfl rfl) rfl ?_
      refine JL.val (yl_pick_false rfl rfl) rfl ?_
      exact JL.weak [0, 1] K ⟨rfl, rfl, (by rw [hb]; rfl), trivial⟩ (by decide) rfl

/- (impl.Panel).number -/
def sh174 (q0 : SPanel) (q1 : SPoint) : Option (Int) := bif (q1.Y.tmod 2) == 1 then (some (w64 ((w64 ((w64 ((w64 ((w64 (q1.Y.tdiv 2)) * (w64 (q0.W - 1)))) + (w64 ((w64 ((w64 (q1.Y - 1)).tdiv 2)) * q0.W)))) + (w64 (q1.X.tdiv 2)))) - 1))) else (some (w64 ((w64 ((w64 ((w64 (q1.Y.tdiv 2)) * (w64 (q0.W - 1)))) + (w64 ((w64 ((w64 (q1.Y - 1)).tdiv 2)) * q0.W)))) + (w64 (q1.X.tdiv 2)))))
def T174 (r : Int) (v : Value) (rs : List Own) : Prop := v = rets [.int .i64 r] ∧ rs = []
set_option maxRecDepth 100000 in
theorem c174 {w : World} {q0 : SPanel} {a_0_2 : Option Addr} {n_0_2 c_0_2 : Nat} (g_0_2 : Rd w a_0_2 (eI64.fl q0.Breaks)) (l_0_2 : q0.Breaks.length = n_0_2) (k_0_2 : n_0_2 ≤ c_0_2) {q1 : SPoint} {r : Int} (hres : sh174 q0 q1 = some r) : Calls Go.Proofs.Try.prog 174 [.agg #[.int .i64 q0.W, .int .i64 q0.H, .slice a_0_2 n_0_2 c_0_2], .agg #[.int .i64 q1.X, .int .i64 q1.Y]].toArray w (Ret w (T174 r)) := by
  subst l_0_2
  unfold sh174 at hres
  refine calls_of (n := 36) (M := []) (es := []) Go.Proofs.Try.func174 rfl rfl rfl (Sep.nil _ _ _) ?_
  refine JX.seq ?_
  refine JX.region ?_
  refine JL.eff (ef_box rfl rfl) rfl ?_
  rintro _ _ ⟨g1, rfl, rfl⟩
  refine JL.eff (ef_box rfl rfl) rfl ?_
  rintro _ _ ⟨g3, rfl, rfl⟩
  refine JL.val (yl_assign rfl) rfl ?_
  refine JL.nil ?_
  refine JE.code ?_
  refine JX.seq ?_
  refine JX.region ?_
  refine JL.val (yl_fieldAt (a := some _) Go.Proofs.Try.underlying93 rfl i2 i2n rfl rfl) rfl ?_
  refine JL.val (yl_load1 Go.Proofs.Try.underlying2 rfl rfl (fun w hC => rd_box hC 1 rfl) rfl) rfl ?_
  refine JL.val (yl_quo rfl rfl (by decide)) rfl ?_
  refine JL.val (yl_fieldAt (a := some _) Go.Proofs.Try.underlying39 rfl i2 i2n rfl rfl) rfl ?_
  refine JL.val (yl_load1 Go.Proofs.Try.underlying2 rfl rfl (fun w hC => rd_box hC 0 rfl) rfl) rfl ?_
  refine JL.val (yl_sub rfl rfl) rfl ?_
  refine JL.val (yl_mul rfl rfl) rfl ?_
  refine JL.val (yl_fieldAt (a := some _) Go.Proofs.Try.underlying93 rfl i2 i2n rfl rfl) rfl ?_
  refine JL.val (yl_load1 Go.Proofs.Try.underlying2 rfl rfl (fun w hC => rd_box hC 1 rfl) rfl) rfl ?_
  refine JL.val (yl_sub rfl rfl) rfl ?_
  refine JL.val (yl_quo rfl rfl (by decide)) rfl ?_
  refine JL.val (yl_fieldAt (a := some _) Go.Proofs.Try.underlying39 rfl i2 i2n rfl rfl) rfl ?_
  refine JL.val (yl_load1 Go.Proofs.Try.underlying2 rfl rfl (fun w hC => rd_box hC 0 rfl) rfl) rfl ?_
  refine JL.val (yl_mul rfl rfl) rfl ?_
  refine JL.val (yl_add rfl rfl) rfl ?_
  refine JL.val (yl_assign rfl) rfl ?_
  refine JL.nil ?_
  refine JE.weak (env' := [(3, ptrAt (some ⟨g3, 0, none⟩) 0), (5, .int .i64 (w64 ((w64 ((w64 (q1.Y.tdiv 2)) * (w64 (q0.W - 1)))) + (w64 ((w64 ((w64 (q1.Y - 1)).tdiv 2)) * q0.W)))))]) (es' := [boxO 93 g3 [.int .i64 q1.X, .int .i64 q1.Y]]) [1] ?_ ⟨rfl, rfl, trivial⟩ (by decide) rfl
  refine JE.code ?_
  refine JX.seq ?_
  refine JX.seq ?_
  refine JX.region ?_
  refine JL.val (yl_fieldAt (a := some _) Go.Proofs.Try.underlying93 rfl i2 i2n rfl rfl) rfl ?_
  refine JL.val (yl_load1 Go.Proofs.Try.underlying2 rfl rfl (fun w hC => rd_box hC 0 rfl) rfl) rfl ?_
  refine JL.val (yl_rem rfl rfl (by decide)) rfl ?_
  refine JL.val (yl_eql rfl rfl) rfl ?_
  refine JL.nil ?_
  refine JE.weak (env' := [(3, ptrAt (some ⟨g3, 0, none⟩) 0), (5, .int .i64 (w64 ((w64 ((w64 (q1.Y.tdiv 2)) * (w64 (q0.W - 1)))) + (w64 ((w64 ((w64 (q1.Y - 1)).tdiv 2)) * q0.W))))), (24, .bool ((q1.Y.tmod 2) == 1))]) (es' := [boxO 93 g3 [.int .i64 q1.X, .int .i64 q1.Y]]) [0] ?_ ⟨rfl, rfl, rfl, trivial⟩ (by decide) rfl
  refine JE.code ?_
  rcases cond_some hres with ⟨hb, hres⟩ | ⟨hb, hres⟩
  · refine JX.condT rfl hb ?_
    refine JX.seq ?_
    refine JX.region ?_
    refine JL.val (yl_move rfl) rfl ?_
    refine JL.val (yl_fieldAt (a := some _) Go.Proofs.Try.underlying93 rfl i2 i2n rfl rfl) rfl ?_
    refine JL.val (yl_load1 Go.Proofs.Try.underlying2 rfl rfl (fun w hC => rd_box hC 0 rfl) rfl) rfl ?_
    refine JL.val (yl_quo rfl rfl (by decide)) rfl ?_
    refine JL.val (yl_add rfl rfl) rfl ?_
    refine JL.val (yl_sub rfl rfl) rfl ?_
    refine JL.val (yl_assign rfl) rfl ?_
    refine JL.nil ?_
    refine JE.weak (env' := [(4, .int .i64 (w64 ((w64 ((w64 ((w64 ((w64 (q1.Y.tdiv 2)) * (w64 (q0.W - 1)))) + (w64 ((w64 ((w64 (q1.Y - 1)).tdiv 2)) * q0.W)))) + (w64 (q1.X.tdiv 2)))) - 1)))]) (es' := []) [] ?_ ⟨rfl, trivial⟩ (by decide) rfl
    refine JE.code ?_
    refine JX.ret ?_
    obtain rfl := Option.some.inj hres
    refine JE.ret (rs := [.tmp 4]) (vs := [.int .i64 (w64 ((w64 ((w64 ((w64 ((w64 (q1.Y.tdiv 2)) * (w64 (q0.W - 1)))) + (w64 ((w64 ((w64 (q1.Y - 1)).tdiv 2)) * q0.W)))) + (w64 (q1.X.tdiv 2)))) - 1))]) rfl ⟨rfl, trivial⟩ ?_
    exact fun w' hb hs => ⟨_, _, ⟨rfl, rfl⟩, rfl, hb, hs.sel [] _ (by decide) rfl⟩
  · refine JX.condF rfl hb ?_
    refine JX.skip ?_
    refine JE.code ?_
    refine JX.seq ?_
    refine JX.region ?_
    refine JL.val (yl_move rfl) rfl ?_
    refine JL.val (yl_fieldAt (a := some _) Go.Proofs.Try.underlying93 rfl i2 i2n rfl rfl) rfl ?_
    refine JL.val (yl_load1 Go.Proofs.Try.underlying2 rfl rfl (fun w hC => rd_box hC 0 rfl) rfl) rfl ?_
    refine JL.val (yl_quo rfl rfl (by decide)) rfl ?_
    refine JL.val (yl_add rfl rfl) rfl ?_
    refine JL.val (yl_assign rfl) rfl ?_
    refine JL.nil ?_
    refine JE.weak (env' := [(4, .int .i64 (w64 ((w64 ((w64 ((w64 (q1.Y.tdiv 2)) * (w64 (q0.W - 1)))) + (w64 ((w64 ((w64 (q1.Y - 1)).tdiv 2)) * q0.W)))) + (w64 (q1.X.tdiv 2)))))]) (es' := []) [] ?_ ⟨rfl, trivial⟩ (by decide) rfl
    refine JE.code ?_
    refine JX.ret ?_
    obtain rfl := Option.some.inj hres
    refine JE.ret (rs := [.tmp 4]) (vs := [.int .i64 (w64 ((w64 ((w64 ((w64 (q1.Y.tdiv 2)) * (w64 (q0.W - 1)))) + (w64 ((w64 ((w64 (q1.Y - 1)).tdiv 2)) * q0.W)))) + (w64 (q1.X.tdiv 2))))]) rfl ⟨rfl, trivial⟩ ?_
    exact fun w' hb hs => ⟨_, _, ⟨rfl, rfl⟩, rfl, hb, hs.sel [] _ (by decide) rfl⟩

/- (impl.Panel).step -/
def sh160 (q0 : SPanel) (q1 : SWalker) : Option (SWalker × Bool) := Option.bind (sh116 q1) fun x7 => Option.bind (sh172 q0 x7) fun x12 => Option.bind (bif !x12 then (Option.bind (sh174 q0 x7) fun x18 => Option.bind (getI q0.Breaks x18) fun x19 => some x19) else (some 0)) fun j13 => (Option.bind (bif ((x7.X == 0) || (x7.X == (w64 (2 * q0.W)))) || (j13 == 1) then (some (SWalker.mk x7 (w64 (0 - q1.DX)) q1.DY)) else (some (SWalker.mk x7 q1.DX q1.DY))) fun j14 => (Option.bind (bif ((x7.Y == 0) || (x7.Y == (w64 (2 * q0.H)))) || (j13 == 2) then (some (SWalker.mk j14.At j14.DX (w64 (0 - j14.DY)))) else (some j14)) fun j15 => (some (j15, (j15.DX != q1.DX) || (j15.DY != q1.DY)))))
def T160 (r : SWalker × Bool) (v : Value) (rs : List Own) : Prop := v = rets [.agg #[.int .i64 r.1.At.X, .int .i64 r.1.At.Y, .int .i64 r.1.DX, .int .i64 r.1.DY], .bool r.2] ∧ rs = []
set_option maxRecDepth 100000 in
theorem c160 {w : World} {q0 : SPanel} {a_0_2 : Option Addr} {n_0_2 c_0_2 : Nat} (g_0_2 : Rd w a_0_2 (eI64.fl q0.Breaks)) (l_0_2 : q0.Breaks.length = n_0_2) (k_0_2 : n_0_2 ≤ c_0_2) {q1 : SWalker} {r : SWalker × Bool} (hres : sh160 q0 q1 = some r) : Calls Go.Proofs.Try.prog 160 [.agg #[.int .i64 q0.W, .int .i64 q0.H, .slice a_0_2 n_0_2 c_0_2], .agg #[.int .i64 q1.At.X, .int .i64 q1.At.Y, .int .i64 q1.DX, .int .i64 q1.DY]].toArray w (Ret w (T160 r)) := by
  subst l_0_2
  unfold sh160 at hres
  refine calls_of (n := 79) (M := []) (es := []) Go.Proofs.Try.func160 rfl rfl rfl (Sep.nil _ _ _) ?_
  refine JX.seq ?_
  refine JX.region ?_
  refine JL.eff (ef_box rfl rfl) rfl ?_
  rintro _ _ ⟨g1, rfl, rfl⟩
  refine JL.eff (ef_box rfl rfl) rfl ?_
  rintro _ _ ⟨g3, rfl, rfl⟩
  refine JL.eff (ef_alloc i120 i120z rfl) rfl ?_
  rintro _ _ ⟨g5, rfl, rfl⟩
  refine JL.val (yl_assign rfl) rfl ?_
  refine JL.nil ?_
  refine JE.weak (env' := [(2, ptrAt (some ⟨g1, 0, none⟩) 0), (3, ptrAt (some ⟨g3, 0, none⟩) 0), (4, ptrAt (some ⟨g5, 0, none⟩) 0)]) (es' := [boxO 39 g1 [.int .i64 q0.W, .int .i64 q0.H, .slice a_0_2 q0.Breaks.length c_0_2], boxO 120 g3 [.int .i64 q1.At.X, .int .i64 q1.At.Y, .int .i64 q1.DX, .int .i64 q1.DY], boxO 120 g5 [.int .i64 0, .int .i64 0, .int .i64 0, .int .i64 0]]) [0, 1, 2] ?_ ⟨rfl, rfl, rfl, trivial⟩ (by decide) rfl
  refine JE.code ?_
  refine JX.seq ?_
  refine JX.region ?_
  refine JL.val (yl_loadn Go.Proofs.Try.underlying120 rfl i120 rfl (fun w hC => rd_box hC 1 rfl) rfl (i120s).symm i120p) rfl ?_
  obtain ⟨x7, hx7, hres⟩ := bind_some hres
  refine JL.eff (ef_call (vs := [.agg #[.int .i64 q1.At.X, .int .i64 q1.At.Y, .int .i64 q1.DX, .int .i64 q1.DY]]) (T := T116 x7) Go.Proofs.Try.func116 rfl (by kernel_rfl) rfl (fun w hC => c116 (q0 := q1) hx7)) rfl ?_
  rintro _ _ ⟨_, ⟨rfl, rfl⟩, rfl⟩
  refine JL.eff (ef_alloc i93 i93z rfl) rfl ?_
  rintro _ _ ⟨g8, rfl, rfl⟩
  refine JL.eff (ef_store_box (i := 3) (v := .agg #[.int .i64 x7.X, .int .i64 x7.Y]) i93 rfl rfl rfl (i93s).symm (Nat.le_of_ble_eq_true rfl) (by simp [Value.cells, Value.oneCell'])) rfl ?_
  rintro _ _ rfl
  refine JL.nil ?_
  refine JE.weak (env' := [(2, ptrAt (some ⟨g1, 0, none⟩) 0), (3, ptrAt (some ⟨g3, 0, none⟩) 0), (4, ptrAt (some ⟨g5, 0, none⟩) 0), (6, ptrAt (some ⟨g8, 0, none⟩) 0)]) (es' := [boxO 39 g1 [.int .i64 q0.W, .int .i64 q0.H, .slice a_0_2 q0.Breaks.length c_0_2], boxO 120 g3 [.int .i64 q1.At.X, .int .i64 q1.At.Y, .int .i64 q1.DX, .int .i64 q1.DY], boxO 120 g5 [.int .i64 0, .int .i64 0, .int .i64 0, .int .i64 0], boxO 93 g8 [.int .i64 x7.X, .int .i64 x7.Y]]) [0, 1, 2, 3] ?_ ⟨rfl, rfl, rfl, rfl, trivial⟩ (by decide) rfl
  refine JE.code ?_
  refine JX.seq ?_
  refine JX.region ?_
  refine JL.val (yl_loadn Go.Proofs.Try.underlying93 rfl i93 rfl (fun w hC => rd_box hC 3 rfl) rfl (i93s).symm i93p) rfl ?_
  refine JL.val (yl_fieldAt (a := some _) Go.Proofs.Try.underlying120 rfl i2 i2n rfl rfl) rfl ?_
  refine JL.val (yl_load1 Go.Proofs.Try.underlying2 rfl rfl (fun w hC => rd_box hC 1 rfl) rfl) rfl ?_
  refine JL.val (yl_fieldAt (a := some _) Go.Proofs.Try.underlying120 rfl i2 i2n rfl rfl) rfl ?_
  refine JL.val (yl_load1 Go.Proofs.Try.underlying2 rfl rfl (fun w hC => rd_box hC 1 rfl) rfl) rfl ?_
  refine JL.val (yl_build rfl (fun w => bld120_0_1_2 x7.X x7.Y q1.DX q1.DY w)) rfl ?_
  refine JL.eff (ef_alloc i120 i120z rfl) rfl ?_
  rintro _ _ ⟨g10, rfl, rfl⟩
  refine JL.eff (ef_store_box (i := 4) (v := .agg #[.int .i64 x7.X, .int .i64 x7.Y, .int .i64 q1.DX, .int .i64 q1.DY]) i120 rfl rfl rfl (i120s).symm (Nat.le_of_ble_eq_true rfl) (by simp [Value.cells, Value.oneCell'])) rfl ?_
  rintro _ _ rfl
  refine JL.nil ?_
  refine JE.weak (env' := [(2, ptrAt (some ⟨g1, 0, none⟩) 0), (3, ptrAt (some ⟨g3, 0, none⟩) 0), (4, ptrAt (some ⟨g5, 0, none⟩) 0), (6, ptrAt (some ⟨g8, 0, none⟩) 0), (7, ptrAt (some ⟨g10, 0, none⟩) 0)]) (es' := [boxO 39 g1 [.int .i64 q0.W, .int .i64 q0.H, .slice a_0_2 q0.Breaks.length c_0_2], boxO 120 g3 [.int .i64 q1.At.X, .int .i64 q1.At.Y, .int .i64 q1.DX, .int .i64 q1.DY], boxO 120 g5 [.int .i64 0, .int .i64 0, .int .i64 0, .int .i64 0], boxO 93 g8 [.int .i64 x7.X, .int .i64 x7.Y], boxO 120 g10 [.int .i64 x7.X, .int .i64 x7.Y, .int .i64 q1.DX, .int .i64 q1.DY]]) [0, 1, 2, 3, 4] ?_ ⟨rfl, rfl, rfl, rfl, rfl, trivial⟩ (by decide) rfl
  refine JE.code ?_
  refine JX.seq ?_
  refine JX.region ?_
  refine JL.val (yl_assign rfl) rfl ?_
  refine JL.nil ?_
  refine JE.code ?_
  refine JX.seq ?_
  refine JX.seq ?_
  refine JX.region ?_
  refine JL.val (yl_loadn Go.Proofs.Try.underlying39 rfl i39 rfl (fun w hC => rd_box hC 0 rfl) rfl (i39s).symm i39p) rfl ?_
  refine JL.val (yl_loadn Go.Proofs.Try.underlying93 rfl i93 rfl (fun w hC => rd_box hC 3 rfl) rfl (i93s).symm i93p) rfl ?_
  obtain ⟨x12, hx12, hres⟩ := bind_some hres
  refine JL.eff (ef_call (vs := [.agg #[.int .i64 q0.W, .int .i64 q0.H, .slice a_0_2 q0.Breaks.length c_0_2], .agg #[.int .i64 x7.X, .int .i64 x7.Y]]) (T := T172 x12) Go.Proofs.Try.func172 rfl (by kernel_rfl) rfl (fun w hC => c172 (q0 := q0) (q1 := x7) (rd_arg g_0_2 hC) rfl k_0_2 hx12)) rfl ?_
  rintro _ _ ⟨_, ⟨rfl, rfl⟩, rfl⟩
  refine JL.val (yl_not rfl) rfl ?_
  refine JL.nil ?_
  refine JE.weak (env' := [(2, ptrAt (some ⟨g1, 0, none⟩) 0), (3, ptrAt (some ⟨g3, 0, none⟩) 0), (4, ptrAt (some ⟨g5, 0, none⟩) 0), (6, ptrAt (some ⟨g8, 0, none⟩) 0), (7, ptrAt (some ⟨g10, 0, none⟩) 0), (8, .int .i64 0), (20, .bool !x12)]) (es' := [boxO 39 g1 [.int .i64 q0.W, .int .i64 q0.H, .slice a_0_2 q0.Breaks.length c_0_2], boxO 120 g3 [.int .i64 q1.At.X, .int .i64 q1.At.Y, .int .i64 q1.DX, .int .i64 q1.DY], boxO 120 g5 [.int .i64 0, .int .i64 0, .int .i64 0, .int .i64 0], boxO 93 g8 [.int .i64 x7.X, .int .i64 x7.Y], boxO 120 g10 [.int .i64 x7.X, .int .i64 x7.Y, .int .i64 q1.DX, .int .i64 q1.DY]]) [0, 1, 2, 3, 4] ?_ ⟨rfl, rfl, rfl, rfl, rfl, rfl, rfl, trivial⟩ (by decide) rfl
  refine JE.code ?_
  obtain ⟨j13, hj13, hresj13⟩ := bind_some hres
  refine JX.cut (K := fun J => J [(2, ptrAt (some ⟨g1, 0, none⟩) 0), (3, ptrAt (some ⟨g3, 0, none⟩) 0), (4, ptrAt (some ⟨g5, 0, none⟩) 0), (6, ptrAt (some ⟨g8, 0, none⟩) 0), (7, ptrAt (some ⟨g10, 0, none⟩) 0), (8, .int .i64 j13)] [boxO 39 g1 [.int .i64 q0.W, .int .i64 q0.H, .slice a_0_2 q0.Breaks.length c_0_2], boxO 120 g3 [.int .i64 q1.At.X, .int .i64 q1.At.Y, .int .i64 q1.DX, .int .i64 q1.DY], boxO 120 g5 [.int .i64 0, .int .i64 0, .int .i64 0, .int .i64 0], boxO 93 g8 [.int .i64 x7.X, .int .i64 x7.Y], boxO 120 g10 [.int .i64 x7.X, .int .i64 x7.Y, .int .i64 q1.DX, .int .i64 q1.DY]]) ?_ ?_
  · have hres := hresj13
    refine JE.code ?_
    refine JX.seq ?_
    refine JX.seq ?_
    refine JX.region ?_
    refine JL.val (yl_fieldAt (a := some _) Go.Proofs.Try.underlying93 rfl i2 i2n rfl rfl) rfl ?_
    refine JL.val (yl_load1 Go.Proofs.Try.underlying2 rfl rfl (fun w hC => rd_box hC 3 rfl) rfl) rfl ?_
    refine JL.val (yl_eql rfl rfl) rfl ?_
    refine JL.val (yl_move rfl) rfl ?_
    refine JL.cut (K := fun J => J [(2, ptrAt (some ⟨g1, 0, none⟩) 0), (3, ptrAt (some ⟨g3, 0, none⟩) 0), (4, ptrAt (some ⟨g5, 0, none⟩) 0), (6, ptrAt (some ⟨g8, 0, none⟩) 0), (7, ptrAt (some ⟨g10, 0, none⟩) 0), (8, .int .i64 j13), (38, .bool ((x7.X == 0) || (x7.X == (w64 (2 * q0.W)))))] [boxO 39 g1 [.int .i64 q0.W, .int .i64 q0.H, .slice a_0_2 q0.Breaks.length c_0_2], boxO 120 g3 [.int .i64 q1.At.X, .int .i64 q1.At.Y, .int .i64 q1.DX, .int .i64 q1.DY], boxO 120 g5 [.int .i64 0, .int .i64 0, .int .i64 0, .int .i64 0], boxO 93 g8 [.int .i64 x7.X, .int .i64 x7.Y], boxO 120 g10 [.int .i64 x7.X, .int .i64 x7.Y, .int .i64 q1.DX, .int .i64 q1.DY]]) 7 ?_ ?_
    · refine JL.val (yl_move rfl) rfl ?_
      refine JL.cut (K := fun J => J [(2, ptrAt (some ⟨g1, 0, none⟩) 0), (3, ptrAt (some ⟨g3, 0, none⟩) 0), (4, ptrAt (some ⟨g5, 0, none⟩) 0), (6, ptrAt (some ⟨g8, 0, none⟩) 0), (7, ptrAt (some ⟨g10, 0, none⟩) 0), (8, .int .i64 j13), (42, .bool (((x7.X == 0) || (x7.X == (w64 (2 * q0.W)))) || (j13 == 1)))] [boxO 39 g1 [.int .i64 q0.W, .int .i64 q0.H, .slice a_0_2 q0.Breaks.length c_0_2], boxO 120 g3 [.int .i64 q1.At.X, .int .i64 q1.At.Y, .int .i64 q1.DX, .int .i64 q1.DY], boxO 120 g5 [.int .i64 0, .int .i64 0, .int .i64 0, .int .i64 0], boxO 93 g8 [.int .i64 x7.X, .int .i64 x7.Y], boxO 120 g10 [.int .i64 x7.X, .int .i64 x7.Y, .int .i64 q1.DX, .int .i64 q1.DY]]) 3 ?_ ?_
      · refine JL.nil ?_
        refine JE.weak (env' := [(2, ptrAt (some ⟨g1, 0, none⟩) 0), (3, ptrAt (some ⟨g3, 0, none⟩) 0), (4, ptrAt (some ⟨g5, 0, none⟩) 0), (6, ptrAt (some ⟨g8, 0, none⟩) 0), (7, ptrAt (some ⟨g10, 0, none⟩) 0), (8, .int .i64 j13), (42, .bool (((x7.X == 0) || (x7.X == (w64 (2 * q0.W)))) || (j13 == 1)))]) (es' := [boxO 39 g1 [.int .i64 q0.W, .int .i64 q0.H, .slice a_0_2 q0.Breaks.length c_0_2], boxO 120 g3 [.int .i64 q1.At.X, .int .i64 q1.At.Y, .int .i64 q1.DX, .int .i64 q1.DY], boxO 120 g5 [.int .i64 0, .int .i64 0, .int .i64 0, .int .i64 0], boxO 93 g8 [.int .i64 x7.X, .int .i64 x7.Y], boxO 120 g10 [.int .i64 x7.X, .int .i64 x7.Y, .int .i64 q1.DX, .int .i64 q1.DY]]) [0, 1, 2, 3, 4] ?_ ⟨rfl, rfl, rfl, rfl, rfl, rfl, rfl, trivial⟩ (by decide) rfl
        refine JE.code ?_
        obtain ⟨j14, hj14, hresj14⟩ := bind_some hres
        refine JX.cut (K := fun J => J [(2, ptrAt (some ⟨g1, 0, none⟩) 0), (3, ptrAt (some ⟨g3, 0, none⟩) 0), (4, ptrAt (some ⟨g5, 0, none⟩) 0), (6, ptrAt (some ⟨g8, 0, none⟩) 0), (7, ptrAt (some ⟨g10, 0, none⟩) 0), (8, .int .i64 j13)] [boxO 39 g1 [.int .i64 q0.W, .int .i64 q0.H, .slice a_0_2 q0.Breaks.length c_0_2], boxO 120 g3 [.int .i64 q1.At.X, .int .i64 q1.At.Y, .int .i64 q1.DX, .int .i64 q1.DY], boxO 120 g5 [.int .i64 0, .int .i64 0, .int .i64 0, .int .i64 0], boxO 93 g8 [.int .i64 x7.X, .int .i64 x7.Y], boxO 120 g10 [.int .i64 j14.At.X, .int .i64 j14.At.Y, .int .i64 j14.DX, .int .i64 j14.DY]]) ?_ ?_
        · have hres := hresj14
          refine JE.code ?_
          refine JX.seq ?_
          refine JX.seq ?_
          refine JX.region ?_
          refine JL.val (yl_fieldAt (a := some _) Go.Proofs.Try.underlying93 rfl i2 i2n rfl rfl) rfl ?_
          refine JL.val (yl_load1 Go.Proofs.Try.underlying2 rfl rfl (fun w hC => rd_box hC 3 rfl) rfl) rfl ?_
          refine JL.val (yl_eql rfl rfl) rfl ?_
          refine JL.val (yl_move rfl) rfl ?_
          refine JL.cut (K := fun J => J [(3, ptrAt (some ⟨g3, 0, none⟩) 0), (4, ptrAt (some ⟨g5, 0, none⟩) 0), (7, ptrAt (some ⟨g10, 0, none⟩) 0), (8, .int .i64 j13), (57, .bool ((x7.Y == 0) || (x7.Y == (w64 (2 * q0.H)))))] [boxO 120 g3 [.int .i64 q1.At.X, .int .i64 q1.At.Y, .int .i64 q1.DX, .int .i64 q1.DY], boxO 120 g5 [.int .i64 0, .int .i64 0, .int .i64 0, .int .i64 0], boxO 120 g10 [.int .i64 j14.At.X, .int .i64 j14.At.Y, .int .i64 j14.DX, .int .i64 j14.DY]]) 7 ?_ ?_
          · refine JL.val (yl_move rfl) rfl ?_
            refine JL.cut (K := fun J => J [(3, ptrAt (some ⟨g3, 0, none⟩) 0), (4, ptrAt (some ⟨g5, 0, none⟩) 0), (7, ptrAt (some ⟨g10, 0, none⟩) 0), (61, .bool (((x7.Y == 0) || (x7.Y == (w64 (2 * q0.H)))) || (j13 == 2)))] [boxO 120 g3 [.int .i64 q1.At.X, .int .i64 q1.At.Y, .int .i64 q1.DX, .int .i64 q1.DY], boxO 120 g5 [.int .i64 0, .int .i64 0, .int .i64 0, .int .i64 0], boxO 120 g10 [.int .i64 j14.At.X, .int .i64 j14.At.Y, .int .i64 j14.DX, .int .i64 j14.DY]]) 3 ?_ ?_
            · refine JL.nil ?_
              refine JE.weak (env' := [(3, ptrAt (some ⟨g3, 0, none⟩) 0), (4, ptrAt (some ⟨g5, 0, none⟩) 0), (7, ptrAt (some ⟨g10, 0, none⟩) 0), (61, .bool (((x7.Y == 0) || (x7.Y == (w64 (2 * q0.H)))) || (j13 == 2)))]) (es' := [boxO 120 g3 [.int .i64 q1.At.X, .int .i64 q1.At.Y, .int .i64 q1.DX, .int .i64 q1.DY], boxO 120 g5 [.int .i64 0, .int .i64 0, .int .i64 0, .int .i64 0], boxO 120 g10 [.int .i64 j14.At.X, .int .i64 j14.At.Y, .int .i64 j14.DX, .int .i64 j14.DY]]) [0, 1, 2] ?_ ⟨rfl, rfl, rfl, rfl, trivial⟩ (by decide) rfl
              refine JE.code ?_
              obtain ⟨j15, hj15, hresj15⟩ := bind_some hres
              refine JX.cut (K := fun J => J [(3, ptrAt (some ⟨g3, 0, none⟩) 0), (4, ptrAt (some ⟨g5, 0, none⟩) 0), (7, ptrAt (some ⟨g10, 0, none⟩) 0)] [boxO 120 g3 [.int .i64 q1.At.X, .int .i64 q1.At.Y, .int .i64 q1.DX, .int .i64 q1.DY], boxO 120 g5 [.int .i64 0, .int .i64 0, .int .i64 0, .int .i64 0], boxO 120 g10 [.int .i64 j15.At.X, .int .i64 j15.At.Y, .int .i64 j15.DX, .int .i64 j15.DY]]) ?_ ?_
              · have hres := hresj15
                refine JE.code ?_
                refine JX.seq ?_
                refine JX.drawH [(0, .read), (1, .pure), (2, .read), (3, .pure), (4, .read), (5, .pure), (6, .pure), (7, .pure), (8, .read), (9, .pure), (10, .read), (11, .pure), (12, .pure), (13, .must), (14, .pure)] [13] [1] [0, 2] [boxO 120 g5 [.int .i64 0, .int .i64 0, .int .i64 0, .int .i64 0]] [boxO 120 g3 [.int .i64 q1.At.X, .int .i64 q1.At.Y, .int .i64 q1.DX, .int .i64 q1.DY], boxO 120 g10 [.int .i64 j15.At.X, .int .i64 j15.At.Y, .int .i64 j15.DX, .int .i64 j15.DY]] mixedP (by kernel_rfl) (by kernel_rfl) (by decide) rfl rfl ?_
                intro wrr16 Nr16 hFr16
                refine JH.read rfl (yl_loadn Go.Proofs.Try.underlying120 rfl i120 rfl (fun w hw => hFr16.box 2 rfl rfl hw) rfl (i120s).symm i120p) rfl ?_
                refine JH.pure rfl (yl_fieldAt (a := some _) Go.Proofs.Try.underlying120 rfl i2 i2n rfl rfl) rfl ?_
                refine JH.read rfl (yl_load1 Go.Proofs.Try.underlying2 rfl rfl (fun w hw => hFr16.box 2 rfl rfl hw) rfl) rfl ?_
                refine JH.pure rfl (yl_fieldAt (a := some _) Go.Proofs.Try.underlying120 rfl i2 i2n rfl rfl) rfl ?_
                refine JH.read rfl (yl_load1 Go.Proofs.Try.underlying2 rfl rfl (fun w hw => hFr16.box 0 rfl rfl hw) rfl) rfl ?_
                refine JH.pure rfl (yl_neq rfl rfl) rfl ?_
                refine JH.pure rfl (yl_move rfl) rfl ?_
                refine JH.cut (K := fun J => J [(4, ptrAt (some ⟨g5, 0, none⟩) 0), (66, .agg #[.int .i64 j15.At.X, .int .i64 j15.At.Y, .int .i64 j15.DX, .int .i64 j15.DY]), (78, .bool ((j15.DX != q1.DX) || (j15.DY != q1.DY)))] [boxO 120 g5 [.int .i64 0, .int .i64 0, .int .i64 0, .int .i64 0]]) 6 ?_ ?_
                · refine JH.must rfl (ef_store_box (i := 0) (v := .agg #[.int .i64 j15.At.X, .int .i64 j15.At.Y, .int .i64 j15.DX, .int .i64 j15.DY]) i120 rfl rfl rfl (i120s).symm (Nat.le_of_ble_eq_true rfl) (by simp [Value.cells, Value.oneCell'])) rfl rfl ?_
                  rintro _ _ rfl
                  refine JH.pure rfl (yl_assign rfl) rfl ?_
                  refine JH.nil ?_
                  refine JE.weak (env' := [(4, ptrAt (some ⟨g5, 0, none⟩) 0), (5, .bool ((j15.DX != q1.DX) || (j15.DY != q1.DY)))]) (es' := [boxO 120 g5 [.int .i64 j15.At.X, .int .i64 j15.At.Y, .int .i64 j15.DX, .int .i64 j15.DY]]) [2] ?_ ⟨rfl, rfl, trivial⟩ (by decide) rfl
                  refine JE.code ?_
                  refine JX.ret ?_
                  obtain rfl := Option.some.inj hres
                  refine JE.ret (rs := [.cell 4 120, .tmp 5]) (vs := [.agg #[.int .i64 j15.At.X, .int .i64 j15.At.Y, .int .i64 j15.DX, .int .i64 j15.DY], .bool ((j15.DX != q1.DX) || (j15.DY != q1.DY))]) rfl ⟨rv_box 0 rfl rfl Go.Proofs.Try.underlying120 rfl i120 (i120s).symm, rfl, trivial⟩ ?_
                  exact fun w' hb hs => ⟨_, _, ⟨rfl, rfl⟩, rfl, hb, hs.sel [] _ (by decide) rfl⟩
                · intro K
                  rcases Bool.eq_false_or_eq_true (j15.DX != q1.DX) with hb | hb
                  · refine JH.set (d := 72) (v := .bool true) (congrArg (fun b => some (Value.bool b)) hb) ?_
                    refine JH.gskip rfl rfl rfl rfl rfl rfl ?_
                    refine JH.gskip rfl rfl rfl rfl rfl rfl ?_
                    refine JH.gskip rfl rfl rfl rfl rfl rfl ?_
                    refine JH.gskip rfl rfl rfl rfl rfl rfl ?_
                    refine JH.gskip rfl rfl rfl rfl rfl rfl ?_
                    refine JH.pure rfl (yl_pick_true rfl rfl) rfl ?_
                    exact JH.weak [0] K ⟨rfl, rfl, (by rw [hb]; rfl), trivial⟩ (by decide) rfl
                  · refine JH.set (d := 72) (v := .bool false) (congrArg (fun b => some (Value.bool b)) hb) ?_
                    refine JH.gpure rfl rfl rfl (yl_fieldAt (a := some _) Go.Proofs.Try.underlying120 rfl i2 i2n rfl rfl) rfl ?_
                    refine JH.gread rfl rfl rfl (yl_load1 Go.Proofs.Try.underlying2 rfl rfl (fun w hw => hFr16.box 2 rfl rfl hw) rfl) rfl ?_
                    refine JH.gpure rfl rfl rfl (yl_fieldAt (a := some _) Go.Proofs.Try.underlying120 rfl i2 i2n rfl rfl) rfl ?_
                    refine JH.gread rfl rfl rfl (yl_load1 Go.Proofs.Try.underlying2 rfl rfl (fun w hw => hFr16.box 0 rfl rfl hw) rfl) rfl ?_
                    refine JH.gpure rfl rfl rfl (yl_neq rfl rfl) rfl ?_
                    refine JH.pure rfl (yl_pick_false rfl rfl) rfl ?_
                    exact JH.weak [0] K ⟨rfl, rfl, (by rw [hb]; rfl), trivial⟩ (by decide) rfl
              · intro K
                rcases cond_some hj15 with ⟨hb, hres⟩ | ⟨hb, hres⟩
                · refine JX.condT rfl hb ?_
                  refine JX.region ?_
                  refine JL.val (yl_fieldAt (a := some _) Go.Proofs.Try.underlying120 rfl i2 i2n rfl rfl) rfl ?_
                  refine JL.val (yl_load1 Go.Proofs.Try.underlying2 rfl rfl (fun w hC => rd_box hC 2 rfl) rfl) rfl ?_
                  refine JL.val (yl_neg rfl) rfl ?_
                  refine JL.val (yl_fieldAt (a := some _) Go.Proofs.Try.underlying120 rfl i2 i2n rfl rfl) rfl ?_
                  refine JL.eff (ef_store_box (i := 2) (v := .int .i64 (w64 (0 - j14.DY))) i2 rfl rfl rfl (i2s).symm (Nat.le_of_ble_eq_true rfl) (by simp [Value.cells, Value.oneCell'])) rfl ?_
                  rintro _ _ rfl
                  refine JL.nil ?_
                  refine JE.weak (env' := [(3, ptrAt (some ⟨g3, 0, none⟩) 0), (4, ptrAt (some ⟨g5, 0, none⟩) 0), (7, ptrAt (some ⟨g10, 0, none⟩) 0)]) (es' := [boxO 120 g3 [.int .i64 q1.At.X, .int .i64 q1.At.Y, .int .i64 q1.DX, .int .i64 q1.DY], boxO 120 g5 [.int .i64 0, .int .i64 0, .int .i64 0, .int .i64 0], boxO 120 g10 [.int .i64 j14.At.X, .int .i64 j14.At.Y, .int .i64 j14.DX, .int .i64 (w64 (0 - j14.DY))]]) [0, 1, 2] ?_ ⟨rfl, rfl, rfl, trivial⟩ (by decide) rfl
                  have hj := Option.some.inj hres
                  exact JE.weak [0, 1, 2] (K) ⟨(by subst hj; rfl), (by subst hj; rfl), (by subst hj; rfl), trivial⟩ (by decide) (by subst hj; rfl)
                · refine JX.condF rfl hb ?_
                  refine JX.skip ?_
                  have hj := Option.some.inj hres
                  exact JE.weak [0, 1, 2] (K) ⟨(by subst hj; rfl), (by subst hj; rfl), (by subst hj; rfl), trivial⟩ (by decide) (by subst hj; rfl)
            · intro K
              rcases Bool.eq_false_or_eq_true ((x7.Y == 0) || (x7.Y == (w64 (2 * q0.H)))) with hb | hb
              · refine JL.set (d := 58) (v := .bool true) (congrArg (fun b => some (Value.bool b)) hb) ?_
                refine JL.gskip rfl rfl rfl rfl ?_
                refine JL.gskip rfl rfl rfl rfl ?_
                refine JL.val (yl_pick_true rfl rfl) rfl ?_
                exact JL.weak [0, 1, 2] K ⟨rfl, rfl, rfl, (by rw [hb]; rfl), trivial⟩ (by decide) rfl
              · refine JL.set (d := 58) (v := .bool false) (congrArg (fun b => some (Value.bool b)) hb) ?_
                refine JL.gval rfl rfl (yl_move rfl) rfl ?_
                refine JL.gval rfl rfl (yl_eql rfl rfl) rfl ?_
                refine JL.val (yl_pick_false rfl rfl) rfl ?_
                exact JL.weak [0, 1, 2] K ⟨rfl, rfl, rfl, (by rw [hb]; rfl), trivial⟩ (by decide) rfl
          · intro K
            rcases Bool.eq_false_or_eq_true (x7.Y == 0) with hb | hb
            · refine JL.set (d := 50) (v := .bool true) (congrArg (fun b => some (Value.bool b)) hb) ?_
              refine JL.gskip rfl rfl rfl rfl ?_
              refine JL.gskip rfl rfl rfl rfl ?_
              refine JL.gskip rfl rfl rfl rfl ?_
              refine JL.gskip rfl rfl rfl rfl ?_
              refine JL.gskip rfl rfl rfl rfl ?_
              refine JL.gskip rfl rfl rfl rfl ?_
              refine JL.val (yl_pick_true rfl rfl) rfl ?_
              exact JL.weak [1, 2, 4] K ⟨rfl, rfl, rfl, rfl, (by rw [hb]; rfl), trivial⟩ (by decide) rfl
            · refine JL.set (d := 50) (v := .bool false) (congrArg (fun b => some (Value.bool b)) hb) ?_
              refine JL.gval rfl rfl (yl_fieldAt (a := some _) Go.Proofs.Try.underlying93 rfl i2 i2n rfl rfl) rfl ?_
              refine JL.gval rfl rfl (yl_load1 Go.Proofs.Try.underlying2 rfl rfl (fun w hC => rd_box hC 3 rfl) rfl) rfl ?_
              refine JL.gval rfl rfl (yl_fieldAt (a := some _) Go.Proofs.Try.underlying39 rfl i2 i2n rfl rfl) rfl ?_
              refine JL.gval rfl rfl (yl_load1 Go.Proofs.Try.underlying2 rfl rfl (fun w hC => rd_box hC 0 rfl) rfl) rfl ?_
              refine JL.gval rfl rfl (yl_mul rfl rfl) rfl ?_
              refine JL.gval rfl rfl (yl_eql rfl rfl) rfl ?_
              refine JL.val (yl_pick_false rfl rfl) rfl ?_
              exact JL.weak [1, 2, 4] K ⟨rfl, rfl, rfl, rfl, (by rw [hb]; rfl), trivial⟩ (by decide) rfl
        · intro K
          rcases cond_some hj14 with ⟨hb, hres⟩ | ⟨hb, hres⟩
          · refine JX.condT rfl hb ?_
            refine JX.region ?_
            refine JL.val (yl_fieldAt (a := some _) Go.Proofs.Try.underlying120 rfl i2 i2n rfl rfl) rfl ?_
            refine JL.val (yl_load1 Go.Proofs.Try.underlying2 rfl rfl (fun w hC => rd_box hC 4 rfl) rfl) rfl ?_
            refine JL.val (yl_neg rfl) rfl ?_
            refine JL.val (yl_fieldAt (a := some _) Go.Proofs.Try.underlying120 rfl i2 i2n rfl rfl) rfl ?_
            refine JL.eff (ef_store_box (i := 4) (v := .int .i64 (w64 (0 - q1.DX))) i2 rfl rfl rfl (i2s).symm (Nat.le_of_ble_eq_true rfl) (by simp [Value.cells, Value.oneCell'])) rfl ?_
            rintro _ _ rfl
            refine JL.nil ?_
            refine JE.weak (env' := [(2, ptrAt (some ⟨g1, 0, none⟩) 0), (3, ptrAt (some ⟨g3, 0, none⟩) 0), (4, ptrAt (some ⟨g5, 0, none⟩) 0), (6, ptrAt (some ⟨g8, 0, none⟩) 0), (7, ptrAt (some ⟨g10, 0, none⟩) 0), (8, .int .i64 j13)]) (es' := [boxO 39 g1 [.int .i64 q0.W, .int .i64 q0.H, .slice a_0_2 q0.Breaks.length c_0_2], boxO 120 g3 [.int .i64 q1.At.X, .int .i64 q1.At.Y, .int .i64 q1.DX, .int .i64 q1.DY], boxO 120 g5 [.int .i64 0, .int .i64 0, .int .i64 0, .int .i64 0], boxO 93 g8 [.int .i64 x7.X, .int .i64 x7.Y], boxO 120 g10 [.int .i64 x7.X, .int .i64 x7.Y, .int .i64 (w64 (0 - q1.DX)), .int .i64 q1.DY]]) [0, 1, 2, 3, 4] ?_ ⟨rfl, rfl, rfl, rfl, rfl, rfl, trivial⟩ (by decide) rfl
            have hj := Option.some.inj hres
            exact JE.weak [0, 1, 2, 3, 4] (K) ⟨(by subst hj; rfl), (by subst hj; rfl), (by subst hj; rfl), (by subst hj; rfl), (by subst hj; rfl), (by subst hj; rfl), trivial⟩ (by decide) (by subst hj; rfl)
          · refine JX.condF rfl hb ?_
            refine JX.skip ?_
            have hj := Option.some.inj hres
            exact JE.weak [0, 1, 2, 3, 4] (K) ⟨(by subst hj; rfl), (by subst hj; rfl), (by subst hj; rfl), (by subst hj; rfl), (by subst hj; rfl), (by subst hj; rfl), trivial⟩ (by decide) (by subst hj; rfl)
      · intro K
        rcases Bool.eq_false_or_eq_true ((x7.X == 0) || (x7.X == (w64 (2 * q0.W)))) with hb | hb
        · refine JL.set (d := 39) (v := .bool true) (congrArg (fun b => some (Value.bool b)) hb) ?_
          refine JL.gskip rfl rfl rfl rfl ?_
          refine JL.gskip rfl rfl rfl rfl ?_
          refine JL.val (yl_pick_true rfl rfl) rfl ?_
          exact JL.weak [0, 1, 2, 3, 4] K ⟨rfl, rfl, rfl, rfl, rfl, rfl, (by rw [hb]; rfl), trivial⟩ (by decide) rfl
        · refine JL.set (d := 39) (v := .bool false) (congrArg (fun b => some (Value.bool b)) hb) ?_
          refine JL.gval rfl rfl (yl_move rfl) rfl ?_
          refine JL.gval rfl rfl (yl_eql rfl rfl) rfl ?_
          refine JL.val (yl_pick_false rfl rfl) rfl ?_
          exact JL.weak [0, 1, 2, 3, 4] K ⟨rfl, rfl, rfl, rfl, rfl, rfl, (by rw [hb]; rfl), trivial⟩ (by decide) rfl
    · intro K
      rcases Bool.eq_false_or_eq_true (x7.X == 0) with hb | hb
      · refine JL.set (d := 31) (v := .bool true) (congrArg (fun b => some (Value.bool b)) hb) ?_
        refine JL.gskip rfl rfl rfl rfl ?_
        refine JL.gskip rfl rfl rfl rfl ?_
        refine JL.gskip rfl rfl rfl rfl ?_
        refine JL.gskip rfl rfl rfl rfl ?_
        refine JL.gskip rfl rfl rfl rfl ?_
        refine JL.gskip rfl rfl rfl rfl ?_
        refine JL.val (yl_pick_true rfl rfl) rfl ?_
        exact JL.weak [0, 1, 2, 3, 4] K ⟨rfl, rfl, rfl, rfl, rfl, rfl, (by rw [hb]; rfl), trivial⟩ (by decide) rfl
      · refine JL.set (d := 31) (v := .bool false) (congrArg (fun b => some (Value.bool b)) hb) ?_
        refine JL.gval rfl rfl (yl_fieldAt (a := some _) Go.Proofs.Try.underlying93 rfl i2 i2n rfl rfl) rfl ?_
        refine JL.gval rfl rfl (yl_load1 Go.Proofs.Try.underlying2 rfl rfl (fun w hC => rd_box hC 3 rfl) rfl) rfl ?_
        refine JL.gval rfl rfl (yl_fieldAt (a := some _) Go.Proofs.Try.underlying39 rfl i2 i2n rfl rfl) rfl ?_
        refine JL.gval rfl rfl (yl_load1 Go.Proofs.Try.underlying2 rfl rfl (fun w hC => rd_box hC 0 rfl) rfl) rfl ?_
        refine JL.gval rfl rfl (yl_mul rfl rfl) rfl ?_
        refine JL.gval rfl rfl (yl_eql rfl rfl) rfl ?_
        refine JL.val (yl_pick_false rfl rfl) rfl ?_
        exact JL.weak [0, 1, 2, 3, 4] K ⟨rfl, rfl, rfl, rfl, rfl, rfl, (by rw [hb]; rfl), trivial⟩ (by decide) rfl
  · intro K
    rcases cond_some hj13 with ⟨hb, hres⟩ | ⟨hb, hres⟩
    · refine JX.condT rfl hb ?_
      refine JX.drawH [(0, .pure), (1, .read), (2, .read), (3, .read), (4, .must), (5, .pure), (6, .read), (7, .pure)] [] [] [0, 1, 2, 3, 4] [] [boxO 39 g1 [.int .i64 q0.W, .int .i64 q0.H, .slice a_0_2 q0.Breaks.length c_0_2], boxO 120 g3 [.int .i64 q1.At.X, .int .i64 q1.At.Y, .int .i64 q1.DX, .int .i64 q1.DY], boxO 120 g5 [.int .i64 0, .int .i64 0, .int .i64 0, .int .i64 0], boxO 93 g8 [.int .i64 x7.X, .int .i64 x7.Y], boxO 120 g10 [.int .i64 x7.X, .int .i64 x7.Y, .int .i64 q1.DX, .int .i64 q1.DY]] mixedP (by kernel_rfl) (by kernel_rfl) (by decide) rfl rfl ?_
      intro wrr17 Nr17 hFr17
      refine JH.pure rfl (yl_fieldAt (a := some _) Go.Proofs.Try.underlying39 rfl i33 i33n rfl rfl) rfl ?_
      refine JH.read rfl (yl_load1 Go.Proofs.Try.underlying33 rfl rfl (fun w hw => hFr17.box 0 rfl rfl hw) rfl) rfl ?_
      refine JH.read rfl (yl_loadn Go.Proofs.Try.underlying39 rfl i39 rfl (fun w hw => hFr17.box 0 rfl rfl hw) rfl (i39s).symm i39p) rfl ?_
      refine JH.read rfl (yl_loadn Go.Proofs.Try.underlying93 rfl i93 rfl (fun w hw => hFr17.box 3 rfl rfl hw) rfl (i93s).symm i93p) rfl ?_
      obtain ⟨x18, hx18, hres⟩ := bind_some hres
      refine JH.must rfl (ef_call (vs := [.agg #[.int .i64 q0.W, .int .i64 q0.H, .slice a_0_2 q0.Breaks.length c_0_2], .agg #[.int .i64 x7.X, .int .i64 x7.Y]]) (T := T174 x18) Go.Proofs.Try.func174 rfl (by kernel_rfl) rfl (fun w hC => c174 (q0 := q0) (q1 := x7) (hFr17.arg g_0_2 hC.1) rfl k_0_2 hx18)) rfl rfl ?_
      rintro _ _ ⟨_, ⟨rfl, rfl⟩, rfl⟩
      obtain ⟨x19, hx19, hres⟩ := bind_some hres
      refine JH.pure rfl (yl_idxQ Go.Proofs.Try.underlying33 i2 i2s rfl rfl hx19 rfl (rd_arg g_0_2 hFr17.cl) rfl) rfl ?_
      refine JH.read rfl (yl_loadT0 Go.Proofs.Try.underlying2 rfl rfl hx19 (fun w hw => hFr17.arg g_0_2 hw) rfl) rfl ?_
      refine JH.pure rfl (yl_assign rfl) rfl ?_
      refine JH.nil ?_
      refine JE.weak (env' := [(2, ptrAt (some ⟨g1, 0, none⟩) 0), (3, ptrAt (some ⟨g3, 0, none⟩) 0), (4, ptrAt (some ⟨g5, 0, none⟩) 0), (6, ptrAt (some ⟨g8, 0, none⟩) 0), (7, ptrAt (some ⟨g10, 0, none⟩) 0), (8, .int .i64 x19)]) (es' := [boxO 39 g1 [.int .i64 q0.W, .int .i64 q0.H, .slice a_0_2 q0.Breaks.length c_0_2], boxO 120 g3 [.int .i64 q1.At.X, .int .i64 q1.At.Y, .int .i64 q1.DX, .int .i64 q1.DY], boxO 120 g5 [.int .i64 0, .int .i64 0, .int .i64 0, .int .i64 0], boxO 93 g8 [.int .i64 x7.X, .int .i64 x7.Y], boxO 120 g10 [.int .i64 x7.X, .int .i64 x7.Y, .int .i64 q1.DX, .int .i64 q1.DY]]) [0, 1, 2, 3, 4] ?_ ⟨rfl, rfl, rfl, rfl, rfl, rfl, trivial⟩ (by decide) rfl
      have hj := Option.some.inj hres
      exact JE.weak [0, 1, 2, 3, 4] (K) ⟨(by subst hj; rfl), (by subst hj; rfl), (by subst hj; rfl), (by subst hj; rfl), (by subst hj; rfl), (by subst hj; rfl), trivial⟩ (by decide) (by subst hj; rfl)
    · refine JX.condF rfl hb ?_
      refine JX.skip ?_
      have hj := Option.some.inj hres
      exact JE.weak [0, 1, 2, 3, 4] (K) ⟨(by subst hj; rfl), (by subst hj; rfl), (by subst hj; rfl), (by subst hj; rfl), (by subst hj; rfl), (by subst hj; rfl), trivial⟩ (by decide) (by subst hj; rfl)

/- (impl.Panel).trace -/
def sh104_3 (q0 : SPanel) (x23 : List (List SWalker)) : (List Int × List SWalker × SWalker) → Option ((List Int × List SWalker × SWalker) ⊕ (List Int × List SWalker))
  | (x40, x41, x42) => Option.bind (sh159 q0 x42) fun x47 => Option.bind (getI x40 x47) fun x48 => bif decide (x48 < 0) then (Option.bind (sh159 q0 x42) fun x49 => Option.bind (getI x40 x49) fun x50 => Option.bind (appL x41 [x42]) fun x53 => Option.bind (sh160 q0 x42) fun x58 => some (.inl (x40.set (x49).toNat ((x23.length : Nat) : Int), x53, x58.1))) else (some (.inr (x40, x41)))
def sh104_2 (q0 : SPanel) (x16 : Int) : (Int × List (List SWalker) × List Int) → Option ((Int × List (List SWalker) × List Int) ⊕ (List (List SWalker) × List Int))
  | (x22, x23, x24) => bif decide (x22 < x16) then (Option.bind (getI x24 x22) fun x30 => bif decide (0 ≤ x30) then (some (.inl (w64 (x22 + 1), x23, x24))) else (Option.bind (sh158 q0 x22) fun x33 => Option.bind (iter (sh104_3 q0 x23) (x24, ([] : List SWalker), x33)) fun b3 => (Option.bind (appL x23 [b3.2]) fun x64 => some (.inl (w64 (x22 + 1), x64, b3.1))))) else (some (.inr (x23, x24)))
def sh104_1 (x7 : List Int) : (Int × List Int) → Option ((Int × List Int) ⊕ (List Int))
  | (x11, x12) => bif decide (x11 < (x7.length : Int)) then (Option.bind (getI x12 x11) fun x14 => some (.inl (w64 (x11 + 1), x12.set (x11).toNat (-1)))) else (some (.inr x12))
def sh104 (q0 : SPanel) : Option (List (List SWalker) × List Int) := Option.bind (sh157 q0) fun x6 => Option.bind (mkL x6 0) fun x7 => Option.bind (iter (sh104_1 x7) (0, x7)) fun b1 => (Option.bind (sh157 q0) fun x16 => Option.bind (iter (sh104_2 q0 x16) (0, ([] : List (List SWalker)), b1)) fun b2 => (some (b2.1, b2.2)))
def T104 (r : List (List SWalker) × List Int) (v : Value) (rs : List Own) : Prop := ∃ (a0 : Option Addr) (n0 c0 : Nat) (h0 : List Hd), r.1.length = n0 ∧ Inn h0 r.1 ∧ ∃ (a1 : Option Addr) (n1 c1 : Nat), r.2.length = n1 ∧ v = rets [.slice a0 n0 c0, .slice a1 n1 c1] ∧ rs = [rowT 117 eHd a0 n0 c0 h0, innO 120 eSWalker none h0 r.1, rowT 2 eI64 a1 n1 c1 r.2]
set_option maxRecDepth 100000 in
set_option maxHeartbeats 1000000 in
theorem c104 {w : World} {q0 : SPanel} {a_0_2 : Option Addr} {n_0_2 c_0_2 : Nat} (g_0_2 : Rd w a_0_2 (eI64.fl q0.Breaks)) (l_0_2 : q0.Breaks.length = n_0_2) (k_0_2 : n_0_2 ≤ c_0_2) {r : List (List SWalker) × List Int} (hres : sh104 q0 = some r) : Calls Go.Proofs.Try.prog 104 [.agg #[.int .i64 q0.W, .int .i64 q0.H, .slice a_0_2 n_0_2 c_0_2]].toArray w (Ret w (T104 r)) := by
  subst l_0_2
  unfold sh104 at hres
  refine calls_of (n := 69) (M := []) (es := []) Go.Proofs.Try.func104 rfl rfl rfl (Sep.nil _ _ _) ?_
  refine JX.seq ?_
  refine JX.region ?_
  refine JL.eff (ef_box rfl rfl) rfl ?_
  rintro _ _ ⟨g1, rfl, rfl⟩
  refine JL.val (yl_assign rfl) rfl ?_
  refine JL.val (yl_assign rfl) rfl ?_
  refine JL.nil ?_
  refine JE.code ?_
  refine JX.seq ?_
  refine JX.region ?_
  refine JL.eff (ef_buildSlice (E := 117) (k := eHd.k) (us := eHd.fl ([] : List Hd)) rfl (fun w => bsl113_0  w) rfl (by decide)) rfl ?_
  rintro _ _ ⟨a3, rfl, rfl⟩
  refine JL.nilinn 120 eSWalker ?_
  refine JL.val (yl_assign rfl) rfl ?_
  refine JL.nil ?_
  refine JE.code ?_
  refine JX.seq ?_
  refine JX.region ?_
  refine JL.val (yl_loadn Go.Proofs.Try.underlying39 rfl i39 rfl (fun w hC => rd_box hC 0 rfl) rfl (i39s).symm i39p) rfl ?_
  obtain ⟨x6, hx6, hres⟩ := bind_some hres
  refine JL.eff (ef_call (vs := [.agg #[.int .i64 q0.W, .int .i64 q0.H, .slice a_0_2 q0.Breaks.length c_0_2]]) (T := T157 x6) Go.Proofs.Try.func157 rfl (by kernel_rfl) rfl (fun w hC => c157 (q0 := q0) (rd_arg g_0_2 hC) rfl k_0_2 hx6)) rfl ?_
  rintro _ _ ⟨_, ⟨rfl, rfl⟩, rfl⟩
  obtain ⟨x7, hx7, hres⟩ := bind_some hres
  refine JL.eff (ef_makeS (e := eI64) Go.Proofs.Try.underlying33 i2 i2s i2z rfl i2b1 rfl rfl hx7) rfl ?_
  rintro _ _ ⟨a8, rfl, rfl⟩
  refine JL.val (yl_assign rfl) rfl ?_
  refine JL.nil ?_
  refine JE.weak (env' := [(1, ptrAt (some ⟨g1, 0, none⟩) 0), (4, .slice a3 0 0), (5, .slice a8 x7.length x7.length)]) (es' := [boxO 39 g1 [.int .i64 q0.W, .int .i64 q0.H, .slice a_0_2 q0.Breaks.length c_0_2], rowT 117 eHd a3 0 0 ([] : List Hd), innO 120 eSWalker none ([] : List Hd) ([] : List (List SWalker)), rowT 2 eI64 a8 x7.length x7.length x7]) [0, 1, 2, 3] ?_ ⟨rfl, rfl, rfl, trivial⟩ (by decide) rfl
  refine JE.code ?_
  refine JX.seq ?_
  refine JX.seq ?_
  refine JX.region ?_
  refine JL.val (yl_move rfl) rfl ?_
  refine JL.val (yl_len_slice Go.Proofs.Try.underlying33 rfl) rfl ?_
  refine JL.val (yl_move rfl) rfl ?_
  refine JL.nil ?_
  refine JE.code ?_
  refine JX.block ?_
  obtain ⟨y1, hy1, hresO1⟩ := bind_some hres
  refine JX.loop (I := fun (s1 : Int × List Int) aa ww => ∃ (l10 : s1.2.length = x7.length), St w [] 69 [(1, ptrAt (some ⟨g1, 0, none⟩) 0), (4, .slice a3 0 0), (5, .slice a8 x7.length x7.length), (15, .int .i64 (x7.length : Int)), (16, .int .i64 s1.1)] [boxO 39 g1 [.int .i64 q0.W, .int .i64 q0.H, .slice a_0_2 q0.Breaks.length c_0_2], rowT 117 eHd a3 0 0 ([] : List Hd), innO 120 eSWalker none ([] : List Hd) ([] : List (List SWalker)), rowT 2 eI64 a8 x7.length x7.length s1.2] aa ww) (sh104_1 x7) hy1 (fun a w h => ⟨rfl, h.weak ⟨rfl, rfl, rfl, rfl, rfl, trivial⟩ [0, 1, 2, 3] (by decide) rfl⟩) ?_
  rintro ⟨x11, x12⟩ o1 hres hox1 aa ww ⟨l13, hS⟩
  refine (?_ : JX Go.Proofs.Try.prog w [] 69 _ _ [(1, ptrAt (some ⟨g1, 0, none⟩) 0), (4, .slice a3 0 0), (5, .slice a8 x7.length x7.length), (15, .int .i64 (x7.length : Int)), (16, .int .i64 x11)] [boxO 39 g1 [.int .i64 q0.W, .int .i64 q0.H, .slice a_0_2 q0.Breaks.length c_0_2], rowT 117 eHd a3 0 0 ([] : List Hd), innO 120 eSWalker none ([] : List Hd) ([] : List (List SWalker)), rowT 2 eI64 a8 x7.length x7.length x12] _) aa ww hS
  clear hS
  simp only [sh104_1] at hres
  refine JX.seq ?_
  refine JX.region ?_
  refine JL.val (yl_lss rfl rfl) rfl ?_
  refine JL.nil ?_
  refine JE.code ?_
  refine JX.seq ?_
  rcases cond_some hres with ⟨hb, hres⟩ | ⟨hb, hres⟩
  · refine JX.condT rfl hb ?_
    refine JX.skip ?_
    refine JE.code ?_
    refine JX.seq ?_
    refine JX.block ?_
    refine JX.seq ?_
    refine JX.region ?_
    refine JL.val (yl_move rfl) rfl ?_
    refine JL.val (yl_assign rfl) rfl ?_
    refine JL.nil ?_
    refine JE.code ?_
    refine JX.region ?_
    refine JL.val (yl_move rfl) rfl ?_
    refine JL.val (yl_move rfl) rfl ?_
    obtain ⟨x14, hx14, hres⟩ := bind_some hres
    refine JL.val (yl_idxT Go.Proofs.Try.underlying33 i2 i2s rfl rfl hx14 l13 (fun w hC => rd_row hC 3 rfl)) rfl ?_
    refine JL.eff (ef_storeT (ix := 3) (u := (-1)) i2 i2s rfl rfl rfl hx14 rfl) rfl ?_
    rintro _ _ rfl
    refine JL.nil ?_
    refine JE.weak (env' := [(1, ptrAt (some ⟨g1, 0, none⟩) 0), (4, .slice a3 0 0), (5, .slice a8 x7.length x7.length), (15, .int .i64 (x7.length : Int)), (16, .int .i64 x11)]) (es' := [boxO 39 g1 [.int .i64 q0.W, .int .i64 q0.H, .slice a_0_2 q0.Breaks.length c_0_2], rowT 117 eHd a3 0 0 ([] : List Hd), innO 120 eSWalker none ([] : List Hd) ([] : List (List SWalker)), rowT 2 eI64 a8 x7.length x7.length (x12.set (x11).toNat (-1))]) [0, 1, 2, 3] ?_ ⟨rfl, rfl, rfl, rfl, rfl, trivial⟩ (by decide) rfl
    refine JE.code ?_
    refine JX.region ?_
    refine JL.val (yl_add rfl rfl) rfl ?_
    refine JL.val (yl_move rfl) rfl ?_
    refine JL.nil ?_
    refine JE.cont hres ?_
    exact fun a w h => ⟨(List.length_set.trans l13), h.weak ⟨rfl, rfl, rfl, rfl, rfl, trivial⟩ [0, 1, 2, 3] (by decide) rfl⟩
  · refine JX.condF rfl hb ?_
    refine JX.exit ?_
    refine JE.qb rfl ?_
    obtain ⟨b1, hb1⟩ : ∃ b : List Int, b = x12 := ⟨_, rfl⟩
    have hy1 : b1 = y1 := by rw [hb1]; exact hox1 _ (Option.some.inj hres).symm
    have hres := hresO1
    rw [← hy1] at hres
    have l15 : b1.length = x7.length := by subst hb1; exact l13
    refine JE.weak (env' := [(1, ptrAt (some ⟨g1, 0, none⟩) 0), (4, .slice a3 0 0), (5, .slice a8 x7.length x7.length)]) (es' := [boxO 39 g1 [.int .i64 q0.W, .int .i64 q0.H, .slice a_0_2 q0.Breaks.length c_0_2], rowT 117 eHd a3 0 0 ([] : List Hd), innO 120 eSWalker none ([] : List Hd) ([] : List (List SWalker)), rowT 2 eI64 a8 x7.length x7.length b1]) [0, 1, 2, 3] ?_ ⟨(by subst hb1; rfl), (by subst hb1; rfl), (by subst hb1; rfl), trivial⟩ (by decide) (by subst hb1; rfl)
    refine JE.code ?_
    refine JX.seq ?_
    refine JX.seq ?_
    refine JX.region ?_
    refine JL.val (yl_loadn Go.Proofs.Try.underlying39 rfl i39 rfl (fun w hC => rd_box hC 0 rfl) rfl (i39s).symm i39p) rfl ?_
    obtain ⟨x16, hx16, hres⟩ := bind_some hres
    refine JL.eff (ef_call (vs := [.agg #[.int .i64 q0.W, .int .i64 q0.H, .slice a_0_2 q0.Breaks.length c_0_2]]) (T := T157 x16) Go.Proofs.Try.func157 rfl (by kernel_rfl) rfl (fun w hC => c157 (q0 := q0) (rd_arg g_0_2 hC) rfl k_0_2 hx16)) rfl ?_
    rintro _ _ ⟨_, ⟨rfl, rfl⟩, rfl⟩
    refine JL.val (yl_move rfl) rfl ?_
    refine JL.nil ?_
    refine JE.code ?_
    refine JX.block ?_
    obtain ⟨y2, hy2, hresO2⟩ := bind_some hres
    refine JX.loop (I := fun (s2 : Int × List (List SWalker) × List Int) aa ww => ∃ (a17 : Option Addr) (cp18 : Nat) (hs19 : List Hd) (hi20 : Inn hs19 s2.2.1) (l21 : s2.2.2.length = x7.length), St w [] 69 [(1, ptrAt (some ⟨g1, 0, none⟩) 0), (4, .slice a17 s2.2.1.length cp18), (5, .slice a8 x7.length x7.length), (24, .int .i64 x16), (25, .int .i64 s2.1)] [boxO 39 g1 [.int .i64 q0.W, .int .i64 q0.H, .slice a_0_2 q0.Breaks.length c_0_2], rowT 117 eHd a17 s2.2.1.length cp18 hs19, innO 120 eSWalker none hs19 s2.2.1, rowT 2 eI64 a8 x7.length x7.length s2.2.2] aa ww) (sh104_2 q0 x16) hy2 (fun a w h => ⟨a3, 0, ([] : List Hd), (Inn.nil (T := SWalker)), l15, h.weak ⟨rfl, rfl, rfl, rfl, rfl, trivial⟩ [0, 1, 2, 3] (by decide) rfl⟩) ?_
    rintro ⟨x22, x23, x24⟩ o2 hres hox2 aa ww ⟨a25, cp26, hs27, hi28, l29, hS⟩
    refine (?_ : JX Go.Proofs.Try.prog w [] 69 _ _ [(1, ptrAt (some ⟨g1, 0, none⟩) 0), (4, .slice a25 x23.length cp26), (5, .slice a8 x7.length x7.length), (24, .int .i64 x16), (25, .int .i64 x22)] [boxO 39 g1 [.int .i64 q0.W, .int .i64 q0.H, .slice a_0_2 q0.Breaks.length c_0_2], rowT 117 eHd a25 x23.length cp26 hs27, innO 120 eSWalker none hs27 x23, rowT 2 eI64 a8 x7.length x7.length x24] _) aa ww hS
    clear hS
    simp only [sh104_2] at hres
    refine JX.seq ?_
    refine JX.region ?_
    refine JL.val (yl_lss rfl rfl) rfl ?_
    refine JL.nil ?_
    refine JE.code ?_
    refine JX.seq ?_
    rcases cond_some hres with ⟨hb, hres⟩ | ⟨hb, hres⟩
    · refine JX.condT rfl hb ?_
      refine JX.skip ?_
      refine JE.code ?_
      refine JX.seq ?_
      refine JX.block ?_
      refine JX.seq ?_
      refine JX.region ?_
      refine JL.val (yl_move rfl) rfl ?_
      refine JL.val (yl_assign rfl) rfl ?_
      refine JL.nil ?_
      refine JE.code ?_
      refine JX.seq ?_
      refine JX.seq ?_
      refine JX.region ?_
      refine JL.val (yl_move rfl) rfl ?_
      refine JL.val (yl_move rfl) rfl ?_
      obtain ⟨x30, hx30, hres⟩ := bind_some hres
      refine JL.val (yl_idxT Go.Proofs.Try.underlying33 i2 i2s rfl rfl hx30 l29 (fun w hC => rd_row hC 3 rfl)) rfl ?_
      refine JL.val (yl_loadT0 Go.Proofs.Try.underlying2 rfl rfl hx30 (fun w hC => rd_row hC 3 rfl) rfl) rfl ?_
      refine JL.val (yl_geq rfl rfl) rfl ?_
      refine JL.nil ?_
      refine JE.weak (env' := [(1, ptrAt (some ⟨g1, 0, none⟩) 0), (4, .slice a25 x23.length cp26), (5, .slice a8 x7.length x7.length), (7, .int .i64 x22), (24, .int .i64 x16), (25, .int .i64 x22), (32, .bool (decide (0 ≤ x30)))]) (es' := [boxO 39 g1 [.int .i64 q0.W, .int .i64 q0.H, .slice a_0_2 q0.Breaks.length c_0_2], rowT 117 eHd a25 x23.length cp26 hs27, innO 120 eSWalker none hs27 x23, rowT 2 eI64 a8 x7.length x7.length x24]) [0, 1, 2, 3] ?_ ⟨rfl, rfl, rfl, rfl, rfl, rfl, rfl, trivial⟩ (by decide) rfl
      refine JE.code ?_
      rcases cond_some hres with ⟨hb, hres⟩ | ⟨hb, hres⟩
      · refine JX.condT rfl hb ?_
        refine JX.exit ?_
        refine JE.qb rfl ?_
        refine JE.code ?_
        refine JX.region ?_
        refine JL.val (yl_add rfl rfl) rfl ?_
        refine JL.val (yl_move rfl) rfl ?_
        refine JL.nil ?_
        refine JE.cont hres ?_
        exact fun a w h => ⟨a25, cp26, hs27, hi28, l29, h.weak ⟨rfl, (by first | rfl | (simp only [List.length_set, l29]; rfl) | simp only [List.length_set, l29]), rfl, rfl, rfl, trivial⟩ [0, 1, 2, 3] (by decide) (by first | rfl | (simp only [List.length_set, l29]; rfl) | simp only [List.length_set, l29])⟩
      · refine JX.condF rfl hb ?_
        refine JX.skip ?_
        refine JE.code ?_
        refine JX.seq ?_
        refine JX.region ?_
        refine JL.eff (ef_buildSlice (E := 120) (k := eSWalker.k) (us := eSWalker.fl ([] : List SWalker)) rfl (fun w => bsl117_0  w) rfl (by decide)) rfl ?_
        rintro _ _ ⟨a31, rfl, rfl⟩
        refine JL.val (yl_assign rfl) rfl ?_
        refine JL.nil ?_
        refine JE.code ?_
        refine JX.seq ?_
        refine JX.seq ?_
        refine JX.region ?_
        refine JL.val (yl_loadn Go.Proofs.Try.underlying39 rfl i39 rfl (fun w hC => rd_box hC 0 rfl) rfl (i39s).symm i39p) rfl ?_
        refine JL.val (yl_move rfl) rfl ?_
        obtain ⟨x33, hx33, hres⟩ := bind_some hres
        refine JL.eff (ef_call (vs := [.agg #[.int .i64 q0.W, .int .i64 q0.H, .slice a_0_2 q0.Breaks.length c_0_2], .int .i64 x22]) (T := T158 x33) Go.Proofs.Try.func158 rfl (by kernel_rfl) rfl (fun w hC => c158 (q0 := q0) (rd_arg g_0_2 hC) rfl k_0_2 hx33)) rfl ?_
        rintro _ _ ⟨_, ⟨rfl, rfl⟩, rfl⟩
        refine JL.eff (ef_alloc i120 i120z rfl) rfl ?_
        rintro _ _ ⟨g34, rfl, rfl⟩
        refine JL.eff (ef_store_box (i := 5) (v := .agg #[.int .i64 x33.At.X, .int .i64 x33.At.Y, .int .i64 x33.DX, .int .i64 x33.DY]) i120 rfl rfl rfl (i120s).symm (Nat.le_of_ble_eq_true rfl) (by simp [Value.cells, Value.oneCell'])) rfl ?_
        rintro _ _ rfl
        refine JL.nil ?_
        refine JE.weak (env' := [(1, ptrAt (some ⟨g1, 0, none⟩) 0), (4, .slice a25 x23.length cp26), (5, .slice a8 x7.length x7.length), (8, .slice a31 0 0), (9, ptrAt (some ⟨g34, 0, none⟩) 0), (24, .int .i64 x16), (25, .int .i64 x22)]) (es' := [boxO 39 g1 [.int .i64 q0.W, .int .i64 q0.H, .slice a_0_2 q0.Breaks.length c_0_2], rowT 117 eHd a25 x23.length cp26 hs27, innO 120 eSWalker none hs27 x23, rowT 2 eI64 a8 x7.length x7.length x24, rowT 120 eSWalker a31 0 0 ([] : List SWalker), boxO 120 g34 [.int .i64 x33.At.X, .int .i64 x33.At.Y, .int .i64 x33.DX, .int .i64 x33.DY]]) [0, 1, 2, 3, 4, 5] ?_ ⟨rfl, rfl, rfl, rfl, rfl, rfl, rfl, trivial⟩ (by decide) rfl
        refine JE.code ?_
        refine JX.block ?_
        obtain ⟨y3, hy3, hresO3⟩ := bind_some hres
        refine JX.loop (I := fun (s3 : List Int × List SWalker × SWalker) aa ww => ∃ (l36 : s3.1.length = x7.length) (a37 : Option Addr) (cp38 : Nat) (g39 : Nat), St w [] 69 [(1, ptrAt (some ⟨g1, 0, none⟩) 0), (4, .slice a25 x23.length cp26), (5, .slice a8 x7.length x7.length), (8, .slice a37 s3.2.1.length cp38), (9, ptrAt (some ⟨g39, 0, none⟩) 0), (24, .int .i64 x16), (25, .int .i64 x22)] [boxO 39 g1 [.int .i64 q0.W, .int .i64 q0.H, .slice a_0_2 q0.Breaks.length c_0_2], rowT 117 eHd a25 x23.length cp26 hs27, innO 120 eSWalker none hs27 x23, rowT 2 eI64 a8 x7.length x7.length s3.1, rowT 120 eSWalker a37 s3.2.1.length cp38 s3.2.1, boxO 120 g39 [.int .i64 s3.2.2.At.X, .int .i64 s3.2.2.At.Y, .int .i64 s3.2.2.DX, .int .i64 s3.2.2.DY]] aa ww) (sh104_3 q0 x23) hy3 (fun a w h => ⟨l29, a31, 0, g34, h.weak ⟨rfl, rfl, rfl, rfl, rfl, rfl, rfl, trivial⟩ [0, 1, 2, 3, 4, 5] (by decide) rfl⟩) ?_
        rintro ⟨x40, x41, x42⟩ o3 hres hox3 aa ww ⟨l43, a44, cp45, g46, hS⟩
        refine (?_ : JX Go.Proofs.Try.prog w [] 69 _ _ [(1, ptrAt (some ⟨g1, 0, none⟩) 0), (4, .slice a25 x23.length cp26), (5, .slice a8 x7.length x7.length), (8, .slice a44 x41.length cp45), (9, ptrAt (some ⟨g46, 0, none⟩) 0), (24, .int .i64 x16), (25, .int .i64 x22)] [boxO 39 g1 [.int .i64 q0.W, .int .i64 q0.H, .slice a_0_2 q0.Breaks.length c_0_2], rowT 117 eHd a25 x23.length cp26 hs27, innO 120 eSWalker none hs27 x23, rowT 2 eI64 a8 x7.length x7.length x40, rowT 120 eSWalker a44 x41.length cp45 x41, boxO 120 g46 [.int .i64 x42.At.X, .int .i64 x42.At.Y, .int .i64 x42.DX, .int .i64 x42.DY]] _) aa ww hS
        clear hS
        simp only [sh104_3] at hres
        refine JX.seq ?_
        refine JX.seq ?_
        refine JX.region ?_
        refine JL.val (yl_move rfl) rfl ?_
        refine JL.val (yl_loadn Go.Proofs.Try.underlying39 rfl i39 rfl (fun w hC => rd_box hC 0 rfl) rfl (i39s).symm i39p) rfl ?_
        refine JL.val (yl_loadn Go.Proofs.Try.underlying120 rfl i120 rfl (fun w hC => rd_box hC 5 rfl) rfl (i120s).symm i120p) rfl ?_
        obtain ⟨x47, hx47, hres⟩ := bind_some hres
        refine JL.eff (ef_call (vs := [.agg #[.int .i64 q0.W, .int .i64 q0.H, .slice a_0_2 q0.Breaks.length c_0_2], .agg #[.int .i64 x42.At.X, .int .i64 x42.At.Y, .int .i64 x42.DX, .int .i64 x42.DY]]) (T := T159 x47) Go.Proofs.Try.func159 rfl (by kernel_rfl) rfl (fun w hC => c159 (q0 := q0) (q1 := x42) (rd_arg g_0_2 hC) rfl k_0_2 hx47)) rfl ?_
        rintro _ _ ⟨_, ⟨rfl, rfl⟩, rfl⟩
        obtain ⟨x48, hx48, hres⟩ := bind_some hres
        refine JL.val (yl_idxT Go.Proofs.Try.underlying33 i2 i2s rfl rfl hx48 l43 (fun w hC => rd_row hC 3 rfl)) rfl ?_
        refine JL.val (yl_loadT0 Go.Proofs.Try.underlying2 rfl rfl hx48 (fun w hC => rd_row hC 3 rfl) rfl) rfl ?_
        refine JL.val (yl_lss rfl rfl) rfl ?_
        refine JL.nil ?_
        refine JE.weak (env' := [(1, ptrAt (some ⟨g1, 0, none⟩) 0), (4, .slice a25 x23.length cp26), (5, .slice a8 x7.length x7.length), (8, .slice a44 x41.length cp45), (9, ptrAt (some ⟨g46, 0, none⟩) 0), (24, .int .i64 x16), (25, .int .i64 x22), (43, .bool (decide (x48 < 0)))]) (es' := [boxO 39 g1 [.int .i64 q0.W, .int .i64 q0.H, .slice a_0_2 q0.Breaks.length c_0_2], rowT 117 eHd a25 x23.length cp26 hs27, innO 120 eSWalker none hs27 x23, rowT 2 eI64 a8 x7.length x7.length x40, rowT 120 eSWalker a44 x41.length cp45 x41, boxO 120 g46 [.int .i64 x42.At.X, .int .i64 x42.At.Y, .int .i64 x42.DX, .int .i64 x42.DY]]) [0, 1, 2, 3, 4, 5] ?_ ⟨rfl, rfl, rfl, rfl, rfl, rfl, rfl, rfl, trivial⟩ (by decide) rfl
        refine JE.code ?_
        rcases cond_some hres with ⟨hb, hres⟩ | ⟨hb, hres⟩
        · refine JX.condT rfl hb ?_
          refine JX.skip ?_
          refine JE.code ?_
          refine JX.seq ?_
          refine JX.block ?_
          refine JX.seq ?_
          refine JX.region ?_
          refine JL.val (yl_move rfl) rfl ?_
          refine JL.val (yl_loadn Go.Proofs.Try.underlying39 rfl i39 rfl (fun w hC => rd_box hC 0 rfl) rfl (i39s).symm i39p) rfl ?_
          refine JL.val (yl_loadn Go.Proofs.Try.underlying120 rfl i120 rfl (fun w hC => rd_box hC 5 rfl) rfl (i120s).symm i120p) rfl ?_
          obtain ⟨x49, hx49, hres⟩ := bind_some hres
          refine JL.eff (ef_call (vs := [.agg #[.int .i64 q0.W, .int .i64 q0.H, .slice a_0_2 q0.Breaks.length c_0_2], .agg #[.int .i64 x42.At.X, .int .i64 x42.At.Y, .int .i64 x42.DX, .int .i64 x42.DY]]) (T := T159 x49) Go.Proofs.Try.func159 rfl (by kernel_rfl) rfl (fun w hC => c159 (q0 := q0) (q1 := x42) (rd_arg g_0_2 hC) rfl k_0_2 hx49)) rfl ?_
          rintro _ _ ⟨_, ⟨rfl, rfl⟩, rfl⟩
          refine JL.val (yl_move rfl) rfl ?_
          refine JL.val (yl_len_slice Go.Proofs.Try.underlying113 rfl) rfl ?_
          obtain ⟨x50, hx50, hres⟩ := bind_some hres
          refine JL.val (yl_idxT Go.Proofs.Try.underlying33 i2 i2s rfl rfl hx50 l43 (fun w hC => rd_row hC 3 rfl)) rfl ?_
          refine JL.eff (ef_storeT (ix := 3) (u := ((x23.length : Nat) : Int)) i2 i2s rfl rfl rfl hx50 rfl) rfl ?_
          rintro _ _ rfl
          refine JL.nil ?_
          refine JE.weak (env' := [(1, ptrAt (some ⟨g1, 0, none⟩) 0), (4, .slice a25 x23.length cp26), (5, .slice a8 x7.length x7.length), (8, .slice a44 x41.length cp45), (9, ptrAt (some ⟨g46, 0, none⟩) 0), (24, .int .i64 x16), (25, .int .i64 x22)]) (es' := [boxO 39 g1 [.int .i64 q0.W, .int .i64 q0.H, .slice a_0_2 q0.Breaks.length c_0_2], rowT 117 eHd a25 x23.length cp26 hs27, innO 120 eSWalker none hs27 x23, rowT 2 eI64 a8 x7.length x7.length (x40.set (x49).toNat ((x23.length : Nat) : Int)), rowT 120 eSWalker a44 x41.length cp45 x41, boxO 120 g46 [.int .i64 x42.At.X, .int .i64 x42.At.Y, .int .i64 x42.DX, .int .i64 x42.DY]]) [0, 1, 2, 3, 4, 5] ?_ ⟨rfl, rfl, rfl, rfl, rfl, rfl, rfl, trivial⟩ (by decide) rfl
          refine JE.code ?_
          refine JX.region ?_
          refine JL.val (yl_move rfl) rfl ?_
          refine JL.val (yl_loadn Go.Proofs.Try.underlying120 rfl i120 rfl (fun w hC => rd_box hC 5 rfl) rfl (i120s).symm i120p) rfl ?_
          refine JL.eff (ef_buildSlice (E := 120) (k := eSWalker.k) (us := eSWalker.fl [x42]) rfl (fun w => bsl117_1 x42.At.X x42.At.Y x42.DX x42.DY w) rfl (by decide)) rfl ?_
          rintro _ _ ⟨a51, rfl, rfl⟩
          obtain ⟨x53, hx53, hres⟩ := bind_some hres
          refine JL.eff (ef_appendT (ix := 4) Go.Proofs.Try.underlying117 i120 i120z i120s rfl i120b0 i120b1 rfl rfl rfl rfl rfl (fun w hC => rd_row hC 6 rfl) hx53) rfl ?_
          rintro _ _ ⟨a54, cp55, rfl, rfl⟩
          refine JL.val (yl_assign rfl) rfl ?_
          refine JL.nil ?_
          refine JE.weak (env' := [(1, ptrAt (some ⟨g1, 0, none⟩) 0), (4, .slice a25 x23.length cp26), (5, .slice a8 x7.length x7.length), (8, .slice a54 x53.length cp55), (9, ptrAt (some ⟨g46, 0, none⟩) 0), (24, .int .i64 x16), (25, .int .i64 x22)]) (es' := [boxO 39 g1 [.int .i64 q0.W, .int .i64 q0.H, .slice a_0_2 q0.Breaks.length c_0_2], rowT 117 eHd a25 x23.length cp26 hs27, innO 120 eSWalker none hs27 x23, rowT 2 eI64 a8 x7.length x7.length (x40.set (x49).toNat ((x23.length : Nat) : Int)), rowT 120 eSWalker a54 x53.length cp55 x53, boxO 120 g46 [.int .i64 x42.At.X, .int .i64 x42.At.Y, .int .i64 x42.DX, .int .i64 x42.DY]]) [0, 1, 2, 3, 4, 5] ?_ ⟨rfl, rfl, rfl, rfl, rfl, rfl, rfl, trivial⟩ (by decide) rfl
          refine JE.code ?_
          refine JX.seq ?_
          refine JX.seq ?_
          refine JX.region ?_
          refine JL.val (yl_loadn Go.Proofs.Try.underlying120 rfl i120 rfl (fun w hC => rd_box hC 5 rfl) rfl (i120s).symm i120p) rfl ?_
          refine JL.nil ?_
          refine JE.weak (env' := [(1, ptrAt (some ⟨g1, 0, none⟩) 0), (4, .slice a25 x23.length cp26), (5, .slice a8 x7.length x7.length), (8, .slice a54 x53.length cp55), (24, .int .i64 x16), (25, .int .i64 x22), (61, .agg #[.int .i64 x42.At.X, .int .i64 x42.At.Y, .int .i64 x42.DX, .int .i64 x42.DY])]) (es' := [boxO 39 g1 [.int .i64 q0.W, .int .i64 q0.H, .slice a_0_2 q0.Breaks.length c_0_2], rowT 117 eHd a25 x23.length cp26 hs27, innO 120 eSWalker none hs27 x23, rowT 2 eI64 a8 x7.length x7.length (x40.set (x49).toNat ((x23.length : Nat) : Int)), rowT 120 eSWalker a54 x53.length cp55 x53]) [0, 1, 2, 3, 4] ?_ ⟨rfl, rfl, rfl, rfl, rfl, rfl, rfl, trivial⟩ (by decide) rfl
          refine JE.code ?_
          refine JX.region ?_
          refine JL.eff (ef_alloc i120 i120z rfl) rfl ?_
          rintro _ _ ⟨g56, rfl, rfl⟩
          refine JL.eff (ef_store_box (i := 5) (v := .agg #[.int .i64 x42.At.X, .int .i64 x42.At.Y, .int .i64 x42.DX, .int .i64 x42.DY]) i120 rfl rfl rfl (i120s).symm (Nat.le_of_ble_eq_true rfl) (by simp [Value.cells, Value.oneCell'])) rfl ?_
          rintro _ _ rfl
          refine JL.nil ?_
          refine JE.code ?_
          refine JX.region ?_
          refine JL.val (yl_loadn Go.Proofs.Try.underlying39 rfl i39 rfl (fun w hC => rd_box hC 0 rfl) rfl (i39s).symm i39p) rfl ?_
          refine JL.val (yl_loadn Go.Proofs.Try.underlying120 rfl i120 rfl (fun w hC => rd_box hC 5 rfl) rfl (i120s).symm i120p) rfl ?_
          obtain ⟨x58, hx58, hres⟩ := bind_some hres
          refine JL.eff (ef_call (vs := [.agg #[.int .i64 q0.W, .int .i64 q0.H, .slice a_0_2 q0.Breaks.length c_0_2], .agg #[.int .i64 x42.At.X, .int .i64 x42.At.Y, .int .i64 x42.DX, .int .i64 x42.DY]]) (T := T160 x58) Go.Proofs.Try.func160 rfl (by kernel_rfl) rfl (fun w hC => c160 (q0 := q0) (q1 := x42) (rd_arg g_0_2 hC) rfl k_0_2 hx58)) rfl ?_
          rintro _ _ ⟨_, ⟨rfl, rfl⟩, rfl⟩
          refine JL.val (yl_move rfl) rfl ?_
          refine JL.val (yl_extract rfl rfl) rfl ?_
          refine JL.val (yl_extract rfl rfl) rfl ?_
          refine JL.eff (ef_store_box (i := 5) (v := .agg #[.int .i64 x58.1.At.X, .int .i64 x58.1.At.Y, .int .i64 x58.1.DX, .int .i64 x58.1.DY]) i120 rfl rfl rfl (i120s).symm (Nat.le_of_ble_eq_true rfl) (by simp [Value.cells, Value.oneCell'])) rfl ?_
          rintro _ _ rfl
          refine JL.nil ?_
          refine JE.weak (env' := [(1, ptrAt (some ⟨g1, 0, none⟩) 0), (4, .slice a25 x23.length cp26), (5, .slice a8 x7.length x7.length), (8, .slice a54 x53.length cp55), (9, ptrAt (some ⟨g56, 0, none⟩) 0), (24, .int .i64 x16), (25, .int .i64 x22)]) (es' := [boxO 39 g1 [.int .i64 q0.W, .int .i64 q0.H, .slice a_0_2 q0.Breaks.length c_0_2], rowT 117 eHd a25 x23.length cp26 hs27, innO 120 eSWalker none hs27 x23, rowT 2 eI64 a8 x7.length x7.length (x40.set (x49).toNat ((x23.length : Nat) : Int)), rowT 120 eSWalker a54 x53.length cp55 x53, boxO 120 g56 [.int .i64 x58.1.At.X, .int .i64 x58.1.At.Y, .int .i64 x58.1.DX, .int .i64 x58.1.DY]]) [0, 1, 2, 3, 4, 5] ?_ ⟨rfl, rfl, rfl, rfl, rfl, rfl, rfl, trivial⟩ (by decide) rfl
          refine JE.cont hres ?_
          exact fun a w h => ⟨(List.length_set.trans l43), a54, cp55, g56, h.weak ⟨rfl, rfl, rfl, rfl, rfl, rfl, rfl, trivial⟩ [0, 1, 2, 3, 4, 5] (by decide) rfl⟩
        · refine JX.condF rfl hb ?_
          refine JX.exit ?_
          refine JE.qb rfl ?_
          obtain ⟨b3, hb3⟩ : ∃ b : List Int × List SWalker, b = (x40, x41) := ⟨_, rfl⟩
          have hy3 : b3 = y3 := by rw [hb3]; exact hox3 _ (Option.some.inj hres).symm
          have hres := hresO3
          rw [← hy3] at hres
          have l59 : b3.1.length = x7.length := by subst hb3; exact l43
          refine JE.weak (env' := [(1, ptrAt (some ⟨g1, 0, none⟩) 0), (4, .slice a25 x23.length cp26), (5, .slice a8 x7.length x7.length), (8, .slice a44 b3.2.length cp45), (24, .int .i64 x16), (25, .int .i64 x22)]) (es' := [boxO 39 g1 [.int .i64 q0.W, .int .i64 q0.H, .slice a_0_2 q0.Breaks.length c_0_2], rowT 117 eHd a25 x23.length cp26 hs27, innO 120 eSWalker none hs27 x23, rowT 2 eI64 a8 x7.length x7.length b3.1, rowT 120 eSWalker a44 b3.2.length cp45 b3.2]) [0, 1, 2, 3, 4] ?_ ⟨(by subst hb3; rfl), (by subst hb3; rfl), (by subst hb3; rfl), (by subst hb3; rfl), (by subst hb3; rfl), (by subst hb3; rfl), trivial⟩ (by decide) (by subst hb3; rfl)
          refine JE.code ?_
          refine JX.region ?_
          refine JL.val (yl_move rfl) rfl ?_
          refine JL.val (yl_move rfl) rfl ?_
          refine JL.eff (ef_buildSlice (E := 117) (k := eHd.k) (us := eHd.fl [⟨a44, b3.2.length, cp45⟩]) rfl (fun w => bsl113_1 a44 b3.2.length cp45 w) rfl (by decide)) rfl ?_
          rintro _ _ ⟨a62, rfl, rfl⟩
          obtain ⟨x64, hx64, hres⟩ := bind_some hres
          refine JL.eff (ef_appendH (ix := 1) Go.Proofs.Try.underlying113 i117 i117z i117s rfl i117b0 i117b1 rfl rfl (Inn.len hi28) rfl rfl (fun w hC => rd_row hC 5 rfl) hx64 hi28) rfl ?_
          rintro _ _ ⟨a65, cp66, rfl, rfl⟩
          refine JL.absorb (es' := [boxO 39 g1 [.int .i64 q0.W, .int .i64 q0.H, .slice a_0_2 q0.Breaks.length c_0_2], rowT 117 eHd a65 x64.length cp66 (hs27 ++ [⟨a44, b3.2.length, cp45⟩]), rowT 2 eI64 a8 x7.length x7.length b3.1, rowT 117 eHd a62 1 1 [⟨a44, b3.2.length, cp45⟩]]) [0, 1, 3, 5, 2, 4] (by decide) rfl (appL_some hx64).2 ?_
          refine JL.val (yl_assign rfl) rfl ?_
          refine JL.nil ?_
          refine JE.weak (env' := [(1, ptrAt (some ⟨g1, 0, none⟩) 0), (4, .slice a65 x64.length cp66), (5, .slice a8 x7.length x7.length), (24, .int .i64 x16), (25, .int .i64 x22)]) (es' := [boxO 39 g1 [.int .i64 q0.W, .int .i64 q0.H, .slice a_0_2 q0.Breaks.length c_0_2], rowT 117 eHd a65 x64.length cp66 (hs27 ++ [⟨a44, b3.2.length, cp45⟩]), innO 120 eSWalker none (hs27 ++ [⟨a44, b3.2.length, cp45⟩]) x64, rowT 2 eI64 a8 x7.length x7.length b3.1]) [0, 1, 4, 2] ?_ ⟨rfl, rfl, rfl, rfl, rfl, trivial⟩ (by decide) rfl
          refine JE.code ?_
          refine JX.region ?_
          refine JL.val (yl_add rfl rfl) rfl ?_
          refine JL.val (yl_move rfl) rfl ?_
          refine JL.nil ?_
          refine JE.cont hres ?_
          exact fun a w h => ⟨a65, cp66, hs27 ++ [⟨a44, b3.2.length, cp45⟩], (Inn.appZ hi28 rfl (appL_some hx64).2), l59, h.weak ⟨rfl, (by first | rfl | (simp only [List.length_set, l59]; rfl) | simp only [List.length_set, l59]), rfl, rfl, rfl, trivial⟩ [0, 1, 2, 3] (by decide) (by first | rfl | (simp only [List.length_set, l59]; rfl) | simp only [List.length_set, l59])⟩
    · refine JX.condF rfl hb ?_
      refine JX.exit ?_
      refine JE.qb rfl ?_
      obtain ⟨b2, hb2⟩ : ∃ b : List (List SWalker) × List Int, b = (x23, x24) := ⟨_, rfl⟩
      have hy2 : b2 = y2 := by rw [hb2]; exact hox2 _ (Option.some.inj hres).symm
      have hres := hresO2
      rw [← hy2] at hres
      have hi70 : Inn hs27 b2.1 := by subst hb2; exact hi28
      have l71 : b2.2.length = x7.length := by subst hb2; exact l29
      refine JE.weak (env' := [(4, .slice a25 b2.1.length cp26), (5, .slice a8 x7.length x7.length)]) (es' := [rowT 117 eHd a25 b2.1.length cp26 hs27, innO 120 eSWalker none hs27 b2.1, rowT 2 eI64 a8 x7.length x7.length b2.2]) [1, 2, 3] ?_ ⟨(by subst hb2; first | rfl | (simp only [List.length_set, l29]; rfl) | simp only [List.length_set, l29]), (by subst hb2; rfl), trivial⟩ (by decide) (by subst hb2; first | rfl | (simp only [List.length_set, l29]; rfl) | simp only [List.length_set, l29])
      refine JE.code ?_
      refine JX.seq ?_
      refine JX.region ?_
      refine JL.val (yl_move rfl) rfl ?_
      refine JL.val (yl_move rfl) rfl ?_
      refine JL.val (yl_assign rfl) rfl ?_
      refine JL.val (yl_assign rfl) rfl ?_
      refine JL.nil ?_
      refine JE.weak (env' := [(2, .slice a25 b2.1.length cp26), (3, .slice a8 x7.length x7.length)]) (es' := [rowT 117 eHd a25 b2.1.length cp26 hs27, innO 120 eSWalker none hs27 b2.1, rowT 2 eI64 a8 x7.length x7.length b2.2]) [0, 1, 2] ?_ ⟨rfl, rfl, trivial⟩ (by decide) rfl
      refine JE.code ?_
      refine JX.ret ?_
      obtain rfl := Option.some.inj hres
      refine JE.ret (rs := [.tmp 2, .tmp 3]) (vs := [.slice a25 b2.1.length cp26, .slice a8 x7.length x7.length]) rfl ⟨rfl, rfl, trivial⟩ ?_
      exact fun w' hb hs => ⟨_, _, ⟨a25, b2.1.length, cp26, hs27, rfl, hi70, a8, x7.length, x7.length, l71, rfl, rfl⟩, rfl, hb, hs.sel [0, 1, 2] _ (by decide) rfl⟩

/- impl.distance -/
def sh155 (q0 : Int) (q1 : Int) : Option (Int) := some (if (w64 (q0 - q1)) < (w64 (q1 - q0)) then (w64 (q1 - q0)) else (w64 (q0 - q1)))
def T155 (r : Int) (v : Value) (rs : List Own) : Prop := v = rets [.int .i64 r] ∧ rs = []
set_option maxRecDepth 100000 in
theorem c155 {w : World} {q0 : Int} {q1 : Int} {r : Int} (hres : sh155 q0 q1 = some r) : Calls Go.Proofs.Try.prog 155 [.int .i64 q0, .int .i64 q1].toArray w (Ret w (T155 r)) := by
  unfold sh155 at hres
  refine calls_of (n := 12) (M := []) (es := []) Go.Proofs.Try.func155 rfl rfl rfl (Sep.nil _ _ _) ?_
  refine JX.seq ?_
  refine JX.region ?_
  refine JL.val (yl_assign rfl) rfl ?_
  refine JL.nil ?_
  refine JE.code ?_
  refine JX.seq ?_
  refine JX.region ?_
  refine JL.val (yl_move rfl) rfl ?_
  refine JL.val (yl_move rfl) rfl ?_
  refine JL.val (yl_sub rfl rfl) rfl ?_
  refine JL.val (yl_move rfl) rfl ?_
  refine JL.val (yl_move rfl) rfl ?_
  refine JL.val (yl_sub rfl rfl) rfl ?_
  refine JL.val (yl_max rfl rfl) rfl ?_
  refine JL.val (yl_assign rfl) rfl ?_
  refine JL.nil ?_
  refine JE.weak (env' := [(4, .int .i64 (if (w64 (q0 - q1)) < (w64 (q1 - q0)) then (w64 (q1 - q0)) else (w64 (q0 - q1))))]) (es' := []) [] ?_ ⟨rfl, trivial⟩ (by decide) rfl
  refine JE.code ?_
  refine JX.ret ?_
  obtain rfl := Option.some.inj hres
  refine JE.ret (rs := [.tmp 4]) (vs := [.int .i64 (if (w64 (q0 - q1)) < (w64 (q1 - q0)) then (w64 (q1 - q0)) else (w64 (q0 - q1)))]) rfl ⟨rfl, trivial⟩ ?_
  exact fun w' hb hs => ⟨_, _, ⟨rfl, rfl⟩, rfl, hb, hs.sel [] _ (by decide) rfl⟩

end Go.Sh
