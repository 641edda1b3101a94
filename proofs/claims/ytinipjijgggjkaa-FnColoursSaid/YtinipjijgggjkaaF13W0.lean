/- Walks through functions that the law reaches, printed by program. -/
import Derived.Test.YtinipjijgggjkaaF13T
set_option linter.unusedVariables false
set_option linter.unusedSimpArgs false
namespace Go.Sh
open Go Go.RowKit
/- spec.l00In -/
def sh127 (q0 : Int) (q1 : Int) (q2 : Int) : Option (Bool) := some ((decide (q1 ≤ q0)) && (decide (q0 ≤ q2)))
def T127 (r : Bool) (v : Value) (rs : List Own) : Prop := v = rets [.bool r] ∧ rs = []
set_option maxRecDepth 100000 in
theorem c127 {w : World} {q0 : Int} {q1 : Int} {q2 : Int} {r : Bool} (hres : sh127 q0 q1 q2 = some r) : Calls Go.Proofs.Try.prog 127 [.int .i64 q0, .int .i64 q1, .int .i64 q2].toArray w (Ret w (T127 r)) := by
  unfold sh127 at hres
  refine calls_of (n := 15) (M := []) (es := []) Go.Proofs.Try.func127 rfl rfl rfl (Sep.nil _ _ _) ?_
  refine JX.seq ?_
  refine JX.region ?_
  refine JL.val (yl_assign rfl) rfl ?_
  refine JL.nil ?_
  refine JE.code ?_
  refine JX.seq ?_
  refine JX.region ?_
  refine JL.val (yl_move rfl) rfl ?_
  refine JL.val (yl_move rfl) rfl ?_
  refine JL.val (yl_geq rfl rfl) rfl ?_
  refine JL.val (yl_move rfl) rfl ?_
  refine JL.cut (K := fun J => J [(14, .bool ((decide (q1 ≤ q0)) && (decide (q0 ≤ q2))))] []) 4 ?_ ?_
  · refine JL.val (yl_assign rfl) rfl ?_
    refine JL.nil ?_
    refine JE.weak (env' := [(6, .bool ((decide (q1 ≤ q0)) && (decide (q0 ≤ q2))))]) (es' := []) [] ?_ ⟨rfl, trivial⟩ (by decide) rfl
    refine JE.code ?_
    refine JX.ret ?_
    obtain rfl := Option.some.inj hres
    refine JE.ret (rs := [.tmp 6]) (vs := [.bool ((decide (q1 ≤ q0)) && (decide (q0 ≤ q2)))]) rfl ⟨rfl, trivial⟩ ?_
    exact fun w' hb hs => ⟨_, _, ⟨rfl, rfl⟩, rfl, hb, hs.sel [] _ (by decide) rfl⟩
  · intro K
    rcases Bool.eq_false_or_eq_true (decide (q1 ≤ q0)) with hb | hb
    · refine JL.set (d := 10) (v := .bool true) (congrArg (fun b => some (Value.bool b)) hb) ?_
      refine JL.gval rfl rfl (yl_move rfl) rfl ?_
      refine JL.gval rfl rfl (yl_move rfl) rfl ?_
      refine JL.gval rfl rfl (yl_leq rfl rfl) rfl ?_
      refine JL.val (yl_pick_true rfl rfl) rfl ?_
      exact JL.weak [] K ⟨(by rw [hb]; rfl), trivial⟩ (by decide) rfl
    · refine JL.set (d := 10) (v := .bool false) (congrArg (fun b => some (Value.bool b)) hb) ?_
      refine JL.gskip rfl rfl rfl rfl ?_
      refine JL.gskip rfl rfl rfl rfl ?_
      refine JL.gskip rfl rfl rfl rfl ?_
      refine JL.val (yl_pick_false rfl rfl) rfl ?_
      exact JL.weak [] K ⟨(by rw [hb]; rfl), trivial⟩ (by decide) rfl

/- spec.l02Side -/
def sh143 (q0 : Int) : Option (Bool) := Option.bind (sh127 q0 1 8) fun x1 => some x1
def T143 (r : Bool) (v : Value) (rs : List Own) : Prop := v = rets [.bool r] ∧ rs = []
set_option maxRecDepth 100000 in
theorem c143 {w : World} {q0 : Int} {r : Bool} (hres : sh143 q0 = some r) : Calls Go.Proofs.Try.prog 143 [.int .i64 q0].toArray w (Ret w (T143 r)) := by
  unfold sh143 at hres
  refine calls_of (n := 5) (M := []) (es := []) Go.Proofs.Try.func143 rfl rfl rfl (Sep.nil _ _ _) ?_
  refine JX.seq ?_
  refine JX.region ?_
  refine JL.val (yl_assign rfl) rfl ?_
  refine JL.nil ?_
  refine JE.code ?_
  refine JX.seq ?_
  refine JX.region ?_
  refine JL.val (yl_move rfl) rfl ?_
  obtain ⟨x1, hx1, hres⟩ := bind_some hres
  refine JL.eff (ef_call (T := T127 x1) Go.Proofs.Try.func127 rfl (by kernel_rfl) rfl (fun w hC => c127  hx1)) rfl ?_
  rintro _ _ ⟨_, ⟨rfl, rfl⟩, rfl⟩
  refine JL.val (yl_assign rfl) rfl ?_
  refine JL.nil ?_
  refine JE.code ?_
  refine JX.ret ?_
  obtain rfl := Option.some.inj hres
  refine JE.ret (rs := [.tmp 2]) (vs := [.bool x1]) rfl ⟨rfl, trivial⟩ ?_
  exact fun w' hb hs => ⟨_, _, ⟨rfl, rfl⟩, rfl, hb, hs.sel [] _ (by decide) rfl⟩

/- spec.l02Inner -/
def sh144 (q0 : Int) (q1 : Int) : Option (Int) := some (w64 ((w64 (q0 * (w64 (q1 - 1)))) + (w64 (q1 * (w64 (q0 - 1))))))
def T144 (r : Int) (v : Value) (rs : List Own) : Prop := v = rets [.int .i64 r] ∧ rs = []
set_option maxRecDepth 100000 in
theorem c144 {w : World} {q0 : Int} {q1 : Int} {r : Int} (hres : sh144 q0 q1 = some r) : Calls Go.Proofs.Try.prog 144 [.int .i64 q0, .int .i64 q1].toArray w (Ret w (T144 r)) := by
  unfold sh144 at hres
  refine calls_of (n := 14) (M := []) (es := []) Go.Proofs.Try.func144 rfl rfl rfl (Sep.nil _ _ _) ?_
  refine JX.seq ?_
  refine JX.region ?_
  refine JL.val (yl_assign rfl) rfl ?_
  refine JL.nil ?_
  refine JE.code ?_
  refine JX.seq ?_
  refine JX.region ?_
  refine JL.val (yl_move rfl) rfl ?_
  refine JL.val (yl_move rfl) rfl ?_
  refine JL.val (yl_sub rfl rfl) rfl ?_
  refine JL.val (yl_mul rfl rfl) rfl ?_
  refine JL.val (yl_move rfl) rfl ?_
  refine JL.val (yl_move rfl) rfl ?_
  refine JL.val (yl_sub rfl rfl) rfl ?_
  refine JL.val (yl_mul rfl rfl) rfl ?_
  refine JL.val (yl_add rfl rfl) rfl ?_
  refine JL.val (yl_assign rfl) rfl ?_
  refine JL.nil ?_
  refine JE.weak (env' := [(4, .int .i64 (w64 ((w64 (q0 * (w64 (q1 - 1)))) + (w64 (q1 * (w64 (q0 - 1)))))))]) (es' := []) [] ?_ ⟨rfl, trivial⟩ (by decide) rfl
  refine JE.code ?_
  refine JX.ret ?_
  obtain rfl := Option.some.inj hres
  refine JE.ret (rs := [.tmp 4]) (vs := [.int .i64 (w64 ((w64 (q0 * (w64 (q1 - 1)))) + (w64 (q1 * (w64 (q0 - 1))))))]) rfl ⟨rfl, trivial⟩ ?_
  exact fun w' hb hs => ⟨_, _, ⟨rfl, rfl⟩, rfl, hb, hs.sel [] _ (by decide) rfl⟩

/- spec.l02Ok -/
def sh82_1 (q0 : SPanel) : Int → Option (Int ⊕ (Unit ⊕ Bool))
  | x7 => bif decide (x7 < (q0.Breaks.length : Int)) then (Option.bind (getI q0.Breaks x7) fun x8 => Option.bind (sh127 x8 0 2) fun x9 => bif !x9 then (some (.inr (.inr false))) else (some (.inl (w64 (x7 + 1))))) else (some (.inr (.inl ())))
def sh82 (q0 : SPanel) : Option (Bool) := Option.bind (sh143 q0.W) fun x2 => Option.bind (bif !x2 then (some true) else (Option.bind (sh143 q0.H) fun x4 => some !x4)) fun cb3 => (Option.bind (bif cb3 then (some true) else (Option.bind (sh144 q0.W q0.H) fun x6 => some ((q0.Breaks.length : Int) != x6))) fun cb5 => (bif cb5 then (some false) else (Option.bind (iter (sh82_1 q0) 0) fun y1 => elimS y1 (fun r => some r) fun b1 => (some true))))
def T82 (r : Bool) (v : Value) (rs : List Own) : Prop := v = rets [.bool r] ∧ rs = []
set_option maxRecDepth 100000 in
theorem c82 {w : World} {q0 : SPanel} {a_0 : Option Addr} {n_0 : Nat} {a_0_2 : Option Addr} {n_0_2 c_0_2 : Nat} (g_0 : RdAt w a_0 n_0 [.int .i64 q0.W, .int .i64 q0.H, .slice a_0_2 n_0_2 c_0_2]) (g_0_2 : Rd w a_0_2 (eI64.fl q0.Breaks)) (l_0_2 : q0.Breaks.length = n_0_2) (k_0_2 : n_0_2 ≤ c_0_2) {r : Bool} (hres : sh82 q0 = some r) : Calls Go.Proofs.Try.prog 82 [ptrAt a_0 n_0].toArray w (Ret w (T82 r)) := by
  subst l_0_2
  obtain ⟨b_0, e_0, g_0⟩ := g_0.norm0
  rw [e_0]
  unfold sh82 at hres
  refine calls_of (n := 53) (M := []) (es := []) Go.Proofs.Try.func82 rfl rfl rfl (Sep.nil _ _ _) ?_
  refine JX.seq ?_
  refine JX.region ?_
  refine JL.val (yl_assign rfl) rfl ?_
  refine JL.nil ?_
  refine JE.code ?_
  refine JX.seq ?_
  refine JX.seq ?_
  refine JX.drawH [(0, .pure), (1, .pure), (2, .pure), (3, .read), (4, .must), (5, .pure), (6, .pure), (7, .pure), (8, .pure), (9, .pure), (10, .read), (11, .must), (12, .pure), (13, .pure), (14, .pure), (15, .pure), (16, .pure), (17, .pure), (18, .read), (19, .pure), (20, .pure), (21, .pure), (22, .pure), (23, .read), (24, .pure), (25, .pure), (26, .pure), (27, .read), (28, .must), (29, .pure), (30, .pure)] [] [] [] [] [] mixedP (by kernel_rfl) (by kernel_rfl) (by decide) rfl rfl ?_
  intro wrr1 Nr1 hFr1
  refine JH.pure rfl (yl_move rfl) rfl ?_
  refine JH.pure rfl (yl_nilCheckAt rfl (Rd.some g_0 (j := 0) rfl)) rfl ?_
  refine JH.pure rfl (yl_fieldAt Go.Proofs.Try.underlying28 rfl i2 i2n rfl (Rd.some g_0 (j := 0) rfl)) rfl ?_
  refine JH.read rfl (yl_load1 Go.Proofs.Try.underlying2 rfl rfl (fun w hw => hFr1.arg g_0 hw) rfl) rfl ?_
  obtain ⟨x2, hx2, hres⟩ := bind_some hres
  refine JH.must rfl (ef_call (T := T143 x2) Go.Proofs.Try.func143 rfl (by kernel_rfl) rfl (fun w hC => c143  hx2)) rfl rfl ?_
  rintro _ _ ⟨_, ⟨rfl, rfl⟩, rfl⟩
  refine JH.pure rfl (yl_not rfl) rfl ?_
  refine JH.pure rfl (yl_move rfl) rfl ?_
  obtain ⟨cb3, hcb3, hres⟩ := bind_some hres
  refine JH.cut (K := fun J => J [(0, ptrAt b_0 0), (17, .bool cb3)] []) 7 ?_ ?_
  · refine JH.pure rfl (yl_move rfl) rfl ?_
    obtain ⟨cb5, hcb5, hres⟩ := bind_some hres
    refine JH.cut (K := fun J => J [(0, ptrAt b_0 0), (34, .bool cb5)] []) 16 ?_ ?_
    · refine JH.nil ?_
      refine JE.weak (env' := [(0, ptrAt b_0 0), (34, .bool cb5)]) (es' := []) [] ?_ ⟨rfl, rfl, trivial⟩ (by decide) rfl
      refine JE.code ?_
      rcases cond_some hres with ⟨hb, hres⟩ | ⟨hb, hres⟩
      · refine JX.condT rfl hb ?_
        refine JX.seq ?_
        refine JX.region ?_
        refine JL.val (yl_assign rfl) rfl ?_
        refine JL.nil ?_
        refine JE.code ?_
        refine JX.ret ?_
        obtain rfl := Option.some.inj hres
        refine JE.ret (rs := [.tmp 2]) (vs := [.bool false]) rfl ⟨rfl, trivial⟩ ?_
        exact fun w' hb hs => ⟨_, _, ⟨rfl, rfl⟩, rfl, hb, hs.sel [] _ (by decide) rfl⟩
      · refine JX.condF rfl hb ?_
        refine JX.skip ?_
        refine JE.code ?_
        refine JX.seq ?_
        refine JX.seq ?_
        refine JX.region ?_
        refine JL.val (yl_assign rfl) rfl ?_
        refine JL.nil ?_
        refine JE.code ?_
        refine JX.block ?_
        obtain ⟨y1, hy1, hresO1⟩ := bind_some hres
        refine JX.loop (I := fun (s1 : Int) aa ww => St w [] 53 [(0, ptrAt b_0 0), (3, .int .i64 s1)] [] aa ww) (sh82_1 q0) hy1 (fun a w h => h.weak ⟨rfl, rfl, trivial⟩ [] (by decide) rfl) ?_
        rintro x7 o1 hres hox1 aa ww hS
        refine (?_ : JX Go.Proofs.Try.prog w [] 53 _ _ [(0, ptrAt b_0 0), (3, .int .i64 x7)] [] _) aa ww hS
        clear hS
        unfold sh82_1 at hres
        refine JX.seq ?_
        refine JX.seq ?_
        refine JX.region ?_
        refine JL.val (yl_move rfl) rfl ?_
        refine JL.val (yl_move rfl) rfl ?_
        refine JL.val (yl_nilCheckAt rfl (Rd.some g_0 (j := 0) rfl)) rfl ?_
        refine JL.val (yl_fieldAt Go.Proofs.Try.underlying28 rfl i22 i22n rfl (Rd.some g_0 (j := 0) rfl)) rfl ?_
        refine JL.val (yl_load1 Go.Proofs.Try.underlying22 rfl rfl (fun w hC => rd_arg g_0 hC) rfl) rfl ?_
        refine JL.val (yl_len_slice Go.Proofs.Try.underlying22 rfl) rfl ?_
        refine JL.val (yl_lss rfl rfl) rfl ?_
        refine JL.nil ?_
        refine JE.weak (env' := [(0, ptrAt b_0 0), (3, .int .i64 x7), (41, .bool (decide (x7 < (q0.Breaks.length : Int))))]) (es' := []) [] ?_ ⟨rfl, rfl, rfl, trivial⟩ (by decide) rfl
        refine JE.code ?_
        rcases cond_some hres with ⟨hb, hres⟩ | ⟨hb, hres⟩
        · refine JX.condT rfl hb ?_
          refine JX.skip ?_
          refine JE.code ?_
          refine JX.seq ?_
          refine JX.block ?_
          refine JX.seq ?_
          refine JX.region ?_
          refine JL.val (yl_move rfl) rfl ?_
          refine JL.val (yl_nilCheckAt rfl (Rd.some g_0 (j := 0) rfl)) rfl ?_
          refine JL.val (yl_fieldAt Go.Proofs.Try.underlying28 rfl i22 i22n rfl (Rd.some g_0 (j := 0) rfl)) rfl ?_
          refine JL.val (yl_load1 Go.Proofs.Try.underlying22 rfl rfl (fun w hC => rd_arg g_0 hC) rfl) rfl ?_
          refine JL.val (yl_move rfl) rfl ?_
          obtain ⟨x8, hx8, hres⟩ := bind_some hres
          refine JL.val (yl_idxT Go.Proofs.Try.underlying22 i2 i2s rfl rfl hx8 rfl (fun w hC => rd_arg g_0_2 hC)) rfl ?_
          refine JL.val (yl_loadT0 Go.Proofs.Try.underlying2 rfl rfl hx8 (fun w hC => rd_arg g_0_2 hC) rfl) rfl ?_
          obtain ⟨x9, hx9, hres⟩ := bind_some hres
          refine JL.eff (ef_call (T := T127 x9) Go.Proofs.Try.func127 rfl (by kernel_rfl) rfl (fun w hC => c127  hx9)) rfl ?_
          rintro _ _ ⟨_, ⟨rfl, rfl⟩, rfl⟩
          refine JL.val (yl_not rfl) rfl ?_
          refine JL.nil ?_
          refine JE.weak (env' := [(0, ptrAt b_0 0), (3, .int .i64 x7), (52, .bool !x9)]) (es' := []) [] ?_ ⟨rfl, rfl, rfl, trivial⟩ (by decide) rfl
          refine JE.code ?_
          rcases cond_some hres with ⟨hb, hres⟩ | ⟨hb, hres⟩
          · refine JX.condT rfl hb ?_
            refine JX.seq ?_
            refine JX.region ?_
            refine JL.val (yl_assign rfl) rfl ?_
            refine JL.nil ?_
            refine JE.code ?_
            refine JX.ret ?_
            refine JE.qbr ?_
            refine JE.qbr ?_
            have hres := elimS_inr hresO1 (hox1 _ (Option.some.inj hres).symm)
            obtain rfl := Option.some.inj hres
            refine JE.ret (rs := [.tmp 2]) (vs := [.bool false]) rfl ⟨rfl, trivial⟩ ?_
            exact fun w' hb hs => ⟨_, _, ⟨rfl, rfl⟩, rfl, hb, hs.sel [] _ (by decide) rfl⟩
          · refine JX.condF rfl hb ?_
            refine JX.skip ?_
            refine JE.code ?_
            refine JX.region ?_
            refine JL.val (yl_move rfl) rfl ?_
            refine JL.val (yl_add rfl rfl) rfl ?_
            refine JL.val (yl_assign rfl) rfl ?_
            refine JL.nil ?_
            refine JE.cont hres ?_
            exact fun a w h => h.weak ⟨rfl, rfl, trivial⟩ [] (by decide) rfl
        · refine JX.condF rfl hb ?_
          refine JX.exit ?_
          refine JE.qb rfl ?_
          obtain ⟨b1, hb1⟩ : ∃ b : Unit, b = () := ⟨_, rfl⟩
          have hy1 : Sum.inl b1 = y1 := by rw [hb1]; exact hox1 _ (Option.some.inj hres).symm
          have hres := elimS_inl hresO1 hy1
          refine JE.weak (env' := []) (es' := []) [] ?_ trivial (by decide) (by subst hb1; rfl)
          refine JE.code ?_
          refine JX.seq ?_
          refine JX.region ?_
          refine JL.val (yl_assign rfl) rfl ?_
          refine JL.nil ?_
          refine JE.code ?_
          refine JX.ret ?_
          obtain rfl := Option.some.inj hres
          refine JE.ret (rs := [.tmp 2]) (vs := [.bool true]) rfl ⟨rfl, trivial⟩ ?_
          exact fun w' hb hs => ⟨_, _, ⟨rfl, rfl⟩, rfl, hb, hs.sel [] _ (by decide) rfl⟩
    · intro K
      rcases cond_some hcb5 with ⟨hb, hres⟩ | ⟨hb, hres⟩
      · refine JH.set (d := 18) (v := .bool true) (congrArg (fun b => some (Value.bool b)) hb) ?_
        refine JH.gskip rfl rfl rfl rfl rfl rfl ?_
        refine JH.gskip rfl rfl rfl rfl rfl rfl ?_
        refine JH.gskip rfl rfl rfl rfl rfl rfl ?_
        refine JH.gskip rfl rfl rfl rfl rfl rfl ?_
        refine JH.gskip rfl rfl rfl rfl rfl rfl ?_
        refine JH.gskip rfl rfl rfl rfl rfl rfl ?_
        refine JH.gskip rfl rfl rfl rfl rfl rfl ?_
        refine JH.gskip rfl rfl rfl rfl rfl rfl ?_
        refine JH.gskip rfl rfl rfl rfl rfl rfl ?_
        refine JH.gskip rfl rfl rfl rfl rfl rfl ?_
        refine JH.gskip rfl rfl rfl rfl rfl rfl ?_
        refine JH.gskip rfl rfl rfl rfl rfl rfl ?_
        refine JH.gskip rfl rfl rfl rfl rfl rfl ?_
        refine JH.gskip rfl rfl rfl rfl rfl rfl ?_
        refine JH.gskip rfl rfl rfl rfl rfl rfl ?_
        refine JH.pure rfl (yl_pick_true rfl rfl) rfl ?_
        have he := Option.some.inj hres
        exact JH.weak [] K ⟨rfl, (by rw [← he]; rfl), trivial⟩ (by decide) rfl
      · refine JH.set (d := 18) (v := .bool false) (congrArg (fun b => some (Value.bool b)) hb) ?_
        refine JH.gpure rfl rfl rfl (yl_move rfl) rfl ?_
        refine JH.gpure rfl rfl rfl (yl_nilCheckAt rfl (Rd.some g_0 (j := 0) rfl)) rfl ?_
        refine JH.gpure rfl rfl rfl (yl_fieldAt Go.Proofs.Try.underlying28 rfl i22 i22n rfl (Rd.some g_0 (j := 0) rfl)) rfl ?_
        refine JH.gread rfl rfl rfl (yl_load1 Go.Proofs.Try.underlying22 rfl rfl (fun w hw => hFr1.arg g_0 hw) rfl) rfl ?_
        refine JH.gpure rfl rfl rfl (yl_len_slice Go.Proofs.Try.underlying22 rfl) rfl ?_
        refine JH.gpure rfl rfl rfl (yl_move rfl) rfl ?_
        refine JH.gpure rfl rfl rfl (yl_nilCheckAt rfl (Rd.some g_0 (j := 0) rfl)) rfl ?_
        refine JH.gpure rfl rfl rfl (yl_fieldAt Go.Proofs.Try.underlying28 rfl i2 i2n rfl (Rd.some g_0 (j := 0) rfl)) rfl ?_
        refine JH.gread rfl rfl rfl (yl_load1 Go.Proofs.Try.underlying2 rfl rfl (fun w hw => hFr1.arg g_0 hw) rfl) rfl ?_
        refine JH.gpure rfl rfl rfl (yl_move rfl) rfl ?_
        refine JH.gpure rfl rfl rfl (yl_nilCheckAt rfl (Rd.some g_0 (j := 0) rfl)) rfl ?_
        refine JH.gpure rfl rfl rfl (yl_fieldAt Go.Proofs.Try.underlying28 rfl i2 i2n rfl (Rd.some g_0 (j := 0) rfl)) rfl ?_
        refine JH.gread rfl rfl rfl (yl_load1 Go.Proofs.Try.underlying2 rfl rfl (fun w hw => hFr1.arg g_0 hw) rfl) rfl ?_
        obtain ⟨x6, hx6, hres⟩ := bind_some hres
        refine JH.gmust rfl rfl rfl (ef_call (T := T144 x6) Go.Proofs.Try.func144 rfl (by kernel_rfl) rfl (fun w hC => c144  hx6)) rfl rfl ?_
        rintro _ _ ⟨_, ⟨rfl, rfl⟩, rfl⟩
        refine JH.gpure rfl rfl rfl (yl_neq rfl rfl) rfl ?_
        refine JH.pure rfl (yl_pick_false rfl rfl) rfl ?_
        have he := Option.some.inj hres
        exact JH.weak [] K ⟨rfl, (by rw [← he]; rfl), trivial⟩ (by decide) rfl
  · intro K
    rcases cond_some hcb3 with ⟨hb, hres⟩ | ⟨hb, hres⟩
    · refine JH.set (d := 10) (v := .bool true) (congrArg (fun b => some (Value.bool b)) hb) ?_
      refine JH.gskip rfl rfl rfl rfl rfl rfl ?_
      refine JH.gskip rfl rfl rfl rfl rfl rfl ?_
      refine JH.gskip rfl rfl rfl rfl rfl rfl ?_
      refine JH.gskip rfl rfl rfl rfl rfl rfl ?_
      refine JH.gskip rfl rfl rfl rfl rfl rfl ?_
      refine JH.gskip rfl rfl rfl rfl rfl rfl ?_
      refine JH.pure rfl (yl_pick_true rfl rfl) rfl ?_
      have he := Option.some.inj hres
      exact JH.weak [] K ⟨rfl, (by rw [← he]; rfl), trivial⟩ (by decide) rfl
    · refine JH.set (d := 10) (v := .bool false) (congrArg (fun b => some (Value.bool b)) hb) ?_
      refine JH.gpure rfl rfl rfl (yl_move rfl) rfl ?_
      refine JH.gpure rfl rfl rfl (yl_nilCheckAt rfl (Rd.some g_0 (j := 0) rfl)) rfl ?_
      refine JH.gpure rfl rfl rfl (yl_fieldAt Go.Proofs.Try.underlying28 rfl i2 i2n rfl (Rd.some g_0 (j := 0) rfl)) rfl ?_
      refine JH.gread rfl rfl rfl (yl_load1 Go.Proofs.Try.underlying2 rfl rfl (fun w hw => hFr1.arg g_0 hw) rfl) rfl ?_
      obtain ⟨x4, hx4, hres⟩ := bind_some hres
      refine JH.gmust rfl rfl rfl (ef_call (T := T143 x4) Go.Proofs.Try.func143 rfl (by kernel_rfl) rfl (fun w hC => c143  hx4)) rfl rfl ?_
      rintro _ _ ⟨_, ⟨rfl, rfl⟩, rfl⟩
      refine JH.gpure rfl rfl rfl (yl_not rfl) rfl ?_
      refine JH.pure rfl (yl_pick_false rfl rfl) rfl ?_
      have he := Option.some.inj hres
      exact JH.weak [] K ⟨rfl, (by rw [← he]; rfl), trivial⟩ (by decide) rfl

/- spec.l03Next -/
def sh199 (q0 : SWalker) : Option (SPoint) := some (SPoint.mk (w64 (q0.At.X + q0.DX)) (w64 (q0.At.Y + q0.DY)))
def T199 (r : SPoint) (v : Value) (rs : List Own) : Prop := v = rets [.agg #[.int .i64 r.X, .int .i64 r.Y]] ∧ rs = []
set_option maxRecDepth 100000 in
theorem c199 {w : World} {q0 : SWalker} {r : SPoint} (hres : sh199 q0 = some r) : Calls Go.Proofs.Try.prog 199 [.agg #[.int .i64 q0.At.X, .int .i64 q0.At.Y, .int .i64 q0.DX, .int .i64 q0.DY]].toArray w (Ret w (T199 r)) := by
  unfold sh199 at hres
  refine calls_of (n := 16) (M := []) (es := []) Go.Proofs.Try.func199 rfl rfl rfl (Sep.nil _ _ _) ?_
  refine JX.seq ?_
  refine JX.region ?_
  refine JL.eff (ef_box rfl rfl) rfl ?_
  rintro _ _ ⟨g1, rfl, rfl⟩
  refine JL.eff (ef_alloc i35 i35z rfl) rfl ?_
  rintro _ _ ⟨g3, rfl, rfl⟩
  refine JL.nil ?_
  refine JE.code ?_
  refine JX.seq ?_
  refine JX.region ?_
  refine JL.val (yl_fieldAt (a := some _) Go.Proofs.Try.underlying126 rfl i35 i35n rfl rfl) rfl ?_
  refine JL.val (yl_fieldAt (a := some _) Go.Proofs.Try.underlying35 rfl i2 i2n rfl rfl) rfl ?_
  refine JL.val (yl_load1 Go.Proofs.Try.underlying2 rfl rfl (fun w hC => rd_box hC 0 rfl) rfl) rfl ?_
  refine JL.val (yl_fieldAt (a := some _) Go.Proofs.Try.underlying126 rfl i2 i2n rfl rfl) rfl ?_
  refine JL.val (yl_load1 Go.Proofs.Try.underlying2 rfl rfl (fun w hC => rd_box hC 0 rfl) rfl) rfl ?_
  refine JL.val (yl_add rfl rfl) rfl ?_
  refine JL.val (yl_fieldAt (a := some _) Go.Proofs.Try.underlying126 rfl i35 i35n rfl rfl) rfl ?_
  refine JL.val (yl_fieldAt (a := some _) Go.Proofs.Try.underlying35 rfl i2 i2n rfl rfl) rfl ?_
  refine JL.val (yl_load1 Go.Proofs.Try.underlying2 rfl rfl (fun w hC => rd_box hC 0 rfl) rfl) rfl ?_
  refine JL.val (yl_fieldAt (a := some _) Go.Proofs.Try.underlying126 rfl i2 i2n rfl rfl) rfl ?_
  refine JL.val (yl_load1 Go.Proofs.Try.underlying2 rfl rfl (fun w hC => rd_box hC 0 rfl) rfl) rfl ?_
  refine JL.val (yl_add rfl rfl) rfl ?_
  refine JL.val (yl_build rfl (fun w => bld35_0_1 (w64 (q0.At.X + q0.DX)) (w64 (q0.At.Y + q0.DY)) w)) rfl ?_
  refine JL.eff (ef_store_box (i := 1) (v := .agg #[.int .i64 (w64 (q0.At.X + q0.DX)), .int .i64 (w64 (q0.At.Y + q0.DY))]) i35 rfl rfl rfl (i35s).symm (Nat.le_of_ble_eq_true rfl) (by simp [Value.cells, Value.oneCell'])) rfl ?_
  rintro _ _ rfl
  refine JL.nil ?_
  refine JE.weak (env' := [(2, ptrAt (some ⟨g3, 0, none⟩) 0)]) (es' := [boxO 35 g3 [.int .i64 (w64 (q0.At.X + q0.DX)), .int .i64 (w64 (q0.At.Y + q0.DY))]]) [1] ?_ ⟨rfl, trivial⟩ (by decide) rfl
  refine JE.code ?_
  refine JX.ret ?_
  obtain rfl := Option.some.inj hres
  refine JE.ret (rs := [.cell 2 35]) (vs := [.agg #[.int .i64 (w64 (q0.At.X + q0.DX)), .int .i64 (w64 (q0.At.Y + q0.DY))]]) rfl ⟨rv_box 0 rfl rfl Go.Proofs.Try.underlying35 rfl i35 (i35s).symm, trivial⟩ ?_
  exact fun w' hb hs => ⟨_, _, ⟨rfl, rfl⟩, rfl, hb, hs.sel [] _ (by decide) rfl⟩

/- spec.l03Left -/
def sh172 (q0 : SWalker) : Option (SPoint × Int) := Option.bind (sh199 q0) fun x5 => bif q0.DX == 1 then (some (q0.At, x5.Y)) else (some (x5, q0.At.Y))
def T172 (r : SPoint × Int) (v : Value) (rs : List Own) : Prop := v = rets [.agg #[.int .i64 r.1.X, .int .i64 r.1.Y], .int .i64 r.2] ∧ rs = []
set_option maxRecDepth 100000 in
theorem c172 {w : World} {q0 : SWalker} {r : SPoint × Int} (hres : sh172 q0 = some r) : Calls Go.Proofs.Try.prog 172 [.agg #[.int .i64 q0.At.X, .int .i64 q0.At.Y, .int .i64 q0.DX, .int .i64 q0.DY]].toArray w (Ret w (T172 r)) := by
  unfold sh172 at hres
  refine calls_of (n := 18) (M := []) (es := []) Go.Proofs.Try.func172 rfl rfl rfl (Sep.nil _ _ _) ?_
  refine JX.seq ?_
  refine JX.region ?_
  refine JL.eff (ef_box rfl rfl) rfl ?_
  rintro _ _ ⟨g1, rfl, rfl⟩
  refine JL.eff (ef_alloc i35 i35z rfl) rfl ?_
  rintro _ _ ⟨g3, rfl, rfl⟩
  refine JL.val (yl_assign rfl) rfl ?_
  refine JL.nil ?_
  refine JE.code ?_
  refine JX.seq ?_
  refine JX.region ?_
  refine JL.val (yl_loadn Go.Proofs.Try.underlying126 rfl i126 rfl (fun w hC => rd_box hC 0 rfl) rfl (i126s).symm i126p) rfl ?_
  obtain ⟨x5, hx5, hres⟩ := bind_some hres
  refine JL.eff (ef_call (vs := [.agg #[.int .i64 q0.At.X, .int .i64 q0.At.Y, .int .i64 q0.DX, .int .i64 q0.DY]]) (T := T199 x5) Go.Proofs.Try.func199 rfl (by kernel_rfl) rfl (fun w hC => c199 (q0 := q0) hx5)) rfl ?_
  rintro _ _ ⟨_, ⟨rfl, rfl⟩, rfl⟩
  refine JL.eff (ef_alloc i35 i35z rfl) rfl ?_
  rintro _ _ ⟨g6, rfl, rfl⟩
  refine JL.eff (ef_store_box (i := 2) (v := .agg #[.int .i64 x5.X, .int .i64 x5.Y]) i35 rfl rfl rfl (i35s).symm (Nat.le_of_ble_eq_true rfl) (by simp [Value.cells, Value.oneCell'])) rfl ?_
  rintro _ _ rfl
  refine JL.nil ?_
  refine JE.weak (env' := [(1, ptrAt (some ⟨g1, 0, none⟩) 0), (2, ptrAt (some ⟨g3, 0, none⟩) 0), (4, ptrAt (some ⟨g6, 0, none⟩) 0)]) (es' := [boxO 126 g1 [.int .i64 q0.At.X, .int .i64 q0.At.Y, .int .i64 q0.DX, .int .i64 q0.DY], boxO 35 g3 [.int .i64 0, .int .i64 0], boxO 35 g6 [.int .i64 x5.X, .int .i64 x5.Y]]) [0, 1, 2] ?_ ⟨rfl, rfl, rfl, trivial⟩ (by decide) rfl
  refine JE.code ?_
  refine JX.seq ?_
  refine JX.seq ?_
  refine JX.region ?_
  refine JL.val (yl_fieldAt (a := some _) Go.Proofs.Try.underlying126 rfl i2 i2n rfl rfl) rfl ?_
  refine JL.val (yl_load1 Go.Proofs.Try.underlying2 rfl rfl (fun w hC => rd_box hC 0 rfl) rfl) rfl ?_
  refine JL.val (yl_eql rfl rfl) rfl ?_
  refine JL.nil ?_
  refine JE.code ?_
  rcases cond_some hres with ⟨hb, hres⟩ | ⟨hb, hres⟩
  · refine JX.condT rfl hb ?_
    refine JX.seq ?_
    refine JX.drawH [(0, .pure), (1, .read), (2, .pure), (3, .read), (4, .must), (5, .pure)] [4] [1] [0, 2] [boxO 35 g3 [.int .i64 0, .int .i64 0]] [boxO 126 g1 [.int .i64 q0.At.X, .int .i64 q0.At.Y, .int .i64 q0.DX, .int .i64 q0.DY], boxO 35 g6 [.int .i64 x5.X, .int .i64 x5.Y]] mixedP (by kernel_rfl) (by kernel_rfl) (by decide) rfl rfl ?_
    intro wrr8 Nr8 hFr8
    refine JH.pure rfl (yl_fieldAt (a := some _) Go.Proofs.Try.underlying126 rfl i35 i35n rfl rfl) rfl ?_
    refine JH.read rfl (yl_loadn Go.Proofs.Try.underlying35 rfl i35 rfl (fun w hw => hFr8.box 0 rfl rfl hw) rfl (i35s).symm i35p) rfl ?_
    refine JH.pure rfl (yl_fieldAt (a := some _) Go.Proofs.Try.underlying35 rfl i2 i2n rfl rfl) rfl ?_
    refine JH.read rfl (yl_load1 Go.Proofs.Try.underlying2 rfl rfl (fun w hw => hFr8.box 2 rfl rfl hw) rfl) rfl ?_
    refine JH.must rfl (ef_store_box (i := 0) (v := .agg #[.int .i64 q0.At.X, .int .i64 q0.At.Y]) i35 rfl rfl rfl (i35s).symm (Nat.le_of_ble_eq_true rfl) (by simp [Value.cells, Value.oneCell'])) rfl rfl ?_
    rintro _ _ rfl
    refine JH.pure rfl (yl_assign rfl) rfl ?_
    refine JH.nil ?_
    refine JE.weak (env' := [(2, ptrAt (some ⟨g3, 0, none⟩) 0), (3, .int .i64 x5.Y)]) (es' := [boxO 35 g3 [.int .i64 q0.At.X, .int .i64 q0.At.Y]]) [2] ?_ ⟨rfl, rfl, trivial⟩ (by decide) rfl
    refine JE.code ?_
    refine JX.ret ?_
    obtain rfl := Option.some.inj hres
    refine JE.ret (rs := [.cell 2 35, .tmp 3]) (vs := [.agg #[.int .i64 q0.At.X, .int .i64 q0.At.Y], .int .i64 x5.Y]) rfl ⟨rv_box 0 rfl rfl Go.Proofs.Try.underlying35 rfl i35 (i35s).symm, rfl, trivial⟩ ?_
    exact fun w' hb hs => ⟨_, _, ⟨rfl, rfl⟩, rfl, hb, hs.sel [] _ (by decide) rfl⟩
  · refine JX.condF rfl hb ?_
    refine JX.skip ?_
    refine JE.code ?_
    refine JX.seq ?_
    refine JX.drawH [(0, .read), (1, .pure), (2, .pure), (3, .read), (4, .must), (5, .pure)] [4] [1] [0, 2] [boxO 35 g3 [.int .i64 0, .int .i64 0]] [boxO 126 g1 [.int .i64 q0.At.X, .int .i64 q0.At.Y, .int .i64 q0.DX, .int .i64 q0.DY], boxO 35 g6 [.int .i64 x5.X, .int .i64 x5.Y]] mixedP (by kernel_rfl) (by kernel_rfl) (by decide) rfl rfl ?_
    intro wrr9 Nr9 hFr9
    refine JH.read rfl (yl_loadn Go.Proofs.Try.underlying35 rfl i35 rfl (fun w hw => hFr9.box 2 rfl rfl hw) rfl (i35s).symm i35p) rfl ?_
    refine JH.pure rfl (yl_fieldAt (a := some _) Go.Proofs.Try.underlying126 rfl i35 i35n rfl rfl) rfl ?_
    refine JH.pure rfl (yl_fieldAt (a := some _) Go.Proofs.Try.underlying35 rfl i2 i2n rfl rfl) rfl ?_
    refine JH.read rfl (yl_load1 Go.Proofs.Try.underlying2 rfl rfl (fun w hw => hFr9.box 0 rfl rfl hw) rfl) rfl ?_
    refine JH.must rfl (ef_store_box (i := 0) (v := .agg #[.int .i64 x5.X, .int .i64 x5.Y]) i35 rfl rfl rfl (i35s).symm (Nat.le_of_ble_eq_true rfl) (by simp [Value.cells, Value.oneCell'])) rfl rfl ?_
    rintro _ _ rfl
    refine JH.pure rfl (yl_assign rfl) rfl ?_
    refine JH.nil ?_
    refine JE.weak (env' := [(2, ptrAt (some ⟨g3, 0, none⟩) 0), (3, .int .i64 q0.At.Y)]) (es' := [boxO 35 g3 [.int .i64 x5.X, .int .i64 x5.Y]]) [2] ?_ ⟨rfl, rfl, trivial⟩ (by decide) rfl
    refine JE.code ?_
    refine JX.ret ?_
    obtain rfl := Option.some.inj hres
    refine JE.ret (rs := [.cell 2 35, .tmp 3]) (vs := [.agg #[.int .i64 x5.X, .int .i64 x5.Y], .int .i64 q0.At.Y]) rfl ⟨rv_box 0 rfl rfl Go.Proofs.Try.underlying35 rfl i35 (i35s).symm, rfl, trivial⟩ ?_
    exact fun w' hb hs => ⟨_, _, ⟨rfl, rfl⟩, rfl, hb, hs.sel [] _ (by decide) rfl⟩

/- spec.l03Segment -/
def sh117 (q0 : SPanel) (q1 : SWalker) : Option (Int) := Option.bind (sh172 q1) fun x3 => Option.bind (bif decide (x3.1.Y < x3.2) then (some (w64 ((w64 ((w64 ((w64 ((w64 (x3.1.X * 2)) * q0.H)) + x3.1.Y)) - 1)) + 1))) else (some (w64 ((w64 ((w64 ((w64 (x3.1.X * 2)) * q0.H)) + x3.1.Y)) - 1)))) fun j7 => (some j7)
def T117 (r : Int) (v : Value) (rs : List Own) : Prop := v = rets [.int .i64 r] ∧ rs = []
set_option maxRecDepth 100000 in
theorem c117 {w : World} {q0 : SPanel} {a_0 : Option Addr} {n_0 : Nat} {a_0_2 : Option Addr} {n_0_2 c_0_2 : Nat} (g_0 : RdAt w a_0 n_0 [.int .i64 q0.W, .int .i64 q0.H, .slice a_0_2 n_0_2 c_0_2]) (g_0_2 : Rd w a_0_2 (eI64.fl q0.Breaks)) (l_0_2 : q0.Breaks.length = n_0_2) (k_0_2 : n_0_2 ≤ c_0_2) {q1 : SWalker} {r : Int} (hres : sh117 q0 q1 = some r) : Calls Go.Proofs.Try.prog 117 [ptrAt a_0 n_0, .agg #[.int .i64 q1.At.X, .int .i64 q1.At.Y, .int .i64 q1.DX, .int .i64 q1.DY]].toArray w (Ret w (T117 r)) := by
  subst l_0_2
  obtain ⟨b_0, e_0, g_0⟩ := g_0.norm0
  rw [e_0]
  unfold sh117 at hres
  refine calls_of (n := 32) (M := []) (es := []) Go.Proofs.Try.func117 rfl rfl rfl (Sep.nil _ _ _) ?_
  refine JX.seq ?_
  refine JX.region ?_
  refine JL.eff (ef_box rfl rfl) rfl ?_
  rintro _ _ ⟨g1, rfl, rfl⟩
  refine JL.val (yl_assign rfl) rfl ?_
  refine JL.nil ?_
  refine JE.code ?_
  refine JX.seq ?_
  refine JX.region ?_
  refine JL.val (yl_loadn Go.Proofs.Try.underlying126 rfl i126 rfl (fun w hC => rd_box hC 0 rfl) rfl (i126s).symm i126p) rfl ?_
  obtain ⟨x3, hx3, hres⟩ := bind_some hres
  refine JL.eff (ef_call (vs := [.agg #[.int .i64 q1.At.X, .int .i64 q1.At.Y, .int .i64 q1.DX, .int .i64 q1.DY]]) (T := T172 x3) Go.Proofs.Try.func172 rfl (by kernel_rfl) rfl (fun w hC => c172 (q0 := q1) hx3)) rfl ?_
  rintro _ _ ⟨_, ⟨rfl, rfl⟩, rfl⟩
  refine JL.val (yl_move rfl) rfl ?_
  refine JL.val (yl_extract rfl rfl) rfl ?_
  refine JL.val (yl_extract rfl rfl) rfl ?_
  refine JL.eff (ef_alloc i35 i35z rfl) rfl ?_
  rintro _ _ ⟨g4, rfl, rfl⟩
  refine JL.eff (ef_store_box (i := 1) (v := .agg #[.int .i64 x3.1.X, .int .i64 x3.1.Y]) i35 rfl rfl rfl (i35s).symm (Nat.le_of_ble_eq_true rfl) (by simp [Value.cells, Value.oneCell'])) rfl ?_
  rintro _ _ rfl
  refine JL.val (yl_assign rfl) rfl ?_
  refine JL.nil ?_
  refine JE.weak (env' := [(0, ptrAt b_0 0), (5, ptrAt (some ⟨g4, 0, none⟩) 0), (6, .int .i64 x3.2)]) (es' := [boxO 35 g4 [.int .i64 x3.1.X, .int .i64 x3.1.Y]]) [1] ?_ ⟨rfl, rfl, rfl, trivial⟩ (by decide) rfl
  refine JE.code ?_
  refine JX.seq ?_
  refine JX.drawH [(0, .pure), (1, .read), (2, .pure), (3, .pure), (4, .pure), (5, .pure), (6, .read), (7, .pure), (8, .pure), (9, .read), (10, .pure), (11, .pure), (12, .pure)] [] [] [0] [] [boxO 35 g4 [.int .i64 x3.1.X, .int .i64 x3.1.Y]] mixedP (by kernel_rfl) (by kernel_rfl) (by decide) rfl rfl ?_
  intro wrr6 Nr6 hFr6
  refine JH.pure rfl (yl_fieldAt (a := some _) Go.Proofs.Try.underlying35 rfl i2 i2n rfl rfl) rfl ?_
  refine JH.read rfl (yl_load1 Go.Proofs.Try.underlying2 rfl rfl (fun w hw => hFr6.box 0 rfl rfl hw) rfl) rfl ?_
  refine JH.pure rfl (yl_mul rfl rfl) rfl ?_
  refine JH.pure rfl (yl_move rfl) rfl ?_
  refine JH.pure rfl (yl_nilCheckAt rfl (Rd.some g_0 (j := 0) rfl)) rfl ?_
  refine JH.pure rfl (yl_fieldAt Go.Proofs.Try.underlying28 rfl i2 i2n rfl (Rd.some g_0 (j := 0) rfl)) rfl ?_
  refine JH.read rfl (yl_load1 Go.Proofs.Try.underlying2 rfl rfl (fun w hw => hFr6.arg g_0 hw) rfl) rfl ?_
  refine JH.pure rfl (yl_mul rfl rfl) rfl ?_
  refine JH.pure rfl (yl_fieldAt (a := some _) Go.Proofs.Try.underlying35 rfl i2 i2n rfl rfl) rfl ?_
  refine JH.read rfl (yl_load1 Go.Proofs.Try.underlying2 rfl rfl (fun w hw => hFr6.box 0 rfl rfl hw) rfl) rfl ?_
  refine JH.pure rfl (yl_add rfl rfl) rfl ?_
  refine JH.pure rfl (yl_sub rfl rfl) rfl ?_
  refine JH.pure rfl (yl_assign rfl) rfl ?_
  refine JH.nil ?_
  refine JE.weak (env' := [(5, ptrAt (some ⟨g4, 0, none⟩) 0), (6, .int .i64 x3.2), (7, .int .i64 (w64 ((w64 ((w64 ((w64 (x3.1.X * 2)) * q0.H)) + x3.1.Y)) - 1)))]) (es' := [boxO 35 g4 [.int .i64 x3.1.X, .int .i64 x3.1.Y]]) [0] ?_ ⟨rfl, rfl, rfl, trivial⟩ (by decide) rfl
  refine JE.code ?_
  refine JX.seq ?_
  refine JX.seq ?_
  refine JX.region ?_
  refine JL.val (yl_move rfl) rfl ?_
  refine JL.val (yl_fieldAt (a := some _) Go.Proofs.Try.underlying35 rfl i2 i2n rfl rfl) rfl ?_
  refine JL.val (yl_load1 Go.Proofs.Try.underlying2 rfl rfl (fun w hC => rd_box hC 0 rfl) rfl) rfl ?_
  refine JL.val (yl_gtr rfl rfl) rfl ?_
  refine JL.nil ?_
  refine JE.weak (env' := [(7, .int .i64 (w64 ((w64 ((w64 ((w64 (x3.1.X * 2)) * q0.H)) + x3.1.Y)) - 1))), (28, .bool (decide (x3.1.Y < x3.2)))]) (es' := []) [] ?_ ⟨rfl, rfl, trivial⟩ (by decide) rfl
  refine JE.code ?_
  obtain ⟨j7, hj7, hresj7⟩ := bind_some hres
  refine JX.cut (K := fun J => J [(7, .int .i64 j7)] []) ?_ ?_
  · have hres := hresj7
    refine JE.code ?_
    refine JX.seq ?_
    refine JX.region ?_
    refine JL.val (yl_move rfl) rfl ?_
    refine JL.val (yl_assign rfl) rfl ?_
    refine JL.nil ?_
    refine JE.code ?_
    refine JX.ret ?_
    obtain rfl := Option.some.inj hres
    refine JE.ret (rs := [.tmp 4]) (vs := [.int .i64 j7]) rfl ⟨rfl, trivial⟩ ?_
    exact fun w' hb hs => ⟨_, _, ⟨rfl, rfl⟩, rfl, hb, hs.sel [] _ (by decide) rfl⟩
  · intro K
    rcases cond_some hj7 with ⟨hb, hres⟩ | ⟨hb, hres⟩
    · refine JX.condT rfl hb ?_
      refine JX.region ?_
      refine JL.val (yl_move rfl) rfl ?_
      refine JL.val (yl_add rfl rfl) rfl ?_
      refine JL.val (yl_assign rfl) rfl ?_
      refine JL.nil ?_
      have hj := Option.some.inj hres
      exact JE.weak [] (K) ⟨(by subst hj; rfl), trivial⟩ (by decide) (by subst hj; rfl)
    · refine JX.condF rfl hb ?_
      refine JX.skip ?_
      have hj := Option.some.inj hres
      exact JE.weak [] (K) ⟨(by subst hj; rfl), trivial⟩ (by decide) (by subst hj; rfl)

/- spec.l02Edge -/
def sh178 (q0 : SPanel) (q1 : SPoint) : Option (Bool) := some ((((q1.X == 0) || (q1.Y == 0)) || (q1.X == (w64 (2 * q0.W)))) || (q1.Y == (w64 (2 * q0.H))))
def T178 (r : Bool) (v : Value) (rs : List Own) : Prop := v = rets [.bool r] ∧ rs = []
set_option maxRecDepth 100000 in
theorem c178 {w : World} {q0 : SPanel} {a_0 : Option Addr} {n_0 : Nat} {a_0_2 : Option Addr} {n_0_2 c_0_2 : Nat} (g_0 : RdAt w a_0 n_0 [.int .i64 q0.W, .int .i64 q0.H, .slice a_0_2 n_0_2 c_0_2]) (g_0_2 : Rd w a_0_2 (eI64.fl q0.Breaks)) (l_0_2 : q0.Breaks.length = n_0_2) (k_0_2 : n_0_2 ≤ c_0_2) {q1 : SPoint} {r : Bool} (hres : sh178 q0 q1 = some r) : Calls Go.Proofs.Try.prog 178 [ptrAt a_0 n_0, .agg #[.int .i64 q1.X, .int .i64 q1.Y]].toArray w (Ret w (T178 r)) := by
  subst l_0_2
  obtain ⟨b_0, e_0, g_0⟩ := g_0.norm0
  rw [e_0]
  unfold sh178 at hres
  refine calls_of (n := 33) (M := []) (es := []) Go.Proofs.Try.func178 rfl rfl rfl (Sep.nil _ _ _) ?_
  refine JX.seq ?_
  refine JX.region ?_
  refine JL.eff (ef_box rfl rfl) rfl ?_
  rintro _ _ ⟨g1, rfl, rfl⟩
  refine JL.val (yl_assign rfl) rfl ?_
  refine JL.nil ?_
  refine JE.code ?_
  refine JX.seq ?_
  refine JX.drawH [(0, .pure), (1, .read), (2, .pure), (3, .pure), (4, .pure), (5, .read), (6, .pure), (7, .pure), (8, .pure), (9, .pure), (10, .read), (11, .pure), (12, .pure), (13, .pure), (14, .read), (15, .pure), (16, .pure), (17, .pure), (18, .pure), (19, .pure), (20, .read), (21, .pure), (22, .pure), (23, .pure), (24, .read), (25, .pure), (26, .pure), (27, .pure), (28, .pure)] [] [] [0] [] [boxO 35 g1 [.int .i64 q1.X, .int .i64 q1.Y]] mixedP (by kernel_rfl) (by kernel_rfl) (by decide) rfl rfl ?_
  intro wrr3 Nr3 hFr3
  refine JH.pure rfl (yl_fieldAt (a := some _) Go.Proofs.Try.underlying35 rfl i2 i2n rfl rfl) rfl ?_
  refine JH.read rfl (yl_load1 Go.Proofs.Try.underlying2 rfl rfl (fun w hw => hFr3.box 0 rfl rfl hw) rfl) rfl ?_
  refine JH.pure rfl (yl_eql rfl rfl) rfl ?_
  refine JH.pure rfl (yl_move rfl) rfl ?_
  refine JH.cut (K := fun J => J [(0, ptrAt b_0 0), (3, ptrAt (some ⟨g1, 0, none⟩) 0), (12, .bool ((q1.X == 0) || (q1.Y == 0)))] []) 4 ?_ ?_
  · refine JH.pure rfl (yl_move rfl) rfl ?_
    refine JH.cut (K := fun J => J [(0, ptrAt b_0 0), (3, ptrAt (some ⟨g1, 0, none⟩) 0), (22, .bool (((q1.X == 0) || (q1.Y == 0)) || (q1.X == (w64 (2 * q0.W)))))] []) 9 ?_ ?_
    · refine JH.pure rfl (yl_move rfl) rfl ?_
      refine JH.cut (K := fun J => J [(32, .bool ((((q1.X == 0) || (q1.Y == 0)) || (q1.X == (w64 (2 * q0.W)))) || (q1.Y == (w64 (2 * q0.H)))))] []) 9 ?_ ?_
      · refine JH.pure rfl (yl_assign rfl) rfl ?_
        refine JH.nil ?_
        refine JE.weak (env' := [(4, .bool ((((q1.X == 0) || (q1.Y == 0)) || (q1.X == (w64 (2 * q0.W)))) || (q1.Y == (w64 (2 * q0.H)))))]) (es' := []) [] ?_ ⟨rfl, trivial⟩ (by decide) rfl
        refine JE.code ?_
        refine JX.ret ?_
        obtain rfl := Option.some.inj hres
        refine JE.ret (rs := [.tmp 4]) (vs := [.bool ((((q1.X == 0) || (q1.Y == 0)) || (q1.X == (w64 (2 * q0.W)))) || (q1.Y == (w64 (2 * q0.H))))]) rfl ⟨rfl, trivial⟩ ?_
        exact fun w' hb hs => ⟨_, _, ⟨rfl, rfl⟩, rfl, hb, hs.sel [] _ (by decide) rfl⟩
      · intro K
        rcases Bool.eq_false_or_eq_true (((q1.X == 0) || (q1.Y == 0)) || (q1.X == (w64 (2 * q0.W)))) with hb | hb
        · refine JH.set (d := 23) (v := .bool true) (congrArg (fun b => some (Value.bool b)) hb) ?_
          refine JH.gskip rfl rfl rfl rfl rfl rfl ?_
          refine JH.gskip rfl rfl rfl rfl rfl rfl ?_
          refine JH.gskip rfl rfl rfl rfl rfl rfl ?_
          refine JH.gskip rfl rfl rfl rfl rfl rfl ?_
          refine JH.gskip rfl rfl rfl rfl rfl rfl ?_
          refine JH.gskip rfl rfl rfl rfl rfl rfl ?_
          refine JH.gskip rfl rfl rfl rfl rfl rfl ?_
          refine JH.gskip rfl rfl rfl rfl rfl rfl ?_
          refine JH.pure rfl (yl_pick_true rfl rfl) rfl ?_
          exact JH.weak [] K ⟨(by rw [hb]; rfl), trivial⟩ (by decide) rfl
        · refine JH.set (d := 23) (v := .bool false) (congrArg (fun b => some (Value.bool b)) hb) ?_
          refine JH.gpure rfl rfl rfl (yl_fieldAt (a := some _) Go.Proofs.Try.underlying35 rfl i2 i2n rfl rfl) rfl ?_
          refine JH.gread rfl rfl rfl (yl_load1 Go.Proofs.Try.underlying2 rfl rfl (fun w hw => hFr3.box 0 rfl rfl hw) rfl) rfl ?_
          refine JH.gpure rfl rfl rfl (yl_move rfl) rfl ?_
          refine JH.gpure rfl rfl rfl (yl_nilCheckAt rfl (Rd.some g_0 (j := 0) rfl)) rfl ?_
          refine JH.gpure rfl rfl rfl (yl_fieldAt Go.Proofs.Try.underlying28 rfl i2 i2n rfl (Rd.some g_0 (j := 0) rfl)) rfl ?_
          refine JH.gread rfl rfl rfl (yl_load1 Go.Proofs.Try.underlying2 rfl rfl (fun w hw => hFr3.arg g_0 hw) rfl) rfl ?_
          refine JH.gpure rfl rfl rfl (yl_mul rfl rfl) rfl ?_
          refine JH.gpure rfl rfl rfl (yl_eql rfl rfl) rfl ?_
          refine JH.pure rfl (yl_pick_false rfl rfl) rfl ?_
          exact JH.weak [] K ⟨(by rw [hb]; rfl), trivial⟩ (by decide) rfl
    · intro K
      rcases Bool.eq_false_or_eq_true ((q1.X == 0) || (q1.Y == 0)) with hb | hb
      · refine JH.set (d := 13) (v := .bool true) (congrArg (fun b => some (Value.bool b)) hb) ?_
        refine JH.gskip rfl rfl rfl rfl rfl rfl ?_
        refine JH.gskip rfl rfl rfl rfl rfl rfl ?_
        refine JH.gskip rfl rfl rfl rfl rfl rfl ?_
        refine JH.gskip rfl rfl rfl rfl rfl rfl ?_
        refine JH.gskip rfl rfl rfl rfl rfl rfl ?_
        refine JH.gskip rfl rfl rfl rfl rfl rfl ?_
        refine JH.gskip rfl rfl rfl rfl rfl rfl ?_
        refine JH.gskip rfl rfl rfl rfl rfl rfl ?_
        refine JH.pure rfl (yl_pick_true rfl rfl) rfl ?_
        exact JH.weak [] K ⟨rfl, rfl, (by rw [hb]; rfl), trivial⟩ (by decide) rfl
      · refine JH.set (d := 13) (v := .bool false) (congrArg (fun b => some (Value.bool b)) hb) ?_
        refine JH.gpure rfl rfl rfl (yl_fieldAt (a := some _) Go.Proofs.Try.underlying35 rfl i2 i2n rfl rfl) rfl ?_
        refine JH.gread rfl rfl rfl (yl_load1 Go.Proofs.Try.underlying2 rfl rfl (fun w hw => hFr3.box 0 rfl rfl hw) rfl) rfl ?_
        refine JH.gpure rfl rfl rfl (yl_move rfl) rfl ?_
        refine JH.gpure rfl rfl rfl (yl_nilCheckAt rfl (Rd.some g_0 (j := 0) rfl)) rfl ?_
        refine JH.gpure rfl rfl rfl (yl_fieldAt Go.Proofs.Try.underlying28 rfl i2 i2n rfl (Rd.some g_0 (j := 0) rfl)) rfl ?_
        refine JH.gread rfl rfl rfl (yl_load1 Go.Proofs.Try.underlying2 rfl rfl (fun w hw => hFr3.arg g_0 hw) rfl) rfl ?_
        refine JH.gpure rfl rfl rfl (yl_mul rfl rfl) rfl ?_
        refine JH.gpure rfl rfl rfl (yl_eql rfl rfl) rfl ?_
        refine JH.pure rfl (yl_pick_false rfl rfl) rfl ?_
        exact JH.weak [] K ⟨rfl, rfl, (by rw [hb]; rfl), trivial⟩ (by decide) rfl
  · intro K
    rcases Bool.eq_false_or_eq_true (q1.X == 0) with hb | hb
    · refine JH.set (d := 8) (v := .bool true) (congrArg (fun b => some (Value.bool b)) hb) ?_
      refine JH.gskip rfl rfl rfl rfl rfl rfl ?_
      refine JH.gskip rfl rfl rfl rfl rfl rfl ?_
      refine JH.gskip rfl rfl rfl rfl rfl rfl ?_
      refine JH.pure rfl (yl_pick_true rfl rfl) rfl ?_
      exact JH.weak [] K ⟨rfl, rfl, (by rw [hb]; rfl), trivial⟩ (by decide) rfl
    · refine JH.set (d := 8) (v := .bool false) (congrArg (fun b => some (Value.bool b)) hb) ?_
      refine JH.gpure rfl rfl rfl (yl_fieldAt (a := some _) Go.Proofs.Try.underlying35 rfl i2 i2n rfl rfl) rfl ?_
      refine JH.gread rfl rfl rfl (yl_load1 Go.Proofs.Try.underlying2 rfl rfl (fun w hw => hFr3.box 0 rfl rfl hw) rfl) rfl ?_
      refine JH.gpure rfl rfl rfl (yl_eql rfl rfl) rfl ?_
      refine JH.pure rfl (yl_pick_false rfl rfl) rfl ?_
      exact JH.weak [] K ⟨rfl, rfl, (by rw [hb]; rfl), trivial⟩ (by decide) rfl

/- spec.l02Row -/
def sh182_1 (q0 : SPanel) (q1 : Int) : (Int × Int) → Option ((Int × Int) ⊕ (Int))
  | (x1, x2) => bif decide (x2 < q1) then (Option.bind (bif (x2.tmod 2) == 1 then (some (w64 ((w64 (x1 + q0.W)) - 1))) else (some (w64 (x1 + q0.W)))) fun j3 => (some (.inl (j3, w64 (x2 + 1))))) else (some (.inr x1))
def sh182 (q0 : SPanel) (q1 : Int) : Option (Int) := Option.bind (iter (sh182_1 q0 q1) (0, 1)) fun b1 => (some b1)
def T182 (r : Int) (v : Value) (rs : List Own) : Prop := v = rets [.int .i64 r] ∧ rs = []
set_option maxRecDepth 100000 in
theorem c182 {w : World} {q0 : SPanel} {a_0 : Option Addr} {n_0 : Nat} {a_0_2 : Option Addr} {n_0_2 c_0_2 : Nat} (g_0 : RdAt w a_0 n_0 [.int .i64 q0.W, .int .i64 q0.H, .slice a_0_2 n_0_2 c_0_2]) (g_0_2 : Rd w a_0_2 (eI64.fl q0.Breaks)) (l_0_2 : q0.Breaks.length = n_0_2) (k_0_2 : n_0_2 ≤ c_0_2) {q1 : Int} {r : Int} (hres : sh182 q0 q1 = some r) : Calls Go.Proofs.Try.prog 182 [ptrAt a_0 n_0, .int .i64 q1].toArray w (Ret w (T182 r)) := by
  subst l_0_2
  obtain ⟨b_0, e_0, g_0⟩ := g_0.norm0
  rw [e_0]
  unfold sh182 at hres
  refine calls_of (n := 24) (M := []) (es := []) Go.Proofs.Try.func182 rfl rfl rfl (Sep.nil _ _ _) ?_
  refine JX.seq ?_
  refine JX.region ?_
  refine JL.val (yl_assign rfl) rfl ?_
  refine JL.nil ?_
  refine JE.code ?_
  refine JX.seq ?_
  refine JX.region ?_
  refine JL.val (yl_assign rfl) rfl ?_
  refine JL.nil ?_
  refine JE.code ?_
  refine JX.seq ?_
  refine JX.seq ?_
  refine JX.region ?_
  refine JL.val (yl_assign rfl) rfl ?_
  refine JL.nil ?_
  refine JE.code ?_
  refine JX.block ?_
  obtain ⟨y1, hy1, hresO1⟩ := bind_some hres
  refine JX.loop (I := fun (s1 : Int × Int) aa ww => St w [] 24 [(0, ptrAt b_0 0), (1, .int .i64 q1), (5, .int .i64 s1.1), (6, .int .i64 s1.2)] [] aa ww) (sh182_1 q0 q1) hy1 (fun a w h => h.weak ⟨rfl, rfl, rfl, rfl, trivial⟩ [] (by decide) rfl) ?_
  rintro ⟨x1, x2⟩ o1 hres hox1 aa ww hS
  refine (?_ : JX Go.Proofs.Try.prog w [] 24 _ _ [(0, ptrAt b_0 0), (1, .int .i64 q1), (5, .int .i64 x1), (6, .int .i64 x2)] [] _) aa ww hS
  clear hS
  simp only [sh182_1] at hres
  refine JX.seq ?_
  refine JX.seq ?_
  refine JX.region ?_
  refine JL.val (yl_move rfl) rfl ?_
  refine JL.val (yl_move rfl) rfl ?_
  refine JL.val (yl_lss rfl rfl) rfl ?_
  refine JL.nil ?_
  refine JE.code ?_
  rcases cond_some hres with ⟨hb, hres⟩ | ⟨hb, hres⟩
  · refine JX.condT rfl hb ?_
    refine JX.skip ?_
    refine JE.code ?_
    refine JX.seq ?_
    refine JX.block ?_
    refine JX.seq ?_
    refine JX.region ?_
    refine JL.val (yl_move rfl) rfl ?_
    refine JL.val (yl_move rfl) rfl ?_
    refine JL.val (yl_nilCheckAt rfl (Rd.some g_0 (j := 0) rfl)) rfl ?_
    refine JL.val (yl_fieldAt Go.Proofs.Try.underlying28 rfl i2 i2n rfl (Rd.some g_0 (j := 0) rfl)) rfl ?_
    refine JL.val (yl_load1 Go.Proofs.Try.underlying2 rfl rfl (fun w hC => rd_arg g_0 hC) rfl) rfl ?_
    refine JL.val (yl_add rfl rfl) rfl ?_
    refine JL.val (yl_assign rfl) rfl ?_
    refine JL.nil ?_
    refine JE.weak (env' := [(0, ptrAt b_0 0), (1, .int .i64 q1), (5, .int .i64 (w64 (x1 + q0.W))), (6, .int .i64 x2)]) (es' := []) [] ?_ ⟨rfl, rfl, rfl, rfl, trivial⟩ (by decide) rfl
    refine JE.code ?_
    refine JX.seq ?_
    refine JX.region ?_
    refine JL.val (yl_move rfl) rfl ?_
    refine JL.val (yl_rem rfl rfl (by decide)) rfl ?_
    refine JL.val (yl_eql rfl rfl) rfl ?_
    refine JL.nil ?_
    refine JE.code ?_
    obtain ⟨j3, hj3, hresj3⟩ := bind_some hres
    refine JX.cut (K := fun J => J [(0, ptrAt b_0 0), (1, .int .i64 q1), (5, .int .i64 j3), (6, .int .i64 x2)] []) ?_ ?_
    · have hres := hresj3
      refine JE.code ?_
      refine JX.region ?_
      refine JL.val (yl_move rfl) rfl ?_
      refine JL.val (yl_add rfl rfl) rfl ?_
      refine JL.val (yl_assign rfl) rfl ?_
      refine JL.nil ?_
      refine JE.cont hres ?_
      exact fun a w h => h.weak ⟨rfl, rfl, rfl, rfl, trivial⟩ [] (by decide) rfl
    · intro K
      rcases cond_some hj3 with ⟨hb, hres⟩ | ⟨hb, hres⟩
      · refine JX.condT rfl hb ?_
        refine JX.region ?_
        refine JL.val (yl_move rfl) rfl ?_
        refine JL.val (yl_sub rfl rfl) rfl ?_
        refine JL.val (yl_assign rfl) rfl ?_
        refine JL.nil ?_
        have hj := Option.some.inj hres
        exact JE.weak [] (K) ⟨(by subst hj; rfl), (by subst hj; rfl), (by subst hj; rfl), (by subst hj; rfl), trivial⟩ (by decide) (by subst hj; rfl)
      · refine JX.condF rfl hb ?_
        refine JX.skip ?_
        have hj := Option.some.inj hres
        exact JE.weak [] (K) ⟨(by subst hj; rfl), (by subst hj; rfl), (by subst hj; rfl), (by subst hj; rfl), trivial⟩ (by decide) (by subst hj; rfl)
  · refine JX.condF rfl hb ?_
    refine JX.exit ?_
    refine JE.qb rfl ?_
    obtain ⟨b1, hb1⟩ : ∃ b : Int, b = x1 := ⟨_, rfl⟩
    have hy1 : b1 = y1 := by rw [hb1]; exact hox1 _ (Option.some.inj hres).symm
    have hres := hresO1
    rw [← hy1] at hres
    refine JE.weak (env' := [(5, .int .i64 b1)]) (es' := []) [] ?_ ⟨(by subst hb1; rfl), trivial⟩ (by decide) (by subst hb1; rfl)
    refine JE.code ?_
    refine JX.seq ?_
    refine JX.region ?_
    refine JL.val (yl_move rfl) rfl ?_
    refine JL.val (yl_assign rfl) rfl ?_
    refine JL.nil ?_
    refine JE.code ?_
    refine JX.ret ?_
    obtain rfl := Option.some.inj hres
    refine JE.ret (rs := [.tmp 4]) (vs := [.int .i64 b1]) rfl ⟨rfl, trivial⟩ ?_
    exact fun w' hb hs => ⟨_, _, ⟨rfl, rfl⟩, rfl, hb, hs.sel [] _ (by decide) rfl⟩

/- spec.l02Number -/
def sh179 (q0 : SPanel) (q1 : SPoint) : Option (Int) := Option.bind (sh182 q0 q1.Y) fun x4 => some (w64 (x4 + (w64 ((w64 (q1.X - 1)).tdiv 2))))
def T179 (r : Int) (v : Value) (rs : List Own) : Prop := v = rets [.int .i64 r] ∧ rs = []
set_option maxRecDepth 100000 in
theorem c179 {w : World} {q0 : SPanel} {a_0 : Option Addr} {n_0 : Nat} {a_0_2 : Option Addr} {n_0_2 c_0_2 : Nat} (g_0 : RdAt w a_0 n_0 [.int .i64 q0.W, .int .i64 q0.H, .slice a_0_2 n_0_2 c_0_2]) (g_0_2 : Rd w a_0_2 (eI64.fl q0.Breaks)) (l_0_2 : q0.Breaks.length = n_0_2) (k_0_2 : n_0_2 ≤ c_0_2) {q1 : SPoint} {r : Int} (hres : sh179 q0 q1 = some r) : Calls Go.Proofs.Try.prog 179 [ptrAt a_0 n_0, .agg #[.int .i64 q1.X, .int .i64 q1.Y]].toArray w (Ret w (T179 r)) := by
  subst l_0_2
  obtain ⟨b_0, e_0, g_0⟩ := g_0.norm0
  rw [e_0]
  unfold sh179 at hres
  refine calls_of (n := 14) (M := []) (es := []) Go.Proofs.Try.func179 rfl rfl rfl (Sep.nil _ _ _) ?_
  refine JX.seq ?_
  refine JX.region ?_
  refine JL.eff (ef_box rfl rfl) rfl ?_
  rintro _ _ ⟨g1, rfl, rfl⟩
  refine JL.val (yl_assign rfl) rfl ?_
  refine JL.nil ?_
  refine JE.code ?_
  refine JX.seq ?_
  refine JX.drawH [(0, .pure), (1, .pure), (2, .read), (4, .pure), (5, .read), (6, .pure), (7, .pure), (3, .must), (8, .pure), (9, .pure)] [] [] [0] [] [boxO 35 g1 [.int .i64 q1.X, .int .i64 q1.Y]] mixedP (by kernel_rfl) (by kernel_rfl) (by decide) rfl rfl ?_
  intro wrr3 Nr3 hFr3
  refine JH.pure rfl (yl_move rfl) rfl ?_
  refine JH.pure rfl (yl_fieldAt (a := some _) Go.Proofs.Try.underlying35 rfl i2 i2n rfl rfl) rfl ?_
  refine JH.read rfl (yl_load1 Go.Proofs.Try.underlying2 rfl rfl (fun w hw => hFr3.box 0 rfl rfl hw) rfl) rfl ?_
  refine JH.pure rfl (yl_fieldAt (a := some _) Go.Proofs.Try.underlying35 rfl i2 i2n rfl rfl) rfl ?_
  refine JH.read rfl (yl_load1 Go.Proofs.Try.underlying2 rfl rfl (fun w hw => hFr3.box 0 rfl rfl hw) rfl) rfl ?_
  refine JH.pure rfl (yl_sub rfl rfl) rfl ?_
  refine JH.pure rfl (yl_quo rfl rfl (by decide)) rfl ?_
  obtain ⟨x4, hx4, hres⟩ := bind_some hres
  refine JH.must rfl (ef_call (T := T182 x4) Go.Proofs.Try.func182 rfl (by kernel_rfl) rfl (fun w hC => c182 (RdAt.of0 (hFr3.arg g_0 hC.1)) (hFr3.arg g_0_2 hC.1) rfl k_0_2 hx4)) rfl rfl ?_
  rintro _ _ ⟨_, ⟨rfl, rfl⟩, rfl⟩
  refine JH.pure rfl (yl_add rfl rfl) rfl ?_
  refine JH.pure rfl (yl_assign rfl) rfl ?_
  refine JH.nil ?_
  refine JE.weak (env' := [(4, .int .i64 (w64 (x4 + (w64 ((w64 (q1.X - 1)).tdiv 2)))))]) (es' := []) [] ?_ ⟨rfl, trivial⟩ (by decide) rfl
  refine JE.code ?_
  refine JX.ret ?_
  obtain rfl := Option.some.inj hres
  refine JE.ret (rs := [.tmp 4]) (vs := [.int .i64 (w64 (x4 + (w64 ((w64 (q1.X - 1)).tdiv 2))))]) rfl ⟨rfl, trivial⟩ ?_
  exact fun w' hb hs => ⟨_, _, ⟨rfl, rfl⟩, rfl, hb, hs.sel [] _ (by decide) rfl⟩

/- spec.l03Step -/
def sh198 (q0 : SPanel) (q1 : SWalker) : Option (SWalker) := Option.bind (sh199 q1) fun x5 => Option.bind (bif (x5.X == 0) || (x5.X == (w64 (2 * q0.W))) then (some (SWalker.mk x5 (w64 (0 - q1.DX)) q1.DY)) else (some (SWalker.mk x5 q1.DX q1.DY))) fun j11 => (Option.bind (bif (x5.Y == 0) || (x5.Y == (w64 (2 * q0.H))) then (some (SWalker.mk j11.At j11.DX (w64 (0 - j11.DY)))) else (some j11)) fun j13 => (Option.bind (sh178 q0 x5) fun x14 => Option.bind (bif !x14 then (Option.bind (sh179 q0 x5) fun x17 => Option.bind (getI q0.Breaks x17) fun x18 => Option.bind (bif x18 == 1 then (some (SWalker.mk j13.At (w64 (0 - j13.DX)) j13.DY)) else (Option.bind (bif x18 == 2 then (some (SWalker.mk j13.At j13.DX (w64 (0 - j13.DY)))) else (some j13)) fun j20 => (some j20))) fun j19 => (some j19)) else (some j13)) fun j15 => (some j15)))
def T198 (r : SWalker) (v : Value) (rs : List Own) : Prop := v = rets [.agg #[.int .i64 r.At.X, .int .i64 r.At.Y, .int .i64 r.DX, .int .i64 r.DY]] ∧ rs = []
set_option maxRecDepth 100000 in
set_option maxHeartbeats 1000000 in
theorem c198 {w : World} {q0 : SPanel} {a_0 : Option Addr} {n_0 : Nat} {a_0_2 : Option Addr} {n_0_2 c_0_2 : Nat} (g_0 : RdAt w a_0 n_0 [.int .i64 q0.W, .int .i64 q0.H, .slice a_0_2 n_0_2 c_0_2]) (g_0_2 : Rd w a_0_2 (eI64.fl q0.Breaks)) (l_0_2 : q0.Breaks.length = n_0_2) (k_0_2 : n_0_2 ≤ c_0_2) {q1 : SWalker} {r : SWalker} (hres : sh198 q0 q1 = some r) : Calls Go.Proofs.Try.prog 198 [ptrAt a_0 n_0, .agg #[.int .i64 q1.At.X, .int .i64 q1.At.Y, .int .i64 q1.DX, .int .i64 q1.DY]].toArray w (Ret w (T198 r)) := by
  subst l_0_2
  obtain ⟨b_0, e_0, g_0⟩ := g_0.norm0
  rw [e_0]
  unfold sh198 at hres
  refine calls_of (n := 75) (M := []) (es := []) Go.Proofs.Try.func198 rfl rfl rfl (Sep.nil _ _ _) ?_
  refine JX.seq ?_
  refine JX.region ?_
  refine JL.eff (ef_box rfl rfl) rfl ?_
  rintro _ _ ⟨g1, rfl, rfl⟩
  refine JL.eff (ef_alloc i126 i126z rfl) rfl ?_
  rintro _ _ ⟨g3, rfl, rfl⟩
  refine JL.nil ?_
  refine JE.code ?_
  refine JX.seq ?_
  refine JX.region ?_
  refine JL.val (yl_loadn Go.Proofs.Try.underlying126 rfl i126 rfl (fun w hC => rd_box hC 0 rfl) rfl (i126s).symm i126p) rfl ?_
  obtain ⟨x5, hx5, hres⟩ := bind_some hres
  refine JL.eff (ef_call (vs := [.agg #[.int .i64 q1.At.X, .int .i64 q1.At.Y, .int .i64 q1.DX, .int .i64 q1.DY]]) (T := T199 x5) Go.Proofs.Try.func199 rfl (by kernel_rfl) rfl (fun w hC => c199 (q0 := q1) hx5)) rfl ?_
  rintro _ _ ⟨_, ⟨rfl, rfl⟩, rfl⟩
  refine JL.eff (ef_alloc i35 i35z rfl) rfl ?_
  rintro _ _ ⟨g6, rfl, rfl⟩
  refine JL.eff (ef_store_box (i := 2) (v := .agg #[.int .i64 x5.X, .int .i64 x5.Y]) i35 rfl rfl rfl (i35s).symm (Nat.le_of_ble_eq_true rfl) (by simp [Value.cells, Value.oneCell'])) rfl ?_
  rintro _ _ rfl
  refine JL.nil ?_
  refine JE.weak (env' := [(0, ptrAt b_0 0), (3, ptrAt (some ⟨g1, 0, none⟩) 0), (4, ptrAt (some ⟨g3, 0, none⟩) 0), (5, ptrAt (some ⟨g6, 0, none⟩) 0)]) (es' := [boxO 126 g1 [.int .i64 q1.At.X, .int .i64 q1.At.Y, .int .i64 q1.DX, .int .i64 q1.DY], boxO 126 g3 [.int .i64 0, .int .i64 0, .int .i64 0, .int .i64 0], boxO 35 g6 [.int .i64 x5.X, .int .i64 x5.Y]]) [0, 1, 2] ?_ ⟨rfl, rfl, rfl, rfl, trivial⟩ (by decide) rfl
  refine JE.code ?_
  refine JX.seq ?_
  refine JX.region ?_
  refine JL.val (yl_loadn Go.Proofs.Try.underlying35 rfl i35 rfl (fun w hC => rd_box hC 2 rfl) rfl (i35s).symm i35p) rfl ?_
  refine JL.val (yl_fieldAt (a := some _) Go.Proofs.Try.underlying126 rfl i2 i2n rfl rfl) rfl ?_
  refine JL.val (yl_load1 Go.Proofs.Try.underlying2 rfl rfl (fun w hC => rd_box hC 0 rfl) rfl) rfl ?_
  refine JL.val (yl_fieldAt (a := some _) Go.Proofs.Try.underlying126 rfl i2 i2n rfl rfl) rfl ?_
  refine JL.val (yl_load1 Go.Proofs.Try.underlying2 rfl rfl (fun w hC => rd_box hC 0 rfl) rfl) rfl ?_
  refine JL.val (yl_build rfl (fun w => bld126_0_1_2 x5.X x5.Y q1.DX q1.DY w)) rfl ?_
  refine JL.eff (ef_alloc i126 i126z rfl) rfl ?_
  rintro _ _ ⟨g8, rfl, rfl⟩
  refine JL.eff (ef_store_box (i := 3) (v := .agg #[.int .i64 x5.X, .int .i64 x5.Y, .int .i64 q1.DX, .int .i64 q1.DY]) i126 rfl rfl rfl (i126s).symm (Nat.le_of_ble_eq_true rfl) (by simp [Value.cells, Value.oneCell'])) rfl ?_
  rintro _ _ rfl
  refine JL.nil ?_
  refine JE.weak (env' := [(0, ptrAt b_0 0), (4, ptrAt (some ⟨g3, 0, none⟩) 0), (5, ptrAt (some ⟨g6, 0, none⟩) 0), (6, ptrAt (some ⟨g8, 0, none⟩) 0)]) (es' := [boxO 126 g3 [.int .i64 0, .int .i64 0, .int .i64 0, .int .i64 0], boxO 35 g6 [.int .i64 x5.X, .int .i64 x5.Y], boxO 126 g8 [.int .i64 x5.X, .int .i64 x5.Y, .int .i64 q1.DX, .int .i64 q1.DY]]) [1, 2, 3] ?_ ⟨rfl, rfl, rfl, rfl, trivial⟩ (by decide) rfl
  refine JE.code ?_
  refine JX.seq ?_
  refine JX.seq ?_
  refine JX.drawH [(0, .pure), (1, .read), (2, .pure), (3, .pure), (4, .pure), (5, .read), (6, .pure), (7, .pure), (8, .pure), (9, .read), (10, .pure), (11, .pure), (12, .pure)] [] [] [0, 1, 2] [] [boxO 126 g3 [.int .i64 0, .int .i64 0, .int .i64 0, .int .i64 0], boxO 35 g6 [.int .i64 x5.X, .int .i64 x5.Y], boxO 126 g8 [.int .i64 x5.X, .int .i64 x5.Y, .int .i64 q1.DX, .int .i64 q1.DY]] mixedP (by kernel_rfl) (by kernel_rfl) (by decide) rfl rfl ?_
  intro wrr10 Nr10 hFr10
  refine JH.pure rfl (yl_fieldAt (a := some _) Go.Proofs.Try.underlying35 rfl i2 i2n rfl rfl) rfl ?_
  refine JH.read rfl (yl_load1 Go.Proofs.Try.underlying2 rfl rfl (fun w hw => hFr10.box 1 rfl rfl hw) rfl) rfl ?_
  refine JH.pure rfl (yl_eql rfl rfl) rfl ?_
  refine JH.pure rfl (yl_move rfl) rfl ?_
  refine JH.cut (K := fun J => J [(0, ptrAt b_0 0), (4, ptrAt (some ⟨g3, 0, none⟩) 0), (5, ptrAt (some ⟨g6, 0, none⟩) 0), (6, ptrAt (some ⟨g8, 0, none⟩) 0), (27, .bool ((x5.X == 0) || (x5.X == (w64 (2 * q0.W)))))] []) 9 ?_ ?_
  · refine JH.nil ?_
    refine JE.weak (env' := [(0, ptrAt b_0 0), (4, ptrAt (some ⟨g3, 0, none⟩) 0), (5, ptrAt (some ⟨g6, 0, none⟩) 0), (6, ptrAt (some ⟨g8, 0, none⟩) 0), (27, .bool ((x5.X == 0) || (x5.X == (w64 (2 * q0.W)))))]) (es' := [boxO 126 g3 [.int .i64 0, .int .i64 0, .int .i64 0, .int .i64 0], boxO 35 g6 [.int .i64 x5.X, .int .i64 x5.Y], boxO 126 g8 [.int .i64 x5.X, .int .i64 x5.Y, .int .i64 q1.DX, .int .i64 q1.DY]]) [0, 1, 2] ?_ ⟨rfl, rfl, rfl, rfl, rfl, trivial⟩ (by decide) rfl
    refine JE.code ?_
    obtain ⟨j11, hj11, hresj11⟩ := bind_some hres
    refine JX.cut (K := fun J => J [(0, ptrAt b_0 0), (4, ptrAt (some ⟨g3, 0, none⟩) 0), (5, ptrAt (some ⟨g6, 0, none⟩) 0), (6, ptrAt (some ⟨g8, 0, none⟩) 0)] [boxO 126 g3 [.int .i64 0, .int .i64 0, .int .i64 0, .int .i64 0], boxO 35 g6 [.int .i64 x5.X, .int .i64 x5.Y], boxO 126 g8 [.int .i64 j11.At.X, .int .i64 j11.At.Y, .int .i64 j11.DX, .int .i64 j11.DY]]) ?_ ?_
    · have hres := hresj11
      refine JE.code ?_
      refine JX.seq ?_
      refine JX.seq ?_
      refine JX.drawH [(0, .pure), (1, .read), (2, .pure), (3, .pure), (4, .pure), (5, .read), (6, .pure), (7, .pure), (8, .pure), (9, .read), (10, .pure), (11, .pure), (12, .pure)] [] [] [0, 1, 2] [] [boxO 126 g3 [.int .i64 0, .int .i64 0, .int .i64 0, .int .i64 0], boxO 35 g6 [.int .i64 x5.X, .int .i64 x5.Y], boxO 126 g8 [.int .i64 j11.At.X, .int .i64 j11.At.Y, .int .i64 j11.DX, .int .i64 j11.DY]] mixedP (by kernel_rfl) (by kernel_rfl) (by decide) rfl rfl ?_
      intro wrr12 Nr12 hFr12
      refine JH.pure rfl (yl_fieldAt (a := some _) Go.Proofs.Try.underlying35 rfl i2 i2n rfl rfl) rfl ?_
      refine JH.read rfl (yl_load1 Go.Proofs.Try.underlying2 rfl rfl (fun w hw => hFr12.box 1 rfl rfl hw) rfl) rfl ?_
      refine JH.pure rfl (yl_eql rfl rfl) rfl ?_
      refine JH.pure rfl (yl_move rfl) rfl ?_
      refine JH.cut (K := fun J => J [(0, ptrAt b_0 0), (4, ptrAt (some ⟨g3, 0, none⟩) 0), (5, ptrAt (some ⟨g6, 0, none⟩) 0), (6, ptrAt (some ⟨g8, 0, none⟩) 0), (44, .bool ((x5.Y == 0) || (x5.Y == (w64 (2 * q0.H)))))] []) 9 ?_ ?_
      · refine JH.nil ?_
        refine JE.weak (env' := [(0, ptrAt b_0 0), (4, ptrAt (some ⟨g3, 0, none⟩) 0), (5, ptrAt (some ⟨g6, 0, none⟩) 0), (6, ptrAt (some ⟨g8, 0, none⟩) 0), (44, .bool ((x5.Y == 0) || (x5.Y == (w64 (2 * q0.H)))))]) (es' := [boxO 126 g3 [.int .i64 0, .int .i64 0, .int .i64 0, .int .i64 0], boxO 35 g6 [.int .i64 x5.X, .int .i64 x5.Y], boxO 126 g8 [.int .i64 j11.At.X, .int .i64 j11.At.Y, .int .i64 j11.DX, .int .i64 j11.DY]]) [0, 1, 2] ?_ ⟨rfl, rfl, rfl, rfl, rfl, trivial⟩ (by decide) rfl
        refine JE.code ?_
        obtain ⟨j13, hj13, hresj13⟩ := bind_some hres
        refine JX.cut (K := fun J => J [(0, ptrAt b_0 0), (4, ptrAt (some ⟨g3, 0, none⟩) 0), (5, ptrAt (some ⟨g6, 0, none⟩) 0), (6, ptrAt (some ⟨g8, 0, none⟩) 0)] [boxO 126 g3 [.int .i64 0, .int .i64 0, .int .i64 0, .int .i64 0], boxO 35 g6 [.int .i64 x5.X, .int .i64 x5.Y], boxO 126 g8 [.int .i64 j13.At.X, .int .i64 j13.At.Y, .int .i64 j13.DX, .int .i64 j13.DY]]) ?_ ?_
        · have hres := hresj13
          refine JE.code ?_
          refine JX.seq ?_
          refine JX.seq ?_
          refine JX.region ?_
          refine JL.val (yl_move rfl) rfl ?_
          refine JL.val (yl_loadn Go.Proofs.Try.underlying35 rfl i35 rfl (fun w hC => rd_box hC 1 rfl) rfl (i35s).symm i35p) rfl ?_
          obtain ⟨x14, hx14, hres⟩ := bind_some hres
          refine JL.eff (ef_call (vs := [ptrAt b_0 0, .agg #[.int .i64 x5.X, .int .i64 x5.Y]]) (T := T178 x14) Go.Proofs.Try.func178 rfl (by kernel_rfl) rfl (fun w hC => c178 (q1 := x5) (RdAt.of0 (rd_arg g_0 hC)) (rd_arg g_0_2 hC) rfl k_0_2 hx14)) rfl ?_
          rintro _ _ ⟨_, ⟨rfl, rfl⟩, rfl⟩
          refine JL.val (yl_not rfl) rfl ?_
          refine JL.nil ?_
          refine JE.weak (env' := [(0, ptrAt b_0 0), (4, ptrAt (some ⟨g3, 0, none⟩) 0), (5, ptrAt (some ⟨g6, 0, none⟩) 0), (6, ptrAt (some ⟨g8, 0, none⟩) 0), (52, .bool !x14)]) (es' := [boxO 126 g3 [.int .i64 0, .int .i64 0, .int .i64 0, .int .i64 0], boxO 35 g6 [.int .i64 x5.X, .int .i64 x5.Y], boxO 126 g8 [.int .i64 j13.At.X, .int .i64 j13.At.Y, .int .i64 j13.DX, .int .i64 j13.DY]]) [0, 1, 2] ?_ ⟨rfl, rfl, rfl, rfl, rfl, trivial⟩ (by decide) rfl
          refine JE.code ?_
          obtain ⟨j15, hj15, hresj15⟩ := bind_some hres
          refine JX.cut (K := fun J => J [(4, ptrAt (some ⟨g3, 0, none⟩) 0), (6, ptrAt (some ⟨g8, 0, none⟩) 0)] [boxO 126 g3 [.int .i64 0, .int .i64 0, .int .i64 0, .int .i64 0], boxO 126 g8 [.int .i64 j15.At.X, .int .i64 j15.At.Y, .int .i64 j15.DX, .int .i64 j15.DY]]) ?_ ?_
          · have hres := hresj15
            refine JE.code ?_
            refine JX.seq ?_
            refine JX.region ?_
            refine JL.val (yl_loadn Go.Proofs.Try.underlying126 rfl i126 rfl (fun w hC => rd_box hC 1 rfl) rfl (i126s).symm i126p) rfl ?_
            refine JL.eff (ef_store_box (i := 0) (v := .agg #[.int .i64 j15.At.X, .int .i64 j15.At.Y, .int .i64 j15.DX, .int .i64 j15.DY]) i126 rfl rfl rfl (i126s).symm (Nat.le_of_ble_eq_true rfl) (by simp [Value.cells, Value.oneCell'])) rfl ?_
            rintro _ _ rfl
            refine JL.nil ?_
            refine JE.weak (env' := [(4, ptrAt (some ⟨g3, 0, none⟩) 0)]) (es' := [boxO 126 g3 [.int .i64 j15.At.X, .int .i64 j15.At.Y, .int .i64 j15.DX, .int .i64 j15.DY]]) [0] ?_ ⟨rfl, trivial⟩ (by decide) rfl
            refine JE.code ?_
            refine JX.ret ?_
            obtain rfl := Option.some.inj hres
            refine JE.ret (rs := [.cell 4 126]) (vs := [.agg #[.int .i64 j15.At.X, .int .i64 j15.At.Y, .int .i64 j15.DX, .int .i64 j15.DY]]) rfl ⟨rv_box 0 rfl rfl Go.Proofs.Try.underlying126 rfl i126 (i126s).symm, trivial⟩ ?_
            exact fun w' hb hs => ⟨_, _, ⟨rfl, rfl⟩, rfl, hb, hs.sel [] _ (by decide) rfl⟩
          · intro K
            rcases cond_some hj15 with ⟨hb, hres⟩ | ⟨hb, hres⟩
            · refine JX.condT rfl hb ?_
              refine JX.seq ?_
              refine JX.drawH [(0, .pure), (1, .pure), (2, .pure), (3, .read), (4, .pure), (5, .read), (6, .must), (7, .pure), (8, .read)] [] [] [0, 1, 2] [] [boxO 126 g3 [.int .i64 0, .int .i64 0, .int .i64 0, .int .i64 0], boxO 35 g6 [.int .i64 x5.X, .int .i64 x5.Y], boxO 126 g8 [.int .i64 j13.At.X, .int .i64 j13.At.Y, .int .i64 j13.DX, .int .i64 j13.DY]] mixedP (by kernel_rfl) (by kernel_rfl) (by decide) rfl rfl ?_
              intro wrr16 Nr16 hFr16
              refine JH.pure rfl (yl_move rfl) rfl ?_
              refine JH.pure rfl (yl_nilCheckAt rfl (Rd.some g_0 (j := 0) rfl)) rfl ?_
              refine JH.pure rfl (yl_fieldAt Go.Proofs.Try.underlying28 rfl i22 i22n rfl (Rd.some g_0 (j := 0) rfl)) rfl ?_
              refine JH.read rfl (yl_load1 Go.Proofs.Try.underlying22 rfl rfl (fun w hw => hFr16.arg g_0 hw) rfl) rfl ?_
              refine JH.pure rfl (yl_move rfl) rfl ?_
              refine JH.read rfl (yl_loadn Go.Proofs.Try.underlying35 rfl i35 rfl (fun w hw => hFr16.box 1 rfl rfl hw) rfl (i35s).symm i35p) rfl ?_
              obtain ⟨x17, hx17, hres⟩ := bind_some hres
              refine JH.must rfl (ef_call (vs := [ptrAt b_0 0, .agg #[.int .i64 x5.X, .int .i64 x5.Y]]) (T := T179 x17) Go.Proofs.Try.func179 rfl (by kernel_rfl) rfl (fun w hC => c179 (q1 := x5) (RdAt.of0 (hFr16.arg g_0 hC.1)) (hFr16.arg g_0_2 hC.1) rfl k_0_2 hx17)) rfl rfl ?_
              rintro _ _ ⟨_, ⟨rfl, rfl⟩, rfl⟩
              obtain ⟨x18, hx18, hres⟩ := bind_some hres
              refine JH.pure rfl (yl_idxQ Go.Proofs.Try.underlying22 i2 i2s rfl rfl hx18 rfl (rd_arg g_0_2 hFr16.cl) rfl) rfl ?_
              refine JH.read rfl (yl_loadT0 Go.Proofs.Try.underlying2 rfl rfl hx18 (fun w hw => hFr16.arg g_0_2 hw) rfl) rfl ?_
              refine JH.nil ?_
              refine JE.weak (env' := [(4, ptrAt (some ⟨g3, 0, none⟩) 0), (6, ptrAt (some ⟨g8, 0, none⟩) 0), (61, .int .i64 x18)]) (es' := [boxO 126 g3 [.int .i64 0, .int .i64 0, .int .i64 0, .int .i64 0], boxO 126 g8 [.int .i64 j13.At.X, .int .i64 j13.At.Y, .int .i64 j13.DX, .int .i64 j13.DY]]) [0, 2] ?_ ⟨rfl, rfl, rfl, trivial⟩ (by decide) rfl
              refine JE.code ?_
              refine JX.block ?_
              refine JX.seq ?_
              refine JX.region ?_
              refine JL.val (yl_eql rfl rfl) rfl ?_
              refine JL.val (yl_assign rfl) rfl ?_
              refine JL.nil ?_
              refine JE.code ?_
              obtain ⟨j19, hj19, hresj19⟩ := bind_some hres
              refine JX.cut (K := fun J => J [(4, ptrAt (some ⟨g3, 0, none⟩) 0), (6, ptrAt (some ⟨g8, 0, none⟩) 0)] [boxO 126 g3 [.int .i64 0, .int .i64 0, .int .i64 0, .int .i64 0], boxO 126 g8 [.int .i64 j19.At.X, .int .i64 j19.At.Y, .int .i64 j19.DX, .int .i64 j19.DY]]) ?_ ?_
              · have hres := hresj19
                have hj := Option.some.inj hres
                exact JE.weak [0, 1] (K) ⟨(by subst hj; rfl), (by subst hj; rfl), trivial⟩ (by decide) (by subst hj; rfl)
              · intro K
                rcases cond_some hj19 with ⟨hb, hres⟩ | ⟨hb, hres⟩
                · refine JX.condT rfl hb ?_
                  refine JX.region ?_
                  refine JL.val (yl_fieldAt (a := some _) Go.Proofs.Try.underlying126 rfl i2 i2n rfl rfl) rfl ?_
                  refine JL.val (yl_load1 Go.Proofs.Try.underlying2 rfl rfl (fun w hC => rd_box hC 1 rfl) rfl) rfl ?_
                  refine JL.val (yl_neg rfl) rfl ?_
                  refine JL.val (yl_fieldAt (a := some _) Go.Proofs.Try.underlying126 rfl i2 i2n rfl rfl) rfl ?_
                  refine JL.eff (ef_store_box (i := 1) (v := .int .i64 (w64 (0 - j13.DX))) i2 rfl rfl rfl (i2s).symm (Nat.le_of_ble_eq_true rfl) (by simp [Value.cells, Value.oneCell'])) rfl ?_
                  rintro _ _ rfl
                  refine JL.nil ?_
                  refine JE.weak (env' := [(4, ptrAt (some ⟨g3, 0, none⟩) 0), (6, ptrAt (some ⟨g8, 0, none⟩) 0)]) (es' := [boxO 126 g3 [.int .i64 0, .int .i64 0, .int .i64 0, .int .i64 0], boxO 126 g8 [.int .i64 j13.At.X, .int .i64 j13.At.Y, .int .i64 (w64 (0 - j13.DX)), .int .i64 j13.DY]]) [0, 1] ?_ ⟨rfl, rfl, trivial⟩ (by decide) rfl
                  have hj := Option.some.inj hres
                  exact JE.weak [0, 1] (K) ⟨(by subst hj; rfl), (by subst hj; rfl), trivial⟩ (by decide) (by subst hj; rfl)
                · refine JX.condF rfl hb ?_
                  refine JX.seq ?_
                  refine JX.region ?_
                  refine JL.val (yl_eql rfl rfl) rfl ?_
                  refine JL.val (yl_assign rfl) rfl ?_
                  refine JL.nil ?_
                  refine JE.code ?_
                  obtain ⟨j20, hj20, hresj20⟩ := bind_some hres
                  refine JX.cut (K := fun J => J [(4, ptrAt (some ⟨g3, 0, none⟩) 0), (6, ptrAt (some ⟨g8, 0, none⟩) 0)] [boxO 126 g3 [.int .i64 0, .int .i64 0, .int .i64 0, .int .i64 0], boxO 126 g8 [.int .i64 j20.At.X, .int .i64 j20.At.Y, .int .i64 j20.DX, .int .i64 j20.DY]]) ?_ ?_
                  · have hres := hresj20
                    have hj := Option.some.inj hres
                    exact JE.weak [0, 1] (K) ⟨(by subst hj; rfl), (by subst hj; rfl), trivial⟩ (by decide) (by subst hj; rfl)
                  · intro K
                    rcases cond_some hj20 with ⟨hb, hres⟩ | ⟨hb, hres⟩
                    · refine JX.condT rfl hb ?_
                      refine JX.region ?_
                      refine JL.val (yl_fieldAt (a := some _) Go.Proofs.Try.underlying126 rfl i2 i2n rfl rfl) rfl ?_
                      refine JL.val (yl_load1 Go.Proofs.Try.underlying2 rfl rfl (fun w hC => rd_box hC 1 rfl) rfl) rfl ?_
                      refine JL.val (yl_neg rfl) rfl ?_
                      refine JL.val (yl_fieldAt (a := some _) Go.Proofs.Try.underlying126 rfl i2 i2n rfl rfl) rfl ?_
                      refine JL.eff (ef_store_box (i := 1) (v := .int .i64 (w64 (0 - j13.DY))) i2 rfl rfl rfl (i2s).symm (Nat.le_of_ble_eq_true rfl) (by simp [Value.cells, Value.oneCell'])) rfl ?_
                      rintro _ _ rfl
                      refine JL.nil ?_
                      refine JE.weak (env' := [(4, ptrAt (some ⟨g3, 0, none⟩) 0), (6, ptrAt (some ⟨g8, 0, none⟩) 0)]) (es' := [boxO 126 g3 [.int .i64 0, .int .i64 0, .int .i64 0, .int .i64 0], boxO 126 g8 [.int .i64 j13.At.X, .int .i64 j13.At.Y, .int .i64 j13.DX, .int .i64 (w64 (0 - j13.DY))]]) [0, 1] ?_ ⟨rfl, rfl, trivial⟩ (by decide) rfl
                      have hj := Option.some.inj hres
                      exact JE.weak [0, 1] (K) ⟨(by subst hj; rfl), (by subst hj; rfl), trivial⟩ (by decide) (by subst hj; rfl)
                    · refine JX.condF rfl hb ?_
                      refine JX.skip ?_
                      have hj := Option.some.inj hres
                      exact JE.weak [0, 1] (K) ⟨(by subst hj; rfl), (by subst hj; rfl), trivial⟩ (by decide) (by subst hj; rfl)
            · refine JX.condF rfl hb ?_
              refine JX.skip ?_
              have hj := Option.some.inj hres
              exact JE.weak [0, 2] (K) ⟨(by subst hj; rfl), (by subst hj; rfl), trivial⟩ (by decide) (by subst hj; rfl)
        · intro K
          rcases cond_some hj13 with ⟨hb, hres⟩ | ⟨hb, hres⟩
          · refine JX.condT rfl hb ?_
            refine JX.region ?_
            refine JL.val (yl_fieldAt (a := some _) Go.Proofs.Try.underlying126 rfl i2 i2n rfl rfl) rfl ?_
            refine JL.val (yl_load1 Go.Proofs.Try.underlying2 rfl rfl (fun w hC => rd_box hC 2 rfl) rfl) rfl ?_
            refine JL.val (yl_neg rfl) rfl ?_
            refine JL.val (yl_fieldAt (a := some _) Go.Proofs.Try.underlying126 rfl i2 i2n rfl rfl) rfl ?_
            refine JL.eff (ef_store_box (i := 2) (v := .int .i64 (w64 (0 - j11.DY))) i2 rfl rfl rfl (i2s).symm (Nat.le_of_ble_eq_true rfl) (by simp [Value.cells, Value.oneCell'])) rfl ?_
            rintro _ _ rfl
            refine JL.nil ?_
            refine JE.weak (env' := [(0, ptrAt b_0 0), (4, ptrAt (some ⟨g3, 0, none⟩) 0), (5, ptrAt (some ⟨g6, 0, none⟩) 0), (6, ptrAt (some ⟨g8, 0, none⟩) 0)]) (es' := [boxO 126 g3 [.int .i64 0, .int .i64 0, .int .i64 0, .int .i64 0], boxO 35 g6 [.int .i64 x5.X, .int .i64 x5.Y], boxO 126 g8 [.int .i64 j11.At.X, .int .i64 j11.At.Y, .int .i64 j11.DX, .int .i64 (w64 (0 - j11.DY))]]) [0, 1, 2] ?_ ⟨rfl, rfl, rfl, rfl, trivial⟩ (by decide) rfl
            have hj := Option.some.inj hres
            exact JE.weak [0, 1, 2] (K) ⟨(by subst hj; rfl), (by subst hj; rfl), (by subst hj; rfl), (by subst hj; rfl), trivial⟩ (by decide) (by subst hj; rfl)
          · refine JX.condF rfl hb ?_
            refine JX.skip ?_
            have hj := Option.some.inj hres
            exact JE.weak [0, 1, 2] (K) ⟨(by subst hj; rfl), (by subst hj; rfl), (by subst hj; rfl), (by subst hj; rfl), trivial⟩ (by decide) (by subst hj; rfl)
      · intro K
        rcases Bool.eq_false_or_eq_true (x5.Y == 0) with hb | hb
        · refine JH.set (d := 35) (v := .bool true) (congrArg (fun b => some (Value.bool b)) hb) ?_
          refine JH.gskip rfl rfl rfl rfl rfl rfl ?_
          refine JH.gskip rfl rfl rfl rfl rfl rfl ?_
          refine JH.gskip rfl rfl rfl rfl rfl rfl ?_
          refine JH.gskip rfl rfl rfl rfl rfl rfl ?_
          refine JH.gskip rfl rfl rfl rfl rfl rfl ?_
          refine JH.gskip rfl rfl rfl rfl rfl rfl ?_
          refine JH.gskip rfl rfl rfl rfl rfl rfl ?_
          refine JH.gskip rfl rfl rfl rfl rfl rfl ?_
          refine JH.pure rfl (yl_pick_true rfl rfl) rfl ?_
          exact JH.weak [] K ⟨rfl, rfl, rfl, rfl, (by rw [hb]; rfl), trivial⟩ (by decide) rfl
        · refine JH.set (d := 35) (v := .bool false) (congrArg (fun b => some (Value.bool b)) hb) ?_
          refine JH.gpure rfl rfl rfl (yl_fieldAt (a := some _) Go.Proofs.Try.underlying35 rfl i2 i2n rfl rfl) rfl ?_
          refine JH.gread rfl rfl rfl (yl_load1 Go.Proofs.Try.underlying2 rfl rfl (fun w hw => hFr12.box 1 rfl rfl hw) rfl) rfl ?_
          refine JH.gpure rfl rfl rfl (yl_move rfl) rfl ?_
          refine JH.gpure rfl rfl rfl (yl_nilCheckAt rfl (Rd.some g_0 (j := 0) rfl)) rfl ?_
          refine JH.gpure rfl rfl rfl (yl_fieldAt Go.Proofs.Try.underlying28 rfl i2 i2n rfl (Rd.some g_0 (j := 0) rfl)) rfl ?_
          refine JH.gread rfl rfl rfl (yl_load1 Go.Proofs.Try.underlying2 rfl rfl (fun w hw => hFr12.arg g_0 hw) rfl) rfl ?_
          refine JH.gpure rfl rfl rfl (yl_mul rfl rfl) rfl ?_
          refine JH.gpure rfl rfl rfl (yl_eql rfl rfl) rfl ?_
          refine JH.pure rfl (yl_pick_false rfl rfl) rfl ?_
          exact JH.weak [] K ⟨rfl, rfl, rfl, rfl, (by rw [hb]; rfl), trivial⟩ (by decide) rfl
    · intro K
      rcases cond_some hj11 with ⟨hb, hres⟩ | ⟨hb, hres⟩
      · refine JX.condT rfl hb ?_
        refine JX.region ?_
        refine JL.val (yl_fieldAt (a := some _) Go.Proofs.Try.underlying126 rfl i2 i2n rfl rfl) rfl ?_
        refine JL.val (yl_load1 Go.Proofs.Try.underlying2 rfl rfl (fun w hC => rd_box hC 2 rfl) rfl) rfl ?_
        refine JL.val (yl_neg rfl) rfl ?_
        refine JL.val (yl_fieldAt (a := some _) Go.Proofs.Try.underlying126 rfl i2 i2n rfl rfl) rfl ?_
        refine JL.eff (ef_store_box (i := 2) (v := .int .i64 (w64 (0 - q1.DX))) i2 rfl rfl rfl (i2s).symm (Nat.le_of_ble_eq_true rfl) (by simp [Value.cells, Value.oneCell'])) rfl ?_
        rintro _ _ rfl
        refine JL.nil ?_
        refine JE.weak (env' := [(0, ptrAt b_0 0), (4, ptrAt (some ⟨g3, 0, none⟩) 0), (5, ptrAt (some ⟨g6, 0, none⟩) 0), (6, ptrAt (some ⟨g8, 0, none⟩) 0)]) (es' := [boxO 126 g3 [.int .i64 0, .int .i64 0, .int .i64 0, .int .i64 0], boxO 35 g6 [.int .i64 x5.X, .int .i64 x5.Y], boxO 126 g8 [.int .i64 x5.X, .int .i64 x5.Y, .int .i64 (w64 (0 - q1.DX)), .int .i64 q1.DY]]) [0, 1, 2] ?_ ⟨rfl, rfl, rfl, rfl, trivial⟩ (by decide) rfl
        have hj := Option.some.inj hres
        exact JE.weak [0, 1, 2] (K) ⟨(by subst hj; rfl), (by subst hj; rfl), (by subst hj; rfl), (by subst hj; rfl), trivial⟩ (by decide) (by subst hj; rfl)
      · refine JX.condF rfl hb ?_
        refine JX.skip ?_
        have hj := Option.some.inj hres
        exact JE.weak [0, 1, 2] (K) ⟨(by subst hj; rfl), (by subst hj; rfl), (by subst hj; rfl), (by subst hj; rfl), trivial⟩ (by decide) (by subst hj; rfl)
  · intro K
    rcases Bool.eq_false_or_eq_true (x5.X == 0) with hb | hb
    · refine JH.set (d := 18) (v := .bool true) (congrArg (fun b => some (Value.bool b)) hb) ?_
      refine JH.gskip rfl rfl rfl rfl rfl rfl ?_
      refine JH.gskip rfl rfl rfl rfl rfl rfl ?_
      refine JH.gskip rfl rfl rfl rfl rfl rfl ?_
      refine JH.gskip rfl rfl rfl rfl rfl rfl ?_
      refine JH.gskip rfl rfl rfl rfl rfl rfl ?_
      refine JH.gskip rfl rfl rfl rfl rfl rfl ?_
      refine JH.gskip rfl rfl rfl rfl rfl rfl ?_
      refine JH.gskip rfl rfl rfl rfl rfl rfl ?_
      refine JH.pure rfl (yl_pick_true rfl rfl) rfl ?_
      exact JH.weak [] K ⟨rfl, rfl, rfl, rfl, (by rw [hb]; rfl), trivial⟩ (by decide) rfl
    · refine JH.set (d := 18) (v := .bool false) (congrArg (fun b => some (Value.bool b)) hb) ?_
      refine JH.gpure rfl rfl rfl (yl_fieldAt (a := some _) Go.Proofs.Try.underlying35 rfl i2 i2n rfl rfl) rfl ?_
      refine JH.gread rfl rfl rfl (yl_load1 Go.Proofs.Try.underlying2 rfl rfl (fun w hw => hFr10.box 1 rfl rfl hw) rfl) rfl ?_
      refine JH.gpure rfl rfl rfl (yl_move rfl) rfl ?_
      refine JH.gpure rfl rfl rfl (yl_nilCheckAt rfl (Rd.some g_0 (j := 0) rfl)) rfl ?_
      refine JH.gpure rfl rfl rfl (yl_fieldAt Go.Proofs.Try.underlying28 rfl i2 i2n rfl (Rd.some g_0 (j := 0) rfl)) rfl ?_
      refine JH.gread rfl rfl rfl (yl_load1 Go.Proofs.Try.underlying2 rfl rfl (fun w hw => hFr10.arg g_0 hw) rfl) rfl ?_
      refine JH.gpure rfl rfl rfl (yl_mul rfl rfl) rfl ?_
      refine JH.gpure rfl rfl rfl (yl_eql rfl rfl) rfl ?_
      refine JH.pure rfl (yl_pick_false rfl rfl) rfl ?_
      exact JH.weak [] K ⟨rfl, rfl, rfl, rfl, (by rw [hb]; rfl), trivial⟩ (by decide) rfl

/- spec.l04Trace -/
def sh170_1 (q0 : SPanel) (q1 : SWalker) : (List SPoint × List Int × SWalker) → Option ((List SPoint × List Int × SWalker) ⊕ (List SPoint × List Int))
  | (x14, x15, x16) => bif ((x14.length : Int) == 0) || (!((((x16.At.X == q1.At.X) && ((x16.At.Y == q1.At.Y) && true)) && ((x16.DX == q1.DX) && ((x16.DY == q1.DY) && true))))) then (Option.bind (appL x14 [x16.At]) fun x24 => Option.bind (sh117 q0 x16) fun x27 => Option.bind (appL x15 [x27]) fun x30 => Option.bind (sh198 q0 x16) fun x35 => some (.inl (x24, x30, x35))) else (some (.inr (x14, x15)))
def sh170 (q0 : SPanel) (q1 : SWalker) : Option (List SPoint × List Int) := Option.bind (iter (sh170_1 q0 q1) (([] : List SPoint), ([] : List Int), q1)) fun b1 => (some (b1.1, b1.2))
def T170 (r : List SPoint × List Int) (v : Value) (rs : List Own) : Prop := ∃ (a0 : Option Addr) (n0 c0 : Nat), r.1.length = n0 ∧ ∃ (a1 : Option Addr) (n1 c1 : Nat), r.2.length = n1 ∧ v = rets [.slice a0 n0 c0, .slice a1 n1 c1] ∧ rs = [rowT 35 eSPoint a0 n0 c0 r.1, rowT 2 eI64 a1 n1 c1 r.2]
set_option maxRecDepth 100000 in
theorem c170 {w : World} {q0 : SPanel} {a_0 : Option Addr} {n_0 : Nat} {a_0_2 : Option Addr} {n_0_2 c_0_2 : Nat} (g_0 : RdAt w a_0 n_0 [.int .i64 q0.W, .int .i64 q0.H, .slice a_0_2 n_0_2 c_0_2]) (g_0_2 : Rd w a_0_2 (eI64.fl q0.Breaks)) (l_0_2 : q0.Breaks.length = n_0_2) (k_0_2 : n_0_2 ≤ c_0_2) {q1 : SWalker} {r : List SPoint × List Int} (hres : sh170 q0 q1 = some r) : Calls Go.Proofs.Try.prog 170 [ptrAt a_0 n_0, .agg #[.int .i64 q1.At.X, .int .i64 q1.At.Y, .int .i64 q1.DX, .int .i64 q1.DY]].toArray w (Ret w (T170 r)) := by
  subst l_0_2
  obtain ⟨b_0, e_0, g_0⟩ := g_0.norm0
  rw [e_0]
  unfold sh170 at hres
  refine calls_of (n := 37) (M := []) (es := []) Go.Proofs.Try.func170 rfl rfl rfl (Sep.nil _ _ _) ?_
  refine JX.seq ?_
  refine JX.region ?_
  refine JL.eff (ef_box rfl rfl) rfl ?_
  rintro _ _ ⟨g1, rfl, rfl⟩
  refine JL.val (yl_assign rfl) rfl ?_
  refine JL.val (yl_assign rfl) rfl ?_
  refine JL.nil ?_
  refine JE.code ?_
  refine JX.seq ?_
  refine JX.region ?_
  refine JL.eff (ef_buildSlice (E := 35) (k := eSPoint.k) (us := eSPoint.fl ([] : List SPoint)) rfl (fun w => bsl61_0  w) rfl (by decide)) rfl ?_
  rintro _ _ ⟨a3, rfl, rfl⟩
  refine JL.val (yl_assign rfl) rfl ?_
  refine JL.nil ?_
  refine JE.code ?_
  refine JX.seq ?_
  refine JX.region ?_
  refine JL.eff (ef_buildSlice (E := 2) (k := eI64.k) (us := eI64.fl ([] : List Int)) rfl (fun w => bsl22_0  w) rfl (by decide)) rfl ?_
  rintro _ _ ⟨a5, rfl, rfl⟩
  refine JL.val (yl_assign rfl) rfl ?_
  refine JL.nil ?_
  refine JE.code ?_
  refine JX.seq ?_
  refine JX.seq ?_
  refine JX.region ?_
  refine JL.val (yl_loadn Go.Proofs.Try.underlying126 rfl i126 rfl (fun w hC => rd_box hC 0 rfl) rfl (i126s).symm i126p) rfl ?_
  refine JL.eff (ef_alloc i126 i126z rfl) rfl ?_
  rintro _ _ ⟨g7, rfl, rfl⟩
  refine JL.eff (ef_store_box (i := 3) (v := .agg #[.int .i64 q1.At.X, .int .i64 q1.At.Y, .int .i64 q1.DX, .int .i64 q1.DY]) i126 rfl rfl rfl (i126s).symm (Nat.le_of_ble_eq_true rfl) (by simp [Value.cells, Value.oneCell'])) rfl ?_
  rintro _ _ rfl
  refine JL.nil ?_
  refine JE.code ?_
  refine JX.block ?_
  obtain ⟨y1, hy1, hresO1⟩ := bind_some hres
  refine JX.loop (I := fun (s1 : List SPoint × List Int × SWalker) aa ww => ∃ (a9 : Option Addr) (cp10 : Nat) (a11 : Option Addr) (cp12 : Nat) (g13 : Nat), St w [] 37 [(0, ptrAt b_0 0), (3, ptrAt (some ⟨g1, 0, none⟩) 0), (6, .slice a9 s1.1.length cp10), (7, .slice a11 s1.2.1.length cp12), (8, ptrAt (some ⟨g13, 0, none⟩) 0)] [boxO 126 g1 [.int .i64 q1.At.X, .int .i64 q1.At.Y, .int .i64 q1.DX, .int .i64 q1.DY], rowT 35 eSPoint a9 s1.1.length cp10 s1.1, rowT 2 eI64 a11 s1.2.1.length cp12 s1.2.1, boxO 126 g13 [.int .i64 s1.2.2.At.X, .int .i64 s1.2.2.At.Y, .int .i64 s1.2.2.DX, .int .i64 s1.2.2.DY]] aa ww) (sh170_1 q0 q1) hy1 (fun a w h => ⟨a3, 0, a5, 0, g7, h.weak ⟨rfl, rfl, rfl, rfl, rfl, trivial⟩ [0, 1, 2, 3] (by decide) rfl⟩) ?_
  rintro ⟨x14, x15, x16⟩ o1 hres hox1 aa ww ⟨a17, cp18, a19, cp20, g21, hS⟩
  refine (?_ : JX Go.Proofs.Try.prog w [] 37 _ _ [(0, ptrAt b_0 0), (3, ptrAt (some ⟨g1, 0, none⟩) 0), (6, .slice a17 x14.length cp18), (7, .slice a19 x15.length cp20), (8, ptrAt (some ⟨g21, 0, none⟩) 0)] [boxO 126 g1 [.int .i64 q1.At.X, .int .i64 q1.At.Y, .int .i64 q1.DX, .int .i64 q1.DY], rowT 35 eSPoint a17 x14.length cp18 x14, rowT 2 eI64 a19 x15.length cp20 x15, boxO 126 g21 [.int .i64 x16.At.X, .int .i64 x16.At.Y, .int .i64 x16.DX, .int .i64 x16.DY]] _) aa ww hS
  clear hS
  simp only [sh170_1] at hres
  refine JX.seq ?_
  refine JX.seq ?_
  refine JX.region ?_
  refine JL.val (yl_move rfl) rfl ?_
  refine JL.val (yl_len_slice Go.Proofs.Try.underlying61 rfl) rfl ?_
  refine JL.val (yl_eql rfl rfl) rfl ?_
  refine JL.val (yl_move rfl) rfl ?_
  refine JL.cut (K := fun J => J [(0, ptrAt b_0 0), (3, ptrAt (some ⟨g1, 0, none⟩) 0), (6, .slice a17 x14.length cp18), (7, .slice a19 x15.length cp20), (8, ptrAt (some ⟨g21, 0, none⟩) 0), (19, .bool (((x14.length : Int) == 0) || (!((((x16.At.X == q1.At.X) && ((x16.At.Y == q1.At.Y) && true)) && ((x16.DX == q1.DX) && ((x16.DY == q1.DY) && true)))))))] [boxO 126 g1 [.int .i64 q1.At.X, .int .i64 q1.At.Y, .int .i64 q1.DX, .int .i64 q1.DY], rowT 35 eSPoint a17 x14.length cp18 x14, rowT 2 eI64 a19 x15.length cp20 x15, boxO 126 g21 [.int .i64 x16.At.X, .int .i64 x16.At.Y, .int .i64 x16.DX, .int .i64 x16.DY]]) 4 ?_ ?_
  · refine JL.nil ?_
    refine JE.weak (env' := [(0, ptrAt b_0 0), (3, ptrAt (some ⟨g1, 0, none⟩) 0), (6, .slice a17 x14.length cp18), (7, .slice a19 x15.length cp20), (8, ptrAt (some ⟨g21, 0, none⟩) 0), (19, .bool (((x14.length : Int) == 0) || (!((((x16.At.X == q1.At.X) && ((x16.At.Y == q1.At.Y) && true)) && ((x16.DX == q1.DX) && ((x16.DY == q1.DY) && true)))))))]) (es' := [boxO 126 g1 [.int .i64 q1.At.X, .int .i64 q1.At.Y, .int .i64 q1.DX, .int .i64 q1.DY], rowT 35 eSPoint a17 x14.length cp18 x14, rowT 2 eI64 a19 x15.length cp20 x15, boxO 126 g21 [.int .i64 x16.At.X, .int .i64 x16.At.Y, .int .i64 x16.DX, .int .i64 x16.DY]]) [0, 1, 2, 3] ?_ ⟨rfl, rfl, rfl, rfl, rfl, rfl, trivial⟩ (by decide) rfl
    refine JE.code ?_
    rcases cond_some hres with ⟨hb, hres⟩ | ⟨hb, hres⟩
    · refine JX.condT rfl hb ?_
      refine JX.skip ?_
      refine JE.code ?_
      refine JX.seq ?_
      refine JX.block ?_
      refine JX.seq ?_
      refine JX.region ?_
      refine JL.val (yl_move rfl) rfl ?_
      refine JL.val (yl_fieldAt (a := some _) Go.Proofs.Try.underlying126 rfl i35 i35n rfl rfl) rfl ?_
      refine JL.val (yl_loadn Go.Proofs.Try.underlying35 rfl i35 rfl (fun w hC => rd_box hC 3 rfl) rfl (i35s).symm i35p) rfl ?_
      refine JL.eff (ef_buildSlice (E := 35) (k := eSPoint.k) (us := eSPoint.fl [x16.At]) rfl (fun w => bsl61_1 x16.At.X x16.At.Y w) rfl (by decide)) rfl ?_
      rintro _ _ ⟨a22, rfl, rfl⟩
      obtain ⟨x24, hx24, hres⟩ := bind_some hres
      refine JL.eff (ef_appendT (ix := 1) Go.Proofs.Try.underlying61 i35 i35z i35s rfl i35b0 i35b1 rfl rfl rfl rfl rfl (fun w hC => rd_row hC 4 rfl) hx24) rfl ?_
      rintro _ _ ⟨a25, cp26, rfl, rfl⟩
      refine JL.val (yl_assign rfl) rfl ?_
      refine JL.nil ?_
      refine JE.weak (env' := [(0, ptrAt b_0 0), (3, ptrAt (some ⟨g1, 0, none⟩) 0), (6, .slice a25 x24.length cp26), (7, .slice a19 x15.length cp20), (8, ptrAt (some ⟨g21, 0, none⟩) 0)]) (es' := [boxO 126 g1 [.int .i64 q1.At.X, .int .i64 q1.At.Y, .int .i64 q1.DX, .int .i64 q1.DY], rowT 35 eSPoint a25 x24.length cp26 x24, rowT 2 eI64 a19 x15.length cp20 x15, boxO 126 g21 [.int .i64 x16.At.X, .int .i64 x16.At.Y, .int .i64 x16.DX, .int .i64 x16.DY]]) [0, 1, 2, 3] ?_ ⟨rfl, rfl, rfl, rfl, rfl, trivial⟩ (by decide) rfl
      refine JE.code ?_
      refine JX.region ?_
      refine JL.val (yl_move rfl) rfl ?_
      refine JL.val (yl_move rfl) rfl ?_
      refine JL.val (yl_loadn Go.Proofs.Try.underlying126 rfl i126 rfl (fun w hC => rd_box hC 3 rfl) rfl (i126s).symm i126p) rfl ?_
      obtain ⟨x27, hx27, hres⟩ := bind_some hres
      refine JL.eff (ef_call (vs := [ptrAt b_0 0, .agg #[.int .i64 x16.At.X, .int .i64 x16.At.Y, .int .i64 x16.DX, .int .i64 x16.DY]]) (T := T117 x27) Go.Proofs.Try.func117 rfl (by kernel_rfl) rfl (fun w hC => c117 (q1 := x16) (RdAt.of0 (rd_arg g_0 hC)) (rd_arg g_0_2 hC) rfl k_0_2 hx27)) rfl ?_
      rintro _ _ ⟨_, ⟨rfl, rfl⟩, rfl⟩
      refine JL.eff (ef_buildSlice (E := 2) (k := eI64.k) (us := eI64.fl [x27]) rfl (fun w => bsl22_1 x27 w) rfl (by decide)) rfl ?_
      rintro _ _ ⟨a28, rfl, rfl⟩
      obtain ⟨x30, hx30, hres⟩ := bind_some hres
      refine JL.eff (ef_appendT (ix := 2) Go.Proofs.Try.underlying22 i2 i2z i2s rfl i2b0 i2b1 rfl rfl rfl rfl rfl (fun w hC => rd_row hC 4 rfl) hx30) rfl ?_
      rintro _ _ ⟨a31, cp32, rfl, rfl⟩
      refine JL.val (yl_assign rfl) rfl ?_
      refine JL.nil ?_
      refine JE.weak (env' := [(0, ptrAt b_0 0), (3, ptrAt (some ⟨g1, 0, none⟩) 0), (6, .slice a25 x24.length cp26), (7, .slice a31 x30.length cp32), (8, ptrAt (some ⟨g21, 0, none⟩) 0)]) (es' := [boxO 126 g1 [.int .i64 q1.At.X, .int .i64 q1.At.Y, .int .i64 q1.DX, .int .i64 q1.DY], rowT 35 eSPoint a25 x24.length cp26 x24, rowT 2 eI64 a31 x30.length cp32 x30, boxO 126 g21 [.int .i64 x16.At.X, .int .i64 x16.At.Y, .int .i64 x16.DX, .int .i64 x16.DY]]) [0, 1, 2, 3] ?_ ⟨rfl, rfl, rfl, rfl, rfl, trivial⟩ (by decide) rfl
      refine JE.code ?_
      refine JX.seq ?_
      refine JX.seq ?_
      refine JX.region ?_
      refine JL.val (yl_loadn Go.Proofs.Try.underlying126 rfl i126 rfl (fun w hC => rd_box hC 3 rfl) rfl (i126s).symm i126p) rfl ?_
      refine JL.nil ?_
      refine JE.weak (env' := [(0, ptrAt b_0 0), (3, ptrAt (some ⟨g1, 0, none⟩) 0), (6, .slice a25 x24.length cp26), (7, .slice a31 x30.length cp32), (34, .agg #[.int .i64 x16.At.X, .int .i64 x16.At.Y, .int .i64 x16.DX, .int .i64 x16.DY])]) (es' := [boxO 126 g1 [.int .i64 q1.At.X, .int .i64 q1.At.Y, .int .i64 q1.DX, .int .i64 q1.DY], rowT 35 eSPoint a25 x24.length cp26 x24, rowT 2 eI64 a31 x30.length cp32 x30]) [0, 1, 2] ?_ ⟨rfl, rfl, rfl, rfl, rfl, trivial⟩ (by decide) rfl
      refine JE.code ?_
      refine JX.region ?_
      refine JL.eff (ef_alloc i126 i126z rfl) rfl ?_
      rintro _ _ ⟨g33, rfl, rfl⟩
      refine JL.eff (ef_store_box (i := 3) (v := .agg #[.int .i64 x16.At.X, .int .i64 x16.At.Y, .int .i64 x16.DX, .int .i64 x16.DY]) i126 rfl rfl rfl (i126s).symm (Nat.le_of_ble_eq_true rfl) (by simp [Value.cells, Value.oneCell'])) rfl ?_
      rintro _ _ rfl
      refine JL.nil ?_
      refine JE.code ?_
      refine JX.region ?_
      refine JL.val (yl_move rfl) rfl ?_
      refine JL.val (yl_loadn Go.Proofs.Try.underlying126 rfl i126 rfl (fun w hC => rd_box hC 3 rfl) rfl (i126s).symm i126p) rfl ?_
      obtain ⟨x35, hx35, hres⟩ := bind_some hres
      refine JL.eff (ef_call (vs := [ptrAt b_0 0, .agg #[.int .i64 x16.At.X, .int .i64 x16.At.Y, .int .i64 x16.DX, .int .i64 x16.DY]]) (T := T198 x35) Go.Proofs.Try.func198 rfl (by kernel_rfl) rfl (fun w hC => c198 (q1 := x16) (RdAt.of0 (rd_arg g_0 hC)) (rd_arg g_0_2 hC) rfl k_0_2 hx35)) rfl ?_
      rintro _ _ ⟨_, ⟨rfl, rfl⟩, rfl⟩
      refine JL.eff (ef_store_box (i := 3) (v := .agg #[.int .i64 x35.At.X, .int .i64 x35.At.Y, .int .i64 x35.DX, .int .i64 x35.DY]) i126 rfl rfl rfl (i126s).symm (Nat.le_of_ble_eq_true rfl) (by simp [Value.cells, Value.oneCell'])) rfl ?_
      rintro _ _ rfl
      refine JL.nil ?_
      refine JE.weak (env' := [(0, ptrAt b_0 0), (3, ptrAt (some ⟨g1, 0, none⟩) 0), (6, .slice a25 x24.length cp26), (7, .slice a31 x30.length cp32), (8, ptrAt (some ⟨g33, 0, none⟩) 0)]) (es' := [boxO 126 g1 [.int .i64 q1.At.X, .int .i64 q1.At.Y, .int .i64 q1.DX, .int .i64 q1.DY], rowT 35 eSPoint a25 x24.length cp26 x24, rowT 2 eI64 a31 x30.length cp32 x30, boxO 126 g33 [.int .i64 x35.At.X, .int .i64 x35.At.Y, .int .i64 x35.DX, .int .i64 x35.DY]]) [0, 1, 2, 3] ?_ ⟨rfl, rfl, rfl, rfl, rfl, trivial⟩ (by decide) rfl
      refine JE.cont hres ?_
      exact fun a w h => ⟨a25, cp26, a31, cp32, g33, h.weak ⟨rfl, rfl, rfl, rfl, rfl, trivial⟩ [0, 1, 2, 3] (by decide) rfl⟩
    · refine JX.condF rfl hb ?_
      refine JX.exit ?_
      refine JE.qb rfl ?_
      obtain ⟨b1, hb1⟩ : ∃ b : List SPoint × List Int, b = (x14, x15) := ⟨_, rfl⟩
      have hy1 : b1 = y1 := by rw [hb1]; exact hox1 _ (Option.some.inj hres).symm
      have hres := hresO1
      rw [← hy1] at hres
      refine JE.weak (env' := [(6, .slice a17 b1.1.length cp18), (7, .slice a19 b1.2.length cp20)]) (es' := [rowT 35 eSPoint a17 b1.1.length cp18 b1.1, rowT 2 eI64 a19 b1.2.length cp20 b1.2]) [1, 2] ?_ ⟨(by subst hb1; rfl), (by subst hb1; rfl), trivial⟩ (by decide) (by subst hb1; rfl)
      refine JE.code ?_
      refine JX.seq ?_
      refine JX.region ?_
      refine JL.val (yl_move rfl) rfl ?_
      refine JL.val (yl_move rfl) rfl ?_
      refine JL.val (yl_assign rfl) rfl ?_
      refine JL.val (yl_assign rfl) rfl ?_
      refine JL.nil ?_
      refine JE.weak (env' := [(4, .slice a17 b1.1.length cp18), (5, .slice a19 b1.2.length cp20)]) (es' := [rowT 35 eSPoint a17 b1.1.length cp18 b1.1, rowT 2 eI64 a19 b1.2.length cp20 b1.2]) [0, 1] ?_ ⟨rfl, rfl, trivial⟩ (by decide) rfl
      refine JE.code ?_
      refine JX.ret ?_
      obtain rfl := Option.some.inj hres
      refine JE.ret (rs := [.tmp 4, .tmp 5]) (vs := [.slice a17 b1.1.length cp18, .slice a19 b1.2.length cp20]) rfl ⟨rfl, rfl, trivial⟩ ?_
      exact fun w' hb hs => ⟨_, _, ⟨a17, b1.1.length, cp18, rfl, a19, b1.2.length, cp20, rfl, rfl, rfl⟩, rfl, hb, hs.sel [0, 1] _ (by decide) rfl⟩
  · intro K
    rcases Bool.eq_false_or_eq_true ((x14.length : Int) == 0) with hb | hb
    · refine JL.set (d := 15) (v := .bool true) (congrArg (fun b => some (Value.bool b)) hb) ?_
      refine JL.gskip rfl rfl rfl rfl ?_
      refine JL.gskip rfl rfl rfl rfl ?_
      refine JL.gskip rfl rfl rfl rfl ?_
      refine JL.val (yl_pick_true rfl rfl) rfl ?_
      exact JL.weak [0, 1, 2, 3] K ⟨rfl, rfl, rfl, rfl, rfl, (by rw [hb]; rfl), trivial⟩ (by decide) rfl
    · refine JL.set (d := 15) (v := .bool false) (congrArg (fun b => some (Value.bool b)) hb) ?_
      refine JL.gval rfl rfl (yl_loadn Go.Proofs.Try.underlying126 rfl i126 rfl (fun w hC => rd_box hC 3 rfl) rfl (i126s).symm i126p) rfl ?_
      refine JL.gval rfl rfl (yl_loadn Go.Proofs.Try.underlying126 rfl i126 rfl (fun w hC => rd_box hC 0 rfl) rfl (i126s).symm i126p) rfl ?_
      refine JL.gval rfl rfl (yl_binop_of rfl rfl (fun w => eqs126_g _ _ _ _ _ w) (fun w => eqs126_neq x16.At.X x16.At.Y x16.DX x16.DY q1.At.X q1.At.Y q1.DX q1.DY w)) rfl ?_
      refine JL.val (yl_pick_false rfl rfl) rfl ?_
      exact JL.weak [0, 1, 2, 3] K ⟨rfl, rfl, rfl, rfl, rfl, (by rw [hb]; rfl), trivial⟩ (by decide) rfl

/- spec.l03Walker -/
def sh171 (q0 : SPanel) (q1 : Int) : Option (SWalker) := Option.bind (nzI (w64 (2 * q0.H))) fun x3 => Option.bind (nzI (w64 (2 * q0.H))) fun x4 => bif ((w64 (q1.tdiv (w64 (2 * q0.H)))).tmod 2) == 0 then (some (SWalker.mk (SPoint.mk (w64 (q1.tdiv (w64 (2 * q0.H)))) (w64 ((w64 ((w64 ((q1.tmod (w64 (2 * q0.H))).tdiv 2)) * 2)) + 1))) 1 (w64 ((w64 (2 * ((q1.tmod (w64 (2 * q0.H))).tmod 2))) - 1)))) else (Option.bind (bif ((q1.tmod (w64 (2 * q0.H))).tmod 2) == 1 then (some (SWalker.mk (SPoint.mk (w64 (q1.tdiv (w64 (2 * q0.H)))) (w64 ((w64 ((w64 ((q1.tmod (w64 (2 * q0.H))) + 1)).tdiv 2)) * 2))) 1 (-1))) else (some (SWalker.mk (SPoint.mk (w64 (q1.tdiv (w64 (2 * q0.H)))) (w64 ((w64 ((w64 ((q1.tmod (w64 (2 * q0.H))) + 1)).tdiv 2)) * 2))) 1 1))) fun j7 => (some j7))
def T171 (r : SWalker) (v : Value) (rs : List Own) : Prop := v = rets [.agg #[.int .i64 r.At.X, .int .i64 r.At.Y, .int .i64 r.DX, .int .i64 r.DY]] ∧ rs = []
set_option maxRecDepth 100000 in
theorem c171 {w : World} {q0 : SPanel} {a_0 : Option Addr} {n_0 : Nat} {a_0_2 : Option Addr} {n_0_2 c_0_2 : Nat} (g_0 : RdAt w a_0 n_0 [.int .i64 q0.W, .int .i64 q0.H, .slice a_0_2 n_0_2 c_0_2]) (g_0_2 : Rd w a_0_2 (eI64.fl q0.Breaks)) (l_0_2 : q0.Breaks.length = n_0_2) (k_0_2 : n_0_2 ≤ c_0_2) {q1 : Int} {r : SWalker} (hres : sh171 q0 q1 = some r) : Calls Go.Proofs.Try.prog 171 [ptrAt a_0 n_0, .int .i64 q1].toArray w (Ret w (T171 r)) := by
  subst l_0_2
  obtain ⟨b_0, e_0, g_0⟩ := g_0.norm0
  rw [e_0]
  unfold sh171 at hres
  refine calls_of (n := 48) (M := []) (es := []) Go.Proofs.Try.func171 rfl rfl rfl (Sep.nil _ _ _) ?_
  refine JX.seq ?_
  refine JX.region ?_
  refine JL.eff (ef_alloc i126 i126z rfl) rfl ?_
  rintro _ _ ⟨g1, rfl, rfl⟩
  refine JL.nil ?_
  refine JE.code ?_
  refine JX.seq ?_
  refine JX.region ?_
  refine JL.val (yl_move rfl) rfl ?_
  refine JL.val (yl_move rfl) rfl ?_
  refine JL.val (yl_nilCheckAt rfl (Rd.some g_0 (j := 0) rfl)) rfl ?_
  refine JL.val (yl_fieldAt Go.Proofs.Try.underlying28 rfl i2 i2n rfl (Rd.some g_0 (j := 0) rfl)) rfl ?_
  refine JL.val (yl_load1 Go.Proofs.Try.underlying2 rfl rfl (fun w hC => rd_arg g_0 hC) rfl) rfl ?_
  refine JL.val (yl_mul rfl rfl) rfl ?_
  obtain ⟨x3, hx3, hres⟩ := bind_some hres
  refine JL.val (yl_quo rfl rfl (nzI_some hx3)) rfl ?_
  refine JL.val (yl_assign rfl) rfl ?_
  refine JL.nil ?_
  refine JE.weak (env' := [(0, ptrAt b_0 0), (1, .int .i64 q1), (4, ptrAt (some ⟨g1, 0, none⟩) 0), (5, .int .i64 (w64 (q1.tdiv (w64 (2 * q0.H)))))]) (es' := [boxO 126 g1 [.int .i64 0, .int .i64 0, .int .i64 0, .int .i64 0]]) [0] ?_ ⟨rfl, rfl, rfl, rfl, trivial⟩ (by decide) rfl
  refine JE.code ?_
  refine JX.seq ?_
  refine JX.region ?_
  refine JL.val (yl_move rfl) rfl ?_
  refine JL.val (yl_move rfl) rfl ?_
  refine JL.val (yl_nilCheckAt rfl (Rd.some g_0 (j := 0) rfl)) rfl ?_
  refine JL.val (yl_fieldAt Go.Proofs.Try.underlying28 rfl i2 i2n rfl (Rd.some g_0 (j := 0) rfl)) rfl ?_
  refine JL.val (yl_load1 Go.Proofs.Try.underlying2 rfl rfl (fun w hC => rd_arg g_0 hC) rfl) rfl ?_
  refine JL.val (yl_mul rfl rfl) rfl ?_
  obtain ⟨x4, hx4, hres⟩ := bind_some hres
  refine JL.val (yl_rem rfl rfl (nzI_some hx4)) rfl ?_
  refine JL.val (yl_assign rfl) rfl ?_
  refine JL.nil ?_
  refine JE.weak (env' := [(4, ptrAt (some ⟨g1, 0, none⟩) 0), (5, .int .i64 (w64 (q1.tdiv (w64 (2 * q0.H))))), (6, .int .i64 (q1.tmod (w64 (2 * q0.H))))]) (es' := [boxO 126 g1 [.int .i64 0, .int .i64 0, .int .i64 0, .int .i64 0]]) [0] ?_ ⟨rfl, rfl, rfl, trivial⟩ (by decide) rfl
  refine JE.code ?_
  refine JX.seq ?_
  refine JX.seq ?_
  refine JX.region ?_
  refine JL.val (yl_move rfl) rfl ?_
  refine JL.val (yl_rem rfl rfl (by decide)) rfl ?_
  refine JL.val (yl_eql rfl rfl) rfl ?_
  refine JL.nil ?_
  refine JE.code ?_
  rcases cond_some hres with ⟨hb, hres⟩ | ⟨hb, hres⟩
  · refine JX.condT rfl hb ?_
    refine JX.seq ?_
    refine JX.region ?_
    refine JL.val (yl_move rfl) rfl ?_
    refine JL.val (yl_move rfl) rfl ?_
    refine JL.val (yl_quo rfl rfl (by decide)) rfl ?_
    refine JL.val (yl_mul rfl rfl) rfl ?_
    refine JL.val (yl_add rfl rfl) rfl ?_
    refine JL.val (yl_build rfl (fun w => bld35_0_1 (w64 (q1.tdiv (w64 (2 * q0.H)))) (w64 ((w64 ((w64 ((q1.tmod (w64 (2 * q0.H))).tdiv 2)) * 2)) + 1)) w)) rfl ?_
    refine JL.val (yl_move rfl) rfl ?_
    refine JL.val (yl_rem rfl rfl (by decide)) rfl ?_
    refine JL.val (yl_mul rfl rfl) rfl ?_
    refine JL.val (yl_sub rfl rfl) rfl ?_
    refine JL.val (yl_build rfl (fun w => bld126_0_1_2 (w64 (q1.tdiv (w64 (2 * q0.H)))) (w64 ((w64 ((w64 ((q1.tmod (w64 (2 * q0.H))).tdiv 2)) * 2)) + 1)) 1 (w64 ((w64 (2 * ((q1.tmod (w64 (2 * q0.H))).tmod 2))) - 1)) w)) rfl ?_
    refine JL.eff (ef_store_box (i := 0) (v := .agg #[.int .i64 (w64 (q1.tdiv (w64 (2 * q0.H)))), .int .i64 (w64 ((w64 ((w64 ((q1.tmod (w64 (2 * q0.H))).tdiv 2)) * 2)) + 1)), .int .i64 1, .int .i64 (w64 ((w64 (2 * ((q1.tmod (w64 (2 * q0.H))).tmod 2))) - 1))]) i126 rfl rfl rfl (i126s).symm (Nat.le_of_ble_eq_true rfl) (by simp [Value.cells, Value.oneCell'])) rfl ?_
    rintro _ _ rfl
    refine JL.nil ?_
    refine JE.weak (env' := [(4, ptrAt (some ⟨g1, 0, none⟩) 0)]) (es' := [boxO 126 g1 [.int .i64 (w64 (q1.tdiv (w64 (2 * q0.H)))), .int .i64 (w64 ((w64 ((w64 ((q1.tmod (w64 (2 * q0.H))).tdiv 2)) * 2)) + 1)), .int .i64 1, .int .i64 (w64 ((w64 (2 * ((q1.tmod (w64 (2 * q0.H))).tmod 2))) - 1))]]) [0] ?_ ⟨rfl, trivial⟩ (by decide) rfl
    refine JE.code ?_
    refine JX.ret ?_
    obtain rfl := Option.some.inj hres
    refine JE.ret (rs := [.cell 4 126]) (vs := [.agg #[.int .i64 (w64 (q1.tdiv (w64 (2 * q0.H)))), .int .i64 (w64 ((w64 ((w64 ((q1.tmod (w64 (2 * q0.H))).tdiv 2)) * 2)) + 1)), .int .i64 1, .int .i64 (w64 ((w64 (2 * ((q1.tmod (w64 (2 * q0.H))).tmod 2))) - 1))]]) rfl ⟨rv_box 0 rfl rfl Go.Proofs.Try.underlying126 rfl i126 (i126s).symm, trivial⟩ ?_
    exact fun w' hb hs => ⟨_, _, ⟨rfl, rfl⟩, rfl, hb, hs.sel [] _ (by decide) rfl⟩
  · refine JX.condF rfl hb ?_
    refine JX.skip ?_
    refine JE.code ?_
    refine JX.seq ?_
    refine JX.region ?_
    refine JL.val (yl_move rfl) rfl ?_
    refine JL.val (yl_move rfl) rfl ?_
    refine JL.val (yl_add rfl rfl) rfl ?_
    refine JL.val (yl_quo rfl rfl (by decide)) rfl ?_
    refine JL.val (yl_mul rfl rfl) rfl ?_
    refine JL.val (yl_build rfl (fun w => bld35_0_1 (w64 (q1.tdiv (w64 (2 * q0.H)))) (w64 ((w64 ((w64 ((q1.tmod (w64 (2 * q0.H))) + 1)).tdiv 2)) * 2)) w)) rfl ?_
    refine JL.val (yl_build rfl (fun w => bld126_0_1_2 (w64 (q1.tdiv (w64 (2 * q0.H)))) (w64 ((w64 ((w64 ((q1.tmod (w64 (2 * q0.H))) + 1)).tdiv 2)) * 2)) 1 1 w)) rfl ?_
    refine JL.eff (ef_alloc i126 i126z rfl) rfl ?_
    rintro _ _ ⟨g5, rfl, rfl⟩
    refine JL.eff (ef_store_box (i := 1) (v := .agg #[.int .i64 (w64 (q1.tdiv (w64 (2 * q0.H)))), .int .i64 (w64 ((w64 ((w64 ((q1.tmod (w64 (2 * q0.H))) + 1)).tdiv 2)) * 2)), .int .i64 1, .int .i64 1]) i126 rfl rfl rfl (i126s).symm (Nat.le_of_ble_eq_true rfl) (by simp [Value.cells, Value.oneCell'])) rfl ?_
    rintro _ _ rfl
    refine JL.nil ?_
    refine JE.weak (env' := [(4, ptrAt (some ⟨g1, 0, none⟩) 0), (6, .int .i64 (q1.tmod (w64 (2 * q0.H)))), (7, ptrAt (some ⟨g5, 0, none⟩) 0)]) (es' := [boxO 126 g1 [.int .i64 0, .int .i64 0, .int .i64 0, .int .i64 0], boxO 126 g5 [.int .i64 (w64 (q1.tdiv (w64 (2 * q0.H)))), .int .i64 (w64 ((w64 ((w64 ((q1.tmod (w64 (2 * q0.H))) + 1)).tdiv 2)) * 2)), .int .i64 1, .int .i64 1]]) [0, 1] ?_ ⟨rfl, rfl, rfl, trivial⟩ (by decide) rfl
    refine JE.code ?_
    refine JX.seq ?_
    refine JX.seq ?_
    refine JX.region ?_
    refine JL.val (yl_move rfl) rfl ?_
    refine JL.val (yl_rem rfl rfl (by decide)) rfl ?_
    refine JL.val (yl_eql rfl rfl) rfl ?_
    refine JL.nil ?_
    refine JE.code ?_
    obtain ⟨j7, hj7, hresj7⟩ := bind_some hres
    refine JX.cut (K := fun J => J [(4, ptrAt (some ⟨g1, 0, none⟩) 0), (7, ptrAt (some ⟨g5, 0, none⟩) 0)] [boxO 126 g1 [.int .i64 0, .int .i64 0, .int .i64 0, .int .i64 0], boxO 126 g5 [.int .i64 j7.At.X, .int .i64 j7.At.Y, .int .i64 j7.DX, .int .i64 j7.DY]]) ?_ ?_
    · have hres := hresj7
      refine JE.code ?_
      refine JX.seq ?_
      refine JX.region ?_
      refine JL.val (yl_loadn Go.Proofs.Try.underlying126 rfl i126 rfl (fun w hC => rd_box hC 1 rfl) rfl (i126s).symm i126p) rfl ?_
      refine JL.eff (ef_store_box (i := 0) (v := .agg #[.int .i64 j7.At.X, .int .i64 j7.At.Y, .int .i64 j7.DX, .int .i64 j7.DY]) i126 rfl rfl rfl (i126s).symm (Nat.le_of_ble_eq_true rfl) (by simp [Value.cells, Value.oneCell'])) rfl ?_
      rintro _ _ rfl
      refine JL.nil ?_
      refine JE.weak (env' := [(4, ptrAt (some ⟨g1, 0, none⟩) 0)]) (es' := [boxO 126 g1 [.int .i64 j7.At.X, .int .i64 j7.At.Y, .int .i64 j7.DX, .int .i64 j7.DY]]) [0] ?_ ⟨rfl, trivial⟩ (by decide) rfl
      refine JE.code ?_
      refine JX.ret ?_
      obtain rfl := Option.some.inj hres
      refine JE.ret (rs := [.cell 4 126]) (vs := [.agg #[.int .i64 j7.At.X, .int .i64 j7.At.Y, .int .i64 j7.DX, .int .i64 j7.DY]]) rfl ⟨rv_box 0 rfl rfl Go.Proofs.Try.underlying126 rfl i126 (i126s).symm, trivial⟩ ?_
      exact fun w' hb hs => ⟨_, _, ⟨rfl, rfl⟩, rfl, hb, hs.sel [] _ (by decide) rfl⟩
    · intro K
      rcases cond_some hj7 with ⟨hb, hres⟩ | ⟨hb, hres⟩
      · refine JX.condT rfl hb ?_
        refine JX.region ?_
        refine JL.val (yl_fieldAt (a := some _) Go.Proofs.Try.underlying126 rfl i2 i2n rfl rfl) rfl ?_
        refine JL.eff (ef_store_box (i := 1) (v := .int .i64 (-1)) i2 rfl rfl rfl (i2s).symm (Nat.le_of_ble_eq_true rfl) (by simp [Value.cells, Value.oneCell'])) rfl ?_
        rintro _ _ rfl
        refine JL.nil ?_
        have hj := Option.some.inj hres
        exact JE.weak [0, 1] (K) ⟨(by subst hj; rfl), (by subst hj; rfl), trivial⟩ (by decide) (by subst hj; rfl)
      · refine JX.condF rfl hb ?_
        refine JX.skip ?_
        have hj := Option.some.inj hres
        exact JE.weak [0, 1] (K) ⟨(by subst hj; rfl), (by subst hj; rfl), trivial⟩ (by decide) (by subst hj; rfl)

/- spec.l04All -/
def sh116_3 (x21 : List (List SPoint)) (x29 : List SPoint × List Int) : (Int × List Int) → Option ((Int × List Int) ⊕ (List Int))
  | (x37, x38) => bif decide (x37 < (x29.2.length : Int)) then (Option.bind (getI x29.2 x37) fun x40 => Option.bind (getI x38 x40) fun x41 => some (.inl (w64 (x37 + 1), x38.set (x40).toNat ((x21.length : Nat) : Int)))) else (some (.inr x38))
def sh116_2 (q0 : SPanel) : (Int × List Int × List (List SPoint)) → Option ((Int × List Int × List (List SPoint)) ⊕ (List Int × List (List SPoint)))
  | (x19, x20, x21) => bif decide (x19 < (w64 ((w64 (4 * q0.W)) * q0.H))) then (Option.bind (getI x20 x19) fun x27 => bif decide (0 ≤ x27) then (some (.inl (w64 (x19 + 1), x20, x21))) else (Option.bind (sh171 q0 x19) fun x28 => Option.bind (sh170 q0 x28) fun x29 => Option.bind (iter (sh116_3 x21 x29) (0, x20)) fun b3 => (Option.bind (appL x21 [x29.1]) fun x45 => some (.inl (w64 (x19 + 1), b3, x45))))) else (some (.inr (x20, x21)))
def sh116_1 (q0 : SPanel) : (Int × List Int) → Option ((Int × List Int) ⊕ (List Int))
  | (x6, x7) => bif decide (x6 < (w64 ((w64 (4 * q0.W)) * q0.H))) then (Option.bind (getI x7 x6) fun x9 => some (.inl (w64 (x6 + 1), x7.set (x6).toNat (-1)))) else (some (.inr x7))
def sh116 (q0 : SPanel) : Option (List (List SPoint) × List Int) := Option.bind (mkL (w64 ((w64 (4 * q0.W)) * q0.H)) 0) fun x2 => Option.bind (iter (sh116_1 q0) (0, x2)) fun b1 => (Option.bind (iter (sh116_2 q0) (0, b1, ([] : List (List SPoint)))) fun b2 => (some (b2.2, b2.1)))
def T116 (r : List (List SPoint) × List Int) (v : Value) (rs : List Own) : Prop := ∃ (a0 : Option Addr) (n0 c0 : Nat) (h0 : List Hd), r.1.length = n0 ∧ Inn h0 r.1 ∧ ∃ (a1 : Option Addr) (n1 c1 : Nat), r.2.length = n1 ∧ v = rets [.slice a0 n0 c0, .slice a1 n1 c1] ∧ rs = [rowT 61 eHd a0 n0 c0 h0, innO 35 eSPoint none h0 r.1, rowT 2 eI64 a1 n1 c1 r.2]
set_option maxRecDepth 100000 in
set_option maxHeartbeats 1000000 in
theorem c116 {w : World} {q0 : SPanel} {a_0 : Option Addr} {n_0 : Nat} {a_0_2 : Option Addr} {n_0_2 c_0_2 : Nat} (g_0 : RdAt w a_0 n_0 [.int .i64 q0.W, .int .i64 q0.H, .slice a_0_2 n_0_2 c_0_2]) (g_0_2 : Rd w a_0_2 (eI64.fl q0.Breaks)) (l_0_2 : q0.Breaks.length = n_0_2) (k_0_2 : n_0_2 ≤ c_0_2) {r : List (List SPoint) × List Int} (hres : sh116 q0 = some r) : Calls Go.Proofs.Try.prog 116 [ptrAt a_0 n_0].toArray w (Ret w (T116 r)) := by
  subst l_0_2
  obtain ⟨b_0, e_0, g_0⟩ := g_0.norm0
  rw [e_0]
  unfold sh116 at hres
  refine calls_of (n := 71) (M := []) (es := []) Go.Proofs.Try.func116 rfl rfl rfl (Sep.nil _ _ _) ?_
  refine JX.seq ?_
  refine JX.region ?_
  refine JL.val (yl_assign rfl) rfl ?_
  refine JL.val (yl_assign rfl) rfl ?_
  refine JL.nil ?_
  refine JE.code ?_
  refine JX.seq ?_
  refine JX.drawH [(0, .pure), (1, .pure), (2, .pure), (3, .read), (4, .pure), (5, .pure), (6, .pure), (7, .pure), (8, .read), (9, .pure), (10, .pure)] [] [] [] [] [] mixedP (by kernel_rfl) (by kernel_rfl) (by decide) rfl rfl ?_
  intro wrr1 Nr1 hFr1
  refine JH.pure rfl (yl_move rfl) rfl ?_
  refine JH.pure rfl (yl_nilCheckAt rfl (Rd.some g_0 (j := 0) rfl)) rfl ?_
  refine JH.pure rfl (yl_fieldAt Go.Proofs.Try.underlying28 rfl i2 i2n rfl (Rd.some g_0 (j := 0) rfl)) rfl ?_
  refine JH.read rfl (yl_load1 Go.Proofs.Try.underlying2 rfl rfl (fun w hw => hFr1.arg g_0 hw) rfl) rfl ?_
  refine JH.pure rfl (yl_mul rfl rfl) rfl ?_
  refine JH.pure rfl (yl_move rfl) rfl ?_
  refine JH.pure rfl (yl_nilCheckAt rfl (Rd.some g_0 (j := 0) rfl)) rfl ?_
  refine JH.pure rfl (yl_fieldAt Go.Proofs.Try.underlying28 rfl i2 i2n rfl (Rd.some g_0 (j := 0) rfl)) rfl ?_
  refine JH.read rfl (yl_load1 Go.Proofs.Try.underlying2 rfl rfl (fun w hw => hFr1.arg g_0 hw) rfl) rfl ?_
  refine JH.pure rfl (yl_mul rfl rfl) rfl ?_
  refine JH.pure rfl (yl_assign rfl) rfl ?_
  refine JH.nil ?_
  refine JE.weak (env' := [(0, ptrAt b_0 0), (4, .int .i64 (w64 ((w64 (4 * q0.W)) * q0.H)))]) (es' := []) [] ?_ ⟨rfl, rfl, trivial⟩ (by decide) rfl
  refine JE.code ?_
  refine JX.seq ?_
  refine JX.region ?_
  refine JL.val (yl_move rfl) rfl ?_
  obtain ⟨x2, hx2, hres⟩ := bind_some hres
  refine JL.eff (ef_makeS (e := eI64) Go.Proofs.Try.underlying22 i2 i2s i2z rfl i2b1 rfl rfl hx2) rfl ?_
  rintro _ _ ⟨a3, rfl, rfl⟩
  refine JL.val (yl_assign rfl) rfl ?_
  refine JL.nil ?_
  refine JE.code ?_
  refine JX.seq ?_
  refine JX.seq ?_
  refine JX.region ?_
  refine JL.val (yl_assign rfl) rfl ?_
  refine JL.nil ?_
  refine JE.code ?_
  refine JX.block ?_
  obtain ⟨y1, hy1, hresO1⟩ := bind_some hres
  refine JX.loop (I := fun (s1 : Int × List Int) aa ww => ∃ (l5 : s1.2.length = x2.length), St w [] 71 [(0, ptrAt b_0 0), (4, .int .i64 (w64 ((w64 (4 * q0.W)) * q0.H))), (5, .slice a3 x2.length x2.length), (6, .int .i64 s1.1)] [rowT 2 eI64 a3 x2.length x2.length s1.2] aa ww) (sh116_1 q0) hy1 (fun a w h => ⟨rfl, h.weak ⟨rfl, rfl, rfl, rfl, trivial⟩ [0] (by decide) rfl⟩) ?_
  rintro ⟨x6, x7⟩ o1 hres hox1 aa ww ⟨l8, hS⟩
  refine (?_ : JX Go.Proofs.Try.prog w [] 71 _ _ [(0, ptrAt b_0 0), (4, .int .i64 (w64 ((w64 (4 * q0.W)) * q0.H))), (5, .slice a3 x2.length x2.length), (6, .int .i64 x6)] [rowT 2 eI64 a3 x2.length x2.length x7] _) aa ww hS
  clear hS
  simp only [sh116_1] at hres
  refine JX.seq ?_
  refine JX.seq ?_
  refine JX.region ?_
  refine JL.val (yl_move rfl) rfl ?_
  refine JL.val (yl_move rfl) rfl ?_
  refine JL.val (yl_lss rfl rfl) rfl ?_
  refine JL.nil ?_
  refine JE.code ?_
  rcases cond_some hres with ⟨hb, hres⟩ | ⟨hb, hres⟩
  · refine JX.condT rfl hb ?_
    refine JX.skip ?_
    refine JE.code ?_
    refine JX.seq ?_
    refine JX.block ?_
    refine JX.region ?_
    refine JL.val (yl_move rfl) rfl ?_
    refine JL.val (yl_move rfl) rfl ?_
    obtain ⟨x9, hx9, hres⟩ := bind_some hres
    refine JL.val (yl_idxT Go.Proofs.Try.underlying22 i2 i2s rfl rfl hx9 l8 (fun w hC => rd_row hC 0 rfl)) rfl ?_
    refine JL.eff (ef_storeT (ix := 0) (u := (-1)) i2 i2s rfl rfl rfl hx9 rfl) rfl ?_
    rintro _ _ rfl
    refine JL.nil ?_
    refine JE.weak (env' := [(0, ptrAt b_0 0), (4, .int .i64 (w64 ((w64 (4 * q0.W)) * q0.H))), (5, .slice a3 x2.length x2.length), (6, .int .i64 x6)]) (es' := [rowT 2 eI64 a3 x2.length x2.length (x7.set (x6).toNat (-1))]) [0] ?_ ⟨rfl, rfl, rfl, rfl, trivial⟩ (by decide) rfl
    refine JE.code ?_
    refine JX.region ?_
    refine JL.val (yl_move rfl) rfl ?_
    refine JL.val (yl_add rfl rfl) rfl ?_
    refine JL.val (yl_assign rfl) rfl ?_
    refine JL.nil ?_
    refine JE.cont hres ?_
    exact fun a w h => ⟨(List.length_set.trans l8), h.weak ⟨rfl, rfl, rfl, rfl, trivial⟩ [0] (by decide) rfl⟩
  · refine JX.condF rfl hb ?_
    refine JX.exit ?_
    refine JE.qb rfl ?_
    obtain ⟨b1, hb1⟩ : ∃ b : List Int, b = x7 := ⟨_, rfl⟩
    have hy1 : b1 = y1 := by rw [hb1]; exact hox1 _ (Option.some.inj hres).symm
    have hres := hresO1
    rw [← hy1] at hres
    have l10 : b1.length = x2.length := by subst hb1; exact l8
    refine JE.weak (env' := [(0, ptrAt b_0 0), (4, .int .i64 (w64 ((w64 (4 * q0.W)) * q0.H))), (5, .slice a3 x2.length x2.length)]) (es' := [rowT 2 eI64 a3 x2.length x2.length b1]) [0] ?_ ⟨(by subst hb1; rfl), (by subst hb1; rfl), (by subst hb1; rfl), trivial⟩ (by decide) (by subst hb1; rfl)
    refine JE.code ?_
    refine JX.seq ?_
    refine JX.region ?_
    refine JL.eff (ef_buildSlice (E := 61) (k := eHd.k) (us := eHd.fl ([] : List Hd)) rfl (fun w => bsl40_0  w) rfl (by decide)) rfl ?_
    rintro _ _ ⟨a11, rfl, rfl⟩
    refine JL.nilinn 35 eSPoint ?_
    refine JL.val (yl_assign rfl) rfl ?_
    refine JL.nil ?_
    refine JE.code ?_
    refine JX.seq ?_
    refine JX.seq ?_
    refine JX.region ?_
    refine JL.val (yl_assign rfl) rfl ?_
    refine JL.nil ?_
    refine JE.code ?_
    refine JX.block ?_
    obtain ⟨y2, hy2, hresO2⟩ := bind_some hres
    refine JX.loop (I := fun (s2 : Int × List Int × List (List SPoint)) aa ww => ∃ (l14 : s2.2.1.length = x2.length) (a15 : Option Addr) (cp16 : Nat) (hs17 : List Hd) (hi18 : Inn hs17 s2.2.2), St w [] 71 [(0, ptrAt b_0 0), (4, .int .i64 (w64 ((w64 (4 * q0.W)) * q0.H))), (5, .slice a3 x2.length x2.length), (7, .slice a15 s2.2.2.length cp16), (8, .int .i64 s2.1)] [rowT 2 eI64 a3 x2.length x2.length s2.2.1, rowT 61 eHd a15 s2.2.2.length cp16 hs17, innO 35 eSPoint none hs17 s2.2.2] aa ww) (sh116_2 q0) hy2 (fun a w h => ⟨l10, a11, 0, ([] : List Hd), (Inn.nil (T := SPoint)), h.weak ⟨rfl, rfl, rfl, rfl, rfl, trivial⟩ [0, 1, 2] (by decide) rfl⟩) ?_
    rintro ⟨x19, x20, x21⟩ o2 hres hox2 aa ww ⟨l22, a23, cp24, hs25, hi26, hS⟩
    refine (?_ : JX Go.Proofs.Try.prog w [] 71 _ _ [(0, ptrAt b_0 0), (4, .int .i64 (w64 ((w64 (4 * q0.W)) * q0.H))), (5, .slice a3 x2.length x2.length), (7, .slice a23 x21.length cp24), (8, .int .i64 x19)] [rowT 2 eI64 a3 x2.length x2.length x20, rowT 61 eHd a23 x21.length cp24 hs25, innO 35 eSPoint none hs25 x21] _) aa ww hS
    clear hS
    simp only [sh116_2] at hres
    refine JX.seq ?_
    refine JX.seq ?_
    refine JX.region ?_
    refine JL.val (yl_move rfl) rfl ?_
    refine JL.val (yl_move rfl) rfl ?_
    refine JL.val (yl_lss rfl rfl) rfl ?_
    refine JL.nil ?_
    refine JE.code ?_
    rcases cond_some hres with ⟨hb, hres⟩ | ⟨hb, hres⟩
    · refine JX.condT rfl hb ?_
      refine JX.skip ?_
      refine JE.code ?_
      refine JX.seq ?_
      refine JX.block ?_
      refine JX.seq ?_
      refine JX.seq ?_
      refine JX.region ?_
      refine JL.val (yl_move rfl) rfl ?_
      refine JL.val (yl_move rfl) rfl ?_
      obtain ⟨x27, hx27, hres⟩ := bind_some hres
      refine JL.val (yl_idxT Go.Proofs.Try.underlying22 i2 i2s rfl rfl hx27 l22 (fun w hC => rd_row hC 0 rfl)) rfl ?_
      refine JL.val (yl_loadT0 Go.Proofs.Try.underlying2 rfl rfl hx27 (fun w hC => rd_row hC 0 rfl) rfl) rfl ?_
      refine JL.val (yl_geq rfl rfl) rfl ?_
      refine JL.nil ?_
      refine JE.weak (env' := [(0, ptrAt b_0 0), (4, .int .i64 (w64 ((w64 (4 * q0.W)) * q0.H))), (5, .slice a3 x2.length x2.length), (7, .slice a23 x21.length cp24), (8, .int .i64 x19), (42, .bool (decide (0 ≤ x27)))]) (es' := [rowT 2 eI64 a3 x2.length x2.length x20, rowT 61 eHd a23 x21.length cp24 hs25, innO 35 eSPoint none hs25 x21]) [0, 1, 2] ?_ ⟨rfl, rfl, rfl, rfl, rfl, rfl, trivial⟩ (by decide) rfl
      refine JE.code ?_
      rcases cond_some hres with ⟨hb, hres⟩ | ⟨hb, hres⟩
      · refine JX.condT rfl hb ?_
        refine JX.exit ?_
        refine JE.qb rfl ?_
        refine JE.code ?_
        refine JX.region ?_
        refine JL.val (yl_move rfl) rfl ?_
        refine JL.val (yl_add rfl rfl) rfl ?_
        refine JL.val (yl_assign rfl) rfl ?_
        refine JL.nil ?_
        refine JE.cont hres ?_
        exact fun a w h => ⟨l22, a23, cp24, hs25, hi26, h.weak ⟨rfl, rfl, rfl, (by first | rfl | (simp only [List.length_set, l22]; rfl) | simp only [List.length_set, l22]), rfl, trivial⟩ [0, 1, 2] (by decide) (by first | rfl | (simp only [List.length_set, l22]; rfl) | simp only [List.length_set, l22])⟩
      · refine JX.condF rfl hb ?_
        refine JX.skip ?_
        refine JE.code ?_
        refine JX.seq ?_
        refine JX.region ?_
        refine JL.val (yl_move rfl) rfl ?_
        refine JL.val (yl_move rfl) rfl ?_
        refine JL.val (yl_move rfl) rfl ?_
        obtain ⟨x28, hx28, hres⟩ := bind_some hres
        refine JL.eff (ef_call (T := T171 x28) Go.Proofs.Try.func171 rfl (by kernel_rfl) rfl (fun w hC => c171 (RdAt.of0 (rd_arg g_0 hC)) (rd_arg g_0_2 hC) rfl k_0_2 hx28)) rfl ?_
        rintro _ _ ⟨_, ⟨rfl, rfl⟩, rfl⟩
        obtain ⟨x29, hx29, hres⟩ := bind_some hres
        refine JL.eff (ef_call (vs := [ptrAt b_0 0, .agg #[.int .i64 x28.At.X, .int .i64 x28.At.Y, .int .i64 x28.DX, .int .i64 x28.DY]]) (T := T170 x29) Go.Proofs.Try.func170 rfl (by kernel_rfl) rfl (fun w hC => c170 (q1 := x28) (RdAt.of0 (rd_arg g_0 hC)) (rd_arg g_0_2 hC) rfl k_0_2 hx29)) rfl ?_
        rintro _ _ ⟨_, ⟨a30, _, cp31, rfl, a33, _, cp34, rfl, rfl, rfl⟩, rfl⟩
        refine JL.val (yl_move rfl) rfl ?_
        refine JL.val (yl_extract rfl rfl) rfl ?_
        refine JL.val (yl_extract rfl rfl) rfl ?_
        refine JL.val (yl_assign rfl) rfl ?_
        refine JL.val (yl_assign rfl) rfl ?_
        refine JL.nil ?_
        refine JE.weak (env' := [(0, ptrAt b_0 0), (4, .int .i64 (w64 ((w64 (4 * q0.W)) * q0.H))), (5, .slice a3 x2.length x2.length), (7, .slice a23 x21.length cp24), (8, .int .i64 x19), (9, .slice a30 x29.1.length cp31), (10, .slice a33 x29.2.length cp34)]) (es' := [rowT 2 eI64 a3 x2.length x2.length x20, rowT 61 eHd a23 x21.length cp24 hs25, innO 35 eSPoint none hs25 x21, rowT 35 eSPoint a30 x29.1.length cp31 x29.1, rowT 2 eI64 a33 x29.2.length cp34 x29.2]) [0, 1, 2, 3, 4] ?_ ⟨rfl, rfl, rfl, rfl, rfl, rfl, rfl, trivial⟩ (by decide) rfl
        refine JE.code ?_
        refine JX.seq ?_
        refine JX.seq ?_
        refine JX.region ?_
        refine JL.val (yl_assign rfl) rfl ?_
        refine JL.nil ?_
        refine JE.code ?_
        refine JX.block ?_
        obtain ⟨y3, hy3, hresO3⟩ := bind_some hres
        refine JX.loop (I := fun (s3 : Int × List Int) aa ww => ∃ (l36 : s3.2.length = x2.length), St w [] 71 [(0, ptrAt b_0 0), (4, .int .i64 (w64 ((w64 (4 * q0.W)) * q0.H))), (5, .slice a3 x2.length x2.length), (7, .slice a23 x21.length cp24), (8, .int .i64 x19), (9, .slice a30 x29.1.length cp31), (10, .slice a33 x29.2.length cp34), (11, .int .i64 s3.1)] [rowT 2 eI64 a3 x2.length x2.length s3.2, rowT 61 eHd a23 x21.length cp24 hs25, innO 35 eSPoint none hs25 x21, rowT 35 eSPoint a30 x29.1.length cp31 x29.1, rowT 2 eI64 a33 x29.2.length cp34 x29.2] aa ww) (sh116_3 x21 x29) hy3 (fun a w h => ⟨l22, h.weak ⟨rfl, rfl, rfl, rfl, rfl, rfl, rfl, rfl, trivial⟩ [0, 1, 2, 3, 4] (by decide) rfl⟩) ?_
        rintro ⟨x37, x38⟩ o3 hres hox3 aa ww ⟨l39, hS⟩
        refine (?_ : JX Go.Proofs.Try.prog w [] 71 _ _ [(0, ptrAt b_0 0), (4, .int .i64 (w64 ((w64 (4 * q0.W)) * q0.H))), (5, .slice a3 x2.length x2.length), (7, .slice a23 x21.length cp24), (8, .int .i64 x19), (9, .slice a30 x29.1.length cp31), (10, .slice a33 x29.2.length cp34), (11, .int .i64 x37)] [rowT 2 eI64 a3 x2.length x2.length x38, rowT 61 eHd a23 x21.length cp24 hs25, innO 35 eSPoint none hs25 x21, rowT 35 eSPoint a30 x29.1.length cp31 x29.1, rowT 2 eI64 a33 x29.2.length cp34 x29.2] _) aa ww hS
        clear hS
        simp only [sh116_3] at hres
        refine JX.seq ?_
        refine JX.seq ?_
        refine JX.region ?_
        refine JL.val (yl_move rfl) rfl ?_
        refine JL.val (yl_move rfl) rfl ?_
        refine JL.val (yl_len_slice Go.Proofs.Try.underlying22 rfl) rfl ?_
        refine JL.val (yl_lss rfl rfl) rfl ?_
        refine JL.nil ?_
        refine JE.weak (env' := [(0, ptrAt b_0 0), (4, .int .i64 (w64 ((w64 (4 * q0.W)) * q0.H))), (5, .slice a3 x2.length x2.length), (7, .slice a23 x21.length cp24), (8, .int .i64 x19), (9, .slice a30 x29.1.length cp31), (10, .slice a33 x29.2.length cp34), (11, .int .i64 x37), (54, .bool (decide (x37 < (x29.2.length : Int))))]) (es' := [rowT 2 eI64 a3 x2.length x2.length x38, rowT 61 eHd a23 x21.length cp24 hs25, innO 35 eSPoint none hs25 x21, rowT 35 eSPoint a30 x29.1.length cp31 x29.1, rowT 2 eI64 a33 x29.2.length cp34 x29.2]) [0, 1, 2, 3, 4] ?_ ⟨rfl, rfl, rfl, rfl, rfl, rfl, rfl, rfl, rfl, trivial⟩ (by decide) rfl
        refine JE.code ?_
        rcases cond_some hres with ⟨hb, hres⟩ | ⟨hb, hres⟩
        · refine JX.condT rfl hb ?_
          refine JX.skip ?_
          refine JE.code ?_
          refine JX.seq ?_
          refine JX.block ?_
          refine JX.region ?_
          refine JL.val (yl_move rfl) rfl ?_
          refine JL.val (yl_move rfl) rfl ?_
          refine JL.val (yl_move rfl) rfl ?_
          obtain ⟨x40, hx40, hres⟩ := bind_some hres
          refine JL.val (yl_idxT Go.Proofs.Try.underlying22 i2 i2s rfl rfl hx40 rfl (fun w hC => rd_row hC 4 rfl)) rfl ?_
          refine JL.val (yl_loadT0 Go.Proofs.Try.underlying2 rfl rfl hx40 (fun w hC => rd_row hC 4 rfl) rfl) rfl ?_
          refine JL.val (yl_move rfl) rfl ?_
          refine JL.val (yl_len_slice Go.Proofs.Try.underlying40 rfl) rfl ?_
          obtain ⟨x41, hx41, hres⟩ := bind_some hres
          refine JL.val (yl_idxT Go.Proofs.Try.underlying22 i2 i2s rfl rfl hx41 l39 (fun w hC => rd_row hC 0 rfl)) rfl ?_
          refine JL.eff (ef_storeT (ix := 0) (u := ((x21.length : Nat) : Int)) i2 i2s rfl rfl rfl hx41 rfl) rfl ?_
          rintro _ _ rfl
          refine JL.nil ?_
          refine JE.weak (env' := [(0, ptrAt b_0 0), (4, .int .i64 (w64 ((w64 (4 * q0.W)) * q0.H))), (5, .slice a3 x2.length x2.length), (7, .slice a23 x21.length cp24), (8, .int .i64 x19), (9, .slice a30 x29.1.length cp31), (10, .slice a33 x29.2.length cp34), (11, .int .i64 x37)]) (es' := [rowT 2 eI64 a3 x2.length x2.length (x38.set (x40).toNat ((x21.length : Nat) : Int)), rowT 61 eHd a23 x21.length cp24 hs25, innO 35 eSPoint none hs25 x21, rowT 35 eSPoint a30 x29.1.length cp31 x29.1, rowT 2 eI64 a33 x29.2.length cp34 x29.2]) [0, 1, 2, 3, 4] ?_ ⟨rfl, rfl, rfl, rfl, rfl, rfl, rfl, rfl, trivial⟩ (by decide) rfl
          refine JE.code ?_
          refine JX.region ?_
          refine JL.val (yl_move rfl) rfl ?_
          refine JL.val (yl_add rfl rfl) rfl ?_
          refine JL.val (yl_assign rfl) rfl ?_
          refine JL.nil ?_
          refine JE.cont hres ?_
          exact fun a w h => ⟨(List.length_set.trans l39), h.weak ⟨rfl, rfl, rfl, rfl, rfl, rfl, rfl, rfl, trivial⟩ [0, 1, 2, 3, 4] (by decide) rfl⟩
        · refine JX.condF rfl hb ?_
          refine JX.exit ?_
          refine JE.qb rfl ?_
          obtain ⟨b3, hb3⟩ : ∃ b : List Int, b = x38 := ⟨_, rfl⟩
          have hy3 : b3 = y3 := by rw [hb3]; exact hox3 _ (Option.some.inj hres).symm
          have hres := hresO3
          rw [← hy3] at hres
          have l42 : b3.length = x2.length := by subst hb3; exact l39
          refine JE.weak (env' := [(0, ptrAt b_0 0), (4, .int .i64 (w64 ((w64 (4 * q0.W)) * q0.H))), (5, .slice a3 x2.length x2.length), (7, .slice a23 x21.length cp24), (8, .int .i64 x19), (9, .slice a30 x29.1.length cp31)]) (es' := [rowT 2 eI64 a3 x2.length x2.length b3, rowT 61 eHd a23 x21.length cp24 hs25, innO 35 eSPoint none hs25 x21, rowT 35 eSPoint a30 x29.1.length cp31 x29.1]) [0, 1, 2, 3] ?_ ⟨(by subst hb3; rfl), (by subst hb3; rfl), (by subst hb3; rfl), (by subst hb3; rfl), (by subst hb3; rfl), (by subst hb3; rfl), trivial⟩ (by decide) (by subst hb3; rfl)
          refine JE.code ?_
          refine JX.region ?_
          refine JL.val (yl_move rfl) rfl ?_
          refine JL.val (yl_move rfl) rfl ?_
          refine JL.eff (ef_buildSlice (E := 61) (k := eHd.k) (us := eHd.fl [⟨a30, x29.1.length, cp31⟩]) rfl (fun w => bsl40_1 a30 x29.1.length cp31 w) rfl (by decide)) rfl ?_
          rintro _ _ ⟨a43, rfl, rfl⟩
          obtain ⟨x45, hx45, hres⟩ := bind_some hres
          refine JL.eff (ef_appendH (ix := 1) Go.Proofs.Try.underlying40 i61 i61z i61s rfl i61b0 i61b1 rfl rfl (Inn.len hi26) rfl rfl (fun w hC => rd_row hC 4 rfl) hx45 hi26) rfl ?_
          rintro _ _ ⟨a46, cp47, rfl, rfl⟩
          refine JL.absorb (es' := [rowT 2 eI64 a3 x2.length x2.length b3, rowT 61 eHd a46 x45.length cp47 (hs25 ++ [⟨a30, x29.1.length, cp31⟩]), rowT 61 eHd a43 1 1 [⟨a30, x29.1.length, cp31⟩]]) [0, 1, 4, 2, 3] (by decide) rfl (appL_some hx45).2 ?_
          refine JL.val (yl_assign rfl) rfl ?_
          refine JL.nil ?_
          refine JE.weak (env' := [(0, ptrAt b_0 0), (4, .int .i64 (w64 ((w64 (4 * q0.W)) * q0.H))), (5, .slice a3 x2.length x2.length), (7, .slice a46 x45.length cp47), (8, .int .i64 x19)]) (es' := [rowT 2 eI64 a3 x2.length x2.length b3, rowT 61 eHd a46 x45.length cp47 (hs25 ++ [⟨a30, x29.1.length, cp31⟩]), innO 35 eSPoint none (hs25 ++ [⟨a30, x29.1.length, cp31⟩]) x45]) [0, 1, 3] ?_ ⟨rfl, rfl, rfl, rfl, rfl, trivial⟩ (by decide) rfl
          refine JE.code ?_
          refine JX.region ?_
          refine JL.val (yl_move rfl) rfl ?_
          refine JL.val (yl_add rfl rfl) rfl ?_
          refine JL.val (yl_assign rfl) rfl ?_
          refine JL.nil ?_
          refine JE.cont hres ?_
          exact fun a w h => ⟨l42, a46, cp47, hs25 ++ [⟨a30, x29.1.length, cp31⟩], (Inn.appZ hi26 rfl (appL_some hx45).2), h.weak ⟨rfl, rfl, rfl, (by first | rfl | (simp only [List.length_set, l42]; rfl) | simp only [List.length_set, l42]), rfl, trivial⟩ [0, 1, 2] (by decide) (by first | rfl | (simp only [List.length_set, l42]; rfl) | simp only [List.length_set, l42])⟩
    · refine JX.condF rfl hb ?_
      refine JX.exit ?_
      refine JE.qb rfl ?_
      obtain ⟨b2, hb2⟩ : ∃ b : List Int × List (List SPoint), b = (x20, x21) := ⟨_, rfl⟩
      have hy2 : b2 = y2 := by rw [hb2]; exact hox2 _ (Option.some.inj hres).symm
      have hres := hresO2
      rw [← hy2] at hres
      have l48 : b2.1.length = x2.length := by subst hb2; exact l22
      have hi52 : Inn hs25 b2.2 := by subst hb2; exact hi26
      refine JE.weak (env' := [(5, .slice a3 x2.length x2.length), (7, .slice a23 b2.2.length cp24)]) (es' := [rowT 2 eI64 a3 x2.length x2.length b2.1, rowT 61 eHd a23 b2.2.length cp24 hs25, innO 35 eSPoint none hs25 b2.2]) [0, 1, 2] ?_ ⟨(by subst hb2; rfl), (by subst hb2; first | rfl | (simp only [List.length_set, l22]; rfl) | simp only [List.length_set, l22]), trivial⟩ (by decide) (by subst hb2; first | rfl | (simp only [List.length_set, l22]; rfl) | simp only [List.length_set, l22])
      refine JE.code ?_
      refine JX.seq ?_
      refine JX.region ?_
      refine JL.val (yl_move rfl) rfl ?_
      refine JL.val (yl_move rfl) rfl ?_
      refine JL.val (yl_assign rfl) rfl ?_
      refine JL.val (yl_assign rfl) rfl ?_
      refine JL.nil ?_
      refine JE.weak (env' := [(2, .slice a23 b2.2.length cp24), (3, .slice a3 x2.length x2.length)]) (es' := [rowT 61 eHd a23 b2.2.length cp24 hs25, innO 35 eSPoint none hs25 b2.2, rowT 2 eI64 a3 x2.length x2.length b2.1]) [1, 2, 0] ?_ ⟨rfl, rfl, trivial⟩ (by decide) rfl
      refine JE.code ?_
      refine JX.ret ?_
      obtain rfl := Option.some.inj hres
      refine JE.ret (rs := [.tmp 2, .tmp 3]) (vs := [.slice a23 b2.2.length cp24, .slice a3 x2.length x2.length]) rfl ⟨rfl, rfl, trivial⟩ ?_
      exact fun w' hb hs => ⟨_, _, ⟨a23, b2.2.length, cp24, hs25, rfl, hi52, a3, x2.length, x2.length, l48, rfl, rfl⟩, rfl, hb, hs.sel [0, 1, 2] _ (by decide) rfl⟩

/- spec.l04Meet -/
def sh154_1 (q0 : SPanel) (q1 : List Int) (q2 : SPoint) : (Int × List Int) → Option ((Int × List Int) ⊕ (List Int))
  | (x7, x8) => bif decide (x7 < 4) then (Option.bind (sh117 q0 (SWalker.mk q2 (w64 ((w64 ((x7.tmod 2) * 2)) - 1)) (w64 ((w64 ((w64 (x7.tdiv 2)) * 2)) - 1)))) fun x13 => Option.bind (getI q1 x13) fun x14 => Option.bind (appL x8 [x14]) fun x17 => some (.inl (w64 (x7 + 1), x17))) else (some (.inr x8))
def sh154 (q0 : SPanel) (q1 : List Int) (q2 : SPoint) : Option (List Int) := Option.bind (iter (sh154_1 q0 q1 q2) (0, ([] : List Int))) fun b1 => (some b1)
def T154 (r : List Int) (v : Value) (rs : List Own) : Prop := ∃ (a0 : Option Addr) (n0 c0 : Nat), r.length = n0 ∧ v = rets [.slice a0 n0 c0] ∧ rs = [rowT 2 eI64 a0 n0 c0 r]
set_option maxRecDepth 100000 in
theorem c154 {w : World} {q0 : SPanel} {a_0 : Option Addr} {n_0 : Nat} {a_0_2 : Option Addr} {n_0_2 c_0_2 : Nat} (g_0 : RdAt w a_0 n_0 [.int .i64 q0.W, .int .i64 q0.H, .slice a_0_2 n_0_2 c_0_2]) (g_0_2 : Rd w a_0_2 (eI64.fl q0.Breaks)) (l_0_2 : q0.Breaks.length = n_0_2) (k_0_2 : n_0_2 ≤ c_0_2) {q1 : List Int} {a_1 : Option Addr} {n_1 c_1 : Nat} (g_1 : Rd w a_1 (eI64.fl q1)) (l_1 : q1.length = n_1) (k_1 : n_1 ≤ c_1) {q2 : SPoint} {r : List Int} (hres : sh154 q0 q1 q2 = some r) : Calls Go.Proofs.Try.prog 154 [ptrAt a_0 n_0, .slice a_1 n_1 c_1, .agg #[.int .i64 q2.X, .int .i64 q2.Y]].toArray w (Ret w (T154 r)) := by
  subst l_0_2
  obtain ⟨b_0, e_0, g_0⟩ := g_0.norm0
  rw [e_0]
  subst l_1
  unfold sh154 at hres
  refine calls_of (n := 35) (M := []) (es := []) Go.Proofs.Try.func154 rfl rfl rfl (Sep.nil _ _ _) ?_
  refine JX.seq ?_
  refine JX.region ?_
  refine JL.eff (ef_box rfl rfl) rfl ?_
  rintro _ _ ⟨g1, rfl, rfl⟩
  refine JL.val (yl_assign rfl) rfl ?_
  refine JL.nil ?_
  refine JE.code ?_
  refine JX.seq ?_
  refine JX.region ?_
  refine JL.eff (ef_buildSlice (E := 2) (k := eI64.k) (us := eI64.fl ([] : List Int)) rfl (fun w => bsl22_0  w) rfl (by decide)) rfl ?_
  rintro _ _ ⟨a3, rfl, rfl⟩
  refine JL.val (yl_assign rfl) rfl ?_
  refine JL.nil ?_
  refine JE.code ?_
  refine JX.seq ?_
  refine JX.seq ?_
  refine JX.region ?_
  refine JL.val (yl_assign rfl) rfl ?_
  refine JL.nil ?_
  refine JE.code ?_
  refine JX.block ?_
  obtain ⟨y1, hy1, hresO1⟩ := bind_some hres
  refine JX.loop (I := fun (s1 : Int × List Int) aa ww => ∃ (a5 : Option Addr) (cp6 : Nat), St w [] 35 [(0, ptrAt b_0 0), (1, .slice a_1 q1.length c_1), (5, ptrAt (some ⟨g1, 0, none⟩) 0), (7, .slice a5 s1.2.length cp6), (8, .int .i64 s1.1)] [boxO 35 g1 [.int .i64 q2.X, .int .i64 q2.Y], rowT 2 eI64 a5 s1.2.length cp6 s1.2] aa ww) (sh154_1 q0 q1 q2) hy1 (fun a w h => ⟨a3, 0, h.weak ⟨rfl, rfl, rfl, rfl, rfl, trivial⟩ [0, 1] (by decide) rfl⟩) ?_
  rintro ⟨x7, x8⟩ o1 hres hox1 aa ww ⟨a9, cp10, hS⟩
  refine (?_ : JX Go.Proofs.Try.prog w [] 35 _ _ [(0, ptrAt b_0 0), (1, .slice a_1 q1.length c_1), (5, ptrAt (some ⟨g1, 0, none⟩) 0), (7, .slice a9 x8.length cp10), (8, .int .i64 x7)] [boxO 35 g1 [.int .i64 q2.X, .int .i64 q2.Y], rowT 2 eI64 a9 x8.length cp10 x8] _) aa ww hS
  clear hS
  simp only [sh154_1] at hres
  refine JX.seq ?_
  refine JX.seq ?_
  refine JX.region ?_
  refine JL.val (yl_move rfl) rfl ?_
  refine JL.val (yl_lss rfl rfl) rfl ?_
  refine JL.nil ?_
  refine JE.code ?_
  rcases cond_some hres with ⟨hb, hres⟩ | ⟨hb, hres⟩
  · refine JX.condT rfl hb ?_
    refine JX.skip ?_
    refine JE.code ?_
    refine JX.seq ?_
    refine JX.block ?_
    refine JX.seq ?_
    refine JX.region ?_
    refine JL.val (yl_loadn Go.Proofs.Try.underlying35 rfl i35 rfl (fun w hC => rd_box hC 0 rfl) rfl (i35s).symm i35p) rfl ?_
    refine JL.val (yl_move rfl) rfl ?_
    refine JL.val (yl_rem rfl rfl (by decide)) rfl ?_
    refine JL.val (yl_mul rfl rfl) rfl ?_
    refine JL.val (yl_sub rfl rfl) rfl ?_
    refine JL.val (yl_move rfl) rfl ?_
    refine JL.val (yl_quo rfl rfl (by decide)) rfl ?_
    refine JL.val (yl_mul rfl rfl) rfl ?_
    refine JL.val (yl_sub rfl rfl) rfl ?_
    refine JL.val (yl_build rfl (fun w => bld126_0_1_2 q2.X q2.Y (w64 ((w64 ((x7.tmod 2) * 2)) - 1)) (w64 ((w64 ((w64 (x7.tdiv 2)) * 2)) - 1)) w)) rfl ?_
    refine JL.eff (ef_alloc i126 i126z rfl) rfl ?_
    rintro _ _ ⟨g11, rfl, rfl⟩
    refine JL.eff (ef_store_box (i := 2) (v := .agg #[.int .i64 q2.X, .int .i64 q2.Y, .int .i64 (w64 ((w64 ((x7.tmod 2) * 2)) - 1)), .int .i64 (w64 ((w64 ((w64 (x7.tdiv 2)) * 2)) - 1))]) i126 rfl rfl rfl (i126s).symm (Nat.le_of_ble_eq_true rfl) (by simp [Value.cells, Value.oneCell'])) rfl ?_
    rintro _ _ rfl
    refine JL.nil ?_
    refine JE.weak (env' := [(0, ptrAt b_0 0), (1, .slice a_1 q1.length c_1), (5, ptrAt (some ⟨g1, 0, none⟩) 0), (7, .slice a9 x8.length cp10), (8, .int .i64 x7), (9, ptrAt (some ⟨g11, 0, none⟩) 0)]) (es' := [boxO 35 g1 [.int .i64 q2.X, .int .i64 q2.Y], rowT 2 eI64 a9 x8.length cp10 x8, boxO 126 g11 [.int .i64 q2.X, .int .i64 q2.Y, .int .i64 (w64 ((w64 ((x7.tmod 2) * 2)) - 1)), .int .i64 (w64 ((w64 ((w64 (x7.tdiv 2)) * 2)) - 1))]]) [0, 1, 2] ?_ ⟨rfl, rfl, rfl, rfl, rfl, rfl, trivial⟩ (by decide) rfl
    refine JE.code ?_
    refine JX.region ?_
    refine JL.val (yl_move rfl) rfl ?_
    refine JL.val (yl_move rfl) rfl ?_
    refine JL.val (yl_move rfl) rfl ?_
    refine JL.val (yl_loadn Go.Proofs.Try.underlying126 rfl i126 rfl (fun w hC => rd_box hC 2 rfl) rfl (i126s).symm i126p) rfl ?_
    obtain ⟨x13, hx13, hres⟩ := bind_some hres
    refine JL.eff (ef_call (vs := [ptrAt b_0 0, .agg #[.int .i64 q2.X, .int .i64 q2.Y, .int .i64 (w64 ((w64 ((x7.tmod 2) * 2)) - 1)), .int .i64 (w64 ((w64 ((w64 (x7.tdiv 2)) * 2)) - 1))]]) (T := T117 x13) Go.Proofs.Try.func117 rfl (by kernel_rfl) rfl (fun w hC => c117 (q1 := SWalker.mk q2 (w64 ((w64 ((x7.tmod 2) * 2)) - 1)) (w64 ((w64 ((w64 (x7.tdiv 2)) * 2)) - 1))) (RdAt.of0 (rd_arg g_0 hC)) (rd_arg g_0_2 hC) rfl k_0_2 hx13)) rfl ?_
    rintro _ _ ⟨_, ⟨rfl, rfl⟩, rfl⟩
    obtain ⟨x14, hx14, hres⟩ := bind_some hres
    refine JL.val (yl_idxT Go.Proofs.Try.underlying22 i2 i2s rfl rfl hx14 rfl (fun w hC => rd_arg g_1 hC)) rfl ?_
    refine JL.val (yl_loadT0 Go.Proofs.Try.underlying2 rfl rfl hx14 (fun w hC => rd_arg g_1 hC) rfl) rfl ?_
    refine JL.eff (ef_buildSlice (E := 2) (k := eI64.k) (us := eI64.fl [x14]) rfl (fun w => bsl22_1 x14 w) rfl (by decide)) rfl ?_
    rintro _ _ ⟨a15, rfl, rfl⟩
    obtain ⟨x17, hx17, hres⟩ := bind_some hres
    refine JL.eff (ef_appendT (ix := 1) Go.Proofs.Try.underlying22 i2 i2z i2s rfl i2b0 i2b1 rfl rfl rfl rfl rfl (fun w hC => rd_row hC 3 rfl) hx17) rfl ?_
    rintro _ _ ⟨a18, cp19, rfl, rfl⟩
    refine JL.val (yl_assign rfl) rfl ?_
    refine JL.nil ?_
    refine JE.weak (env' := [(0, ptrAt b_0 0), (1, .slice a_1 q1.length c_1), (5, ptrAt (some ⟨g1, 0, none⟩) 0), (7, .slice a18 x17.length cp19), (8, .int .i64 x7)]) (es' := [boxO 35 g1 [.int .i64 q2.X, .int .i64 q2.Y], rowT 2 eI64 a18 x17.length cp19 x17]) [0, 1] ?_ ⟨rfl, rfl, rfl, rfl, rfl, trivial⟩ (by decide) rfl
    refine JE.code ?_
    refine JX.region ?_
    refine JL.val (yl_move rfl) rfl ?_
    refine JL.val (yl_add rfl rfl) rfl ?_
    refine JL.val (yl_assign rfl) rfl ?_
    refine JL.nil ?_
    refine JE.cont hres ?_
    exact fun a w h => ⟨a18, cp19, h.weak ⟨rfl, rfl, rfl, rfl, rfl, trivial⟩ [0, 1] (by decide) rfl⟩
  · refine JX.condF rfl hb ?_
    refine JX.exit ?_
    refine JE.qb rfl ?_
    obtain ⟨b1, hb1⟩ : ∃ b : List Int, b = x8 := ⟨_, rfl⟩
    have hy1 : b1 = y1 := by rw [hb1]; exact hox1 _ (Option.some.inj hres).symm
    have hres := hresO1
    rw [← hy1] at hres
    refine JE.weak (env' := [(7, .slice a9 b1.length cp10)]) (es' := [rowT 2 eI64 a9 b1.length cp10 b1]) [1] ?_ ⟨(by subst hb1; rfl), trivial⟩ (by decide) (by subst hb1; rfl)
    refine JE.code ?_
    refine JX.seq ?_
    refine JX.region ?_
    refine JL.val (yl_move rfl) rfl ?_
    refine JL.val (yl_assign rfl) rfl ?_
    refine JL.nil ?_
    refine JE.code ?_
    refine JX.ret ?_
    obtain rfl := Option.some.inj hres
    refine JE.ret (rs := [.tmp 6]) (vs := [.slice a9 b1.length cp10]) rfl ⟨rfl, trivial⟩ ?_
    exact fun w' hb hs => ⟨_, _, ⟨a9, b1.length, cp10, rfl, rfl, rfl⟩, rfl, hb, hs.sel [0] _ (by decide) rfl⟩

/- spec.l02Point -/
def sh155_1 (q0 : SPanel) (q1 : Int) : Int → Option (Int ⊕ (Int))
  | x3 => Option.bind (bif decide ((w64 (x3 + 1)) < (w64 (2 * q0.H))) then (Option.bind (sh182 q0 (w64 (x3 + 1))) fun x5 => some (decide (x5 ≤ q1))) else (some false)) fun cb4 => (bif cb4 then (some (.inl (w64 (x3 + 1)))) else (some (.inr x3)))
def sh155 (q0 : SPanel) (q1 : Int) : Option (SPoint) := Option.bind (iter (sh155_1 q0 q1) 1) fun b1 => (Option.bind (sh182 q0 b1) fun x6 => some (SPoint.mk (w64 ((w64 ((w64 (2 * (w64 (q1 - x6)))) + 1)) + (b1.tmod 2))) b1))
def T155 (r : SPoint) (v : Value) (rs : List Own) : Prop := v = rets [.agg #[.int .i64 r.X, .int .i64 r.Y]] ∧ rs = []
set_option maxRecDepth 100000 in
theorem c155 {w : World} {q0 : SPanel} {a_0 : Option Addr} {n_0 : Nat} {a_0_2 : Option Addr} {n_0_2 c_0_2 : Nat} (g_0 : RdAt w a_0 n_0 [.int .i64 q0.W, .int .i64 q0.H, .slice a_0_2 n_0_2 c_0_2]) (g_0_2 : Rd w a_0_2 (eI64.fl q0.Breaks)) (l_0_2 : q0.Breaks.length = n_0_2) (k_0_2 : n_0_2 ≤ c_0_2) {q1 : Int} {r : SPoint} (hres : sh155 q0 q1 = some r) : Calls Go.Proofs.Try.prog 155 [ptrAt a_0 n_0, .int .i64 q1].toArray w (Ret w (T155 r)) := by
  subst l_0_2
  obtain ⟨b_0, e_0, g_0⟩ := g_0.norm0
  rw [e_0]
  unfold sh155 at hres
  refine calls_of (n := 36) (M := []) (es := []) Go.Proofs.Try.func155 rfl rfl rfl (Sep.nil _ _ _) ?_
  refine JX.seq ?_
  refine JX.region ?_
  refine JL.eff (ef_alloc i35 i35z rfl) rfl ?_
  rintro _ _ ⟨g1, rfl, rfl⟩
  refine JL.nil ?_
  refine JE.code ?_
  refine JX.seq ?_
  refine JX.region ?_
  refine JL.val (yl_assign rfl) rfl ?_
  refine JL.nil ?_
  refine JE.code ?_
  refine JX.seq ?_
  refine JX.block ?_
  obtain ⟨y1, hy1, hresO1⟩ := bind_some hres
  refine JX.loop (I := fun (s1 : Int) aa ww => St w [] 36 [(0, ptrAt b_0 0), (1, .int .i64 q1), (4, ptrAt (some ⟨g1, 0, none⟩) 0), (5, .int .i64 s1)] [boxO 35 g1 [.int .i64 0, .int .i64 0]] aa ww) (sh155_1 q0 q1) hy1 (fun a w h => h.weak ⟨rfl, rfl, rfl, rfl, trivial⟩ [0] (by decide) rfl) ?_
  rintro x3 o1 hres hox1 aa ww hS
  refine (?_ : JX Go.Proofs.Try.prog w [] 36 _ _ [(0, ptrAt b_0 0), (1, .int .i64 q1), (4, ptrAt (some ⟨g1, 0, none⟩) 0), (5, .int .i64 x3)] [boxO 35 g1 [.int .i64 0, .int .i64 0]] _) aa ww hS
  clear hS
  unfold sh155_1 at hres
  refine JX.seq ?_
  refine JX.seq ?_
  refine JX.region ?_
  refine JL.val (yl_move rfl) rfl ?_
  refine JL.val (yl_add rfl rfl) rfl ?_
  refine JL.val (yl_move rfl) rfl ?_
  refine JL.val (yl_nilCheckAt rfl (Rd.some g_0 (j := 0) rfl)) rfl ?_
  refine JL.val (yl_fieldAt Go.Proofs.Try.underlying28 rfl i2 i2n rfl (Rd.some g_0 (j := 0) rfl)) rfl ?_
  refine JL.val (yl_load1 Go.Proofs.Try.underlying2 rfl rfl (fun w hC => rd_arg g_0 hC) rfl) rfl ?_
  refine JL.val (yl_mul rfl rfl) rfl ?_
  refine JL.val (yl_lss rfl rfl) rfl ?_
  refine JL.val (yl_move rfl) rfl ?_
  obtain ⟨cb4, hcb4, hres⟩ := bind_some hres
  refine JL.cut (K := fun J => J [(0, ptrAt b_0 0), (1, .int .i64 q1), (4, ptrAt (some ⟨g1, 0, none⟩) 0), (5, .int .i64 x3), (21, .bool cb4)] [boxO 35 g1 [.int .i64 0, .int .i64 0]]) 7 ?_ ?_
  · refine JL.nil ?_
    refine JE.weak (env' := [(0, ptrAt b_0 0), (1, .int .i64 q1), (4, ptrAt (some ⟨g1, 0, none⟩) 0), (5, .int .i64 x3), (21, .bool cb4)]) (es' := [boxO 35 g1 [.int .i64 0, .int .i64 0]]) [0] ?_ ⟨rfl, rfl, rfl, rfl, rfl, trivial⟩ (by decide) rfl
    refine JE.code ?_
    rcases cond_some hres with ⟨hb, hres⟩ | ⟨hb, hres⟩
    · refine JX.condT rfl hb ?_
      refine JX.skip ?_
      refine JE.code ?_
      refine JX.block ?_
      refine JX.region ?_
      refine JL.val (yl_move rfl) rfl ?_
      refine JL.val (yl_add rfl rfl) rfl ?_
      refine JL.val (yl_assign rfl) rfl ?_
      refine JL.nil ?_
      refine JE.cont hres ?_
      exact fun a w h => h.weak ⟨rfl, rfl, rfl, rfl, trivial⟩ [0] (by decide) rfl
    · refine JX.condF rfl hb ?_
      refine JX.exit ?_
      refine JE.qb rfl ?_
      obtain ⟨b1, hb1⟩ : ∃ b : Int, b = x3 := ⟨_, rfl⟩
      have hy1 : b1 = y1 := by rw [hb1]; exact hox1 _ (Option.some.inj hres).symm
      have hres := hresO1
      rw [← hy1] at hres
      refine JE.weak (env' := [(0, ptrAt b_0 0), (1, .int .i64 q1), (4, ptrAt (some ⟨g1, 0, none⟩) 0), (5, .int .i64 b1)]) (es' := [boxO 35 g1 [.int .i64 0, .int .i64 0]]) [0] ?_ ⟨(by subst hb1; rfl), (by subst hb1; rfl), (by subst hb1; rfl), (by subst hb1; rfl), trivial⟩ (by decide) (by subst hb1; rfl)
      refine JE.code ?_
      refine JX.seq ?_
      refine JX.region ?_
      refine JL.val (yl_move rfl) rfl ?_
      refine JL.val (yl_move rfl) rfl ?_
      refine JL.val (yl_move rfl) rfl ?_
      obtain ⟨x6, hx6, hres⟩ := bind_some hres
      refine JL.eff (ef_call (T := T182 x6) Go.Proofs.Try.func182 rfl (by kernel_rfl) rfl (fun w hC => c182 (RdAt.of0 (rd_arg g_0 hC)) (rd_arg g_0_2 hC) rfl k_0_2 hx6)) rfl ?_
      rintro _ _ ⟨_, ⟨rfl, rfl⟩, rfl⟩
      refine JL.val (yl_sub rfl rfl) rfl ?_
      refine JL.val (yl_mul rfl rfl) rfl ?_
      refine JL.val (yl_add rfl rfl) rfl ?_
      refine JL.val (yl_move rfl) rfl ?_
      refine JL.val (yl_rem rfl rfl (by decide)) rfl ?_
      refine JL.val (yl_add rfl rfl) rfl ?_
      refine JL.val (yl_move rfl) rfl ?_
      refine JL.val (yl_build rfl (fun w => bld35_0_1 (w64 ((w64 ((w64 (2 * (w64 (q1 - x6)))) + 1)) + (b1.tmod 2))) b1 w)) rfl ?_
      refine JL.eff (ef_store_box (i := 0) (v := .agg #[.int .i64 (w64 ((w64 ((w64 (2 * (w64 (q1 - x6)))) + 1)) + (b1.tmod 2))), .int .i64 b1]) i35 rfl rfl rfl (i35s).symm (Nat.le_of_ble_eq_true rfl) (by simp [Value.cells, Value.oneCell'])) rfl ?_
      rintro _ _ rfl
      refine JL.nil ?_
      refine JE.weak (env' := [(4, ptrAt (some ⟨g1, 0, none⟩) 0)]) (es' := [boxO 35 g1 [.int .i64 (w64 ((w64 ((w64 (2 * (w64 (q1 - x6)))) + 1)) + (b1.tmod 2))), .int .i64 b1]]) [0] ?_ ⟨rfl, trivial⟩ (by decide) rfl
      refine JE.code ?_
      refine JX.ret ?_
      obtain rfl := Option.some.inj hres
      refine JE.ret (rs := [.cell 4 35]) (vs := [.agg #[.int .i64 (w64 ((w64 ((w64 (2 * (w64 (q1 - x6)))) + 1)) + (b1.tmod 2))), .int .i64 b1]]) rfl ⟨rv_box 0 rfl rfl Go.Proofs.Try.underlying35 rfl i35 (i35s).symm, trivial⟩ ?_
      exact fun w' hb hs => ⟨_, _, ⟨rfl, rfl⟩, rfl, hb, hs.sel [] _ (by decide) rfl⟩
  · intro K
    rcases cond_some hcb4 with ⟨hb, hres⟩ | ⟨hb, hres⟩
    · refine JL.set (d := 14) (v := .bool true) (congrArg (fun b => some (Value.bool b)) hb) ?_
      refine JL.gval rfl rfl (yl_move rfl) rfl ?_
      refine JL.gval rfl rfl (yl_move rfl) rfl ?_
      refine JL.gval rfl rfl (yl_add rfl rfl) rfl ?_
      obtain ⟨x5, hx5, hres⟩ := bind_some hres
      refine JL.geff rfl rfl (ef_call (T := T182 x5) Go.Proofs.Try.func182 rfl (by kernel_rfl) rfl (fun w hC => c182 (RdAt.of0 (rd_arg g_0 hC)) (rd_arg g_0_2 hC) rfl k_0_2 hx5)) rfl ?_
      rintro _ _ ⟨_, ⟨rfl, rfl⟩, rfl⟩
      refine JL.gval rfl rfl (yl_move rfl) rfl ?_
      refine JL.gval rfl rfl (yl_leq rfl rfl) rfl ?_
      refine JL.val (yl_pick_true rfl rfl) rfl ?_
      have he := Option.some.inj hres
      exact JL.weak [0] K ⟨rfl, rfl, rfl, rfl, (by rw [← he]; rfl), trivial⟩ (by decide) rfl
    · refine JL.set (d := 14) (v := .bool false) (congrArg (fun b => some (Value.bool b)) hb) ?_
      refine JL.gskip rfl rfl rfl rfl ?_
      refine JL.gskip rfl rfl rfl rfl ?_
      refine JL.gskip rfl rfl rfl rfl ?_
      refine JL.gskip rfl rfl rfl rfl ?_
      refine JL.gskip rfl rfl rfl rfl ?_
      refine JL.gskip rfl rfl rfl rfl ?_
      refine JL.val (yl_pick_false rfl rfl) rfl ?_
      have he := Option.some.inj hres
      exact JL.weak [0] K ⟨rfl, rfl, rfl, rfl, (by rw [← he]; rfl), trivial⟩ (by decide) rfl

/- spec.l21Cross -/
def sh94_2 (q0 : SPanel) (x1 : List (List SPoint) × List Int) : (Int × List (List Bool)) → Option ((Int × List (List Bool)) ⊕ (List (List Bool)))
  | (x37, x38) => bif decide (x37 < (q0.Breaks.length : Int)) then (Option.bind (sh155 q0 x37) fun x40 => Option.bind (sh154 q0 x1.2 x40) fun x41 => Option.bind (getI x41 (0 : Int)) fun x45 => Option.bind (getI x41 (1 : Int)) fun x46 => Option.bind (getI q0.Breaks x37) fun x47 => Option.bind (bif (x47 == 0) && (x45 != x46) then (Option.bind (getI x38 x45) fun x50 => Option.bind (getI x50 x46) fun x54 => Option.bind (getI (x38.set (x45).toNat (x50.set (x46).toNat true)) x46) fun x56 => Option.bind (getI x56 x45) fun x60 => some ((x38.set (x45).toNat (x50.set (x46).toNat true)).set (x46).toNat (x56.set (x45).toNat true))) else (some x38)) fun j48 => (some (.inl (w64 (x37 + 1), j48)))) else (some (.inr x38))
def sh94_1 (x1 : List (List SPoint) × List Int) : (Int × List (List Bool)) → Option ((Int × List (List Bool)) ⊕ (List (List Bool)))
  | (x18, x19) => bif decide (x18 < ((x1.1.length : Nat) : Int)) then (Option.bind (mkL ((x1.1.length : Nat) : Int) false) fun x24 => Option.bind (appL x19 [x24]) fun x29 => some (.inl (w64 (x18 + 1), x29))) else (some (.inr x19))
def sh94 (q0 : SPanel) : Option (List (List Bool)) := Option.bind (sh116 q0) fun x1 => Option.bind (iter (sh94_1 x1) (0, ([] : List (List Bool)))) fun b1 => (Option.bind (iter (sh94_2 q0 x1) (0, b1)) fun b2 => (some b2))
def T94 (r : List (List Bool)) (v : Value) (rs : List Own) : Prop := ∃ (a0 : Option Addr) (n0 c0 : Nat) (h0 : List Hd), r.length = n0 ∧ Inn h0 r ∧ v = rets [.slice a0 n0 c0] ∧ rs = [rowT 104 eHd a0 n0 c0 h0, innO 4 eBool none h0 r]
set_option maxRecDepth 100000 in
set_option maxHeartbeats 1000000 in
theorem c94 {w : World} {q0 : SPanel} {a_0 : Option Addr} {n_0 : Nat} {a_0_2 : Option Addr} {n_0_2 c_0_2 : Nat} (g_0 : RdAt w a_0 n_0 [.int .i64 q0.W, .int .i64 q0.H, .slice a_0_2 n_0_2 c_0_2]) (g_0_2 : Rd w a_0_2 (eI64.fl q0.Breaks)) (l_0_2 : q0.Breaks.length = n_0_2) (k_0_2 : n_0_2 ≤ c_0_2) {r : List (List Bool)} (hres : sh94 q0 = some r) : Calls Go.Proofs.Try.prog 94 [ptrAt a_0 n_0].toArray w (Ret w (T94 r)) := by
  subst l_0_2
  obtain ⟨b_0, e_0, g_0⟩ := g_0.norm0
  rw [e_0]
  unfold sh94 at hres
  refine calls_of (n := 81) (M := []) (es := []) Go.Proofs.Try.func94 rfl rfl rfl (Sep.nil _ _ _) ?_
  refine JX.seq ?_
  refine JX.region ?_
  refine JL.val (yl_assign rfl) rfl ?_
  refine JL.nil ?_
  refine JE.code ?_
  refine JX.seq ?_
  refine JX.region ?_
  refine JL.val (yl_move rfl) rfl ?_
  obtain ⟨x1, hx1, hres⟩ := bind_some hres
  refine JL.eff (ef_call (T := T116 x1) Go.Proofs.Try.func116 rfl (by kernel_rfl) rfl (fun w hC => c116 (RdAt.of0 (rd_arg g_0 hC)) (rd_arg g_0_2 hC) rfl k_0_2 hx1)) rfl ?_
  rintro _ _ ⟨_, ⟨a2, _, cp3, hs5, rfl, hi6, a8, _, cp9, rfl, rfl, rfl⟩, rfl⟩
  refine JL.val (yl_move rfl) rfl ?_
  refine JL.val (yl_extract rfl rfl) rfl ?_
  refine JL.val (yl_extract rfl rfl) rfl ?_
  refine JL.val (yl_assign rfl) rfl ?_
  refine JL.val (yl_assign rfl) rfl ?_
  refine JL.nil ?_
  refine JE.weak (env' := [(0, ptrAt b_0 0), (3, .slice a2 x1.1.length cp3), (4, .slice a8 x1.2.length cp9)]) (es' := [rowT 61 eHd a2 x1.1.length cp3 hs5, innO 35 eSPoint none hs5 x1.1, rowT 2 eI64 a8 x1.2.length cp9 x1.2]) [0, 1, 2] ?_ ⟨rfl, rfl, rfl, trivial⟩ (by decide) rfl
  refine JE.code ?_
  refine JX.seq ?_
  refine JX.region ?_
  refine JL.val (yl_move rfl) rfl ?_
  refine JL.val (yl_len_slice Go.Proofs.Try.underlying40 rfl) rfl ?_
  refine JL.val (yl_assign rfl) rfl ?_
  refine JL.nil ?_
  refine JE.weak (env' := [(0, ptrAt b_0 0), (4, .slice a8 x1.2.length cp9), (5, .int .i64 ((x1.1.length : Nat) : Int))]) (es' := [rowT 2 eI64 a8 x1.2.length cp9 x1.2]) [2] ?_ ⟨rfl, rfl, rfl, trivial⟩ (by decide) rfl
  refine JE.code ?_
  refine JX.seq ?_
  refine JX.region ?_
  refine JL.eff (ef_buildSlice (E := 104) (k := eHd.k) (us := eHd.fl ([] : List Hd)) rfl (fun w => bsl99_0  w) rfl (by decide)) rfl ?_
  rintro _ _ ⟨a11, rfl, rfl⟩
  refine JL.nilinn 4 eBool ?_
  refine JL.val (yl_assign rfl) rfl ?_
  refine JL.nil ?_
  refine JE.code ?_
  refine JX.seq ?_
  refine JX.seq ?_
  refine JX.region ?_
  refine JL.val (yl_assign rfl) rfl ?_
  refine JL.nil ?_
  refine JE.code ?_
  refine JX.block ?_
  obtain ⟨y1, hy1, hresO1⟩ := bind_some hres
  refine JX.loop (I := fun (s1 : Int × List (List Bool)) aa ww => ∃ (a14 : Option Addr) (cp15 : Nat) (hs16 : List Hd) (hi17 : Inn hs16 s1.2), St w [] 81 [(0, ptrAt b_0 0), (4, .slice a8 x1.2.length cp9), (5, .int .i64 ((x1.1.length : Nat) : Int)), (6, .slice a14 s1.2.length cp15), (7, .int .i64 s1.1)] [rowT 2 eI64 a8 x1.2.length cp9 x1.2, rowT 104 eHd a14 s1.2.length cp15 hs16, innO 4 eBool none hs16 s1.2] aa ww) (sh94_1 x1) hy1 (fun a w h => ⟨a11, 0, ([] : List Hd), (Inn.nil (T := Bool)), h.weak ⟨rfl, rfl, rfl, rfl, rfl, trivial⟩ [0, 1, 2] (by decide) rfl⟩) ?_
  rintro ⟨x18, x19⟩ o1 hres hox1 aa ww ⟨a20, cp21, hs22, hi23, hS⟩
  refine (?_ : JX Go.Proofs.Try.prog w [] 81 _ _ [(0, ptrAt b_0 0), (4, .slice a8 x1.2.length cp9), (5, .int .i64 ((x1.1.length : Nat) : Int)), (6, .slice a20 x19.length cp21), (7, .int .i64 x18)] [rowT 2 eI64 a8 x1.2.length cp9 x1.2, rowT 104 eHd a20 x19.length cp21 hs22, innO 4 eBool none hs22 x19] _) aa ww hS
  clear hS
  simp only [sh94_1] at hres
  refine JX.seq ?_
  refine JX.seq ?_
  refine JX.region ?_
  refine JL.val (yl_move rfl) rfl ?_
  refine JL.val (yl_move rfl) rfl ?_
  refine JL.val (yl_lss rfl rfl) rfl ?_
  refine JL.nil ?_
  refine JE.code ?_
  rcases cond_some hres with ⟨hb, hres⟩ | ⟨hb, hres⟩
  · refine JX.condT rfl hb ?_
    refine JX.skip ?_
    refine JE.code ?_
    refine JX.seq ?_
    refine JX.block ?_
    refine JX.region ?_
    refine JL.val (yl_move rfl) rfl ?_
    refine JL.val (yl_move rfl) rfl ?_
    obtain ⟨x24, hx24, hres⟩ := bind_some hres
    refine JL.eff (ef_makeS (e := eBool) Go.Proofs.Try.underlying104 i4 i4s i4z rfl i4b1 rfl rfl hx24) rfl ?_
    rintro _ _ ⟨a25, rfl, rfl⟩
    refine JL.eff (ef_buildSlice (E := 104) (k := eHd.k) (us := eHd.fl [⟨a25, x24.length, x24.length⟩]) rfl (fun w => bsl99_1 a25 x24.length x24.length w) rfl (by decide)) rfl ?_
    rintro _ _ ⟨a27, rfl, rfl⟩
    obtain ⟨x29, hx29, hres⟩ := bind_some hres
    refine JL.eff (ef_appendH (ix := 1) Go.Proofs.Try.underlying99 i104 i104z i104s rfl i104b0 i104b1 rfl rfl (Inn.len hi23) rfl rfl (fun w hC => rd_row hC 4 rfl) hx29 hi23) rfl ?_
    rintro _ _ ⟨a30, cp31, rfl, rfl⟩
    refine JL.absorb (es' := [rowT 2 eI64 a8 x1.2.length cp9 x1.2, rowT 104 eHd a30 x29.length cp31 (hs22 ++ [⟨a25, x24.length, x24.length⟩]), rowT 104 eHd a27 1 1 [⟨a25, x24.length, x24.length⟩]]) [0, 1, 4, 2, 3] (by decide) rfl (appL_some hx29).2 ?_
    refine JL.val (yl_assign rfl) rfl ?_
    refine JL.nil ?_
    refine JE.weak (env' := [(0, ptrAt b_0 0), (4, .slice a8 x1.2.length cp9), (5, .int .i64 ((x1.1.length : Nat) : Int)), (6, .slice a30 x29.length cp31), (7, .int .i64 x18)]) (es' := [rowT 2 eI64 a8 x1.2.length cp9 x1.2, rowT 104 eHd a30 x29.length cp31 (hs22 ++ [⟨a25, x24.length, x24.length⟩]), innO 4 eBool none (hs22 ++ [⟨a25, x24.length, x24.length⟩]) x29]) [0, 1, 3] ?_ ⟨rfl, rfl, rfl, rfl, rfl, trivial⟩ (by decide) rfl
    refine JE.code ?_
    refine JX.region ?_
    refine JL.val (yl_move rfl) rfl ?_
    refine JL.val (yl_add rfl rfl) rfl ?_
    refine JL.val (yl_assign rfl) rfl ?_
    refine JL.nil ?_
    refine JE.cont hres ?_
    exact fun a w h => ⟨a30, cp31, hs22 ++ [⟨a25, x24.length, x24.length⟩], (Inn.appZ hi23 rfl (appL_some hx29).2), h.weak ⟨rfl, rfl, rfl, (by first | rfl | (simp only [List.length_set]; rfl) | simp only [List.length_set]), rfl, trivial⟩ [0, 1, 2] (by decide) (by first | rfl | (simp only [List.length_set]; rfl) | simp only [List.length_set])⟩
  · refine JX.condF rfl hb ?_
    refine JX.exit ?_
    refine JE.qb rfl ?_
    obtain ⟨b1, hb1⟩ : ∃ b : List (List Bool), b = x19 := ⟨_, rfl⟩
    have hy1 : b1 = y1 := by rw [hb1]; exact hox1 _ (Option.some.inj hres).symm
    have hres := hresO1
    rw [← hy1] at hres
    have hi35 : Inn hs22 b1 := by subst hb1; exact hi23
    refine JE.weak (env' := [(0, ptrAt b_0 0), (4, .slice a8 x1.2.length cp9), (6, .slice a20 b1.length cp21)]) (es' := [rowT 2 eI64 a8 x1.2.length cp9 x1.2, rowT 104 eHd a20 b1.length cp21 hs22, innO 4 eBool none hs22 b1]) [0, 1, 2] ?_ ⟨(by subst hb1; rfl), (by subst hb1; rfl), (by subst hb1; first | rfl | (simp only [List.length_set]; rfl) | simp only [List.length_set]), trivial⟩ (by decide) (by subst hb1; first | rfl | (simp only [List.length_set]; rfl) | simp only [List.length_set])
    refine JE.code ?_
    refine JX.seq ?_
    refine JX.seq ?_
    refine JX.region ?_
    refine JL.val (yl_assign rfl) rfl ?_
    refine JL.nil ?_
    refine JE.code ?_
    refine JX.block ?_
    obtain ⟨y2, hy2, hresO2⟩ := bind_some hres
    refine JX.loop (I := fun (s2 : Int × List (List Bool)) aa ww => ∃ (hi36 : Inn hs22 s2.2), St w [] 81 [(0, ptrAt b_0 0), (4, .slice a8 x1.2.length cp9), (6, .slice a20 b1.length cp21), (8, .int .i64 s2.1)] [rowT 2 eI64 a8 x1.2.length cp9 x1.2, rowT 104 eHd a20 b1.length cp21 hs22, innO 4 eBool none hs22 s2.2] aa ww) (sh94_2 q0 x1) hy2 (fun a w h => ⟨hi35, h.weak ⟨rfl, rfl, rfl, rfl, trivial⟩ [0, 1, 2] (by decide) rfl⟩) ?_
    rintro ⟨x37, x38⟩ o2 hres hox2 aa ww ⟨hi39, hS⟩
    refine (?_ : JX Go.Proofs.Try.prog w [] 81 _ _ [(0, ptrAt b_0 0), (4, .slice a8 x1.2.length cp9), (6, .slice a20 b1.length cp21), (8, .int .i64 x37)] [rowT 2 eI64 a8 x1.2.length cp9 x1.2, rowT 104 eHd a20 b1.length cp21 hs22, innO 4 eBool none hs22 x38] _) aa ww hS
    clear hS
    simp only [sh94_2] at hres
    refine JX.seq ?_
    refine JX.seq ?_
    refine JX.region ?_
    refine JL.val (yl_move rfl) rfl ?_
    refine JL.val (yl_move rfl) rfl ?_
    refine JL.val (yl_nilCheckAt rfl (Rd.some g_0 (j := 0) rfl)) rfl ?_
    refine JL.val (yl_fieldAt Go.Proofs.Try.underlying28 rfl i22 i22n rfl (Rd.some g_0 (j := 0) rfl)) rfl ?_
    refine JL.val (yl_load1 Go.Proofs.Try.underlying22 rfl rfl (fun w hC => rd_arg g_0 hC) rfl) rfl ?_
    refine JL.val (yl_len_slice Go.Proofs.Try.underlying22 rfl) rfl ?_
    refine JL.val (yl_lss rfl rfl) rfl ?_
    refine JL.nil ?_
    refine JE.weak (env' := [(0, ptrAt b_0 0), (4, .slice a8 x1.2.length cp9), (6, .slice a20 b1.length cp21), (8, .int .i64 x37), (38, .bool (decide (x37 < (q0.Breaks.length : Int))))]) (es' := [rowT 2 eI64 a8 x1.2.length cp9 x1.2, rowT 104 eHd a20 b1.length cp21 hs22, innO 4 eBool none hs22 x38]) [0, 1, 2] ?_ ⟨rfl, rfl, rfl, rfl, rfl, trivial⟩ (by decide) rfl
    refine JE.code ?_
    rcases cond_some hres with ⟨hb, hres⟩ | ⟨hb, hres⟩
    · refine JX.condT rfl hb ?_
      refine JX.skip ?_
      refine JE.code ?_
      refine JX.seq ?_
      refine JX.block ?_
      refine JX.seq ?_
      refine JX.region ?_
      refine JL.val (yl_move rfl) rfl ?_
      refine JL.val (yl_move rfl) rfl ?_
      refine JL.val (yl_move rfl) rfl ?_
      refine JL.val (yl_move rfl) rfl ?_
      obtain ⟨x40, hx40, hres⟩ := bind_some hres
      refine JL.eff (ef_call (T := T155 x40) Go.Proofs.Try.func155 rfl (by kernel_rfl) rfl (fun w hC => c155 (RdAt.of0 (rd_arg g_0 hC)) (rd_arg g_0_2 hC) rfl k_0_2 hx40)) rfl ?_
      rintro _ _ ⟨_, ⟨rfl, rfl⟩, rfl⟩
      obtain ⟨x41, hx41, hres⟩ := bind_some hres
      refine JL.eff (ef_call (vs := [ptrAt b_0 0, .slice a8 x1.2.length cp9, .agg #[.int .i64 x40.X, .int .i64 x40.Y]]) (T := T154 x41) Go.Proofs.Try.func154 rfl (by kernel_rfl) rfl (fun w hC => c154 (q2 := x40) (RdAt.of0 (rd_arg g_0 hC)) (rd_arg g_0_2 hC) rfl k_0_2 (rd_row hC 0 rfl) rfl (ln_row hC 0 rfl) hx41)) rfl ?_
      rintro _ _ ⟨_, ⟨a42, _, cp43, rfl, rfl, rfl⟩, rfl⟩
      refine JL.val (yl_assign rfl) rfl ?_
      refine JL.nil ?_
      refine JE.weak (env' := [(0, ptrAt b_0 0), (4, .slice a8 x1.2.length cp9), (6, .slice a20 b1.length cp21), (8, .int .i64 x37), (9, .slice a42 x41.length cp43)]) (es' := [rowT 2 eI64 a8 x1.2.length cp9 x1.2, rowT 104 eHd a20 b1.length cp21 hs22, innO 4 eBool none hs22 x38, rowT 2 eI64 a42 x41.length cp43 x41]) [0, 1, 2, 3] ?_ ⟨rfl, rfl, rfl, rfl, rfl, trivial⟩ (by decide) rfl
      refine JE.code ?_
      refine JX.seq ?_
      refine JX.region ?_
      refine JL.val (yl_move rfl) rfl ?_
      obtain ⟨x45, hx45, hres⟩ := bind_some hres
      refine JL.val (yl_idxT Go.Proofs.Try.underlying22 i2 i2s rfl rfl hx45 rfl (fun w hC => rd_row hC 3 rfl)) rfl ?_
      refine JL.val (yl_loadT0 Go.Proofs.Try.underlying2 rfl rfl hx45 (fun w hC => rd_row hC 3 rfl) rfl) rfl ?_
      refine JL.val (yl_assign rfl) rfl ?_
      refine JL.nil ?_
      refine JE.weak (env' := [(0, ptrAt b_0 0), (4, .slice a8 x1.2.length cp9), (6, .slice a20 b1.length cp21), (8, .int .i64 x37), (9, .slice a42 x41.length cp43), (10, .int .i64 x45)]) (es' := [rowT 2 eI64 a8 x1.2.length cp9 x1.2, rowT 104 eHd a20 b1.length cp21 hs22, innO 4 eBool none hs22 x38, rowT 2 eI64 a42 x41.length cp43 x41]) [0, 1, 2, 3] ?_ ⟨rfl, rfl, rfl, rfl, rfl, rfl, trivial⟩ (by decide) rfl
      refine JE.code ?_
      refine JX.seq ?_
      refine JX.region ?_
      refine JL.val (yl_move rfl) rfl ?_
      obtain ⟨x46, hx46, hres⟩ := bind_some hres
      refine JL.val (yl_idxT Go.Proofs.Try.underlying22 i2 i2s rfl rfl hx46 rfl (fun w hC => rd_row hC 3 rfl)) rfl ?_
      refine JL.val (yl_loadT0 Go.Proofs.Try.underlying2 rfl rfl hx46 (fun w hC => rd_row hC 3 rfl) rfl) rfl ?_
      refine JL.val (yl_assign rfl) rfl ?_
      refine JL.nil ?_
      refine JE.weak (env' := [(0, ptrAt b_0 0), (4, .slice a8 x1.2.length cp9), (6, .slice a20 b1.length cp21), (8, .int .i64 x37), (10, .int .i64 x45), (11, .int .i64 x46)]) (es' := [rowT 2 eI64 a8 x1.2.length cp9 x1.2, rowT 104 eHd a20 b1.length cp21 hs22, innO 4 eBool none hs22 x38]) [0, 1, 2] ?_ ⟨rfl, rfl, rfl, rfl, rfl, rfl, trivial⟩ (by decide) rfl
      refine JE.code ?_
      refine JX.seq ?_
      refine JX.region ?_
      refine JL.val (yl_move rfl) rfl ?_
      refine JL.val (yl_nilCheckAt rfl (Rd.some g_0 (j := 0) rfl)) rfl ?_
      refine JL.val (yl_fieldAt Go.Proofs.Try.underlying28 rfl i22 i22n rfl (Rd.some g_0 (j := 0) rfl)) rfl ?_
      refine JL.val (yl_load1 Go.Proofs.Try.underlying22 rfl rfl (fun w hC => rd_arg g_0 hC) rfl) rfl ?_
      refine JL.val (yl_move rfl) rfl ?_
      obtain ⟨x47, hx47, hres⟩ := bind_some hres
      refine JL.val (yl_idxT Go.Proofs.Try.underlying22 i2 i2s rfl rfl hx47 rfl (fun w hC => rd_arg g_0_2 hC)) rfl ?_
      refine JL.val (yl_loadT0 Go.Proofs.Try.underlying2 rfl rfl hx47 (fun w hC => rd_arg g_0_2 hC) rfl) rfl ?_
      refine JL.val (yl_eql rfl rfl) rfl ?_
      refine JL.val (yl_move rfl) rfl ?_
      refine JL.cut (K := fun J => J [(0, ptrAt b_0 0), (4, .slice a8 x1.2.length cp9), (6, .slice a20 b1.length cp21), (8, .int .i64 x37), (10, .int .i64 x45), (11, .int .i64 x46), (65, .bool ((x47 == 0) && (x45 != x46)))] [rowT 2 eI64 a8 x1.2.length cp9 x1.2, rowT 104 eHd a20 b1.length cp21 hs22, innO 4 eBool none hs22 x38]) 4 ?_ ?_
      · refine JL.nil ?_
        refine JE.weak (env' := [(0, ptrAt b_0 0), (4, .slice a8 x1.2.length cp9), (6, .slice a20 b1.length cp21), (8, .int .i64 x37), (10, .int .i64 x45), (11, .int .i64 x46), (65, .bool ((x47 == 0) && (x45 != x46)))]) (es' := [rowT 2 eI64 a8 x1.2.length cp9 x1.2, rowT 104 eHd a20 b1.length cp21 hs22, innO 4 eBool none hs22 x38]) [0, 1, 2] ?_ ⟨rfl, rfl, rfl, rfl, rfl, rfl, rfl, trivial⟩ (by decide) rfl
        refine JE.code ?_
        obtain ⟨j48, hj48, hresj48⟩ := bind_some hres
        refine JX.cut (K := fun J => ∀ (hi49 : Inn hs22 j48), J [(0, ptrAt b_0 0), (4, .slice a8 x1.2.length cp9), (6, .slice a20 b1.length cp21), (8, .int .i64 x37)] [rowT 2 eI64 a8 x1.2.length cp9 x1.2, rowT 104 eHd a20 b1.length cp21 hs22, innO 4 eBool none hs22 j48]) ?_ ?_
        · intro hi49
          have hres := hresj48
          refine JE.code ?_
          refine JX.region ?_
          refine JL.val (yl_move rfl) rfl ?_
          refine JL.val (yl_add rfl rfl) rfl ?_
          refine JL.val (yl_assign rfl) rfl ?_
          refine JL.nil ?_
          refine JE.cont hres ?_
          exact fun a w h => ⟨hi49, h.weak ⟨rfl, rfl, rfl, rfl, trivial⟩ [0, 1, 2] (by decide) rfl⟩
        · intro K
          rcases cond_some hj48 with ⟨hb, hres⟩ | ⟨hb, hres⟩
          · refine JX.condT rfl hb ?_
            refine JX.seq ?_
            refine JX.region ?_
            refine JL.val (yl_move rfl) rfl ?_
            refine JL.val (yl_move rfl) rfl ?_
            obtain ⟨x50, hx50, hres⟩ := bind_some hres
            obtain ⟨ha51, hc52, hhx50⟩ := Inn.sub hi39 hx50
            refine JL.val (yl_idxT Go.Proofs.Try.underlying99 i104 i104s rfl rfl hhx50 (Inn.len hi35) (fun w hC => rd_row hC 1 rfl)) rfl ?_
            refine JL.val (yl_loadT0 (z := ⟨ha51, x50.length, hc52⟩) Go.Proofs.Try.underlying104 rfl rfl hhx50 (fun w hC => rd_row hC 1 rfl) rfl) rfl ?_
            refine JL.val (yl_assign rfl) rfl ?_
            refine JL.nil ?_
            refine JE.weak (env' := [(0, ptrAt b_0 0), (4, .slice a8 x1.2.length cp9), (6, .slice a20 b1.length cp21), (8, .int .i64 x37), (10, .int .i64 x45), (11, .int .i64 x46), (12, .slice ha51 x50.length hc52)]) (es' := [rowT 2 eI64 a8 x1.2.length cp9 x1.2, rowT 104 eHd a20 b1.length cp21 hs22, innO 4 eBool none hs22 x38]) [0, 1, 2] ?_ ⟨rfl, rfl, rfl, rfl, rfl, rfl, rfl, trivial⟩ (by decide) rfl
            refine JE.code ?_
            refine JX.seq ?_
            refine JX.region ?_
            refine JL.val (yl_move rfl) rfl ?_
            refine JL.val (yl_move rfl) rfl ?_
            obtain ⟨x54, hx54, hres⟩ := bind_some hres
            refine JL.val (yl_idxT Go.Proofs.Try.underlying104 i4 i4s rfl rfl hx54 rfl (fun w hC => (RdI.sub (rd_inn hC 2 rfl) hx50 hhx50))) rfl ?_
            refine JL.focus (es' := [rowT 2 eI64 a8 x1.2.length cp9 x1.2, rowT 104 eHd a20 b1.length cp21 hs22]) [0, 1, 2] (by decide) rfl hhx50 hx50 ?_
            refine JL.eff (ef_storeT (ix := 3) (u := true) i4 i4s rfl rfl rfl hx54 rfl) rfl ?_
            rintro _ _ rfl
            refine JL.unfocus0 (es' := [rowT 2 eI64 a8 x1.2.length cp9 x1.2, rowT 104 eHd a20 b1.length cp21 hs22]) [0, 1, 2, 3] (by decide) rfl hhx50 ?_
            refine JL.nil ?_
            refine JE.weak (env' := [(0, ptrAt b_0 0), (4, .slice a8 x1.2.length cp9), (6, .slice a20 b1.length cp21), (8, .int .i64 x37), (10, .int .i64 x45), (11, .int .i64 x46)]) (es' := [rowT 2 eI64 a8 x1.2.length cp9 x1.2, rowT 104 eHd a20 b1.length cp21 hs22, innO 4 eBool none hs22 (x38.set (x45).toNat (x50.set (x46).toNat true))]) [0, 1, 2] ?_ ⟨rfl, rfl, rfl, rfl, rfl, rfl, trivial⟩ (by decide) rfl
            refine JE.code ?_
            refine JX.seq ?_
            refine JX.region ?_
            refine JL.val (yl_move rfl) rfl ?_
            refine JL.val (yl_move rfl) rfl ?_
            obtain ⟨x56, hx56, hres⟩ := bind_some hres
            obtain ⟨ha57, hc58, hhx56⟩ := Inn.sub (Inn.set0 hi39 hx50 List.length_set) hx56
            refine JL.val (yl_idxT Go.Proofs.Try.underlying99 i104 i104s rfl rfl hhx56 (Inn.len hi35) (fun w hC => rd_row hC 1 rfl)) rfl ?_
            refine JL.val (yl_loadT0 (z := ⟨ha57, x56.length, hc58⟩) Go.Proofs.Try.underlying104 rfl rfl hhx56 (fun w hC => rd_row hC 1 rfl) rfl) rfl ?_
            refine JL.val (yl_assign rfl) rfl ?_
            refine JL.nil ?_
            refine JE.weak (env' := [(0, ptrAt b_0 0), (4, .slice a8 x1.2.length cp9), (6, .slice a20 b1.length cp21), (8, .int .i64 x37), (10, .int .i64 x45), (13, .slice ha57 x56.length hc58)]) (es' := [rowT 2 eI64 a8 x1.2.length cp9 x1.2, rowT 104 eHd a20 b1.length cp21 hs22, innO 4 eBool none hs22 (x38.set (x45).toNat (x50.set (x46).toNat true))]) [0, 1, 2] ?_ ⟨rfl, rfl, rfl, rfl, rfl, rfl, trivial⟩ (by decide) rfl
            refine JE.code ?_
            refine JX.region ?_
            refine JL.val (yl_move rfl) rfl ?_
            refine JL.val (yl_move rfl) rfl ?_
            obtain ⟨x60, hx60, hres⟩ := bind_some hres
            refine JL.val (yl_idxT Go.Proofs.Try.underlying104 i4 i4s rfl rfl hx60 rfl (fun w hC => (RdI.sub (rd_inn hC 2 rfl) hx56 hhx56))) rfl ?_
            refine JL.focus (es' := [rowT 2 eI64 a8 x1.2.length cp9 x1.2, rowT 104 eHd a20 b1.length cp21 hs22]) [0, 1, 2] (by decide) rfl hhx56 hx56 ?_
            refine JL.eff (ef_storeT (ix := 3) (u := true) i4 i4s rfl rfl rfl hx60 rfl) rfl ?_
            rintro _ _ rfl
            refine JL.unfocus0 (es' := [rowT 2 eI64 a8 x1.2.length cp9 x1.2, rowT 104 eHd a20 b1.length cp21 hs22]) [0, 1, 2, 3] (by decide) rfl hhx56 ?_
            refine JL.nil ?_
            refine JE.weak (env' := [(0, ptrAt b_0 0), (4, .slice a8 x1.2.length cp9), (6, .slice a20 b1.length cp21), (8, .int .i64 x37)]) (es' := [rowT 2 eI64 a8 x1.2.length cp9 x1.2, rowT 104 eHd a20 b1.length cp21 hs22, innO 4 eBool none hs22 ((x38.set (x45).toNat (x50.set (x46).toNat true)).set (x46).toNat (x56.set (x45).toNat true))]) [0, 1, 2] ?_ ⟨rfl, rfl, rfl, rfl, trivial⟩ (by decide) rfl
            have hj := Option.some.inj hres
            exact JE.weak [0, 1, 2] (K (by subst hj; exact (Inn.set0 (Inn.set0 hi39 hx50 List.length_set) hx56 List.length_set))) ⟨(by subst hj; rfl), (by subst hj; rfl), (by subst hj; rfl), (by subst hj; rfl), trivial⟩ (by decide) (by subst hj; rfl)
          · refine JX.condF rfl hb ?_
            refine JX.skip ?_
            have hj := Option.some.inj hres
            exact JE.weak [0, 1, 2] (K (by subst hj; exact hi39)) ⟨(by subst hj; rfl), (by subst hj; rfl), (by subst hj; rfl), (by subst hj; rfl), trivial⟩ (by decide) (by subst hj; rfl)
      · intro K
        rcases Bool.eq_false_or_eq_true (x47 == 0) with hb | hb
        · refine JL.set (d := 61) (v := .bool true) (congrArg (fun b => some (Value.bool b)) hb) ?_
          refine JL.gval rfl rfl (yl_move rfl) rfl ?_
          refine JL.gval rfl rfl (yl_move rfl) rfl ?_
          refine JL.gval rfl rfl (yl_neq rfl rfl) rfl ?_
          refine JL.val (yl_pick_true rfl rfl) rfl ?_
          exact JL.weak [0, 1, 2] K ⟨rfl, rfl, rfl, rfl, rfl, rfl, (by rw [hb]; rfl), trivial⟩ (by decide) rfl
        · refine JL.set (d := 61) (v := .bool false) (congrArg (fun b => some (Value.bool b)) hb) ?_
          refine JL.gskip rfl rfl rfl rfl ?_
          refine JL.gskip rfl rfl rfl rfl ?_
          refine JL.gskip rfl rfl rfl rfl ?_
          refine JL.val (yl_pick_false rfl rfl) rfl ?_
          exact JL.weak [0, 1, 2] K ⟨rfl, rfl, rfl, rfl, rfl, rfl, (by rw [hb]; rfl), trivial⟩ (by decide) rfl
    · refine JX.condF rfl hb ?_
      refine JX.exit ?_
      refine JE.qb rfl ?_
      obtain ⟨b2, hb2⟩ : ∃ b : List (List Bool), b = x38 := ⟨_, rfl⟩
      have hy2 : b2 = y2 := by rw [hb2]; exact hox2 _ (Option.some.inj hres).symm
      have hres := hresO2
      rw [← hy2] at hres
      have hi62 : Inn hs22 b2 := by subst hb2; exact hi39
      refine JE.weak (env' := [(6, .slice a20 b1.length cp21)]) (es' := [rowT 104 eHd a20 b1.length cp21 hs22, innO 4 eBool none hs22 b2]) [1, 2] ?_ ⟨(by subst hb2; rfl), trivial⟩ (by decide) (by subst hb2; rfl)
      refine JE.code ?_
      refine JX.seq ?_
      refine JX.region ?_
      refine JL.val (yl_move rfl) rfl ?_
      refine JL.val (yl_assign rfl) rfl ?_
      refine JL.nil ?_
      refine JE.code ?_
      refine JX.ret ?_
      obtain rfl := Option.some.inj hres
      refine JE.ret (rs := [.tmp 2]) (vs := [.slice a20 b1.length cp21]) rfl ⟨rfl, trivial⟩ ?_
      exact fun w' hb hs => ⟨_, _, ⟨a20, b1.length, cp21, hs22, ((Inn.len hi62).symm.trans (Inn.len hi35)), hi62, rfl, rfl⟩, rfl, hb, hs.sel [0, 1] _ (by decide) rfl⟩

/- spec.l21List -/
def sh95_1 (q0 : List Int) : Int → Option (Int ⊕ (Unit ⊕ Bool))
  | x1 => bif decide (x1 < (q0.length : Int)) then (Option.bind (getI q0 x1) fun x2 => Option.bind (sh127 x2 0 9) fun x3 => bif !x3 then (some (.inr (.inr false))) else (some (.inl (w64 (x1 + 1))))) else (some (.inr (.inl ())))
def sh95 (q0 : List Int) (q1 : Int) : Option (Bool) := Option.bind (iter (sh95_1 q0) 0) fun y1 => elimS y1 (fun r => some r) fun b1 => (some ((q0.length : Int) == q1))
def T95 (r : Bool) (v : Value) (rs : List Own) : Prop := v = rets [.bool r] ∧ rs = []
set_option maxRecDepth 100000 in
theorem c95 {w : World} {q0 : List Int} {a_0 : Option Addr} {n_0 c_0 : Nat} (g_0 : Rd w a_0 (eI64.fl q0)) (l_0 : q0.length = n_0) (k_0 : n_0 ≤ c_0) {q1 : Int} {r : Bool} (hres : sh95 q0 q1 = some r) : Calls Go.Proofs.Try.prog 95 [.slice a_0 n_0 c_0, .int .i64 q1].toArray w (Ret w (T95 r)) := by
  subst l_0
  unfold sh95 at hres
  refine calls_of (n := 22) (M := []) (es := []) Go.Proofs.Try.func95 rfl rfl rfl (Sep.nil _ _ _) ?_
  refine JX.seq ?_
  refine JX.region ?_
  refine JL.val (yl_assign rfl) rfl ?_
  refine JL.nil ?_
  refine JE.code ?_
  refine JX.seq ?_
  refine JX.seq ?_
  refine JX.region ?_
  refine JL.val (yl_assign rfl) rfl ?_
  refine JL.nil ?_
  refine JE.code ?_
  refine JX.block ?_
  obtain ⟨y1, hy1, hresO1⟩ := bind_some hres
  refine JX.loop (I := fun (s1 : Int) aa ww => St w [] 22 [(0, .slice a_0 q0.length c_0), (1, .int .i64 q1), (5, .int .i64 s1)] [] aa ww) (sh95_1 q0) hy1 (fun a w h => h.weak ⟨rfl, rfl, rfl, trivial⟩ [] (by decide) rfl) ?_
  rintro x1 o1 hres hox1 aa ww hS
  refine (?_ : JX Go.Proofs.Try.prog w [] 22 _ _ [(0, .slice a_0 q0.length c_0), (1, .int .i64 q1), (5, .int .i64 x1)] [] _) aa ww hS
  clear hS
  unfold sh95_1 at hres
  refine JX.seq ?_
  refine JX.seq ?_
  refine JX.region ?_
  refine JL.val (yl_move rfl) rfl ?_
  refine JL.val (yl_move rfl) rfl ?_
  refine JL.val (yl_len_slice Go.Proofs.Try.underlying22 rfl) rfl ?_
  refine JL.val (yl_lss rfl rfl) rfl ?_
  refine JL.nil ?_
  refine JE.weak (env' := [(0, .slice a_0 q0.length c_0), (1, .int .i64 q1), (5, .int .i64 x1), (9, .bool (decide (x1 < (q0.length : Int))))]) (es' := []) [] ?_ ⟨rfl, rfl, rfl, rfl, trivial⟩ (by decide) rfl
  refine JE.code ?_
  rcases cond_some hres with ⟨hb, hres⟩ | ⟨hb, hres⟩
  · refine JX.condT rfl hb ?_
    refine JX.skip ?_
    refine JE.code ?_
    refine JX.seq ?_
    refine JX.block ?_
    refine JX.seq ?_
    refine JX.region ?_
    refine JL.val (yl_move rfl) rfl ?_
    refine JL.val (yl_move rfl) rfl ?_
    obtain ⟨x2, hx2, hres⟩ := bind_some hres
    refine JL.val (yl_idxT Go.Proofs.Try.underlying22 i2 i2s rfl rfl hx2 rfl (fun w hC => rd_arg g_0 hC)) rfl ?_
    refine JL.val (yl_loadT0 Go.Proofs.Try.underlying2 rfl rfl hx2 (fun w hC => rd_arg g_0 hC) rfl) rfl ?_
    obtain ⟨x3, hx3, hres⟩ := bind_some hres
    refine JL.eff (ef_call (T := T127 x3) Go.Proofs.Try.func127 rfl (by kernel_rfl) rfl (fun w hC => c127  hx3)) rfl ?_
    rintro _ _ ⟨_, ⟨rfl, rfl⟩, rfl⟩
    refine JL.val (yl_not rfl) rfl ?_
    refine JL.nil ?_
    refine JE.weak (env' := [(0, .slice a_0 q0.length c_0), (1, .int .i64 q1), (5, .int .i64 x1), (17, .bool !x3)]) (es' := []) [] ?_ ⟨rfl, rfl, rfl, rfl, trivial⟩ (by decide) rfl
    refine JE.code ?_
    rcases cond_some hres with ⟨hb, hres⟩ | ⟨hb, hres⟩
    · refine JX.condT rfl hb ?_
      refine JX.seq ?_
      refine JX.region ?_
      refine JL.val (yl_assign rfl) rfl ?_
      refine JL.nil ?_
      refine JE.code ?_
      refine JX.ret ?_
      refine JE.qbr ?_
      refine JE.qbr ?_
      have hres := elimS_inr hresO1 (hox1 _ (Option.some.inj hres).symm)
      obtain rfl := Option.some.inj hres
      refine JE.ret (rs := [.tmp 4]) (vs := [.bool false]) rfl ⟨rfl, trivial⟩ ?_
      exact fun w' hb hs => ⟨_, _, ⟨rfl, rfl⟩, rfl, hb, hs.sel [] _ (by decide) rfl⟩
    · refine JX.condF rfl hb ?_
      refine JX.skip ?_
      refine JE.code ?_
      refine JX.region ?_
      refine JL.val (yl_move rfl) rfl ?_
      refine JL.val (yl_add rfl rfl) rfl ?_
      refine JL.val (yl_assign rfl) rfl ?_
      refine JL.nil ?_
      refine JE.cont hres ?_
      exact fun a w h => h.weak ⟨rfl, rfl, rfl, trivial⟩ [] (by decide) rfl
  · refine JX.condF rfl hb ?_
    refine JX.exit ?_
    refine JE.qb rfl ?_
    obtain ⟨b1, hb1⟩ : ∃ b : Unit, b = () := ⟨_, rfl⟩
    have hy1 : Sum.inl b1 = y1 := by rw [hb1]; exact hox1 _ (Option.some.inj hres).symm
    have hres := elimS_inl hresO1 hy1
    refine JE.weak (env' := [(0, .slice a_0 q0.length c_0), (1, .int .i64 q1)]) (es' := []) [] ?_ ⟨(by subst hb1; rfl), (by subst hb1; rfl), trivial⟩ (by decide) (by subst hb1; rfl)
    refine JE.code ?_
    refine JX.seq ?_
    refine JX.region ?_
    refine JL.val (yl_move rfl) rfl ?_
    refine JL.val (yl_len_slice Go.Proofs.Try.underlying22 rfl) rfl ?_
    refine JL.val (yl_move rfl) rfl ?_
    refine JL.val (yl_eql rfl rfl) rfl ?_
    refine JL.val (yl_assign rfl) rfl ?_
    refine JL.nil ?_
    refine JE.weak (env' := [(4, .bool ((q0.length : Int) == q1))]) (es' := []) [] ?_ ⟨rfl, trivial⟩ (by decide) rfl
    refine JE.code ?_
    refine JX.ret ?_
    obtain rfl := Option.some.inj hres
    refine JE.ret (rs := [.tmp 4]) (vs := [.bool ((q0.length : Int) == q1)]) rfl ⟨rfl, trivial⟩ ?_
    exact fun w' hb hs => ⟨_, _, ⟨rfl, rfl⟩, rfl, hb, hs.sel [] _ (by decide) rfl⟩

/- spec.l21Proper -/
def sh96_2 (q0 : List (List Bool)) (q1 : List Int) (x1 : Int) : Int → Option (Int ⊕ (Unit ⊕ Bool))
  | x2 => bif decide (x2 < x1) then (Option.bind (getI q0 x1) fun x4 => Option.bind (getI x4 x2) fun x8 => Option.bind (bif x8 then (Option.bind (getI q1 x1) fun x10 => Option.bind (getI q1 x2) fun x11 => some (x10 == x11)) else (some false)) fun cb9 => (bif cb9 then (some (.inr (.inr false))) else (some (.inl (w64 (x2 + 1)))))) else (some (.inr (.inl ())))
def sh96_1 (q0 : List (List Bool)) (q1 : List Int) : Int → Option (Int ⊕ (Unit ⊕ Bool))
  | x1 => bif decide (x1 < ((q0.length : Nat) : Int)) then (Option.bind (iter (sh96_2 q0 q1 x1) 0) fun y2 => elimS y2 (fun r => some (.inr (.inr r))) fun b2 => (some (.inl (w64 (x1 + 1))))) else (some (.inr (.inl ())))
def sh96 (q0 : List (List Bool)) (q1 : List Int) : Option (Bool) := Option.bind (iter (sh96_1 q0 q1) 0) fun y1 => elimS y1 (fun r => some r) fun b1 => (some true)
def T96 (r : Bool) (v : Value) (rs : List Own) : Prop := v = rets [.bool r] ∧ rs = []
set_option maxRecDepth 100000 in
theorem c96 {w : World} {q0 : List (List Bool)} {a_0 : Option Addr} {n_0 c_0 : Nat} {h_0 : List Hd} (g_0 : Rd w a_0 (eHd.fl h_0)) (r_0 : RdI w eBool h_0 q0) (i_0 : Inn h_0 q0) (l_0 : q0.length = n_0) (k_0 : n_0 ≤ c_0) {q1 : List Int} {a_1 : Option Addr} {n_1 c_1 : Nat} (g_1 : Rd w a_1 (eI64.fl q1)) (l_1 : q1.length = n_1) (k_1 : n_1 ≤ c_1) {r : Bool} (hres : sh96 q0 q1 = some r) : Calls Go.Proofs.Try.prog 96 [.slice a_0 n_0 c_0, .slice a_1 n_1 c_1].toArray w (Ret w (T96 r)) := by
  subst l_0
  subst l_1
  unfold sh96 at hres
  refine calls_of (n := 36) (M := []) (es := []) Go.Proofs.Try.func96 rfl rfl rfl (Sep.nil _ _ _) ?_
  refine JX.seq ?_
  refine JX.region ?_
  refine JL.val (yl_assign rfl) rfl ?_
  refine JL.nil ?_
  refine JE.code ?_
  refine JX.seq ?_
  refine JX.seq ?_
  refine JX.region ?_
  refine JL.val (yl_assign rfl) rfl ?_
  refine JL.nil ?_
  refine JE.code ?_
  refine JX.block ?_
  obtain ⟨y1, hy1, hresO1⟩ := bind_some hres
  refine JX.loop (I := fun (s1 : Int) aa ww => St w [] 36 [(0, .slice a_0 q0.length c_0), (1, .slice a_1 q1.length c_1), (5, .int .i64 s1)] [] aa ww) (sh96_1 q0 q1) hy1 (fun a w h => h.weak ⟨rfl, rfl, rfl, trivial⟩ [] (by decide) rfl) ?_
  rintro x1 o1 hres hox1 aa ww hS
  refine (?_ : JX Go.Proofs.Try.prog w [] 36 _ _ [(0, .slice a_0 q0.length c_0), (1, .slice a_1 q1.length c_1), (5, .int .i64 x1)] [] _) aa ww hS
  clear hS
  unfold sh96_1 at hres
  refine JX.seq ?_
  refine JX.seq ?_
  refine JX.region ?_
  refine JL.val (yl_move rfl) rfl ?_
  refine JL.val (yl_move rfl) rfl ?_
  refine JL.val (yl_len_slice Go.Proofs.Try.underlying99 rfl) rfl ?_
  refine JL.val (yl_lss rfl rfl) rfl ?_
  refine JL.nil ?_
  refine JE.weak (env' := [(0, .slice a_0 q0.length c_0), (1, .slice a_1 q1.length c_1), (5, .int .i64 x1), (10, .bool (decide (x1 < ((q0.length : Nat) : Int))))]) (es' := []) [] ?_ ⟨rfl, rfl, rfl, rfl, trivial⟩ (by decide) rfl
  refine JE.code ?_
  rcases cond_some hres with ⟨hb, hres⟩ | ⟨hb, hres⟩
  · refine JX.condT rfl hb ?_
    refine JX.skip ?_
    refine JE.code ?_
    refine JX.seq ?_
    refine JX.block ?_
    refine JX.seq ?_
    refine JX.region ?_
    refine JL.val (yl_assign rfl) rfl ?_
    refine JL.nil ?_
    refine JE.code ?_
    refine JX.block ?_
    obtain ⟨y2, hy2, hresO2⟩ := bind_some hres
    refine JX.loop (I := fun (s2 : Int) aa ww => St w [] 36 [(0, .slice a_0 q0.length c_0), (1, .slice a_1 q1.length c_1), (5, .int .i64 x1), (6, .int .i64 s2)] [] aa ww) (sh96_2 q0 q1 x1) hy2 (fun a w h => h.weak ⟨rfl, rfl, rfl, rfl, trivial⟩ [] (by decide) rfl) ?_
    rintro x2 o2 hres hox2 aa ww hS
    refine (?_ : JX Go.Proofs.Try.prog w [] 36 _ _ [(0, .slice a_0 q0.length c_0), (1, .slice a_1 q1.length c_1), (5, .int .i64 x1), (6, .int .i64 x2)] [] _) aa ww hS
    clear hS
    unfold sh96_2 at hres
    refine JX.seq ?_
    refine JX.seq ?_
    refine JX.region ?_
    refine JL.val (yl_move rfl) rfl ?_
    refine JL.val (yl_move rfl) rfl ?_
    refine JL.val (yl_lss rfl rfl) rfl ?_
    refine JL.nil ?_
    refine JE.code ?_
    rcases cond_some hres with ⟨hb, hres⟩ | ⟨hb, hres⟩
    · refine JX.condT rfl hb ?_
      refine JX.skip ?_
      refine JE.code ?_
      refine JX.seq ?_
      refine JX.block ?_
      refine JX.seq ?_
      refine JX.drawH [(0, .pure), (1, .pure), (2, .pure), (3, .read), (4, .pure), (5, .pure), (6, .read), (7, .pure), (8, .pure), (9, .pure), (10, .pure), (11, .read), (12, .pure), (13, .pure), (14, .pure), (15, .read), (16, .pure), (17, .pure)] [] [] [] [] [] mixedP (by kernel_rfl) (by kernel_rfl) (by decide) rfl rfl ?_
      intro wrr3 Nr3 hFr3
      refine JH.pure rfl (yl_move rfl) rfl ?_
      refine JH.pure rfl (yl_move rfl) rfl ?_
      obtain ⟨x4, hx4, hres⟩ := bind_some hres
      obtain ⟨ha5, hc6, hhx4⟩ := Inn.sub i_0 hx4
      refine JH.pure rfl (yl_idxQ Go.Proofs.Try.underlying99 i104 i104s rfl rfl hhx4 (Inn.len i_0) (rd_arg g_0 hFr3.cl) (Inn.len i_0)) rfl ?_
      refine JH.read rfl (yl_loadT0 (z := ⟨ha5, x4.length, hc6⟩) Go.Proofs.Try.underlying104 rfl rfl hhx4 (fun w hw => hFr3.arg g_0 hw) rfl) rfl ?_
      refine JH.pure rfl (yl_move rfl) rfl ?_
      obtain ⟨x8, hx8, hres⟩ := bind_some hres
      refine JH.pure rfl (yl_idxQ Go.Proofs.Try.underlying104 i4 i4s rfl rfl hx8 rfl (rd_arg (RdI.sub r_0 hx4 hhx4) hFr3.cl) rfl) rfl ?_
      refine JH.read rfl (yl_loadT0 Go.Proofs.Try.underlying4 rfl rfl hx8 (fun w hw => hFr3.arg (RdI.sub r_0 hx4 hhx4) hw) rfl) rfl ?_
      refine JH.pure rfl (yl_move rfl) rfl ?_
      obtain ⟨cb9, hcb9, hres⟩ := bind_some hres
      refine JH.cut (K := fun J => J [(0, .slice a_0 q0.length c_0), (1, .slice a_1 q1.length c_1), (5, .int .i64 x1), (6, .int .i64 x2), (35, .bool cb9)] []) 10 ?_ ?_
      · refine JH.nil ?_
        refine JE.weak (env' := [(0, .slice a_0 q0.length c_0), (1, .slice a_1 q1.length c_1), (5, .int .i64 x1), (6, .int .i64 x2), (35, .bool cb9)]) (es' := []) [] ?_ ⟨rfl, rfl, rfl, rfl, rfl, trivial⟩ (by decide) rfl
        refine JE.code ?_
        rcases cond_some hres with ⟨hb, hres⟩ | ⟨hb, hres⟩
        · refine JX.condT rfl hb ?_
          refine JX.seq ?_
          refine JX.region ?_
          refine JL.val (yl_assign rfl) rfl ?_
          refine JL.nil ?_
          refine JE.code ?_
          refine JX.ret ?_
          refine JE.qbr ?_
          refine JE.qbr ?_
          refine JE.qbr ?_
          refine JE.qbr ?_
          have hres := elimS_inr hresO2 (hox2 _ (Option.some.inj hres).symm)
          have hres := elimS_inr hresO1 (hox1 _ (Option.some.inj hres).symm)
          obtain rfl := Option.some.inj hres
          refine JE.ret (rs := [.tmp 4]) (vs := [.bool false]) rfl ⟨rfl, trivial⟩ ?_
          exact fun w' hb hs => ⟨_, _, ⟨rfl, rfl⟩, rfl, hb, hs.sel [] _ (by decide) rfl⟩
        · refine JX.condF rfl hb ?_
          refine JX.skip ?_
          refine JE.code ?_
          refine JX.region ?_
          refine JL.val (yl_move rfl) rfl ?_
          refine JL.val (yl_add rfl rfl) rfl ?_
          refine JL.val (yl_assign rfl) rfl ?_
          refine JL.nil ?_
          refine JE.cont hres ?_
          exact fun a w h => h.weak ⟨rfl, rfl, rfl, rfl, trivial⟩ [] (by decide) rfl
      · intro K
        rcases cond_some hcb9 with ⟨hb, hres⟩ | ⟨hb, hres⟩
        · refine JH.set (d := 25) (v := .bool true) (congrArg (fun b => some (Value.bool b)) hb) ?_
          refine JH.gpure rfl rfl rfl (yl_move rfl) rfl ?_
          refine JH.gpure rfl rfl rfl (yl_move rfl) rfl ?_
          obtain ⟨x10, hx10, hres⟩ := bind_some hres
          refine JH.gpure rfl rfl rfl (yl_idxQ Go.Proofs.Try.underlying22 i2 i2s rfl rfl hx10 rfl (rd_arg g_1 hFr3.cl) rfl) rfl ?_
          refine JH.gread rfl rfl rfl (yl_loadT0 Go.Proofs.Try.underlying2 rfl rfl hx10 (fun w hw => hFr3.arg g_1 hw) rfl) rfl ?_
          refine JH.gpure rfl rfl rfl (yl_move rfl) rfl ?_
          refine JH.gpure rfl rfl rfl (yl_move rfl) rfl ?_
          obtain ⟨x11, hx11, hres⟩ := bind_some hres
          refine JH.gpure rfl rfl rfl (yl_idxQ Go.Proofs.Try.underlying22 i2 i2s rfl rfl hx11 rfl (rd_arg g_1 hFr3.cl) rfl) rfl ?_
          refine JH.gread rfl rfl rfl (yl_loadT0 Go.Proofs.Try.underlying2 rfl rfl hx11 (fun w hw => hFr3.arg g_1 hw) rfl) rfl ?_
          refine JH.gpure rfl rfl rfl (yl_eql rfl rfl) rfl ?_
          refine JH.pure rfl (yl_pick_true rfl rfl) rfl ?_
          have he := Option.some.inj hres
          exact JH.weak [] K ⟨rfl, rfl, rfl, rfl, (by rw [← he]; rfl), trivial⟩ (by decide) rfl
        · refine JH.set (d := 25) (v := .bool false) (congrArg (fun b => some (Value.bool b)) hb) ?_
          refine JH.gskip rfl rfl rfl rfl rfl rfl ?_
          refine JH.gskip rfl rfl rfl rfl rfl rfl ?_
          refine JH.gskip rfl rfl rfl rfl rfl rfl ?_
          refine JH.gskip rfl rfl rfl rfl rfl rfl ?_
          refine JH.gskip rfl rfl rfl rfl rfl rfl ?_
          refine JH.gskip rfl rfl rfl rfl rfl rfl ?_
          refine JH.gskip rfl rfl rfl rfl rfl rfl ?_
          refine JH.gskip rfl rfl rfl rfl rfl rfl ?_
          refine JH.gskip rfl rfl rfl rfl rfl rfl ?_
          refine JH.pure rfl (yl_pick_false rfl rfl) rfl ?_
          have he := Option.some.inj hres
          exact JH.weak [] K ⟨rfl, rfl, rfl, rfl, (by rw [← he]; rfl), trivial⟩ (by decide) rfl
    · refine JX.condF rfl hb ?_
      refine JX.exit ?_
      refine JE.qb rfl ?_
      obtain ⟨b2, hb2⟩ : ∃ b : Unit, b = () := ⟨_, rfl⟩
      have hy2 : Sum.inl b2 = y2 := by rw [hb2]; exact hox2 _ (Option.some.inj hres).symm
      have hres := elimS_inl hresO2 hy2
      refine JE.weak (env' := [(0, .slice a_0 q0.length c_0), (1, .slice a_1 q1.length c_1), (5, .int .i64 x1)]) (es' := []) [] ?_ ⟨(by subst hb2; rfl), (by subst hb2; rfl), (by subst hb2; rfl), trivial⟩ (by decide) (by subst hb2; rfl)
      refine JE.code ?_
      refine JX.region ?_
      refine JL.val (yl_move rfl) rfl ?_
      refine JL.val (yl_add rfl rfl) rfl ?_
      refine JL.val (yl_assign rfl) rfl ?_
      refine JL.nil ?_
      refine JE.cont hres ?_
      exact fun a w h => h.weak ⟨rfl, rfl, rfl, trivial⟩ [] (by decide) rfl
  · refine JX.condF rfl hb ?_
    refine JX.exit ?_
    refine JE.qb rfl ?_
    obtain ⟨b1, hb1⟩ : ∃ b : Unit, b = () := ⟨_, rfl⟩
    have hy1 : Sum.inl b1 = y1 := by rw [hb1]; exact hox1 _ (Option.some.inj hres).symm
    have hres := elimS_inl hresO1 hy1
    refine JE.weak (env' := []) (es' := []) [] ?_ trivial (by decide) (by subst hb1; rfl)
    refine JE.code ?_
    refine JX.seq ?_
    refine JX.region ?_
    refine JL.val (yl_assign rfl) rfl ?_
    refine JL.nil ?_
    refine JE.code ?_
    refine JX.ret ?_
    obtain rfl := Option.some.inj hres
    refine JE.ret (rs := [.tmp 4]) (vs := [.bool true]) rfl ⟨rfl, trivial⟩ ?_
    exact fun w' hb hs => ⟨_, _, ⟨rfl, rfl⟩, rfl, hb, hs.sel [] _ (by decide) rfl⟩

/- spec.IsColouring -/
def sh31 (q0 : SPanel) (q1 : List Int) : Option (Bool) := Option.bind (sh82 q0) fun x3 => bif !x3 then (some false) else (Option.bind (sh94 q0) fun x4 => Option.bind (sh95 q1 ((x4.length : Nat) : Int)) fun x11 => Option.bind (bif x11 then (Option.bind (sh96 x4 q1) fun x13 => some x13) else (some false)) fun cb12 => (some cb12))
def T31 (r : Bool) (v : Value) (rs : List Own) : Prop := v = rets [.bool r] ∧ rs = []
set_option maxRecDepth 100000 in
theorem c31 {w : World} {q0 : SPanel} {a_0_2 : Option Addr} {n_0_2 c_0_2 : Nat} (g_0_2 : Rd w a_0_2 (eI64.fl q0.Breaks)) (l_0_2 : q0.Breaks.length = n_0_2) (k_0_2 : n_0_2 ≤ c_0_2) {q1 : List Int} {a_1 : Option Addr} {n_1 c_1 : Nat} (g_1 : Rd w a_1 (eI64.fl q1)) (l_1 : q1.length = n_1) (k_1 : n_1 ≤ c_1) {r : Bool} (hres : sh31 q0 q1 = some r) : Calls Go.Proofs.Try.prog 31 [.agg #[.int .i64 q0.W, .int .i64 q0.H, .slice a_0_2 n_0_2 c_0_2], .slice a_1 n_1 c_1].toArray w (Ret w (T31 r)) := by
  subst l_0_2
  subst l_1
  unfold sh31 at hres
  refine calls_of (n := 18) (M := []) (es := []) Go.Proofs.Try.func31 rfl rfl rfl (Sep.nil _ _ _) ?_
  refine JX.seq ?_
  refine JX.region ?_
  refine JL.eff (ef_box rfl rfl) rfl ?_
  rintro _ _ ⟨g1, rfl, rfl⟩
  refine JL.val (yl_assign rfl) rfl ?_
  refine JL.nil ?_
  refine JE.code ?_
  refine JX.seq ?_
  refine JX.seq ?_
  refine JX.region ?_
  obtain ⟨x3, hx3, hres⟩ := bind_some hres
  refine JL.eff (ef_call (T := T82 x3) Go.Proofs.Try.func82 rfl (by kernel_rfl) rfl (fun w hC => c82 (RdAt.of0 (rd_box hC 0 rfl)) (rd_arg g_0_2 hC) rfl k_0_2 hx3)) rfl ?_
  rintro _ _ ⟨_, ⟨rfl, rfl⟩, rfl⟩
  refine JL.val (yl_not rfl) rfl ?_
  refine JL.nil ?_
  refine JE.code ?_
  rcases cond_some hres with ⟨hb, hres⟩ | ⟨hb, hres⟩
  · refine JX.condT rfl hb ?_
    refine JX.seq ?_
    refine JX.region ?_
    refine JL.val (yl_assign rfl) rfl ?_
    refine JL.nil ?_
    refine JE.weak (env' := [(4, .bool false)]) (es' := []) [] ?_ ⟨rfl, trivial⟩ (by decide) rfl
    refine JE.code ?_
    refine JX.ret ?_
    obtain rfl := Option.some.inj hres
    refine JE.ret (rs := [.tmp 4]) (vs := [.bool false]) rfl ⟨rfl, trivial⟩ ?_
    exact fun w' hb hs => ⟨_, _, ⟨rfl, rfl⟩, rfl, hb, hs.sel [] _ (by decide) rfl⟩
  · refine JX.condF rfl hb ?_
    refine JX.skip ?_
    refine JE.code ?_
    refine JX.seq ?_
    refine JX.region ?_
    obtain ⟨x4, hx4, hres⟩ := bind_some hres
    refine JL.eff (ef_call (T := T94 x4) Go.Proofs.Try.func94 rfl (by kernel_rfl) rfl (fun w hC => c94 (RdAt.of0 (rd_box hC 0 rfl)) (rd_arg g_0_2 hC) rfl k_0_2 hx4)) rfl ?_
    rintro _ _ ⟨_, ⟨a5, _, cp6, hs8, rfl, hi9, rfl, rfl⟩, rfl⟩
    refine JL.val (yl_assign rfl) rfl ?_
    refine JL.nil ?_
    refine JE.weak (env' := [(1, .slice a_1 q1.length c_1), (5, .slice a5 x4.length cp6)]) (es' := [rowT 104 eHd a5 x4.length cp6 hs8, innO 4 eBool none hs8 x4]) [1, 2] ?_ ⟨rfl, rfl, trivial⟩ (by decide) rfl
    refine JE.code ?_
    refine JX.seq ?_
    refine JX.region ?_
    refine JL.val (yl_move rfl) rfl ?_
    refine JL.val (yl_move rfl) rfl ?_
    refine JL.val (yl_len_slice Go.Proofs.Try.underlying99 rfl) rfl ?_
    obtain ⟨x11, hx11, hres⟩ := bind_some hres
    refine JL.eff (ef_call (T := T95 x11) Go.Proofs.Try.func95 rfl (by kernel_rfl) rfl (fun w hC => c95 (rd_arg g_1 hC) rfl k_1 hx11)) rfl ?_
    rintro _ _ ⟨_, ⟨rfl, rfl⟩, rfl⟩
    refine JL.val (yl_move rfl) rfl ?_
    obtain ⟨cb12, hcb12, hres⟩ := bind_some hres
    refine JL.cut (K := fun J => J [(17, .bool cb12)] []) 4 ?_ ?_
    · refine JL.val (yl_assign rfl) rfl ?_
      refine JL.nil ?_
      refine JE.weak (env' := [(4, .bool cb12)]) (es' := []) [] ?_ ⟨rfl, trivial⟩ (by decide) rfl
      refine JE.code ?_
      refine JX.ret ?_
      obtain rfl := Option.some.inj hres
      refine JE.ret (rs := [.tmp 4]) (vs := [.bool cb12]) rfl ⟨rfl, trivial⟩ ?_
      exact fun w' hb hs => ⟨_, _, ⟨rfl, rfl⟩, rfl, hb, hs.sel [] _ (by decide) rfl⟩
    · intro K
      rcases cond_some hcb12 with ⟨hb, hres⟩ | ⟨hb, hres⟩
      · refine JL.set (d := 13) (v := .bool true) (congrArg (fun b => some (Value.bool b)) hb) ?_
        refine JL.gval rfl rfl (yl_move rfl) rfl ?_
        refine JL.gval rfl rfl (yl_move rfl) rfl ?_
        obtain ⟨x13, hx13, hres⟩ := bind_some hres
        refine JL.geff rfl rfl (ef_call (T := T96 x13) Go.Proofs.Try.func96 rfl (by kernel_rfl) rfl (fun w hC => c96 (rd_row hC 0 rfl) (rd_inn hC 1 rfl) hi9 rfl (ln_row hC 0 rfl) (rd_arg g_1 hC) rfl k_1 hx13)) rfl ?_
        rintro _ _ ⟨_, ⟨rfl, rfl⟩, rfl⟩
        refine JL.val (yl_pick_true rfl rfl) rfl ?_
        have he := Option.some.inj hres
        exact JL.weak [] K ⟨(by rw [← he]; rfl), trivial⟩ (by decide) rfl
      · refine JL.set (d := 13) (v := .bool false) (congrArg (fun b => some (Value.bool b)) hb) ?_
        refine JL.gskip rfl rfl rfl rfl ?_
        refine JL.gskip rfl rfl rfl rfl ?_
        refine JL.gskip rfl rfl rfl rfl ?_
        refine JL.val (yl_pick_false rfl rfl) rfl ?_
        have he := Option.some.inj hres
        exact JL.weak [] K ⟨(by rw [← he]; rfl), trivial⟩ (by decide) rfl

/- impl.inRange -/
def sh125 (q0 : Int) (q1 : Int) (q2 : Int) : Option (Bool) := some ((decide (q1 ≤ q0)) && (decide (q0 ≤ q2)))
def T125 (r : Bool) (v : Value) (rs : List Own) : Prop := v = rets [.bool r] ∧ rs = []
set_option maxRecDepth 100000 in
theorem c125 {w : World} {q0 : Int} {q1 : Int} {q2 : Int} {r : Bool} (hres : sh125 q0 q1 q2 = some r) : Calls Go.Proofs.Try.prog 125 [.int .i64 q0, .int .i64 q1, .int .i64 q2].toArray w (Ret w (T125 r)) := by
  unfold sh125 at hres
  refine calls_of (n := 15) (M := []) (es := []) Go.Proofs.Try.func125 rfl rfl rfl (Sep.nil _ _ _) ?_
  refine JX.seq ?_
  refine JX.region ?_
  refine JL.val (yl_assign rfl) rfl ?_
  refine JL.nil ?_
  refine JE.code ?_
  refine JX.seq ?_
  refine JX.region ?_
  refine JL.val (yl_move rfl) rfl ?_
  refine JL.val (yl_move rfl) rfl ?_
  refine JL.val (yl_geq rfl rfl) rfl ?_
  refine JL.val (yl_move rfl) rfl ?_
  refine JL.cut (K := fun J => J [(14, .bool ((decide (q1 ≤ q0)) && (decide (q0 ≤ q2))))] []) 4 ?_ ?_
  · refine JL.val (yl_assign rfl) rfl ?_
    refine JL.nil ?_
    refine JE.weak (env' := [(6, .bool ((decide (q1 ≤ q0)) && (decide (q0 ≤ q2))))]) (es' := []) [] ?_ ⟨rfl, trivial⟩ (by decide) rfl
    refine JE.code ?_
    refine JX.ret ?_
    obtain rfl := Option.some.inj hres
    refine JE.ret (rs := [.tmp 6]) (vs := [.bool ((decide (q1 ≤ q0)) && (decide (q0 ≤ q2)))]) rfl ⟨rfl, trivial⟩ ?_
    exact fun w' hb hs => ⟨_, _, ⟨rfl, rfl⟩, rfl, hb, hs.sel [] _ (by decide) rfl⟩
  · intro K
    rcases Bool.eq_false_or_eq_true (decide (q1 ≤ q0)) with hb | hb
    · refine JL.set (d := 10) (v := .bool true) (congrArg (fun b => some (Value.bool b)) hb) ?_
      refine JL.gval rfl rfl (yl_move rfl) rfl ?_
      refine JL.gval rfl rfl (yl_move rfl) rfl ?_
      refine JL.gval rfl rfl (yl_leq rfl rfl) rfl ?_
      refine JL.val (yl_pick_true rfl rfl) rfl ?_
      exact JL.weak [] K ⟨(by rw [hb]; rfl), trivial⟩ (by decide) rfl
    · refine JL.set (d := 10) (v := .bool false) (congrArg (fun b => some (Value.bool b)) hb) ?_
      refine JL.gskip rfl rfl rfl rfl ?_
      refine JL.gskip rfl rfl rfl rfl ?_
      refine JL.gskip rfl rfl rfl rfl ?_
      refine JL.val (yl_pick_false rfl rfl) rfl ?_
      exact JL.weak [] K ⟨(by rw [hb]; rfl), trivial⟩ (by decide) rfl

/- impl.validSize -/
def sh146 (q0 : Int) (q1 : Int) : Option (Bool) := Option.bind (sh125 q0 1 8) fun x1 => Option.bind (bif x1 then (Option.bind (sh125 q1 1 8) fun x3 => some x3) else (some false)) fun cb2 => (some cb2)
def T146 (r : Bool) (v : Value) (rs : List Own) : Prop := v = rets [.bool r] ∧ rs = []
set_option maxRecDepth 100000 in
theorem c146 {w : World} {q0 : Int} {q1 : Int} {r : Bool} (hres : sh146 q0 q1 = some r) : Calls Go.Proofs.Try.prog 146 [.int .i64 q0, .int .i64 q1].toArray w (Ret w (T146 r)) := by
  unfold sh146 at hres
  refine calls_of (n := 11) (M := []) (es := []) Go.Proofs.Try.func146 rfl rfl rfl (Sep.nil _ _ _) ?_
  refine JX.seq ?_
  refine JX.region ?_
  refine JL.val (yl_assign rfl) rfl ?_
  refine JL.nil ?_
  refine JE.code ?_
  refine JX.seq ?_
  refine JX.region ?_
  refine JL.val (yl_move rfl) rfl ?_
  obtain ⟨x1, hx1, hres⟩ := bind_some hres
  refine JL.eff (ef_call (T := T125 x1) Go.Proofs.Try.func125 rfl (by kernel_rfl) rfl (fun w hC => c125  hx1)) rfl ?_
  rintro _ _ ⟨_, ⟨rfl, rfl⟩, rfl⟩
  refine JL.val (yl_move rfl) rfl ?_
  obtain ⟨cb2, hcb2, hres⟩ := bind_some hres
  refine JL.cut (K := fun J => J [(10, .bool cb2)] []) 3 ?_ ?_
  · refine JL.val (yl_assign rfl) rfl ?_
    refine JL.nil ?_
    refine JE.weak (env' := [(4, .bool cb2)]) (es' := []) [] ?_ ⟨rfl, trivial⟩ (by decide) rfl
    refine JE.code ?_
    refine JX.ret ?_
    obtain rfl := Option.some.inj hres
    refine JE.ret (rs := [.tmp 4]) (vs := [.bool cb2]) rfl ⟨rfl, trivial⟩ ?_
    exact fun w' hb hs => ⟨_, _, ⟨rfl, rfl⟩, rfl, hb, hs.sel [] _ (by decide) rfl⟩
  · intro K
    rcases cond_some hcb2 with ⟨hb, hres⟩ | ⟨hb, hres⟩
    · refine JL.set (d := 7) (v := .bool true) (congrArg (fun b => some (Value.bool b)) hb) ?_
      refine JL.gval rfl rfl (yl_move rfl) rfl ?_
      obtain ⟨x3, hx3, hres⟩ := bind_some hres
      refine JL.geff rfl rfl (ef_call (T := T125 x3) Go.Proofs.Try.func125 rfl (by kernel_rfl) rfl (fun w hC => c125  hx3)) rfl ?_
      rintro _ _ ⟨_, ⟨rfl, rfl⟩, rfl⟩
      refine JL.val (yl_pick_true rfl rfl) rfl ?_
      have he := Option.some.inj hres
      exact JL.weak [] K ⟨(by rw [← he]; rfl), trivial⟩ (by decide) rfl
    · refine JL.set (d := 7) (v := .bool false) (congrArg (fun b => some (Value.bool b)) hb) ?_
      refine JL.gskip rfl rfl rfl rfl ?_
      refine JL.gskip rfl rfl rfl rfl ?_
      refine JL.val (yl_pick_false rfl rfl) rfl ?_
      have he := Option.some.inj hres
      exact JL.weak [] K ⟨(by rw [← he]; rfl), trivial⟩ (by decide) rfl

/- impl.innerPoints -/
def sh147 (q0 : Int) (q1 : Int) : Option (Int) := some (w64 ((w64 (q0 * (w64 (q1 - 1)))) + (w64 (q1 * (w64 (q0 - 1))))))
def T147 (r : Int) (v : Value) (rs : List Own) : Prop := v = rets [.int .i64 r] ∧ rs = []
set_option maxRecDepth 100000 in
theorem c147 {w : World} {q0 : Int} {q1 : Int} {r : Int} (hres : sh147 q0 q1 = some r) : Calls Go.Proofs.Try.prog 147 [.int .i64 q0, .int .i64 q1].toArray w (Ret w (T147 r)) := by
  unfold sh147 at hres
  refine calls_of (n := 14) (M := []) (es := []) Go.Proofs.Try.func147 rfl rfl rfl (Sep.nil _ _ _) ?_
  refine JX.seq ?_
  refine JX.region ?_
  refine JL.val (yl_assign rfl) rfl ?_
  refine JL.nil ?_
  refine JE.code ?_
  refine JX.seq ?_
  refine JX.region ?_
  refine JL.val (yl_move rfl) rfl ?_
  refine JL.val (yl_move rfl) rfl ?_
  refine JL.val (yl_sub rfl rfl) rfl ?_
  refine JL.val (yl_mul rfl rfl) rfl ?_
  refine JL.val (yl_move rfl) rfl ?_
  refine JL.val (yl_move rfl) rfl ?_
  refine JL.val (yl_sub rfl rfl) rfl ?_
  refine JL.val (yl_mul rfl rfl) rfl ?_
  refine JL.val (yl_add rfl rfl) rfl ?_
  refine JL.val (yl_assign rfl) rfl ?_
  refine JL.nil ?_
  refine JE.weak (env' := [(4, .int .i64 (w64 ((w64 (q0 * (w64 (q1 - 1)))) + (w64 (q1 * (w64 (q0 - 1)))))))]) (es' := []) [] ?_ ⟨rfl, trivial⟩ (by decide) rfl
  refine JE.code ?_
  refine JX.ret ?_
  obtain rfl := Option.some.inj hres
  refine JE.ret (rs := [.tmp 4]) (vs := [.int .i64 (w64 ((w64 (q0 * (w64 (q1 - 1)))) + (w64 (q1 * (w64 (q0 - 1))))))]) rfl ⟨rfl, trivial⟩ ?_
  exact fun w' hb hs => ⟨_, _, ⟨rfl, rfl⟩, rfl, hb, hs.sel [] _ (by decide) rfl⟩

/- impl.validBreak -/
def sh148 (q0 : Int) : Option (Bool) := Option.bind (sh125 q0 0 2) fun x1 => some x1
def T148 (r : Bool) (v : Value) (rs : List Own) : Prop := v = rets [.bool r] ∧ rs = []
set_option maxRecDepth 100000 in
theorem c148 {w : World} {q0 : Int} {r : Bool} (hres : sh148 q0 = some r) : Calls Go.Proofs.Try.prog 148 [.int .i64 q0].toArray w (Ret w (T148 r)) := by
  unfold sh148 at hres
  refine calls_of (n := 5) (M := []) (es := []) Go.Proofs.Try.func148 rfl rfl rfl (Sep.nil _ _ _) ?_
  refine JX.seq ?_
  refine JX.region ?_
  refine JL.val (yl_assign rfl) rfl ?_
  refine JL.nil ?_
  refine JE.code ?_
  refine JX.seq ?_
  refine JX.region ?_
  refine JL.val (yl_move rfl) rfl ?_
  obtain ⟨x1, hx1, hres⟩ := bind_some hres
  refine JL.eff (ef_call (T := T125 x1) Go.Proofs.Try.func125 rfl (by kernel_rfl) rfl (fun w hC => c125  hx1)) rfl ?_
  rintro _ _ ⟨_, ⟨rfl, rfl⟩, rfl⟩
  refine JL.val (yl_assign rfl) rfl ?_
  refine JL.nil ?_
  refine JE.code ?_
  refine JX.ret ?_
  obtain rfl := Option.some.inj hres
  refine JE.ret (rs := [.tmp 2]) (vs := [.bool x1]) rfl ⟨rfl, trivial⟩ ?_
  exact fun w' hb hs => ⟨_, _, ⟨rfl, rfl⟩, rfl, hb, hs.sel [] _ (by decide) rfl⟩

end Go.Sh
