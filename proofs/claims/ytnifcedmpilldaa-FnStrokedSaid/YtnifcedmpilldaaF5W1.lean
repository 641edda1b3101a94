/- Walks through functions that the law reaches, printed by program. -/
import Derived.Test.YtnifcedmpilldaaF5W0
set_option linter.unusedVariables false
set_option linter.unusedSimpArgs false
namespace Go.Sh
open Go Go.RowKit
/- spec.l02Has -/
def sh140 (q0 : SPanel) (q1 : SPoint) : Option (Bool) := Option.bind (sh100 q1.X 0 (w64 (2 * q0.W))) fun x4 => Option.bind (bif x4 then (Option.bind (sh100 q1.Y 0 (w64 (2 * q0.H))) fun x6 => some x6) else (some false)) fun cb5 => (some (cb5 && (((w64 (q1.X + q1.Y)).tmod 2) == 1)))
def T140 (r : Bool) (v : Value) (rs : List Own) : Prop := v = rets [.bool r] ∧ rs = []
set_option maxRecDepth 100000 in
theorem c140 {w : World} {q0 : SPanel} {a_0 : Option Addr} {n_0 : Nat} {a_0_2 : Option Addr} {n_0_2 c_0_2 : Nat} (g_0 : RdAt w a_0 n_0 [.int .i64 q0.W, .int .i64 q0.H, .slice a_0_2 n_0_2 c_0_2]) (g_0_2 : Rd w a_0_2 (eI64.fl q0.Breaks)) (l_0_2 : q0.Breaks.length = n_0_2) (k_0_2 : n_0_2 ≤ c_0_2) {q1 : SPoint} {r : Bool} (hres : sh140 q0 q1 = some r) : Calls Go.Proofs.Try.prog 140 [ptrAt a_0 n_0, .agg #[.int .i64 q1.X, .int .i64 q1.Y]].toArray w (Ret w (T140 r)) := by
  subst l_0_2
  obtain ⟨b_0, e_0, g_0⟩ := g_0.norm0
  rw [e_0]
  unfold sh140 at hres
  refine calls_of (n := 32) (M := []) (es := []) Go.Proofs.Try.func140 rfl rfl rfl (Sep.nil _ _ _) ?_
  refine JX.seq ?_
  refine JX.region ?_
  refine JL.eff (ef_box rfl rfl) rfl ?_
  rintro _ _ ⟨g1, rfl, rfl⟩
  refine JL.val (yl_assign rfl) rfl ?_
  refine JL.nil ?_
  refine JE.code ?_
  refine JX.seq ?_
  refine JX.drawH [(0, .pure), (1, .read), (2, .pure), (3, .pure), (4, .pure), (5, .read), (6, .pure), (7, .must), (8, .pure), (9, .pure), (10, .read), (11, .pure), (12, .pure), (13, .pure), (14, .read), (15, .pure), (16, .must), (17, .pure), (18, .pure), (19, .pure), (20, .read), (21, .pure), (22, .read), (23, .pure), (24, .pure), (25, .pure), (26, .pure), (27, .pure)] [] [] [0] [] [boxO 42 g1 [.int .i64 q1.X, .int .i64 q1.Y]] mixedP (by kernel_rfl) (by kernel_rfl) (by decide) rfl rfl ?_
  intro wrr3 Nr3 hFr3
  refine JH.pure rfl (yl_fieldAt (a := some _) Go.Proofs.Try.underlying42 rfl i2 i2n rfl rfl) rfl ?_
  refine JH.read rfl (yl_load1 Go.Proofs.Try.underlying2 rfl rfl (fun w hw => hFr3.box 0 rfl rfl hw) rfl) rfl ?_
  refine JH.pure rfl (yl_move rfl) rfl ?_
  refine JH.pure rfl (yl_nilCheckAt rfl (Rd.some g_0 (j := 0) rfl)) rfl ?_
  refine JH.pure rfl (yl_fieldAt Go.Proofs.Try.underlying26 rfl i2 i2n rfl (Rd.some g_0 (j := 0) rfl)) rfl ?_
  refine JH.read rfl (yl_load1 Go.Proofs.Try.underlying2 rfl rfl (fun w hw => hFr3.arg g_0 hw) rfl) rfl ?_
  refine JH.pure rfl (yl_mul rfl rfl) rfl ?_
  obtain ⟨x4, hx4, hres⟩ := bind_some hres
  refine JH.must rfl (ef_call (T := T100 x4) Go.Proofs.Try.func100 rfl (by kernel_rfl) rfl (fun w hC => c100  hx4)) rfl rfl ?_
  rintro _ _ ⟨_, ⟨rfl, rfl⟩, rfl⟩
  refine JH.pure rfl (yl_move rfl) rfl ?_
  obtain ⟨cb5, hcb5, hres⟩ := bind_some hres
  refine JH.cut (K := fun J => J [(3, ptrAt (some ⟨g1, 0, none⟩) 0), (22, .bool cb5)] []) 9 ?_ ?_
  · refine JH.pure rfl (yl_move rfl) rfl ?_
    refine JH.cut (K := fun J => J [(31, .bool (cb5 && (((w64 (q1.X + q1.Y)).tmod 2) == 1)))] []) 8 ?_ ?_
    · refine JH.pure rfl (yl_assign rfl) rfl ?_
      refine JH.nil ?_
      refine JE.weak (env' := [(4, .bool (cb5 && (((w64 (q1.X + q1.Y)).tmod 2) == 1)))]) (es' := []) [] ?_ ⟨rfl, trivial⟩ (by decide) rfl
      refine JE.code ?_
      refine JX.ret ?_
      obtain rfl := Option.some.inj hres
      refine JE.ret (rs := [.tmp 4]) (vs := [.bool (cb5 && (((w64 (q1.X + q1.Y)).tmod 2) == 1))]) rfl ⟨rfl, trivial⟩ ?_
      exact fun w' hb hs => ⟨_, _, ⟨rfl, rfl⟩, rfl, hb, hs.sel [] _ (by decide) rfl⟩
    · intro K
      rcases Bool.eq_false_or_eq_true (cb5) with hb | hb
      · refine JH.set (d := 23) (v := .bool true) (congrArg (fun b => some (Value.bool b)) hb) ?_
        refine JH.gpure rfl rfl rfl (yl_fieldAt (a := some _) Go.Proofs.Try.underlying42 rfl i2 i2n rfl rfl) rfl ?_
        refine JH.gread rfl rfl rfl (yl_load1 Go.Proofs.Try.underlying2 rfl rfl (fun w hw => hFr3.box 0 rfl rfl hw) rfl) rfl ?_
        refine JH.gpure rfl rfl rfl (yl_fieldAt (a := some _) Go.Proofs.Try.underlying42 rfl i2 i2n rfl rfl) rfl ?_
        refine JH.gread rfl rfl rfl (yl_load1 Go.Proofs.Try.underlying2 rfl rfl (fun w hw => hFr3.box 0 rfl rfl hw) rfl) rfl ?_
        refine JH.gpure rfl rfl rfl (yl_add rfl rfl) rfl ?_
        refine JH.gpure rfl rfl rfl (yl_rem rfl rfl (by decide)) rfl ?_
        refine JH.gpure rfl rfl rfl (yl_eql rfl rfl) rfl ?_
        refine JH.pure rfl (yl_pick_true rfl rfl) rfl ?_
        exact JH.weak [] K ⟨(by rw [hb]; rfl), trivial⟩ (by decide) rfl
      · refine JH.set (d := 23) (v := .bool false) (congrArg (fun b => some (Value.bool b)) hb) ?_
        refine JH.gskip rfl rfl rfl rfl rfl rfl ?_
        refine JH.gskip rfl rfl rfl rfl rfl rfl ?_
        refine JH.gskip rfl rfl rfl rfl rfl rfl ?_
        refine JH.gskip rfl rfl rfl rfl rfl rfl ?_
        refine JH.gskip rfl rfl rfl rfl rfl rfl ?_
        refine JH.gskip rfl rfl rfl rfl rfl rfl ?_
        refine JH.gskip rfl rfl rfl rfl rfl rfl ?_
        refine JH.pure rfl (yl_pick_false rfl rfl) rfl ?_
        exact JH.weak [] K ⟨(by rw [hb]; rfl), trivial⟩ (by decide) rfl
  · intro K
    rcases cond_some hcb5 with ⟨hb, hres⟩ | ⟨hb, hres⟩
    · refine JH.set (d := 13) (v := .bool true) (congrArg (fun b => some (Value.bool b)) hb) ?_
      refine JH.gpure rfl rfl rfl (yl_fieldAt (a := some _) Go.Proofs.Try.underlying42 rfl i2 i2n rfl rfl) rfl ?_
      refine JH.gread rfl rfl rfl (yl_load1 Go.Proofs.Try.underlying2 rfl rfl (fun w hw => hFr3.box 0 rfl rfl hw) rfl) rfl ?_
      refine JH.gpure rfl rfl rfl (yl_move rfl) rfl ?_
      refine JH.gpure rfl rfl rfl (yl_nilCheckAt rfl (Rd.some g_0 (j := 0) rfl)) rfl ?_
      refine JH.gpure rfl rfl rfl (yl_fieldAt Go.Proofs.Try.underlying26 rfl i2 i2n rfl (Rd.some g_0 (j := 0) rfl)) rfl ?_
      refine JH.gread rfl rfl rfl (yl_load1 Go.Proofs.Try.underlying2 rfl rfl (fun w hw => hFr3.arg g_0 hw) rfl) rfl ?_
      refine JH.gpure rfl rfl rfl (yl_mul rfl rfl) rfl ?_
      obtain ⟨x6, hx6, hres⟩ := bind_some hres
      refine JH.gmust rfl rfl rfl (ef_call (T := T100 x6) Go.Proofs.Try.func100 rfl (by kernel_rfl) rfl (fun w hC => c100  hx6)) rfl rfl ?_
      rintro _ _ ⟨_, ⟨rfl, rfl⟩, rfl⟩
      refine JH.pure rfl (yl_pick_true rfl rfl) rfl ?_
      have he := Option.some.inj hres
      exact JH.weak [] K ⟨rfl, (by rw [← he]; rfl), trivial⟩ (by decide) rfl
    · refine JH.set (d := 13) (v := .bool false) (congrArg (fun b => some (Value.bool b)) hb) ?_
      refine JH.gskip rfl rfl rfl rfl rfl rfl ?_
      refine JH.gskip rfl rfl rfl rfl rfl rfl ?_
      refine JH.gskip rfl rfl rfl rfl rfl rfl ?_
      refine JH.gskip rfl rfl rfl rfl rfl rfl ?_
      refine JH.gskip rfl rfl rfl rfl rfl rfl ?_
      refine JH.gskip rfl rfl rfl rfl rfl rfl ?_
      refine JH.gskip rfl rfl rfl rfl rfl rfl ?_
      refine JH.gskip rfl rfl rfl rfl rfl rfl ?_
      refine JH.pure rfl (yl_pick_false rfl rfl) rfl ?_
      have he := Option.some.inj hres
      exact JH.weak [] K ⟨rfl, (by rw [← he]; rfl), trivial⟩ (by decide) rfl

/- spec.l02Edge -/
def sh188 (q0 : SPanel) (q1 : SPoint) : Option (Bool) := some ((((q1.X == 0) || (q1.Y == 0)) || (q1.X == (w64 (2 * q0.W)))) || (q1.Y == (w64 (2 * q0.H))))
def T188 (r : Bool) (v : Value) (rs : List Own) : Prop := v = rets [.bool r] ∧ rs = []
set_option maxRecDepth 100000 in
theorem c188 {w : World} {q0 : SPanel} {a_0 : Option Addr} {n_0 : Nat} {a_0_2 : Option Addr} {n_0_2 c_0_2 : Nat} (g_0 : RdAt w a_0 n_0 [.int .i64 q0.W, .int .i64 q0.H, .slice a_0_2 n_0_2 c_0_2]) (g_0_2 : Rd w a_0_2 (eI64.fl q0.Breaks)) (l_0_2 : q0.Breaks.length = n_0_2) (k_0_2 : n_0_2 ≤ c_0_2) {q1 : SPoint} {r : Bool} (hres : sh188 q0 q1 = some r) : Calls Go.Proofs.Try.prog 188 [ptrAt a_0 n_0, .agg #[.int .i64 q1.X, .int .i64 q1.Y]].toArray w (Ret w (T188 r)) := by
  subst l_0_2
  obtain ⟨b_0, e_0, g_0⟩ := g_0.norm0
  rw [e_0]
  unfold sh188 at hres
  refine calls_of (n := 33) (M := []) (es := []) Go.Proofs.Try.func188 rfl rfl rfl (Sep.nil _ _ _) ?_
  refine JX.seq ?_
  refine JX.region ?_
  refine JL.eff (ef_box rfl rfl) rfl ?_
  rintro _ _ ⟨g1, rfl, rfl⟩
  refine JL.val (yl_assign rfl) rfl ?_
  refine JL.nil ?_
  refine JE.code ?_
  refine JX.seq ?_
  refine JX.drawH [(0, .pure), (1, .read), (2, .pure), (3, .pure), (4, .pure), (5, .read), (6, .pure), (7, .pure), (8, .pure), (9, .pure), (10, .read), (11, .pure), (12, .pure), (13, .pure), (14, .read), (15, .pure), (16, .pure), (17, .pure), (18, .pure), (19, .pure), (20, .read), (21, .pure), (22, .pure), (23, .pure), (24, .read), (25, .pure), (26, .pure), (27, .pure), (28, .pure)] [] [] [0] [] [boxO 42 g1 [.int .i64 q1.X, .int .i64 q1.Y]] mixedP (by kernel_rfl) (by kernel_rfl) (by decide) rfl rfl ?_
  intro wrr3 Nr3 hFr3
  refine JH.pure rfl (yl_fieldAt (a := some _) Go.Proofs.Try.underlying42 rfl i2 i2n rfl rfl) rfl ?_
  refine JH.read rfl (yl_load1 Go.Proofs.Try.underlying2 rfl rfl (fun w hw => hFr3.box 0 rfl rfl hw) rfl) rfl ?_
  refine JH.pure rfl (yl_eql rfl rfl) rfl ?_
  refine JH.pure rfl (yl_move rfl) rfl ?_
  refine JH.cut (K := fun J => J [(0, ptrAt b_0 0), (3, ptrAt (some ⟨g1, 0, none⟩) 0), (12, .bool ((q1.X == 0) || (q1.Y == 0)))] []) 4 ?_ ?_
  · refine JH.pure rfl (yl_move rfl) rfl ?_
    refine JH.cut (K := fun J => J [(0, ptrAt b_0 0), (3, ptrAt (some ⟨g1, 0, none⟩) 0), (22, .bool (((q1.X == 0) || (q1.Y == 0)) || (q1.X == (w64 (2 * q0.W)))))] []) 9 ?_ ?_
    · refine JH.pure rfl (yl_move rfl) rfl ?_
      refine JH.cut (K := fun J => J [(32, .bool ((((q1.X == 0) || (q1.Y == 0)) || (q1.X == (w64 (2 * q0.W)))) || (q1.Y == (w64 (2 * q0.H)))))] []) 9 ?_ ?_
      · refine JH.pure rfl (yl_assign rfl) rfl ?_
        refine JH.nil ?_
        refine JE.weak (env' := [(4, .bool ((((q1.X == 0) || (q1.Y == 0)) || (q1.X == (w64 (2 * q0.W)))) || (q1.Y == (w64 (2 * q0.H)))))]) (es' := []) [] ?_ ⟨rfl, trivial⟩ (by decide) rfl
        refine JE.code ?_
        refine JX.ret ?_
        obtain rfl := Option.some.inj hres
        refine JE.ret (rs := [.tmp 4]) (vs := [.bool ((((q1.X == 0) || (q1.Y == 0)) || (q1.X == (w64 (2 * q0.W)))) || (q1.Y == (w64 (2 * q0.H))))]) rfl ⟨rfl, trivial⟩ ?_
        exact fun w' hb hs => ⟨_, _, ⟨rfl, rfl⟩, rfl, hb, hs.sel [] _ (by decide) rfl⟩
      · intro K
        rcases Bool.eq_false_or_eq_true (((q1.X == 0) || (q1.Y == 0)) || (q1.X == (w64 (2 * q0.W)))) with hb | hb
        · refine JH.set (d := 23) (v := .bool true) (congrArg (fun b => some (Value.bool b)) hb) ?_
          refine JH.gskip rfl rfl rfl rfl rfl rfl ?_
          refine JH.gskip rfl rfl rfl rfl rfl rfl ?_
          refine JH.gskip rfl rfl rfl rfl rfl rfl ?_
          refine JH.gskip rfl rfl rfl rfl rfl rfl ?_
          refine JH.gskip rfl rfl rfl rfl rfl rfl ?_
          refine JH.gskip rfl rfl rfl rfl rfl rfl ?_
          refine JH.gskip rfl rfl rfl rfl rfl rfl ?_
          refine JH.gskip rfl rfl rfl rfl rfl rfl ?_
          refine JH.pure rfl (yl_pick_true rfl rfl) rfl ?_
          exact JH.weak [] K ⟨(by rw [hb]; rfl), trivial⟩ (by decide) rfl
        · refine JH.set (d := 23) (v := .bool false) (congrArg (fun b => some (Value.bool b)) hb) ?_
          refine JH.gpure rfl rfl rfl (yl_fieldAt (a := some _) Go.Proofs.Try.underlying42 rfl i2 i2n rfl rfl) rfl ?_
          refine JH.gread rfl rfl rfl (yl_load1 Go.Proofs.Try.underlying2 rfl rfl (fun w hw => hFr3.box 0 rfl rfl hw) rfl) rfl ?_
          refine JH.gpure rfl rfl rfl (yl_move rfl) rfl ?_
          refine JH.gpure rfl rfl rfl (yl_nilCheckAt rfl (Rd.some g_0 (j := 0) rfl)) rfl ?_
          refine JH.gpure rfl rfl rfl (yl_fieldAt Go.Proofs.Try.underlying26 rfl i2 i2n rfl (Rd.some g_0 (j := 0) rfl)) rfl ?_
          refine JH.gread rfl rfl rfl (yl_load1 Go.Proofs.Try.underlying2 rfl rfl (fun w hw => hFr3.arg g_0 hw) rfl) rfl ?_
          refine JH.gpure rfl rfl rfl (yl_mul rfl rfl) rfl ?_
          refine JH.gpure rfl rfl rfl (yl_eql rfl rfl) rfl ?_
          refine JH.pure rfl (yl_pick_false rfl rfl) rfl ?_
          exact JH.weak [] K ⟨(by rw [hb]; rfl), trivial⟩ (by decide) rfl
    · intro K
      rcases Bool.eq_false_or_eq_true ((q1.X == 0) || (q1.Y == 0)) with hb | hb
      · refine JH.set (d := 13) (v := .bool true) (congrArg (fun b => some (Value.bool b)) hb) ?_
        refine JH.gskip rfl rfl rfl rfl rfl rfl ?_
        refine JH.gskip rfl rfl rfl rfl rfl rfl ?_
        refine JH.gskip rfl rfl rfl rfl rfl rfl ?_
        refine JH.gskip rfl rfl rfl rfl rfl rfl ?_
        refine JH.gskip rfl rfl rfl rfl rfl rfl ?_
        refine JH.gskip rfl rfl rfl rfl rfl rfl ?_
        refine JH.gskip rfl rfl rfl rfl rfl rfl ?_
        refine JH.gskip rfl rfl rfl rfl rfl rfl ?_
        refine JH.pure rfl (yl_pick_true rfl rfl) rfl ?_
        exact JH.weak [] K ⟨rfl, rfl, (by rw [hb]; rfl), trivial⟩ (by decide) rfl
      · refine JH.set (d := 13) (v := .bool false) (congrArg (fun b => some (Value.bool b)) hb) ?_
        refine JH.gpure rfl rfl rfl (yl_fieldAt (a := some _) Go.Proofs.Try.underlying42 rfl i2 i2n rfl rfl) rfl ?_
        refine JH.gread rfl rfl rfl (yl_load1 Go.Proofs.Try.underlying2 rfl rfl (fun w hw => hFr3.box 0 rfl rfl hw) rfl) rfl ?_
        refine JH.gpure rfl rfl rfl (yl_move rfl) rfl ?_
        refine JH.gpure rfl rfl rfl (yl_nilCheckAt rfl (Rd.some g_0 (j := 0) rfl)) rfl ?_
        refine JH.gpure rfl rfl rfl (yl_fieldAt Go.Proofs.Try.underlying26 rfl i2 i2n rfl (Rd.some g_0 (j := 0) rfl)) rfl ?_
        refine JH.gread rfl rfl rfl (yl_load1 Go.Proofs.Try.underlying2 rfl rfl (fun w hw => hFr3.arg g_0 hw) rfl) rfl ?_
        refine JH.gpure rfl rfl rfl (yl_mul rfl rfl) rfl ?_
        refine JH.gpure rfl rfl rfl (yl_eql rfl rfl) rfl ?_
        refine JH.pure rfl (yl_pick_false rfl rfl) rfl ?_
        exact JH.weak [] K ⟨rfl, rfl, (by rw [hb]; rfl), trivial⟩ (by decide) rfl
  · intro K
    rcases Bool.eq_false_or_eq_true (q1.X == 0) with hb | hb
    · refine JH.set (d := 8) (v := .bool true) (congrArg (fun b => some (Value.bool b)) hb) ?_
      refine JH.gskip rfl rfl rfl rfl rfl rfl ?_
      refine JH.gskip rfl rfl rfl rfl rfl rfl ?_
      refine JH.gskip rfl rfl rfl rfl rfl rfl ?_
      refine JH.pure rfl (yl_pick_true rfl rfl) rfl ?_
      exact JH.weak [] K ⟨rfl, rfl, (by rw [hb]; rfl), trivial⟩ (by decide) rfl
    · refine JH.set (d := 8) (v := .bool false) (congrArg (fun b => some (Value.bool b)) hb) ?_
      refine JH.gpure rfl rfl rfl (yl_fieldAt (a := some _) Go.Proofs.Try.underlying42 rfl i2 i2n rfl rfl) rfl ?_
      refine JH.gread rfl rfl rfl (yl_load1 Go.Proofs.Try.underlying2 rfl rfl (fun w hw => hFr3.box 0 rfl rfl hw) rfl) rfl ?_
      refine JH.gpure rfl rfl rfl (yl_eql rfl rfl) rfl ?_
      refine JH.pure rfl (yl_pick_false rfl rfl) rfl ?_
      exact JH.weak [] K ⟨rfl, rfl, (by rw [hb]; rfl), trivial⟩ (by decide) rfl

/- spec.l02Code -/
def sh124 (q0 : SPanel) (q1 : SPoint) : Option (Int) := Option.bind (sh139 q0) fun x3 => bif !x3 then (some 1) else (Option.bind (sh140 q0 q1) fun x4 => bif !x4 then (some 2) else (Option.bind (sh188 q0 q1) fun x5 => bif x5 then (some 6) else (some 0)))
def T124 (r : Int) (v : Value) (rs : List Own) : Prop := v = rets [.int .i64 r] ∧ rs = []
set_option maxRecDepth 100000 in
theorem c124 {w : World} {q0 : SPanel} {a_0 : Option Addr} {n_0 : Nat} {a_0_2 : Option Addr} {n_0_2 c_0_2 : Nat} (g_0 : RdAt w a_0 n_0 [.int .i64 q0.W, .int .i64 q0.H, .slice a_0_2 n_0_2 c_0_2]) (g_0_2 : Rd w a_0_2 (eI64.fl q0.Breaks)) (l_0_2 : q0.Breaks.length = n_0_2) (k_0_2 : n_0_2 ≤ c_0_2) {q1 : SPoint} {r : Int} (hres : sh124 q0 q1 = some r) : Calls Go.Proofs.Try.prog 124 [ptrAt a_0 n_0, .agg #[.int .i64 q1.X, .int .i64 q1.Y]].toArray w (Ret w (T124 r)) := by
  subst l_0_2
  obtain ⟨b_0, e_0, g_0⟩ := g_0.norm0
  rw [e_0]
  unfold sh124 at hres
  refine calls_of (n := 15) (M := []) (es := []) Go.Proofs.Try.func124 rfl rfl rfl (Sep.nil _ _ _) ?_
  refine JX.seq ?_
  refine JX.region ?_
  refine JL.eff (ef_box rfl rfl) rfl ?_
  rintro _ _ ⟨g1, rfl, rfl⟩
  refine JL.val (yl_assign rfl) rfl ?_
  refine JL.nil ?_
  refine JE.code ?_
  refine JX.seq ?_
  refine JX.seq ?_
  refine JX.region ?_
  refine JL.val (yl_move rfl) rfl ?_
  obtain ⟨x3, hx3, hres⟩ := bind_some hres
  refine JL.eff (ef_call (T := T139 x3) Go.Proofs.Try.func139 rfl (by kernel_rfl) rfl (fun w hC => c139 (RdAt.of0 (rd_arg g_0 hC)) (rd_arg g_0_2 hC) rfl k_0_2 hx3)) rfl ?_
  rintro _ _ ⟨_, ⟨rfl, rfl⟩, rfl⟩
  refine JL.val (yl_not rfl) rfl ?_
  refine JL.nil ?_
  refine JE.code ?_
  rcases cond_some hres with ⟨hb, hres⟩ | ⟨hb, hres⟩
  · refine JX.condT rfl hb ?_
    refine JX.seq ?_
    refine JX.region ?_
    refine JL.val (yl_assign rfl) rfl ?_
    refine JL.nil ?_
    refine JE.weak (env' := [(4, .int .i64 1)]) (es' := []) [] ?_ ⟨rfl, trivial⟩ (by decide) rfl
    refine JE.code ?_
    refine JX.ret ?_
    obtain rfl := Option.some.inj hres
    refine JE.ret (rs := [.tmp 4]) (vs := [.int .i64 1]) rfl ⟨rfl, trivial⟩ ?_
    exact fun w' hb hs => ⟨_, _, ⟨rfl, rfl⟩, rfl, hb, hs.sel [] _ (by decide) rfl⟩
  · refine JX.condF rfl hb ?_
    refine JX.skip ?_
    refine JE.code ?_
    refine JX.seq ?_
    refine JX.seq ?_
    refine JX.region ?_
    refine JL.val (yl_move rfl) rfl ?_
    refine JL.val (yl_loadn Go.Proofs.Try.underlying42 rfl i42 rfl (fun w hC => rd_box hC 0 rfl) rfl (i42s).symm i42p) rfl ?_
    obtain ⟨x4, hx4, hres⟩ := bind_some hres
    refine JL.eff (ef_call (vs := [ptrAt b_0 0, .agg #[.int .i64 q1.X, .int .i64 q1.Y]]) (T := T140 x4) Go.Proofs.Try.func140 rfl (by kernel_rfl) rfl (fun w hC => c140 (q1 := q1) (RdAt.of0 (rd_arg g_0 hC)) (rd_arg g_0_2 hC) rfl k_0_2 hx4)) rfl ?_
    rintro _ _ ⟨_, ⟨rfl, rfl⟩, rfl⟩
    refine JL.val (yl_not rfl) rfl ?_
    refine JL.nil ?_
    refine JE.weak (env' := [(0, ptrAt b_0 0), (3, ptrAt (some ⟨g1, 0, none⟩) 0), (11, .bool !x4)]) (es' := [boxO 42 g1 [.int .i64 q1.X, .int .i64 q1.Y]]) [0] ?_ ⟨rfl, rfl, rfl, trivial⟩ (by decide) rfl
    refine JE.code ?_
    rcases cond_some hres with ⟨hb, hres⟩ | ⟨hb, hres⟩
    · refine JX.condT rfl hb ?_
      refine JX.seq ?_
      refine JX.region ?_
      refine JL.val (yl_assign rfl) rfl ?_
      refine JL.nil ?_
      refine JE.weak (env' := [(4, .int .i64 2)]) (es' := []) [] ?_ ⟨rfl, trivial⟩ (by decide) rfl
      refine JE.code ?_
      refine JX.ret ?_
      obtain rfl := Option.some.inj hres
      refine JE.ret (rs := [.tmp 4]) (vs := [.int .i64 2]) rfl ⟨rfl, trivial⟩ ?_
      exact fun w' hb hs => ⟨_, _, ⟨rfl, rfl⟩, rfl, hb, hs.sel [] _ (by decide) rfl⟩
    · refine JX.condF rfl hb ?_
      refine JX.skip ?_
      refine JE.code ?_
      refine JX.seq ?_
      refine JX.seq ?_
      refine JX.region ?_
      refine JL.val (yl_move rfl) rfl ?_
      refine JL.val (yl_loadn Go.Proofs.Try.underlying42 rfl i42 rfl (fun w hC => rd_box hC 0 rfl) rfl (i42s).symm i42p) rfl ?_
      obtain ⟨x5, hx5, hres⟩ := bind_some hres
      refine JL.eff (ef_call (vs := [ptrAt b_0 0, .agg #[.int .i64 q1.X, .int .i64 q1.Y]]) (T := T188 x5) Go.Proofs.Try.func188 rfl (by kernel_rfl) rfl (fun w hC => c188 (q1 := q1) (RdAt.of0 (rd_arg g_0 hC)) (rd_arg g_0_2 hC) rfl k_0_2 hx5)) rfl ?_
      rintro _ _ ⟨_, ⟨rfl, rfl⟩, rfl⟩
      refine JL.nil ?_
      refine JE.weak (env' := [(14, .bool x5)]) (es' := []) [] ?_ ⟨rfl, trivial⟩ (by decide) rfl
      refine JE.code ?_
      rcases cond_some hres with ⟨hb, hres⟩ | ⟨hb, hres⟩
      · refine JX.condT rfl hb ?_
        refine JX.seq ?_
        refine JX.region ?_
        refine JL.val (yl_assign rfl) rfl ?_
        refine JL.nil ?_
        refine JE.code ?_
        refine JX.ret ?_
        obtain rfl := Option.some.inj hres
        refine JE.ret (rs := [.tmp 4]) (vs := [.int .i64 6]) rfl ⟨rfl, trivial⟩ ?_
        exact fun w' hb hs => ⟨_, _, ⟨rfl, rfl⟩, rfl, hb, hs.sel [] _ (by decide) rfl⟩
      · refine JX.condF rfl hb ?_
        refine JX.skip ?_
        refine JE.code ?_
        refine JX.seq ?_
        refine JX.region ?_
        refine JL.val (yl_assign rfl) rfl ?_
        refine JL.nil ?_
        refine JE.code ?_
        refine JX.ret ?_
        obtain rfl := Option.some.inj hres
        refine JE.ret (rs := [.tmp 4]) (vs := [.int .i64 0]) rfl ⟨rfl, trivial⟩ ?_
        exact fun w' hb hs => ⟨_, _, ⟨rfl, rfl⟩, rfl, hb, hs.sel [] _ (by decide) rfl⟩

/- spec.l02Kind -/
def sh125 (q0 : Int) : Option (Bool) := Option.bind (sh100 q0 0 2) fun x1 => some x1
def T125 (r : Bool) (v : Value) (rs : List Own) : Prop := v = rets [.bool r] ∧ rs = []
set_option maxRecDepth 100000 in
theorem c125 {w : World} {q0 : Int} {r : Bool} (hres : sh125 q0 = some r) : Calls Go.Proofs.Try.prog 125 [.int .i64 q0].toArray w (Ret w (T125 r)) := by
  unfold sh125 at hres
  refine calls_of (n := 5) (M := []) (es := []) Go.Proofs.Try.func125 rfl rfl rfl (Sep.nil _ _ _) ?_
  refine JX.seq ?_
  refine JX.region ?_
  refine JL.val (yl_assign rfl) rfl ?_
  refine JL.nil ?_
  refine JE.code ?_
  refine JX.seq ?_
  refine JX.region ?_
  refine JL.val (yl_move rfl) rfl ?_
  obtain ⟨x1, hx1, hres⟩ := bind_some hres
  refine JL.eff (ef_call (T := T100 x1) Go.Proofs.Try.func100 rfl (by kernel_rfl) rfl (fun w hC => c100  hx1)) rfl ?_
  rintro _ _ ⟨_, ⟨rfl, rfl⟩, rfl⟩
  refine JL.val (yl_assign rfl) rfl ?_
  refine JL.nil ?_
  refine JE.code ?_
  refine JX.ret ?_
  obtain rfl := Option.some.inj hres
  refine JE.ret (rs := [.tmp 2]) (vs := [.bool x1]) rfl ⟨rfl, trivial⟩ ?_
  exact fun w' hb hs => ⟨_, _, ⟨rfl, rfl⟩, rfl, hb, hs.sel [] _ (by decide) rfl⟩

/- spec.l19Scale -/
def sh126 (q0 : Int) : Option (Bool) := Option.bind (sh100 q0 2 100) fun x1 => some x1
def T126 (r : Bool) (v : Value) (rs : List Own) : Prop := v = rets [.bool r] ∧ rs = []
set_option maxRecDepth 100000 in
theorem c126 {w : World} {q0 : Int} {r : Bool} (hres : sh126 q0 = some r) : Calls Go.Proofs.Try.prog 126 [.int .i64 q0].toArray w (Ret w (T126 r)) := by
  unfold sh126 at hres
  refine calls_of (n := 5) (M := []) (es := []) Go.Proofs.Try.func126 rfl rfl rfl (Sep.nil _ _ _) ?_
  refine JX.seq ?_
  refine JX.region ?_
  refine JL.val (yl_assign rfl) rfl ?_
  refine JL.nil ?_
  refine JE.code ?_
  refine JX.seq ?_
  refine JX.region ?_
  refine JL.val (yl_move rfl) rfl ?_
  obtain ⟨x1, hx1, hres⟩ := bind_some hres
  refine JL.eff (ef_call (T := T100 x1) Go.Proofs.Try.func100 rfl (by kernel_rfl) rfl (fun w hC => c100  hx1)) rfl ?_
  rintro _ _ ⟨_, ⟨rfl, rfl⟩, rfl⟩
  refine JL.val (yl_assign rfl) rfl ?_
  refine JL.nil ?_
  refine JE.code ?_
  refine JX.ret ?_
  obtain rfl := Option.some.inj hres
  refine JE.ret (rs := [.tmp 2]) (vs := [.bool x1]) rfl ⟨rfl, trivial⟩ ?_
  exact fun w' hb hs => ⟨_, _, ⟨rfl, rfl⟩, rfl, hb, hs.sel [] _ (by decide) rfl⟩

/- spec.StrokeFor -/
def sh38 (q0 : SPanel) (q1 : SPoint) (q2 : Int) (q3 : Int) : Option (List SPoint × Int) := Option.bind (sh124 q0 q1) fun x5 => bif x5 == 1 then (some (([] : List SPoint), x5)) else (Option.bind (bif x5 == 2 then (some true) else (Option.bind (sh125 q2) fun x8 => some !x8)) fun cb7 => (Option.bind (bif cb7 then (some true) else (Option.bind (sh126 q3) fun x10 => some !x10)) fun cb9 => (bif cb9 then (some (([] : List SPoint), 2)) else (bif x5 != 0 then (some (([] : List SPoint), x5)) else (bif q2 == 1 then (some ([SPoint.mk (w64 (q1.X * q3)) (w64 ((w64 (q1.Y * q3)) - (w64 (q3.tdiv 2)))), SPoint.mk (w64 (q1.X * q3)) (w64 ((w64 (q1.Y * q3)) + (w64 (q3.tdiv 2))))], 0)) else (bif q2 == 2 then (some ([SPoint.mk (w64 ((w64 (q1.X * q3)) - (w64 (q3.tdiv 2)))) (w64 (q1.Y * q3)), SPoint.mk (w64 ((w64 (q1.X * q3)) + (w64 (q3.tdiv 2)))) (w64 (q1.Y * q3))], 0)) else (some ([SPoint.mk (w64 (q1.X * q3)) (w64 (q1.Y * q3))], 0))))))))
def T38 (r : List SPoint × Int) (v : Value) (rs : List Own) : Prop := ∃ (a0 : Option Addr) (n0 c0 : Nat), r.1.length = n0 ∧ v = rets [.slice a0 n0 c0, .int .i64 r.2] ∧ rs = [rowT 42 eSPoint a0 n0 c0 r.1]
set_option maxRecDepth 100000 in
theorem c38 {w : World} {q0 : SPanel} {a_0_2 : Option Addr} {n_0_2 c_0_2 : Nat} (g_0_2 : Rd w a_0_2 (eI64.fl q0.Breaks)) (l_0_2 : q0.Breaks.length = n_0_2) (k_0_2 : n_0_2 ≤ c_0_2) {q1 : SPoint} {q2 : Int} {q3 : Int} {r : List SPoint × Int} (hres : sh38 q0 q1 q2 q3 = some r) : Calls Go.Proofs.Try.prog 38 [.agg #[.int .i64 q0.W, .int .i64 q0.H, .slice a_0_2 n_0_2 c_0_2], .agg #[.int .i64 q1.X, .int .i64 q1.Y], .int .i64 q2, .int .i64 q3].toArray w (Ret w (T38 r)) := by
  subst l_0_2
  unfold sh38 at hres
  refine calls_of (n := 75) (M := []) (es := []) Go.Proofs.Try.func38 rfl rfl rfl (Sep.nil _ _ _) ?_
  refine JX.seq ?_
  refine JX.region ?_
  refine JL.eff (ef_box rfl rfl) rfl ?_
  rintro _ _ ⟨g1, rfl, rfl⟩
  refine JL.eff (ef_box rfl rfl) rfl ?_
  rintro _ _ ⟨g3, rfl, rfl⟩
  refine JL.val (yl_assign rfl) rfl ?_
  refine JL.val (yl_assign rfl) rfl ?_
  refine JL.nil ?_
  refine JE.weak (env' := [(2, .int .i64 q2), (3, .int .i64 q3), (4, ptrAt (some ⟨g1, 0, none⟩) 0), (5, ptrAt (some ⟨g3, 0, none⟩) 0)]) (es' := [boxO 26 g1 [.int .i64 q0.W, .int .i64 q0.H, .slice a_0_2 q0.Breaks.length c_0_2], boxO 42 g3 [.int .i64 q1.X, .int .i64 q1.Y]]) [0, 1] ?_ ⟨rfl, rfl, rfl, rfl, trivial⟩ (by decide) rfl
  refine JE.code ?_
  refine JX.seq ?_
  refine JX.region ?_
  refine JL.val (yl_loadn Go.Proofs.Try.underlying42 rfl i42 rfl (fun w hC => rd_box hC 1 rfl) rfl (i42s).symm i42p) rfl ?_
  obtain ⟨x5, hx5, hres⟩ := bind_some hres
  refine JL.eff (ef_call (vs := [ptrAt (some ⟨g1, 0, none⟩) 0, .agg #[.int .i64 q1.X, .int .i64 q1.Y]]) (T := T124 x5) Go.Proofs.Try.func124 rfl (by kernel_rfl) rfl (fun w hC => c124 (q1 := q1) (RdAt.of0 (rd_box hC 0 rfl)) (rd_arg g_0_2 hC) rfl k_0_2 hx5)) rfl ?_
  rintro _ _ ⟨_, ⟨rfl, rfl⟩, rfl⟩
  refine JL.val (yl_assign rfl) rfl ?_
  refine JL.nil ?_
  refine JE.weak (env' := [(2, .int .i64 q2), (3, .int .i64 q3), (5, ptrAt (some ⟨g3, 0, none⟩) 0), (10, .int .i64 x5)]) (es' := [boxO 42 g3 [.int .i64 q1.X, .int .i64 q1.Y]]) [1] ?_ ⟨rfl, rfl, rfl, rfl, trivial⟩ (by decide) rfl
  refine JE.code ?_
  refine JX.seq ?_
  refine JX.seq ?_
  refine JX.region ?_
  refine JL.val (yl_move rfl) rfl ?_
  refine JL.val (yl_eql rfl rfl) rfl ?_
  refine JL.nil ?_
  refine JE.code ?_
  rcases cond_some hres with ⟨hb, hres⟩ | ⟨hb, hres⟩
  · refine JX.condT rfl hb ?_
    refine JX.seq ?_
    refine JX.region ?_
    refine JL.val (yl_move rfl) rfl ?_
    refine JL.val (yl_assign rfl) rfl ?_
    refine JL.val (yl_assign rfl) rfl ?_
    refine JL.nil ?_
    refine JE.weak (env' := [(8, .slice none 0 0), (9, .int .i64 x5)]) (es' := []) [] ?_ ⟨rfl, rfl, trivial⟩ (by decide) rfl
    refine JE.code ?_
    refine JX.ret ?_
    refine JE.nilrow 42 eSPoint ?_
    obtain rfl := Option.some.inj hres
    refine JE.ret (rs := [.tmp 8, .tmp 9]) (vs := [.slice none 0 0, .int .i64 x5]) rfl ⟨rfl, rfl, trivial⟩ ?_
    exact fun w' hb hs => ⟨_, _, ⟨none, 0, 0, rfl, rfl, rfl⟩, rfl, hb, hs.sel [0] _ (by decide) rfl⟩
  · refine JX.condF rfl hb ?_
    refine JX.skip ?_
    refine JE.code ?_
    refine JX.seq ?_
    refine JX.seq ?_
    refine JX.region ?_
    refine JL.val (yl_move rfl) rfl ?_
    refine JL.val (yl_eql rfl rfl) rfl ?_
    refine JL.val (yl_move rfl) rfl ?_
    obtain ⟨cb7, hcb7, hres⟩ := bind_some hres
    refine JL.cut (K := fun J => J [(2, .int .i64 q2), (3, .int .i64 q3), (5, ptrAt (some ⟨g3, 0, none⟩) 0), (10, .int .i64 x5), (25, .bool cb7)] [boxO 42 g3 [.int .i64 q1.X, .int .i64 q1.Y]]) 4 ?_ ?_
    · refine JL.val (yl_move rfl) rfl ?_
      obtain ⟨cb9, hcb9, hres⟩ := bind_some hres
      refine JL.cut (K := fun J => J [(2, .int .i64 q2), (3, .int .i64 q3), (5, ptrAt (some ⟨g3, 0, none⟩) 0), (10, .int .i64 x5), (30, .bool cb9)] [boxO 42 g3 [.int .i64 q1.X, .int .i64 q1.Y]]) 4 ?_ ?_
      · refine JL.nil ?_
        refine JE.weak (env' := [(2, .int .i64 q2), (3, .int .i64 q3), (5, ptrAt (some ⟨g3, 0, none⟩) 0), (10, .int .i64 x5), (30, .bool cb9)]) (es' := [boxO 42 g3 [.int .i64 q1.X, .int .i64 q1.Y]]) [0] ?_ ⟨rfl, rfl, rfl, rfl, rfl, trivial⟩ (by decide) rfl
        refine JE.code ?_
        rcases cond_some hres with ⟨hb, hres⟩ | ⟨hb, hres⟩
        · refine JX.condT rfl hb ?_
          refine JX.seq ?_
          refine JX.region ?_
          refine JL.val (yl_assign rfl) rfl ?_
          refine JL.val (yl_assign rfl) rfl ?_
          refine JL.nil ?_
          refine JE.weak (env' := [(8, .slice none 0 0), (9, .int .i64 2)]) (es' := []) [] ?_ ⟨rfl, rfl, trivial⟩ (by decide) rfl
          refine JE.code ?_
          refine JX.ret ?_
          refine JE.nilrow 42 eSPoint ?_
          obtain rfl := Option.some.inj hres
          refine JE.ret (rs := [.tmp 8, .tmp 9]) (vs := [.slice none 0 0, .int .i64 2]) rfl ⟨rfl, rfl, trivial⟩ ?_
          exact fun w' hb hs => ⟨_, _, ⟨none, 0, 0, rfl, rfl, rfl⟩, rfl, hb, hs.sel [0] _ (by decide) rfl⟩
        · refine JX.condF rfl hb ?_
          refine JX.skip ?_
          refine JE.code ?_
          refine JX.seq ?_
          refine JX.seq ?_
          refine JX.region ?_
          refine JL.val (yl_move rfl) rfl ?_
          refine JL.val (yl_neq rfl rfl) rfl ?_
          refine JL.nil ?_
          refine JE.code ?_
          rcases cond_some hres with ⟨hb, hres⟩ | ⟨hb, hres⟩
          · refine JX.condT rfl hb ?_
            refine JX.seq ?_
            refine JX.region ?_
            refine JL.val (yl_move rfl) rfl ?_
            refine JL.val (yl_assign rfl) rfl ?_
            refine JL.val (yl_assign rfl) rfl ?_
            refine JL.nil ?_
            refine JE.weak (env' := [(8, .slice none 0 0), (9, .int .i64 x5)]) (es' := []) [] ?_ ⟨rfl, rfl, trivial⟩ (by decide) rfl
            refine JE.code ?_
            refine JX.ret ?_
            refine JE.nilrow 42 eSPoint ?_
            obtain rfl := Option.some.inj hres
            refine JE.ret (rs := [.tmp 8, .tmp 9]) (vs := [.slice none 0 0, .int .i64 x5]) rfl ⟨rfl, rfl, trivial⟩ ?_
            exact fun w' hb hs => ⟨_, _, ⟨none, 0, 0, rfl, rfl, rfl⟩, rfl, hb, hs.sel [0] _ (by decide) rfl⟩
          · refine JX.condF rfl hb ?_
            refine JX.skip ?_
            refine JE.code ?_
            refine JX.seq ?_
            refine JX.region ?_
            refine JL.val (yl_fieldAt (a := some _) Go.Proofs.Try.underlying42 rfl i2 i2n rfl rfl) rfl ?_
            refine JL.val (yl_load1 Go.Proofs.Try.underlying2 rfl rfl (fun w hC => rd_box hC 0 rfl) rfl) rfl ?_
            refine JL.val (yl_move rfl) rfl ?_
            refine JL.val (yl_mul rfl rfl) rfl ?_
            refine JL.val (yl_assign rfl) rfl ?_
            refine JL.nil ?_
            refine JE.weak (env' := [(2, .int .i64 q2), (3, .int .i64 q3), (5, ptrAt (some ⟨g3, 0, none⟩) 0), (11, .int .i64 (w64 (q1.X * q3)))]) (es' := [boxO 42 g3 [.int .i64 q1.X, .int .i64 q1.Y]]) [0] ?_ ⟨rfl, rfl, rfl, rfl, trivial⟩ (by decide) rfl
            refine JE.code ?_
            refine JX.seq ?_
            refine JX.region ?_
            refine JL.val (yl_fieldAt (a := some _) Go.Proofs.Try.underlying42 rfl i2 i2n rfl rfl) rfl ?_
            refine JL.val (yl_load1 Go.Proofs.Try.underlying2 rfl rfl (fun w hC => rd_box hC 0 rfl) rfl) rfl ?_
            refine JL.val (yl_move rfl) rfl ?_
            refine JL.val (yl_mul rfl rfl) rfl ?_
            refine JL.val (yl_assign rfl) rfl ?_
            refine JL.nil ?_
            refine JE.weak (env' := [(2, .int .i64 q2), (3, .int .i64 q3), (11, .int .i64 (w64 (q1.X * q3))), (12, .int .i64 (w64 (q1.Y * q3)))]) (es' := []) [] ?_ ⟨rfl, rfl, rfl, rfl, trivial⟩ (by decide) rfl
            refine JE.code ?_
            refine JX.seq ?_
            refine JX.region ?_
            refine JL.val (yl_move rfl) rfl ?_
            refine JL.val (yl_quo rfl rfl (by decide)) rfl ?_
            refine JL.val (yl_assign rfl) rfl ?_
            refine JL.nil ?_
            refine JE.code ?_
            refine JX.seq ?_
            refine JX.seq ?_
            refine JX.region ?_
            refine JL.val (yl_move rfl) rfl ?_
            refine JL.nil ?_
            refine JE.code ?_
            refine JX.block ?_
            refine JX.seq ?_
            refine JX.region ?_
            refine JL.val (yl_eql rfl rfl) rfl ?_
            refine JL.val (yl_assign rfl) rfl ?_
            refine JL.nil ?_
            refine JE.code ?_
            rcases cond_some hres with ⟨hb, hres⟩ | ⟨hb, hres⟩
            · refine JX.condT rfl hb ?_
              refine JX.seq ?_
              refine JX.region ?_
              refine JL.val (yl_move rfl) rfl ?_
              refine JL.val (yl_move rfl) rfl ?_
              refine JL.val (yl_move rfl) rfl ?_
              refine JL.val (yl_sub rfl rfl) rfl ?_
              refine JL.val (yl_build rfl (fun w => bld42_0_1 (w64 (q1.X * q3)) (w64 ((w64 (q1.Y * q3)) - (w64 (q3.tdiv 2)))) w)) rfl ?_
              refine JL.val (yl_move rfl) rfl ?_
              refine JL.val (yl_move rfl) rfl ?_
              refine JL.val (yl_move rfl) rfl ?_
              refine JL.val (yl_add rfl rfl) rfl ?_
              refine JL.val (yl_build rfl (fun w => bld42_0_1 (w64 (q1.X * q3)) (w64 ((w64 (q1.Y * q3)) + (w64 (q3.tdiv 2)))) w)) rfl ?_
              refine JL.eff (ef_buildSlice (E := 42) (k := eSPoint.k) (us := eSPoint.fl [SPoint.mk (w64 (q1.X * q3)) (w64 ((w64 (q1.Y * q3)) - (w64 (q3.tdiv 2)))), SPoint.mk (w64 (q1.X * q3)) (w64 ((w64 (q1.Y * q3)) + (w64 (q3.tdiv 2))))]) rfl (fun w => bsl34_2 (w64 (q1.X * q3)) (w64 ((w64 (q1.Y * q3)) - (w64 (q3.tdiv 2)))) (w64 (q1.X * q3)) (w64 ((w64 (q1.Y * q3)) + (w64 (q3.tdiv 2)))) w) rfl (by decide)) rfl ?_
              rintro _ _ ⟨a13, rfl, rfl⟩
              refine JL.val (yl_assign rfl) rfl ?_
              refine JL.val (yl_assign rfl) rfl ?_
              refine JL.nil ?_
              refine JE.weak (env' := [(8, .slice a13 2 2), (9, .int .i64 0)]) (es' := [rowT 42 eSPoint a13 2 2 [SPoint.mk (w64 (q1.X * q3)) (w64 ((w64 (q1.Y * q3)) - (w64 (q3.tdiv 2)))), SPoint.mk (w64 (q1.X * q3)) (w64 ((w64 (q1.Y * q3)) + (w64 (q3.tdiv 2))))]]) [0] ?_ ⟨rfl, rfl, trivial⟩ (by decide) rfl
              refine JE.code ?_
              refine JX.ret ?_
              refine JE.qbr ?_
              obtain rfl := Option.some.inj hres
              refine JE.ret (rs := [.tmp 8, .tmp 9]) (vs := [.slice a13 2 2, .int .i64 0]) rfl ⟨rfl, rfl, trivial⟩ ?_
              exact fun w' hb hs => ⟨_, _, ⟨a13, 2, 2, rfl, rfl, rfl⟩, rfl, hb, hs.sel [0] _ (by decide) rfl⟩
            · refine JX.condF rfl hb ?_
              refine JX.seq ?_
              refine JX.region ?_
              refine JL.val (yl_eql rfl rfl) rfl ?_
              refine JL.val (yl_assign rfl) rfl ?_
              refine JL.nil ?_
              refine JE.code ?_
              rcases cond_some hres with ⟨hb, hres⟩ | ⟨hb, hres⟩
              · refine JX.condT rfl hb ?_
                refine JX.seq ?_
                refine JX.region ?_
                refine JL.val (yl_move rfl) rfl ?_
                refine JL.val (yl_move rfl) rfl ?_
                refine JL.val (yl_sub rfl rfl) rfl ?_
                refine JL.val (yl_move rfl) rfl ?_
                refine JL.val (yl_build rfl (fun w => bld42_0_1 (w64 ((w64 (q1.X * q3)) - (w64 (q3.tdiv 2)))) (w64 (q1.Y * q3)) w)) rfl ?_
                refine JL.val (yl_move rfl) rfl ?_
                refine JL.val (yl_move rfl) rfl ?_
                refine JL.val (yl_add rfl rfl) rfl ?_
                refine JL.val (yl_move rfl) rfl ?_
                refine JL.val (yl_build rfl (fun w => bld42_0_1 (w64 ((w64 (q1.X * q3)) + (w64 (q3.tdiv 2)))) (w64 (q1.Y * q3)) w)) rfl ?_
                refine JL.eff (ef_buildSlice (E := 42) (k := eSPoint.k) (us := eSPoint.fl [SPoint.mk (w64 ((w64 (q1.X * q3)) - (w64 (q3.tdiv 2)))) (w64 (q1.Y * q3)), SPoint.mk (w64 ((w64 (q1.X * q3)) + (w64 (q3.tdiv 2)))) (w64 (q1.Y * q3))]) rfl (fun w => bsl34_2 (w64 ((w64 (q1.X * q3)) - (w64 (q3.tdiv 2)))) (w64 (q1.Y * q3)) (w64 ((w64 (q1.X * q3)) + (w64 (q3.tdiv 2)))) (w64 (q1.Y * q3)) w) rfl (by decide)) rfl ?_
                rintro _ _ ⟨a15, rfl, rfl⟩
                refine JL.val (yl_assign rfl) rfl ?_
                refine JL.val (yl_assign rfl) rfl ?_
                refine JL.nil ?_
                refine JE.weak (env' := [(8, .slice a15 2 2), (9, .int .i64 0)]) (es' := [rowT 42 eSPoint a15 2 2 [SPoint.mk (w64 ((w64 (q1.X * q3)) - (w64 (q3.tdiv 2)))) (w64 (q1.Y * q3)), SPoint.mk (w64 ((w64 (q1.X * q3)) + (w64 (q3.tdiv 2)))) (w64 (q1.Y * q3))]]) [0] ?_ ⟨rfl, rfl, trivial⟩ (by decide) rfl
                refine JE.code ?_
                refine JX.ret ?_
                refine JE.qbr ?_
                obtain rfl := Option.some.inj hres
                refine JE.ret (rs := [.tmp 8, .tmp 9]) (vs := [.slice a15 2 2, .int .i64 0]) rfl ⟨rfl, rfl, trivial⟩ ?_
                exact fun w' hb hs => ⟨_, _, ⟨a15, 2, 2, rfl, rfl, rfl⟩, rfl, hb, hs.sel [0] _ (by decide) rfl⟩
              · refine JX.condF rfl hb ?_
                refine JX.skip ?_
                refine JE.code ?_
                refine JX.seq ?_
                refine JX.region ?_
                refine JL.val (yl_move rfl) rfl ?_
                refine JL.val (yl_move rfl) rfl ?_
                refine JL.val (yl_build rfl (fun w => bld42_0_1 (w64 (q1.X * q3)) (w64 (q1.Y * q3)) w)) rfl ?_
                refine JL.eff (ef_buildSlice (E := 42) (k := eSPoint.k) (us := eSPoint.fl [SPoint.mk (w64 (q1.X * q3)) (w64 (q1.Y * q3))]) rfl (fun w => bsl34_1 (w64 (q1.X * q3)) (w64 (q1.Y * q3)) w) rfl (by decide)) rfl ?_
                rintro _ _ ⟨a17, rfl, rfl⟩
                refine JL.val (yl_assign rfl) rfl ?_
                refine JL.val (yl_assign rfl) rfl ?_
                refine JL.nil ?_
                refine JE.weak (env' := [(8, .slice a17 1 1), (9, .int .i64 0)]) (es' := [rowT 42 eSPoint a17 1 1 [SPoint.mk (w64 (q1.X * q3)) (w64 (q1.Y * q3))]]) [0] ?_ ⟨rfl, rfl, trivial⟩ (by decide) rfl
                refine JE.code ?_
                refine JX.ret ?_
                obtain rfl := Option.some.inj hres
                refine JE.ret (rs := [.tmp 8, .tmp 9]) (vs := [.slice a17 1 1, .int .i64 0]) rfl ⟨rfl, rfl, trivial⟩ ?_
                exact fun w' hb hs => ⟨_, _, ⟨a17, 1, 1, rfl, rfl, rfl⟩, rfl, hb, hs.sel [0] _ (by decide) rfl⟩
      · intro K
        rcases cond_some hcb9 with ⟨hb, hres⟩ | ⟨hb, hres⟩
        · refine JL.set (d := 26) (v := .bool true) (congrArg (fun b => some (Value.bool b)) hb) ?_
          refine JL.gskip rfl rfl rfl rfl ?_
          refine JL.gskip rfl rfl rfl rfl ?_
          refine JL.gskip rfl rfl rfl rfl ?_
          refine JL.val (yl_pick_true rfl rfl) rfl ?_
          have he := Option.some.inj hres
          exact JL.weak [0] K ⟨rfl, rfl, rfl, rfl, (by rw [← he]; rfl), trivial⟩ (by decide) rfl
        · refine JL.set (d := 26) (v := .bool false) (congrArg (fun b => some (Value.bool b)) hb) ?_
          refine JL.gval rfl rfl (yl_move rfl) rfl ?_
          obtain ⟨x10, hx10, hres⟩ := bind_some hres
          refine JL.geff rfl rfl (ef_call (T := T126 x10) Go.Proofs.Try.func126 rfl (by kernel_rfl) rfl (fun w hC => c126  hx10)) rfl ?_
          rintro _ _ ⟨_, ⟨rfl, rfl⟩, rfl⟩
          refine JL.gval rfl rfl (yl_not rfl) rfl ?_
          refine JL.val (yl_pick_false rfl rfl) rfl ?_
          have he := Option.some.inj hres
          exact JL.weak [0] K ⟨rfl, rfl, rfl, rfl, (by rw [← he]; rfl), trivial⟩ (by decide) rfl
    · intro K
      rcases cond_some hcb7 with ⟨hb, hres⟩ | ⟨hb, hres⟩
      · refine JL.set (d := 21) (v := .bool true) (congrArg (fun b => some (Value.bool b)) hb) ?_
        refine JL.gskip rfl rfl rfl rfl ?_
        refine JL.gskip rfl rfl rfl rfl ?_
        refine JL.gskip rfl rfl rfl rfl ?_
        refine JL.val (yl_pick_true rfl rfl) rfl ?_
        have he := Option.some.inj hres
        exact JL.weak [0] K ⟨rfl, rfl, rfl, rfl, (by rw [← he]; rfl), trivial⟩ (by decide) rfl
      · refine JL.set (d := 21) (v := .bool false) (congrArg (fun b => some (Value.bool b)) hb) ?_
        refine JL.gval rfl rfl (yl_move rfl) rfl ?_
        obtain ⟨x8, hx8, hres⟩ := bind_some hres
        refine JL.geff rfl rfl (ef_call (T := T125 x8) Go.Proofs.Try.func125 rfl (by kernel_rfl) rfl (fun w hC => c125  hx8)) rfl ?_
        rintro _ _ ⟨_, ⟨rfl, rfl⟩, rfl⟩
        refine JL.gval rfl rfl (yl_not rfl) rfl ?_
        refine JL.val (yl_pick_false rfl rfl) rfl ?_
        have he := Option.some.inj hres
        exact JL.weak [0] K ⟨rfl, rfl, rfl, rfl, (by rw [← he]; rfl), trivial⟩ (by decide) rfl

/- spec.l00Max -/
def sh182 (q0 : Int) (q1 : Int) : Option (Int) := bif decide (q1 < q0) then (some q0) else (some q1)
def T182 (r : Int) (v : Value) (rs : List Own) : Prop := v = rets [.int .i64 r] ∧ rs = []
set_option maxRecDepth 100000 in
theorem c182 {w : World} {q0 : Int} {q1 : Int} {r : Int} (hres : sh182 q0 q1 = some r) : Calls Go.Proofs.Try.prog 182 [.int .i64 q0, .int .i64 q1].toArray w (Ret w (T182 r)) := by
  unfold sh182 at hres
  refine calls_of (n := 10) (M := []) (es := []) Go.Proofs.Try.func182 rfl rfl rfl (Sep.nil _ _ _) ?_
  refine JX.seq ?_
  refine JX.region ?_
  refine JL.val (yl_assign rfl) rfl ?_
  refine JL.nil ?_
  refine JE.code ?_
  refine JX.seq ?_
  refine JX.seq ?_
  refine JX.region ?_
  refine JL.val (yl_move rfl) rfl ?_
  refine JL.val (yl_move rfl) rfl ?_
  refine JL.val (yl_gtr rfl rfl) rfl ?_
  refine JL.nil ?_
  refine JE.code ?_
  rcases cond_some hres with ⟨hb, hres⟩ | ⟨hb, hres⟩
  · refine JX.condT rfl hb ?_
    refine JX.seq ?_
    refine JX.region ?_
    refine JL.val (yl_move rfl) rfl ?_
    refine JL.val (yl_assign rfl) rfl ?_
    refine JL.nil ?_
    refine JE.code ?_
    refine JX.ret ?_
    obtain rfl := Option.some.inj hres
    refine JE.ret (rs := [.tmp 4]) (vs := [.int .i64 q0]) rfl ⟨rfl, trivial⟩ ?_
    exact fun w' hb hs => ⟨_, _, ⟨rfl, rfl⟩, rfl, hb, hs.sel [] _ (by decide) rfl⟩
  · refine JX.condF rfl hb ?_
    refine JX.skip ?_
    refine JE.code ?_
    refine JX.seq ?_
    refine JX.region ?_
    refine JL.val (yl_move rfl) rfl ?_
    refine JL.val (yl_assign rfl) rfl ?_
    refine JL.nil ?_
    refine JE.code ?_
    refine JX.ret ?_
    obtain rfl := Option.some.inj hres
    refine JE.ret (rs := [.tmp 4]) (vs := [.int .i64 q1]) rfl ⟨rfl, trivial⟩ ?_
    exact fun w' hb hs => ⟨_, _, ⟨rfl, rfl⟩, rfl, hb, hs.sel [] _ (by decide) rfl⟩

/- spec.l19Draw -/
def sh169_1 (j6 : Int × Int × (Int × Int)) : (Int × Int × Int × List SPoint) → Option ((Int × Int × Int × List SPoint) ⊕ (List SPoint))
  | (x12, x13, x14, x15) => bif decide (0 < x14) then (Option.bind (sh182 0 x12) fun x18 => Option.bind (sh182 0 x13) fun x19 => Option.bind (appL x15 [SPoint.mk x18 x19]) fun x22 => some (.inl (w64 (x12 + j6.1), w64 (x13 + j6.2.1), w64 (x14 - 1), x22))) else (some (.inr x15))
def sh169 (q0 : Sl00Src) : Option (List SPoint × Int × Int) := Option.bind (sh92 q0 120) fun x1 => Option.bind (sh92 (Sl00Src.mk q0.code x1.2.1 x1.2.2) 120) fun x2 => Option.bind (sh92 (Sl00Src.mk q0.code x2.2.1 x2.2.2) 9) fun x3 => Option.bind (sh92 (Sl00Src.mk q0.code x3.2.1 x3.2.2) 9) fun x4 => Option.bind (sh92 (Sl00Src.mk q0.code x4.2.1 x4.2.2) 3) fun x5 => Option.bind (bif x5.1 == 0 then (Option.bind (sh92 (Sl00Src.mk q0.code x5.2.1 x5.2.2) 2) fun x27 => some (x27.1, w64 (x4.1 - 2), (x27.2.1, x27.2.2))) else (Option.bind (bif x5.1 == 1 then (Option.bind (sh92 (Sl00Src.mk q0.code x5.2.1 x5.2.2) 2) fun x29 => some (x29.1, (x29.2.1, x29.2.2))) else (some (w64 (x4.1 - 2), (x5.2.1, x5.2.2)))) fun j28 => (some (w64 (x3.1 - 2), j28.1, (j28.2.1, j28.2.2))))) fun j6 => (Option.bind (sh92 (Sl00Src.mk q0.code j6.2.2.1 j6.2.2.2) 8) fun x9 => Option.bind (iter (sh169_1 j6) (x1.1, x2.1, w64 (1 + x9.1), ([] : List SPoint))) fun b1 => (some (b1, x9.2.1, x9.2.2)))
def T169 (gb_0 : Nat) (a_0_0 : Option Addr) (n_0_0 c_0_0 : Nat) (r : List SPoint × Int × Int) (v : Value) (es' rs : List Own) : Prop := es' = [boxO 163 gb_0 [.slice a_0_0 n_0_0 c_0_0, .int .i64 r.2.1, .int .u64 r.2.2]] ∧ ∃ (a0 : Option Addr) (n0 c0 : Nat), r.1.length = n0 ∧ v = rets [.slice a0 n0 c0] ∧ rs = [rowT 42 eSPoint a0 n0 c0 r.1]
set_option maxRecDepth 100000 in
theorem c169 {w : World} {M : List Nat} {q0 : Sl00Src} {gb_0 : Nat} {a_0_0 : Option Addr} {n_0_0 c_0_0 : Nat} (g_0_0 : RdS M w a_0_0 (eU8.fl q0.code)) (l_0_0 : q0.code.length = n_0_0) (k_0_0 : n_0_0 ≤ c_0_0) (gs : Sep w.heap.size M w [boxO 163 gb_0 [.slice a_0_0 n_0_0 c_0_0, .int .i64 q0.at_, .int .u64 q0.seed]]) {r : List SPoint × Int × Int} (hres : sh169 q0 = some r) : Calls Go.Proofs.Try.prog 169 [ptrAt (some ⟨gb_0, 0, none⟩) 0].toArray w (RetMs w M (T169 gb_0 a_0_0 n_0_0 c_0_0 r)) := by
  subst l_0_0
  unfold sh169 at hres
  refine calls_of (n := 52) (M := M) (es := [boxO 163 gb_0 [.slice a_0_0 q0.code.length c_0_0, .int .i64 q0.at_, .int .u64 q0.seed]]) Go.Proofs.Try.func169 rfl rfl rfl gs ?_
  refine JX.seq ?_
  refine JX.region ?_
  refine JL.val (yl_assign rfl) rfl ?_
  refine JL.nil ?_
  refine JE.code ?_
  refine JX.seq ?_
  refine JX.region ?_
  refine JL.val (yl_move rfl) rfl ?_
  obtain ⟨x1, hx1, hres⟩ := bind_some hres
  refine JL.eff (ef_callms (caps := []) (vs := [ptrAt (some ⟨gb_0, 0, none⟩) 0, .int .i64 120]) (T := T92 gb_0 a_0_0 q0.code.length c_0_0 x1) [0] [] [boxO 163 gb_0 [.slice a_0_0 q0.code.length c_0_0, .int .i64 q0.at_, .int .u64 q0.seed]] [] rfl Go.Proofs.Try.func92 rfl (by kernel_rfl) rfl (by decide) rfl rfl (fun w N hF hS => c92 (q0 := q0) (RdS.pass hF g_0_0) rfl k_0_0 hS hx1)) rfl ?_
  rintro _ _ ⟨_, _, ⟨rfl, rfl, rfl⟩, rfl⟩
  refine JL.val (yl_assign rfl) rfl ?_
  refine JL.nil ?_
  refine JE.code ?_
  refine JX.seq ?_
  refine JX.region ?_
  refine JL.val (yl_move rfl) rfl ?_
  obtain ⟨x2, hx2, hres⟩ := bind_some hres
  refine JL.eff (ef_callms (caps := []) (vs := [ptrAt (some ⟨gb_0, 0, none⟩) 0, .int .i64 120]) (T := T92 gb_0 a_0_0 q0.code.length c_0_0 x2) [0] [] [boxO 163 gb_0 [.slice a_0_0 q0.code.length c_0_0, .int .i64 x1.2.1, .int .u64 x1.2.2]] [] rfl Go.Proofs.Try.func92 rfl (by kernel_rfl) rfl (by decide) rfl rfl (fun w N hF hS => c92 (q0 := Sl00Src.mk q0.code x1.2.1 x1.2.2) (RdS.pass hF g_0_0) rfl k_0_0 hS hx2)) rfl ?_
  rintro _ _ ⟨_, _, ⟨rfl, rfl, rfl⟩, rfl⟩
  refine JL.val (yl_assign rfl) rfl ?_
  refine JL.nil ?_
  refine JE.code ?_
  refine JX.seq ?_
  refine JX.region ?_
  refine JL.val (yl_move rfl) rfl ?_
  obtain ⟨x3, hx3, hres⟩ := bind_some hres
  refine JL.eff (ef_callms (caps := []) (vs := [ptrAt (some ⟨gb_0, 0, none⟩) 0, .int .i64 9]) (T := T92 gb_0 a_0_0 q0.code.length c_0_0 x3) [0] [] [boxO 163 gb_0 [.slice a_0_0 q0.code.length c_0_0, .int .i64 x2.2.1, .int .u64 x2.2.2]] [] rfl Go.Proofs.Try.func92 rfl (by kernel_rfl) rfl (by decide) rfl rfl (fun w N hF hS => c92 (q0 := Sl00Src.mk q0.code x2.2.1 x2.2.2) (RdS.pass hF g_0_0) rfl k_0_0 hS hx3)) rfl ?_
  rintro _ _ ⟨_, _, ⟨rfl, rfl, rfl⟩, rfl⟩
  refine JL.val (yl_sub rfl rfl) rfl ?_
  refine JL.val (yl_assign rfl) rfl ?_
  refine JL.nil ?_
  refine JE.weak (env' := [(0, ptrAt (some ⟨gb_0, 0, none⟩) 0), (3, .int .i64 x1.1), (4, .int .i64 x2.1), (5, .int .i64 (w64 (x3.1 - 2)))]) (es' := [boxO 163 gb_0 [.slice a_0_0 q0.code.length c_0_0, .int .i64 x3.2.1, .int .u64 x3.2.2]]) [0] ?_ ⟨rfl, rfl, rfl, rfl, trivial⟩ (by decide) rfl
  refine JE.code ?_
  refine JX.seq ?_
  refine JX.region ?_
  refine JL.val (yl_move rfl) rfl ?_
  obtain ⟨x4, hx4, hres⟩ := bind_some hres
  refine JL.eff (ef_callms (caps := []) (vs := [ptrAt (some ⟨gb_0, 0, none⟩) 0, .int .i64 9]) (T := T92 gb_0 a_0_0 q0.code.length c_0_0 x4) [0] [] [boxO 163 gb_0 [.slice a_0_0 q0.code.length c_0_0, .int .i64 x3.2.1, .int .u64 x3.2.2]] [] rfl Go.Proofs.Try.func92 rfl (by kernel_rfl) rfl (by decide) rfl rfl (fun w N hF hS => c92 (q0 := Sl00Src.mk q0.code x3.2.1 x3.2.2) (RdS.pass hF g_0_0) rfl k_0_0 hS hx4)) rfl ?_
  rintro _ _ ⟨_, _, ⟨rfl, rfl, rfl⟩, rfl⟩
  refine JL.val (yl_sub rfl rfl) rfl ?_
  refine JL.val (yl_assign rfl) rfl ?_
  refine JL.nil ?_
  refine JE.weak (env' := [(0, ptrAt (some ⟨gb_0, 0, none⟩) 0), (3, .int .i64 x1.1), (4, .int .i64 x2.1), (5, .int .i64 (w64 (x3.1 - 2))), (6, .int .i64 (w64 (x4.1 - 2)))]) (es' := [boxO 163 gb_0 [.slice a_0_0 q0.code.length c_0_0, .int .i64 x4.2.1, .int .u64 x4.2.2]]) [0] ?_ ⟨rfl, rfl, rfl, rfl, rfl, trivial⟩ (by decide) rfl
  refine JE.code ?_
  refine JX.seq ?_
  refine JX.seq ?_
  refine JX.region ?_
  refine JL.val (yl_move rfl) rfl ?_
  obtain ⟨x5, hx5, hres⟩ := bind_some hres
  refine JL.eff (ef_callms (caps := []) (vs := [ptrAt (some ⟨gb_0, 0, none⟩) 0, .int .i64 3]) (T := T92 gb_0 a_0_0 q0.code.length c_0_0 x5) [0] [] [boxO 163 gb_0 [.slice a_0_0 q0.code.length c_0_0, .int .i64 x4.2.1, .int .u64 x4.2.2]] [] rfl Go.Proofs.Try.func92 rfl (by kernel_rfl) rfl (by decide) rfl rfl (fun w N hF hS => c92 (q0 := Sl00Src.mk q0.code x4.2.1 x4.2.2) (RdS.pass hF g_0_0) rfl k_0_0 hS hx5)) rfl ?_
  rintro _ _ ⟨_, _, ⟨rfl, rfl, rfl⟩, rfl⟩
  refine JL.nil ?_
  refine JE.code ?_
  refine JX.block ?_
  refine JX.seq ?_
  refine JX.region ?_
  refine JL.val (yl_eql rfl rfl) rfl ?_
  refine JL.val (yl_assign rfl) rfl ?_
  refine JL.nil ?_
  refine JE.code ?_
  obtain ⟨j6, hj6, hresj6⟩ := bind_some hres
  refine JX.cut (K := fun J => J [(0, ptrAt (some ⟨gb_0, 0, none⟩) 0), (3, .int .i64 x1.1), (4, .int .i64 x2.1), (5, .int .i64 j6.1), (6, .int .i64 j6.2.1)] [boxO 163 gb_0 [.slice a_0_0 q0.code.length c_0_0, .int .i64 j6.2.2.1, .int .u64 j6.2.2.2]]) ?_ ?_
  · have hres := hresj6
    refine JE.code ?_
    refine JX.seq ?_
    refine JX.region ?_
    refine JL.eff (ef_buildSlice (E := 42) (k := eSPoint.k) (us := eSPoint.fl ([] : List SPoint)) rfl (fun w => bsl34_0  w) rfl (by decide)) rfl ?_
    rintro _ _ ⟨a7, rfl, rfl⟩
    refine JL.val (yl_assign rfl) rfl ?_
    refine JL.nil ?_
    refine JE.code ?_
    refine JX.seq ?_
    refine JX.seq ?_
    refine JX.region ?_
    refine JL.val (yl_move rfl) rfl ?_
    obtain ⟨x9, hx9, hres⟩ := bind_some hres
    refine JL.eff (ef_callms (caps := []) (vs := [ptrAt (some ⟨gb_0, 0, none⟩) 0, .int .i64 8]) (T := T92 gb_0 a_0_0 q0.code.length c_0_0 x9) [0] [1] [boxO 163 gb_0 [.slice a_0_0 q0.code.length c_0_0, .int .i64 j6.2.2.1, .int .u64 j6.2.2.2]] [rowT 42 eSPoint a7 0 0 ([] : List SPoint)] rfl Go.Proofs.Try.func92 rfl (by kernel_rfl) rfl (by decide) rfl rfl (fun w N hF hS => c92 (q0 := Sl00Src.mk q0.code j6.2.2.1 j6.2.2.2) (RdS.pass hF g_0_0) rfl k_0_0 hS hx9)) rfl ?_
    rintro _ _ ⟨_, _, ⟨rfl, rfl, rfl⟩, rfl⟩
    refine JL.val (yl_add rfl rfl) rfl ?_
    refine JL.val (yl_assign rfl) rfl ?_
    refine JL.nil ?_
    refine JE.weak (env' := [(3, .int .i64 x1.1), (4, .int .i64 x2.1), (5, .int .i64 j6.1), (6, .int .i64 j6.2.1), (7, .slice a7 0 0), (8, .int .i64 (w64 (1 + x9.1)))]) (es' := [boxO 163 gb_0 [.slice a_0_0 q0.code.length c_0_0, .int .i64 x9.2.1, .int .u64 x9.2.2], rowT 42 eSPoint a7 0 0 ([] : List SPoint)]) [1, 0] ?_ ⟨rfl, rfl, rfl, rfl, rfl, rfl, trivial⟩ (by decide) rfl
    refine JE.code ?_
    refine JX.block ?_
    obtain ⟨y1, hy1, hresO1⟩ := bind_some hres
    refine JX.loop (I := fun (s1 : Int × Int × Int × List SPoint) aa ww => ∃ (a10 : Option Addr) (cp11 : Nat), St w M 52 [(3, .int .i64 s1.1), (4, .int .i64 s1.2.1), (5, .int .i64 j6.1), (6, .int .i64 j6.2.1), (7, .slice a10 s1.2.2.2.length cp11), (8, .int .i64 s1.2.2.1)] [boxO 163 gb_0 [.slice a_0_0 q0.code.length c_0_0, .int .i64 x9.2.1, .int .u64 x9.2.2], rowT 42 eSPoint a10 s1.2.2.2.length cp11 s1.2.2.2] aa ww) (sh169_1 j6) hy1 (fun a w h => ⟨a7, 0, h.weak ⟨rfl, rfl, rfl, rfl, rfl, rfl, trivial⟩ [0, 1] (by decide) rfl⟩) ?_
    rintro ⟨x12, x13, x14, x15⟩ o1 hres hox1 aa ww ⟨a16, cp17, hS⟩
    refine (?_ : JX Go.Proofs.Try.prog w M 52 _ _ [(3, .int .i64 x12), (4, .int .i64 x13), (5, .int .i64 j6.1), (6, .int .i64 j6.2.1), (7, .slice a16 x15.length cp17), (8, .int .i64 x14)] [boxO 163 gb_0 [.slice a_0_0 q0.code.length c_0_0, .int .i64 x9.2.1, .int .u64 x9.2.2], rowT 42 eSPoint a16 x15.length cp17 x15] _) aa ww hS
    clear hS
    simp only [sh169_1] at hres
    refine JX.seq ?_
    refine JX.seq ?_
    refine JX.region ?_
    refine JL.val (yl_move rfl) rfl ?_
    refine JL.val (yl_gtr rfl rfl) rfl ?_
    refine JL.nil ?_
    refine JE.code ?_
    rcases cond_some hres with ⟨hb, hres⟩ | ⟨hb, hres⟩
    · refine JX.condT rfl hb ?_
      refine JX.skip ?_
      refine JE.code ?_
      refine JX.seq ?_
      refine JX.block ?_
      refine JX.seq ?_
      refine JX.region ?_
      refine JL.val (yl_move rfl) rfl ?_
      refine JL.val (yl_move rfl) rfl ?_
      obtain ⟨x18, hx18, hres⟩ := bind_some hres
      refine JL.eff (ef_call (T := T182 x18) Go.Proofs.Try.func182 rfl (by kernel_rfl) rfl (fun w hC => c182  hx18)) rfl ?_
      rintro _ _ ⟨_, ⟨rfl, rfl⟩, rfl⟩
      refine JL.val (yl_move rfl) rfl ?_
      obtain ⟨x19, hx19, hres⟩ := bind_some hres
      refine JL.eff (ef_call (T := T182 x19) Go.Proofs.Try.func182 rfl (by kernel_rfl) rfl (fun w hC => c182  hx19)) rfl ?_
      rintro _ _ ⟨_, ⟨rfl, rfl⟩, rfl⟩
      refine JL.val (yl_build rfl (fun w => bld42_0_1 x18 x19 w)) rfl ?_
      refine JL.eff (ef_buildSlice (E := 42) (k := eSPoint.k) (us := eSPoint.fl [SPoint.mk x18 x19]) rfl (fun w => bsl34_1 x18 x19 w) rfl (by decide)) rfl ?_
      rintro _ _ ⟨a20, rfl, rfl⟩
      obtain ⟨x22, hx22, hres⟩ := bind_some hres
      refine JL.eff (ef_appendT (ix := 1) Go.Proofs.Try.underlying34 i42 i42z i42s rfl i42b0 i42b1 rfl rfl rfl rfl rfl (fun w hC => rd_row hC 2 rfl) hx22) rfl ?_
      rintro _ _ ⟨a23, cp24, rfl, rfl⟩
      refine JL.val (yl_assign rfl) rfl ?_
      refine JL.nil ?_
      refine JE.weak (env' := [(3, .int .i64 x12), (4, .int .i64 x13), (5, .int .i64 j6.1), (6, .int .i64 j6.2.1), (7, .slice a23 x22.length cp24), (8, .int .i64 x14)]) (es' := [boxO 163 gb_0 [.slice a_0_0 q0.code.length c_0_0, .int .i64 x9.2.1, .int .u64 x9.2.2], rowT 42 eSPoint a23 x22.length cp24 x22]) [0, 1] ?_ ⟨rfl, rfl, rfl, rfl, rfl, rfl, trivial⟩ (by decide) rfl
      refine JE.code ?_
      refine JX.seq ?_
      refine JX.region ?_
      refine JL.val (yl_move rfl) rfl ?_
      refine JL.val (yl_move rfl) rfl ?_
      refine JL.val (yl_add rfl rfl) rfl ?_
      refine JL.val (yl_assign rfl) rfl ?_
      refine JL.nil ?_
      refine JE.weak (env' := [(3, .int .i64 (w64 (x12 + j6.1))), (4, .int .i64 x13), (5, .int .i64 j6.1), (6, .int .i64 j6.2.1), (7, .slice a23 x22.length cp24), (8, .int .i64 x14)]) (es' := [boxO 163 gb_0 [.slice a_0_0 q0.code.length c_0_0, .int .i64 x9.2.1, .int .u64 x9.2.2], rowT 42 eSPoint a23 x22.length cp24 x22]) [0, 1] ?_ ⟨rfl, rfl, rfl, rfl, rfl, rfl, trivial⟩ (by decide) rfl
      refine JE.code ?_
      refine JX.region ?_
      refine JL.val (yl_move rfl) rfl ?_
      refine JL.val (yl_move rfl) rfl ?_
      refine JL.val (yl_add rfl rfl) rfl ?_
      refine JL.val (yl_assign rfl) rfl ?_
      refine JL.nil ?_
      refine JE.weak (env' := [(3, .int .i64 (w64 (x12 + j6.1))), (4, .int .i64 (w64 (x13 + j6.2.1))), (5, .int .i64 j6.1), (6, .int .i64 j6.2.1), (7, .slice a23 x22.length cp24), (8, .int .i64 x14)]) (es' := [boxO 163 gb_0 [.slice a_0_0 q0.code.length c_0_0, .int .i64 x9.2.1, .int .u64 x9.2.2], rowT 42 eSPoint a23 x22.length cp24 x22]) [0, 1] ?_ ⟨rfl, rfl, rfl, rfl, rfl, rfl, trivial⟩ (by decide) rfl
      refine JE.code ?_
      refine JX.region ?_
      refine JL.val (yl_move rfl) rfl ?_
      refine JL.val (yl_sub rfl rfl) rfl ?_
      refine JL.val (yl_assign rfl) rfl ?_
      refine JL.nil ?_
      refine JE.cont hres ?_
      exact fun a w h => ⟨a23, cp24, h.weak ⟨rfl, rfl, rfl, rfl, rfl, rfl, trivial⟩ [0, 1] (by decide) rfl⟩
    · refine JX.condF rfl hb ?_
      refine JX.exit ?_
      refine JE.qb rfl ?_
      obtain ⟨b1, hb1⟩ : ∃ b : List SPoint, b = x15 := ⟨_, rfl⟩
      have hy1 : b1 = y1 := by rw [hb1]; exact hox1 _ (Option.some.inj hres).symm
      have hres := hresO1
      rw [← hy1] at hres
      refine JE.weak (env' := [(7, .slice a16 b1.length cp17)]) (es' := [boxO 163 gb_0 [.slice a_0_0 q0.code.length c_0_0, .int .i64 x9.2.1, .int .u64 x9.2.2], rowT 42 eSPoint a16 b1.length cp17 b1]) [0, 1] ?_ ⟨(by subst hb1; rfl), trivial⟩ (by decide) (by subst hb1; rfl)
      refine JE.code ?_
      refine JX.seq ?_
      refine JX.region ?_
      refine JL.val (yl_move rfl) rfl ?_
      refine JL.val (yl_assign rfl) rfl ?_
      refine JL.nil ?_
      refine JE.code ?_
      refine JX.ret ?_
      obtain rfl := Option.some.inj hres
      refine JE.ret (rs := [.tmp 2]) (vs := [.slice a16 b1.length cp17]) rfl ⟨rfl, trivial⟩ ?_
      exact fun w' hb hs => ⟨_, _, _, ⟨rfl, a16, b1.length, cp17, rfl, rfl, rfl⟩, rfl, hb, hs.sel [0, 1] _ (by decide) rfl⟩
  · intro K
    rcases cond_some hj6 with ⟨hb, hres⟩ | ⟨hb, hres⟩
    · refine JX.condT rfl hb ?_
      refine JX.region ?_
      refine JL.val (yl_move rfl) rfl ?_
      obtain ⟨x27, hx27, hres⟩ := bind_some hres
      refine JL.eff (ef_callms (caps := []) (vs := [ptrAt (some ⟨gb_0, 0, none⟩) 0, .int .i64 2]) (T := T92 gb_0 a_0_0 q0.code.length c_0_0 x27) [0] [] [boxO 163 gb_0 [.slice a_0_0 q0.code.length c_0_0, .int .i64 x5.2.1, .int .u64 x5.2.2]] [] rfl Go.Proofs.Try.func92 rfl (by kernel_rfl) rfl (by decide) rfl rfl (fun w N hF hS => c92 (q0 := Sl00Src.mk q0.code x5.2.1 x5.2.2) (RdS.pass hF g_0_0) rfl k_0_0 hS hx27)) rfl ?_
      rintro _ _ ⟨_, _, ⟨rfl, rfl, rfl⟩, rfl⟩
      refine JL.val (yl_assign rfl) rfl ?_
      refine JL.nil ?_
      have hj := Option.some.inj hres
      exact JE.weak [0] (K) ⟨(by subst hj; rfl), (by subst hj; rfl), (by subst hj; rfl), (by subst hj; rfl), (by subst hj; rfl), trivial⟩ (by decide) (by subst hj; rfl)
    · refine JX.condF rfl hb ?_
      refine JX.seq ?_
      refine JX.region ?_
      refine JL.val (yl_eql rfl rfl) rfl ?_
      refine JL.val (yl_assign rfl) rfl ?_
      refine JL.nil ?_
      refine JE.code ?_
      obtain ⟨j28, hj28, hresj28⟩ := bind_some hres
      refine JX.cut (K := fun J => J [(0, ptrAt (some ⟨gb_0, 0, none⟩) 0), (3, .int .i64 x1.1), (4, .int .i64 x2.1), (5, .int .i64 (w64 (x3.1 - 2))), (6, .int .i64 j28.1)] [boxO 163 gb_0 [.slice a_0_0 q0.code.length c_0_0, .int .i64 j28.2.1, .int .u64 j28.2.2]]) ?_ ?_
      · have hres := hresj28
        have hj := Option.some.inj hres
        exact JE.weak [0] (K) ⟨(by subst hj; rfl), (by subst hj; rfl), (by subst hj; rfl), (by subst hj; rfl), (by subst hj; rfl), trivial⟩ (by decide) (by subst hj; rfl)
      · intro K
        rcases cond_some hj28 with ⟨hb, hres⟩ | ⟨hb, hres⟩
        · refine JX.condT rfl hb ?_
          refine JX.region ?_
          refine JL.val (yl_move rfl) rfl ?_
          obtain ⟨x29, hx29, hres⟩ := bind_some hres
          refine JL.eff (ef_callms (caps := []) (vs := [ptrAt (some ⟨gb_0, 0, none⟩) 0, .int .i64 2]) (T := T92 gb_0 a_0_0 q0.code.length c_0_0 x29) [0] [] [boxO 163 gb_0 [.slice a_0_0 q0.code.length c_0_0, .int .i64 x5.2.1, .int .u64 x5.2.2]] [] rfl Go.Proofs.Try.func92 rfl (by kernel_rfl) rfl (by decide) rfl rfl (fun w N hF hS => c92 (q0 := Sl00Src.mk q0.code x5.2.1 x5.2.2) (RdS.pass hF g_0_0) rfl k_0_0 hS hx29)) rfl ?_
          rintro _ _ ⟨_, _, ⟨rfl, rfl, rfl⟩, rfl⟩
          refine JL.val (yl_assign rfl) rfl ?_
          refine JL.nil ?_
          have hj := Option.some.inj hres
          exact JE.weak [0] (K) ⟨(by subst hj; rfl), (by subst hj; rfl), (by subst hj; rfl), (by subst hj; rfl), (by subst hj; rfl), trivial⟩ (by decide) (by subst hj; rfl)
        · refine JX.condF rfl hb ?_
          refine JX.skip ?_
          have hj := Option.some.inj hres
          exact JE.weak [0] (K) ⟨(by subst hj; rfl), (by subst hj; rfl), (by subst hj; rfl), (by subst hj; rfl), (by subst hj; rfl), trivial⟩ (by decide) (by subst hj; rfl)

/- spec.l19Bent -/
def sh127 (q0 : Sl00Src) : Option (List SPoint × Int × Int) := Option.bind (sh169 q0) fun x1 => Option.bind (sh92 (Sl00Src.mk q0.code x1.2.1 x1.2.2) 24) fun x5 => bif x5.1 == 0 then (Option.bind (sh94 (Sl00Src.mk q0.code x5.2.1 x5.2.2) [(-1), 0, 2000, 2001]) fun x8 => Option.bind (getI x1.1 (0 : Int)) fun x9 => some (x1.1.set ((0 : Int)).toNat (SPoint.mk x8.1 x9.Y), x8.2.1, x8.2.2)) else (bif x5.1 == 1 then (Option.bind (sh94 (Sl00Src.mk q0.code x5.2.1 x5.2.2) [(-9223372036854775808), 9223372036854775807]) fun x12 => Option.bind (getI x1.1 (0 : Int)) fun x13 => some (x1.1.set ((0 : Int)).toNat (SPoint.mk x13.X x12.1), x12.2.1, x12.2.2)) else (bif x5.1 == 2 then (some (([] : List SPoint), x5.2.1, x5.2.2)) else (bif x5.1 == 3 then (Option.bind (sh92 (Sl00Src.mk q0.code x5.2.1 x5.2.2) 2) fun x16 => Option.bind (mkL (w64 (60 + x16.1)) (SPoint.mk 0 0)) fun x17 => some (x17, x16.2.1, x16.2.2)) else (some (x1.1, x5.2.1, x5.2.2)))))
def T127 (gb_0 : Nat) (a_0_0 : Option Addr) (n_0_0 c_0_0 : Nat) (r : List SPoint × Int × Int) (v : Value) (es' rs : List Own) : Prop := es' = [boxO 163 gb_0 [.slice a_0_0 n_0_0 c_0_0, .int .i64 r.2.1, .int .u64 r.2.2]] ∧ ∃ (a0 : Option Addr) (n0 c0 : Nat), r.1.length = n0 ∧ v = rets [.slice a0 n0 c0] ∧ rs = [rowT 42 eSPoint a0 n0 c0 r.1]
set_option maxRecDepth 100000 in
theorem c127 {w : World} {M : List Nat} {q0 : Sl00Src} {gb_0 : Nat} {a_0_0 : Option Addr} {n_0_0 c_0_0 : Nat} (g_0_0 : RdS M w a_0_0 (eU8.fl q0.code)) (l_0_0 : q0.code.length = n_0_0) (k_0_0 : n_0_0 ≤ c_0_0) (gs : Sep w.heap.size M w [boxO 163 gb_0 [.slice a_0_0 n_0_0 c_0_0, .int .i64 q0.at_, .int .u64 q0.seed]]) {r : List SPoint × Int × Int} (hres : sh127 q0 = some r) : Calls Go.Proofs.Try.prog 127 [ptrAt (some ⟨gb_0, 0, none⟩) 0].toArray w (RetMs w M (T127 gb_0 a_0_0 n_0_0 c_0_0 r)) := by
  subst l_0_0
  unfold sh127 at hres
  refine calls_of (n := 34) (M := M) (es := [boxO 163 gb_0 [.slice a_0_0 q0.code.length c_0_0, .int .i64 q0.at_, .int .u64 q0.seed]]) Go.Proofs.Try.func127 rfl rfl rfl gs ?_
  refine JX.seq ?_
  refine JX.region ?_
  refine JL.val (yl_assign rfl) rfl ?_
  refine JL.nil ?_
  refine JE.code ?_
  refine JX.seq ?_
  refine JX.region ?_
  refine JL.val (yl_move rfl) rfl ?_
  obtain ⟨x1, hx1, hres⟩ := bind_some hres
  refine JL.eff (ef_callms (caps := []) (vs := [ptrAt (some ⟨gb_0, 0, none⟩) 0]) (T := T169 gb_0 a_0_0 q0.code.length c_0_0 x1) [0] [] [boxO 163 gb_0 [.slice a_0_0 q0.code.length c_0_0, .int .i64 q0.at_, .int .u64 q0.seed]] [] rfl Go.Proofs.Try.func169 rfl (by kernel_rfl) rfl (by decide) rfl rfl (fun w N hF hS => c169 (q0 := q0) (RdS.pass hF g_0_0) rfl k_0_0 hS hx1)) rfl ?_
  rintro _ _ ⟨_, _, ⟨rfl, a2, _, cp3, rfl, rfl, rfl⟩, rfl⟩
  refine JL.val (yl_assign rfl) rfl ?_
  refine JL.nil ?_
  refine JE.code ?_
  refine JX.seq ?_
  refine JX.seq ?_
  refine JX.region ?_
  refine JL.val (yl_move rfl) rfl ?_
  obtain ⟨x5, hx5, hres⟩ := bind_some hres
  refine JL.eff (ef_callms (caps := []) (vs := [ptrAt (some ⟨gb_0, 0, none⟩) 0, .int .i64 24]) (T := T92 gb_0 a_0_0 q0.code.length c_0_0 x5) [0] [1] [boxO 163 gb_0 [.slice a_0_0 q0.code.length c_0_0, .int .i64 x1.2.1, .int .u64 x1.2.2]] [rowT 42 eSPoint a2 x1.1.length cp3 x1.1] rfl Go.Proofs.Try.func92 rfl (by kernel_rfl) rfl (by decide) rfl rfl (fun w N hF hS => c92 (q0 := Sl00Src.mk q0.code x1.2.1 x1.2.2) (RdS.pass hF g_0_0) rfl k_0_0 hS hx5)) rfl ?_
  rintro _ _ ⟨_, _, ⟨rfl, rfl, rfl⟩, rfl⟩
  refine JL.nil ?_
  refine JE.code ?_
  refine JX.block ?_
  refine JX.seq ?_
  refine JX.region ?_
  refine JL.val (yl_eql rfl rfl) rfl ?_
  refine JL.val (yl_assign rfl) rfl ?_
  refine JL.nil ?_
  refine JE.code ?_
  rcases cond_some hres with ⟨hb, hres⟩ | ⟨hb, hres⟩
  · refine JX.condT rfl hb ?_
    refine JX.region ?_
    refine JL.val (yl_move rfl) rfl ?_
    refine JL.val (yl_move rfl) rfl ?_
    refine JL.eff (ef_buildSlice (E := 2) (k := eI64.k) (us := eI64.fl [(-1), 0, 2000, 2001]) rfl (fun w => bsl24_4 (-1) 0 2000 2001 w) rfl (by decide)) rfl ?_
    rintro _ _ ⟨a6, rfl, rfl⟩
    obtain ⟨x8, hx8, hres⟩ := bind_some hres
    refine JL.eff (ef_callms (caps := []) (vs := [ptrAt (some ⟨gb_0, 0, none⟩) 0, .slice a6 4 4]) (T := T94 gb_0 a_0_0 q0.code.length c_0_0 x8) [1] [0, 2] [boxO 163 gb_0 [.slice a_0_0 q0.code.length c_0_0, .int .i64 x5.2.1, .int .u64 x5.2.2]] [rowT 42 eSPoint a2 x1.1.length cp3 x1.1, rowT 2 eI64 a6 4 4 [(-1), 0, 2000, 2001]] rfl Go.Proofs.Try.func94 rfl (by kernel_rfl) rfl (by decide) rfl rfl (fun w N hF hS => c94 (q0 := Sl00Src.mk q0.code x5.2.1 x5.2.2) (RdS.pass hF g_0_0) rfl k_0_0 (RdS.row hF 2 rfl rfl) rfl (ln_row hF.cl 2 rfl) hS hx8)) rfl ?_
    rintro _ _ ⟨_, _, ⟨rfl, rfl, rfl⟩, rfl⟩
    obtain ⟨x9, hx9, hres⟩ := bind_some hres
    refine JL.val (yl_idxT Go.Proofs.Try.underlying34 i42 i42s rfl rfl hx9 rfl (fun w hC => rd_row hC 0 rfl)) rfl ?_
    refine JL.val (yl_fieldAtT Go.Proofs.Try.underlying42 rfl i2 i2n rfl hx9 (fun w hC => rd_row hC 0 rfl)) rfl ?_
    refine JL.eff (ef_storeF (ix := 0) (u := SPoint.mk x8.1 x9.Y) i2 i2s rfl rfl rfl hx9 (by decide) rfl rfl rfl) rfl ?_
    rintro _ _ rfl
    refine JL.nil ?_
    refine JE.weak (env' := [(3, .slice a2 x1.1.length cp3)]) (es' := [boxO 163 gb_0 [.slice a_0_0 q0.code.length c_0_0, .int .i64 x8.2.1, .int .u64 x8.2.2], rowT 42 eSPoint a2 x1.1.length cp3 (x1.1.set ((0 : Int)).toNat (SPoint.mk x8.1 x9.Y))]) [2, 0] ?_ ⟨rfl, trivial⟩ (by decide) rfl
    refine JE.code ?_
    refine JX.seq ?_
    refine JX.region ?_
    refine JL.val (yl_move rfl) rfl ?_
    refine JL.val (yl_assign rfl) rfl ?_
    refine JL.nil ?_
    refine JE.code ?_
    refine JX.ret ?_
    obtain rfl := Option.some.inj hres
    refine JE.ret (rs := [.tmp 2]) (vs := [.slice a2 x1.1.length cp3]) rfl ⟨rfl, trivial⟩ ?_
    exact fun w' hb hs => ⟨_, _, _, ⟨rfl, a2, x1.1.length, cp3, List.length_set, rfl, rfl⟩, rfl, hb, hs.sel [0, 1] _ (by decide) rfl⟩
  · refine JX.condF rfl hb ?_
    refine JX.seq ?_
    refine JX.region ?_
    refine JL.val (yl_eql rfl rfl) rfl ?_
    refine JL.val (yl_assign rfl) rfl ?_
    refine JL.nil ?_
    refine JE.code ?_
    rcases cond_some hres with ⟨hb, hres⟩ | ⟨hb, hres⟩
    · refine JX.condT rfl hb ?_
      refine JX.region ?_
      refine JL.val (yl_move rfl) rfl ?_
      refine JL.val (yl_move rfl) rfl ?_
      refine JL.eff (ef_buildSlice (E := 2) (k := eI64.k) (us := eI64.fl [(-9223372036854775808), 9223372036854775807]) rfl (fun w => bsl24_2 (-9223372036854775808) 9223372036854775807 w) rfl (by decide)) rfl ?_
      rintro _ _ ⟨a10, rfl, rfl⟩
      obtain ⟨x12, hx12, hres⟩ := bind_some hres
      refine JL.eff (ef_callms (caps := []) (vs := [ptrAt (some ⟨gb_0, 0, none⟩) 0, .slice a10 2 2]) (T := T94 gb_0 a_0_0 q0.code.length c_0_0 x12) [1] [0, 2] [boxO 163 gb_0 [.slice a_0_0 q0.code.length c_0_0, .int .i64 x5.2.1, .int .u64 x5.2.2]] [rowT 42 eSPoint a2 x1.1.length cp3 x1.1, rowT 2 eI64 a10 2 2 [(-9223372036854775808), 9223372036854775807]] rfl Go.Proofs.Try.func94 rfl (by kernel_rfl) rfl (by decide) rfl rfl (fun w N hF hS => c94 (q0 := Sl00Src.mk q0.code x5.2.1 x5.2.2) (RdS.pass hF g_0_0) rfl k_0_0 (RdS.row hF 2 rfl rfl) rfl (ln_row hF.cl 2 rfl) hS hx12)) rfl ?_
      rintro _ _ ⟨_, _, ⟨rfl, rfl, rfl⟩, rfl⟩
      obtain ⟨x13, hx13, hres⟩ := bind_some hres
      refine JL.val (yl_idxT Go.Proofs.Try.underlying34 i42 i42s rfl rfl hx13 rfl (fun w hC => rd_row hC 0 rfl)) rfl ?_
      refine JL.val (yl_fieldAtT Go.Proofs.Try.underlying42 rfl i2 i2n rfl hx13 (fun w hC => rd_row hC 0 rfl)) rfl ?_
      refine JL.eff (ef_storeF (ix := 0) (u := SPoint.mk x13.X x12.1) i2 i2s rfl rfl rfl hx13 (by decide) rfl rfl rfl) rfl ?_
      rintro _ _ rfl
      refine JL.nil ?_
      refine JE.weak (env' := [(3, .slice a2 x1.1.length cp3)]) (es' := [boxO 163 gb_0 [.slice a_0_0 q0.code.length c_0_0, .int .i64 x12.2.1, .int .u64 x12.2.2], rowT 42 eSPoint a2 x1.1.length cp3 (x1.1.set ((0 : Int)).toNat (SPoint.mk x13.X x12.1))]) [2, 0] ?_ ⟨rfl, trivial⟩ (by decide) rfl
      refine JE.code ?_
      refine JX.seq ?_
      refine JX.region ?_
      refine JL.val (yl_move rfl) rfl ?_
      refine JL.val (yl_assign rfl) rfl ?_
      refine JL.nil ?_
      refine JE.code ?_
      refine JX.ret ?_
      obtain rfl := Option.some.inj hres
      refine JE.ret (rs := [.tmp 2]) (vs := [.slice a2 x1.1.length cp3]) rfl ⟨rfl, trivial⟩ ?_
      exact fun w' hb hs => ⟨_, _, _, ⟨rfl, a2, x1.1.length, cp3, List.length_set, rfl, rfl⟩, rfl, hb, hs.sel [0, 1] _ (by decide) rfl⟩
    · refine JX.condF rfl hb ?_
      refine JX.seq ?_
      refine JX.region ?_
      refine JL.val (yl_eql rfl rfl) rfl ?_
      refine JL.val (yl_assign rfl) rfl ?_
      refine JL.nil ?_
      refine JE.code ?_
      rcases cond_some hres with ⟨hb, hres⟩ | ⟨hb, hres⟩
      · refine JX.condT rfl hb ?_
        refine JX.seq ?_
        refine JX.region ?_
        refine JL.eff (ef_buildSlice (E := 42) (k := eSPoint.k) (us := eSPoint.fl ([] : List SPoint)) rfl (fun w => bsl34_0  w) rfl (by decide)) rfl ?_
        rintro _ _ ⟨a14, rfl, rfl⟩
        refine JL.val (yl_assign rfl) rfl ?_
        refine JL.nil ?_
        refine JE.weak (env' := [(2, .slice a14 0 0)]) (es' := [boxO 163 gb_0 [.slice a_0_0 q0.code.length c_0_0, .int .i64 x5.2.1, .int .u64 x5.2.2], rowT 42 eSPoint a14 0 0 ([] : List SPoint)]) [1, 2] ?_ ⟨rfl, trivial⟩ (by decide) rfl
        refine JE.code ?_
        refine JX.ret ?_
        refine JE.qbr ?_
        obtain rfl := Option.some.inj hres
        refine JE.ret (rs := [.tmp 2]) (vs := [.slice a14 0 0]) rfl ⟨rfl, trivial⟩ ?_
        exact fun w' hb hs => ⟨_, _, _, ⟨rfl, a14, 0, 0, rfl, rfl, rfl⟩, rfl, hb, hs.sel [0, 1] _ (by decide) rfl⟩
      · refine JX.condF rfl hb ?_
        refine JX.seq ?_
        refine JX.region ?_
        refine JL.val (yl_eql rfl rfl) rfl ?_
        refine JL.val (yl_assign rfl) rfl ?_
        refine JL.nil ?_
        refine JE.code ?_
        rcases cond_some hres with ⟨hb, hres⟩ | ⟨hb, hres⟩
        · refine JX.condT rfl hb ?_
          refine JX.seq ?_
          refine JX.region ?_
          refine JL.val (yl_move rfl) rfl ?_
          obtain ⟨x16, hx16, hres⟩ := bind_some hres
          refine JL.eff (ef_callms (caps := []) (vs := [ptrAt (some ⟨gb_0, 0, none⟩) 0, .int .i64 2]) (T := T92 gb_0 a_0_0 q0.code.length c_0_0 x16) [1] [0] [boxO 163 gb_0 [.slice a_0_0 q0.code.length c_0_0, .int .i64 x5.2.1, .int .u64 x5.2.2]] [rowT 42 eSPoint a2 x1.1.length cp3 x1.1] rfl Go.Proofs.Try.func92 rfl (by kernel_rfl) rfl (by decide) rfl rfl (fun w N hF hS => c92 (q0 := Sl00Src.mk q0.code x5.2.1 x5.2.2) (RdS.pass hF g_0_0) rfl k_0_0 hS hx16)) rfl ?_
          rintro _ _ ⟨_, _, ⟨rfl, rfl, rfl⟩, rfl⟩
          refine JL.val (yl_add rfl rfl) rfl ?_
          obtain ⟨x17, hx17, hres⟩ := bind_some hres
          refine JL.eff (ef_makeS (e := eSPoint) Go.Proofs.Try.underlying34 i42 i42s i42z rfl i42b1 rfl rfl hx17) rfl ?_
          rintro _ _ ⟨a18, rfl, rfl⟩
          refine JL.val (yl_assign rfl) rfl ?_
          refine JL.nil ?_
          refine JE.weak (env' := [(2, .slice a18 x17.length x17.length)]) (es' := [boxO 163 gb_0 [.slice a_0_0 q0.code.length c_0_0, .int .i64 x16.2.1, .int .u64 x16.2.2], rowT 42 eSPoint a18 x17.length x17.length x17]) [1, 2] ?_ ⟨rfl, trivial⟩ (by decide) rfl
          refine JE.code ?_
          refine JX.ret ?_
          refine JE.qbr ?_
          obtain rfl := Option.some.inj hres
          refine JE.ret (rs := [.tmp 2]) (vs := [.slice a18 x17.length x17.length]) rfl ⟨rfl, trivial⟩ ?_
          exact fun w' hb hs => ⟨_, _, _, ⟨rfl, a18, x17.length, x17.length, rfl, rfl, rfl⟩, rfl, hb, hs.sel [0, 1] _ (by decide) rfl⟩
        · refine JX.condF rfl hb ?_
          refine JX.skip ?_
          refine JE.code ?_
          refine JX.seq ?_
          refine JX.region ?_
          refine JL.val (yl_move rfl) rfl ?_
          refine JL.val (yl_assign rfl) rfl ?_
          refine JL.nil ?_
          refine JE.code ?_
          refine JX.ret ?_
          obtain rfl := Option.some.inj hres
          refine JE.ret (rs := [.tmp 2]) (vs := [.slice a2 x1.1.length cp3]) rfl ⟨rfl, trivial⟩ ?_
          exact fun w' hb hs => ⟨_, _, _, ⟨rfl, a2, x1.1.length, cp3, rfl, rfl, rfl⟩, rfl, hb, hs.sel [1, 0] _ (by decide) rfl⟩

/- spec.DrawApplyStroke -/
def sh39 (q0 : List Int) : Option (SPanel × List SPoint × Int) := Option.bind (sh90 q0) fun x3 => Option.bind (sh118 (Sl00Src.mk q0 x3.at_ x3.seed)) fun x6 => Option.bind (sh127 (Sl00Src.mk q0 x6.2.1 x6.2.2)) fun x12 => Option.bind (sh120 (Sl00Src.mk q0 x12.2.1 x12.2.2)) fun x17 => some (x6.1, x12.1, x17.1)
def T39 (r : SPanel × List SPoint × Int) (v : Value) (rs : List Own) : Prop := ∃ (a0_2 : Option Addr) (n0_2 c0_2 : Nat), r.1.Breaks.length = n0_2 ∧ ∃ (a1 : Option Addr) (n1 c1 : Nat), r.2.1.length = n1 ∧ v = rets [.agg #[.int .i64 r.1.W, .int .i64 r.1.H, .slice a0_2 n0_2 c0_2], .slice a1 n1 c1, .int .i64 r.2.2] ∧ rs = [rowT 2 eI64 a0_2 n0_2 c0_2 r.1.Breaks, rowT 42 eSPoint a1 n1 c1 r.2.1]
set_option maxRecDepth 100000 in
theorem c39 {w : World} {q0 : List Int} {a_0 : Option Addr} {n_0 c_0 : Nat} (g_0 : Rd w a_0 (eU8.fl q0)) (l_0 : q0.length = n_0) (k_0 : n_0 ≤ c_0) {r : SPanel × List SPoint × Int} (hres : sh39 q0 = some r) : Calls Go.Proofs.Try.prog 39 [.slice a_0 n_0 c_0].toArray w (Ret w (T39 r)) := by
  subst l_0
  unfold sh39 at hres
  refine calls_of (n := 18) (M := []) (es := []) Go.Proofs.Try.func39 rfl rfl rfl (Sep.nil _ _ _) ?_
  refine JX.seq ?_
  refine JX.region ?_
  refine JL.eff (ef_alloc i26 i26z rfl) rfl ?_
  rintro _ _ ⟨g1, rfl, rfl⟩
  refine JL.val (yl_assign rfl) rfl ?_
  refine JL.val (yl_assign rfl) rfl ?_
  refine JL.nil ?_
  refine JE.code ?_
  refine JX.seq ?_
  refine JX.region ?_
  refine JL.val (yl_move rfl) rfl ?_
  obtain ⟨x3, hx3, hres⟩ := bind_some hres
  refine JL.eff (ef_call (T := T90 a_0 q0.length c_0 x3) Go.Proofs.Try.func90 rfl (by kernel_rfl) rfl (fun w hC => c90 (rd_arg g_0 hC) rfl k_0 hx3)) rfl ?_
  rintro _ _ ⟨_, ⟨g4, rfl, rfl⟩, rfl⟩
  refine JL.val (yl_assign rfl) rfl ?_
  refine JL.nil ?_
  refine JE.code ?_
  refine JX.seq ?_
  refine JX.region ?_
  refine JL.val (yl_move rfl) rfl ?_
  obtain ⟨x6, hx6, hres⟩ := bind_some hres
  refine JL.eff (ef_callms (caps := []) (vs := [ptrAt (some ⟨g4, 0, none⟩) 0]) (T := T118 g4 a_0 q0.length c_0 x6) [1] [0] [boxO 163 g4 [.slice a_0 q0.length c_0, .int .i64 x3.at_, .int .u64 x3.seed]] [boxO 26 g1 [.int .i64 0, .int .i64 0, .slice none 0 0]] rfl Go.Proofs.Try.func118 rfl (by kernel_rfl) rfl (by decide) rfl rfl (fun w N hF hS => c118 (q0 := Sl00Src.mk q0 x3.at_ x3.seed) (RdS.pass0 hF g_0) rfl k_0 hS hx6)) rfl ?_
  rintro _ _ ⟨_, _, ⟨rfl, a7, _, cp8, rfl, rfl, rfl⟩, rfl⟩
  refine JL.eff (ef_alloc i26 i26z rfl) rfl ?_
  rintro _ _ ⟨g10, rfl, rfl⟩
  refine JL.eff (ef_store_box (i := 3) (v := .agg #[.int .i64 x6.1.W, .int .i64 x6.1.H, .slice a7 x6.1.Breaks.length cp8]) i26 rfl rfl rfl (i26s).symm (Nat.le_of_ble_eq_true rfl) (by simp [Value.cells, Value.oneCell'])) rfl ?_
  rintro _ _ rfl
  refine JL.nil ?_
  refine JE.weak (env' := [(2, ptrAt (some ⟨g1, 0, none⟩) 0), (5, ptrAt (some ⟨g4, 0, none⟩) 0), (6, ptrAt (some ⟨g10, 0, none⟩) 0)]) (es' := [boxO 26 g1 [.int .i64 0, .int .i64 0, .slice none 0 0], boxO 163 g4 [.slice a_0 q0.length c_0, .int .i64 x6.2.1, .int .u64 x6.2.2], boxO 26 g10 [.int .i64 x6.1.W, .int .i64 x6.1.H, .slice a7 x6.1.Breaks.length cp8], rowT 2 eI64 a7 x6.1.Breaks.length cp8 x6.1.Breaks]) [0, 1, 3, 2] ?_ ⟨rfl, rfl, rfl, trivial⟩ (by decide) rfl
  refine JE.code ?_
  refine JX.seq ?_
  refine JX.region ?_
  refine JL.val (yl_move rfl) rfl ?_
  obtain ⟨x12, hx12, hres⟩ := bind_some hres
  refine JL.eff (ef_callms (caps := []) (vs := [ptrAt (some ⟨g4, 0, none⟩) 0]) (T := T127 g4 a_0 q0.length c_0 x12) [1] [0, 2, 3] [boxO 163 g4 [.slice a_0 q0.length c_0, .int .i64 x6.2.1, .int .u64 x6.2.2]] [boxO 26 g1 [.int .i64 0, .int .i64 0, .slice none 0 0], boxO 26 g10 [.int .i64 x6.1.W, .int .i64 x6.1.H, .slice a7 x6.1.Breaks.length cp8], rowT 2 eI64 a7 x6.1.Breaks.length cp8 x6.1.Breaks] rfl Go.Proofs.Try.func127 rfl (by kernel_rfl) rfl (by decide) rfl rfl (fun w N hF hS => c127 (q0 := Sl00Src.mk q0 x6.2.1 x6.2.2) (RdS.pass0 hF g_0) rfl k_0 hS hx12)) rfl ?_
  rintro _ _ ⟨_, _, ⟨rfl, a13, _, cp14, rfl, rfl, rfl⟩, rfl⟩
  refine JL.val (yl_assign rfl) rfl ?_
  refine JL.nil ?_
  refine JE.code ?_
  refine JX.seq ?_
  refine JX.drawH [(0, .read), (1, .pure), (2, .pure), (3, .must), (4, .must), (5, .pure), (6, .pure)] [3, 4] [3, 0] [1, 2, 4] [boxO 163 g4 [.slice a_0 q0.length c_0, .int .i64 x12.2.1, .int .u64 x12.2.2], boxO 26 g1 [.int .i64 0, .int .i64 0, .slice none 0 0]] [boxO 26 g10 [.int .i64 x6.1.W, .int .i64 x6.1.H, .slice a7 x6.1.Breaks.length cp8], rowT 2 eI64 a7 x6.1.Breaks.length cp8 x6.1.Breaks, rowT 42 eSPoint a13 x12.1.length cp14 x12.1] mixedP (by kernel_rfl) (by kernel_rfl) (by decide) rfl rfl ?_
  intro wrr16 Nr16 hFr16
  refine JH.read rfl (yl_loadn Go.Proofs.Try.underlying26 rfl i26 rfl (fun w hw => hFr16.box 1 rfl rfl hw) rfl (i26s).symm i26p) rfl ?_
  refine JH.pure rfl (yl_move rfl) rfl ?_
  refine JH.pure rfl (yl_move rfl) rfl ?_
  obtain ⟨x17, hx17, hres⟩ := bind_some hres
  refine JH.must rfl (ef_callms (caps := []) (vs := [ptrAt (some ⟨g4, 0, none⟩) 0]) (T := T120 g4 a_0 q0.length c_0 x17) [0] [1] [boxO 163 g4 [.slice a_0 q0.length c_0, .int .i64 x12.2.1, .int .u64 x12.2.2]] [boxO 26 g1 [.int .i64 0, .int .i64 0, .slice none 0 0]] rfl Go.Proofs.Try.func120 rfl (by kernel_rfl) rfl (by decide) rfl rfl (fun w N hF hS => c120 (q0 := Sl00Src.mk q0 x12.2.1 x12.2.2) (RdS.pass hF (RdS.pass0 hFr16 g_0)) rfl k_0 hS hx17)) rfl rfl ?_
  rintro _ _ ⟨_, _, ⟨rfl, rfl, rfl⟩, rfl⟩
  refine JH.must rfl (ef_store_box (i := 0) (v := .agg #[.int .i64 x6.1.W, .int .i64 x6.1.H, .slice a7 x6.1.Breaks.length cp8]) i26 rfl rfl rfl (i26s).symm (Nat.le_of_ble_eq_true rfl) (by simp [Value.cells, Value.oneCell'])) rfl rfl ?_
  rintro _ _ rfl
  refine JH.pure rfl (yl_assign rfl) rfl ?_
  refine JH.pure rfl (yl_assign rfl) rfl ?_
  refine JH.nil ?_
  refine JE.weak (env' := [(2, ptrAt (some ⟨g1, 0, none⟩) 0), (3, .slice a13 x12.1.length cp14), (4, .int .i64 x17.1)]) (es' := [boxO 26 g1 [.int .i64 x6.1.W, .int .i64 x6.1.H, .slice a7 x6.1.Breaks.length cp8], rowT 2 eI64 a7 x6.1.Breaks.length cp8 x6.1.Breaks, rowT 42 eSPoint a13 x12.1.length cp14 x12.1]) [3, 1, 2] ?_ ⟨rfl, rfl, rfl, trivial⟩ (by decide) rfl
  refine JE.code ?_
  refine JX.ret ?_
  obtain rfl := Option.some.inj hres
  refine JE.ret (rs := [.cell 2 26, .tmp 3, .tmp 4]) (vs := [.agg #[.int .i64 x6.1.W, .int .i64 x6.1.H, .slice a7 x6.1.Breaks.length cp8], .slice a13 x12.1.length cp14, .int .i64 x17.1]) rfl ⟨rv_box 0 rfl rfl Go.Proofs.Try.underlying26 rfl i26 (i26s).symm, rfl, rfl, trivial⟩ ?_
  exact fun w' hb hs => ⟨_, _, ⟨a7, x6.1.Breaks.length, cp8, rfl, a13, x12.1.length, cp14, rfl, rfl, rfl⟩, rfl, hb, hs.sel [1, 2] _ (by decide) rfl⟩

/- impl.isPlace -/
def sh138 (q0 : SPoint) : Option (Bool) := Option.bind (sh107 q0.X 0 2000) fun x3 => Option.bind (bif x3 then (Option.bind (sh107 q0.Y 0 2000) fun x5 => some x5) else (some false)) fun cb4 => (some cb4)
def T138 (r : Bool) (v : Value) (rs : List Own) : Prop := v = rets [.bool r] ∧ rs = []
set_option maxRecDepth 100000 in
theorem c138 {w : World} {q0 : SPoint} {r : Bool} (hres : sh138 q0 = some r) : Calls Go.Proofs.Try.prog 138 [.agg #[.int .i64 q0.X, .int .i64 q0.Y]].toArray w (Ret w (T138 r)) := by
  unfold sh138 at hres
  refine calls_of (n := 11) (M := []) (es := []) Go.Proofs.Try.func138 rfl rfl rfl (Sep.nil _ _ _) ?_
  refine JX.seq ?_
  refine JX.region ?_
  refine JL.eff (ef_box rfl rfl) rfl ?_
  rintro _ _ ⟨g1, rfl, rfl⟩
  refine JL.val (yl_assign rfl) rfl ?_
  refine JL.nil ?_
  refine JE.code ?_
  refine JX.seq ?_
  refine JX.region ?_
  refine JL.val (yl_fieldAt (a := some _) Go.Proofs.Try.underlying42 rfl i2 i2n rfl rfl) rfl ?_
  refine JL.val (yl_load1 Go.Proofs.Try.underlying2 rfl rfl (fun w hC => rd_box hC 0 rfl) rfl) rfl ?_
  obtain ⟨x3, hx3, hres⟩ := bind_some hres
  refine JL.eff (ef_call (T := T107 x3) Go.Proofs.Try.func107 rfl (by kernel_rfl) rfl (fun w hC => c107  hx3)) rfl ?_
  rintro _ _ ⟨_, ⟨rfl, rfl⟩, rfl⟩
  refine JL.val (yl_move rfl) rfl ?_
  obtain ⟨cb4, hcb4, hres⟩ := bind_some hres
  refine JL.cut (K := fun J => J [(10, .bool cb4)] []) 4 ?_ ?_
  · refine JL.val (yl_assign rfl) rfl ?_
    refine JL.nil ?_
    refine JE.weak (env' := [(2, .bool cb4)]) (es' := []) [] ?_ ⟨rfl, trivial⟩ (by decide) rfl
    refine JE.code ?_
    refine JX.ret ?_
    obtain rfl := Option.some.inj hres
    refine JE.ret (rs := [.tmp 2]) (vs := [.bool cb4]) rfl ⟨rfl, trivial⟩ ?_
    exact fun w' hb hs => ⟨_, _, ⟨rfl, rfl⟩, rfl, hb, hs.sel [] _ (by decide) rfl⟩
  · intro K
    rcases cond_some hcb4 with ⟨hb, hres⟩ | ⟨hb, hres⟩
    · refine JL.set (d := 6) (v := .bool true) (congrArg (fun b => some (Value.bool b)) hb) ?_
      refine JL.gval rfl rfl (yl_fieldAt (a := some _) Go.Proofs.Try.underlying42 rfl i2 i2n rfl rfl) rfl ?_
      refine JL.gval rfl rfl (yl_load1 Go.Proofs.Try.underlying2 rfl rfl (fun w hC => rd_box hC 0 rfl) rfl) rfl ?_
      obtain ⟨x5, hx5, hres⟩ := bind_some hres
      refine JL.geff rfl rfl (ef_call (T := T107 x5) Go.Proofs.Try.func107 rfl (by kernel_rfl) rfl (fun w hC => c107  hx5)) rfl ?_
      rintro _ _ ⟨_, ⟨rfl, rfl⟩, rfl⟩
      refine JL.val (yl_pick_true rfl rfl) rfl ?_
      have he := Option.some.inj hres
      exact JL.weak [] K ⟨(by rw [← he]; rfl), trivial⟩ (by decide) rfl
    · refine JL.set (d := 6) (v := .bool false) (congrArg (fun b => some (Value.bool b)) hb) ?_
      refine JL.gskip rfl rfl rfl rfl ?_
      refine JL.gskip rfl rfl rfl rfl ?_
      refine JL.gskip rfl rfl rfl rfl ?_
      refine JL.val (yl_pick_false rfl rfl) rfl ?_
      have he := Option.some.inj hres
      exact JL.weak [] K ⟨(by rw [← he]; rfl), trivial⟩ (by decide) rfl

/- impl.ValidStroke$1 -/
def sh137 (q0 : SPoint) : Option (Bool) := Option.bind (sh138 q0) fun x3 => some !x3
def T137 (r : Bool) (v : Value) (rs : List Own) : Prop := v = rets [.bool r] ∧ rs = []
set_option maxRecDepth 100000 in
theorem c137 {w : World} {q0 : SPoint} {r : Bool} (hres : sh137 q0 = some r) : Calls Go.Proofs.Try.prog 137 [.agg #[.int .i64 q0.X, .int .i64 q0.Y]].toArray w (Ret w (T137 r)) := by
  unfold sh137 at hres
  refine calls_of (n := 6) (M := []) (es := []) Go.Proofs.Try.func137 rfl rfl rfl (Sep.nil _ _ _) ?_
  refine JX.seq ?_
  refine JX.region ?_
  refine JL.eff (ef_box rfl rfl) rfl ?_
  rintro _ _ ⟨g1, rfl, rfl⟩
  refine JL.val (yl_assign rfl) rfl ?_
  refine JL.nil ?_
  refine JE.code ?_
  refine JX.seq ?_
  refine JX.region ?_
  refine JL.val (yl_loadn Go.Proofs.Try.underlying42 rfl i42 rfl (fun w hC => rd_box hC 0 rfl) rfl (i42s).symm i42p) rfl ?_
  obtain ⟨x3, hx3, hres⟩ := bind_some hres
  refine JL.eff (ef_call (vs := [.agg #[.int .i64 q0.X, .int .i64 q0.Y]]) (T := T138 x3) Go.Proofs.Try.func138 rfl (by kernel_rfl) rfl (fun w hC => c138 (q0 := q0) hx3)) rfl ?_
  rintro _ _ ⟨_, ⟨rfl, rfl⟩, rfl⟩
  refine JL.val (yl_not rfl) rfl ?_
  refine JL.val (yl_assign rfl) rfl ?_
  refine JL.nil ?_
  refine JE.weak (env' := [(2, .bool !x3)]) (es' := []) [] ?_ ⟨rfl, trivial⟩ (by decide) rfl
  refine JE.code ?_
  refine JX.ret ?_
  obtain rfl := Option.some.inj hres
  refine JE.ret (rs := [.tmp 2]) (vs := [.bool !x3]) rfl ⟨rfl, trivial⟩ ?_
  exact fun w' hb hs => ⟨_, _, ⟨rfl, rfl⟩, rfl, hb, hs.sel [] _ (by decide) rfl⟩

/- slices.IndexFunc[[]impl.Point,impl.Point] -/
def sh200f137_1 (q0 : List SPoint) : Int → Option (Int ⊕ (Unit ⊕ Int))
  | x1 => bif decide (x1 < (q0.length : Int)) then (Option.bind (getI q0 x1) fun x2 => Option.bind (sh137 x2) fun x3 => bif x3 then (some (.inr (.inr x1))) else (some (.inl (w64 (x1 + 1))))) else (some (.inr (.inl ())))
def sh200f137 (q0 : List SPoint) : Option (Int) := Option.bind (iter (sh200f137_1 q0) 0) fun y1 => elimS y1 (fun r => some r) fun b1 => (some (-1))
def T200f137 (r : Int) (v : Value) (rs : List Own) : Prop := v = rets [.int .i64 r] ∧ rs = []
set_option maxRecDepth 100000 in
theorem c200f137 {w : World} {q0 : List SPoint} {a_0 : Option Addr} {n_0 c_0 : Nat} (g_0 : Rd w a_0 (eSPoint.fl q0)) (l_0 : q0.length = n_0) (k_0 : n_0 ≤ c_0) {r : Int} (hres : sh200f137 q0 = some r) : Calls Go.Proofs.Try.prog 200 [.slice a_0 n_0 c_0, .func (.func 137) #[] #[]].toArray w (Ret w (T200f137 r)) := by
  subst l_0
  unfold sh200f137 at hres
  refine calls_of (n := 19) (M := []) (es := []) Go.Proofs.Try.func200 rfl rfl rfl (Sep.nil _ _ _) ?_
  refine JX.seq ?_
  refine JX.region ?_
  refine JL.val (yl_assign rfl) rfl ?_
  refine JL.nil ?_
  refine JE.code ?_
  refine JX.seq ?_
  refine JX.seq ?_
  refine JX.region ?_
  refine JL.val (yl_move rfl) rfl ?_
  refine JL.val (yl_len_slice Go.Proofs.Try.underlying34 rfl) rfl ?_
  refine JL.val (yl_move rfl) rfl ?_
  refine JL.nil ?_
  refine JE.code ?_
  refine JX.block ?_
  obtain ⟨y1, hy1, hresO1⟩ := bind_some hres
  refine JX.loop (I := fun (s1 : Int) aa ww => St w [] 19 [(0, .slice a_0 q0.length c_0), (1, .func (.func 137) #[] #[]), (7, .int .i64 (q0.length : Int)), (8, .int .i64 s1)] [] aa ww) (sh200f137_1 q0) hy1 (fun a w h => h.weak ⟨rfl, rfl, rfl, rfl, trivial⟩ [] (by decide) rfl) ?_
  rintro x1 o1 hres hox1 aa ww hS
  refine (?_ : JX Go.Proofs.Try.prog w [] 19 _ _ [(0, .slice a_0 q0.length c_0), (1, .func (.func 137) #[] #[]), (7, .int .i64 (q0.length : Int)), (8, .int .i64 x1)] [] _) aa ww hS
  clear hS
  unfold sh200f137_1 at hres
  refine JX.seq ?_
  refine JX.region ?_
  refine JL.val (yl_lss rfl rfl) rfl ?_
  refine JL.nil ?_
  refine JE.code ?_
  refine JX.seq ?_
  rcases cond_some hres with ⟨hb, hres⟩ | ⟨hb, hres⟩
  · refine JX.condT rfl hb ?_
    refine JX.skip ?_
    refine JE.code ?_
    refine JX.seq ?_
    refine JX.block ?_
    refine JX.seq ?_
    refine JX.region ?_
    refine JL.val (yl_move rfl) rfl ?_
    refine JL.val (yl_assign rfl) rfl ?_
    refine JL.nil ?_
    refine JE.code ?_
    refine JX.seq ?_
    refine JX.region ?_
    refine JL.val (yl_move rfl) rfl ?_
    refine JL.val (yl_move rfl) rfl ?_
    refine JL.val (yl_move rfl) rfl ?_
    obtain ⟨x2, hx2, hres⟩ := bind_some hres
    refine JL.val (yl_idxT Go.Proofs.Try.underlying34 i42 i42s rfl rfl hx2 rfl (fun w hC => rd_arg g_0 hC)) rfl ?_
    refine JL.val (yl_loadTn Go.Proofs.Try.underlying42 rfl i42 i42s rfl hx2 (fun w hC => rd_arg g_0 hC)) rfl ?_
    obtain ⟨x3, hx3, hres⟩ := bind_some hres
    refine JL.eff (ef_callv (vs := [.agg #[.int .i64 x2.X, .int .i64 x2.Y]]) (T := T137 x3) rfl Go.Proofs.Try.func137 rfl (by kernel_rfl) rfl (fun w hC => c137 (q0 := x2) hx3)) rfl ?_
    rintro _ _ ⟨_, ⟨rfl, rfl⟩, rfl⟩
    refine JL.nil ?_
    refine JE.weak (env' := [(0, .slice a_0 q0.length c_0), (1, .func (.func 137) #[] #[]), (5, .int .i64 x1), (7, .int .i64 (q0.length : Int)), (8, .int .i64 x1), (16, .bool x3)]) (es' := []) [] ?_ ⟨rfl, rfl, rfl, rfl, rfl, rfl, trivial⟩ (by decide) rfl
    refine JE.code ?_
    rcases cond_some hres with ⟨hb, hres⟩ | ⟨hb, hres⟩
    · refine JX.condT rfl hb ?_
      refine JX.seq ?_
      refine JX.region ?_
      refine JL.val (yl_move rfl) rfl ?_
      refine JL.val (yl_assign rfl) rfl ?_
      refine JL.nil ?_
      refine JE.code ?_
      refine JX.ret ?_
      refine JE.qbr ?_
      refine JE.qbr ?_
      have hres := elimS_inr hresO1 (hox1 _ (Option.some.inj hres).symm)
      obtain rfl := Option.some.inj hres
      refine JE.ret (rs := [.tmp 4]) (vs := [.int .i64 x1]) rfl ⟨rfl, trivial⟩ ?_
      exact fun w' hb hs => ⟨_, _, ⟨rfl, rfl⟩, rfl, hb, hs.sel [] _ (by decide) rfl⟩
    · refine JX.condF rfl hb ?_
      refine JX.skip ?_
      refine JE.code ?_
      refine JX.region ?_
      refine JL.val (yl_add rfl rfl) rfl ?_
      refine JL.val (yl_move rfl) rfl ?_
      refine JL.nil ?_
      refine JE.cont hres ?_
      exact fun a w h => h.weak ⟨rfl, rfl, rfl, rfl, trivial⟩ [] (by decide) rfl
  · refine JX.condF rfl hb ?_
    refine JX.exit ?_
    refine JE.qb rfl ?_
    obtain ⟨b1, hb1⟩ : ∃ b : Unit, b = () := ⟨_, rfl⟩
    have hy1 : Sum.inl b1 = y1 := by rw [hb1]; exact hox1 _ (Option.some.inj hres).symm
    have hres := elimS_inl hresO1 hy1
    refine JE.weak (env' := []) (es' := []) [] ?_ trivial (by decide) (by subst hb1; rfl)
    refine JE.code ?_
    refine JX.seq ?_
    refine JX.region ?_
    refine JL.val (yl_assign rfl) rfl ?_
    refine JL.nil ?_
    refine JE.code ?_
    refine JX.ret ?_
    obtain rfl := Option.some.inj hres
    refine JE.ret (rs := [.tmp 4]) (vs := [.int .i64 (-1)]) rfl ⟨rfl, trivial⟩ ?_
    exact fun w' hb hs => ⟨_, _, ⟨rfl, rfl⟩, rfl, hb, hs.sel [] _ (by decide) rfl⟩

/- slices.ContainsFunc[[]impl.Point,impl.Point] -/
def sh136f137 (q0 : List SPoint) : Option (Bool) := Option.bind (sh200f137 q0) fun x1 => some (decide (0 ≤ x1))
def T136f137 (r : Bool) (v : Value) (rs : List Own) : Prop := v = rets [.bool r] ∧ rs = []
set_option maxRecDepth 100000 in
theorem c136f137 {w : World} {q0 : List SPoint} {a_0 : Option Addr} {n_0 c_0 : Nat} (g_0 : Rd w a_0 (eSPoint.fl q0)) (l_0 : q0.length = n_0) (k_0 : n_0 ≤ c_0) {r : Bool} (hres : sh136f137 q0 = some r) : Calls Go.Proofs.Try.prog 136 [.slice a_0 n_0 c_0, .func (.func 137) #[] #[]].toArray w (Ret w (T136f137 r)) := by
  subst l_0
  unfold sh136f137 at hres
  refine calls_of (n := 9) (M := []) (es := []) Go.Proofs.Try.func136 rfl rfl rfl (Sep.nil _ _ _) ?_
  refine JX.seq ?_
  refine JX.region ?_
  refine JL.val (yl_assign rfl) rfl ?_
  refine JL.nil ?_
  refine JE.code ?_
  refine JX.seq ?_
  refine JX.region ?_
  refine JL.val (yl_move rfl) rfl ?_
  refine JL.val (yl_move rfl) rfl ?_
  obtain ⟨x1, hx1, hres⟩ := bind_some hres
  refine JL.eff (ef_call (T := T200f137 x1) Go.Proofs.Try.func200 rfl (by kernel_rfl) rfl (fun w hC => c200f137 (rd_arg g_0 hC) rfl k_0 hx1)) rfl ?_
  rintro _ _ ⟨_, ⟨rfl, rfl⟩, rfl⟩
  refine JL.val (yl_geq rfl rfl) rfl ?_
  refine JL.val (yl_assign rfl) rfl ?_
  refine JL.nil ?_
  refine JE.weak (env' := [(4, .bool (decide (0 ≤ x1)))]) (es' := []) [] ?_ ⟨rfl, trivial⟩ (by decide) rfl
  refine JE.code ?_
  refine JX.ret ?_
  obtain rfl := Option.some.inj hres
  refine JE.ret (rs := [.tmp 4]) (vs := [.bool (decide (0 ≤ x1))]) rfl ⟨rfl, trivial⟩ ?_
  exact fun w' hb hs => ⟨_, _, ⟨rfl, rfl⟩, rfl, hb, hs.sel [] _ (by decide) rfl⟩

/- impl.ValidStroke -/
def sh47 (q0 : List SPoint) : Option (Bool) := Option.bind (sh107 (q0.length : Int) 1 60) fun x1 => Option.bind (bif x1 then (Option.bind (sh136f137 q0) fun x3 => some !x3) else (some false)) fun cb2 => (some cb2)
def T47 (r : Bool) (v : Value) (rs : List Own) : Prop := v = rets [.bool r] ∧ rs = []
set_option maxRecDepth 100000 in
theorem c47 {w : World} {q0 : List SPoint} {a_0 : Option Addr} {n_0 c_0 : Nat} (g_0 : Rd w a_0 (eSPoint.fl q0)) (l_0 : q0.length = n_0) (k_0 : n_0 ≤ c_0) {r : Bool} (hres : sh47 q0 = some r) : Calls Go.Proofs.Try.prog 47 [.slice a_0 n_0 c_0].toArray w (Ret w (T47 r)) := by
  subst l_0
  unfold sh47 at hres
  refine calls_of (n := 11) (M := []) (es := []) Go.Proofs.Try.func47 rfl rfl rfl (Sep.nil _ _ _) ?_
  refine JX.seq ?_
  refine JX.region ?_
  refine JL.val (yl_assign rfl) rfl ?_
  refine JL.nil ?_
  refine JE.code ?_
  refine JX.seq ?_
  refine JX.region ?_
  refine JL.val (yl_move rfl) rfl ?_
  refine JL.val (yl_len_slice Go.Proofs.Try.underlying34 rfl) rfl ?_
  obtain ⟨x1, hx1, hres⟩ := bind_some hres
  refine JL.eff (ef_call (T := T107 x1) Go.Proofs.Try.func107 rfl (by kernel_rfl) rfl (fun w hC => c107  hx1)) rfl ?_
  rintro _ _ ⟨_, ⟨rfl, rfl⟩, rfl⟩
  refine JL.val (yl_move rfl) rfl ?_
  obtain ⟨cb2, hcb2, hres⟩ := bind_some hres
  refine JL.cut (K := fun J => J [(10, .bool cb2)] []) 4 ?_ ?_
  · refine JL.val (yl_assign rfl) rfl ?_
    refine JL.nil ?_
    refine JE.weak (env' := [(2, .bool cb2)]) (es' := []) [] ?_ ⟨rfl, trivial⟩ (by decide) rfl
    refine JE.code ?_
    refine JX.ret ?_
    obtain rfl := Option.some.inj hres
    refine JE.ret (rs := [.tmp 2]) (vs := [.bool cb2]) rfl ⟨rfl, trivial⟩ ?_
    exact fun w' hb hs => ⟨_, _, ⟨rfl, rfl⟩, rfl, hb, hs.sel [] _ (by decide) rfl⟩
  · intro K
    rcases cond_some hcb2 with ⟨hb, hres⟩ | ⟨hb, hres⟩
    · refine JL.set (d := 6) (v := .bool true) (congrArg (fun b => some (Value.bool b)) hb) ?_
      refine JL.gval rfl rfl (yl_move rfl) rfl ?_
      obtain ⟨x3, hx3, hres⟩ := bind_some hres
      refine JL.geff rfl rfl (ef_call (T := T136f137 x3) Go.Proofs.Try.func136 rfl (by kernel_rfl) rfl (fun w hC => c136f137 (rd_arg g_0 hC) rfl k_0 hx3)) rfl ?_
      rintro _ _ ⟨_, ⟨rfl, rfl⟩, rfl⟩
      refine JL.gval rfl rfl (yl_not rfl) rfl ?_
      refine JL.val (yl_pick_true rfl rfl) rfl ?_
      have he := Option.some.inj hres
      exact JL.weak [] K ⟨(by rw [← he]; rfl), trivial⟩ (by decide) rfl
    · refine JL.set (d := 6) (v := .bool false) (congrArg (fun b => some (Value.bool b)) hb) ?_
      refine JL.gskip rfl rfl rfl rfl ?_
      refine JL.gskip rfl rfl rfl rfl ?_
      refine JL.gskip rfl rfl rfl rfl ?_
      refine JL.val (yl_pick_false rfl rfl) rfl ?_
      have he := Option.some.inj hres
      exact JL.weak [] K ⟨(by rw [← he]; rfl), trivial⟩ (by decide) rfl

/- impl.boxOf -/
def sh112_1 (q0 : List SPoint) : (Int × SPoint × SPoint) → Option ((Int × SPoint × SPoint) ⊕ (SPoint × SPoint))
  | (x12, x13, x14) => bif decide (x12 < (q0.length : Int)) then (Option.bind (getI q0 x12) fun x15 => some (.inl (w64 (x12 + 1), SPoint.mk (if x15.X < x13.X then x15.X else x13.X) (if x15.Y < x13.Y then x15.Y else x13.Y), SPoint.mk (if x14.X < x15.X then x15.X else x14.X) (if x14.Y < x15.Y then x15.Y else x14.Y)))) else (some (.inr (x13, x14)))
def sh112 (q0 : List SPoint) : Option (SPoint × SPoint) := Option.bind (getI q0 (0 : Int)) fun x6 => Option.bind (getI q0 (0 : Int)) fun x7 => Option.bind (iter (sh112_1 q0) (0, x6, x7)) fun b1 => (some (b1.1, b1.2))
def T112 (r : SPoint × SPoint) (v : Value) (rs : List Own) : Prop := v = rets [.agg #[.int .i64 r.1.X, .int .i64 r.1.Y], .agg #[.int .i64 r.2.X, .int .i64 r.2.Y]] ∧ rs = []
set_option maxRecDepth 100000 in
theorem c112 {w : World} {q0 : List SPoint} {a_0 : Option Addr} {n_0 c_0 : Nat} (g_0 : Rd w a_0 (eSPoint.fl q0)) (l_0 : q0.length = n_0) (k_0 : n_0 ≤ c_0) {r : SPoint × SPoint} (hres : sh112 q0 = some r) : Calls Go.Proofs.Try.prog 112 [.slice a_0 n_0 c_0].toArray w (Ret w (T112 r)) := by
  subst l_0
  unfold sh112 at hres
  refine calls_of (n := 45) (M := []) (es := []) Go.Proofs.Try.func112 rfl rfl rfl (Sep.nil _ _ _) ?_
  refine JX.seq ?_
  refine JX.region ?_
  refine JL.eff (ef_alloc i42 i42z rfl) rfl ?_
  rintro _ _ ⟨g1, rfl, rfl⟩
  refine JL.eff (ef_alloc i42 i42z rfl) rfl ?_
  rintro _ _ ⟨g3, rfl, rfl⟩
  refine JL.nil ?_
  refine JE.code ?_
  refine JX.seq ?_
  refine JX.drawH [(0, .pure), (1, .pure), (2, .read), (3, .pure), (4, .pure), (5, .read), (6, .two 7), (8, .must), (9, .must)] [8, 9] [] [0, 1] [] [boxO 42 g1 [.int .i64 0, .int .i64 0], boxO 42 g3 [.int .i64 0, .int .i64 0]] mixedP (by kernel_rfl) (by kernel_rfl) (by decide) rfl rfl ?_
  intro wrr5 Nr5 hFr5
  refine JH.pure rfl (yl_move rfl) rfl ?_
  obtain ⟨x6, hx6, hres⟩ := bind_some hres
  refine JH.pure rfl (yl_idxQ Go.Proofs.Try.underlying34 i42 i42s rfl rfl hx6 rfl (rd_arg g_0 hFr5.cl) rfl) rfl ?_
  refine JH.read rfl (yl_loadTn Go.Proofs.Try.underlying42 rfl i42 i42s rfl hx6 (fun w hw => hFr5.arg g_0 hw)) rfl ?_
  refine JH.pure rfl (yl_move rfl) rfl ?_
  obtain ⟨x7, hx7, hres⟩ := bind_some hres
  refine JH.pure rfl (yl_idxQ Go.Proofs.Try.underlying34 i42 i42s rfl rfl hx7 rfl (rd_arg g_0 hFr5.cl) rfl) rfl ?_
  refine JH.read rfl (yl_loadTn Go.Proofs.Try.underlying42 rfl i42 i42s rfl hx7 (fun w hw => hFr5.arg g_0 hw)) rfl ?_
  refine JH.cut (K := fun J => ∀ (g8 : Nat) (g10 : Nat), J [(0, .slice a_0 q0.length c_0), (2, ptrAt (some ⟨g1, 0, none⟩) 0), (3, ptrAt (some ⟨g3, 0, none⟩) 0), (4, ptrAt (some ⟨g8, 0, none⟩) 0), (5, ptrAt (some ⟨g10, 0, none⟩) 0), (10, .agg #[.int .i64 x6.X, .int .i64 x6.Y]), (13, .agg #[.int .i64 x7.X, .int .i64 x7.Y])] [boxO 42 g8 [.int .i64 0, .int .i64 0], boxO 42 g10 [.int .i64 0, .int .i64 0]]) 1 ?_ ?_
  · intro g8 g10
    refine JH.must rfl (ef_store_box (i := 0) (v := .agg #[.int .i64 x6.X, .int .i64 x6.Y]) i42 rfl rfl rfl (i42s).symm (Nat.le_of_ble_eq_true rfl) (by simp [Value.cells, Value.oneCell'])) rfl rfl ?_
    rintro _ _ rfl
    refine JH.must rfl (ef_store_box (i := 1) (v := .agg #[.int .i64 x7.X, .int .i64 x7.Y]) i42 rfl rfl rfl (i42s).symm (Nat.le_of_ble_eq_true rfl) (by simp [Value.cells, Value.oneCell'])) rfl rfl ?_
    rintro _ _ rfl
    refine JH.nil ?_
    refine JE.weak (env' := [(0, .slice a_0 q0.length c_0), (2, ptrAt (some ⟨g1, 0, none⟩) 0), (3, ptrAt (some ⟨g3, 0, none⟩) 0), (4, ptrAt (some ⟨g8, 0, none⟩) 0), (5, ptrAt (some ⟨g10, 0, none⟩) 0)]) (es' := [boxO 42 g1 [.int .i64 0, .int .i64 0], boxO 42 g3 [.int .i64 0, .int .i64 0], boxO 42 g8 [.int .i64 x6.X, .int .i64 x6.Y], boxO 42 g10 [.int .i64 x7.X, .int .i64 x7.Y]]) [0, 1, 2, 3] ?_ ⟨rfl, rfl, rfl, rfl, rfl, trivial⟩ (by decide) rfl
    refine JE.code ?_
    refine JX.seq ?_
    refine JX.seq ?_
    refine JX.region ?_
    refine JL.val (yl_move rfl) rfl ?_
    refine JL.val (yl_len_slice Go.Proofs.Try.underlying34 rfl) rfl ?_
    refine JL.val (yl_move rfl) rfl ?_
    refine JL.nil ?_
    refine JE.code ?_
    refine JX.block ?_
    obtain ⟨y1, hy1, hresO1⟩ := bind_some hres
    refine JX.loop (I := fun (s1 : Int × SPoint × SPoint) aa ww => St w [] 45 [(2, ptrAt (some ⟨g1, 0, none⟩) 0), (3, ptrAt (some ⟨g3, 0, none⟩) 0), (4, ptrAt (some ⟨g8, 0, none⟩) 0), (5, ptrAt (some ⟨g10, 0, none⟩) 0), (14, .slice a_0 q0.length c_0), (15, .int .i64 (q0.length : Int)), (16, .int .i64 s1.1)] [boxO 42 g1 [.int .i64 0, .int .i64 0], boxO 42 g3 [.int .i64 0, .int .i64 0], boxO 42 g8 [.int .i64 s1.2.1.X, .int .i64 s1.2.1.Y], boxO 42 g10 [.int .i64 s1.2.2.X, .int .i64 s1.2.2.Y]] aa ww) (sh112_1 q0) hy1 (fun a w h => h.weak ⟨rfl, rfl, rfl, rfl, rfl, rfl, rfl, trivial⟩ [0, 1, 2, 3] (by decide) rfl) ?_
    rintro ⟨x12, x13, x14⟩ o1 hres hox1 aa ww hS
    refine (?_ : JX Go.Proofs.Try.prog w [] 45 _ _ [(2, ptrAt (some ⟨g1, 0, none⟩) 0), (3, ptrAt (some ⟨g3, 0, none⟩) 0), (4, ptrAt (some ⟨g8, 0, none⟩) 0), (5, ptrAt (some ⟨g10, 0, none⟩) 0), (14, .slice a_0 q0.length c_0), (15, .int .i64 (q0.length : Int)), (16, .int .i64 x12)] [boxO 42 g1 [.int .i64 0, .int .i64 0], boxO 42 g3 [.int .i64 0, .int .i64 0], boxO 42 g8 [.int .i64 x13.X, .int .i64 x13.Y], boxO 42 g10 [.int .i64 x14.X, .int .i64 x14.Y]] _) aa ww hS
    clear hS
    simp only [sh112_1] at hres
    refine JX.seq ?_
    refine JX.region ?_
    refine JL.val (yl_lss rfl rfl) rfl ?_
    refine JL.nil ?_
    refine JE.code ?_
    refine JX.seq ?_
    rcases cond_some hres with ⟨hb, hres⟩ | ⟨hb, hres⟩
    · refine JX.condT rfl hb ?_
      refine JX.skip ?_
      refine JE.code ?_
      refine JX.seq ?_
      refine JX.block ?_
      refine JX.seq ?_
      refine JX.region ?_
      obtain ⟨x15, hx15, hres⟩ := bind_some hres
      refine JL.val (yl_idxT Go.Proofs.Try.underlying34 i42 i42s rfl rfl hx15 rfl (fun w hC => rd_arg g_0 hC)) rfl ?_
      refine JL.val (yl_loadTn Go.Proofs.Try.underlying42 rfl i42 i42s rfl hx15 (fun w hC => rd_arg g_0 hC)) rfl ?_
      refine JL.eff (ef_alloc i42 i42z rfl) rfl ?_
      rintro _ _ ⟨g16, rfl, rfl⟩
      refine JL.eff (ef_store_box (i := 4) (v := .agg #[.int .i64 x15.X, .int .i64 x15.Y]) i42 rfl rfl rfl (i42s).symm (Nat.le_of_ble_eq_true rfl) (by simp [Value.cells, Value.oneCell'])) rfl ?_
      rintro _ _ rfl
      refine JL.nil ?_
      refine JE.weak (env' := [(2, ptrAt (some ⟨g1, 0, none⟩) 0), (3, ptrAt (some ⟨g3, 0, none⟩) 0), (4, ptrAt (some ⟨g8, 0, none⟩) 0), (5, ptrAt (some ⟨g10, 0, none⟩) 0), (7, ptrAt (some ⟨g16, 0, none⟩) 0), (14, .slice a_0 q0.length c_0), (15, .int .i64 (q0.length : Int)), (16, .int .i64 x12)]) (es' := [boxO 42 g1 [.int .i64 0, .int .i64 0], boxO 42 g3 [.int .i64 0, .int .i64 0], boxO 42 g8 [.int .i64 x13.X, .int .i64 x13.Y], boxO 42 g10 [.int .i64 x14.X, .int .i64 x14.Y], boxO 42 g16 [.int .i64 x15.X, .int .i64 x15.Y]]) [0, 1, 2, 3, 4] ?_ ⟨rfl, rfl, rfl, rfl, rfl, rfl, rfl, rfl, trivial⟩ (by decide) rfl
      refine JE.code ?_
      refine JX.seq ?_
      refine JX.region ?_
      refine JL.val (yl_fieldAt (a := some _) Go.Proofs.Try.underlying42 rfl i2 i2n rfl rfl) rfl ?_
      refine JL.val (yl_load1 Go.Proofs.Try.underlying2 rfl rfl (fun w hC => rd_box hC 2 rfl) rfl) rfl ?_
      refine JL.val (yl_fieldAt (a := some _) Go.Proofs.Try.underlying42 rfl i2 i2n rfl rfl) rfl ?_
      refine JL.val (yl_load1 Go.Proofs.Try.underlying2 rfl rfl (fun w hC => rd_box hC 4 rfl) rfl) rfl ?_
      refine JL.val (yl_min rfl rfl) rfl ?_
      refine JL.val (yl_fieldAt (a := some _) Go.Proofs.Try.underlying42 rfl i2 i2n rfl rfl) rfl ?_
      refine JL.val (yl_load1 Go.Proofs.Try.underlying2 rfl rfl (fun w hC => rd_box hC 2 rfl) rfl) rfl ?_
      refine JL.val (yl_fieldAt (a := some _) Go.Proofs.Try.underlying42 rfl i2 i2n rfl rfl) rfl ?_
      refine JL.val (yl_load1 Go.Proofs.Try.underlying2 rfl rfl (fun w hC => rd_box hC 4 rfl) rfl) rfl ?_
      refine JL.val (yl_min rfl rfl) rfl ?_
      refine JL.val (yl_build rfl (fun w => bld42_0_1 (if x15.X < x13.X then x15.X else x13.X) (if x15.Y < x13.Y then x15.Y else x13.Y) w)) rfl ?_
      refine JL.eff (ef_store_box (i := 2) (v := .agg #[.int .i64 (if x15.X < x13.X then x15.X else x13.X), .int .i64 (if x15.Y < x13.Y then x15.Y else x13.Y)]) i42 rfl rfl rfl (i42s).symm (Nat.le_of_ble_eq_true rfl) (by simp [Value.cells, Value.oneCell'])) rfl ?_
      rintro _ _ rfl
      refine JL.nil ?_
      refine JE.weak (env' := [(2, ptrAt (some ⟨g1, 0, none⟩) 0), (3, ptrAt (some ⟨g3, 0, none⟩) 0), (4, ptrAt (some ⟨g8, 0, none⟩) 0), (5, ptrAt (some ⟨g10, 0, none⟩) 0), (7, ptrAt (some ⟨g16, 0, none⟩) 0), (14, .slice a_0 q0.length c_0), (15, .int .i64 (q0.length : Int)), (16, .int .i64 x12)]) (es' := [boxO 42 g1 [.int .i64 0, .int .i64 0], boxO 42 g3 [.int .i64 0, .int .i64 0], boxO 42 g8 [.int .i64 (if x15.X < x13.X then x15.X else x13.X), .int .i64 (if x15.Y < x13.Y then x15.Y else x13.Y)], boxO 42 g10 [.int .i64 x14.X, .int .i64 x14.Y], boxO 42 g16 [.int .i64 x15.X, .int .i64 x15.Y]]) [0, 1, 2, 3, 4] ?_ ⟨rfl, rfl, rfl, rfl, rfl, rfl, rfl, rfl, trivial⟩ (by decide) rfl
      refine JE.code ?_
      refine JX.region ?_
      refine JL.val (yl_fieldAt (a := some _) Go.Proofs.Try.underlying42 rfl i2 i2n rfl rfl) rfl ?_
      refine JL.val (yl_load1 Go.Proofs.Try.underlying2 rfl rfl (fun w hC => rd_box hC 3 rfl) rfl) rfl ?_
      refine JL.val (yl_fieldAt (a := some _) Go.Proofs.Try.underlying42 rfl i2 i2n rfl rfl) rfl ?_
      refine JL.val (yl_load1 Go.Proofs.Try.underlying2 rfl rfl (fun w hC => rd_box hC 4 rfl) rfl) rfl ?_
      refine JL.val (yl_max rfl rfl) rfl ?_
      refine JL.val (yl_fieldAt (a := some _) Go.Proofs.Try.underlying42 rfl i2 i2n rfl rfl) rfl ?_
      refine JL.val (yl_load1 Go.Proofs.Try.underlying2 rfl rfl (fun w hC => rd_box hC 3 rfl) rfl) rfl ?_
      refine JL.val (yl_fieldAt (a := some _) Go.Proofs.Try.underlying42 rfl i2 i2n rfl rfl) rfl ?_
      refine JL.val (yl_load1 Go.Proofs.Try.underlying2 rfl rfl (fun w hC => rd_box hC 4 rfl) rfl) rfl ?_
      refine JL.val (yl_max rfl rfl) rfl ?_
      refine JL.val (yl_build rfl (fun w => bld42_0_1 (if x14.X < x15.X then x15.X else x14.X) (if x14.Y < x15.Y then x15.Y else x14.Y) w)) rfl ?_
      refine JL.eff (ef_store_box (i := 3) (v := .agg #[.int .i64 (if x14.X < x15.X then x15.X else x14.X), .int .i64 (if x14.Y < x15.Y then x15.Y else x14.Y)]) i42 rfl rfl rfl (i42s).symm (Nat.le_of_ble_eq_true rfl) (by simp [Value.cells, Value.oneCell'])) rfl ?_
      rintro _ _ rfl
      refine JL.nil ?_
      refine JE.weak (env' := [(2, ptrAt (some ⟨g1, 0, none⟩) 0), (3, ptrAt (some ⟨g3, 0, none⟩) 0), (4, ptrAt (some ⟨g8, 0, none⟩) 0), (5, ptrAt (some ⟨g10, 0, none⟩) 0), (14, .slice a_0 q0.length c_0), (15, .int .i64 (q0.length : Int)), (16, .int .i64 x12)]) (es' := [boxO 42 g1 [.int .i64 0, .int .i64 0], boxO 42 g3 [.int .i64 0, .int .i64 0], boxO 42 g8 [.int .i64 (if x15.X < x13.X then x15.X else x13.X), .int .i64 (if x15.Y < x13.Y then x15.Y else x13.Y)], boxO 42 g10 [.int .i64 (if x14.X < x15.X then x15.X else x14.X), .int .i64 (if x14.Y < x15.Y then x15.Y else x14.Y)]]) [0, 1, 2, 3] ?_ ⟨rfl, rfl, rfl, rfl, rfl, rfl, rfl, trivial⟩ (by decide) rfl
      refine JE.code ?_
      refine JX.region ?_
      refine JL.val (yl_add rfl rfl) rfl ?_
      refine JL.val (yl_move rfl) rfl ?_
      refine JL.nil ?_
      refine JE.cont hres ?_
      exact fun a w h => h.weak ⟨rfl, rfl, rfl, rfl, rfl, rfl, rfl, trivial⟩ [0, 1, 2, 3] (by decide) rfl
    · refine JX.condF rfl hb ?_
      refine JX.exit ?_
      refine JE.qb rfl ?_
      obtain ⟨b1, hb1⟩ : ∃ b : SPoint × SPoint, b = (x13, x14) := ⟨_, rfl⟩
      have hy1 : b1 = y1 := by rw [hb1]; exact hox1 _ (Option.some.inj hres).symm
      have hres := hresO1
      rw [← hy1] at hres
      refine JE.weak (env' := [(2, ptrAt (some ⟨g1, 0, none⟩) 0), (3, ptrAt (some ⟨g3, 0, none⟩) 0), (4, ptrAt (some ⟨g8, 0, none⟩) 0), (5, ptrAt (some ⟨g10, 0, none⟩) 0)]) (es' := [boxO 42 g1 [.int .i64 0, .int .i64 0], boxO 42 g3 [.int .i64 0, .int .i64 0], boxO 42 g8 [.int .i64 b1.1.X, .int .i64 b1.1.Y], boxO 42 g10 [.int .i64 b1.2.X, .int .i64 b1.2.Y]]) [0, 1, 2, 3] ?_ ⟨(by subst hb1; rfl), (by subst hb1; rfl), (by subst hb1; rfl), (by subst hb1; rfl), trivial⟩ (by decide) (by subst hb1; rfl)
      refine JE.code ?_
      refine JX.seq ?_
      refine JX.drawH [(0, .read), (1, .read), (2, .must), (3, .must)] [2, 3] [0, 1] [2, 3] [boxO 42 g1 [.int .i64 0, .int .i64 0], boxO 42 g3 [.int .i64 0, .int .i64 0]] [boxO 42 g8 [.int .i64 b1.1.X, .int .i64 b1.1.Y], boxO 42 g10 [.int .i64 b1.2.X, .int .i64 b1.2.Y]] mixedP (by kernel_rfl) (by kernel_rfl) (by decide) rfl rfl ?_
      intro wrr18 Nr18 hFr18
      refine JH.read rfl (yl_loadn Go.Proofs.Try.underlying42 rfl i42 rfl (fun w hw => hFr18.box 2 rfl rfl hw) rfl (i42s).symm i42p) rfl ?_
      refine JH.read rfl (yl_loadn Go.Proofs.Try.underlying42 rfl i42 rfl (fun w hw => hFr18.box 3 rfl rfl hw) rfl (i42s).symm i42p) rfl ?_
      refine JH.must rfl (ef_store_box (i := 0) (v := .agg #[.int .i64 b1.1.X, .int .i64 b1.1.Y]) i42 rfl rfl rfl (i42s).symm (Nat.le_of_ble_eq_true rfl) (by simp [Value.cells, Value.oneCell'])) rfl rfl ?_
      rintro _ _ rfl
      refine JH.must rfl (ef_store_box (i := 1) (v := .agg #[.int .i64 b1.2.X, .int .i64 b1.2.Y]) i42 rfl rfl rfl (i42s).symm (Nat.le_of_ble_eq_true rfl) (by simp [Value.cells, Value.oneCell'])) rfl rfl ?_
      rintro _ _ rfl
      refine JH.nil ?_
      refine JE.weak (env' := [(2, ptrAt (some ⟨g1, 0, none⟩) 0), (3, ptrAt (some ⟨g3, 0, none⟩) 0)]) (es' := [boxO 42 g1 [.int .i64 b1.1.X, .int .i64 b1.1.Y], boxO 42 g3 [.int .i64 b1.2.X, .int .i64 b1.2.Y]]) [2, 3] ?_ ⟨rfl, rfl, trivial⟩ (by decide) rfl
      refine JE.code ?_
      refine JX.ret ?_
      obtain rfl := Option.some.inj hres
      refine JE.ret (rs := [.cell 2 42, .cell 3 42]) (vs := [.agg #[.int .i64 b1.1.X, .int .i64 b1.1.Y], .agg #[.int .i64 b1.2.X, .int .i64 b1.2.Y]]) rfl ⟨rv_box 0 rfl rfl Go.Proofs.Try.underlying42 rfl i42 (i42s).symm, rv_box 1 rfl rfl Go.Proofs.Try.underlying42 rfl i42 (i42s).symm, trivial⟩ ?_
      exact fun w' hb hs => ⟨_, _, ⟨rfl, rfl⟩, rfl, hb, hs.sel [] _ (by decide) rfl⟩
  · intro K
    refine JH.two ?_ ?_
    · refine JH.must rfl (ef_alloc i42 i42z rfl) rfl rfl ?_
      rintro _ _ ⟨g8, rfl, rfl⟩
      refine JH.must rfl (ef_alloc i42 i42z rfl) rfl rfl ?_
      rintro _ _ ⟨g10, rfl, rfl⟩
      exact JH.weak [0, 1] (K g8 g10) ⟨rfl, rfl, rfl, rfl, rfl, rfl, rfl, trivial⟩ (by decide) rfl
    · refine JH.must rfl (ef_alloc i42 i42z rfl) rfl rfl ?_
      rintro _ _ ⟨g10, rfl, rfl⟩
      refine JH.must rfl (ef_alloc i42 i42z rfl) rfl rfl ?_
      rintro _ _ ⟨g8, rfl, rfl⟩
      exact JH.weak [1, 0] (K g8 g10) ⟨rfl, rfl, rfl, rfl, rfl, rfl, rfl, trivial⟩ (by decide) rfl

/- impl.strokeKind -/
def sh191 (q0 : List SPoint) (q1 : Int) : Option (Int) := Option.bind (sh112 q0) fun x1 => bif (decide ((w64 (2 * (w64 (x1.2.X - x1.1.X)))) < q1)) && (decide ((w64 (2 * (w64 (x1.2.Y - x1.1.Y)))) < q1)) then (some 0) else (bif decide ((w64 (2 * (w64 (x1.2.X - x1.1.X)))) ≤ (w64 (x1.2.Y - x1.1.Y))) then (some 1) else (bif decide ((w64 (2 * (w64 (x1.2.Y - x1.1.Y)))) ≤ (w64 (x1.2.X - x1.1.X))) then (some 2) else (some 3)))
def T191 (r : Int) (v : Value) (rs : List Own) : Prop := v = rets [.int .i64 r] ∧ rs = []
set_option maxRecDepth 100000 in
theorem c191 {w : World} {q0 : List SPoint} {a_0 : Option Addr} {n_0 c_0 : Nat} (g_0 : Rd w a_0 (eSPoint.fl q0)) (l_0 : q0.length = n_0) (k_0 : n_0 ≤ c_0) {q1 : Int} {r : Int} (hres : sh191 q0 q1 = some r) : Calls Go.Proofs.Try.prog 191 [.slice a_0 n_0 c_0, .int .i64 q1].toArray w (Ret w (T191 r)) := by
  subst l_0
  unfold sh191 at hres
  refine calls_of (n := 45) (M := []) (es := []) Go.Proofs.Try.func191 rfl rfl rfl (Sep.nil _ _ _) ?_
  refine JX.seq ?_
  refine JX.region ?_
  refine JL.val (yl_assign rfl) rfl ?_
  refine JL.nil ?_
  refine JE.code ?_
  refine JX.seq ?_
  refine JX.region ?_
  refine JL.val (yl_move rfl) rfl ?_
  obtain ⟨x1, hx1, hres⟩ := bind_some hres
  refine JL.eff (ef_call (T := T112 x1) Go.Proofs.Try.func112 rfl (by kernel_rfl) rfl (fun w hC => c112 (rd_arg g_0 hC) rfl k_0 hx1)) rfl ?_
  rintro _ _ ⟨_, ⟨rfl, rfl⟩, rfl⟩
  refine JL.val (yl_move rfl) rfl ?_
  refine JL.val (yl_extract rfl rfl) rfl ?_
  refine JL.val (yl_extract rfl rfl) rfl ?_
  refine JL.eff (ef_alloc i42 i42z rfl) rfl ?_
  rintro _ _ ⟨g2, rfl, rfl⟩
  refine JL.eff (ef_alloc i42 i42z rfl) rfl ?_
  rintro _ _ ⟨g4, rfl, rfl⟩
  refine JL.eff (ef_store_box (i := 0) (v := .agg #[.int .i64 x1.1.X, .int .i64 x1.1.Y]) i42 rfl rfl rfl (i42s).symm (Nat.le_of_ble_eq_true rfl) (by simp [Value.cells, Value.oneCell'])) rfl ?_
  rintro _ _ rfl
  refine JL.eff (ef_store_box (i := 1) (v := .agg #[.int .i64 x1.2.X, .int .i64 x1.2.Y]) i42 rfl rfl rfl (i42s).symm (Nat.le_of_ble_eq_true rfl) (by simp [Value.cells, Value.oneCell'])) rfl ?_
  rintro _ _ rfl
  refine JL.nil ?_
  refine JE.weak (env' := [(1, .int .i64 q1), (5, ptrAt (some ⟨g2, 0, none⟩) 0), (6, ptrAt (some ⟨g4, 0, none⟩) 0)]) (es' := [boxO 42 g2 [.int .i64 x1.1.X, .int .i64 x1.1.Y], boxO 42 g4 [.int .i64 x1.2.X, .int .i64 x1.2.Y]]) [0, 1] ?_ ⟨rfl, rfl, rfl, trivial⟩ (by decide) rfl
  refine JE.code ?_
  refine JX.seq ?_
  refine JX.drawH [(0, .pure), (1, .read), (2, .pure), (3, .read), (4, .pure), (5, .pure), (6, .read), (7, .pure), (8, .read), (9, .pure), (10, .pure), (11, .pure)] [] [] [0, 1] [] [boxO 42 g2 [.int .i64 x1.1.X, .int .i64 x1.1.Y], boxO 42 g4 [.int .i64 x1.2.X, .int .i64 x1.2.Y]] mixedP (by kernel_rfl) (by kernel_rfl) (by decide) rfl rfl ?_
  intro wrr6 Nr6 hFr6
  refine JH.pure rfl (yl_fieldAt (a := some _) Go.Proofs.Try.underlying42 rfl i2 i2n rfl rfl) rfl ?_
  refine JH.read rfl (yl_load1 Go.Proofs.Try.underlying2 rfl rfl (fun w hw => hFr6.box 1 rfl rfl hw) rfl) rfl ?_
  refine JH.pure rfl (yl_fieldAt (a := some _) Go.Proofs.Try.underlying42 rfl i2 i2n rfl rfl) rfl ?_
  refine JH.read rfl (yl_load1 Go.Proofs.Try.underlying2 rfl rfl (fun w hw => hFr6.box 0 rfl rfl hw) rfl) rfl ?_
  refine JH.pure rfl (yl_sub rfl rfl) rfl ?_
  refine JH.pure rfl (yl_fieldAt (a := some _) Go.Proofs.Try.underlying42 rfl i2 i2n rfl rfl) rfl ?_
  refine JH.read rfl (yl_load1 Go.Proofs.Try.underlying2 rfl rfl (fun w hw => hFr6.box 1 rfl rfl hw) rfl) rfl ?_
  refine JH.pure rfl (yl_fieldAt (a := some _) Go.Proofs.Try.underlying42 rfl i2 i2n rfl rfl) rfl ?_
  refine JH.read rfl (yl_load1 Go.Proofs.Try.underlying2 rfl rfl (fun w hw => hFr6.box 0 rfl rfl hw) rfl) rfl ?_
  refine JH.pure rfl (yl_sub rfl rfl) rfl ?_
  refine JH.pure rfl (yl_assign rfl) rfl ?_
  refine JH.pure rfl (yl_assign rfl) rfl ?_
  refine JH.nil ?_
  refine JE.weak (env' := [(1, .int .i64 q1), (7, .int .i64 (w64 (x1.2.X - x1.1.X))), (8, .int .i64 (w64 (x1.2.Y - x1.1.Y)))]) (es' := []) [] ?_ ⟨rfl, rfl, rfl, trivial⟩ (by decide) rfl
  refine JE.code ?_
  refine JX.seq ?_
  refine JX.block ?_
  refine JX.seq ?_
  refine JX.region ?_
  refine JL.val (yl_move rfl) rfl ?_
  refine JL.val (yl_mul rfl rfl) rfl ?_
  refine JL.val (yl_move rfl) rfl ?_
  refine JL.val (yl_lss rfl rfl) rfl ?_
  refine JL.val (yl_move rfl) rfl ?_
  refine JL.cut (K := fun J => J [(7, .int .i64 (w64 (x1.2.X - x1.1.X))), (8, .int .i64 (w64 (x1.2.Y - x1.1.Y))), (34, .bool ((decide ((w64 (2 * (w64 (x1.2.X - x1.1.X)))) < q1)) && (decide ((w64 (2 * (w64 (x1.2.Y - x1.1.Y)))) < q1))))] []) 5 ?_ ?_
  · refine JL.val (yl_assign rfl) rfl ?_
    refine JL.nil ?_
    refine JE.weak (env' := [(7, .int .i64 (w64 (x1.2.X - x1.1.X))), (8, .int .i64 (w64 (x1.2.Y - x1.1.Y))), (24, .bool ((decide ((w64 (2 * (w64 (x1.2.X - x1.1.X)))) < q1)) && (decide ((w64 (2 * (w64 (x1.2.Y - x1.1.Y)))) < q1))))]) (es' := []) [] ?_ ⟨rfl, rfl, rfl, trivial⟩ (by decide) rfl
    refine JE.code ?_
    rcases cond_some hres with ⟨hb, hres⟩ | ⟨hb, hres⟩
    · refine JX.condT rfl hb ?_
      refine JX.seq ?_
      refine JX.region ?_
      refine JL.val (yl_assign rfl) rfl ?_
      refine JL.nil ?_
      refine JE.code ?_
      refine JX.ret ?_
      refine JE.qbr ?_
      obtain rfl := Option.some.inj hres
      refine JE.ret (rs := [.tmp 4]) (vs := [.int .i64 0]) rfl ⟨rfl, trivial⟩ ?_
      exact fun w' hb hs => ⟨_, _, ⟨rfl, rfl⟩, rfl, hb, hs.sel [] _ (by decide) rfl⟩
    · refine JX.condF rfl hb ?_
      refine JX.seq ?_
      refine JX.region ?_
      refine JL.val (yl_move rfl) rfl ?_
      refine JL.val (yl_move rfl) rfl ?_
      refine JL.val (yl_mul rfl rfl) rfl ?_
      refine JL.val (yl_geq rfl rfl) rfl ?_
      refine JL.val (yl_assign rfl) rfl ?_
      refine JL.nil ?_
      refine JE.weak (env' := [(7, .int .i64 (w64 (x1.2.X - x1.1.X))), (8, .int .i64 (w64 (x1.2.Y - x1.1.Y))), (35, .bool (decide ((w64 (2 * (w64 (x1.2.X - x1.1.X)))) ≤ (w64 (x1.2.Y - x1.1.Y)))))]) (es' := []) [] ?_ ⟨rfl, rfl, rfl, trivial⟩ (by decide) rfl
      refine JE.code ?_
      rcases cond_some hres with ⟨hb, hres⟩ | ⟨hb, hres⟩
      · refine JX.condT rfl hb ?_
        refine JX.seq ?_
        refine JX.region ?_
        refine JL.val (yl_assign rfl) rfl ?_
        refine JL.nil ?_
        refine JE.code ?_
        refine JX.ret ?_
        refine JE.qbr ?_
        obtain rfl := Option.some.inj hres
        refine JE.ret (rs := [.tmp 4]) (vs := [.int .i64 1]) rfl ⟨rfl, trivial⟩ ?_
        exact fun w' hb hs => ⟨_, _, ⟨rfl, rfl⟩, rfl, hb, hs.sel [] _ (by decide) rfl⟩
      · refine JX.condF rfl hb ?_
        refine JX.seq ?_
        refine JX.region ?_
        refine JL.val (yl_move rfl) rfl ?_
        refine JL.val (yl_move rfl) rfl ?_
        refine JL.val (yl_mul rfl rfl) rfl ?_
        refine JL.val (yl_geq rfl rfl) rfl ?_
        refine JL.val (yl_assign rfl) rfl ?_
        refine JL.nil ?_
        refine JE.weak (env' := [(40, .bool (decide ((w64 (2 * (w64 (x1.2.Y - x1.1.Y)))) ≤ (w64 (x1.2.X - x1.1.X)))))]) (es' := []) [] ?_ ⟨rfl, trivial⟩ (by decide) rfl
        refine JE.code ?_
        rcases cond_some hres with ⟨hb, hres⟩ | ⟨hb, hres⟩
        · refine JX.condT rfl hb ?_
          refine JX.seq ?_
          refine JX.region ?_
          refine JL.val (yl_assign rfl) rfl ?_
          refine JL.nil ?_
          refine JE.code ?_
          refine JX.ret ?_
          refine JE.qbr ?_
          obtain rfl := Option.some.inj hres
          refine JE.ret (rs := [.tmp 4]) (vs := [.int .i64 2]) rfl ⟨rfl, trivial⟩ ?_
          exact fun w' hb hs => ⟨_, _, ⟨rfl, rfl⟩, rfl, hb, hs.sel [] _ (by decide) rfl⟩
        · refine JX.condF rfl hb ?_
          refine JX.skip ?_
          refine JE.code ?_
          refine JX.seq ?_
          refine JX.region ?_
          refine JL.val (yl_assign rfl) rfl ?_
          refine JL.nil ?_
          refine JE.code ?_
          refine JX.ret ?_
          obtain rfl := Option.some.inj hres
          refine JE.ret (rs := [.tmp 4]) (vs := [.int .i64 3]) rfl ⟨rfl, trivial⟩ ?_
          exact fun w' hb hs => ⟨_, _, ⟨rfl, rfl⟩, rfl, hb, hs.sel [] _ (by decide) rfl⟩
  · intro K
    rcases Bool.eq_false_or_eq_true (decide ((w64 (2 * (w64 (x1.2.X - x1.1.X)))) < q1)) with hb | hb
    · refine JL.set (d := 29) (v := .bool true) (congrArg (fun b => some (Value.bool b)) hb) ?_
      refine JL.gval rfl rfl (yl_move rfl) rfl ?_
      refine JL.gval rfl rfl (yl_mul rfl rfl) rfl ?_
      refine JL.gval rfl rfl (yl_move rfl) rfl ?_
      refine JL.gval rfl rfl (yl_lss rfl rfl) rfl ?_
      refine JL.val (yl_pick_true rfl rfl) rfl ?_
      exact JL.weak [] K ⟨rfl, rfl, (by rw [hb]; rfl), trivial⟩ (by decide) rfl
    · refine JL.set (d := 29) (v := .bool false) (congrArg (fun b => some (Value.bool b)) hb) ?_
      refine JL.gskip rfl rfl rfl rfl ?_
      refine JL.gskip rfl rfl rfl rfl ?_
      refine JL.gskip rfl rfl rfl rfl ?_
      refine JL.gskip rfl rfl rfl rfl ?_
      refine JL.val (yl_pick_false rfl rfl) rfl ?_
      exact JL.weak [] K ⟨rfl, rfl, (by rw [hb]; rfl), trivial⟩ (by decide) rfl

/- (impl.Panel).allPoints -/
def sh211_2 (q0 : SPanel) (x7 : Int) : (Int × List SPoint) → Option ((Int × List SPoint) ⊕ (List SPoint))
  | (x13, x14) => bif decide (x13 < (w64 ((w64 (2 * q0.W)) + 1))) then (Option.bind (bif ((w64 (x13 + x7)).tmod 2) == 1 then (Option.bind (appL x14 [SPoint.mk x13 x7]) fun x22 => some x22) else (some x14)) fun j17 => (some (.inl (w64 (x13 + 1), j17)))) else (some (.inr x14))
def sh211_1 (q0 : SPanel) : (Int × List SPoint) → Option ((Int × List SPoint) ⊕ (List SPoint))
  | (x7, x8) => bif decide (x7 < (w64 ((w64 (2 * q0.H)) + 1))) then (Option.bind (iter (sh211_2 q0 x7) (0, x8)) fun b2 => (some (.inl (w64 (x7 + 1), b2)))) else (some (.inr x8))
def sh211 (q0 : SPanel) : Option (List SPoint) := Option.bind (iter (sh211_1 q0) (0, ([] : List SPoint))) fun b1 => (some b1)
def T211 (r : List SPoint) (v : Value) (rs : List Own) : Prop := ∃ (a0 : Option Addr) (n0 c0 : Nat), r.length = n0 ∧ v = rets [.slice a0 n0 c0] ∧ rs = [rowT 42 eSPoint a0 n0 c0 r]
set_option maxRecDepth 100000 in
theorem c211 {w : World} {q0 : SPanel} {a_0_2 : Option Addr} {n_0_2 c_0_2 : Nat} (g_0_2 : Rd w a_0_2 (eI64.fl q0.Breaks)) (l_0_2 : q0.Breaks.length = n_0_2) (k_0_2 : n_0_2 ≤ c_0_2) {r : List SPoint} (hres : sh211 q0 = some r) : Calls Go.Proofs.Try.prog 211 [.agg #[.int .i64 q0.W, .int .i64 q0.H, .slice a_0_2 n_0_2 c_0_2]].toArray w (Ret w (T211 r)) := by
  subst l_0_2
  unfold sh211 at hres
  refine calls_of (n := 35) (M := []) (es := []) Go.Proofs.Try.func211 rfl rfl rfl (Sep.nil _ _ _) ?_
  refine JX.seq ?_
  refine JX.region ?_
  refine JL.eff (ef_box rfl rfl) rfl ?_
  rintro _ _ ⟨g1, rfl, rfl⟩
  refine JL.val (yl_assign rfl) rfl ?_
  refine JL.nil ?_
  refine JE.code ?_
  refine JX.seq ?_
  refine JX.region ?_
  refine JL.eff (ef_buildSlice (E := 42) (k := eSPoint.k) (us := eSPoint.fl ([] : List SPoint)) rfl (fun w => bsl34_0  w) rfl (by decide)) rfl ?_
  rintro _ _ ⟨a3, rfl, rfl⟩
  refine JL.val (yl_assign rfl) rfl ?_
  refine JL.nil ?_
  refine JE.code ?_
  refine JX.seq ?_
  refine JX.seq ?_
  refine JX.region ?_
  refine JL.val (yl_fieldAt (a := some _) Go.Proofs.Try.underlying26 rfl i2 i2n rfl rfl) rfl ?_
  refine JL.val (yl_load1 Go.Proofs.Try.underlying2 rfl rfl (fun w hC => rd_box hC 0 rfl) rfl) rfl ?_
  refine JL.val (yl_mul rfl rfl) rfl ?_
  refine JL.val (yl_add rfl rfl) rfl ?_
  refine JL.val (yl_move rfl) rfl ?_
  refine JL.nil ?_
  refine JE.weak (env' := [(1, ptrAt (some ⟨g1, 0, none⟩) 0), (3, .slice a3 0 0), (10, .int .i64 (w64 ((w64 (2 * q0.H)) + 1))), (11, .int .i64 0)]) (es' := [boxO 26 g1 [.int .i64 q0.W, .int .i64 q0.H, .slice a_0_2 q0.Breaks.length c_0_2], rowT 42 eSPoint a3 0 0 ([] : List SPoint)]) [0, 1] ?_ ⟨rfl, rfl, rfl, rfl, trivial⟩ (by decide) rfl
  refine JE.code ?_
  refine JX.block ?_
  obtain ⟨y1, hy1, hresO1⟩ := bind_some hres
  refine JX.loop (I := fun (s1 : Int × List SPoint) aa ww => ∃ (a5 : Option Addr) (cp6 : Nat), St w [] 35 [(1, ptrAt (some ⟨g1, 0, none⟩) 0), (3, .slice a5 s1.2.length cp6), (10, .int .i64 (w64 ((w64 (2 * q0.H)) + 1))), (11, .int .i64 s1.1)] [boxO 26 g1 [.int .i64 q0.W, .int .i64 q0.H, .slice a_0_2 q0.Breaks.length c_0_2], rowT 42 eSPoint a5 s1.2.length cp6 s1.2] aa ww) (sh211_1 q0) hy1 (fun a w h => ⟨a3, 0, h.weak ⟨rfl, rfl, rfl, rfl, trivial⟩ [0, 1] (by decide) rfl⟩) ?_
  rintro ⟨x7, x8⟩ o1 hres hox1 aa ww ⟨a9, cp10, hS⟩
  refine (?_ : JX Go.Proofs.Try.prog w [] 35 _ _ [(1, ptrAt (some ⟨g1, 0, none⟩) 0), (3, .slice a9 x8.length cp10), (10, .int .i64 (w64 ((w64 (2 * q0.H)) + 1))), (11, .int .i64 x7)] [boxO 26 g1 [.int .i64 q0.W, .int .i64 q0.H, .slice a_0_2 q0.Breaks.length c_0_2], rowT 42 eSPoint a9 x8.length cp10 x8] _) aa ww hS
  clear hS
  simp only [sh211_1] at hres
  refine JX.seq ?_
  refine JX.region ?_
  refine JL.val (yl_lss rfl rfl) rfl ?_
  refine JL.nil ?_
  refine JE.code ?_
  refine JX.seq ?_
  rcases cond_some hres with ⟨hb, hres⟩ | ⟨hb, hres⟩
  · refine JX.condT rfl hb ?_
    refine JX.skip ?_
    refine JE.code ?_
    refine JX.seq ?_
    refine JX.block ?_
    refine JX.seq ?_
    refine JX.region ?_
    refine JL.val (yl_move rfl) rfl ?_
    refine JL.val (yl_assign rfl) rfl ?_
    refine JL.nil ?_
    refine JE.code ?_
    refine JX.seq ?_
    refine JX.region ?_
    refine JL.val (yl_fieldAt (a := some _) Go.Proofs.Try.underlying26 rfl i2 i2n rfl rfl) rfl ?_
    refine JL.val (yl_load1 Go.Proofs.Try.underlying2 rfl rfl (fun w hC => rd_box hC 0 rfl) rfl) rfl ?_
    refine JL.val (yl_mul rfl rfl) rfl ?_
    refine JL.val (yl_add rfl rfl) rfl ?_
    refine JL.val (yl_move rfl) rfl ?_
    refine JL.nil ?_
    refine JE.weak (env' := [(1, ptrAt (some ⟨g1, 0, none⟩) 0), (3, .slice a9 x8.length cp10), (4, .int .i64 x7), (10, .int .i64 (w64 ((w64 (2 * q0.H)) + 1))), (11, .int .i64 x7), (17, .int .i64 (w64 ((w64 (2 * q0.W)) + 1))), (18, .int .i64 0)]) (es' := [boxO 26 g1 [.int .i64 q0.W, .int .i64 q0.H, .slice a_0_2 q0.Breaks.length c_0_2], rowT 42 eSPoint a9 x8.length cp10 x8]) [0, 1] ?_ ⟨rfl, rfl, rfl, rfl, rfl, rfl, rfl, trivial⟩ (by decide) rfl
    refine JE.code ?_
    refine JX.block ?_
    obtain ⟨y2, hy2, hresO2⟩ := bind_some hres
    refine JX.loop (I := fun (s2 : Int × List SPoint) aa ww => ∃ (a11 : Option Addr) (cp12 : Nat), St w [] 35 [(1, ptrAt (some ⟨g1, 0, none⟩) 0), (3, .slice a11 s2.2.length cp12), (4, .int .i64 x7), (10, .int .i64 (w64 ((w64 (2 * q0.H)) + 1))), (11, .int .i64 x7), (17, .int .i64 (w64 ((w64 (2 * q0.W)) + 1))), (18, .int .i64 s2.1)] [boxO 26 g1 [.int .i64 q0.W, .int .i64 q0.H, .slice a_0_2 q0.Breaks.length c_0_2], rowT 42 eSPoint a11 s2.2.length cp12 s2.2] aa ww) (sh211_2 q0 x7) hy2 (fun a w h => ⟨a9, cp10, h.weak ⟨rfl, rfl, rfl, rfl, rfl, rfl, rfl, trivial⟩ [0, 1] (by decide) rfl⟩) ?_
    rintro ⟨x13, x14⟩ o2 hres hox2 aa ww ⟨a15, cp16, hS⟩
    refine (?_ : JX Go.Proofs.Try.prog w [] 35 _ _ [(1, ptrAt (some ⟨g1, 0, none⟩) 0), (3, .slice a15 x14.length cp16), (4, .int .i64 x7), (10, .int .i64 (w64 ((w64 (2 * q0.H)) + 1))), (11, .int .i64 x7), (17, .int .i64 (w64 ((w64 (2 * q0.W)) + 1))), (18, .int .i64 x13)] [boxO 26 g1 [.int .i64 q0.W, .int .i64 q0.H, .slice a_0_2 q0.Breaks.length c_0_2], rowT 42 eSPoint a15 x14.length cp16 x14] _) aa ww hS
    clear hS
    simp only [sh211_2] at hres
    refine JX.seq ?_
    refine JX.region ?_
    refine JL.val (yl_lss rfl rfl) rfl ?_
    refine JL.nil ?_
    refine JE.code ?_
    refine JX.seq ?_
    rcases cond_some hres with ⟨hb, hres⟩ | ⟨hb, hres⟩
    · refine JX.condT rfl hb ?_
      refine JX.skip ?_
      refine JE.code ?_
      refine JX.seq ?_
      refine JX.block ?_
      refine JX.seq ?_
      refine JX.region ?_
      refine JL.val (yl_move rfl) rfl ?_
      refine JL.val (yl_assign rfl) rfl ?_
      refine JL.nil ?_
      refine JE.code ?_
      refine JX.seq ?_
      refine JX.region ?_
      refine JL.val (yl_move rfl) rfl ?_
      refine JL.val (yl_move rfl) rfl ?_
      refine JL.val (yl_add rfl rfl) rfl ?_
      refine JL.val (yl_rem rfl rfl (by decide)) rfl ?_
      refine JL.val (yl_eql rfl rfl) rfl ?_
      refine JL.nil ?_
      refine JE.weak (env' := [(1, ptrAt (some ⟨g1, 0, none⟩) 0), (3, .slice a15 x14.length cp16), (4, .int .i64 x7), (5, .int .i64 x13), (10, .int .i64 (w64 ((w64 (2 * q0.H)) + 1))), (11, .int .i64 x7), (17, .int .i64 (w64 ((w64 (2 * q0.W)) + 1))), (18, .int .i64 x13), (25, .bool (((w64 (x13 + x7)).tmod 2) == 1))]) (es' := [boxO 26 g1 [.int .i64 q0.W, .int .i64 q0.H, .slice a_0_2 q0.Breaks.length c_0_2], rowT 42 eSPoint a15 x14.length cp16 x14]) [0, 1] ?_ ⟨rfl, rfl, rfl, rfl, rfl, rfl, rfl, rfl, rfl, trivial⟩ (by decide) rfl
      refine JE.code ?_
      obtain ⟨j17, hj17, hresj17⟩ := bind_some hres
      refine JX.cut (K := fun J => ∀ (a18 : Option Addr) (cp19 : Nat), J [(1, ptrAt (some ⟨g1, 0, none⟩) 0), (3, .slice a18 j17.length cp19), (4, .int .i64 x7), (10, .int .i64 (w64 ((w64 (2 * q0.H)) + 1))), (11, .int .i64 x7), (17, .int .i64 (w64 ((w64 (2 * q0.W)) + 1))), (18, .int .i64 x13)] [boxO 26 g1 [.int .i64 q0.W, .int .i64 q0.H, .slice a_0_2 q0.Breaks.length c_0_2], rowT 42 eSPoint a18 j17.length cp19 j17]) ?_ ?_
      · intro a18 cp19
        have hres := hresj17
        refine JE.code ?_
        refine JX.region ?_
        refine JL.val (yl_add rfl rfl) rfl ?_
        refine JL.val (yl_move rfl) rfl ?_
        refine JL.nil ?_
        refine JE.cont hres ?_
        exact fun a w h => ⟨a18, cp19, h.weak ⟨rfl, rfl, rfl, rfl, rfl, rfl, rfl, trivial⟩ [0, 1] (by decide) rfl⟩
      · intro K
        rcases cond_some hj17 with ⟨hb, hres⟩ | ⟨hb, hres⟩
        · refine JX.condT rfl hb ?_
          refine JX.region ?_
          refine JL.val (yl_move rfl) rfl ?_
          refine JL.val (yl_move rfl) rfl ?_
          refine JL.val (yl_move rfl) rfl ?_
          refine JL.val (yl_build rfl (fun w => bld42_0_1 x13 x7 w)) rfl ?_
          refine JL.eff (ef_buildSlice (E := 42) (k := eSPoint.k) (us := eSPoint.fl [SPoint.mk x13 x7]) rfl (fun w => bsl34_1 x13 x7 w) rfl (by decide)) rfl ?_
          rintro _ _ ⟨a20, rfl, rfl⟩
          obtain ⟨x22, hx22, hres⟩ := bind_some hres
          refine JL.eff (ef_appendT (ix := 1) Go.Proofs.Try.underlying34 i42 i42z i42s rfl i42b0 i42b1 rfl rfl rfl rfl rfl (fun w hC => rd_row hC 2 rfl) hx22) rfl ?_
          rintro _ _ ⟨a23, cp24, rfl, rfl⟩
          refine JL.val (yl_assign rfl) rfl ?_
          refine JL.nil ?_
          refine JE.weak (env' := [(1, ptrAt (some ⟨g1, 0, none⟩) 0), (3, .slice a23 x22.length cp24), (4, .int .i64 x7), (10, .int .i64 (w64 ((w64 (2 * q0.H)) + 1))), (11, .int .i64 x7), (17, .int .i64 (w64 ((w64 (2 * q0.W)) + 1))), (18, .int .i64 x13)]) (es' := [boxO 26 g1 [.int .i64 q0.W, .int .i64 q0.H, .slice a_0_2 q0.Breaks.length c_0_2], rowT 42 eSPoint a23 x22.length cp24 x22]) [0, 1] ?_ ⟨rfl, rfl, rfl, rfl, rfl, rfl, rfl, trivial⟩ (by decide) rfl
          have hj := Option.some.inj hres
          exact JE.weak [0, 1] (K a23 cp24) ⟨(by subst hj; rfl), (by subst hj; rfl), (by subst hj; rfl), (by subst hj; rfl), (by subst hj; rfl), (by subst hj; rfl), (by subst hj; rfl), trivial⟩ (by decide) (by subst hj; rfl)
        · refine JX.condF rfl hb ?_
          refine JX.skip ?_
          have hj := Option.some.inj hres
          exact JE.weak [0, 1] (K a15 cp16) ⟨(by subst hj; rfl), (by subst hj; rfl), (by subst hj; rfl), (by subst hj; rfl), (by subst hj; rfl), (by subst hj; rfl), (by subst hj; rfl), trivial⟩ (by decide) (by subst hj; rfl)
    · refine JX.condF rfl hb ?_
      refine JX.exit ?_
      refine JE.qb rfl ?_
      obtain ⟨b2, hb2⟩ : ∃ b : List SPoint, b = x14 := ⟨_, rfl⟩
      have hy2 : b2 = y2 := by rw [hb2]; exact hox2 _ (Option.some.inj hres).symm
      have hres := hresO2
      rw [← hy2] at hres
      refine JE.weak (env' := [(1, ptrAt (some ⟨g1, 0, none⟩) 0), (3, .slice a15 b2.length cp16), (10, .int .i64 (w64 ((w64 (2 * q0.H)) + 1))), (11, .int .i64 x7)]) (es' := [boxO 26 g1 [.int .i64 q0.W, .int .i64 q0.H, .slice a_0_2 q0.Breaks.length c_0_2], rowT 42 eSPoint a15 b2.length cp16 b2]) [0, 1] ?_ ⟨(by subst hb2; rfl), (by subst hb2; rfl), (by subst hb2; rfl), (by subst hb2; rfl), trivial⟩ (by decide) (by subst hb2; rfl)
      refine JE.code ?_
      refine JX.region ?_
      refine JL.val (yl_add rfl rfl) rfl ?_
      refine JL.val (yl_move rfl) rfl ?_
      refine JL.nil ?_
      refine JE.cont hres ?_
      exact fun a w h => ⟨a15, cp16, h.weak ⟨rfl, rfl, rfl, rfl, trivial⟩ [0, 1] (by decide) rfl⟩
  · refine JX.condF rfl hb ?_
    refine JX.exit ?_
    refine JE.qb rfl ?_
    obtain ⟨b1, hb1⟩ : ∃ b : List SPoint, b = x8 := ⟨_, rfl⟩
    have hy1 : b1 = y1 := by rw [hb1]; exact hox1 _ (Option.some.inj hres).symm
    have hres := hresO1
    rw [← hy1] at hres
    refine JE.weak (env' := [(3, .slice a9 b1.length cp10)]) (es' := [rowT 42 eSPoint a9 b1.length cp10 b1]) [1] ?_ ⟨(by subst hb1; rfl), trivial⟩ (by decide) (by subst hb1; rfl)
    refine JE.code ?_
    refine JX.seq ?_
    refine JX.region ?_
    refine JL.val (yl_move rfl) rfl ?_
    refine JL.val (yl_assign rfl) rfl ?_
    refine JL.nil ?_
    refine JE.code ?_
    refine JX.ret ?_
    obtain rfl := Option.some.inj hres
    refine JE.ret (rs := [.tmp 2]) (vs := [.slice a9 b1.length cp10]) rfl ⟨rfl, trivial⟩ ?_
    exact fun w' hb hs => ⟨_, _, ⟨a9, b1.length, cp10, rfl, rfl, rfl⟩, rfl, hb, hs.sel [0] _ (by decide) rfl⟩

/- (impl.Panel).nearest -/
def sh192_1 (q1 : SPoint) (q2 : Int) (x9 : List SPoint) : (Int × Int × SPoint) → Option ((Int × Int × SPoint) ⊕ (Int × SPoint))
  | (x13, x14, x15) => bif decide (x14 < (x9.length : Int)) then (Option.bind (getI x9 x14) fun x16 => Option.bind (bif (decide (x13 < 0)) || (decide ((w64 ((w64 ((w64 ((w64 (x16.X * q2)) - q1.X)) * (w64 ((w64 (x16.X * q2)) - q1.X)))) + (w64 ((w64 ((w64 (x16.Y * q2)) - q1.Y)) * (w64 ((w64 (x16.Y * q2)) - q1.Y)))))) < x13)) then (some (w64 ((w64 ((w64 ((w64 (x16.X * q2)) - q1.X)) * (w64 ((w64 (x16.X * q2)) - q1.X)))) + (w64 ((w64 ((w64 (x16.Y * q2)) - q1.Y)) * (w64 ((w64 (x16.Y * q2)) - q1.Y))))), x16)) else (some (x13, x15))) fun j20 => (some (.inl (j20.1, w64 (x14 + 1), j20.2)))) else (some (.inr (x13, x15)))
def sh192 (q0 : SPanel) (q1 : SPoint) (q2 : Int) : Option (SPoint × Bool) := Option.bind (sh211 q0) fun x9 => Option.bind (iter (sh192_1 q1 q2 x9) ((-1), 0, SPoint.mk 0 0)) fun b1 => (some (b1.2, decide (b1.1 ≤ (w64 (q2 * q2)))))
def T192 (r : SPoint × Bool) (v : Value) (rs : List Own) : Prop := v = rets [.agg #[.int .i64 r.1.X, .int .i64 r.1.Y], .bool r.2] ∧ rs = []
set_option maxRecDepth 100000 in
theorem c192 {w : World} {q0 : SPanel} {a_0_2 : Option Addr} {n_0_2 c_0_2 : Nat} (g_0_2 : Rd w a_0_2 (eI64.fl q0.Breaks)) (l_0_2 : q0.Breaks.length = n_0_2) (k_0_2 : n_0_2 ≤ c_0_2) {q1 : SPoint} {q2 : Int} {r : SPoint × Bool} (hres : sh192 q0 q1 q2 = some r) : Calls Go.Proofs.Try.prog 192 [.agg #[.int .i64 q0.W, .int .i64 q0.H, .slice a_0_2 n_0_2 c_0_2], .agg #[.int .i64 q1.X, .int .i64 q1.Y], .int .i64 q2].toArray w (Ret w (T192 r)) := by
  subst l_0_2
  unfold sh192 at hres
  refine calls_of (n := 60) (M := []) (es := []) Go.Proofs.Try.func192 rfl rfl rfl (Sep.nil _ _ _) ?_
  refine JX.seq ?_
  refine JX.region ?_
  refine JL.eff (ef_box rfl rfl) rfl ?_
  rintro _ _ ⟨g1, rfl, rfl⟩
  refine JL.eff (ef_box rfl rfl) rfl ?_
  rintro _ _ ⟨g3, rfl, rfl⟩
  refine JL.eff (ef_alloc i42 i42z rfl) rfl ?_
  rintro _ _ ⟨g5, rfl, rfl⟩
  refine JL.val (yl_assign rfl) rfl ?_
  refine JL.nil ?_
  refine JE.weak (env' := [(2, .int .i64 q2), (3, ptrAt (some ⟨g1, 0, none⟩) 0), (4, ptrAt (some ⟨g3, 0, none⟩) 0), (6, ptrAt (some ⟨g5, 0, none⟩) 0)]) (es' := [boxO 26 g1 [.int .i64 q0.W, .int .i64 q0.H, .slice a_0_2 q0.Breaks.length c_0_2], boxO 42 g3 [.int .i64 q1.X, .int .i64 q1.Y], boxO 42 g5 [.int .i64 0, .int .i64 0]]) [0, 1, 2] ?_ ⟨rfl, rfl, rfl, rfl, trivial⟩ (by decide) rfl
  refine JE.code ?_
  refine JX.seq ?_
  refine JX.region ?_
  refine JL.val (yl_build rfl (fun w => bld42_  w)) rfl ?_
  refine JL.eff (ef_alloc i42 i42z rfl) rfl ?_
  rintro _ _ ⟨g7, rfl, rfl⟩
  refine JL.eff (ef_store_box (i := 3) (v := .agg #[.int .i64 0, .int .i64 0]) i42 rfl rfl rfl (i42s).symm (Nat.le_of_ble_eq_true rfl) (by simp [Value.cells, Value.oneCell'])) rfl ?_
  rintro _ _ rfl
  refine JL.val (yl_assign rfl) rfl ?_
  refine JL.nil ?_
  refine JE.weak (env' := [(2, .int .i64 q2), (3, ptrAt (some ⟨g1, 0, none⟩) 0), (4, ptrAt (some ⟨g3, 0, none⟩) 0), (6, ptrAt (some ⟨g5, 0, none⟩) 0), (8, ptrAt (some ⟨g7, 0, none⟩) 0), (9, .int .i64 (-1))]) (es' := [boxO 26 g1 [.int .i64 q0.W, .int .i64 q0.H, .slice a_0_2 q0.Breaks.length c_0_2], boxO 42 g3 [.int .i64 q1.X, .int .i64 q1.Y], boxO 42 g5 [.int .i64 0, .int .i64 0], boxO 42 g7 [.int .i64 0, .int .i64 0]]) [0, 1, 2, 3] ?_ ⟨rfl, rfl, rfl, rfl, rfl, rfl, trivial⟩ (by decide) rfl
  refine JE.code ?_
  refine JX.seq ?_
  refine JX.seq ?_
  refine JX.region ?_
  refine JL.val (yl_loadn Go.Proofs.Try.underlying26 rfl i26 rfl (fun w hC => rd_box hC 0 rfl) rfl (i26s).symm i26p) rfl ?_
  obtain ⟨x9, hx9, hres⟩ := bind_some hres
  refine JL.eff (ef_call (vs := [.agg #[.int .i64 q0.W, .int .i64 q0.H, .slice a_0_2 q0.Breaks.length c_0_2]]) (T := T211 x9) Go.Proofs.Try.func211 rfl (by kernel_rfl) rfl (fun w hC => c211 (q0 := q0) (rd_arg g_0_2 hC) rfl k_0_2 hx9)) rfl ?_
  rintro _ _ ⟨_, ⟨a10, _, cp11, rfl, rfl, rfl⟩, rfl⟩
  refine JL.val (yl_len_slice Go.Proofs.Try.underlying34 rfl) rfl ?_
  refine JL.val (yl_move rfl) rfl ?_
  refine JL.nil ?_
  refine JE.weak (env' := [(2, .int .i64 q2), (4, ptrAt (some ⟨g3, 0, none⟩) 0), (6, ptrAt (some ⟨g5, 0, none⟩) 0), (8, ptrAt (some ⟨g7, 0, none⟩) 0), (9, .int .i64 (-1)), (17, .slice a10 x9.length cp11), (18, .int .i64 (x9.length : Int)), (19, .int .i64 0)]) (es' := [boxO 42 g3 [.int .i64 q1.X, .int .i64 q1.Y], boxO 42 g5 [.int .i64 0, .int .i64 0], boxO 42 g7 [.int .i64 0, .int .i64 0], rowT 42 eSPoint a10 x9.length cp11 x9]) [1, 2, 3, 4] ?_ ⟨rfl, rfl, rfl, rfl, rfl, rfl, rfl, rfl, trivial⟩ (by decide) rfl
  refine JE.code ?_
  refine JX.block ?_
  obtain ⟨y1, hy1, hresO1⟩ := bind_some hres
  refine JX.loop (I := fun (s1 : Int × Int × SPoint) aa ww => St w [] 60 [(2, .int .i64 q2), (4, ptrAt (some ⟨g3, 0, none⟩) 0), (6, ptrAt (some ⟨g5, 0, none⟩) 0), (8, ptrAt (some ⟨g7, 0, none⟩) 0), (9, .int .i64 s1.1), (17, .slice a10 x9.length cp11), (18, .int .i64 (x9.length : Int)), (19, .int .i64 s1.2.1)] [boxO 42 g3 [.int .i64 q1.X, .int .i64 q1.Y], boxO 42 g5 [.int .i64 0, .int .i64 0], boxO 42 g7 [.int .i64 s1.2.2.X, .int .i64 s1.2.2.Y], rowT 42 eSPoint a10 x9.length cp11 x9] aa ww) (sh192_1 q1 q2 x9) hy1 (fun a w h => h.weak ⟨rfl, rfl, rfl, rfl, rfl, rfl, rfl, rfl, trivial⟩ [0, 1, 2, 3] (by decide) rfl) ?_
  rintro ⟨x13, x14, x15⟩ o1 hres hox1 aa ww hS
  refine (?_ : JX Go.Proofs.Try.prog w [] 60 _ _ [(2, .int .i64 q2), (4, ptrAt (some ⟨g3, 0, none⟩) 0), (6, ptrAt (some ⟨g5, 0, none⟩) 0), (8, ptrAt (some ⟨g7, 0, none⟩) 0), (9, .int .i64 x13), (17, .slice a10 x9.length cp11), (18, .int .i64 (x9.length : Int)), (19, .int .i64 x14)] [boxO 42 g3 [.int .i64 q1.X, .int .i64 q1.Y], boxO 42 g5 [.int .i64 0, .int .i64 0], boxO 42 g7 [.int .i64 x15.X, .int .i64 x15.Y], rowT 42 eSPoint a10 x9.length cp11 x9] _) aa ww hS
  clear hS
  simp only [sh192_1] at hres
  refine JX.seq ?_
  refine JX.region ?_
  refine JL.val (yl_lss rfl rfl) rfl ?_
  refine JL.nil ?_
  refine JE.code ?_
  refine JX.seq ?_
  rcases cond_some hres with ⟨hb, hres⟩ | ⟨hb, hres⟩
  · refine JX.condT rfl hb ?_
    refine JX.skip ?_
    refine JE.code ?_
    refine JX.seq ?_
    refine JX.block ?_
    refine JX.seq ?_
    refine JX.region ?_
    obtain ⟨x16, hx16, hres⟩ := bind_some hres
    refine JL.val (yl_idxT Go.Proofs.Try.underlying34 i42 i42s rfl rfl hx16 rfl (fun w hC => rd_row hC 3 rfl)) rfl ?_
    refine JL.val (yl_loadTn Go.Proofs.Try.underlying42 rfl i42 i42s rfl hx16 (fun w hC => rd_row hC 3 rfl)) rfl ?_
    refine JL.eff (ef_alloc i42 i42z rfl) rfl ?_
    rintro _ _ ⟨g17, rfl, rfl⟩
    refine JL.eff (ef_store_box (i := 4) (v := .agg #[.int .i64 x16.X, .int .i64 x16.Y]) i42 rfl rfl rfl (i42s).symm (Nat.le_of_ble_eq_true rfl) (by simp [Value.cells, Value.oneCell'])) rfl ?_
    rintro _ _ rfl
    refine JL.nil ?_
    refine JE.weak (env' := [(2, .int .i64 q2), (4, ptrAt (some ⟨g3, 0, none⟩) 0), (6, ptrAt (some ⟨g5, 0, none⟩) 0), (8, ptrAt (some ⟨g7, 0, none⟩) 0), (9, .int .i64 x13), (11, ptrAt (some ⟨g17, 0, none⟩) 0), (17, .slice a10 x9.length cp11), (18, .int .i64 (x9.length : Int)), (19, .int .i64 x14)]) (es' := [boxO 42 g3 [.int .i64 q1.X, .int .i64 q1.Y], boxO 42 g5 [.int .i64 0, .int .i64 0], boxO 42 g7 [.int .i64 x15.X, .int .i64 x15.Y], boxO 42 g17 [.int .i64 x16.X, .int .i64 x16.Y], rowT 42 eSPoint a10 x9.length cp11 x9]) [0, 1, 2, 4, 3] ?_ ⟨rfl, rfl, rfl, rfl, rfl, rfl, rfl, rfl, rfl, trivial⟩ (by decide) rfl
    refine JE.code ?_
    refine JX.seq ?_
    refine JX.drawH [(0, .pure), (1, .read), (2, .pure), (3, .pure), (4, .pure), (5, .read), (6, .pure), (7, .pure), (8, .read), (9, .pure), (10, .pure), (11, .pure), (12, .read), (13, .pure), (14, .pure), (15, .pure)] [] [] [0, 1, 2, 3, 4] [] [boxO 42 g3 [.int .i64 q1.X, .int .i64 q1.Y], boxO 42 g5 [.int .i64 0, .int .i64 0], boxO 42 g7 [.int .i64 x15.X, .int .i64 x15.Y], boxO 42 g17 [.int .i64 x16.X, .int .i64 x16.Y], rowT 42 eSPoint a10 x9.length cp11 x9] mixedP (by kernel_rfl) (by kernel_rfl) (by decide) rfl rfl ?_
    intro wrr19 Nr19 hFr19
    refine JH.pure rfl (yl_fieldAt (a := some _) Go.Proofs.Try.underlying42 rfl i2 i2n rfl rfl) rfl ?_
    refine JH.read rfl (yl_load1 Go.Proofs.Try.underlying2 rfl rfl (fun w hw => hFr19.box 3 rfl rfl hw) rfl) rfl ?_
    refine JH.pure rfl (yl_move rfl) rfl ?_
    refine JH.pure rfl (yl_mul rfl rfl) rfl ?_
    refine JH.pure rfl (yl_fieldAt (a := some _) Go.Proofs.Try.underlying42 rfl i2 i2n rfl rfl) rfl ?_
    refine JH.read rfl (yl_load1 Go.Proofs.Try.underlying2 rfl rfl (fun w hw => hFr19.box 0 rfl rfl hw) rfl) rfl ?_
    refine JH.pure rfl (yl_sub rfl rfl) rfl ?_
    refine JH.pure rfl (yl_fieldAt (a := some _) Go.Proofs.Try.underlying42 rfl i2 i2n rfl rfl) rfl ?_
    refine JH.read rfl (yl_load1 Go.Proofs.Try.underlying2 rfl rfl (fun w hw => hFr19.box 3 rfl rfl hw) rfl) rfl ?_
    refine JH.pure rfl (yl_move rfl) rfl ?_
    refine JH.pure rfl (yl_mul rfl rfl) rfl ?_
    refine JH.pure rfl (yl_fieldAt (a := some _) Go.Proofs.Try.underlying42 rfl i2 i2n rfl rfl) rfl ?_
    refine JH.read rfl (yl_load1 Go.Proofs.Try.underlying2 rfl rfl (fun w hw => hFr19.box 0 rfl rfl hw) rfl) rfl ?_
    refine JH.pure rfl (yl_sub rfl rfl) rfl ?_
    refine JH.pure rfl (yl_assign rfl) rfl ?_
    refine JH.pure rfl (yl_assign rfl) rfl ?_
    refine JH.nil ?_
    refine JE.weak (env' := [(2, .int .i64 q2), (4, ptrAt (some ⟨g3, 0, none⟩) 0), (6, ptrAt (some ⟨g5, 0, none⟩) 0), (8, ptrAt (some ⟨g7, 0, none⟩) 0), (9, .int .i64 x13), (11, ptrAt (some ⟨g17, 0, none⟩) 0), (12, .int .i64 (w64 ((w64 (x16.X * q2)) - q1.X))), (13, .int .i64 (w64 ((w64 (x16.Y * q2)) - q1.Y))), (17, .slice a10 x9.length cp11), (18, .int .i64 (x9.length : Int)), (19, .int .i64 x14)]) (es' := [boxO 42 g3 [.int .i64 q1.X, .int .i64 q1.Y], boxO 42 g5 [.int .i64 0, .int .i64 0], boxO 42 g7 [.int .i64 x15.X, .int .i64 x15.Y], boxO 42 g17 [.int .i64 x16.X, .int .i64 x16.Y], rowT 42 eSPoint a10 x9.length cp11 x9]) [0, 1, 2, 3, 4] ?_ ⟨rfl, rfl, rfl, rfl, rfl, rfl, rfl, rfl, rfl, rfl, rfl, trivial⟩ (by decide) rfl
    refine JE.code ?_
    refine JX.seq ?_
    refine JX.region ?_
    refine JL.val (yl_move rfl) rfl ?_
    refine JL.val (yl_move rfl) rfl ?_
    refine JL.val (yl_mul rfl rfl) rfl ?_
    refine JL.val (yl_move rfl) rfl ?_
    refine JL.val (yl_move rfl) rfl ?_
    refine JL.val (yl_mul rfl rfl) rfl ?_
    refine JL.val (yl_add rfl rfl) rfl ?_
    refine JL.val (yl_assign rfl) rfl ?_
    refine JL.nil ?_
    refine JE.weak (env' := [(2, .int .i64 q2), (4, ptrAt (some ⟨g3, 0, none⟩) 0), (6, ptrAt (some ⟨g5, 0, none⟩) 0), (8, ptrAt (some ⟨g7, 0, none⟩) 0), (9, .int .i64 x13), (11, ptrAt (some ⟨g17, 0, none⟩) 0), (14, .int .i64 (w64 ((w64 ((w64 ((w64 (x16.X * q2)) - q1.X)) * (w64 ((w64 (x16.X * q2)) - q1.X)))) + (w64 ((w64 ((w64 (x16.Y * q2)) - q1.Y)) * (w64 ((w64 (x16.Y * q2)) - q1.Y))))))), (17, .slice a10 x9.length cp11), (18, .int .i64 (x9.length : Int)), (19, .int .i64 x14)]) (es' := [boxO 42 g3 [.int .i64 q1.X, .int .i64 q1.Y], boxO 42 g5 [.int .i64 0, .int .i64 0], boxO 42 g7 [.int .i64 x15.X, .int .i64 x15.Y], boxO 42 g17 [.int .i64 x16.X, .int .i64 x16.Y], rowT 42 eSPoint a10 x9.length cp11 x9]) [0, 1, 2, 3, 4] ?_ ⟨rfl, rfl, rfl, rfl, rfl, rfl, rfl, rfl, rfl, rfl, trivial⟩ (by decide) rfl
    refine JE.code ?_
    refine JX.seq ?_
    refine JX.region ?_
    refine JL.val (yl_move rfl) rfl ?_
    refine JL.val (yl_lss rfl rfl) rfl ?_
    refine JL.val (yl_move rfl) rfl ?_
    refine JL.cut (K := fun J => J [(2, .int .i64 q2), (4, ptrAt (some ⟨g3, 0, none⟩) 0), (6, ptrAt (some ⟨g5, 0, none⟩) 0), (8, ptrAt (some ⟨g7, 0, none⟩) 0), (9, .int .i64 x13), (11, ptrAt (some ⟨g17, 0, none⟩) 0), (14, .int .i64 (w64 ((w64 ((w64 ((w64 (x16.X * q2)) - q1.X)) * (w64 ((w64 (x16.X * q2)) - q1.X)))) + (w64 ((w64 ((w64 (x16.Y * q2)) - q1.Y)) * (w64 ((w64 (x16.Y * q2)) - q1.Y))))))), (17, .slice a10 x9.length cp11), (18, .int .i64 (x9.length : Int)), (19, .int .i64 x14), (50, .bool ((decide (x13 < 0)) || (decide ((w64 ((w64 ((w64 ((w64 (x16.X * q2)) - q1.X)) * (w64 ((w64 (x16.X * q2)) - q1.X)))) + (w64 ((w64 ((w64 (x16.Y * q2)) - q1.Y)) * (w64 ((w64 (x16.Y * q2)) - q1.Y)))))) < x13))))] [boxO 42 g3 [.int .i64 q1.X, .int .i64 q1.Y], boxO 42 g5 [.int .i64 0, .int .i64 0], boxO 42 g7 [.int .i64 x15.X, .int .i64 x15.Y], boxO 42 g17 [.int .i64 x16.X, .int .i64 x16.Y], rowT 42 eSPoint a10 x9.length cp11 x9]) 4 ?_ ?_
    · refine JL.nil ?_
      refine JE.weak (env' := [(2, .int .i64 q2), (4, ptrAt (some ⟨g3, 0, none⟩) 0), (6, ptrAt (some ⟨g5, 0, none⟩) 0), (8, ptrAt (some ⟨g7, 0, none⟩) 0), (9, .int .i64 x13), (11, ptrAt (some ⟨g17, 0, none⟩) 0), (14, .int .i64 (w64 ((w64 ((w64 ((w64 (x16.X * q2)) - q1.X)) * (w64 ((w64 (x16.X * q2)) - q1.X)))) + (w64 ((w64 ((w64 (x16.Y * q2)) - q1.Y)) * (w64 ((w64 (x16.Y * q2)) - q1.Y))))))), (17, .slice a10 x9.length cp11), (18, .int .i64 (x9.length : Int)), (19, .int .i64 x14), (50, .bool ((decide (x13 < 0)) || (decide ((w64 ((w64 ((w64 ((w64 (x16.X * q2)) - q1.X)) * (w64 ((w64 (x16.X * q2)) - q1.X)))) + (w64 ((w64 ((w64 (x16.Y * q2)) - q1.Y)) * (w64 ((w64 (x16.Y * q2)) - q1.Y)))))) < x13))))]) (es' := [boxO 42 g3 [.int .i64 q1.X, .int .i64 q1.Y], boxO 42 g5 [.int .i64 0, .int .i64 0], boxO 42 g7 [.int .i64 x15.X, .int .i64 x15.Y], boxO 42 g17 [.int .i64 x16.X, .int .i64 x16.Y], rowT 42 eSPoint a10 x9.length cp11 x9]) [0, 1, 2, 3, 4] ?_ ⟨rfl, rfl, rfl, rfl, rfl, rfl, rfl, rfl, rfl, rfl, rfl, trivial⟩ (by decide) rfl
      refine JE.code ?_
      obtain ⟨j20, hj20, hresj20⟩ := bind_some hres
      refine JX.cut (K := fun J => J [(2, .int .i64 q2), (4, ptrAt (some ⟨g3, 0, none⟩) 0), (6, ptrAt (some ⟨g5, 0, none⟩) 0), (8, ptrAt (some ⟨g7, 0, none⟩) 0), (9, .int .i64 j20.1), (17, .slice a10 x9.length cp11), (18, .int .i64 (x9.length : Int)), (19, .int .i64 x14)] [boxO 42 g3 [.int .i64 q1.X, .int .i64 q1.Y], boxO 42 g5 [.int .i64 0, .int .i64 0], boxO 42 g7 [.int .i64 j20.2.X, .int .i64 j20.2.Y], rowT 42 eSPoint a10 x9.length cp11 x9]) ?_ ?_
      · have hres := hresj20
        refine JE.code ?_
        refine JX.region ?_
        refine JL.val (yl_add rfl rfl) rfl ?_
        refine JL.val (yl_move rfl) rfl ?_
        refine JL.nil ?_
        refine JE.cont hres ?_
        exact fun a w h => h.weak ⟨rfl, rfl, rfl, rfl, rfl, rfl, rfl, rfl, trivial⟩ [0, 1, 2, 3] (by decide) rfl
      · intro K
        rcases cond_some hj20 with ⟨hb, hres⟩ | ⟨hb, hres⟩
        · refine JX.condT rfl hb ?_
          refine JX.region ?_
          refine JL.val (yl_loadn Go.Proofs.Try.underlying42 rfl i42 rfl (fun w hC => rd_box hC 3 rfl) rfl (i42s).symm i42p) rfl ?_
          refine JL.val (yl_move rfl) rfl ?_
          refine JL.eff (ef_store_box (i := 2) (v := .agg #[.int .i64 x16.X, .int .i64 x16.Y]) i42 rfl rfl rfl (i42s).symm (Nat.le_of_ble_eq_true rfl) (by simp [Value.cells, Value.oneCell'])) rfl ?_
          rintro _ _ rfl
          refine JL.val (yl_assign rfl) rfl ?_
          refine JL.nil ?_
          refine JE.weak (env' := [(2, .int .i64 q2), (4, ptrAt (some ⟨g3, 0, none⟩) 0), (6, ptrAt (some ⟨g5, 0, none⟩) 0), (8, ptrAt (some ⟨g7, 0, none⟩) 0), (9, .int .i64 (w64 ((w64 ((w64 ((w64 (x16.X * q2)) - q1.X)) * (w64 ((w64 (x16.X * q2)) - q1.X)))) + (w64 ((w64 ((w64 (x16.Y * q2)) - q1.Y)) * (w64 ((w64 (x16.Y * q2)) - q1.Y))))))), (17, .slice a10 x9.length cp11), (18, .int .i64 (x9.length : Int)), (19, .int .i64 x14)]) (es' := [boxO 42 g3 [.int .i64 q1.X, .int .i64 q1.Y], boxO 42 g5 [.int .i64 0, .int .i64 0], boxO 42 g7 [.int .i64 x16.X, .int .i64 x16.Y], rowT 42 eSPoint a10 x9.length cp11 x9]) [0, 1, 2, 4] ?_ ⟨rfl, rfl, rfl, rfl, rfl, rfl, rfl, rfl, trivial⟩ (by decide) rfl
          have hj := Option.some.inj hres
          exact JE.weak [0, 1, 2, 3] (K) ⟨(by subst hj; rfl), (by subst hj; rfl), (by subst hj; rfl), (by subst hj; rfl), (by subst hj; rfl), (by subst hj; rfl), (by subst hj; rfl), (by subst hj; rfl), trivial⟩ (by decide) (by subst hj; rfl)
        · refine JX.condF rfl hb ?_
          refine JX.skip ?_
          have hj := Option.some.inj hres
          exact JE.weak [0, 1, 2, 4] (K) ⟨(by subst hj; rfl), (by subst hj; rfl), (by subst hj; rfl), (by subst hj; rfl), (by subst hj; rfl), (by subst hj; rfl), (by subst hj; rfl), (by subst hj; rfl), trivial⟩ (by decide) (by subst hj; rfl)
    · intro K
      rcases Bool.eq_false_or_eq_true (decide (x13 < 0)) with hb | hb
      · refine JL.set (d := 46) (v := .bool true) (congrArg (fun b => some (Value.bool b)) hb) ?_
        refine JL.gskip rfl rfl rfl rfl ?_
        refine JL.gskip rfl rfl rfl rfl ?_
        refine JL.gskip rfl rfl rfl rfl ?_
        refine JL.val (yl_pick_true rfl rfl) rfl ?_
        exact JL.weak [0, 1, 2, 3, 4] K ⟨rfl, rfl, rfl, rfl, rfl, rfl, rfl, rfl, rfl, rfl, (by rw [hb]; rfl), trivial⟩ (by decide) rfl
      · refine JL.set (d := 46) (v := .bool false) (congrArg (fun b => some (Value.bool b)) hb) ?_
        refine JL.gval rfl rfl (yl_move rfl) rfl ?_
        refine JL.gval rfl rfl (yl_move rfl) rfl ?_
        refine JL.gval rfl rfl (yl_lss rfl rfl) rfl ?_
        refine JL.val (yl_pick_false rfl rfl) rfl ?_
        exact JL.weak [0, 1, 2, 3, 4] K ⟨rfl, rfl, rfl, rfl, rfl, rfl, rfl, rfl, rfl, rfl, (by rw [hb]; rfl), trivial⟩ (by decide) rfl
  · refine JX.condF rfl hb ?_
    refine JX.exit ?_
    refine JE.qb rfl ?_
    obtain ⟨b1, hb1⟩ : ∃ b : Int × SPoint, b = (x13, x15) := ⟨_, rfl⟩
    have hy1 : b1 = y1 := by rw [hb1]; exact hox1 _ (Option.some.inj hres).symm
    have hres := hresO1
    rw [← hy1] at hres
    refine JE.weak (env' := [(2, .int .i64 q2), (6, ptrAt (some ⟨g5, 0, none⟩) 0), (8, ptrAt (some ⟨g7, 0, none⟩) 0), (9, .int .i64 b1.1)]) (es' := [boxO 42 g5 [.int .i64 0, .int .i64 0], boxO 42 g7 [.int .i64 b1.2.X, .int .i64 b1.2.Y]]) [1, 2] ?_ ⟨(by subst hb1; rfl), (by subst hb1; rfl), (by subst hb1; rfl), (by subst hb1; rfl), trivial⟩ (by decide) (by subst hb1; rfl)
    refine JE.code ?_
    refine JX.seq ?_
    refine JX.region ?_
    refine JL.val (yl_loadn Go.Proofs.Try.underlying42 rfl i42 rfl (fun w hC => rd_box hC 1 rfl) rfl (i42s).symm i42p) rfl ?_
    refine JL.val (yl_move rfl) rfl ?_
    refine JL.val (yl_move rfl) rfl ?_
    refine JL.val (yl_move rfl) rfl ?_
    refine JL.val (yl_mul rfl rfl) rfl ?_
    refine JL.val (yl_leq rfl rfl) rfl ?_
    refine JL.eff (ef_store_box (i := 0) (v := .agg #[.int .i64 b1.2.X, .int .i64 b1.2.Y]) i42 rfl rfl rfl (i42s).symm (Nat.le_of_ble_eq_true rfl) (by simp [Value.cells, Value.oneCell'])) rfl ?_
    rintro _ _ rfl
    refine JL.val (yl_assign rfl) rfl ?_
    refine JL.nil ?_
    refine JE.weak (env' := [(6, ptrAt (some ⟨g5, 0, none⟩) 0), (7, .bool (decide (b1.1 ≤ (w64 (q2 * q2)))))]) (es' := [boxO 42 g5 [.int .i64 b1.2.X, .int .i64 b1.2.Y]]) [0] ?_ ⟨rfl, rfl, trivial⟩ (by decide) rfl
    refine JE.code ?_
    refine JX.ret ?_
    obtain rfl := Option.some.inj hres
    refine JE.ret (rs := [.cell 6 42, .tmp 7]) (vs := [.agg #[.int .i64 b1.2.X, .int .i64 b1.2.Y], .bool (decide (b1.1 ≤ (w64 (q2 * q2))))]) rfl ⟨rv_box 0 rfl rfl Go.Proofs.Try.underlying42 rfl i42 (i42s).symm, rfl, trivial⟩ ?_
    exact fun w' hb hs => ⟨_, _, ⟨rfl, rfl⟩, rfl, hb, hs.sel [] _ (by decide) rfl⟩

/- slices.Clone[[]int64,int64] -/
def sh198 (q0 : List Int) : Option (List Int) := Option.bind (appL ([] : List Int) q0) fun x4 => some x4
def T198 (r : List Int) (v : Value) (rs : List Own) : Prop := ∃ (a0 : Option Addr) (n0 c0 : Nat), r.length = n0 ∧ v = rets [.slice a0 n0 c0] ∧ rs = [rowT 2 eI64 a0 n0 c0 r]
set_option maxRecDepth 100000 in
theorem c198 {w : World} {q0 : List Int} {a_0 : Option Addr} {n_0 c_0 : Nat} (g_0 : Rd w a_0 (eI64.fl q0)) (l_0 : q0.length = n_0) (k_0 : n_0 ≤ c_0) {r : List Int} (hres : sh198 q0 = some r) : Calls Go.Proofs.Try.prog 198 [.slice a_0 n_0 c_0].toArray w (Ret w (T198 r)) := by
  subst l_0
  unfold sh198 at hres
  refine calls_of (n := 8) (M := []) (es := []) Go.Proofs.Try.func198 rfl rfl rfl (Sep.nil _ _ _) ?_
  refine JX.seq ?_
  refine JX.region ?_
  refine JL.val (yl_assign rfl) rfl ?_
  refine JL.nil ?_
  refine JE.code ?_
  refine JX.seq ?_
  refine JX.seq ?_
  refine JX.region ?_
  refine JL.val (yl_move rfl) rfl ?_
  refine JL.val (yl_nilQ Go.Proofs.Try.underlying24 rfl rfl) rfl ?_
  refine JL.nil ?_
  refine JE.code ?_
  rcases nilQ g_0 with ⟨hb, hx⟩ | hb
  · replace hres : some ([] : List Int) = some r := by rw [hx] at hres; simpa [appL] using hres
    refine JX.condT rfl hb ?_
    refine JX.seq ?_
    refine JX.region ?_
    refine JL.val (yl_assign rfl) rfl ?_
    refine JL.nil ?_
    refine JE.code ?_
    refine JX.ret ?_
    refine JE.nilrow 2 eI64 ?_
    obtain rfl := Option.some.inj hres
    refine JE.ret (rs := [.tmp 2]) (vs := [.slice none 0 0]) rfl ⟨rfl, trivial⟩ ?_
    exact fun w' hb hs => ⟨_, _, ⟨none, 0, 0, rfl, rfl, rfl⟩, rfl, hb, hs.sel [0] _ (by decide) rfl⟩
  · refine JX.condF rfl hb ?_
    refine JX.skip ?_
    refine JE.code ?_
    refine JX.seq ?_
    refine JX.region ?_
    refine JL.eff (ef_buildSlice (E := 2) (k := eI64.k) (us := eI64.fl ([] : List Int)) rfl (fun w => bsl24_0  w) rfl (by decide)) rfl ?_
    rintro _ _ ⟨a2, rfl, rfl⟩
    refine JL.val (yl_move rfl) rfl ?_
    obtain ⟨x4, hx4, hres⟩ := bind_some hres
    refine JL.eff (ef_appendT (ix := 0) Go.Proofs.Try.underlying24 i2 i2z i2s rfl i2b0 i2b1 rfl rfl rfl rfl rfl (fun w hC => rd_arg g_0 hC) hx4) rfl ?_
    rintro _ _ ⟨a5, cp6, rfl, rfl⟩
    refine JL.val (yl_assign rfl) rfl ?_
    refine JL.nil ?_
    refine JE.weak (env' := [(2, .slice a5 x4.length cp6)]) (es' := [rowT 2 eI64 a5 x4.length cp6 x4]) [0] ?_ ⟨rfl, trivial⟩ (by decide) rfl
    refine JE.code ?_
    refine JX.ret ?_
    obtain rfl := Option.some.inj hres
    refine JE.ret (rs := [.tmp 2]) (vs := [.slice a5 x4.length cp6]) rfl ⟨rfl, trivial⟩ ?_
    exact fun w' hb hs => ⟨_, _, ⟨a5, x4.length, cp6, rfl, rfl, rfl⟩, rfl, hb, hs.sel [0] _ (by decide) rfl⟩

/- impl.clonePanel -/
def sh134 (q0 : SPanel) : Option (SPanel) := Option.bind (sh198 q0.Breaks) fun x5 => some (SPanel.mk q0.W q0.H x5)
def T134 (r : SPanel) (v : Value) (rs : List Own) : Prop := ∃ (a0_2 : Option Addr) (n0_2 c0_2 : Nat), r.Breaks.length = n0_2 ∧ v = rets [.agg #[.int .i64 r.W, .int .i64 r.H, .slice a0_2 n0_2 c0_2]] ∧ rs = [rowT 2 eI64 a0_2 n0_2 c0_2 r.Breaks]
set_option maxRecDepth 100000 in
theorem c134 {w : World} {q0 : SPanel} {a_0_2 : Option Addr} {n_0_2 c_0_2 : Nat} (g_0_2 : Rd w a_0_2 (eI64.fl q0.Breaks)) (l_0_2 : q0.Breaks.length = n_0_2) (k_0_2 : n_0_2 ≤ c_0_2) {r : SPanel} (hres : sh134 q0 = some r) : Calls Go.Proofs.Try.prog 134 [.agg #[.int .i64 q0.W, .int .i64 q0.H, .slice a_0_2 n_0_2 c_0_2]].toArray w (Ret w (T134 r)) := by
  subst l_0_2
  unfold sh134 at hres
  refine calls_of (n := 8) (M := []) (es := []) Go.Proofs.Try.func134 rfl rfl rfl (Sep.nil _ _ _) ?_
  refine JX.seq ?_
  refine JX.region ?_
  refine JL.eff (ef_box rfl rfl) rfl ?_
  rintro _ _ ⟨g1, rfl, rfl⟩
  refine JL.eff (ef_alloc i26 i26z rfl) rfl ?_
  rintro _ _ ⟨g3, rfl, rfl⟩
  refine JL.nil ?_
  refine JE.code ?_
  refine JX.seq ?_
  refine JX.region ?_
  refine JL.val (yl_fieldAt (a := some _) Go.Proofs.Try.underlying26 rfl i24 i24n rfl rfl) rfl ?_
  refine JL.val (yl_load1 Go.Proofs.Try.underlying24 rfl rfl (fun w hC => rd_box hC 0 rfl) rfl) rfl ?_
  obtain ⟨x5, hx5, hres⟩ := bind_some hres
  refine JL.eff (ef_call (T := T198 x5) Go.Proofs.Try.func198 rfl (by kernel_rfl) rfl (fun w hC => c198 (rd_arg g_0_2 hC) rfl k_0_2 hx5)) rfl ?_
  rintro _ _ ⟨_, ⟨a6, _, cp7, rfl, rfl, rfl⟩, rfl⟩
  refine JL.val (yl_fieldAt (a := some _) Go.Proofs.Try.underlying26 rfl i24 i24n rfl rfl) rfl ?_
  refine JL.eff (ef_store_box (i := 0) (v := .slice a6 x5.length cp7) i24 rfl rfl rfl (i24s).symm (Nat.le_of_ble_eq_true rfl) (by simp [Value.cells, Value.oneCell'])) rfl ?_
  rintro _ _ rfl
  refine JL.nil ?_
  refine JE.weak (env' := [(1, ptrAt (some ⟨g1, 0, none⟩) 0), (2, ptrAt (some ⟨g3, 0, none⟩) 0)]) (es' := [boxO 26 g1 [.int .i64 q0.W, .int .i64 q0.H, .slice a6 x5.length cp7], rowT 2 eI64 a6 x5.length cp7 x5, boxO 26 g3 [.int .i64 0, .int .i64 0, .slice none 0 0]]) [0, 2, 1] ?_ ⟨rfl, rfl, trivial⟩ (by decide) rfl
  refine JE.code ?_
  refine JX.seq ?_
  refine JX.region ?_
  refine JL.val (yl_loadn Go.Proofs.Try.underlying26 rfl i26 rfl (fun w hC => rd_box hC 0 rfl) rfl (i26s).symm i26p) rfl ?_
  refine JL.eff (ef_store_box (i := 2) (v := .agg #[.int .i64 q0.W, .int .i64 q0.H, .slice a6 x5.length cp7]) i26 rfl rfl rfl (i26s).symm (Nat.le_of_ble_eq_true rfl) (by simp [Value.cells, Value.oneCell'])) rfl ?_
  rintro _ _ rfl
  refine JL.nil ?_
  refine JE.weak (env' := [(2, ptrAt (some ⟨g3, 0, none⟩) 0)]) (es' := [boxO 26 g3 [.int .i64 q0.W, .int .i64 q0.H, .slice a6 x5.length cp7], rowT 2 eI64 a6 x5.length cp7 x5]) [2, 1] ?_ ⟨rfl, trivial⟩ (by decide) rfl
  refine JE.code ?_
  refine JX.ret ?_
  obtain rfl := Option.some.inj hres
  refine JE.ret (rs := [.cell 2 26]) (vs := [.agg #[.int .i64 q0.W, .int .i64 q0.H, .slice a6 x5.length cp7]]) rfl ⟨rv_box 0 rfl rfl Go.Proofs.Try.underlying26 rfl i26 (i26s).symm, trivial⟩ ?_
  exact fun w' hb hs => ⟨_, _, ⟨a6, x5.length, cp7, rfl, rfl, rfl⟩, rfl, hb, hs.sel [1] _ (by decide) rfl⟩

/- (impl.Panel).changed -/
def sh193 (q0 : SPanel) (q1 : Int) (q2 : Int) : Option (SPanel) := Option.bind (sh134 q0) fun x5 => Option.bind (getI x5.Breaks q1) fun x11 => some (SPanel.mk x5.W x5.H (x5.Breaks.set (q1).toNat q2))
def T193 (r : SPanel) (v : Value) (rs : List Own) : Prop := ∃ (a0_2 : Option Addr) (n0_2 c0_2 : Nat), r.Breaks.length = n0_2 ∧ v = rets [.agg #[.int .i64 r.W, .int .i64 r.H, .slice a0_2 n0_2 c0_2]] ∧ rs = [rowT 2 eI64 a0_2 n0_2 c0_2 r.Breaks]
set_option maxRecDepth 100000 in
theorem c193 {w : World} {q0 : SPanel} {a_0_2 : Option Addr} {n_0_2 c_0_2 : Nat} (g_0_2 : Rd w a_0_2 (eI64.fl q0.Breaks)) (l_0_2 : q0.Breaks.length = n_0_2) (k_0_2 : n_0_2 ≤ c_0_2) {q1 : Int} {q2 : Int} {r : SPanel} (hres : sh193 q0 q1 q2 = some r) : Calls Go.Proofs.Try.prog 193 [.agg #[.int .i64 q0.W, .int .i64 q0.H, .slice a_0_2 n_0_2 c_0_2], .int .i64 q1, .int .i64 q2].toArray w (Ret w (T193 r)) := by
  subst l_0_2
  unfold sh193 at hres
  refine calls_of (n := 16) (M := []) (es := []) Go.Proofs.Try.func193 rfl rfl rfl (Sep.nil _ _ _) ?_
  refine JX.seq ?_
  refine JX.region ?_
  refine JL.eff (ef_box rfl rfl) rfl ?_
  rintro _ _ ⟨g1, rfl, rfl⟩
  refine JL.eff (ef_alloc i26 i26z rfl) rfl ?_
  rintro _ _ ⟨g3, rfl, rfl⟩
  refine JL.nil ?_
  refine JE.code ?_
  refine JX.seq ?_
  refine JX.region ?_
  refine JL.val (yl_loadn Go.Proofs.Try.underlying26 rfl i26 rfl (fun w hC => rd_box hC 0 rfl) rfl (i26s).symm i26p) rfl ?_
  obtain ⟨x5, hx5, hres⟩ := bind_some hres
  refine JL.eff (ef_call (vs := [.agg #[.int .i64 q0.W, .int .i64 q0.H, .slice a_0_2 q0.Breaks.length c_0_2]]) (T := T134 x5) Go.Proofs.Try.func134 rfl (by kernel_rfl) rfl (fun w hC => c134 (q0 := q0) (rd_arg g_0_2 hC) rfl k_0_2 hx5)) rfl ?_
  rintro _ _ ⟨_, ⟨a6, _, cp7, rfl, rfl, rfl⟩, rfl⟩
  refine JL.eff (ef_alloc i26 i26z rfl) rfl ?_
  rintro _ _ ⟨g9, rfl, rfl⟩
  refine JL.eff (ef_store_box (i := 3) (v := .agg #[.int .i64 x5.W, .int .i64 x5.H, .slice a6 x5.Breaks.length cp7]) i26 rfl rfl rfl (i26s).symm (Nat.le_of_ble_eq_true rfl) (by simp [Value.cells, Value.oneCell'])) rfl ?_
  rintro _ _ rfl
  refine JL.nil ?_
  refine JE.weak (env' := [(1, .int .i64 q1), (2, .int .i64 q2), (6, ptrAt (some ⟨g3, 0, none⟩) 0), (7, ptrAt (some ⟨g9, 0, none⟩) 0)]) (es' := [boxO 26 g3 [.int .i64 0, .int .i64 0, .slice none 0 0], boxO 26 g9 [.int .i64 x5.W, .int .i64 x5.H, .slice a6 x5.Breaks.length cp7], rowT 2 eI64 a6 x5.Breaks.length cp7 x5.Breaks]) [1, 3, 2] ?_ ⟨rfl, rfl, rfl, rfl, trivial⟩ (by decide) rfl
  refine JE.code ?_
  refine JX.seq ?_
  refine JX.region ?_
  refine JL.val (yl_fieldAt (a := some _) Go.Proofs.Try.underlying26 rfl i24 i24n rfl rfl) rfl ?_
  refine JL.val (yl_load1 Go.Proofs.Try.underlying24 rfl rfl (fun w hC => rd_box hC 1 rfl) rfl) rfl ?_
  refine JL.val (yl_move rfl) rfl ?_
  refine JL.val (yl_move rfl) rfl ?_
  obtain ⟨x11, hx11, hres⟩ := bind_some hres
  refine JL.val (yl_idxT Go.Proofs.Try.underlying24 i2 i2s rfl rfl hx11 rfl (fun w hC => rd_row hC 2 rfl)) rfl ?_
  refine JL.eff (ef_storeT (ix := 2) (u := q2) i2 i2s rfl rfl rfl hx11 rfl) rfl ?_
  rintro _ _ rfl
  refine JL.nil ?_
  refine JE.weak (env' := [(6, ptrAt (some ⟨g3, 0, none⟩) 0), (7, ptrAt (some ⟨g9, 0, none⟩) 0)]) (es' := [boxO 26 g3 [.int .i64 0, .int .i64 0, .slice none 0 0], boxO 26 g9 [.int .i64 x5.W, .int .i64 x5.H, .slice a6 x5.Breaks.length cp7], rowT 2 eI64 a6 x5.Breaks.length cp7 (x5.Breaks.set (q1).toNat q2)]) [0, 1, 2] ?_ ⟨rfl, rfl, trivial⟩ (by decide) rfl
  refine JE.code ?_
  refine JX.seq ?_
  refine JX.region ?_
  refine JL.val (yl_loadn Go.Proofs.Try.underlying26 rfl i26 rfl (fun w hC => rd_box hC 1 rfl) rfl (i26s).symm i26p) rfl ?_
  refine JL.eff (ef_store_box (i := 0) (v := .agg #[.int .i64 x5.W, .int .i64 x5.H, .slice a6 x5.Breaks.length cp7]) i26 rfl rfl rfl (i26s).symm (Nat.le_of_ble_eq_true rfl) (by simp [Value.cells, Value.oneCell'])) rfl ?_
  rintro _ _ rfl
  refine JL.nil ?_
  refine JE.weak (env' := [(6, ptrAt (some ⟨g3, 0, none⟩) 0)]) (es' := [boxO 26 g3 [.int .i64 x5.W, .int .i64 x5.H, .slice a6 x5.Breaks.length cp7], rowT 2 eI64 a6 x5.Breaks.length cp7 (x5.Breaks.set (q1).toNat q2)]) [0, 2] ?_ ⟨rfl, trivial⟩ (by decide) rfl
  refine JE.code ?_
  refine JX.ret ?_
  obtain rfl := Option.some.inj hres
  refine JE.ret (rs := [.cell 6 26]) (vs := [.agg #[.int .i64 x5.W, .int .i64 x5.H, .slice a6 x5.Breaks.length cp7]]) rfl ⟨rv_box 0 rfl rfl Go.Proofs.Try.underlying26 rfl i26 (i26s).symm, trivial⟩ ?_
  exact fun w' hb hs => ⟨_, _, ⟨a6, x5.Breaks.length, cp7, List.length_set, rfl, rfl⟩, rfl, hb, hs.sel [1] _ (by decide) rfl⟩

/- (impl.Panel).number -/
def sh194 (q0 : SPanel) (q1 : SPoint) : Option (Int) := bif (q1.Y.tmod 2) == 1 then (some (w64 ((w64 ((w64 ((w64 ((w64 (q1.Y.tdiv 2)) * (w64 (q0.W - 1)))) + (w64 ((w64 ((w64 (q1.Y - 1)).tdiv 2)) * q0.W)))) + (w64 (q1.X.tdiv 2)))) - 1))) else (some (w64 ((w64 ((w64 ((w64 (q1.Y.tdiv 2)) * (w64 (q0.W - 1)))) + (w64 ((w64 ((w64 (q1.Y - 1)).tdiv 2)) * q0.W)))) + (w64 (q1.X.tdiv 2)))))
def T194 (r : Int) (v : Value) (rs : List Own) : Prop := v = rets [.int .i64 r] ∧ rs = []
set_option maxRecDepth 100000 in
theorem c194 {w : World} {q0 : SPanel} {a_0_2 : Option Addr} {n_0_2 c_0_2 : Nat} (g_0_2 : Rd w a_0_2 (eI64.fl q0.Breaks)) (l_0_2 : q0.Breaks.length = n_0_2) (k_0_2 : n_0_2 ≤ c_0_2) {q1 : SPoint} {r : Int} (hres : sh194 q0 q1 = some r) : Calls Go.Proofs.Try.prog 194 [.agg #[.int .i64 q0.W, .int .i64 q0.H, .slice a_0_2 n_0_2 c_0_2], .agg #[.int .i64 q1.X, .int .i64 q1.Y]].toArray w (Ret w (T194 r)) := by
  subst l_0_2
  unfold sh194 at hres
  refine calls_of (n := 36) (M := []) (es := []) Go.Proofs.Try.func194 rfl rfl rfl (Sep.nil _ _ _) ?_
  refine JX.seq ?_
  refine JX.region ?_
  refine JL.eff (ef_box rfl rfl) rfl ?_
  rintro _ _ ⟨g1, rfl, rfl⟩
  refine JL.eff (ef_box rfl rfl) rfl ?_
  rintro _ _ ⟨g3, rfl, rfl⟩
  refine JL.val (yl_assign rfl) rfl ?_
  refine JL.nil ?_
  refine JE.code ?_
  refine JX.seq ?_
  refine JX.region ?_
  refine JL.val (yl_fieldAt (a := some _) Go.Proofs.Try.underlying42 rfl i2 i2n rfl rfl) rfl ?_
  refine JL.val (yl_load1 Go.Proofs.Try.underlying2 rfl rfl (fun w hC => rd_box hC 1 rfl) rfl) rfl ?_
  refine JL.val (yl_quo rfl rfl (by decide)) rfl ?_
  refine JL.val (yl_fieldAt (a := some _) Go.Proofs.Try.underlying26 rfl i2 i2n rfl rfl) rfl ?_
  refine JL.val (yl_load1 Go.Proofs.Try.underlying2 rfl rfl (fun w hC => rd_box hC 0 rfl) rfl) rfl ?_
  refine JL.val (yl_sub rfl rfl) rfl ?_
  refine JL.val (yl_mul rfl rfl) rfl ?_
  refine JL.val (yl_fieldAt (a := some _) Go.Proofs.Try.underlying42 rfl i2 i2n rfl rfl) rfl ?_
  refine JL.val (yl_load1 Go.Proofs.Try.underlying2 rfl rfl (fun w hC => rd_box hC 1 rfl) rfl) rfl ?_
  refine JL.val (yl_sub rfl rfl) rfl ?_
  refine JL.val (yl_quo rfl rfl (by decide)) rfl ?_
  refine JL.val (yl_fieldAt (a := some _) Go.Proofs.Try.underlying26 rfl i2 i2n rfl rfl) rfl ?_
  refine JL.val (yl_load1 Go.Proofs.Try.underlying2 rfl rfl (fun w hC => rd_box hC 0 rfl) rfl) rfl ?_
  refine JL.val (yl_mul rfl rfl) rfl ?_
  refine JL.val (yl_add rfl rfl) rfl ?_
  refine JL.val (yl_assign rfl) rfl ?_
  refine JL.nil ?_
  refine JE.weak (env' := [(3, ptrAt (some ⟨g3, 0, none⟩) 0), (5, .int .i64 (w64 ((w64 ((w64 (q1.Y.tdiv 2)) * (w64 (q0.W - 1)))) + (w64 ((w64 ((w64 (q1.Y - 1)).tdiv 2)) * q0.W)))))]) (es' := [boxO 42 g3 [.int .i64 q1.X, .int .i64 q1.Y]]) [1] ?_ ⟨rfl, rfl, trivial⟩ (by decide) rfl
  refine JE.code ?_
  refine JX.seq ?_
  refine JX.seq ?_
  refine JX.region ?_
  refine JL.val (yl_fieldAt (a := some _) Go.Proofs.Try.underlying42 rfl i2 i2n rfl rfl) rfl ?_
  refine JL.val (yl_load1 Go.Proofs.Try.underlying2 rfl rfl (fun w hC => rd_box hC 0 rfl) rfl) rfl ?_
  refine JL.val (yl_rem rfl rfl (by decide)) rfl ?_
  refine JL.val (yl_eql rfl rfl) rfl ?_
  refine JL.nil ?_
  refine JE.weak (env' := [(3, ptrAt (some ⟨g3, 0, none⟩) 0), (5, .int .i64 (w64 ((w64 ((w64 (q1.Y.tdiv 2)) * (w64 (q0.W - 1)))) + (w64 ((w64 ((w64 (q1.Y - 1)).tdiv 2)) * q0.W))))), (24, .bool ((q1.Y.tmod 2) == 1))]) (es' := [boxO 42 g3 [.int .i64 q1.X, .int .i64 q1.Y]]) [0] ?_ ⟨rfl, rfl, rfl, trivial⟩ (by decide) rfl
  refine JE.code ?_
  rcases cond_some hres with ⟨hb, hres⟩ | ⟨hb, hres⟩
  · refine JX.condT rfl hb ?_
    refine JX.seq ?_
    refine JX.region ?_
    refine JL.val (yl_move rfl) rfl ?_
    refine JL.val (yl_fieldAt (a := some _) Go.Proofs.Try.underlying42 rfl i2 i2n rfl rfl) rfl ?_
    refine JL.val (yl_load1 Go.Proofs.Try.underlying2 rfl rfl (fun w hC => rd_box hC 0 rfl) rfl) rfl ?_
    refine JL.val (yl_quo rfl rfl (by decide)) rfl ?_
    refine JL.val (yl_add rfl rfl) rfl ?_
    refine JL.val (yl_sub rfl rfl) rfl ?_
    refine JL.val (yl_assign rfl) rfl ?_
    refine JL.nil ?_
    refine JE.weak (env' := [(4, .int .i64 (w64 ((w64 ((w64 ((w64 ((w64 (q1.Y.tdiv 2)) * (w64 (q0.W - 1)))) + (w64 ((w64 ((w64 (q1.Y - 1)).tdiv 2)) * q0.W)))) + (w64 (q1.X.tdiv 2)))) - 1)))]) (es' := []) [] ?_ ⟨rfl, trivial⟩ (by decide) rfl
    refine JE.code ?_
    refine JX.ret ?_
    obtain rfl := Option.some.inj hres
    refine JE.ret (rs := [.tmp 4]) (vs := [.int .i64 (w64 ((w64 ((w64 ((w64 ((w64 (q1.Y.tdiv 2)) * (w64 (q0.W - 1)))) + (w64 ((w64 ((w64 (q1.Y - 1)).tdiv 2)) * q0.W)))) + (w64 (q1.X.tdiv 2)))) - 1))]) rfl ⟨rfl, trivial⟩ ?_
    exact fun w' hb hs => ⟨_, _, ⟨rfl, rfl⟩, rfl, hb, hs.sel [] _ (by decide) rfl⟩
  · refine JX.condF rfl hb ?_
    refine JX.skip ?_
    refine JE.code ?_
    refine JX.seq ?_
    refine JX.region ?_
    refine JL.val (yl_move rfl) rfl ?_
    refine JL.val (yl_fieldAt (a := some _) Go.Proofs.Try.underlying42 rfl i2 i2n rfl rfl) rfl ?_
    refine JL.val (yl_load1 Go.Proofs.Try.underlying2 rfl rfl (fun w hC => rd_box hC 0 rfl) rfl) rfl ?_
    refine JL.val (yl_quo rfl rfl (by decide)) rfl ?_
    refine JL.val (yl_add rfl rfl) rfl ?_
    refine JL.val (yl_assign rfl) rfl ?_
    refine JL.nil ?_
    refine JE.weak (env' := [(4, .int .i64 (w64 ((w64 ((w64 ((w64 (q1.Y.tdiv 2)) * (w64 (q0.W - 1)))) + (w64 ((w64 ((w64 (q1.Y - 1)).tdiv 2)) * q0.W)))) + (w64 (q1.X.tdiv 2)))))]) (es' := []) [] ?_ ⟨rfl, trivial⟩ (by decide) rfl
    refine JE.code ?_
    refine JX.ret ?_
    obtain rfl := Option.some.inj hres
    refine JE.ret (rs := [.tmp 4]) (vs := [.int .i64 (w64 ((w64 ((w64 ((w64 (q1.Y.tdiv 2)) * (w64 (q0.W - 1)))) + (w64 ((w64 ((w64 (q1.Y - 1)).tdiv 2)) * q0.W)))) + (w64 (q1.X.tdiv 2))))]) rfl ⟨rfl, trivial⟩ ?_
    exact fun w' hb hs => ⟨_, _, ⟨rfl, rfl⟩, rfl, hb, hs.sel [] _ (by decide) rfl⟩

/- impl.applyStroke -/
def sh129 (q0 : SPanel) (q1 : List SPoint) (q2 : Int) : Option (SPanel × Int) := Option.bind (sh191 q1 q2) fun x5 => bif x5 == 3 then (some (SPanel.mk 0 0 ([] : List Int), 7)) else (Option.bind (sh112 q1) fun x7 => Option.bind (sh192 q0 (SPoint.mk (w64 ((w64 (x7.1.X + x7.2.X)).tdiv 2)) (w64 ((w64 (x7.1.Y + x7.2.Y)).tdiv 2))) q2) fun x12 => bif !x12.2 then (some (SPanel.mk 0 0 ([] : List Int), 3)) else (Option.bind (sh187 q0 x12.1) fun x16 => bif x16 then (some (SPanel.mk 0 0 ([] : List Int), 6)) else (Option.bind (getI ([0, 1, 2] : List Int) x5) fun x19 => Option.bind (sh194 q0 x12.1) fun x20 => Option.bind (sh193 q0 x20 x19) fun x21 => some (x21, 0))))
def T129 (r : SPanel × Int) (v : Value) (rs : List Own) : Prop := ∃ (a0_2 : Option Addr) (n0_2 c0_2 : Nat), r.1.Breaks.length = n0_2 ∧ v = rets [.agg #[.int .i64 r.1.W, .int .i64 r.1.H, .slice a0_2 n0_2 c0_2], .int .i64 r.2] ∧ rs = [rowT 2 eI64 a0_2 n0_2 c0_2 r.1.Breaks]
set_option maxRecDepth 100000 in
theorem c129 {w : World} {q0 : SPanel} {a_0_2 : Option Addr} {n_0_2 c_0_2 : Nat} (g_0_2 : Rd w a_0_2 (eI64.fl q0.Breaks)) (l_0_2 : q0.Breaks.length = n_0_2) (k_0_2 : n_0_2 ≤ c_0_2) {q1 : List SPoint} {a_1 : Option Addr} {n_1 c_1 : Nat} (g_1 : Rd w a_1 (eSPoint.fl q1)) (l_1 : q1.length = n_1) (k_1 : n_1 ≤ c_1) {q2 : Int} {r : SPanel × Int} (hres : sh129 q0 q1 q2 = some r) : Calls Go.Proofs.Try.prog 129 [.agg #[.int .i64 q0.W, .int .i64 q0.H, .slice a_0_2 n_0_2 c_0_2], .slice a_1 n_1 c_1, .int .i64 q2].toArray w (Ret w (T129 r)) := by
  subst l_0_2
  subst l_1
  unfold sh129 at hres
  refine calls_of (n := 58) (M := []) (es := []) Go.Proofs.Try.func129 rfl rfl rfl (Sep.nil _ _ _) ?_
  refine JX.seq ?_
  refine JX.region ?_
  refine JL.eff (ef_box rfl rfl) rfl ?_
  rintro _ _ ⟨g1, rfl, rfl⟩
  refine JL.eff (ef_alloc i26 i26z rfl) rfl ?_
  rintro _ _ ⟨g3, rfl, rfl⟩
  refine JL.val (yl_assign rfl) rfl ?_
  refine JL.nil ?_
  refine JE.code ?_
  refine JX.seq ?_
  refine JX.region ?_
  refine JL.val (yl_move rfl) rfl ?_
  refine JL.val (yl_move rfl) rfl ?_
  obtain ⟨x5, hx5, hres⟩ := bind_some hres
  refine JL.eff (ef_call (T := T191 x5) Go.Proofs.Try.func191 rfl (by kernel_rfl) rfl (fun w hC => c191 (rd_arg g_1 hC) rfl k_1 hx5)) rfl ?_
  rintro _ _ ⟨_, ⟨rfl, rfl⟩, rfl⟩
  refine JL.val (yl_assign rfl) rfl ?_
  refine JL.nil ?_
  refine JE.weak (env' := [(1, .slice a_1 q1.length c_1), (2, .int .i64 q2), (3, ptrAt (some ⟨g1, 0, none⟩) 0), (6, ptrAt (some ⟨g3, 0, none⟩) 0), (8, .int .i64 x5)]) (es' := [boxO 26 g1 [.int .i64 q0.W, .int .i64 q0.H, .slice a_0_2 q0.Breaks.length c_0_2], boxO 26 g3 [.int .i64 0, .int .i64 0, .slice none 0 0]]) [0, 1] ?_ ⟨rfl, rfl, rfl, rfl, rfl, trivial⟩ (by decide) rfl
  refine JE.code ?_
  refine JX.seq ?_
  refine JX.seq ?_
  refine JX.region ?_
  refine JL.val (yl_move rfl) rfl ?_
  refine JL.val (yl_eql rfl rfl) rfl ?_
  refine JL.nil ?_
  refine JE.code ?_
  rcases cond_some hres with ⟨hb, hres⟩ | ⟨hb, hres⟩
  · refine JX.condT rfl hb ?_
    refine JX.seq ?_
    refine JX.region ?_
    refine JL.val (yl_build rfl (fun w => bld26_  w)) rfl ?_
    refine JL.eff (ef_store_box (i := 1) (v := .agg #[.int .i64 0, .int .i64 0, .slice none 0 0]) i26 rfl rfl rfl (i26s).symm (Nat.le_of_ble_eq_true rfl) (by simp [Value.cells, Value.oneCell'])) rfl ?_
    rintro _ _ rfl
    refine JL.val (yl_assign rfl) rfl ?_
    refine JL.nil ?_
    refine JE.weak (env' := [(6, ptrAt (some ⟨g3, 0, none⟩) 0), (7, .int .i64 7)]) (es' := [boxO 26 g3 [.int .i64 0, .int .i64 0, .slice none 0 0]]) [1] ?_ ⟨rfl, rfl, trivial⟩ (by decide) rfl
    refine JE.code ?_
    refine JX.ret ?_
    refine JE.nilrow 2 eI64 ?_
    obtain rfl := Option.some.inj hres
    refine JE.ret (rs := [.cell 6 26, .tmp 7]) (vs := [.agg #[.int .i64 0, .int .i64 0, .slice none 0 0], .int .i64 7]) rfl ⟨rv_box 0 rfl rfl Go.Proofs.Try.underlying26 rfl i26 (i26s).symm, rfl, trivial⟩ ?_
    exact fun w' hb hs => ⟨_, _, ⟨none, 0, 0, rfl, rfl, rfl⟩, rfl, hb, hs.sel [1] _ (by decide) rfl⟩
  · refine JX.condF rfl hb ?_
    refine JX.skip ?_
    refine JE.code ?_
    refine JX.seq ?_
    refine JX.region ?_
    refine JL.val (yl_move rfl) rfl ?_
    obtain ⟨x7, hx7, hres⟩ := bind_some hres
    refine JL.eff (ef_call (T := T112 x7) Go.Proofs.Try.func112 rfl (by kernel_rfl) rfl (fun w hC => c112 (rd_arg g_1 hC) rfl k_1 hx7)) rfl ?_
    rintro _ _ ⟨_, ⟨rfl, rfl⟩, rfl⟩
    refine JL.val (yl_move rfl) rfl ?_
    refine JL.val (yl_extract rfl rfl) rfl ?_
    refine JL.val (yl_extract rfl rfl) rfl ?_
    refine JL.eff (ef_alloc i42 i42z rfl) rfl ?_
    rintro _ _ ⟨g8, rfl, rfl⟩
    refine JL.eff (ef_alloc i42 i42z rfl) rfl ?_
    rintro _ _ ⟨g10, rfl, rfl⟩
    refine JL.eff (ef_store_box (i := 2) (v := .agg #[.int .i64 x7.1.X, .int .i64 x7.1.Y]) i42 rfl rfl rfl (i42s).symm (Nat.le_of_ble_eq_true rfl) (by simp [Value.cells, Value.oneCell'])) rfl ?_
    rintro _ _ rfl
    refine JL.eff (ef_store_box (i := 3) (v := .agg #[.int .i64 x7.2.X, .int .i64 x7.2.Y]) i42 rfl rfl rfl (i42s).symm (Nat.le_of_ble_eq_true rfl) (by simp [Value.cells, Value.oneCell'])) rfl ?_
    rintro _ _ rfl
    refine JL.nil ?_
    refine JE.weak (env' := [(2, .int .i64 q2), (3, ptrAt (some ⟨g1, 0, none⟩) 0), (6, ptrAt (some ⟨g3, 0, none⟩) 0), (8, .int .i64 x5), (9, ptrAt (some ⟨g8, 0, none⟩) 0), (10, ptrAt (some ⟨g10, 0, none⟩) 0)]) (es' := [boxO 26 g1 [.int .i64 q0.W, .int .i64 q0.H, .slice a_0_2 q0.Breaks.length c_0_2], boxO 26 g3 [.int .i64 0, .int .i64 0, .slice none 0 0], boxO 42 g8 [.int .i64 x7.1.X, .int .i64 x7.1.Y], boxO 42 g10 [.int .i64 x7.2.X, .int .i64 x7.2.Y]]) [0, 1, 2, 3] ?_ ⟨rfl, rfl, rfl, rfl, rfl, rfl, trivial⟩ (by decide) rfl
    refine JE.code ?_
    refine JX.seq ?_
    refine JX.region ?_
    refine JL.val (yl_loadn Go.Proofs.Try.underlying26 rfl i26 rfl (fun w hC => rd_box hC 0 rfl) rfl (i26s).symm i26p) rfl ?_
    refine JL.val (yl_fieldAt (a := some _) Go.Proofs.Try.underlying42 rfl i2 i2n rfl rfl) rfl ?_
    refine JL.val (yl_load1 Go.Proofs.Try.underlying2 rfl rfl (fun w hC => rd_box hC 2 rfl) rfl) rfl ?_
    refine JL.val (yl_fieldAt (a := some _) Go.Proofs.Try.underlying42 rfl i2 i2n rfl rfl) rfl ?_
    refine JL.val (yl_load1 Go.Proofs.Try.underlying2 rfl rfl (fun w hC => rd_box hC 3 rfl) rfl) rfl ?_
    refine JL.val (yl_add rfl rfl) rfl ?_
    refine JL.val (yl_quo rfl rfl (by decide)) rfl ?_
    refine JL.val (yl_fieldAt (a := some _) Go.Proofs.Try.underlying42 rfl i2 i2n rfl rfl) rfl ?_
    refine JL.val (yl_load1 Go.Proofs.Try.underlying2 rfl rfl (fun w hC => rd_box hC 2 rfl) rfl) rfl ?_
    refine JL.val (yl_fieldAt (a := some _) Go.Proofs.Try.underlying42 rfl i2 i2n rfl rfl) rfl ?_
    refine JL.val (yl_load1 Go.Proofs.Try.underlying2 rfl rfl (fun w hC => rd_box hC 3 rfl) rfl) rfl ?_
    refine JL.val (yl_add rfl rfl) rfl ?_
    refine JL.val (yl_quo rfl rfl (by decide)) rfl ?_
    refine JL.val (yl_build rfl (fun w => bld42_0_1 (w64 ((w64 (x7.1.X + x7.2.X)).tdiv 2)) (w64 ((w64 (x7.1.Y + x7.2.Y)).tdiv 2)) w)) rfl ?_
    refine JL.val (yl_move rfl) rfl ?_
    obtain ⟨x12, hx12, hres⟩ := bind_some hres
    refine JL.eff (ef_call (vs := [.agg #[.int .i64 q0.W, .int .i64 q0.H, .slice a_0_2 q0.Breaks.length c_0_2], .agg #[.int .i64 (w64 ((w64 (x7.1.X + x7.2.X)).tdiv 2)), .int .i64 (w64 ((w64 (x7.1.Y + x7.2.Y)).tdiv 2))], .int .i64 q2]) (T := T192 x12) Go.Proofs.Try.func192 rfl (by kernel_rfl) rfl (fun w hC => c192 (q0 := q0) (q1 := SPoint.mk (w64 ((w64 (x7.1.X + x7.2.X)).tdiv 2)) (w64 ((w64 (x7.1.Y + x7.2.Y)).tdiv 2))) (rd_arg g_0_2 hC) rfl k_0_2 hx12)) rfl ?_
    rintro _ _ ⟨_, ⟨rfl, rfl⟩, rfl⟩
    refine JL.val (yl_move rfl) rfl ?_
    refine JL.val (yl_extract rfl rfl) rfl ?_
    refine JL.val (yl_extract rfl rfl) rfl ?_
    refine JL.eff (ef_alloc i42 i42z rfl) rfl ?_
    rintro _ _ ⟨g13, rfl, rfl⟩
    refine JL.eff (ef_store_box (i := 4) (v := .agg #[.int .i64 x12.1.X, .int .i64 x12.1.Y]) i42 rfl rfl rfl (i42s).symm (Nat.le_of_ble_eq_true rfl) (by simp [Value.cells, Value.oneCell'])) rfl ?_
    rintro _ _ rfl
    refine JL.val (yl_assign rfl) rfl ?_
    refine JL.nil ?_
    refine JE.weak (env' := [(3, ptrAt (some ⟨g1, 0, none⟩) 0), (6, ptrAt (some ⟨g3, 0, none⟩) 0), (8, .int .i64 x5), (11, ptrAt (some ⟨g13, 0, none⟩) 0), (12, .bool x12.2)]) (es' := [boxO 26 g1 [.int .i64 q0.W, .int .i64 q0.H, .slice a_0_2 q0.Breaks.length c_0_2], boxO 26 g3 [.int .i64 0, .int .i64 0, .slice none 0 0], boxO 42 g13 [.int .i64 x12.1.X, .int .i64 x12.1.Y]]) [0, 1, 4] ?_ ⟨rfl, rfl, rfl, rfl, rfl, trivial⟩ (by decide) rfl
    refine JE.code ?_
    refine JX.seq ?_
    refine JX.seq ?_
    refine JX.region ?_
    refine JL.val (yl_move rfl) rfl ?_
    refine JL.val (yl_not rfl) rfl ?_
    refine JL.nil ?_
    refine JE.code ?_
    rcases cond_some hres with ⟨hb, hres⟩ | ⟨hb, hres⟩
    · refine JX.condT rfl hb ?_
      refine JX.seq ?_
      refine JX.region ?_
      refine JL.val (yl_build rfl (fun w => bld26_  w)) rfl ?_
      refine JL.eff (ef_store_box (i := 1) (v := .agg #[.int .i64 0, .int .i64 0, .slice none 0 0]) i26 rfl rfl rfl (i26s).symm (Nat.le_of_ble_eq_true rfl) (by simp [Value.cells, Value.oneCell'])) rfl ?_
      rintro _ _ rfl
      refine JL.val (yl_assign rfl) rfl ?_
      refine JL.nil ?_
      refine JE.weak (env' := [(6, ptrAt (some ⟨g3, 0, none⟩) 0), (7, .int .i64 3)]) (es' := [boxO 26 g3 [.int .i64 0, .int .i64 0, .slice none 0 0]]) [1] ?_ ⟨rfl, rfl, trivial⟩ (by decide) rfl
      refine JE.code ?_
      refine JX.ret ?_
      refine JE.nilrow 2 eI64 ?_
      obtain rfl := Option.some.inj hres
      refine JE.ret (rs := [.cell 6 26, .tmp 7]) (vs := [.agg #[.int .i64 0, .int .i64 0, .slice none 0 0], .int .i64 3]) rfl ⟨rv_box 0 rfl rfl Go.Proofs.Try.underlying26 rfl i26 (i26s).symm, rfl, trivial⟩ ?_
      exact fun w' hb hs => ⟨_, _, ⟨none, 0, 0, rfl, rfl, rfl⟩, rfl, hb, hs.sel [1] _ (by decide) rfl⟩
    · refine JX.condF rfl hb ?_
      refine JX.skip ?_
      refine JE.code ?_
      refine JX.seq ?_
      refine JX.seq ?_
      refine JX.region ?_
      refine JL.val (yl_loadn Go.Proofs.Try.underlying26 rfl i26 rfl (fun w hC => rd_box hC 0 rfl) rfl (i26s).symm i26p) rfl ?_
      refine JL.val (yl_loadn Go.Proofs.Try.underlying42 rfl i42 rfl (fun w hC => rd_box hC 2 rfl) rfl (i42s).symm i42p) rfl ?_
      obtain ⟨x16, hx16, hres⟩ := bind_some hres
      refine JL.eff (ef_call (vs := [.agg #[.int .i64 q0.W, .int .i64 q0.H, .slice a_0_2 q0.Breaks.length c_0_2], .agg #[.int .i64 x12.1.X, .int .i64 x12.1.Y]]) (T := T187 x16) Go.Proofs.Try.func187 rfl (by kernel_rfl) rfl (fun w hC => c187 (q0 := q0) (q1 := x12.1) (rd_arg g_0_2 hC) rfl k_0_2 hx16)) rfl ?_
      rintro _ _ ⟨_, ⟨rfl, rfl⟩, rfl⟩
      refine JL.nil ?_
      refine JE.code ?_
      rcases cond_some hres with ⟨hb, hres⟩ | ⟨hb, hres⟩
      · refine JX.condT rfl hb ?_
        refine JX.seq ?_
        refine JX.region ?_
        refine JL.val (yl_build rfl (fun w => bld26_  w)) rfl ?_
        refine JL.eff (ef_store_box (i := 1) (v := .agg #[.int .i64 0, .int .i64 0, .slice none 0 0]) i26 rfl rfl rfl (i26s).symm (Nat.le_of_ble_eq_true rfl) (by simp [Value.cells, Value.oneCell'])) rfl ?_
        rintro _ _ rfl
        refine JL.val (yl_assign rfl) rfl ?_
        refine JL.nil ?_
        refine JE.weak (env' := [(6, ptrAt (some ⟨g3, 0, none⟩) 0), (7, .int .i64 6)]) (es' := [boxO 26 g3 [.int .i64 0, .int .i64 0, .slice none 0 0]]) [1] ?_ ⟨rfl, rfl, trivial⟩ (by decide) rfl
        refine JE.code ?_
        refine JX.ret ?_
        refine JE.nilrow 2 eI64 ?_
        obtain rfl := Option.some.inj hres
        refine JE.ret (rs := [.cell 6 26, .tmp 7]) (vs := [.agg #[.int .i64 0, .int .i64 0, .slice none 0 0], .int .i64 6]) rfl ⟨rv_box 0 rfl rfl Go.Proofs.Try.underlying26 rfl i26 (i26s).symm, rfl, trivial⟩ ?_
        exact fun w' hb hs => ⟨_, _, ⟨none, 0, 0, rfl, rfl, rfl⟩, rfl, hb, hs.sel [1] _ (by decide) rfl⟩
      · refine JX.condF rfl hb ?_
        refine JX.skip ?_
        refine JE.code ?_
        refine JX.seq ?_
        refine JX.drawH [(0, .read), (1, .read), (2, .read), (4, .pure), (5, .pure), (6, .pure), (3, .must), (7, .must), (8, .must), (9, .pure)] [8] [1] [0, 2] [boxO 26 g3 [.int .i64 0, .int .i64 0, .slice none 0 0]] [boxO 26 g1 [.int .i64 q0.W, .int .i64 q0.H, .slice a_0_2 q0.Breaks.length c_0_2], boxO 42 g13 [.int .i64 x12.1.X, .int .i64 x12.1.Y]] mixedP (by kernel_rfl) (by kernel_rfl) (by decide) rfl rfl ?_
        intro wrr18 Nr18 hFr18
        refine JH.read rfl (yl_loadn Go.Proofs.Try.underlying26 rfl i26 rfl (fun w hw => hFr18.box 0 rfl rfl hw) rfl (i26s).symm i26p) rfl ?_
        refine JH.read rfl (yl_loadn Go.Proofs.Try.underlying26 rfl i26 rfl (fun w hw => hFr18.box 0 rfl rfl hw) rfl (i26s).symm i26p) rfl ?_
        refine JH.read rfl (yl_loadn Go.Proofs.Try.underlying42 rfl i42 rfl (fun w hw => hFr18.box 2 rfl rfl hw) rfl (i42s).symm i42p) rfl ?_
        refine JH.pure rfl (yl_build rfl (fun w => bld154_0_1_2 0 1 2 w)) rfl ?_
        refine JH.pure rfl (yl_move rfl) rfl ?_
        obtain ⟨x19, hx19, hres⟩ := bind_some hres
        refine JH.pure rfl (yl_idxV (xs := [0, 1, 2]) Go.Proofs.Try.underlying154 Go.Proofs.Try.underlying2 rfl i2 i2s rfl rfl rfl hx19) rfl ?_
        obtain ⟨x20, hx20, hres⟩ := bind_some hres
        refine JH.must rfl (ef_call (vs := [.agg #[.int .i64 q0.W, .int .i64 q0.H, .slice a_0_2 q0.Breaks.length c_0_2], .agg #[.int .i64 x12.1.X, .int .i64 x12.1.Y]]) (T := T194 x20) Go.Proofs.Try.func194 rfl (by kernel_rfl) rfl (fun w hC => c194 (q0 := q0) (q1 := x12.1) (hFr18.arg g_0_2 hC.1) rfl k_0_2 hx20)) rfl rfl ?_
        rintro _ _ ⟨_, ⟨rfl, rfl⟩, rfl⟩
        obtain ⟨x21, hx21, hres⟩ := bind_some hres
        refine JH.must rfl (ef_call (vs := [.agg #[.int .i64 q0.W, .int .i64 q0.H, .slice a_0_2 q0.Breaks.length c_0_2], .int .i64 x20, .int .i64 x19]) (T := T193 x21) Go.Proofs.Try.func193 rfl (by kernel_rfl) rfl (fun w hC => c193 (q0 := q0) (hFr18.arg g_0_2 hC.1) rfl k_0_2 hx21)) rfl rfl ?_
        rintro _ _ ⟨_, ⟨a22, _, cp23, rfl, rfl, rfl⟩, rfl⟩
        refine JH.must rfl (ef_store_box (i := 0) (v := .agg #[.int .i64 x21.W, .int .i64 x21.H, .slice a22 x21.Breaks.length cp23]) i26 rfl rfl rfl (i26s).symm (Nat.le_of_ble_eq_true rfl) (by simp [Value.cells, Value.oneCell'])) rfl rfl ?_
        rintro _ _ rfl
        refine JH.pure rfl (yl_assign rfl) rfl ?_
        refine JH.nil ?_
        refine JE.weak (env' := [(6, ptrAt (some ⟨g3, 0, none⟩) 0), (7, .int .i64 0)]) (es' := [boxO 26 g3 [.int .i64 x21.W, .int .i64 x21.H, .slice a22 x21.Breaks.length cp23], rowT 2 eI64 a22 x21.Breaks.length cp23 x21.Breaks]) [2, 3] ?_ ⟨rfl, rfl, trivial⟩ (by decide) rfl
        refine JE.code ?_
        refine JX.ret ?_
        obtain rfl := Option.some.inj hres
        refine JE.ret (rs := [.cell 6 26, .tmp 7]) (vs := [.agg #[.int .i64 x21.W, .int .i64 x21.H, .slice a22 x21.Breaks.length cp23], .int .i64 0]) rfl ⟨rv_box 0 rfl rfl Go.Proofs.Try.underlying26 rfl i26 (i26s).symm, rfl, trivial⟩ ?_
        exact fun w' hb hs => ⟨_, _, ⟨a22, x21.Breaks.length, cp23, rfl, rfl, rfl⟩, rfl, hb, hs.sel [1] _ (by decide) rfl⟩

/- impl.ApplyStroke -/
def sh40 (q0 : SPanel) (q1 : List SPoint) (q2 : Int) : Option (SPanel × Int) := Option.bind (sh128 q0) fun x5 => Option.bind (bif !x5 then (some true) else (Option.bind (sh47 q1) fun x7 => some !x7)) fun cb6 => (bif cb6 then (some (SPanel.mk 0 0 ([] : List Int), 1)) else (Option.bind (sh123 q2) fun x9 => bif !x9 then (some (SPanel.mk 0 0 ([] : List Int), 2)) else (Option.bind (sh129 q0 q1 q2) fun x11 => some (x11.1, x11.2))))
def T40 (r : SPanel × Int) (v : Value) (rs : List Own) : Prop := ∃ (a0_2 : Option Addr) (n0_2 c0_2 : Nat), r.1.Breaks.length = n0_2 ∧ v = rets [.agg #[.int .i64 r.1.W, .int .i64 r.1.H, .slice a0_2 n0_2 c0_2], .int .i64 r.2] ∧ rs = [rowT 2 eI64 a0_2 n0_2 c0_2 r.1.Breaks]
set_option maxRecDepth 100000 in
theorem c40 {w : World} {q0 : SPanel} {a_0_2 : Option Addr} {n_0_2 c_0_2 : Nat} (g_0_2 : Rd w a_0_2 (eI64.fl q0.Breaks)) (l_0_2 : q0.Breaks.length = n_0_2) (k_0_2 : n_0_2 ≤ c_0_2) {q1 : List SPoint} {a_1 : Option Addr} {n_1 c_1 : Nat} (g_1 : Rd w a_1 (eSPoint.fl q1)) (l_1 : q1.length = n_1) (k_1 : n_1 ≤ c_1) {q2 : Int} {r : SPanel × Int} (hres : sh40 q0 q1 q2 = some r) : Calls Go.Proofs.Try.prog 40 [.agg #[.int .i64 q0.W, .int .i64 q0.H, .slice a_0_2 n_0_2 c_0_2], .slice a_1 n_1 c_1, .int .i64 q2].toArray w (Ret w (T40 r)) := by
  subst l_0_2
  subst l_1
  unfold sh40 at hres
  refine calls_of (n := 27) (M := []) (es := []) Go.Proofs.Try.func40 rfl rfl rfl (Sep.nil _ _ _) ?_
  refine JX.seq ?_
  refine JX.region ?_
  refine JL.eff (ef_box rfl rfl) rfl ?_
  rintro _ _ ⟨g1, rfl, rfl⟩
  refine JL.eff (ef_alloc i26 i26z rfl) rfl ?_
  rintro _ _ ⟨g3, rfl, rfl⟩
  refine JL.val (yl_assign rfl) rfl ?_
  refine JL.nil ?_
  refine JE.code ?_
  refine JX.seq ?_
  refine JX.seq ?_
  refine JX.region ?_
  refine JL.val (yl_loadn Go.Proofs.Try.underlying26 rfl i26 rfl (fun w hC => rd_box hC 0 rfl) rfl (i26s).symm i26p) rfl ?_
  obtain ⟨x5, hx5, hres⟩ := bind_some hres
  refine JL.eff (ef_call (vs := [.agg #[.int .i64 q0.W, .int .i64 q0.H, .slice a_0_2 q0.Breaks.length c_0_2]]) (T := T128 x5) Go.Proofs.Try.func128 rfl (by kernel_rfl) rfl (fun w hC => c128 (q0 := q0) (rd_arg g_0_2 hC) rfl k_0_2 hx5)) rfl ?_
  rintro _ _ ⟨_, ⟨rfl, rfl⟩, rfl⟩
  refine JL.val (yl_not rfl) rfl ?_
  refine JL.val (yl_move rfl) rfl ?_
  obtain ⟨cb6, hcb6, hres⟩ := bind_some hres
  refine JL.cut (K := fun J => J [(1, .slice a_1 q1.length c_1), (2, .int .i64 q2), (3, ptrAt (some ⟨g1, 0, none⟩) 0), (6, ptrAt (some ⟨g3, 0, none⟩) 0), (15, .bool cb6)] [boxO 26 g1 [.int .i64 q0.W, .int .i64 q0.H, .slice a_0_2 q0.Breaks.length c_0_2], boxO 26 g3 [.int .i64 0, .int .i64 0, .slice none 0 0]]) 4 ?_ ?_
  · refine JL.nil ?_
    refine JE.weak (env' := [(1, .slice a_1 q1.length c_1), (2, .int .i64 q2), (3, ptrAt (some ⟨g1, 0, none⟩) 0), (6, ptrAt (some ⟨g3, 0, none⟩) 0), (15, .bool cb6)]) (es' := [boxO 26 g1 [.int .i64 q0.W, .int .i64 q0.H, .slice a_0_2 q0.Breaks.length c_0_2], boxO 26 g3 [.int .i64 0, .int .i64 0, .slice none 0 0]]) [0, 1] ?_ ⟨rfl, rfl, rfl, rfl, rfl, trivial⟩ (by decide) rfl
    refine JE.code ?_
    rcases cond_some hres with ⟨hb, hres⟩ | ⟨hb, hres⟩
    · refine JX.condT rfl hb ?_
      refine JX.seq ?_
      refine JX.region ?_
      refine JL.val (yl_build rfl (fun w => bld26_  w)) rfl ?_
      refine JL.eff (ef_store_box (i := 1) (v := .agg #[.int .i64 0, .int .i64 0, .slice none 0 0]) i26 rfl rfl rfl (i26s).symm (Nat.le_of_ble_eq_true rfl) (by simp [Value.cells, Value.oneCell'])) rfl ?_
      rintro _ _ rfl
      refine JL.val (yl_assign rfl) rfl ?_
      refine JL.nil ?_
      refine JE.weak (env' := [(6, ptrAt (some ⟨g3, 0, none⟩) 0), (7, .int .i64 1)]) (es' := [boxO 26 g3 [.int .i64 0, .int .i64 0, .slice none 0 0]]) [1] ?_ ⟨rfl, rfl, trivial⟩ (by decide) rfl
      refine JE.code ?_
      refine JX.ret ?_
      refine JE.nilrow 2 eI64 ?_
      obtain rfl := Option.some.inj hres
      refine JE.ret (rs := [.cell 6 26, .tmp 7]) (vs := [.agg #[.int .i64 0, .int .i64 0, .slice none 0 0], .int .i64 1]) rfl ⟨rv_box 0 rfl rfl Go.Proofs.Try.underlying26 rfl i26 (i26s).symm, rfl, trivial⟩ ?_
      exact fun w' hb hs => ⟨_, _, ⟨none, 0, 0, rfl, rfl, rfl⟩, rfl, hb, hs.sel [1] _ (by decide) rfl⟩
    · refine JX.condF rfl hb ?_
      refine JX.skip ?_
      refine JE.code ?_
      refine JX.seq ?_
      refine JX.seq ?_
      refine JX.region ?_
      refine JL.val (yl_move rfl) rfl ?_
      obtain ⟨x9, hx9, hres⟩ := bind_some hres
      refine JL.eff (ef_call (T := T123 x9) Go.Proofs.Try.func123 rfl (by kernel_rfl) rfl (fun w hC => c123  hx9)) rfl ?_
      rintro _ _ ⟨_, ⟨rfl, rfl⟩, rfl⟩
      refine JL.val (yl_not rfl) rfl ?_
      refine JL.nil ?_
      refine JE.code ?_
      rcases cond_some hres with ⟨hb, hres⟩ | ⟨hb, hres⟩
      · refine JX.condT rfl hb ?_
        refine JX.seq ?_
        refine JX.region ?_
        refine JL.val (yl_build rfl (fun w => bld26_  w)) rfl ?_
        refine JL.eff (ef_store_box (i := 1) (v := .agg #[.int .i64 0, .int .i64 0, .slice none 0 0]) i26 rfl rfl rfl (i26s).symm (Nat.le_of_ble_eq_true rfl) (by simp [Value.cells, Value.oneCell'])) rfl ?_
        rintro _ _ rfl
        refine JL.val (yl_assign rfl) rfl ?_
        refine JL.nil ?_
        refine JE.weak (env' := [(6, ptrAt (some ⟨g3, 0, none⟩) 0), (7, .int .i64 2)]) (es' := [boxO 26 g3 [.int .i64 0, .int .i64 0, .slice none 0 0]]) [1] ?_ ⟨rfl, rfl, trivial⟩ (by decide) rfl
        refine JE.code ?_
        refine JX.ret ?_
        refine JE.nilrow 2 eI64 ?_
        obtain rfl := Option.some.inj hres
        refine JE.ret (rs := [.cell 6 26, .tmp 7]) (vs := [.agg #[.int .i64 0, .int .i64 0, .slice none 0 0], .int .i64 2]) rfl ⟨rv_box 0 rfl rfl Go.Proofs.Try.underlying26 rfl i26 (i26s).symm, rfl, trivial⟩ ?_
        exact fun w' hb hs => ⟨_, _, ⟨none, 0, 0, rfl, rfl, rfl⟩, rfl, hb, hs.sel [1] _ (by decide) rfl⟩
      · refine JX.condF rfl hb ?_
        refine JX.skip ?_
        refine JE.code ?_
        refine JX.seq ?_
        refine JX.region ?_
        refine JL.val (yl_loadn Go.Proofs.Try.underlying26 rfl i26 rfl (fun w hC => rd_box hC 0 rfl) rfl (i26s).symm i26p) rfl ?_
        refine JL.val (yl_move rfl) rfl ?_
        refine JL.val (yl_move rfl) rfl ?_
        obtain ⟨x11, hx11, hres⟩ := bind_some hres
        refine JL.eff (ef_call (vs := [.agg #[.int .i64 q0.W, .int .i64 q0.H, .slice a_0_2 q0.Breaks.length c_0_2], .slice a_1 q1.length c_1, .int .i64 q2]) (T := T129 x11) Go.Proofs.Try.func129 rfl (by kernel_rfl) rfl (fun w hC => c129 (q0 := q0) (rd_arg g_0_2 hC) rfl k_0_2 (rd_arg g_1 hC) rfl k_1 hx11)) rfl ?_
        rintro _ _ ⟨_, ⟨a12, _, cp13, rfl, rfl, rfl⟩, rfl⟩
        refine JL.val (yl_extract rfl rfl) rfl ?_
        refine JL.val (yl_extract rfl rfl) rfl ?_
        refine JL.eff (ef_store_box (i := 1) (v := .agg #[.int .i64 x11.1.W, .int .i64 x11.1.H, .slice a12 x11.1.Breaks.length cp13]) i26 rfl rfl rfl (i26s).symm (Nat.le_of_ble_eq_true rfl) (by simp [Value.cells, Value.oneCell'])) rfl ?_
        rintro _ _ rfl
        refine JL.val (yl_assign rfl) rfl ?_
        refine JL.nil ?_
        refine JE.weak (env' := [(6, ptrAt (some ⟨g3, 0, none⟩) 0), (7, .int .i64 x11.2)]) (es' := [boxO 26 g3 [.int .i64 x11.1.W, .int .i64 x11.1.H, .slice a12 x11.1.Breaks.length cp13], rowT 2 eI64 a12 x11.1.Breaks.length cp13 x11.1.Breaks]) [1, 2] ?_ ⟨rfl, rfl, trivial⟩ (by decide) rfl
        refine JE.code ?_
        refine JX.ret ?_
        obtain rfl := Option.some.inj hres
        refine JE.ret (rs := [.cell 6 26, .tmp 7]) (vs := [.agg #[.int .i64 x11.1.W, .int .i64 x11.1.H, .slice a12 x11.1.Breaks.length cp13], .int .i64 x11.2]) rfl ⟨rv_box 0 rfl rfl Go.Proofs.Try.underlying26 rfl i26 (i26s).symm, rfl, trivial⟩ ?_
        exact fun w' hb hs => ⟨_, _, ⟨a12, x11.1.Breaks.length, cp13, rfl, rfl, rfl⟩, rfl, hb, hs.sel [1] _ (by decide) rfl⟩
  · intro K
    rcases cond_some hcb6 with ⟨hb, hres⟩ | ⟨hb, hres⟩
    · refine JL.set (d := 11) (v := .bool true) (congrArg (fun b => some (Value.bool b)) hb) ?_
      refine JL.gskip rfl rfl rfl rfl ?_
      refine JL.gskip rfl rfl rfl rfl ?_
      refine JL.gskip rfl rfl rfl rfl ?_
      refine JL.val (yl_pick_true rfl rfl) rfl ?_
      have he := Option.some.inj hres
      exact JL.weak [0, 1] K ⟨rfl, rfl, rfl, rfl, (by rw [← he]; rfl), trivial⟩ (by decide) rfl
    · refine JL.set (d := 11) (v := .bool false) (congrArg (fun b => some (Value.bool b)) hb) ?_
      refine JL.gval rfl rfl (yl_move rfl) rfl ?_
      obtain ⟨x7, hx7, hres⟩ := bind_some hres
      refine JL.geff rfl rfl (ef_call (T := T47 x7) Go.Proofs.Try.func47 rfl (by kernel_rfl) rfl (fun w hC => c47 (rd_arg g_1 hC) rfl k_1 hx7)) rfl ?_
      rintro _ _ ⟨_, ⟨rfl, rfl⟩, rfl⟩
      refine JL.gval rfl rfl (yl_not rfl) rfl ?_
      refine JL.val (yl_pick_false rfl rfl) rfl ?_
      have he := Option.some.inj hres
      exact JL.weak [0, 1] K ⟨rfl, rfl, rfl, rfl, (by rw [← he]; rfl), trivial⟩ (by decide) rfl

/- spec.l19Ok -/
def sh130_1 (q0 : List SPoint) : Int → Option (Int ⊕ (Unit ⊕ Bool))
  | x1 => bif decide (x1 < (q0.length : Int)) then (Option.bind (getI q0 x1) fun x2 => Option.bind (sh100 x2.X 0 2000) fun x3 => Option.bind (bif !x3 then (some true) else (Option.bind (getI q0 x1) fun x5 => Option.bind (sh100 x5.Y 0 2000) fun x6 => some !x6)) fun cb4 => (bif cb4 then (some (.inr (.inr false))) else (some (.inl (w64 (x1 + 1)))))) else (some (.inr (.inl ())))
def sh130 (q0 : List SPoint) : Option (Bool) := Option.bind (iter (sh130_1 q0) 0) fun y1 => elimS y1 (fun r => some r) fun b1 => (Option.bind (sh100 (q0.length : Int) 1 60) fun x7 => some x7)
def T130 (r : Bool) (v : Value) (rs : List Own) : Prop := v = rets [.bool r] ∧ rs = []
set_option maxRecDepth 100000 in
theorem c130 {w : World} {q0 : List SPoint} {a_0 : Option Addr} {n_0 c_0 : Nat} (g_0 : Rd w a_0 (eSPoint.fl q0)) (l_0 : q0.length = n_0) (k_0 : n_0 ≤ c_0) {r : Bool} (hres : sh130 q0 = some r) : Calls Go.Proofs.Try.prog 130 [.slice a_0 n_0 c_0].toArray w (Ret w (T130 r)) := by
  subst l_0
  unfold sh130 at hres
  refine calls_of (n := 29) (M := []) (es := []) Go.Proofs.Try.func130 rfl rfl rfl (Sep.nil _ _ _) ?_
  refine JX.seq ?_
  refine JX.region ?_
  refine JL.val (yl_assign rfl) rfl ?_
  refine JL.nil ?_
  refine JE.code ?_
  refine JX.seq ?_
  refine JX.seq ?_
  refine JX.region ?_
  refine JL.val (yl_assign rfl) rfl ?_
  refine JL.nil ?_
  refine JE.code ?_
  refine JX.block ?_
  obtain ⟨y1, hy1, hresO1⟩ := bind_some hres
  refine JX.loop (I := fun (s1 : Int) aa ww => St w [] 29 [(0, .slice a_0 q0.length c_0), (3, .int .i64 s1)] [] aa ww) (sh130_1 q0) hy1 (fun a w h => h.weak ⟨rfl, rfl, trivial⟩ [] (by decide) rfl) ?_
  rintro x1 o1 hres hox1 aa ww hS
  refine (?_ : JX Go.Proofs.Try.prog w [] 29 _ _ [(0, .slice a_0 q0.length c_0), (3, .int .i64 x1)] [] _) aa ww hS
  clear hS
  unfold sh130_1 at hres
  refine JX.seq ?_
  refine JX.seq ?_
  refine JX.region ?_
  refine JL.val (yl_move rfl) rfl ?_
  refine JL.val (yl_move rfl) rfl ?_
  refine JL.val (yl_len_slice Go.Proofs.Try.underlying34 rfl) rfl ?_
  refine JL.val (yl_lss rfl rfl) rfl ?_
  refine JL.nil ?_
  refine JE.weak (env' := [(0, .slice a_0 q0.length c_0), (3, .int .i64 x1), (7, .bool (decide (x1 < (q0.length : Int))))]) (es' := []) [] ?_ ⟨rfl, rfl, rfl, trivial⟩ (by decide) rfl
  refine JE.code ?_
  rcases cond_some hres with ⟨hb, hres⟩ | ⟨hb, hres⟩
  · refine JX.condT rfl hb ?_
    refine JX.skip ?_
    refine JE.code ?_
    refine JX.seq ?_
    refine JX.block ?_
    refine JX.seq ?_
    refine JX.region ?_
    refine JL.val (yl_move rfl) rfl ?_
    refine JL.val (yl_move rfl) rfl ?_
    obtain ⟨x2, hx2, hres⟩ := bind_some hres
    refine JL.val (yl_idxT Go.Proofs.Try.underlying34 i42 i42s rfl rfl hx2 rfl (fun w hC => rd_arg g_0 hC)) rfl ?_
    refine JL.val (yl_fieldAtT Go.Proofs.Try.underlying42 rfl i2 i2n rfl hx2 (fun w hC => rd_arg g_0 hC)) rfl ?_
    refine JL.val (yl_loadT1 Go.Proofs.Try.underlying2 rfl rfl hx2 (fun w hC => rd_arg g_0 hC) rfl) rfl ?_
    obtain ⟨x3, hx3, hres⟩ := bind_some hres
    refine JL.eff (ef_call (T := T100 x3) Go.Proofs.Try.func100 rfl (by kernel_rfl) rfl (fun w hC => c100  hx3)) rfl ?_
    rintro _ _ ⟨_, ⟨rfl, rfl⟩, rfl⟩
    refine JL.val (yl_not rfl) rfl ?_
    refine JL.val (yl_move rfl) rfl ?_
    obtain ⟨cb4, hcb4, hres⟩ := bind_some hres
    refine JL.cut (K := fun J => J [(0, .slice a_0 q0.length c_0), (3, .int .i64 x1), (25, .bool cb4)] []) 8 ?_ ?_
    · refine JL.nil ?_
      refine JE.weak (env' := [(0, .slice a_0 q0.length c_0), (3, .int .i64 x1), (25, .bool cb4)]) (es' := []) [] ?_ ⟨rfl, rfl, rfl, trivial⟩ (by decide) rfl
      refine JE.code ?_
      rcases cond_some hres with ⟨hb, hres⟩ | ⟨hb, hres⟩
      · refine JX.condT rfl hb ?_
        refine JX.seq ?_
        refine JX.region ?_
        refine JL.val (yl_assign rfl) rfl ?_
        refine JL.nil ?_
        refine JE.code ?_
        refine JX.ret ?_
        refine JE.qbr ?_
        refine JE.qbr ?_
        have hres := elimS_inr hresO1 (hox1 _ (Option.some.inj hres).symm)
        obtain rfl := Option.some.inj hres
        refine JE.ret (rs := [.tmp 2]) (vs := [.bool false]) rfl ⟨rfl, trivial⟩ ?_
        exact fun w' hb hs => ⟨_, _, ⟨rfl, rfl⟩, rfl, hb, hs.sel [] _ (by decide) rfl⟩
      · refine JX.condF rfl hb ?_
        refine JX.skip ?_
        refine JE.code ?_
        refine JX.region ?_
        refine JL.val (yl_move rfl) rfl ?_
        refine JL.val (yl_add rfl rfl) rfl ?_
        refine JL.val (yl_assign rfl) rfl ?_
        refine JL.nil ?_
        refine JE.cont hres ?_
        exact fun a w h => h.weak ⟨rfl, rfl, trivial⟩ [] (by decide) rfl
    · intro K
      rcases cond_some hcb4 with ⟨hb, hres⟩ | ⟨hb, hres⟩
      · refine JL.set (d := 17) (v := .bool true) (congrArg (fun b => some (Value.bool b)) hb) ?_
        refine JL.gskip rfl rfl rfl rfl ?_
        refine JL.gskip rfl rfl rfl rfl ?_
        refine JL.gskip rfl rfl rfl rfl ?_
        refine JL.gskip rfl rfl rfl rfl ?_
        refine JL.gskip rfl rfl rfl rfl ?_
        refine JL.gskip rfl rfl rfl rfl ?_
        refine JL.gskip rfl rfl rfl rfl ?_
        refine JL.val (yl_pick_true rfl rfl) rfl ?_
        have he := Option.some.inj hres
        exact JL.weak [] K ⟨rfl, rfl, (by rw [← he]; rfl), trivial⟩ (by decide) rfl
      · refine JL.set (d := 17) (v := .bool false) (congrArg (fun b => some (Value.bool b)) hb) ?_
        refine JL.gval rfl rfl (yl_move rfl) rfl ?_
        refine JL.gval rfl rfl (yl_move rfl) rfl ?_
        obtain ⟨x5, hx5, hres⟩ := bind_some hres
        refine JL.gval rfl rfl (yl_idxT Go.Proofs.Try.underlying34 i42 i42s rfl rfl hx5 rfl (fun w hC => rd_arg g_0 hC)) rfl ?_
        refine JL.gval rfl rfl (yl_fieldAtT Go.Proofs.Try.underlying42 rfl i2 i2n rfl hx5 (fun w hC => rd_arg g_0 hC)) rfl ?_
        refine JL.gval rfl rfl (yl_loadT1 Go.Proofs.Try.underlying2 rfl rfl hx5 (fun w hC => rd_arg g_0 hC) rfl) rfl ?_
        obtain ⟨x6, hx6, hres⟩ := bind_some hres
        refine JL.geff rfl rfl (ef_call (T := T100 x6) Go.Proofs.Try.func100 rfl (by kernel_rfl) rfl (fun w hC => c100  hx6)) rfl ?_
        rintro _ _ ⟨_, ⟨rfl, rfl⟩, rfl⟩
        refine JL.gval rfl rfl (yl_not rfl) rfl ?_
        refine JL.val (yl_pick_false rfl rfl) rfl ?_
        have he := Option.some.inj hres
        exact JL.weak [] K ⟨rfl, rfl, (by rw [← he]; rfl), trivial⟩ (by decide) rfl
  · refine JX.condF rfl hb ?_
    refine JX.exit ?_
    refine JE.qb rfl ?_
    obtain ⟨b1, hb1⟩ : ∃ b : Unit, b = () := ⟨_, rfl⟩
    have hy1 : Sum.inl b1 = y1 := by rw [hb1]; exact hox1 _ (Option.some.inj hres).symm
    have hres := elimS_inl hresO1 hy1
    refine JE.weak (env' := [(0, .slice a_0 q0.length c_0)]) (es' := []) [] ?_ ⟨(by subst hb1; rfl), trivial⟩ (by decide) (by subst hb1; rfl)
    refine JE.code ?_
    refine JX.seq ?_
    refine JX.region ?_
    refine JL.val (yl_move rfl) rfl ?_
    refine JL.val (yl_len_slice Go.Proofs.Try.underlying34 rfl) rfl ?_
    obtain ⟨x7, hx7, hres⟩ := bind_some hres
    refine JL.eff (ef_call (T := T100 x7) Go.Proofs.Try.func100 rfl (by kernel_rfl) rfl (fun w hC => c100  hx7)) rfl ?_
    rintro _ _ ⟨_, ⟨rfl, rfl⟩, rfl⟩
    refine JL.val (yl_assign rfl) rfl ?_
    refine JL.nil ?_
    refine JE.weak (env' := [(2, .bool x7)]) (es' := []) [] ?_ ⟨rfl, trivial⟩ (by decide) rfl
    refine JE.code ?_
    refine JX.ret ?_
    obtain rfl := Option.some.inj hres
    refine JE.ret (rs := [.tmp 2]) (vs := [.bool x7]) rfl ⟨rfl, trivial⟩ ?_
    exact fun w' hb hs => ⟨_, _, ⟨rfl, rfl⟩, rfl, hb, hs.sel [] _ (by decide) rfl⟩

end Go.Sh
