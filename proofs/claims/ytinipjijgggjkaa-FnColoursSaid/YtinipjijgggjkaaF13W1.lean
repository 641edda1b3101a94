/- Walks through functions that the law reaches, printed by program. -/
import Derived.Test.YtinipjijgggjkaaF13W0
set_option linter.unusedVariables false
set_option linter.unusedSimpArgs false
namespace Go.Sh
open Go Go.RowKit
/- impl.ValidPanel -/
def sh86_1 (q0 : SPanel) : Int → Option (Int ⊕ (Unit ⊕ Bool))
  | x7 => bif decide (x7 < (q0.Breaks.length : Int)) then (Option.bind (getI q0.Breaks x7) fun x8 => Option.bind (sh148 x8) fun x9 => bif !x9 then (some (.inr (.inr false))) else (some (.inl (w64 (x7 + 1))))) else (some (.inr (.inl ())))
def sh86 (q0 : SPanel) : Option (Bool) := Option.bind (sh146 q0.W q0.H) fun x4 => Option.bind (bif !x4 then (some true) else (Option.bind (sh147 q0.W q0.H) fun x6 => some ((q0.Breaks.length : Int) != x6))) fun cb5 => (bif cb5 then (some false) else (Option.bind (iter (sh86_1 q0) 0) fun y1 => elimS y1 (fun r => some r) fun b1 => (some true)))
def T86 (r : Bool) (v : Value) (rs : List Own) : Prop := v = rets [.bool r] ∧ rs = []
set_option maxRecDepth 100000 in
theorem c86 {w : World} {q0 : SPanel} {a_0_2 : Option Addr} {n_0_2 c_0_2 : Nat} (g_0_2 : Rd w a_0_2 (eI64.fl q0.Breaks)) (l_0_2 : q0.Breaks.length = n_0_2) (k_0_2 : n_0_2 ≤ c_0_2) {r : Bool} (hres : sh86 q0 = some r) : Calls Go.Proofs.Try.prog 86 [.agg #[.int .i64 q0.W, .int .i64 q0.H, .slice a_0_2 n_0_2 c_0_2]].toArray w (Ret w (T86 r)) := by
  subst l_0_2
  unfold sh86 at hres
  refine calls_of (n := 33) (M := []) (es := []) Go.Proofs.Try.func86 rfl rfl rfl (Sep.nil _ _ _) ?_
  refine JX.seq ?_
  refine JX.region ?_
  refine JL.eff (ef_box rfl rfl) rfl ?_
  rintro _ _ ⟨g1, rfl, rfl⟩
  refine JL.val (yl_assign rfl) rfl ?_
  refine JL.nil ?_
  refine JE.code ?_
  refine JX.seq ?_
  refine JX.seq ?_
  refine JX.drawH [(0, .pure), (1, .read), (2, .pure), (3, .read), (4, .must), (5, .pure), (6, .pure), (7, .pure), (8, .read), (9, .pure), (10, .pure), (11, .read), (12, .pure), (13, .read), (14, .must), (15, .pure), (16, .pure)] [] [] [0] [] [boxO 28 g1 [.int .i64 q0.W, .int .i64 q0.H, .slice a_0_2 q0.Breaks.length c_0_2]] mixedP (by kernel_rfl) (by kernel_rfl) (by decide) rfl rfl ?_
  intro wrr3 Nr3 hFr3
  refine JH.pure rfl (yl_fieldAt (a := some _) Go.Proofs.Try.underlying28 rfl i2 i2n rfl rfl) rfl ?_
  refine JH.read rfl (yl_load1 Go.Proofs.Try.underlying2 rfl rfl (fun w hw => hFr3.box 0 rfl rfl hw) rfl) rfl ?_
  refine JH.pure rfl (yl_fieldAt (a := some _) Go.Proofs.Try.underlying28 rfl i2 i2n rfl rfl) rfl ?_
  refine JH.read rfl (yl_load1 Go.Proofs.Try.underlying2 rfl rfl (fun w hw => hFr3.box 0 rfl rfl hw) rfl) rfl ?_
  obtain ⟨x4, hx4, hres⟩ := bind_some hres
  refine JH.must rfl (ef_call (T := T146 x4) Go.Proofs.Try.func146 rfl (by kernel_rfl) rfl (fun w hC => c146  hx4)) rfl rfl ?_
  rintro _ _ ⟨_, ⟨rfl, rfl⟩, rfl⟩
  refine JH.pure rfl (yl_not rfl) rfl ?_
  refine JH.pure rfl (yl_move rfl) rfl ?_
  obtain ⟨cb5, hcb5, hres⟩ := bind_some hres
  refine JH.cut (K := fun J => J [(1, ptrAt (some ⟨g1, 0, none⟩) 0), (21, .bool cb5)] []) 10 ?_ ?_
  · refine JH.nil ?_
    refine JE.weak (env' := [(1, ptrAt (some ⟨g1, 0, none⟩) 0), (21, .bool cb5)]) (es' := [boxO 28 g1 [.int .i64 q0.W, .int .i64 q0.H, .slice a_0_2 q0.Breaks.length c_0_2]]) [0] ?_ ⟨rfl, rfl, trivial⟩ (by decide) rfl
    refine JE.code ?_
    rcases cond_some hres with ⟨hb, hres⟩ | ⟨hb, hres⟩
    · refine JX.condT rfl hb ?_
      refine JX.seq ?_
      refine JX.region ?_
      refine JL.val (yl_assign rfl) rfl ?_
      refine JL.nil ?_
      refine JE.weak (env' := [(2, .bool false)]) (es' := []) [] ?_ ⟨rfl, trivial⟩ (by decide) rfl
      refine JE.code ?_
      refine JX.ret ?_
      obtain rfl := Option.some.inj hres
      refine JE.ret (rs := [.tmp 2]) (vs := [.bool false]) rfl ⟨rfl, trivial⟩ ?_
      exact fun w' hb hs => ⟨_, _, ⟨rfl, rfl⟩, rfl, hb, hs.sel [] _ (by decide) rfl⟩
    · refine JX.condF rfl hb ?_
      refine JX.skip ?_
      refine JE.code ?_
      refine JX.seq ?_
      refine JX.seq ?_
      refine JX.region ?_
      refine JL.val (yl_fieldAt (a := some _) Go.Proofs.Try.underlying28 rfl i22 i22n rfl rfl) rfl ?_
      refine JL.val (yl_load1 Go.Proofs.Try.underlying22 rfl rfl (fun w hC => rd_box hC 0 rfl) rfl) rfl ?_
      refine JL.val (yl_len_slice Go.Proofs.Try.underlying22 rfl) rfl ?_
      refine JL.val (yl_move rfl) rfl ?_
      refine JL.nil ?_
      refine JE.weak (env' := [(23, .slice a_0_2 q0.Breaks.length c_0_2), (24, .int .i64 (q0.Breaks.length : Int)), (25, .int .i64 0)]) (es' := []) [] ?_ ⟨rfl, rfl, rfl, trivial⟩ (by decide) rfl
      refine JE.code ?_
      refine JX.block ?_
      obtain ⟨y1, hy1, hresO1⟩ := bind_some hres
      refine JX.loop (I := fun (s1 : Int) aa ww => St w [] 33 [(23, .slice a_0_2 q0.Breaks.length c_0_2), (24, .int .i64 (q0.Breaks.length : Int)), (25, .int .i64 s1)] [] aa ww) (sh86_1 q0) hy1 (fun a w h => h.weak ⟨rfl, rfl, rfl, trivial⟩ [] (by decide) rfl) ?_
      rintro x7 o1 hres hox1 aa ww hS
      refine (?_ : JX Go.Proofs.Try.prog w [] 33 _ _ [(23, .slice a_0_2 q0.Breaks.length c_0_2), (24, .int .i64 (q0.Breaks.length : Int)), (25, .int .i64 x7)] [] _) aa ww hS
      clear hS
      unfold sh86_1 at hres
      refine JX.seq ?_
      refine JX.region ?_
      refine JL.val (yl_lss rfl rfl) rfl ?_
      refine JL.nil ?_
      refine JE.code ?_
      refine JX.seq ?_
      rcases cond_some hres with ⟨hb, hres⟩ | ⟨hb, hres⟩
      · refine JX.condT rfl hb ?_
        refine JX.skip ?_
        refine JE.code ?_
        refine JX.seq ?_
        refine JX.block ?_
        refine JX.seq ?_
        refine JX.region ?_
        obtain ⟨x8, hx8, hres⟩ := bind_some hres
        refine JL.val (yl_idxT Go.Proofs.Try.underlying22 i2 i2s rfl rfl hx8 rfl (fun w hC => rd_arg g_0_2 hC)) rfl ?_
        refine JL.val (yl_loadT0 Go.Proofs.Try.underlying2 rfl rfl hx8 (fun w hC => rd_arg g_0_2 hC) rfl) rfl ?_
        refine JL.val (yl_assign rfl) rfl ?_
        refine JL.nil ?_
        refine JE.code ?_
        refine JX.seq ?_
        refine JX.region ?_
        refine JL.val (yl_move rfl) rfl ?_
        obtain ⟨x9, hx9, hres⟩ := bind_some hres
        refine JL.eff (ef_call (T := T148 x9) Go.Proofs.Try.func148 rfl (by kernel_rfl) rfl (fun w hC => c148  hx9)) rfl ?_
        rintro _ _ ⟨_, ⟨rfl, rfl⟩, rfl⟩
        refine JL.val (yl_not rfl) rfl ?_
        refine JL.nil ?_
        refine JE.code ?_
        rcases cond_some hres with ⟨hb, hres⟩ | ⟨hb, hres⟩
        · refine JX.condT rfl hb ?_
          refine JX.seq ?_
          refine JX.region ?_
          refine JL.val (yl_assign rfl) rfl ?_
          refine JL.nil ?_
          refine JE.code ?_
          refine JX.ret ?_
          refine JE.qbr ?_
          refine JE.qbr ?_
          have hres := elimS_inr hresO1 (hox1 _ (Option.some.inj hres).symm)
          obtain rfl := Option.some.inj hres
          refine JE.ret (rs := [.tmp 2]) (vs := [.bool false]) rfl ⟨rfl, trivial⟩ ?_
          exact fun w' hb hs => ⟨_, _, ⟨rfl, rfl⟩, rfl, hb, hs.sel [] _ (by decide) rfl⟩
        · refine JX.condF rfl hb ?_
          refine JX.skip ?_
          refine JE.code ?_
          refine JX.region ?_
          refine JL.val (yl_add rfl rfl) rfl ?_
          refine JL.val (yl_move rfl) rfl ?_
          refine JL.nil ?_
          refine JE.cont hres ?_
          exact fun a w h => h.weak ⟨rfl, rfl, rfl, trivial⟩ [] (by decide) rfl
      · refine JX.condF rfl hb ?_
        refine JX.exit ?_
        refine JE.qb rfl ?_
        obtain ⟨b1, hb1⟩ : ∃ b : Unit, b = () := ⟨_, rfl⟩
        have hy1 : Sum.inl b1 = y1 := by rw [hb1]; exact hox1 _ (Option.some.inj hres).symm
        have hres := elimS_inl hresO1 hy1
        refine JE.weak (env' := []) (es' := []) [] ?_ trivial (by decide) (by subst hb1; rfl)
        refine JE.code ?_
        refine JX.seq ?_
        refine JX.region ?_
        refine JL.val (yl_assign rfl) rfl ?_
        refine JL.nil ?_
        refine JE.code ?_
        refine JX.ret ?_
        obtain rfl := Option.some.inj hres
        refine JE.ret (rs := [.tmp 2]) (vs := [.bool true]) rfl ⟨rfl, trivial⟩ ?_
        exact fun w' hb hs => ⟨_, _, ⟨rfl, rfl⟩, rfl, hb, hs.sel [] _ (by decide) rfl⟩
  · intro K
    rcases cond_some hcb5 with ⟨hb, hres⟩ | ⟨hb, hres⟩
    · refine JH.set (d := 11) (v := .bool true) (congrArg (fun b => some (Value.bool b)) hb) ?_
      refine JH.gskip rfl rfl rfl rfl rfl rfl ?_
      refine JH.gskip rfl rfl rfl rfl rfl rfl ?_
      refine JH.gskip rfl rfl rfl rfl rfl rfl ?_
      refine JH.gskip rfl rfl rfl rfl rfl rfl ?_
      refine JH.gskip rfl rfl rfl rfl rfl rfl ?_
      refine JH.gskip rfl rfl rfl rfl rfl rfl ?_
      refine JH.gskip rfl rfl rfl rfl rfl rfl ?_
      refine JH.gskip rfl rfl rfl rfl rfl rfl ?_
      refine JH.gskip rfl rfl rfl rfl rfl rfl ?_
      refine JH.pure rfl (yl_pick_true rfl rfl) rfl ?_
      have he := Option.some.inj hres
      exact JH.weak [] K ⟨rfl, (by rw [← he]; rfl), trivial⟩ (by decide) rfl
    · refine JH.set (d := 11) (v := .bool false) (congrArg (fun b => some (Value.bool b)) hb) ?_
      refine JH.gpure rfl rfl rfl (yl_fieldAt (a := some _) Go.Proofs.Try.underlying28 rfl i22 i22n rfl rfl) rfl ?_
      refine JH.gread rfl rfl rfl (yl_load1 Go.Proofs.Try.underlying22 rfl rfl (fun w hw => hFr3.box 0 rfl rfl hw) rfl) rfl ?_
      refine JH.gpure rfl rfl rfl (yl_len_slice Go.Proofs.Try.underlying22 rfl) rfl ?_
      refine JH.gpure rfl rfl rfl (yl_fieldAt (a := some _) Go.Proofs.Try.underlying28 rfl i2 i2n rfl rfl) rfl ?_
      refine JH.gread rfl rfl rfl (yl_load1 Go.Proofs.Try.underlying2 rfl rfl (fun w hw => hFr3.box 0 rfl rfl hw) rfl) rfl ?_
      refine JH.gpure rfl rfl rfl (yl_fieldAt (a := some _) Go.Proofs.Try.underlying28 rfl i2 i2n rfl rfl) rfl ?_
      refine JH.gread rfl rfl rfl (yl_load1 Go.Proofs.Try.underlying2 rfl rfl (fun w hw => hFr3.box 0 rfl rfl hw) rfl) rfl ?_
      obtain ⟨x6, hx6, hres⟩ := bind_some hres
      refine JH.gmust rfl rfl rfl (ef_call (T := T147 x6) Go.Proofs.Try.func147 rfl (by kernel_rfl) rfl (fun w hC => c147  hx6)) rfl rfl ?_
      rintro _ _ ⟨_, ⟨rfl, rfl⟩, rfl⟩
      refine JH.gpure rfl rfl rfl (yl_neq rfl rfl) rfl ?_
      refine JH.pure rfl (yl_pick_false rfl rfl) rfl ?_
      have he := Option.some.inj hres
      exact JH.weak [] K ⟨rfl, (by rw [← he]; rfl), trivial⟩ (by decide) rfl

/- (impl.Panel).segments -/
def sh166 (q0 : SPanel) : Option (Int) := some (w64 ((w64 (4 * q0.W)) * q0.H))
def T166 (r : Int) (v : Value) (rs : List Own) : Prop := v = rets [.int .i64 r] ∧ rs = []
set_option maxRecDepth 100000 in
theorem c166 {w : World} {q0 : SPanel} {a_0_2 : Option Addr} {n_0_2 c_0_2 : Nat} (g_0_2 : Rd w a_0_2 (eI64.fl q0.Breaks)) (l_0_2 : q0.Breaks.length = n_0_2) (k_0_2 : n_0_2 ≤ c_0_2) {r : Int} (hres : sh166 q0 = some r) : Calls Go.Proofs.Try.prog 166 [.agg #[.int .i64 q0.W, .int .i64 q0.H, .slice a_0_2 n_0_2 c_0_2]].toArray w (Ret w (T166 r)) := by
  subst l_0_2
  unfold sh166 at hres
  refine calls_of (n := 9) (M := []) (es := []) Go.Proofs.Try.func166 rfl rfl rfl (Sep.nil _ _ _) ?_
  refine JX.seq ?_
  refine JX.region ?_
  refine JL.eff (ef_box rfl rfl) rfl ?_
  rintro _ _ ⟨g1, rfl, rfl⟩
  refine JL.val (yl_assign rfl) rfl ?_
  refine JL.nil ?_
  refine JE.code ?_
  refine JX.seq ?_
  refine JX.region ?_
  refine JL.val (yl_fieldAt (a := some _) Go.Proofs.Try.underlying28 rfl i2 i2n rfl rfl) rfl ?_
  refine JL.val (yl_load1 Go.Proofs.Try.underlying2 rfl rfl (fun w hC => rd_box hC 0 rfl) rfl) rfl ?_
  refine JL.val (yl_mul rfl rfl) rfl ?_
  refine JL.val (yl_fieldAt (a := some _) Go.Proofs.Try.underlying28 rfl i2 i2n rfl rfl) rfl ?_
  refine JL.val (yl_load1 Go.Proofs.Try.underlying2 rfl rfl (fun w hC => rd_box hC 0 rfl) rfl) rfl ?_
  refine JL.val (yl_mul rfl rfl) rfl ?_
  refine JL.val (yl_assign rfl) rfl ?_
  refine JL.nil ?_
  refine JE.weak (env' := [(2, .int .i64 (w64 ((w64 (4 * q0.W)) * q0.H)))]) (es' := []) [] ?_ ⟨rfl, trivial⟩ (by decide) rfl
  refine JE.code ?_
  refine JX.ret ?_
  obtain rfl := Option.some.inj hres
  refine JE.ret (rs := [.tmp 2]) (vs := [.int .i64 (w64 ((w64 (4 * q0.W)) * q0.H))]) rfl ⟨rfl, trivial⟩ ?_
  exact fun w' hb hs => ⟨_, _, ⟨rfl, rfl⟩, rfl, hb, hs.sel [] _ (by decide) rfl⟩

/- (impl.Panel).walker -/
def sh167 (q0 : SPanel) (q1 : Int) : Option (SWalker) := Option.bind (nzI (w64 (2 * q0.H))) fun x6 => Option.bind (nzI (w64 (2 * q0.H))) fun x7 => bif ((w64 ((w64 (q1.tdiv (w64 (2 * q0.H)))) + (q1.tmod (w64 (2 * q0.H))))).tmod 2) == 1 then (some (SWalker.mk (SPoint.mk (w64 (q1.tdiv (w64 (2 * q0.H)))) (q1.tmod (w64 (2 * q0.H)))) 1 1)) else (some (SWalker.mk (SPoint.mk (w64 (q1.tdiv (w64 (2 * q0.H)))) (w64 ((q1.tmod (w64 (2 * q0.H))) + 1))) 1 (-1)))
def T167 (r : SWalker) (v : Value) (rs : List Own) : Prop := v = rets [.agg #[.int .i64 r.At.X, .int .i64 r.At.Y, .int .i64 r.DX, .int .i64 r.DY]] ∧ rs = []
set_option maxRecDepth 100000 in
theorem c167 {w : World} {q0 : SPanel} {a_0_2 : Option Addr} {n_0_2 c_0_2 : Nat} (g_0_2 : Rd w a_0_2 (eI64.fl q0.Breaks)) (l_0_2 : q0.Breaks.length = n_0_2) (k_0_2 : n_0_2 ≤ c_0_2) {q1 : Int} {r : SWalker} (hres : sh167 q0 q1 = some r) : Calls Go.Proofs.Try.prog 167 [.agg #[.int .i64 q0.W, .int .i64 q0.H, .slice a_0_2 n_0_2 c_0_2], .int .i64 q1].toArray w (Ret w (T167 r)) := by
  subst l_0_2
  unfold sh167 at hres
  refine calls_of (n := 31) (M := []) (es := []) Go.Proofs.Try.func167 rfl rfl rfl (Sep.nil _ _ _) ?_
  refine JX.seq ?_
  refine JX.region ?_
  refine JL.eff (ef_box rfl rfl) rfl ?_
  rintro _ _ ⟨g1, rfl, rfl⟩
  refine JL.eff (ef_alloc i126 i126z rfl) rfl ?_
  rintro _ _ ⟨g3, rfl, rfl⟩
  refine JL.nil ?_
  refine JE.code ?_
  refine JX.seq ?_
  refine JX.drawH [(0, .pure), (1, .pure), (2, .read), (3, .pure), (4, .pure), (5, .pure), (6, .pure), (7, .read), (8, .pure), (9, .pure), (10, .pure), (11, .pure)] [] [] [0, 1] [] [boxO 28 g1 [.int .i64 q0.W, .int .i64 q0.H, .slice a_0_2 q0.Breaks.length c_0_2], boxO 126 g3 [.int .i64 0, .int .i64 0, .int .i64 0, .int .i64 0]] mixedP (by kernel_rfl) (by kernel_rfl) (by decide) rfl rfl ?_
  intro wrr5 Nr5 hFr5
  refine JH.pure rfl (yl_move rfl) rfl ?_
  refine JH.pure rfl (yl_fieldAt (a := some _) Go.Proofs.Try.underlying28 rfl i2 i2n rfl rfl) rfl ?_
  refine JH.read rfl (yl_load1 Go.Proofs.Try.underlying2 rfl rfl (fun w hw => hFr5.box 0 rfl rfl hw) rfl) rfl ?_
  refine JH.pure rfl (yl_mul rfl rfl) rfl ?_
  obtain ⟨x6, hx6, hres⟩ := bind_some hres
  refine JH.pure rfl (yl_quo rfl rfl (nzI_some hx6)) rfl ?_
  refine JH.pure rfl (yl_move rfl) rfl ?_
  refine JH.pure rfl (yl_fieldAt (a := some _) Go.Proofs.Try.underlying28 rfl i2 i2n rfl rfl) rfl ?_
  refine JH.read rfl (yl_load1 Go.Proofs.Try.underlying2 rfl rfl (fun w hw => hFr5.box 0 rfl rfl hw) rfl) rfl ?_
  refine JH.pure rfl (yl_mul rfl rfl) rfl ?_
  obtain ⟨x7, hx7, hres⟩ := bind_some hres
  refine JH.pure rfl (yl_rem rfl rfl (nzI_some hx7)) rfl ?_
  refine JH.pure rfl (yl_assign rfl) rfl ?_
  refine JH.pure rfl (yl_assign rfl) rfl ?_
  refine JH.nil ?_
  refine JE.weak (env' := [(4, ptrAt (some ⟨g3, 0, none⟩) 0), (5, .int .i64 (w64 (q1.tdiv (w64 (2 * q0.H))))), (6, .int .i64 (q1.tmod (w64 (2 * q0.H))))]) (es' := [boxO 126 g3 [.int .i64 0, .int .i64 0, .int .i64 0, .int .i64 0]]) [1] ?_ ⟨rfl, rfl, rfl, trivial⟩ (by decide) rfl
  refine JE.code ?_
  refine JX.seq ?_
  refine JX.seq ?_
  refine JX.region ?_
  refine JL.val (yl_move rfl) rfl ?_
  refine JL.val (yl_move rfl) rfl ?_
  refine JL.val (yl_add rfl rfl) rfl ?_
  refine JL.val (yl_rem rfl rfl (by decide)) rfl ?_
  refine JL.val (yl_eql rfl rfl) rfl ?_
  refine JL.nil ?_
  refine JE.weak (env' := [(4, ptrAt (some ⟨g3, 0, none⟩) 0), (5, .int .i64 (w64 (q1.tdiv (w64 (2 * q0.H))))), (6, .int .i64 (q1.tmod (w64 (2 * q0.H)))), (21, .bool (((w64 ((w64 (q1.tdiv (w64 (2 * q0.H)))) + (q1.tmod (w64 (2 * q0.H))))).tmod 2) == 1))]) (es' := [boxO 126 g3 [.int .i64 0, .int .i64 0, .int .i64 0, .int .i64 0]]) [0] ?_ ⟨rfl, rfl, rfl, rfl, trivial⟩ (by decide) rfl
  refine JE.code ?_
  rcases cond_some hres with ⟨hb, hres⟩ | ⟨hb, hres⟩
  · refine JX.condT rfl hb ?_
    refine JX.seq ?_
    refine JX.region ?_
    refine JL.val (yl_move rfl) rfl ?_
    refine JL.val (yl_move rfl) rfl ?_
    refine JL.val (yl_build rfl (fun w => bld35_0_1 (w64 (q1.tdiv (w64 (2 * q0.H)))) (q1.tmod (w64 (2 * q0.H))) w)) rfl ?_
    refine JL.val (yl_build rfl (fun w => bld126_0_1_2 (w64 (q1.tdiv (w64 (2 * q0.H)))) (q1.tmod (w64 (2 * q0.H))) 1 1 w)) rfl ?_
    refine JL.eff (ef_store_box (i := 0) (v := .agg #[.int .i64 (w64 (q1.tdiv (w64 (2 * q0.H)))), .int .i64 (q1.tmod (w64 (2 * q0.H))), .int .i64 1, .int .i64 1]) i126 rfl rfl rfl (i126s).symm (Nat.le_of_ble_eq_true rfl) (by simp [Value.cells, Value.oneCell'])) rfl ?_
    rintro _ _ rfl
    refine JL.nil ?_
    refine JE.weak (env' := [(4, ptrAt (some ⟨g3, 0, none⟩) 0)]) (es' := [boxO 126 g3 [.int .i64 (w64 (q1.tdiv (w64 (2 * q0.H)))), .int .i64 (q1.tmod (w64 (2 * q0.H))), .int .i64 1, .int .i64 1]]) [0] ?_ ⟨rfl, trivial⟩ (by decide) rfl
    refine JE.code ?_
    refine JX.ret ?_
    obtain rfl := Option.some.inj hres
    refine JE.ret (rs := [.cell 4 126]) (vs := [.agg #[.int .i64 (w64 (q1.tdiv (w64 (2 * q0.H)))), .int .i64 (q1.tmod (w64 (2 * q0.H))), .int .i64 1, .int .i64 1]]) rfl ⟨rv_box 0 rfl rfl Go.Proofs.Try.underlying126 rfl i126 (i126s).symm, trivial⟩ ?_
    exact fun w' hb hs => ⟨_, _, ⟨rfl, rfl⟩, rfl, hb, hs.sel [] _ (by decide) rfl⟩
  · refine JX.condF rfl hb ?_
    refine JX.skip ?_
    refine JE.code ?_
    refine JX.seq ?_
    refine JX.region ?_
    refine JL.val (yl_move rfl) rfl ?_
    refine JL.val (yl_move rfl) rfl ?_
    refine JL.val (yl_add rfl rfl) rfl ?_
    refine JL.val (yl_build rfl (fun w => bld35_0_1 (w64 (q1.tdiv (w64 (2 * q0.H)))) (w64 ((q1.tmod (w64 (2 * q0.H))) + 1)) w)) rfl ?_
    refine JL.val (yl_build rfl (fun w => bld126_0_1_2 (w64 (q1.tdiv (w64 (2 * q0.H)))) (w64 ((q1.tmod (w64 (2 * q0.H))) + 1)) 1 (-1) w)) rfl ?_
    refine JL.eff (ef_store_box (i := 0) (v := .agg #[.int .i64 (w64 (q1.tdiv (w64 (2 * q0.H)))), .int .i64 (w64 ((q1.tmod (w64 (2 * q0.H))) + 1)), .int .i64 1, .int .i64 (-1)]) i126 rfl rfl rfl (i126s).symm (Nat.le_of_ble_eq_true rfl) (by simp [Value.cells, Value.oneCell'])) rfl ?_
    rintro _ _ rfl
    refine JL.nil ?_
    refine JE.weak (env' := [(4, ptrAt (some ⟨g3, 0, none⟩) 0)]) (es' := [boxO 126 g3 [.int .i64 (w64 (q1.tdiv (w64 (2 * q0.H)))), .int .i64 (w64 ((q1.tmod (w64 (2 * q0.H))) + 1)), .int .i64 1, .int .i64 (-1)]]) [0] ?_ ⟨rfl, trivial⟩ (by decide) rfl
    refine JE.code ?_
    refine JX.ret ?_
    obtain rfl := Option.some.inj hres
    refine JE.ret (rs := [.cell 4 126]) (vs := [.agg #[.int .i64 (w64 (q1.tdiv (w64 (2 * q0.H)))), .int .i64 (w64 ((q1.tmod (w64 (2 * q0.H))) + 1)), .int .i64 1, .int .i64 (-1)]]) rfl ⟨rv_box 0 rfl rfl Go.Proofs.Try.underlying126 rfl i126 (i126s).symm, trivial⟩ ?_
    exact fun w' hb hs => ⟨_, _, ⟨rfl, rfl⟩, rfl, hb, hs.sel [] _ (by decide) rfl⟩

/- (impl.Walker).next -/
def sh195 (q0 : SWalker) : Option (SPoint) := some (SPoint.mk (w64 (q0.At.X + q0.DX)) (w64 (q0.At.Y + q0.DY)))
def T195 (r : SPoint) (v : Value) (rs : List Own) : Prop := v = rets [.agg #[.int .i64 r.X, .int .i64 r.Y]] ∧ rs = []
set_option maxRecDepth 100000 in
theorem c195 {w : World} {q0 : SWalker} {r : SPoint} (hres : sh195 q0 = some r) : Calls Go.Proofs.Try.prog 195 [.agg #[.int .i64 q0.At.X, .int .i64 q0.At.Y, .int .i64 q0.DX, .int .i64 q0.DY]].toArray w (Ret w (T195 r)) := by
  unfold sh195 at hres
  refine calls_of (n := 16) (M := []) (es := []) Go.Proofs.Try.func195 rfl rfl rfl (Sep.nil _ _ _) ?_
  refine JX.seq ?_
  refine JX.region ?_
  refine JL.eff (ef_box rfl rfl) rfl ?_
  rintro _ _ ⟨g1, rfl, rfl⟩
  refine JL.eff (ef_alloc i35 i35z rfl) rfl ?_
  rintro _ _ ⟨g3, rfl, rfl⟩
  refine JL.nil ?_
  refine JE.code ?_
  refine JX.seq ?_
  refine JX.region ?_
  refine JL.val (yl_fieldAt (a := some _) Go.Proofs.Try.underlying126 rfl i35 i35n rfl rfl) rfl ?_
  refine JL.val (yl_fieldAt (a := some _) Go.Proofs.Try.underlying35 rfl i2 i2n rfl rfl) rfl ?_
  refine JL.val (yl_load1 Go.Proofs.Try.underlying2 rfl rfl (fun w hC => rd_box hC 0 rfl) rfl) rfl ?_
  refine JL.val (yl_fieldAt (a := some _) Go.Proofs.Try.underlying126 rfl i2 i2n rfl rfl) rfl ?_
  refine JL.val (yl_load1 Go.Proofs.Try.underlying2 rfl rfl (fun w hC => rd_box hC 0 rfl) rfl) rfl ?_
  refine JL.val (yl_add rfl rfl) rfl ?_
  refine JL.val (yl_fieldAt (a := some _) Go.Proofs.Try.underlying126 rfl i35 i35n rfl rfl) rfl ?_
  refine JL.val (yl_fieldAt (a := some _) Go.Proofs.Try.underlying35 rfl i2 i2n rfl rfl) rfl ?_
  refine JL.val (yl_load1 Go.Proofs.Try.underlying2 rfl rfl (fun w hC => rd_box hC 0 rfl) rfl) rfl ?_
  refine JL.val (yl_fieldAt (a := some _) Go.Proofs.Try.underlying126 rfl i2 i2n rfl rfl) rfl ?_
  refine JL.val (yl_load1 Go.Proofs.Try.underlying2 rfl rfl (fun w hC => rd_box hC 0 rfl) rfl) rfl ?_
  refine JL.val (yl_add rfl rfl) rfl ?_
  refine JL.val (yl_build rfl (fun w => bld35_0_1 (w64 (q0.At.X + q0.DX)) (w64 (q0.At.Y + q0.DY)) w)) rfl ?_
  refine JL.eff (ef_store_box (i := 1) (v := .agg #[.int .i64 (w64 (q0.At.X + q0.DX)), .int .i64 (w64 (q0.At.Y + q0.DY))]) i35 rfl rfl rfl (i35s).symm (Nat.le_of_ble_eq_true rfl) (by simp [Value.cells, Value.oneCell'])) rfl ?_
  rintro _ _ rfl
  refine JL.nil ?_
  refine JE.weak (env' := [(2, ptrAt (some ⟨g3, 0, none⟩) 0)]) (es' := [boxO 35 g3 [.int .i64 (w64 (q0.At.X + q0.DX)), .int .i64 (w64 (q0.At.Y + q0.DY))]]) [1] ?_ ⟨rfl, trivial⟩ (by decide) rfl
  refine JE.code ?_
  refine JX.ret ?_
  obtain rfl := Option.some.inj hres
  refine JE.ret (rs := [.cell 2 35]) (vs := [.agg #[.int .i64 (w64 (q0.At.X + q0.DX)), .int .i64 (w64 (q0.At.Y + q0.DY))]]) rfl ⟨rv_box 0 rfl rfl Go.Proofs.Try.underlying35 rfl i35 (i35s).symm, trivial⟩ ?_
  exact fun w' hb hs => ⟨_, _, ⟨rfl, rfl⟩, rfl, hb, hs.sel [] _ (by decide) rfl⟩

/- (impl.Panel).segment -/
def sh168 (q0 : SPanel) (q1 : SWalker) : Option (Int) := Option.bind (sh195 q1) fun x5 => some (w64 ((w64 ((w64 ((if x5.X < q1.At.X then x5.X else q1.At.X) * 2)) * q0.H)) + (if x5.Y < q1.At.Y then x5.Y else q1.At.Y)))
def T168 (r : Int) (v : Value) (rs : List Own) : Prop := v = rets [.int .i64 r] ∧ rs = []
set_option maxRecDepth 100000 in
theorem c168 {w : World} {q0 : SPanel} {a_0_2 : Option Addr} {n_0_2 c_0_2 : Nat} (g_0_2 : Rd w a_0_2 (eI64.fl q0.Breaks)) (l_0_2 : q0.Breaks.length = n_0_2) (k_0_2 : n_0_2 ≤ c_0_2) {q1 : SWalker} {r : Int} (hres : sh168 q0 q1 = some r) : Calls Go.Proofs.Try.prog 168 [.agg #[.int .i64 q0.W, .int .i64 q0.H, .slice a_0_2 n_0_2 c_0_2], .agg #[.int .i64 q1.At.X, .int .i64 q1.At.Y, .int .i64 q1.DX, .int .i64 q1.DY]].toArray w (Ret w (T168 r)) := by
  subst l_0_2
  unfold sh168 at hres
  refine calls_of (n := 25) (M := []) (es := []) Go.Proofs.Try.func168 rfl rfl rfl (Sep.nil _ _ _) ?_
  refine JX.seq ?_
  refine JX.region ?_
  refine JL.eff (ef_box rfl rfl) rfl ?_
  rintro _ _ ⟨g1, rfl, rfl⟩
  refine JL.eff (ef_box rfl rfl) rfl ?_
  rintro _ _ ⟨g3, rfl, rfl⟩
  refine JL.val (yl_assign rfl) rfl ?_
  refine JL.nil ?_
  refine JE.code ?_
  refine JX.seq ?_
  refine JX.region ?_
  refine JL.val (yl_loadn Go.Proofs.Try.underlying126 rfl i126 rfl (fun w hC => rd_box hC 1 rfl) rfl (i126s).symm i126p) rfl ?_
  obtain ⟨x5, hx5, hres⟩ := bind_some hres
  refine JL.eff (ef_call (vs := [.agg #[.int .i64 q1.At.X, .int .i64 q1.At.Y, .int .i64 q1.DX, .int .i64 q1.DY]]) (T := T195 x5) Go.Proofs.Try.func195 rfl (by kernel_rfl) rfl (fun w hC => c195 (q0 := q1) hx5)) rfl ?_
  rintro _ _ ⟨_, ⟨rfl, rfl⟩, rfl⟩
  refine JL.eff (ef_alloc i35 i35z rfl) rfl ?_
  rintro _ _ ⟨g6, rfl, rfl⟩
  refine JL.eff (ef_store_box (i := 2) (v := .agg #[.int .i64 x5.X, .int .i64 x5.Y]) i35 rfl rfl rfl (i35s).symm (Nat.le_of_ble_eq_true rfl) (by simp [Value.cells, Value.oneCell'])) rfl ?_
  rintro _ _ rfl
  refine JL.nil ?_
  refine JE.weak (env' := [(2, ptrAt (some ⟨g1, 0, none⟩) 0), (3, ptrAt (some ⟨g3, 0, none⟩) 0), (5, ptrAt (some ⟨g6, 0, none⟩) 0)]) (es' := [boxO 28 g1 [.int .i64 q0.W, .int .i64 q0.H, .slice a_0_2 q0.Breaks.length c_0_2], boxO 126 g3 [.int .i64 q1.At.X, .int .i64 q1.At.Y, .int .i64 q1.DX, .int .i64 q1.DY], boxO 35 g6 [.int .i64 x5.X, .int .i64 x5.Y]]) [0, 1, 2] ?_ ⟨rfl, rfl, rfl, trivial⟩ (by decide) rfl
  refine JE.code ?_
  refine JX.seq ?_
  refine JX.region ?_
  refine JL.val (yl_fieldAt (a := some _) Go.Proofs.Try.underlying126 rfl i35 i35n rfl rfl) rfl ?_
  refine JL.val (yl_fieldAt (a := some _) Go.Proofs.Try.underlying35 rfl i2 i2n rfl rfl) rfl ?_
  refine JL.val (yl_load1 Go.Proofs.Try.underlying2 rfl rfl (fun w hC => rd_box hC 1 rfl) rfl) rfl ?_
  refine JL.val (yl_fieldAt (a := some _) Go.Proofs.Try.underlying35 rfl i2 i2n rfl rfl) rfl ?_
  refine JL.val (yl_load1 Go.Proofs.Try.underlying2 rfl rfl (fun w hC => rd_box hC 2 rfl) rfl) rfl ?_
  refine JL.val (yl_min rfl rfl) rfl ?_
  refine JL.val (yl_mul rfl rfl) rfl ?_
  refine JL.val (yl_fieldAt (a := some _) Go.Proofs.Try.underlying28 rfl i2 i2n rfl rfl) rfl ?_
  refine JL.val (yl_load1 Go.Proofs.Try.underlying2 rfl rfl (fun w hC => rd_box hC 0 rfl) rfl) rfl ?_
  refine JL.val (yl_mul rfl rfl) rfl ?_
  refine JL.val (yl_fieldAt (a := some _) Go.Proofs.Try.underlying126 rfl i35 i35n rfl rfl) rfl ?_
  refine JL.val (yl_fieldAt (a := some _) Go.Proofs.Try.underlying35 rfl i2 i2n rfl rfl) rfl ?_
  refine JL.val (yl_load1 Go.Proofs.Try.underlying2 rfl rfl (fun w hC => rd_box hC 1 rfl) rfl) rfl ?_
  refine JL.val (yl_fieldAt (a := some _) Go.Proofs.Try.underlying35 rfl i2 i2n rfl rfl) rfl ?_
  refine JL.val (yl_load1 Go.Proofs.Try.underlying2 rfl rfl (fun w hC => rd_box hC 2 rfl) rfl) rfl ?_
  refine JL.val (yl_min rfl rfl) rfl ?_
  refine JL.val (yl_add rfl rfl) rfl ?_
  refine JL.val (yl_assign rfl) rfl ?_
  refine JL.nil ?_
  refine JE.weak (env' := [(4, .int .i64 (w64 ((w64 ((w64 ((if x5.X < q1.At.X then x5.X else q1.At.X) * 2)) * q0.H)) + (if x5.Y < q1.At.Y then x5.Y else q1.At.Y))))]) (es' := []) [] ?_ ⟨rfl, trivial⟩ (by decide) rfl
  refine JE.code ?_
  refine JX.ret ?_
  obtain rfl := Option.some.inj hres
  refine JE.ret (rs := [.tmp 4]) (vs := [.int .i64 (w64 ((w64 ((w64 ((if x5.X < q1.At.X then x5.X else q1.At.X) * 2)) * q0.H)) + (if x5.Y < q1.At.Y then x5.Y else q1.At.Y)))]) rfl ⟨rfl, trivial⟩ ?_
  exact fun w' hb hs => ⟨_, _, ⟨rfl, rfl⟩, rfl, hb, hs.sel [] _ (by decide) rfl⟩

/- (impl.Panel).isBorder -/
def sh196 (q0 : SPanel) (q1 : SPoint) : Option (Bool) := some ((((q1.X == 0) || (q1.X == (w64 (2 * q0.W)))) || (q1.Y == 0)) || (q1.Y == (w64 (2 * q0.H))))
def T196 (r : Bool) (v : Value) (rs : List Own) : Prop := v = rets [.bool r] ∧ rs = []
set_option maxRecDepth 100000 in
theorem c196 {w : World} {q0 : SPanel} {a_0_2 : Option Addr} {n_0_2 c_0_2 : Nat} (g_0_2 : Rd w a_0_2 (eI64.fl q0.Breaks)) (l_0_2 : q0.Breaks.length = n_0_2) (k_0_2 : n_0_2 ≤ c_0_2) {q1 : SPoint} {r : Bool} (hres : sh196 q0 q1 = some r) : Calls Go.Proofs.Try.prog 196 [.agg #[.int .i64 q0.W, .int .i64 q0.H, .slice a_0_2 n_0_2 c_0_2], .agg #[.int .i64 q1.X, .int .i64 q1.Y]].toArray w (Ret w (T196 r)) := by
  subst l_0_2
  unfold sh196 at hres
  refine calls_of (n := 29) (M := []) (es := []) Go.Proofs.Try.func196 rfl rfl rfl (Sep.nil _ _ _) ?_
  refine JX.seq ?_
  refine JX.region ?_
  refine JL.eff (ef_box rfl rfl) rfl ?_
  rintro _ _ ⟨g1, rfl, rfl⟩
  refine JL.eff (ef_box rfl rfl) rfl ?_
  rintro _ _ ⟨g3, rfl, rfl⟩
  refine JL.val (yl_assign rfl) rfl ?_
  refine JL.nil ?_
  refine JE.code ?_
  refine JX.seq ?_
  refine JX.region ?_
  refine JL.val (yl_fieldAt (a := some _) Go.Proofs.Try.underlying35 rfl i2 i2n rfl rfl) rfl ?_
  refine JL.val (yl_load1 Go.Proofs.Try.underlying2 rfl rfl (fun w hC => rd_box hC 1 rfl) rfl) rfl ?_
  refine JL.val (yl_eql rfl rfl) rfl ?_
  refine JL.val (yl_move rfl) rfl ?_
  refine JL.cut (K := fun J => J [(2, ptrAt (some ⟨g1, 0, none⟩) 0), (3, ptrAt (some ⟨g3, 0, none⟩) 0), (15, .bool ((q1.X == 0) || (q1.X == (w64 (2 * q0.W)))))] [boxO 28 g1 [.int .i64 q0.W, .int .i64 q0.H, .slice a_0_2 q0.Breaks.length c_0_2], boxO 35 g3 [.int .i64 q1.X, .int .i64 q1.Y]]) 7 ?_ ?_
  · refine JL.val (yl_move rfl) rfl ?_
    refine JL.cut (K := fun J => J [(2, ptrAt (some ⟨g1, 0, none⟩) 0), (3, ptrAt (some ⟨g3, 0, none⟩) 0), (20, .bool (((q1.X == 0) || (q1.X == (w64 (2 * q0.W)))) || (q1.Y == 0)))] [boxO 28 g1 [.int .i64 q0.W, .int .i64 q0.H, .slice a_0_2 q0.Breaks.length c_0_2], boxO 35 g3 [.int .i64 q1.X, .int .i64 q1.Y]]) 4 ?_ ?_
    · refine JL.val (yl_move rfl) rfl ?_
      refine JL.cut (K := fun J => J [(28, .bool ((((q1.X == 0) || (q1.X == (w64 (2 * q0.W)))) || (q1.Y == 0)) || (q1.Y == (w64 (2 * q0.H)))))] []) 7 ?_ ?_
      · refine JL.val (yl_assign rfl) rfl ?_
        refine JL.nil ?_
        refine JE.weak (env' := [(4, .bool ((((q1.X == 0) || (q1.X == (w64 (2 * q0.W)))) || (q1.Y == 0)) || (q1.Y == (w64 (2 * q0.H)))))]) (es' := []) [] ?_ ⟨rfl, trivial⟩ (by decide) rfl
        refine JE.code ?_
        refine JX.ret ?_
        obtain rfl := Option.some.inj hres
        refine JE.ret (rs := [.tmp 4]) (vs := [.bool ((((q1.X == 0) || (q1.X == (w64 (2 * q0.W)))) || (q1.Y == 0)) || (q1.Y == (w64 (2 * q0.H))))]) rfl ⟨rfl, trivial⟩ ?_
        exact fun w' hb hs => ⟨_, _, ⟨rfl, rfl⟩, rfl, hb, hs.sel [] _ (by decide) rfl⟩
      · intro K
        rcases Bool.eq_false_or_eq_true (((q1.X == 0) || (q1.X == (w64 (2 * q0.W)))) || (q1.Y == 0)) with hb | hb
        · refine JL.set (d := 21) (v := .bool true) (congrArg (fun b => some (Value.bool b)) hb) ?_
          refine JL.gskip rfl rfl rfl rfl ?_
          refine JL.gskip rfl rfl rfl rfl ?_
          refine JL.gskip rfl rfl rfl rfl ?_
          refine JL.gskip rfl rfl rfl rfl ?_
          refine JL.gskip rfl rfl rfl rfl ?_
          refine JL.gskip rfl rfl rfl rfl ?_
          refine JL.val (yl_pick_true rfl rfl) rfl ?_
          exact JL.weak [] K ⟨(by rw [hb]; rfl), trivial⟩ (by decide) rfl
        · refine JL.set (d := 21) (v := .bool false) (congrArg (fun b => some (Value.bool b)) hb) ?_
          refine JL.gval rfl rfl (yl_fieldAt (a := some _) Go.Proofs.Try.underlying35 rfl i2 i2n rfl rfl) rfl ?_
          refine JL.gval rfl rfl (yl_load1 Go.Proofs.Try.underlying2 rfl rfl (fun w hC => rd_box hC 1 rfl) rfl) rfl ?_
          refine JL.gval rfl rfl (yl_fieldAt (a := some _) Go.Proofs.Try.underlying28 rfl i2 i2n rfl rfl) rfl ?_
          refine JL.gval rfl rfl (yl_load1 Go.Proofs.Try.underlying2 rfl rfl (fun w hC => rd_box hC 0 rfl) rfl) rfl ?_
          refine JL.gval rfl rfl (yl_mul rfl rfl) rfl ?_
          refine JL.gval rfl rfl (yl_eql rfl rfl) rfl ?_
          refine JL.val (yl_pick_false rfl rfl) rfl ?_
          exact JL.weak [] K ⟨(by rw [hb]; rfl), trivial⟩ (by decide) rfl
    · intro K
      rcases Bool.eq_false_or_eq_true ((q1.X == 0) || (q1.X == (w64 (2 * q0.W)))) with hb | hb
      · refine JL.set (d := 16) (v := .bool true) (congrArg (fun b => some (Value.bool b)) hb) ?_
        refine JL.gskip rfl rfl rfl rfl ?_
        refine JL.gskip rfl rfl rfl rfl ?_
        refine JL.gskip rfl rfl rfl rfl ?_
        refine JL.val (yl_pick_true rfl rfl) rfl ?_
        exact JL.weak [0, 1] K ⟨rfl, rfl, (by rw [hb]; rfl), trivial⟩ (by decide) rfl
      · refine JL.set (d := 16) (v := .bool false) (congrArg (fun b => some (Value.bool b)) hb) ?_
        refine JL.gval rfl rfl (yl_fieldAt (a := some _) Go.Proofs.Try.underlying35 rfl i2 i2n rfl rfl) rfl ?_
        refine JL.gval rfl rfl (yl_load1 Go.Proofs.Try.underlying2 rfl rfl (fun w hC => rd_box hC 1 rfl) rfl) rfl ?_
        refine JL.gval rfl rfl (yl_eql rfl rfl) rfl ?_
        refine JL.val (yl_pick_false rfl rfl) rfl ?_
        exact JL.weak [0, 1] K ⟨rfl, rfl, (by rw [hb]; rfl), trivial⟩ (by decide) rfl
  · intro K
    rcases Bool.eq_false_or_eq_true (q1.X == 0) with hb | hb
    · refine JL.set (d := 8) (v := .bool true) (congrArg (fun b => some (Value.bool b)) hb) ?_
      refine JL.gskip rfl rfl rfl rfl ?_
      refine JL.gskip rfl rfl rfl rfl ?_
      refine JL.gskip rfl rfl rfl rfl ?_
      refine JL.gskip rfl rfl rfl rfl ?_
      refine JL.gskip rfl rfl rfl rfl ?_
      refine JL.gskip rfl rfl rfl rfl ?_
      refine JL.val (yl_pick_true rfl rfl) rfl ?_
      exact JL.weak [0, 1] K ⟨rfl, rfl, (by rw [hb]; rfl), trivial⟩ (by decide) rfl
    · refine JL.set (d := 8) (v := .bool false) (congrArg (fun b => some (Value.bool b)) hb) ?_
      refine JL.gval rfl rfl (yl_fieldAt (a := some _) Go.Proofs.Try.underlying35 rfl i2 i2n rfl rfl) rfl ?_
      refine JL.gval rfl rfl (yl_load1 Go.Proofs.Try.underlying2 rfl rfl (fun w hC => rd_box hC 1 rfl) rfl) rfl ?_
      refine JL.gval rfl rfl (yl_fieldAt (a := some _) Go.Proofs.Try.underlying28 rfl i2 i2n rfl rfl) rfl ?_
      refine JL.gval rfl rfl (yl_load1 Go.Proofs.Try.underlying2 rfl rfl (fun w hC => rd_box hC 0 rfl) rfl) rfl ?_
      refine JL.gval rfl rfl (yl_mul rfl rfl) rfl ?_
      refine JL.gval rfl rfl (yl_eql rfl rfl) rfl ?_
      refine JL.val (yl_pick_false rfl rfl) rfl ?_
      exact JL.weak [0, 1] K ⟨rfl, rfl, (by rw [hb]; rfl), trivial⟩ (by decide) rfl

/- (impl.Panel).number -/
def sh197 (q0 : SPanel) (q1 : SPoint) : Option (Int) := bif (q1.Y.tmod 2) == 1 then (some (w64 ((w64 ((w64 ((w64 ((w64 (q1.Y.tdiv 2)) * (w64 (q0.W - 1)))) + (w64 ((w64 ((w64 (q1.Y - 1)).tdiv 2)) * q0.W)))) + (w64 (q1.X.tdiv 2)))) - 1))) else (some (w64 ((w64 ((w64 ((w64 (q1.Y.tdiv 2)) * (w64 (q0.W - 1)))) + (w64 ((w64 ((w64 (q1.Y - 1)).tdiv 2)) * q0.W)))) + (w64 (q1.X.tdiv 2)))))
def T197 (r : Int) (v : Value) (rs : List Own) : Prop := v = rets [.int .i64 r] ∧ rs = []
set_option maxRecDepth 100000 in
theorem c197 {w : World} {q0 : SPanel} {a_0_2 : Option Addr} {n_0_2 c_0_2 : Nat} (g_0_2 : Rd w a_0_2 (eI64.fl q0.Breaks)) (l_0_2 : q0.Breaks.length = n_0_2) (k_0_2 : n_0_2 ≤ c_0_2) {q1 : SPoint} {r : Int} (hres : sh197 q0 q1 = some r) : Calls Go.Proofs.Try.prog 197 [.agg #[.int .i64 q0.W, .int .i64 q0.H, .slice a_0_2 n_0_2 c_0_2], .agg #[.int .i64 q1.X, .int .i64 q1.Y]].toArray w (Ret w (T197 r)) := by
  subst l_0_2
  unfold sh197 at hres
  refine calls_of (n := 36) (M := []) (es := []) Go.Proofs.Try.func197 rfl rfl rfl (Sep.nil _ _ _) ?_
  refine JX.seq ?_
  refine JX.region ?_
  refine JL.eff (ef_box rfl rfl) rfl ?_
  rintro _ _ ⟨g1, rfl, rfl⟩
  refine JL.eff (ef_box rfl rfl) rfl ?_
  rintro _ _ ⟨g3, rfl, rfl⟩
  refine JL.val (yl_assign rfl) rfl ?_
  refine JL.nil ?_
  refine JE.code ?_
  refine JX.seq ?_
  refine JX.region ?_
  refine JL.val (yl_fieldAt (a := some _) Go.Proofs.Try.underlying35 rfl i2 i2n rfl rfl) rfl ?_
  refine JL.val (yl_load1 Go.Proofs.Try.underlying2 rfl rfl (fun w hC => rd_box hC 1 rfl) rfl) rfl ?_
  refine JL.val (yl_quo rfl rfl (by decide)) rfl ?_
  refine JL.val (yl_fieldAt (a := some _) Go.Proofs.Try.underlying28 rfl i2 i2n rfl rfl) rfl ?_
  refine JL.val (yl_load1 Go.Proofs.Try.underlying2 rfl rfl (fun w hC => rd_box hC 0 rfl) rfl) rfl ?_
  refine JL.val (yl_sub rfl rfl) rfl ?_
  refine JL.val (yl_mul rfl rfl) rfl ?_
  refine JL.val (yl_fieldAt (a := some _) Go.Proofs.Try.underlying35 rfl i2 i2n rfl rfl) rfl ?_
  refine JL.val (yl_load1 Go.Proofs.Try.underlying2 rfl rfl (fun w hC => rd_box hC 1 rfl) rfl) rfl ?_
  refine JL.val (yl_sub rfl rfl) rfl ?_
  refine JL.val (yl_quo rfl rfl (by decide)) rfl ?_
  refine JL.val (yl_fieldAt (a := some _) Go.Proofs.Try.underlying28 rfl i2 i2n rfl rfl) rfl ?_
  refine JL.val (yl_load1 Go.Proofs.Try.underlying2 rfl rfl (fun w hC => rd_box hC 0 rfl) rfl) rfl ?_
  refine JL.val (yl_mul rfl rfl) rfl ?_
  refine JL.val (yl_add rfl rfl) rfl ?_
  refine JL.val (yl_assign rfl) rfl ?_
  refine JL.nil ?_
  refine JE.weak (env' := [(3, ptrAt (some ⟨g3, 0, none⟩) 0), (5, .int .i64 (w64 ((w64 ((w64 (q1.Y.tdiv 2)) * (w64 (q0.W - 1)))) + (w64 ((w64 ((w64 (q1.Y - 1)).tdiv 2)) * q0.W)))))]) (es' := [boxO 35 g3 [.int .i64 q1.X, .int .i64 q1.Y]]) [1] ?_ ⟨rfl, rfl, trivial⟩ (by decide) rfl
  refine JE.code ?_
  refine JX.seq ?_
  refine JX.seq ?_
  refine JX.region ?_
  refine JL.val (yl_fieldAt (a := some _) Go.Proofs.Try.underlying35 rfl i2 i2n rfl rfl) rfl ?_
  refine JL.val (yl_load1 Go.Proofs.Try.underlying2 rfl rfl (fun w hC => rd_box hC 0 rfl) rfl) rfl ?_
  refine JL.val (yl_rem rfl rfl (by decide)) rfl ?_
  refine JL.val (yl_eql rfl rfl) rfl ?_
  refine JL.nil ?_
  refine JE.weak (env' := [(3, ptrAt (some ⟨g3, 0, none⟩) 0), (5, .int .i64 (w64 ((w64 ((w64 (q1.Y.tdiv 2)) * (w64 (q0.W - 1)))) + (w64 ((w64 ((w64 (q1.Y - 1)).tdiv 2)) * q0.W))))), (24, .bool ((q1.Y.tmod 2) == 1))]) (es' := [boxO 35 g3 [.int .i64 q1.X, .int .i64 q1.Y]]) [0] ?_ ⟨rfl, rfl, rfl, trivial⟩ (by decide) rfl
  refine JE.code ?_
  rcases cond_some hres with ⟨hb, hres⟩ | ⟨hb, hres⟩
  · refine JX.condT rfl hb ?_
    refine JX.seq ?_
    refine JX.region ?_
    refine JL.val (yl_move rfl) rfl ?_
    refine JL.val (yl_fieldAt (a := some _) Go.Proofs.Try.underlying35 rfl i2 i2n rfl rfl) rfl ?_
    refine JL.val (yl_load1 Go.Proofs.Try.underlying2 rfl rfl (fun w hC => rd_box hC 0 rfl) rfl) rfl ?_
    refine JL.val (yl_quo rfl rfl (by decide)) rfl ?_
    refine JL.val (yl_add rfl rfl) rfl ?_
    refine JL.val (yl_sub rfl rfl) rfl ?_
    refine JL.val (yl_assign rfl) rfl ?_
    refine JL.nil ?_
    refine JE.weak (env' := [(4, .int .i64 (w64 ((w64 ((w64 ((w64 ((w64 (q1.Y.tdiv 2)) * (w64 (q0.W - 1)))) + (w64 ((w64 ((w64 (q1.Y - 1)).tdiv 2)) * q0.W)))) + (w64 (q1.X.tdiv 2)))) - 1)))]) (es' := []) [] ?_ ⟨rfl, trivial⟩ (by decide) rfl
    refine JE.code ?_
    refine JX.ret ?_
    obtain rfl := Option.some.inj hres
    refine JE.ret (rs := [.tmp 4]) (vs := [.int .i64 (w64 ((w64 ((w64 ((w64 ((w64 (q1.Y.tdiv 2)) * (w64 (q0.W - 1)))) + (w64 ((w64 ((w64 (q1.Y - 1)).tdiv 2)) * q0.W)))) + (w64 (q1.X.tdiv 2)))) - 1))]) rfl ⟨rfl, trivial⟩ ?_
    exact fun w' hb hs => ⟨_, _, ⟨rfl, rfl⟩, rfl, hb, hs.sel [] _ (by decide) rfl⟩
  · refine JX.condF rfl hb ?_
    refine JX.skip ?_
    refine JE.code ?_
    refine JX.seq ?_
    refine JX.region ?_
    refine JL.val (yl_move rfl) rfl ?_
    refine JL.val (yl_fieldAt (a := some _) Go.Proofs.Try.underlying35 rfl i2 i2n rfl rfl) rfl ?_
    refine JL.val (yl_load1 Go.Proofs.Try.underlying2 rfl rfl (fun w hC => rd_box hC 0 rfl) rfl) rfl ?_
    refine JL.val (yl_quo rfl rfl (by decide)) rfl ?_
    refine JL.val (yl_add rfl rfl) rfl ?_
    refine JL.val (yl_assign rfl) rfl ?_
    refine JL.nil ?_
    refine JE.weak (env' := [(4, .int .i64 (w64 ((w64 ((w64 ((w64 (q1.Y.tdiv 2)) * (w64 (q0.W - 1)))) + (w64 ((w64 ((w64 (q1.Y - 1)).tdiv 2)) * q0.W)))) + (w64 (q1.X.tdiv 2)))))]) (es' := []) [] ?_ ⟨rfl, trivial⟩ (by decide) rfl
    refine JE.code ?_
    refine JX.ret ?_
    obtain rfl := Option.some.inj hres
    refine JE.ret (rs := [.tmp 4]) (vs := [.int .i64 (w64 ((w64 ((w64 ((w64 (q1.Y.tdiv 2)) * (w64 (q0.W - 1)))) + (w64 ((w64 ((w64 (q1.Y - 1)).tdiv 2)) * q0.W)))) + (w64 (q1.X.tdiv 2))))]) rfl ⟨rfl, trivial⟩ ?_
    exact fun w' hb hs => ⟨_, _, ⟨rfl, rfl⟩, rfl, hb, hs.sel [] _ (by decide) rfl⟩

/- (impl.Panel).step -/
def sh169 (q0 : SPanel) (q1 : SWalker) : Option (SWalker × Bool) := Option.bind (sh195 q1) fun x7 => Option.bind (sh196 q0 x7) fun x12 => Option.bind (bif !x12 then (Option.bind (sh197 q0 x7) fun x18 => Option.bind (getI q0.Breaks x18) fun x19 => some x19) else (some 0)) fun j13 => (Option.bind (bif ((x7.X == 0) || (x7.X == (w64 (2 * q0.W)))) || (j13 == 1) then (some (SWalker.mk x7 (w64 (0 - q1.DX)) q1.DY)) else (some (SWalker.mk x7 q1.DX q1.DY))) fun j14 => (Option.bind (bif ((x7.Y == 0) || (x7.Y == (w64 (2 * q0.H)))) || (j13 == 2) then (some (SWalker.mk j14.At j14.DX (w64 (0 - j14.DY)))) else (some j14)) fun j15 => (some (j15, (j15.DX != q1.DX) || (j15.DY != q1.DY)))))
def T169 (r : SWalker × Bool) (v : Value) (rs : List Own) : Prop := v = rets [.agg #[.int .i64 r.1.At.X, .int .i64 r.1.At.Y, .int .i64 r.1.DX, .int .i64 r.1.DY], .bool r.2] ∧ rs = []
set_option maxRecDepth 100000 in
theorem c169 {w : World} {q0 : SPanel} {a_0_2 : Option Addr} {n_0_2 c_0_2 : Nat} (g_0_2 : Rd w a_0_2 (eI64.fl q0.Breaks)) (l_0_2 : q0.Breaks.length = n_0_2) (k_0_2 : n_0_2 ≤ c_0_2) {q1 : SWalker} {r : SWalker × Bool} (hres : sh169 q0 q1 = some r) : Calls Go.Proofs.Try.prog 169 [.agg #[.int .i64 q0.W, .int .i64 q0.H, .slice a_0_2 n_0_2 c_0_2], .agg #[.int .i64 q1.At.X, .int .i64 q1.At.Y, .int .i64 q1.DX, .int .i64 q1.DY]].toArray w (Ret w (T169 r)) := by
  subst l_0_2
  unfold sh169 at hres
  refine calls_of (n := 79) (M := []) (es := []) Go.Proofs.Try.func169 rfl rfl rfl (Sep.nil _ _ _) ?_
  refine JX.seq ?_
  refine JX.region ?_
  refine JL.eff (ef_box rfl rfl) rfl ?_
  rintro _ _ ⟨g1, rfl, rfl⟩
  refine JL.eff (ef_box rfl rfl) rfl ?_
  rintro _ _ ⟨g3, rfl, rfl⟩
  refine JL.eff (ef_alloc i126 i126z rfl) rfl ?_
  rintro _ _ ⟨g5, rfl, rfl⟩
  refine JL.val (yl_assign rfl) rfl ?_
  refine JL.nil ?_
  refine JE.weak (env' := [(2, ptrAt (some ⟨g1, 0, none⟩) 0), (3, ptrAt (some ⟨g3, 0, none⟩) 0), (4, ptrAt (some ⟨g5, 0, none⟩) 0)]) (es' := [boxO 28 g1 [.int .i64 q0.W, .int .i64 q0.H, .slice a_0_2 q0.Breaks.length c_0_2], boxO 126 g3 [.int .i64 q1.At.X, .int .i64 q1.At.Y, .int .i64 q1.DX, .int .i64 q1.DY], boxO 126 g5 [.int .i64 0, .int .i64 0, .int .i64 0, .int .i64 0]]) [0, 1, 2] ?_ ⟨rfl, rfl, rfl, trivial⟩ (by decide) rfl
  refine JE.code ?_
  refine JX.seq ?_
  refine JX.region ?_
  refine JL.val (yl_loadn Go.Proofs.Try.underlying126 rfl i126 rfl (fun w hC => rd_box hC 1 rfl) rfl (i126s).symm i126p) rfl ?_
  obtain ⟨x7, hx7, hres⟩ := bind_some hres
  refine JL.eff (ef_call (vs := [.agg #[.int .i64 q1.At.X, .int .i64 q1.At.Y, .int .i64 q1.DX, .int .i64 q1.DY]]) (T := T195 x7) Go.Proofs.Try.func195 rfl (by kernel_rfl) rfl (fun w hC => c195 (q0 := q1) hx7)) rfl ?_
  rintro _ _ ⟨_, ⟨rfl, rfl⟩, rfl⟩
  refine JL.eff (ef_alloc i35 i35z rfl) rfl ?_
  rintro _ _ ⟨g8, rfl, rfl⟩
  refine JL.eff (ef_store_box (i := 3) (v := .agg #[.int .i64 x7.X, .int .i64 x7.Y]) i35 rfl rfl rfl (i35s).symm (Nat.le_of_ble_eq_true rfl) (by simp [Value.cells, Value.oneCell'])) rfl ?_
  rintro _ _ rfl
  refine JL.nil ?_
  refine JE.weak (env' := [(2, ptrAt (some ⟨g1, 0, none⟩) 0), (3, ptrAt (some ⟨g3, 0, none⟩) 0), (4, ptrAt (some ⟨g5, 0, none⟩) 0), (6, ptrAt (some ⟨g8, 0, none⟩) 0)]) (es' := [boxO 28 g1 [.int .i64 q0.W, .int .i64 q0.H, .slice a_0_2 q0.Breaks.length c_0_2], boxO 126 g3 [.int .i64 q1.At.X, .int .i64 q1.At.Y, .int .i64 q1.DX, .int .i64 q1.DY], boxO 126 g5 [.int .i64 0, .int .i64 0, .int .i64 0, .int .i64 0], boxO 35 g8 [.int .i64 x7.X, .int .i64 x7.Y]]) [0, 1, 2, 3] ?_ ⟨rfl, rfl, rfl, rfl, trivial⟩ (by decide) rfl
  refine JE.code ?_
  refine JX.seq ?_
  refine JX.region ?_
  refine JL.val (yl_loadn Go.Proofs.Try.underlying35 rfl i35 rfl (fun w hC => rd_box hC 3 rfl) rfl (i35s).symm i35p) rfl ?_
  refine JL.val (yl_fieldAt (a := some _) Go.Proofs.Try.underlying126 rfl i2 i2n rfl rfl) rfl ?_
  refine JL.val (yl_load1 Go.Proofs.Try.underlying2 rfl rfl (fun w hC => rd_box hC 1 rfl) rfl) rfl ?_
  refine JL.val (yl_fieldAt (a := some _) Go.Proofs.Try.underlying126 rfl i2 i2n rfl rfl) rfl ?_
  refine JL.val (yl_load1 Go.Proofs.Try.underlying2 rfl rfl (fun w hC => rd_box hC 1 rfl) rfl) rfl ?_
  refine JL.val (yl_build rfl (fun w => bld126_0_1_2 x7.X x7.Y q1.DX q1.DY w)) rfl ?_
  refine JL.eff (ef_alloc i126 i126z rfl) rfl ?_
  rintro _ _ ⟨g10, rfl, rfl⟩
  refine JL.eff (ef_store_box (i := 4) (v := .agg #[.int .i64 x7.X, .int .i64 x7.Y, .int .i64 q1.DX, .int .i64 q1.DY]) i126 rfl rfl rfl (i126s).symm (Nat.le_of_ble_eq_true rfl) (by simp [Value.cells, Value.oneCell'])) rfl ?_
  rintro _ _ rfl
  refine JL.nil ?_
  refine JE.weak (env' := [(2, ptrAt (some ⟨g1, 0, none⟩) 0), (3, ptrAt (some ⟨g3, 0, none⟩) 0), (4, ptrAt (some ⟨g5, 0, none⟩) 0), (6, ptrAt (some ⟨g8, 0, none⟩) 0), (7, ptrAt (some ⟨g10, 0, none⟩) 0)]) (es' := [boxO 28 g1 [.int .i64 q0.W, .int .i64 q0.H, .slice a_0_2 q0.Breaks.length c_0_2], boxO 126 g3 [.int .i64 q1.At.X, .int .i64 q1.At.Y, .int .i64 q1.DX, .int .i64 q1.DY], boxO 126 g5 [.int .i64 0, .int .i64 0, .int .i64 0, .int .i64 0], boxO 35 g8 [.int .i64 x7.X, .int .i64 x7.Y], boxO 126 g10 [.int .i64 x7.X, .int .i64 x7.Y, .int .i64 q1.DX, .int .i64 q1.DY]]) [0, 1, 2, 3, 4] ?_ ⟨rfl, rfl, rfl, rfl, rfl, trivial⟩ (by decide) rfl
  refine JE.code ?_
  refine JX.seq ?_
  refine JX.region ?_
  refine JL.val (yl_assign rfl) rfl ?_
  refine JL.nil ?_
  refine JE.code ?_
  refine JX.seq ?_
  refine JX.seq ?_
  refine JX.region ?_
  refine JL.val (yl_loadn Go.Proofs.Try.underlying28 rfl i28 rfl (fun w hC => rd_box hC 0 rfl) rfl (i28s).symm i28p) rfl ?_
  refine JL.val (yl_loadn Go.Proofs.Try.underlying35 rfl i35 rfl (fun w hC => rd_box hC 3 rfl) rfl (i35s).symm i35p) rfl ?_
  obtain ⟨x12, hx12, hres⟩ := bind_some hres
  refine JL.eff (ef_call (vs := [.agg #[.int .i64 q0.W, .int .i64 q0.H, .slice a_0_2 q0.Breaks.length c_0_2], .agg #[.int .i64 x7.X, .int .i64 x7.Y]]) (T := T196 x12) Go.Proofs.Try.func196 rfl (by kernel_rfl) rfl (fun w hC => c196 (q0 := q0) (q1 := x7) (rd_arg g_0_2 hC) rfl k_0_2 hx12)) rfl ?_
  rintro _ _ ⟨_, ⟨rfl, rfl⟩, rfl⟩
  refine JL.val (yl_not rfl) rfl ?_
  refine JL.nil ?_
  refine JE.weak (env' := [(2, ptrAt (some ⟨g1, 0, none⟩) 0), (3, ptrAt (some ⟨g3, 0, none⟩) 0), (4, ptrAt (some ⟨g5, 0, none⟩) 0), (6, ptrAt (some ⟨g8, 0, none⟩) 0), (7, ptrAt (some ⟨g10, 0, none⟩) 0), (8, .int .i64 0), (20, .bool !x12)]) (es' := [boxO 28 g1 [.int .i64 q0.W, .int .i64 q0.H, .slice a_0_2 q0.Breaks.length c_0_2], boxO 126 g3 [.int .i64 q1.At.X, .int .i64 q1.At.Y, .int .i64 q1.DX, .int .i64 q1.DY], boxO 126 g5 [.int .i64 0, .int .i64 0, .int .i64 0, .int .i64 0], boxO 35 g8 [.int .i64 x7.X, .int .i64 x7.Y], boxO 126 g10 [.int .i64 x7.X, .int .i64 x7.Y, .int .i64 q1.DX, .int .i64 q1.DY]]) [0, 1, 2, 3, 4] ?_ ⟨rfl, rfl, rfl, rfl, rfl, rfl, rfl, trivial⟩ (by decide) rfl
  refine JE.code ?_
  obtain ⟨j13, hj13, hresj13⟩ := bind_some hres
  refine JX.cut (K := fun J => J [(2, ptrAt (some ⟨g1, 0, none⟩) 0), (3, ptrAt (some ⟨g3, 0, none⟩) 0), (4, ptrAt (some ⟨g5, 0, none⟩) 0), (6, ptrAt (some ⟨g8, 0, none⟩) 0), (7, ptrAt (some ⟨g10, 0, none⟩) 0), (8, .int .i64 j13)] [boxO 28 g1 [.int .i64 q0.W, .int .i64 q0.H, .slice a_0_2 q0.Breaks.length c_0_2], boxO 126 g3 [.int .i64 q1.At.X, .int .i64 q1.At.Y, .int .i64 q1.DX, .int .i64 q1.DY], boxO 126 g5 [.int .i64 0, .int .i64 0, .int .i64 0, .int .i64 0], boxO 35 g8 [.int .i64 x7.X, .int .i64 x7.Y], boxO 126 g10 [.int .i64 x7.X, .int .i64 x7.Y, .int .i64 q1.DX, .int .i64 q1.DY]]) ?_ ?_
  · have hres := hresj13
    refine JE.code ?_
    refine JX.seq ?_
    refine JX.seq ?_
    refine JX.region ?_
    refine JL.val (yl_fieldAt (a := some _) Go.Proofs.Try.underlying35 rfl i2 i2n rfl rfl) rfl ?_
    refine JL.val (yl_load1 Go.Proofs.Try.underlying2 rfl rfl (fun w hC => rd_box hC 3 rfl) rfl) rfl ?_
    refine JL.val (yl_eql rfl rfl) rfl ?_
    refine JL.val (yl_move rfl) rfl ?_
    refine JL.cut (K := fun J => J [(2, ptrAt (some ⟨g1, 0, none⟩) 0), (3, ptrAt (some ⟨g3, 0, none⟩) 0), (4, ptrAt (some ⟨g5, 0, none⟩) 0), (6, ptrAt (some ⟨g8, 0, none⟩) 0), (7, ptrAt (some ⟨g10, 0, none⟩) 0), (8, .int .i64 j13), (38, .bool ((x7.X == 0) || (x7.X == (w64 (2 * q0.W)))))] [boxO 28 g1 [.int .i64 q0.W, .int .i64 q0.H, .slice a_0_2 q0.Breaks.length c_0_2], boxO 126 g3 [.int .i64 q1.At.X, .int .i64 q1.At.Y, .int .i64 q1.DX, .int .i64 q1.DY], boxO 126 g5 [.int .i64 0, .int .i64 0, .int .i64 0, .int .i64 0], boxO 35 g8 [.int .i64 x7.X, .int .i64 x7.Y], boxO 126 g10 [.int .i64 x7.X, .int .i64 x7.Y, .int .i64 q1.DX, .int .i64 q1.DY]]) 7 ?_ ?_
    · refine JL.val (yl_move rfl) rfl ?_
      refine JL.cut (K := fun J => J [(2, ptrAt (some ⟨g1, 0, none⟩) 0), (3, ptrAt (some ⟨g3, 0, none⟩) 0), (4, ptrAt (some ⟨g5, 0, none⟩) 0), (6, ptrAt (some ⟨g8, 0, none⟩) 0), (7, ptrAt (some ⟨g10, 0, none⟩) 0), (8, .int .i64 j13), (42, .bool (((x7.X == 0) || (x7.X == (w64 (2 * q0.W)))) || (j13 == 1)))] [boxO 28 g1 [.int .i64 q0.W, .int .i64 q0.H, .slice a_0_2 q0.Breaks.length c_0_2], boxO 126 g3 [.int .i64 q1.At.X, .int .i64 q1.At.Y, .int .i64 q1.DX, .int .i64 q1.DY], boxO 126 g5 [.int .i64 0, .int .i64 0, .int .i64 0, .int .i64 0], boxO 35 g8 [.int .i64 x7.X, .int .i64 x7.Y], boxO 126 g10 [.int .i64 x7.X, .int .i64 x7.Y, .int .i64 q1.DX, .int .i64 q1.DY]]) 3 ?_ ?_
      · refine JL.nil ?_
        refine JE.weak (env' := [(2, ptrAt (some ⟨g1, 0, none⟩) 0), (3, ptrAt (some ⟨g3, 0, none⟩) 0), (4, ptrAt (some ⟨g5, 0, none⟩) 0), (6, ptrAt (some ⟨g8, 0, none⟩) 0), (7, ptrAt (some ⟨g10, 0, none⟩) 0), (8, .int .i64 j13), (42, .bool (((x7.X == 0) || (x7.X == (w64 (2 * q0.W)))) || (j13 == 1)))]) (es' := [boxO 28 g1 [.int .i64 q0.W, .int .i64 q0.H, .slice a_0_2 q0.Breaks.length c_0_2], boxO 126 g3 [.int .i64 q1.At.X, .int .i64 q1.At.Y, .int .i64 q1.DX, .int .i64 q1.DY], boxO 126 g5 [.int .i64 0, .int .i64 0, .int .i64 0, .int .i64 0], boxO 35 g8 [.int .i64 x7.X, .int .i64 x7.Y], boxO 126 g10 [.int .i64 x7.X, .int .i64 x7.Y, .int .i64 q1.DX, .int .i64 q1.DY]]) [0, 1, 2, 3, 4] ?_ ⟨rfl, rfl, rfl, rfl, rfl, rfl, rfl, trivial⟩ (by decide) rfl
        refine JE.code ?_
        obtain ⟨j14, hj14, hresj14⟩ := bind_some hres
        refine JX.cut (K := fun J => J [(2, ptrAt (some ⟨g1, 0, none⟩) 0), (3, ptrAt (some ⟨g3, 0, none⟩) 0), (4, ptrAt (some ⟨g5, 0, none⟩) 0), (6, ptrAt (some ⟨g8, 0, none⟩) 0), (7, ptrAt (some ⟨g10, 0, none⟩) 0), (8, .int .i64 j13)] [boxO 28 g1 [.int .i64 q0.W, .int .i64 q0.H, .slice a_0_2 q0.Breaks.length c_0_2], boxO 126 g3 [.int .i64 q1.At.X, .int .i64 q1.At.Y, .int .i64 q1.DX, .int .i64 q1.DY], boxO 126 g5 [.int .i64 0, .int .i64 0, .int .i64 0, .int .i64 0], boxO 35 g8 [.int .i64 x7.X, .int .i64 x7.Y], boxO 126 g10 [.int .i64 j14.At.X, .int .i64 j14.At.Y, .int .i64 j14.DX, .int .i64 j14.DY]]) ?_ ?_
        · have hres := hresj14
          refine JE.code ?_
          refine JX.seq ?_
          refine JX.seq ?_
          refine JX.region ?_
          refine JL.val (yl_fieldAt (a := some _) Go.Proofs.Try.underlying35 rfl i2 i2n rfl rfl) rfl ?_
          refine JL.val (yl_load1 Go.Proofs.Try.underlying2 rfl rfl (fun w hC => rd_box hC 3 rfl) rfl) rfl ?_
          refine JL.val (yl_eql rfl rfl) rfl ?_
          refine JL.val (yl_move rfl) rfl ?_
          refine JL.cut (K := fun J => J [(3, ptrAt (some ⟨g3, 0, none⟩) 0), (4, ptrAt (some ⟨g5, 0, none⟩) 0), (7, ptrAt (some ⟨g10, 0, none⟩) 0), (8, .int .i64 j13), (57, .bool ((x7.Y == 0) || (x7.Y == (w64 (2 * q0.H)))))] [boxO 126 g3 [.int .i64 q1.At.X, .int .i64 q1.At.Y, .int .i64 q1.DX, .int .i64 q1.DY], boxO 126 g5 [.int .i64 0, .int .i64 0, .int .i64 0, .int .i64 0], boxO 126 g10 [.int .i64 j14.At.X, .int .i64 j14.At.Y, .int .i64 j14.DX, .int .i64 j14.DY]]) 7 ?_ ?_
          · refine JL.val (yl_move rfl) rfl ?_
            refine JL.cut (K := fun J => J [(3, ptrAt (some ⟨g3, 0, none⟩) 0), (4, ptrAt (some ⟨g5, 0, none⟩) 0), (7, ptrAt (some ⟨g10, 0, none⟩) 0), (61, .bool (((x7.Y == 0) || (x7.Y == (w64 (2 * q0.H)))) || (j13 == 2)))] [boxO 126 g3 [.int .i64 q1.At.X, .int .i64 q1.At.Y, .int .i64 q1.DX, .int .i64 q1.DY], boxO 126 g5 [.int .i64 0, .int .i64 0, .int .i64 0, .int .i64 0], boxO 126 g10 [.int .i64 j14.At.X, .int .i64 j14.At.Y, .int .i64 j14.DX, .int .i64 j14.DY]]) 3 ?_ ?_
            · refine JL.nil ?_
              refine JE.weak (env' := [(3, ptrAt (some ⟨g3, 0, none⟩) 0), (4, ptrAt (some ⟨g5, 0, none⟩) 0), (7, ptrAt (some ⟨g10, 0, none⟩) 0), (61, .bool (((x7.Y == 0) || (x7.Y == (w64 (2 * q0.H)))) || (j13 == 2)))]) (es' := [boxO 126 g3 [.int .i64 q1.At.X, .int .i64 q1.At.Y, .int .i64 q1.DX, .int .i64 q1.DY], boxO 126 g5 [.int .i64 0, .int .i64 0, .int .i64 0, .int .i64 0], boxO 126 g10 [.int .i64 j14.At.X, .int .i64 j14.At.Y, .int .i64 j14.DX, .int .i64 j14.DY]]) [0, 1, 2] ?_ ⟨rfl, rfl, rfl, rfl, trivial⟩ (by decide) rfl
              refine JE.code ?_
              obtain ⟨j15, hj15, hresj15⟩ := bind_some hres
              refine JX.cut (K := fun J => J [(3, ptrAt (some ⟨g3, 0, none⟩) 0), (4, ptrAt (some ⟨g5, 0, none⟩) 0), (7, ptrAt (some ⟨g10, 0, none⟩) 0)] [boxO 126 g3 [.int .i64 q1.At.X, .int .i64 q1.At.Y, .int .i64 q1.DX, .int .i64 q1.DY], boxO 126 g5 [.int .i64 0, .int .i64 0, .int .i64 0, .int .i64 0], boxO 126 g10 [.int .i64 j15.At.X, .int .i64 j15.At.Y, .int .i64 j15.DX, .int .i64 j15.DY]]) ?_ ?_
              · have hres := hresj15
                refine JE.code ?_
                refine JX.seq ?_
                refine JX.drawH [(0, .read), (1, .pure), (2, .read), (3, .pure), (4, .read), (5, .pure), (6, .pure), (7, .pure), (8, .read), (9, .pure), (10, .read), (11, .pure), (12, .pure), (13, .must), (14, .pure)] [13] [1] [0, 2] [boxO 126 g5 [.int .i64 0, .int .i64 0, .int .i64 0, .int .i64 0]] [boxO 126 g3 [.int .i64 q1.At.X, .int .i64 q1.At.Y, .int .i64 q1.DX, .int .i64 q1.DY], boxO 126 g10 [.int .i64 j15.At.X, .int .i64 j15.At.Y, .int .i64 j15.DX, .int .i64 j15.DY]] mixedP (by kernel_rfl) (by kernel_rfl) (by decide) rfl rfl ?_
                intro wrr16 Nr16 hFr16
                refine JH.read rfl (yl_loadn Go.Proofs.Try.underlying126 rfl i126 rfl (fun w hw => hFr16.box 2 rfl rfl hw) rfl (i126s).symm i126p) rfl ?_
                refine JH.pure rfl (yl_fieldAt (a := some _) Go.Proofs.Try.underlying126 rfl i2 i2n rfl rfl) rfl ?_
                refine JH.read rfl (yl_load1 Go.Proofs.Try.underlying2 rfl rfl (fun w hw => hFr16.box 2 rfl rfl hw) rfl) rfl ?_
                refine JH.pure rfl (yl_fieldAt (a := some _) Go.Proofs.Try.underlying126 rfl i2 i2n rfl rfl) rfl ?_
                refine JH.read rfl (yl_load1 Go.Proofs.Try.underlying2 rfl rfl (fun w hw => hFr16.box 0 rfl rfl hw) rfl) rfl ?_
                refine JH.pure rfl (yl_neq rfl rfl) rfl ?_
                refine JH.pure rfl (yl_move rfl) rfl ?_
                refine JH.cut (K := fun J => J [(4, ptrAt (some ⟨g5, 0, none⟩) 0), (66, .agg #[.int .i64 j15.At.X, .int .i64 j15.At.Y, .int .i64 j15.DX, .int .i64 j15.DY]), (78, .bool ((j15.DX != q1.DX) || (j15.DY != q1.DY)))] [boxO 126 g5 [.int .i64 0, .int .i64 0, .int .i64 0, .int .i64 0]]) 6 ?_ ?_
                · refine JH.must rfl (ef_store_box (i := 0) (v := .agg #[.int .i64 j15.At.X, .int .i64 j15.At.Y, .int .i64 j15.DX, .int .i64 j15.DY]) i126 rfl rfl rfl (i126s).symm (Nat.le_of_ble_eq_true rfl) (by simp [Value.cells, Value.oneCell'])) rfl rfl ?_
                  rintro _ _ rfl
                  refine JH.pure rfl (yl_assign rfl) rfl ?_
                  refine JH.nil ?_
                  refine JE.weak (env' := [(4, ptrAt (some ⟨g5, 0, none⟩) 0), (5, .bool ((j15.DX != q1.DX) || (j15.DY != q1.DY)))]) (es' := [boxO 126 g5 [.int .i64 j15.At.X, .int .i64 j15.At.Y, .int .i64 j15.DX, .int .i64 j15.DY]]) [2] ?_ ⟨rfl, rfl, trivial⟩ (by decide) rfl
                  refine JE.code ?_
                  refine JX.ret ?_
                  obtain rfl := Option.some.inj hres
                  refine JE.ret (rs := [.cell 4 126, .tmp 5]) (vs := [.agg #[.int .i64 j15.At.X, .int .i64 j15.At.Y, .int .i64 j15.DX, .int .i64 j15.DY], .bool ((j15.DX != q1.DX) || (j15.DY != q1.DY))]) rfl ⟨rv_box 0 rfl rfl Go.Proofs.Try.underlying126 rfl i126 (i126s).symm, rfl, trivial⟩ ?_
                  exact fun w' hb hs => ⟨_, _, ⟨rfl, rfl⟩, rfl, hb, hs.sel [] _ (by decide) rfl⟩
                · intro K
                  rcases Bool.eq_false_or_eq_true (j15.DX != q1.DX) with hb | hb
                  · refine JH.set (d := 72) (v := .bool true) (congrArg (fun b => some (Value.bool b)) hb) ?_
                    refine JH.gskip rfl rfl rfl rfl rfl rfl ?_
                    refine JH.gskip rfl rfl rfl rfl rfl rfl ?_
                    refine JH.gskip rfl rfl rfl rfl rfl rfl ?_
                    refine JH.gskip rfl rfl rfl rfl rfl rfl ?_
                    refine JH.gskip rfl rfl rfl rfl rfl rfl ?_
                    refine JH.pure rfl (yl_pick_true rfl rfl) rfl ?_
                    exact JH.weak [0] K ⟨rfl, rfl, (by rw [hb]; rfl), trivial⟩ (by decide) rfl
                  · refine JH.set (d := 72) (v := .bool false) (congrArg (fun b => some (Value.bool b)) hb) ?_
                    refine JH.gpure rfl rfl rfl (yl_fieldAt (a := some _) Go.Proofs.Try.underlying126 rfl i2 i2n rfl rfl) rfl ?_
                    refine JH.gread rfl rfl rfl (yl_load1 Go.Proofs.Try.underlying2 rfl rfl (fun w hw => hFr16.box 2 rfl rfl hw) rfl) rfl ?_
                    refine JH.gpure rfl rfl rfl (yl_fieldAt (a := some _) Go.Proofs.Try.underlying126 rfl i2 i2n rfl rfl) rfl ?_
                    refine JH.gread rfl rfl rfl (yl_load1 Go.Proofs.Try.underlying2 rfl rfl (fun w hw => hFr16.box 0 rfl rfl hw) rfl) rfl ?_
                    refine JH.gpure rfl rfl rfl (yl_neq rfl rfl) rfl ?_
                    refine JH.pure rfl (yl_pick_false rfl rfl) rfl ?_
                    exact JH.weak [0] K ⟨rfl, rfl, (by rw [hb]; rfl), trivial⟩ (by decide) rfl
              · intro K
                rcases cond_some hj15 with ⟨hb, hres⟩ | ⟨hb, hres⟩
                · refine JX.condT rfl hb ?_
                  refine JX.region ?_
                  refine JL.val (yl_fieldAt (a := some _) Go.Proofs.Try.underlying126 rfl i2 i2n rfl rfl) rfl ?_
                  refine JL.val (yl_load1 Go.Proofs.Try.underlying2 rfl rfl (fun w hC => rd_box hC 2 rfl) rfl) rfl ?_
                  refine JL.val (yl_neg rfl) rfl ?_
                  refine JL.val (yl_fieldAt (a := some _) Go.Proofs.Try.underlying126 rfl i2 i2n rfl rfl) rfl ?_
                  refine JL.eff (ef_store_box (i := 2) (v := .int .i64 (w64 (0 - j14.DY))) i2 rfl rfl rfl (i2s).symm (Nat.le_of_ble_eq_true rfl) (by simp [Value.cells, Value.oneCell'])) rfl ?_
                  rintro _ _ rfl
                  refine JL.nil ?_
                  refine JE.weak (env' := [(3, ptrAt (some ⟨g3, 0, none⟩) 0), (4, ptrAt (some ⟨g5, 0, none⟩) 0), (7, ptrAt (some ⟨g10, 0, none⟩) 0)]) (es' := [boxO 126 g3 [.int .i64 q1.At.X, .int .i64 q1.At.Y, .int .i64 q1.DX, .int .i64 q1.DY], boxO 126 g5 [.int .i64 0, .int .i64 0, .int .i64 0, .int .i64 0], boxO 126 g10 [.int .i64 j14.At.X, .int .i64 j14.At.Y, .int .i64 j14.DX, .int .i64 (w64 (0 - j14.DY))]]) [0, 1, 2] ?_ ⟨rfl, rfl, rfl, trivial⟩ (by decide) rfl
                  have hj := Option.some.inj hres
                  exact JE.weak [0, 1, 2] (K) ⟨(by subst hj; rfl), (by subst hj; rfl), (by subst hj; rfl), trivial⟩ (by decide) (by subst hj; rfl)
                · refine JX.condF rfl hb ?_
                  refine JX.skip ?_
                  have hj := Option.some.inj hres
                  exact JE.weak [0, 1, 2] (K) ⟨(by subst hj; rfl), (by subst hj; rfl), (by subst hj; rfl), trivial⟩ (by decide) (by subst hj; rfl)
            · intro K
              rcases Bool.eq_false_or_eq_true ((x7.Y == 0) || (x7.Y == (w64 (2 * q0.H)))) with hb | hb
              · refine JL.set (d := 58) (v := .bool true) (congrArg (fun b => some (Value.bool b)) hb) ?_
                refine JL.gskip rfl rfl rfl rfl ?_
                refine JL.gskip rfl rfl rfl rfl ?_
                refine JL.val (yl_pick_true rfl rfl) rfl ?_
                exact JL.weak [0, 1, 2] K ⟨rfl, rfl, rfl, (by rw [hb]; rfl), trivial⟩ (by decide) rfl
              · refine JL.set (d := 58) (v := .bool false) (congrArg (fun b => some (Value.bool b)) hb) ?_
                refine JL.gval rfl rfl (yl_move rfl) rfl ?_
                refine JL.gval rfl rfl (yl_eql rfl rfl) rfl ?_
                refine JL.val (yl_pick_false rfl rfl) rfl ?_
                exact JL.weak [0, 1, 2] K ⟨rfl, rfl, rfl, (by rw [hb]; rfl), trivial⟩ (by decide) rfl
          · intro K
            rcases Bool.eq_false_or_eq_true (x7.Y == 0) with hb | hb
            · refine JL.set (d := 50) (v := .bool true) (congrArg (fun b => some (Value.bool b)) hb) ?_
              refine JL.gskip rfl rfl rfl rfl ?_
              refine JL.gskip rfl rfl rfl rfl ?_
              refine JL.gskip rfl rfl rfl rfl ?_
              refine JL.gskip rfl rfl rfl rfl ?_
              refine JL.gskip rfl rfl rfl rfl ?_
              refine JL.gskip rfl rfl rfl rfl ?_
              refine JL.val (yl_pick_true rfl rfl) rfl ?_
              exact JL.weak [1, 2, 4] K ⟨rfl, rfl, rfl, rfl, (by rw [hb]; rfl), trivial⟩ (by decide) rfl
            · refine JL.set (d := 50) (v := .bool false) (congrArg (fun b => some (Value.bool b)) hb) ?_
              refine JL.gval rfl rfl (yl_fieldAt (a := some _) Go.Proofs.Try.underlying35 rfl i2 i2n rfl rfl) rfl ?_
              refine JL.gval rfl rfl (yl_load1 Go.Proofs.Try.underlying2 rfl rfl (fun w hC => rd_box hC 3 rfl) rfl) rfl ?_
              refine JL.gval rfl rfl (yl_fieldAt (a := some _) Go.Proofs.Try.underlying28 rfl i2 i2n rfl rfl) rfl ?_
              refine JL.gval rfl rfl (yl_load1 Go.Proofs.Try.underlying2 rfl rfl (fun w hC => rd_box hC 0 rfl) rfl) rfl ?_
              refine JL.gval rfl rfl (yl_mul rfl rfl) rfl ?_
              refine JL.gval rfl rfl (yl_eql rfl rfl) rfl ?_
              refine JL.val (yl_pick_false rfl rfl) rfl ?_
              exact JL.weak [1, 2, 4] K ⟨rfl, rfl, rfl, rfl, (by rw [hb]; rfl), trivial⟩ (by decide) rfl
        · intro K
          rcases cond_some hj14 with ⟨hb, hres⟩ | ⟨hb, hres⟩
          · refine JX.condT rfl hb ?_
            refine JX.region ?_
            refine JL.val (yl_fieldAt (a := some _) Go.Proofs.Try.underlying126 rfl i2 i2n rfl rfl) rfl ?_
            refine JL.val (yl_load1 Go.Proofs.Try.underlying2 rfl rfl (fun w hC => rd_box hC 4 rfl) rfl) rfl ?_
            refine JL.val (yl_neg rfl) rfl ?_
            refine JL.val (yl_fieldAt (a := some _) Go.Proofs.Try.underlying126 rfl i2 i2n rfl rfl) rfl ?_
            refine JL.eff (ef_store_box (i := 4) (v := .int .i64 (w64 (0 - q1.DX))) i2 rfl rfl rfl (i2s).symm (Nat.le_of_ble_eq_true rfl) (by simp [Value.cells, Value.oneCell'])) rfl ?_
            rintro _ _ rfl
            refine JL.nil ?_
            refine JE.weak (env' := [(2, ptrAt (some ⟨g1, 0, none⟩) 0), (3, ptrAt (some ⟨g3, 0, none⟩) 0), (4, ptrAt (some ⟨g5, 0, none⟩) 0), (6, ptrAt (some ⟨g8, 0, none⟩) 0), (7, ptrAt (some ⟨g10, 0, none⟩) 0), (8, .int .i64 j13)]) (es' := [boxO 28 g1 [.int .i64 q0.W, .int .i64 q0.H, .slice a_0_2 q0.Breaks.length c_0_2], boxO 126 g3 [.int .i64 q1.At.X, .int .i64 q1.At.Y, .int .i64 q1.DX, .int .i64 q1.DY], boxO 126 g5 [.int .i64 0, .int .i64 0, .int .i64 0, .int .i64 0], boxO 35 g8 [.int .i64 x7.X, .int .i64 x7.Y], boxO 126 g10 [.int .i64 x7.X, .int .i64 x7.Y, .int .i64 (w64 (0 - q1.DX)), .int .i64 q1.DY]]) [0, 1, 2, 3, 4] ?_ ⟨rfl, rfl, rfl, rfl, rfl, rfl, trivial⟩ (by decide) rfl
            have hj := Option.some.inj hres
            exact JE.weak [0, 1, 2, 3, 4] (K) ⟨(by subst hj; rfl), (by subst hj; rfl), (by subst hj; rfl), (by subst hj; rfl), (by subst hj; rfl), (by subst hj; rfl), trivial⟩ (by decide) (by subst hj; rfl)
          · refine JX.condF rfl hb ?_
            refine JX.skip ?_
            have hj := Option.some.inj hres
            exact JE.weak [0, 1, 2, 3, 4] (K) ⟨(by subst hj; rfl), (by subst hj; rfl), (by subst hj; rfl), (by subst hj; rfl), (by subst hj; rfl), (by subst hj; rfl), trivial⟩ (by decide) (by subst hj; rfl)
      · intro K
        rcases Bool.eq_false_or_eq_true ((x7.X == 0) || (x7.X == (w64 (2 * q0.W)))) with hb | hb
        · refine JL.set (d := 39) (v := .bool true) (congrArg (fun b => some (Value.bool b)) hb) ?_
          refine JL.gskip rfl rfl rfl rfl ?_
          refine JL.gskip rfl rfl rfl rfl ?_
          refine JL.val (yl_pick_true rfl rfl) rfl ?_
          exact JL.weak [0, 1, 2, 3, 4] K ⟨rfl, rfl, rfl, rfl, rfl, rfl, (by rw [hb]; rfl), trivial⟩ (by decide) rfl
        · refine JL.set (d := 39) (v := .bool false) (congrArg (fun b => some (Value.bool b)) hb) ?_
          refine JL.gval rfl rfl (yl_move rfl) rfl ?_
          refine JL.gval rfl rfl (yl_eql rfl rfl) rfl ?_
          refine JL.val (yl_pick_false rfl rfl) rfl ?_
          exact JL.weak [0, 1, 2, 3, 4] K ⟨rfl, rfl, rfl, rfl, rfl, rfl, (by rw [hb]; rfl), trivial⟩ (by decide) rfl
    · intro K
      rcases Bool.eq_false_or_eq_true (x7.X == 0) with hb | hb
      · refine JL.set (d := 31) (v := .bool true) (congrArg (fun b => some (Value.bool b)) hb) ?_
        refine JL.gskip rfl rfl rfl rfl ?_
        refine JL.gskip rfl rfl rfl rfl ?_
        refine JL.gskip rfl rfl rfl rfl ?_
        refine JL.gskip rfl rfl rfl rfl ?_
        refine JL.gskip rfl rfl rfl rfl ?_
        refine JL.gskip rfl rfl rfl rfl ?_
        refine JL.val (yl_pick_true rfl rfl) rfl ?_
        exact JL.weak [0, 1, 2, 3, 4] K ⟨rfl, rfl, rfl, rfl, rfl, rfl, (by rw [hb]; rfl), trivial⟩ (by decide) rfl
      · refine JL.set (d := 31) (v := .bool false) (congrArg (fun b => some (Value.bool b)) hb) ?_
        refine JL.gval rfl rfl (yl_fieldAt (a := some _) Go.Proofs.Try.underlying35 rfl i2 i2n rfl rfl) rfl ?_
        refine JL.gval rfl rfl (yl_load1 Go.Proofs.Try.underlying2 rfl rfl (fun w hC => rd_box hC 3 rfl) rfl) rfl ?_
        refine JL.gval rfl rfl (yl_fieldAt (a := some _) Go.Proofs.Try.underlying28 rfl i2 i2n rfl rfl) rfl ?_
        refine JL.gval rfl rfl (yl_load1 Go.Proofs.Try.underlying2 rfl rfl (fun w hC => rd_box hC 0 rfl) rfl) rfl ?_
        refine JL.gval rfl rfl (yl_mul rfl rfl) rfl ?_
        refine JL.gval rfl rfl (yl_eql rfl rfl) rfl ?_
        refine JL.val (yl_pick_false rfl rfl) rfl ?_
        exact JL.weak [0, 1, 2, 3, 4] K ⟨rfl, rfl, rfl, rfl, rfl, rfl, (by rw [hb]; rfl), trivial⟩ (by decide) rfl
  · intro K
    rcases cond_some hj13 with ⟨hb, hres⟩ | ⟨hb, hres⟩
    · refine JX.condT rfl hb ?_
      refine JX.drawH [(0, .pure), (1, .read), (2, .read), (3, .read), (4, .must), (5, .pure), (6, .read), (7, .pure)] [] [] [0, 1, 2, 3, 4] [] [boxO 28 g1 [.int .i64 q0.W, .int .i64 q0.H, .slice a_0_2 q0.Breaks.length c_0_2], boxO 126 g3 [.int .i64 q1.At.X, .int .i64 q1.At.Y, .int .i64 q1.DX, .int .i64 q1.DY], boxO 126 g5 [.int .i64 0, .int .i64 0, .int .i64 0, .int .i64 0], boxO 35 g8 [.int .i64 x7.X, .int .i64 x7.Y], boxO 126 g10 [.int .i64 x7.X, .int .i64 x7.Y, .int .i64 q1.DX, .int .i64 q1.DY]] mixedP (by kernel_rfl) (by kernel_rfl) (by decide) rfl rfl ?_
      intro wrr17 Nr17 hFr17
      refine JH.pure rfl (yl_fieldAt (a := some _) Go.Proofs.Try.underlying28 rfl i22 i22n rfl rfl) rfl ?_
      refine JH.read rfl (yl_load1 Go.Proofs.Try.underlying22 rfl rfl (fun w hw => hFr17.box 0 rfl rfl hw) rfl) rfl ?_
      refine JH.read rfl (yl_loadn Go.Proofs.Try.underlying28 rfl i28 rfl (fun w hw => hFr17.box 0 rfl rfl hw) rfl (i28s).symm i28p) rfl ?_
      refine JH.read rfl (yl_loadn Go.Proofs.Try.underlying35 rfl i35 rfl (fun w hw => hFr17.box 3 rfl rfl hw) rfl (i35s).symm i35p) rfl ?_
      obtain ⟨x18, hx18, hres⟩ := bind_some hres
      refine JH.must rfl (ef_call (vs := [.agg #[.int .i64 q0.W, .int .i64 q0.H, .slice a_0_2 q0.Breaks.length c_0_2], .agg #[.int .i64 x7.X, .int .i64 x7.Y]]) (T := T197 x18) Go.Proofs.Try.func197 rfl (by kernel_rfl) rfl (fun w hC => c197 (q0 := q0) (q1 := x7) (hFr17.arg g_0_2 hC.1) rfl k_0_2 hx18)) rfl rfl ?_
      rintro _ _ ⟨_, ⟨rfl, rfl⟩, rfl⟩
      obtain ⟨x19, hx19, hres⟩ := bind_some hres
      refine JH.pure rfl (yl_idxQ Go.Proofs.Try.underlying22 i2 i2s rfl rfl hx19 rfl (rd_arg g_0_2 hFr17.cl) rfl) rfl ?_
      refine JH.read rfl (yl_loadT0 Go.Proofs.Try.underlying2 rfl rfl hx19 (fun w hw => hFr17.arg g_0_2 hw) rfl) rfl ?_
      refine JH.pure rfl (yl_assign rfl) rfl ?_
      refine JH.nil ?_
      refine JE.weak (env' := [(2, ptrAt (some ⟨g1, 0, none⟩) 0), (3, ptrAt (some ⟨g3, 0, none⟩) 0), (4, ptrAt (some ⟨g5, 0, none⟩) 0), (6, ptrAt (some ⟨g8, 0, none⟩) 0), (7, ptrAt (some ⟨g10, 0, none⟩) 0), (8, .int .i64 x19)]) (es' := [boxO 28 g1 [.int .i64 q0.W, .int .i64 q0.H, .slice a_0_2 q0.Breaks.length c_0_2], boxO 126 g3 [.int .i64 q1.At.X, .int .i64 q1.At.Y, .int .i64 q1.DX, .int .i64 q1.DY], boxO 126 g5 [.int .i64 0, .int .i64 0, .int .i64 0, .int .i64 0], boxO 35 g8 [.int .i64 x7.X, .int .i64 x7.Y], boxO 126 g10 [.int .i64 x7.X, .int .i64 x7.Y, .int .i64 q1.DX, .int .i64 q1.DY]]) [0, 1, 2, 3, 4] ?_ ⟨rfl, rfl, rfl, rfl, rfl, rfl, trivial⟩ (by decide) rfl
      have hj := Option.some.inj hres
      exact JE.weak [0, 1, 2, 3, 4] (K) ⟨(by subst hj; rfl), (by subst hj; rfl), (by subst hj; rfl), (by subst hj; rfl), (by subst hj; rfl), (by subst hj; rfl), trivial⟩ (by decide) (by subst hj; rfl)
    · refine JX.condF rfl hb ?_
      refine JX.skip ?_
      have hj := Option.some.inj hres
      exact JE.weak [0, 1, 2, 3, 4] (K) ⟨(by subst hj; rfl), (by subst hj; rfl), (by subst hj; rfl), (by subst hj; rfl), (by subst hj; rfl), (by subst hj; rfl), trivial⟩ (by decide) (by subst hj; rfl)

/- (impl.Panel).trace -/
def sh114_3 (q0 : SPanel) (x23 : List (List SWalker)) : (List Int × List SWalker × SWalker) → Option ((List Int × List SWalker × SWalker) ⊕ (List Int × List SWalker))
  | (x40, x41, x42) => Option.bind (sh168 q0 x42) fun x47 => Option.bind (getI x40 x47) fun x48 => bif decide (x48 < 0) then (Option.bind (sh168 q0 x42) fun x49 => Option.bind (getI x40 x49) fun x50 => Option.bind (appL x41 [x42]) fun x53 => Option.bind (sh169 q0 x42) fun x58 => some (.inl (x40.set (x49).toNat ((x23.length : Nat) : Int), x53, x58.1))) else (some (.inr (x40, x41)))
def sh114_2 (q0 : SPanel) (x16 : Int) : (Int × List (List SWalker) × List Int) → Option ((Int × List (List SWalker) × List Int) ⊕ (List (List SWalker) × List Int))
  | (x22, x23, x24) => bif decide (x22 < x16) then (Option.bind (getI x24 x22) fun x30 => bif decide (0 ≤ x30) then (some (.inl (w64 (x22 + 1), x23, x24))) else (Option.bind (sh167 q0 x22) fun x33 => Option.bind (iter (sh114_3 q0 x23) (x24, ([] : List SWalker), x33)) fun b3 => (Option.bind (appL x23 [b3.2]) fun x64 => some (.inl (w64 (x22 + 1), x64, b3.1))))) else (some (.inr (x23, x24)))
def sh114_1 (x7 : List Int) : (Int × List Int) → Option ((Int × List Int) ⊕ (List Int))
  | (x11, x12) => bif decide (x11 < (x7.length : Int)) then (Option.bind (getI x12 x11) fun x14 => some (.inl (w64 (x11 + 1), x12.set (x11).toNat (-1)))) else (some (.inr x12))
def sh114 (q0 : SPanel) : Option (List (List SWalker) × List Int) := Option.bind (sh166 q0) fun x6 => Option.bind (mkL x6 0) fun x7 => Option.bind (iter (sh114_1 x7) (0, x7)) fun b1 => (Option.bind (sh166 q0) fun x16 => Option.bind (iter (sh114_2 q0 x16) (0, ([] : List (List SWalker)), b1)) fun b2 => (some (b2.1, b2.2)))
def T114 (r : List (List SWalker) × List Int) (v : Value) (rs : List Own) : Prop := ∃ (a0 : Option Addr) (n0 c0 : Nat) (h0 : List Hd), r.1.length = n0 ∧ Inn h0 r.1 ∧ ∃ (a1 : Option Addr) (n1 c1 : Nat), r.2.length = n1 ∧ v = rets [.slice a0 n0 c0, .slice a1 n1 c1] ∧ rs = [rowT 164 eHd a0 n0 c0 h0, innO 126 eSWalker none h0 r.1, rowT 2 eI64 a1 n1 c1 r.2]
set_option maxRecDepth 100000 in
set_option maxHeartbeats 1000000 in
theorem c114 {w : World} {q0 : SPanel} {a_0_2 : Option Addr} {n_0_2 c_0_2 : Nat} (g_0_2 : Rd w a_0_2 (eI64.fl q0.Breaks)) (l_0_2 : q0.Breaks.length = n_0_2) (k_0_2 : n_0_2 ≤ c_0_2) {r : List (List SWalker) × List Int} (hres : sh114 q0 = some r) : Calls Go.Proofs.Try.prog 114 [.agg #[.int .i64 q0.W, .int .i64 q0.H, .slice a_0_2 n_0_2 c_0_2]].toArray w (Ret w (T114 r)) := by
  subst l_0_2
  unfold sh114 at hres
  refine calls_of (n := 69) (M := []) (es := []) Go.Proofs.Try.func114 rfl rfl rfl (Sep.nil _ _ _) ?_
  refine JX.seq ?_
  refine JX.region ?_
  refine JL.eff (ef_box rfl rfl) rfl ?_
  rintro _ _ ⟨g1, rfl, rfl⟩
  refine JL.val (yl_assign rfl) rfl ?_
  refine JL.val (yl_assign rfl) rfl ?_
  refine JL.nil ?_
  refine JE.code ?_
  refine JX.seq ?_
  refine JX.region ?_
  refine JL.eff (ef_buildSlice (E := 164) (k := eHd.k) (us := eHd.fl ([] : List Hd)) rfl (fun w => bsl121_0  w) rfl (by decide)) rfl ?_
  rintro _ _ ⟨a3, rfl, rfl⟩
  refine JL.nilinn 126 eSWalker ?_
  refine JL.val (yl_assign rfl) rfl ?_
  refine JL.nil ?_
  refine JE.code ?_
  refine JX.seq ?_
  refine JX.region ?_
  refine JL.val (yl_loadn Go.Proofs.Try.underlying28 rfl i28 rfl (fun w hC => rd_box hC 0 rfl) rfl (i28s).symm i28p) rfl ?_
  obtain ⟨x6, hx6, hres⟩ := bind_some hres
  refine JL.eff (ef_call (vs := [.agg #[.int .i64 q0.W, .int .i64 q0.H, .slice a_0_2 q0.Breaks.length c_0_2]]) (T := T166 x6) Go.Proofs.Try.func166 rfl (by kernel_rfl) rfl (fun w hC => c166 (q0 := q0) (rd_arg g_0_2 hC) rfl k_0_2 hx6)) rfl ?_
  rintro _ _ ⟨_, ⟨rfl, rfl⟩, rfl⟩
  obtain ⟨x7, hx7, hres⟩ := bind_some hres
  refine JL.eff (ef_makeS (e := eI64) Go.Proofs.Try.underlying22 i2 i2s i2z rfl i2b1 rfl rfl hx7) rfl ?_
  rintro _ _ ⟨a8, rfl, rfl⟩
  refine JL.val (yl_assign rfl) rfl ?_
  refine JL.nil ?_
  refine JE.weak (env' := [(1, ptrAt (some ⟨g1, 0, none⟩) 0), (4, .slice a3 0 0), (5, .slice a8 x7.length x7.length)]) (es' := [boxO 28 g1 [.int .i64 q0.W, .int .i64 q0.H, .slice a_0_2 q0.Breaks.length c_0_2], rowT 164 eHd a3 0 0 ([] : List Hd), innO 126 eSWalker none ([] : List Hd) ([] : List (List SWalker)), rowT 2 eI64 a8 x7.length x7.length x7]) [0, 1, 2, 3] ?_ ⟨rfl, rfl, rfl, trivial⟩ (by decide) rfl
  refine JE.code ?_
  refine JX.seq ?_
  refine JX.seq ?_
  refine JX.region ?_
  refine JL.val (yl_move rfl) rfl ?_
  refine JL.val (yl_len_slice Go.Proofs.Try.underlying22 rfl) rfl ?_
  refine JL.val (yl_move rfl) rfl ?_
  refine JL.nil ?_
  refine JE.code ?_
  refine JX.block ?_
  obtain ⟨y1, hy1, hresO1⟩ := bind_some hres
  refine JX.loop (I := fun (s1 : Int × List Int) aa ww => ∃ (l10 : s1.2.length = x7.length), St w [] 69 [(1, ptrAt (some ⟨g1, 0, none⟩) 0), (4, .slice a3 0 0), (5, .slice a8 x7.length x7.length), (15, .int .i64 (x7.length : Int)), (16, .int .i64 s1.1)] [boxO 28 g1 [.int .i64 q0.W, .int .i64 q0.H, .slice a_0_2 q0.Breaks.length c_0_2], rowT 164 eHd a3 0 0 ([] : List Hd), innO 126 eSWalker none ([] : List Hd) ([] : List (List SWalker)), rowT 2 eI64 a8 x7.length x7.length s1.2] aa ww) (sh114_1 x7) hy1 (fun a w h => ⟨rfl, h.weak ⟨rfl, rfl, rfl, rfl, rfl, trivial⟩ [0, 1, 2, 3] (by decide) rfl⟩) ?_
  rintro ⟨x11, x12⟩ o1 hres hox1 aa ww ⟨l13, hS⟩
  refine (?_ : JX Go.Proofs.Try.prog w [] 69 _ _ [(1, ptrAt (some ⟨g1, 0, none⟩) 0), (4, .slice a3 0 0), (5, .slice a8 x7.length x7.length), (15, .int .i64 (x7.length : Int)), (16, .int .i64 x11)] [boxO 28 g1 [.int .i64 q0.W, .int .i64 q0.H, .slice a_0_2 q0.Breaks.length c_0_2], rowT 164 eHd a3 0 0 ([] : List Hd), innO 126 eSWalker none ([] : List Hd) ([] : List (List SWalker)), rowT 2 eI64 a8 x7.length x7.length x12] _) aa ww hS
  clear hS
  simp only [sh114_1] at hres
  refine JX.seq ?_
  refine JX.region ?_
  refine JL.val (yl_lss rfl rfl) rfl ?_
  refine JL.nil ?_
  refine JE.code ?_
  refine JX.seq ?_
  rcases cond_some hres with ⟨hb, hres⟩ | ⟨hb, hres⟩
  · refine JX.condT rfl hb ?_
    refine JX.skip ?_
    refine JE.code ?_
    refine JX.seq ?_
    refine JX.block ?_
    refine JX.seq ?_
    refine JX.region ?_
    refine JL.val (yl_move rfl) rfl ?_
    refine JL.val (yl_assign rfl) rfl ?_
    refine JL.nil ?_
    refine JE.code ?_
    refine JX.region ?_
    refine JL.val (yl_move rfl) rfl ?_
    refine JL.val (yl_move rfl) rfl ?_
    obtain ⟨x14, hx14, hres⟩ := bind_some hres
    refine JL.val (yl_idxT Go.Proofs.Try.underlying22 i2 i2s rfl rfl hx14 l13 (fun w hC => rd_row hC 3 rfl)) rfl ?_
    refine JL.eff (ef_storeT (ix := 3) (u := (-1)) i2 i2s rfl rfl rfl hx14 rfl) rfl ?_
    rintro _ _ rfl
    refine JL.nil ?_
    refine JE.weak (env' := [(1, ptrAt (some ⟨g1, 0, none⟩) 0), (4, .slice a3 0 0), (5, .slice a8 x7.length x7.length), (15, .int .i64 (x7.length : Int)), (16, .int .i64 x11)]) (es' := [boxO 28 g1 [.int .i64 q0.W, .int .i64 q0.H, .slice a_0_2 q0.Breaks.length c_0_2], rowT 164 eHd a3 0 0 ([] : List Hd), innO 126 eSWalker none ([] : List Hd) ([] : List (List SWalker)), rowT 2 eI64 a8 x7.length x7.length (x12.set (x11).toNat (-1))]) [0, 1, 2, 3] ?_ ⟨rfl, rfl, rfl, rfl, rfl, trivial⟩ (by decide) rfl
    refine JE.code ?_
    refine JX.region ?_
    refine JL.val (yl_add rfl rfl) rfl ?_
    refine JL.val (yl_move rfl) rfl ?_
    refine JL.nil ?_
    refine JE.cont hres ?_
    exact fun a w h => ⟨(List.length_set.trans l13), h.weak ⟨rfl, rfl, rfl, rfl, rfl, trivial⟩ [0, 1, 2, 3] (by decide) rfl⟩
  · refine JX.condF rfl hb ?_
    refine JX.exit ?_
    refine JE.qb rfl ?_
    obtain ⟨b1, hb1⟩ : ∃ b : List Int, b = x12 := ⟨_, rfl⟩
    have hy1 : b1 = y1 := by rw [hb1]; exact hox1 _ (Option.some.inj hres).symm
    have hres := hresO1
    rw [← hy1] at hres
    have l15 : b1.length = x7.length := by subst hb1; exact l13
    refine JE.weak (env' := [(1, ptrAt (some ⟨g1, 0, none⟩) 0), (4, .slice a3 0 0), (5, .slice a8 x7.length x7.length)]) (es' := [boxO 28 g1 [.int .i64 q0.W, .int .i64 q0.H, .slice a_0_2 q0.Breaks.length c_0_2], rowT 164 eHd a3 0 0 ([] : List Hd), innO 126 eSWalker none ([] : List Hd) ([] : List (List SWalker)), rowT 2 eI64 a8 x7.length x7.length b1]) [0, 1, 2, 3] ?_ ⟨(by subst hb1; rfl), (by subst hb1; rfl), (by subst hb1; rfl), trivial⟩ (by decide) (by subst hb1; rfl)
    refine JE.code ?_
    refine JX.seq ?_
    refine JX.seq ?_
    refine JX.region ?_
    refine JL.val (yl_loadn Go.Proofs.Try.underlying28 rfl i28 rfl (fun w hC => rd_box hC 0 rfl) rfl (i28s).symm i28p) rfl ?_
    obtain ⟨x16, hx16, hres⟩ := bind_some hres
    refine JL.eff (ef_call (vs := [.agg #[.int .i64 q0.W, .int .i64 q0.H, .slice a_0_2 q0.Breaks.length c_0_2]]) (T := T166 x16) Go.Proofs.Try.func166 rfl (by kernel_rfl) rfl (fun w hC => c166 (q0 := q0) (rd_arg g_0_2 hC) rfl k_0_2 hx16)) rfl ?_
    rintro _ _ ⟨_, ⟨rfl, rfl⟩, rfl⟩
    refine JL.val (yl_move rfl) rfl ?_
    refine JL.nil ?_
    refine JE.code ?_
    refine JX.block ?_
    obtain ⟨y2, hy2, hresO2⟩ := bind_some hres
    refine JX.loop (I := fun (s2 : Int × List (List SWalker) × List Int) aa ww => ∃ (a17 : Option Addr) (cp18 : Nat) (hs19 : List Hd) (hi20 : Inn hs19 s2.2.1) (l21 : s2.2.2.length = x7.length), St w [] 69 [(1, ptrAt (some ⟨g1, 0, none⟩) 0), (4, .slice a17 s2.2.1.length cp18), (5, .slice a8 x7.length x7.length), (24, .int .i64 x16), (25, .int .i64 s2.1)] [boxO 28 g1 [.int .i64 q0.W, .int .i64 q0.H, .slice a_0_2 q0.Breaks.length c_0_2], rowT 164 eHd a17 s2.2.1.length cp18 hs19, innO 126 eSWalker none hs19 s2.2.1, rowT 2 eI64 a8 x7.length x7.length s2.2.2] aa ww) (sh114_2 q0 x16) hy2 (fun a w h => ⟨a3, 0, ([] : List Hd), (Inn.nil (T := SWalker)), l15, h.weak ⟨rfl, rfl, rfl, rfl, rfl, trivial⟩ [0, 1, 2, 3] (by decide) rfl⟩) ?_
    rintro ⟨x22, x23, x24⟩ o2 hres hox2 aa ww ⟨a25, cp26, hs27, hi28, l29, hS⟩
    refine (?_ : JX Go.Proofs.Try.prog w [] 69 _ _ [(1, ptrAt (some ⟨g1, 0, none⟩) 0), (4, .slice a25 x23.length cp26), (5, .slice a8 x7.length x7.length), (24, .int .i64 x16), (25, .int .i64 x22)] [boxO 28 g1 [.int .i64 q0.W, .int .i64 q0.H, .slice a_0_2 q0.Breaks.length c_0_2], rowT 164 eHd a25 x23.length cp26 hs27, innO 126 eSWalker none hs27 x23, rowT 2 eI64 a8 x7.length x7.length x24] _) aa ww hS
    clear hS
    simp only [sh114_2] at hres
    refine JX.seq ?_
    refine JX.region ?_
    refine JL.val (yl_lss rfl rfl) rfl ?_
    refine JL.nil ?_
    refine JE.code ?_
    refine JX.seq ?_
    rcases cond_some hres with ⟨hb, hres⟩ | ⟨hb, hres⟩
    · refine JX.condT rfl hb ?_
      refine JX.skip ?_
      refine JE.code ?_
      refine JX.seq ?_
      refine JX.block ?_
      refine JX.seq ?_
      refine JX.region ?_
      refine JL.val (yl_move rfl) rfl ?_
      refine JL.val (yl_assign rfl) rfl ?_
      refine JL.nil ?_
      refine JE.code ?_
      refine JX.seq ?_
      refine JX.seq ?_
      refine JX.region ?_
      refine JL.val (yl_move rfl) rfl ?_
      refine JL.val (yl_move rfl) rfl ?_
      obtain ⟨x30, hx30, hres⟩ := bind_some hres
      refine JL.val (yl_idxT Go.Proofs.Try.underlying22 i2 i2s rfl rfl hx30 l29 (fun w hC => rd_row hC 3 rfl)) rfl ?_
      refine JL.val (yl_loadT0 Go.Proofs.Try.underlying2 rfl rfl hx30 (fun w hC => rd_row hC 3 rfl) rfl) rfl ?_
      refine JL.val (yl_geq rfl rfl) rfl ?_
      refine JL.nil ?_
      refine JE.weak (env' := [(1, ptrAt (some ⟨g1, 0, none⟩) 0), (4, .slice a25 x23.length cp26), (5, .slice a8 x7.length x7.length), (7, .int .i64 x22), (24, .int .i64 x16), (25, .int .i64 x22), (32, .bool (decide (0 ≤ x30)))]) (es' := [boxO 28 g1 [.int .i64 q0.W, .int .i64 q0.H, .slice a_0_2 q0.Breaks.length c_0_2], rowT 164 eHd a25 x23.length cp26 hs27, innO 126 eSWalker none hs27 x23, rowT 2 eI64 a8 x7.length x7.length x24]) [0, 1, 2, 3] ?_ ⟨rfl, rfl, rfl, rfl, rfl, rfl, rfl, trivial⟩ (by decide) rfl
      refine JE.code ?_
      rcases cond_some hres with ⟨hb, hres⟩ | ⟨hb, hres⟩
      · refine JX.condT rfl hb ?_
        refine JX.exit ?_
        refine JE.qb rfl ?_
        refine JE.code ?_
        refine JX.region ?_
        refine JL.val (yl_add rfl rfl) rfl ?_
        refine JL.val (yl_move rfl) rfl ?_
        refine JL.nil ?_
        refine JE.cont hres ?_
        exact fun a w h => ⟨a25, cp26, hs27, hi28, l29, h.weak ⟨rfl, (by first | rfl | (simp only [List.length_set, l29]; rfl) | simp only [List.length_set, l29]), rfl, rfl, rfl, trivial⟩ [0, 1, 2, 3] (by decide) (by first | rfl | (simp only [List.length_set, l29]; rfl) | simp only [List.length_set, l29])⟩
      · refine JX.condF rfl hb ?_
        refine JX.skip ?_
        refine JE.code ?_
        refine JX.seq ?_
        refine JX.region ?_
        refine JL.eff (ef_buildSlice (E := 126) (k := eSWalker.k) (us := eSWalker.fl ([] : List SWalker)) rfl (fun w => bsl164_0  w) rfl (by decide)) rfl ?_
        rintro _ _ ⟨a31, rfl, rfl⟩
        refine JL.val (yl_assign rfl) rfl ?_
        refine JL.nil ?_
        refine JE.code ?_
        refine JX.seq ?_
        refine JX.seq ?_
        refine JX.region ?_
        refine JL.val (yl_loadn Go.Proofs.Try.underlying28 rfl i28 rfl (fun w hC => rd_box hC 0 rfl) rfl (i28s).symm i28p) rfl ?_
        refine JL.val (yl_move rfl) rfl ?_
        obtain ⟨x33, hx33, hres⟩ := bind_some hres
        refine JL.eff (ef_call (vs := [.agg #[.int .i64 q0.W, .int .i64 q0.H, .slice a_0_2 q0.Breaks.length c_0_2], .int .i64 x22]) (T := T167 x33) Go.Proofs.Try.func167 rfl (by kernel_rfl) rfl (fun w hC => c167 (q0 := q0) (rd_arg g_0_2 hC) rfl k_0_2 hx33)) rfl ?_
        rintro _ _ ⟨_, ⟨rfl, rfl⟩, rfl⟩
        refine JL.eff (ef_alloc i126 i126z rfl) rfl ?_
        rintro _ _ ⟨g34, rfl, rfl⟩
        refine JL.eff (ef_store_box (i := 5) (v := .agg #[.int .i64 x33.At.X, .int .i64 x33.At.Y, .int .i64 x33.DX, .int .i64 x33.DY]) i126 rfl rfl rfl (i126s).symm (Nat.le_of_ble_eq_true rfl) (by simp [Value.cells, Value.oneCell'])) rfl ?_
        rintro _ _ rfl
        refine JL.nil ?_
        refine JE.weak (env' := [(1, ptrAt (some ⟨g1, 0, none⟩) 0), (4, .slice a25 x23.length cp26), (5, .slice a8 x7.length x7.length), (8, .slice a31 0 0), (9, ptrAt (some ⟨g34, 0, none⟩) 0), (24, .int .i64 x16), (25, .int .i64 x22)]) (es' := [boxO 28 g1 [.int .i64 q0.W, .int .i64 q0.H, .slice a_0_2 q0.Breaks.length c_0_2], rowT 164 eHd a25 x23.length cp26 hs27, innO 126 eSWalker none hs27 x23, rowT 2 eI64 a8 x7.length x7.length x24, rowT 126 eSWalker a31 0 0 ([] : List SWalker), boxO 126 g34 [.int .i64 x33.At.X, .int .i64 x33.At.Y, .int .i64 x33.DX, .int .i64 x33.DY]]) [0, 1, 2, 3, 4, 5] ?_ ⟨rfl, rfl, rfl, rfl, rfl, rfl, rfl, trivial⟩ (by decide) rfl
        refine JE.code ?_
        refine JX.block ?_
        obtain ⟨y3, hy3, hresO3⟩ := bind_some hres
        refine JX.loop (I := fun (s3 : List Int × List SWalker × SWalker) aa ww => ∃ (l36 : s3.1.length = x7.length) (a37 : Option Addr) (cp38 : Nat) (g39 : Nat), St w [] 69 [(1, ptrAt (some ⟨g1, 0, none⟩) 0), (4, .slice a25 x23.length cp26), (5, .slice a8 x7.length x7.length), (8, .slice a37 s3.2.1.length cp38), (9, ptrAt (some ⟨g39, 0, none⟩) 0), (24, .int .i64 x16), (25, .int .i64 x22)] [boxO 28 g1 [.int .i64 q0.W, .int .i64 q0.H, .slice a_0_2 q0.Breaks.length c_0_2], rowT 164 eHd a25 x23.length cp26 hs27, innO 126 eSWalker none hs27 x23, rowT 2 eI64 a8 x7.length x7.length s3.1, rowT 126 eSWalker a37 s3.2.1.length cp38 s3.2.1, boxO 126 g39 [.int .i64 s3.2.2.At.X, .int .i64 s3.2.2.At.Y, .int .i64 s3.2.2.DX, .int .i64 s3.2.2.DY]] aa ww) (sh114_3 q0 x23) hy3 (fun a w h => ⟨l29, a31, 0, g34, h.weak ⟨rfl, rfl, rfl, rfl, rfl, rfl, rfl, trivial⟩ [0, 1, 2, 3, 4, 5] (by decide) rfl⟩) ?_
        rintro ⟨x40, x41, x42⟩ o3 hres hox3 aa ww ⟨l43, a44, cp45, g46, hS⟩
        refine (?_ : JX Go.Proofs.Try.prog w [] 69 _ _ [(1, ptrAt (some ⟨g1, 0, none⟩) 0), (4, .slice a25 x23.length cp26), (5, .slice a8 x7.length x7.length), (8, .slice a44 x41.length cp45), (9, ptrAt (some ⟨g46, 0, none⟩) 0), (24, .int .i64 x16), (25, .int .i64 x22)] [boxO 28 g1 [.int .i64 q0.W, .int .i64 q0.H, .slice a_0_2 q0.Breaks.length c_0_2], rowT 164 eHd a25 x23.length cp26 hs27, innO 126 eSWalker none hs27 x23, rowT 2 eI64 a8 x7.length x7.length x40, rowT 126 eSWalker a44 x41.length cp45 x41, boxO 126 g46 [.int .i64 x42.At.X, .int .i64 x42.At.Y, .int .i64 x42.DX, .int .i64 x42.DY]] _) aa ww hS
        clear hS
        simp only [sh114_3] at hres
        refine JX.seq ?_
        refine JX.seq ?_
        refine JX.region ?_
        refine JL.val (yl_move rfl) rfl ?_
        refine JL.val (yl_loadn Go.Proofs.Try.underlying28 rfl i28 rfl (fun w hC => rd_box hC 0 rfl) rfl (i28s).symm i28p) rfl ?_
        refine JL.val (yl_loadn Go.Proofs.Try.underlying126 rfl i126 rfl (fun w hC => rd_box hC 5 rfl) rfl (i126s).symm i126p) rfl ?_
        obtain ⟨x47, hx47, hres⟩ := bind_some hres
        refine JL.eff (ef_call (vs := [.agg #[.int .i64 q0.W, .int .i64 q0.H, .slice a_0_2 q0.Breaks.length c_0_2], .agg #[.int .i64 x42.At.X, .int .i64 x42.At.Y, .int .i64 x42.DX, .int .i64 x42.DY]]) (T := T168 x47) Go.Proofs.Try.func168 rfl (by kernel_rfl) rfl (fun w hC => c168 (q0 := q0) (q1 := x42) (rd_arg g_0_2 hC) rfl k_0_2 hx47)) rfl ?_
        rintro _ _ ⟨_, ⟨rfl, rfl⟩, rfl⟩
        obtain ⟨x48, hx48, hres⟩ := bind_some hres
        refine JL.val (yl_idxT Go.Proofs.Try.underlying22 i2 i2s rfl rfl hx48 l43 (fun w hC => rd_row hC 3 rfl)) rfl ?_
        refine JL.val (yl_loadT0 Go.Proofs.Try.underlying2 rfl rfl hx48 (fun w hC => rd_row hC 3 rfl) rfl) rfl ?_
        refine JL.val (yl_lss rfl rfl) rfl ?_
        refine JL.nil ?_
        refine JE.weak (env' := [(1, ptrAt (some ⟨g1, 0, none⟩) 0), (4, .slice a25 x23.length cp26), (5, .slice a8 x7.length x7.length), (8, .slice a44 x41.length cp45), (9, ptrAt (some ⟨g46, 0, none⟩) 0), (24, .int .i64 x16), (25, .int .i64 x22), (43, .bool (decide (x48 < 0)))]) (es' := [boxO 28 g1 [.int .i64 q0.W, .int .i64 q0.H, .slice a_0_2 q0.Breaks.length c_0_2], rowT 164 eHd a25 x23.length cp26 hs27, innO 126 eSWalker none hs27 x23, rowT 2 eI64 a8 x7.length x7.length x40, rowT 126 eSWalker a44 x41.length cp45 x41, boxO 126 g46 [.int .i64 x42.At.X, .int .i64 x42.At.Y, .int .i64 x42.DX, .int .i64 x42.DY]]) [0, 1, 2, 3, 4, 5] ?_ ⟨rfl, rfl, rfl, rfl, rfl, rfl, rfl, rfl, trivial⟩ (by decide) rfl
        refine JE.code ?_
        rcases cond_some hres with ⟨hb, hres⟩ | ⟨hb, hres⟩
        · refine JX.condT rfl hb ?_
          refine JX.skip ?_
          refine JE.code ?_
          refine JX.seq ?_
          refine JX.block ?_
          refine JX.seq ?_
          refine JX.region ?_
          refine JL.val (yl_move rfl) rfl ?_
          refine JL.val (yl_loadn Go.Proofs.Try.underlying28 rfl i28 rfl (fun w hC => rd_box hC 0 rfl) rfl (i28s).symm i28p) rfl ?_
          refine JL.val (yl_loadn Go.Proofs.Try.underlying126 rfl i126 rfl (fun w hC => rd_box hC 5 rfl) rfl (i126s).symm i126p) rfl ?_
          obtain ⟨x49, hx49, hres⟩ := bind_some hres
          refine JL.eff (ef_call (vs := [.agg #[.int .i64 q0.W, .int .i64 q0.H, .slice a_0_2 q0.Breaks.length c_0_2], .agg #[.int .i64 x42.At.X, .int .i64 x42.At.Y, .int .i64 x42.DX, .int .i64 x42.DY]]) (T := T168 x49) Go.Proofs.Try.func168 rfl (by kernel_rfl) rfl (fun w hC => c168 (q0 := q0) (q1 := x42) (rd_arg g_0_2 hC) rfl k_0_2 hx49)) rfl ?_
          rintro _ _ ⟨_, ⟨rfl, rfl⟩, rfl⟩
          refine JL.val (yl_move rfl) rfl ?_
          refine JL.val (yl_len_slice Go.Proofs.Try.underlying121 rfl) rfl ?_
          obtain ⟨x50, hx50, hres⟩ := bind_some hres
          refine JL.val (yl_idxT Go.Proofs.Try.underlying22 i2 i2s rfl rfl hx50 l43 (fun w hC => rd_row hC 3 rfl)) rfl ?_
          refine JL.eff (ef_storeT (ix := 3) (u := ((x23.length : Nat) : Int)) i2 i2s rfl rfl rfl hx50 rfl) rfl ?_
          rintro _ _ rfl
          refine JL.nil ?_
          refine JE.weak (env' := [(1, ptrAt (some ⟨g1, 0, none⟩) 0), (4, .slice a25 x23.length cp26), (5, .slice a8 x7.length x7.length), (8, .slice a44 x41.length cp45), (9, ptrAt (some ⟨g46, 0, none⟩) 0), (24, .int .i64 x16), (25, .int .i64 x22)]) (es' := [boxO 28 g1 [.int .i64 q0.W, .int .i64 q0.H, .slice a_0_2 q0.Breaks.length c_0_2], rowT 164 eHd a25 x23.length cp26 hs27, innO 126 eSWalker none hs27 x23, rowT 2 eI64 a8 x7.length x7.length (x40.set (x49).toNat ((x23.length : Nat) : Int)), rowT 126 eSWalker a44 x41.length cp45 x41, boxO 126 g46 [.int .i64 x42.At.X, .int .i64 x42.At.Y, .int .i64 x42.DX, .int .i64 x42.DY]]) [0, 1, 2, 3, 4, 5] ?_ ⟨rfl, rfl, rfl, rfl, rfl, rfl, rfl, trivial⟩ (by decide) rfl
          refine JE.code ?_
          refine JX.region ?_
          refine JL.val (yl_move rfl) rfl ?_
          refine JL.val (yl_loadn Go.Proofs.Try.underlying126 rfl i126 rfl (fun w hC => rd_box hC 5 rfl) rfl (i126s).symm i126p) rfl ?_
          refine JL.eff (ef_buildSlice (E := 126) (k := eSWalker.k) (us := eSWalker.fl [x42]) rfl (fun w => bsl164_1 x42.At.X x42.At.Y x42.DX x42.DY w) rfl (by decide)) rfl ?_
          rintro _ _ ⟨a51, rfl, rfl⟩
          obtain ⟨x53, hx53, hres⟩ := bind_some hres
          refine JL.eff (ef_appendT (ix := 4) Go.Proofs.Try.underlying164 i126 i126z i126s rfl i126b0 i126b1 rfl rfl rfl rfl rfl (fun w hC => rd_row hC 6 rfl) hx53) rfl ?_
          rintro _ _ ⟨a54, cp55, rfl, rfl⟩
          refine JL.val (yl_assign rfl) rfl ?_
          refine JL.nil ?_
          refine JE.weak (env' := [(1, ptrAt (some ⟨g1, 0, none⟩) 0), (4, .slice a25 x23.length cp26), (5, .slice a8 x7.length x7.length), (8, .slice a54 x53.length cp55), (9, ptrAt (some ⟨g46, 0, none⟩) 0), (24, .int .i64 x16), (25, .int .i64 x22)]) (es' := [boxO 28 g1 [.int .i64 q0.W, .int .i64 q0.H, .slice a_0_2 q0.Breaks.length c_0_2], rowT 164 eHd a25 x23.length cp26 hs27, innO 126 eSWalker none hs27 x23, rowT 2 eI64 a8 x7.length x7.length (x40.set (x49).toNat ((x23.length : Nat) : Int)), rowT 126 eSWalker a54 x53.length cp55 x53, boxO 126 g46 [.int .i64 x42.At.X, .int .i64 x42.At.Y, .int .i64 x42.DX, .int .i64 x42.DY]]) [0, 1, 2, 3, 4, 5] ?_ ⟨rfl, rfl, rfl, rfl, rfl, rfl, rfl, trivial⟩ (by decide) rfl
          refine JE.code ?_
          refine JX.seq ?_
          refine JX.seq ?_
          refine JX.region ?_
          refine JL.val (yl_loadn Go.Proofs.Try.underlying126 rfl i126 rfl (fun w hC => rd_box hC 5 rfl) rfl (i126s).symm i126p) rfl ?_
          refine JL.nil ?_
          refine JE.weak (env' := [(1, ptrAt (some ⟨g1, 0, none⟩) 0), (4, .slice a25 x23.length cp26), (5, .slice a8 x7.length x7.length), (8, .slice a54 x53.length cp55), (24, .int .i64 x16), (25, .int .i64 x22), (61, .agg #[.int .i64 x42.At.X, .int .i64 x42.At.Y, .int .i64 x42.DX, .int .i64 x42.DY])]) (es' := [boxO 28 g1 [.int .i64 q0.W, .int .i64 q0.H, .slice a_0_2 q0.Breaks.length c_0_2], rowT 164 eHd a25 x23.length cp26 hs27, innO 126 eSWalker none hs27 x23, rowT 2 eI64 a8 x7.length x7.length (x40.set (x49).toNat ((x23.length : Nat) : Int)), rowT 126 eSWalker a54 x53.length cp55 x53]) [0, 1, 2, 3, 4] ?_ ⟨rfl, rfl, rfl, rfl, rfl, rfl, rfl, trivial⟩ (by decide) rfl
          refine JE.code ?_
          refine JX.region ?_
          refine JL.eff (ef_alloc i126 i126z rfl) rfl ?_
          rintro _ _ ⟨g56, rfl, rfl⟩
          refine JL.eff (ef_store_box (i := 5) (v := .agg #[.int .i64 x42.At.X, .int .i64 x42.At.Y, .int .i64 x42.DX, .int .i64 x42.DY]) i126 rfl rfl rfl (i126s).symm (Nat.le_of_ble_eq_true rfl) (by simp [Value.cells, Value.oneCell'])) rfl ?_
          rintro _ _ rfl
          refine JL.nil ?_
          refine JE.code ?_
          refine JX.region ?_
          refine JL.val (yl_loadn Go.Proofs.Try.underlying28 rfl i28 rfl (fun w hC => rd_box hC 0 rfl) rfl (i28s).symm i28p) rfl ?_
          refine JL.val (yl_loadn Go.Proofs.Try.underlying126 rfl i126 rfl (fun w hC => rd_box hC 5 rfl) rfl (i126s).symm i126p) rfl ?_
          obtain ⟨x58, hx58, hres⟩ := bind_some hres
          refine JL.eff (ef_call (vs := [.agg #[.int .i64 q0.W, .int .i64 q0.H, .slice a_0_2 q0.Breaks.length c_0_2], .agg #[.int .i64 x42.At.X, .int .i64 x42.At.Y, .int .i64 x42.DX, .int .i64 x42.DY]]) (T := T169 x58) Go.Proofs.Try.func169 rfl (by kernel_rfl) rfl (fun w hC => c169 (q0 := q0) (q1 := x42) (rd_arg g_0_2 hC) rfl k_0_2 hx58)) rfl ?_
          rintro _ _ ⟨_, ⟨rfl, rfl⟩, rfl⟩
          refine JL.val (yl_move rfl) rfl ?_
          refine JL.val (yl_extract rfl rfl) rfl ?_
          refine JL.val (yl_extract rfl rfl) rfl ?_
          refine JL.eff (ef_store_box (i := 5) (v := .agg #[.int .i64 x58.1.At.X, .int .i64 x58.1.At.Y, .int .i64 x58.1.DX, .int .i64 x58.1.DY]) i126 rfl rfl rfl (i126s).symm (Nat.le_of_ble_eq_true rfl) (by simp [Value.cells, Value.oneCell'])) rfl ?_
          rintro _ _ rfl
          refine JL.nil ?_
          refine JE.weak (env' := [(1, ptrAt (some ⟨g1, 0, none⟩) 0), (4, .slice a25 x23.length cp26), (5, .slice a8 x7.length x7.length), (8, .slice a54 x53.length cp55), (9, ptrAt (some ⟨g56, 0, none⟩) 0), (24, .int .i64 x16), (25, .int .i64 x22)]) (es' := [boxO 28 g1 [.int .i64 q0.W, .int .i64 q0.H, .slice a_0_2 q0.Breaks.length c_0_2], rowT 164 eHd a25 x23.length cp26 hs27, innO 126 eSWalker none hs27 x23, rowT 2 eI64 a8 x7.length x7.length (x40.set (x49).toNat ((x23.length : Nat) : Int)), rowT 126 eSWalker a54 x53.length cp55 x53, boxO 126 g56 [.int .i64 x58.1.At.X, .int .i64 x58.1.At.Y, .int .i64 x58.1.DX, .int .i64 x58.1.DY]]) [0, 1, 2, 3, 4, 5] ?_ ⟨rfl, rfl, rfl, rfl, rfl, rfl, rfl, trivial⟩ (by decide) rfl
          refine JE.cont hres ?_
          exact fun a w h => ⟨(List.length_set.trans l43), a54, cp55, g56, h.weak ⟨rfl, rfl, rfl, rfl, rfl, rfl, rfl, trivial⟩ [0, 1, 2, 3, 4, 5] (by decide) rfl⟩
        · refine JX.condF rfl hb ?_
          refine JX.exit ?_
          refine JE.qb rfl ?_
          obtain ⟨b3, hb3⟩ : ∃ b : List Int × List SWalker, b = (x40, x41) := ⟨_, rfl⟩
          have hy3 : b3 = y3 := by rw [hb3]; exact hox3 _ (Option.some.inj hres).symm
          have hres := hresO3
          rw [← hy3] at hres
          have l59 : b3.1.length = x7.length := by subst hb3; exact l43
          refine JE.weak (env' := [(1, ptrAt (some ⟨g1, 0, none⟩) 0), (4, .slice a25 x23.length cp26), (5, .slice a8 x7.length x7.length), (8, .slice a44 b3.2.length cp45), (24, .int .i64 x16), (25, .int .i64 x22)]) (es' := [boxO 28 g1 [.int .i64 q0.W, .int .i64 q0.H, .slice a_0_2 q0.Breaks.length c_0_2], rowT 164 eHd a25 x23.length cp26 hs27, innO 126 eSWalker none hs27 x23, rowT 2 eI64 a8 x7.length x7.length b3.1, rowT 126 eSWalker a44 b3.2.length cp45 b3.2]) [0, 1, 2, 3, 4] ?_ ⟨(by subst hb3; rfl), (by subst hb3; rfl), (by subst hb3; rfl), (by subst hb3; rfl), (by subst hb3; rfl), (by subst hb3; rfl), trivial⟩ (by decide) (by subst hb3; rfl)
          refine JE.code ?_
          refine JX.region ?_
          refine JL.val (yl_move rfl) rfl ?_
          refine JL.val (yl_move rfl) rfl ?_
          refine JL.eff (ef_buildSlice (E := 164) (k := eHd.k) (us := eHd.fl [⟨a44, b3.2.length, cp45⟩]) rfl (fun w => bsl121_1 a44 b3.2.length cp45 w) rfl (by decide)) rfl ?_
          rintro _ _ ⟨a62, rfl, rfl⟩
          obtain ⟨x64, hx64, hres⟩ := bind_some hres
          refine JL.eff (ef_appendH (ix := 1) Go.Proofs.Try.underlying121 i164 i164z i164s rfl i164b0 i164b1 rfl rfl (Inn.len hi28) rfl rfl (fun w hC => rd_row hC 5 rfl) hx64 hi28) rfl ?_
          rintro _ _ ⟨a65, cp66, rfl, rfl⟩
          refine JL.absorb (es' := [boxO 28 g1 [.int .i64 q0.W, .int .i64 q0.H, .slice a_0_2 q0.Breaks.length c_0_2], rowT 164 eHd a65 x64.length cp66 (hs27 ++ [⟨a44, b3.2.length, cp45⟩]), rowT 2 eI64 a8 x7.length x7.length b3.1, rowT 164 eHd a62 1 1 [⟨a44, b3.2.length, cp45⟩]]) [0, 1, 3, 5, 2, 4] (by decide) rfl (appL_some hx64).2 ?_
          refine JL.val (yl_assign rfl) rfl ?_
          refine JL.nil ?_
          refine JE.weak (env' := [(1, ptrAt (some ⟨g1, 0, none⟩) 0), (4, .slice a65 x64.length cp66), (5, .slice a8 x7.length x7.length), (24, .int .i64 x16), (25, .int .i64 x22)]) (es' := [boxO 28 g1 [.int .i64 q0.W, .int .i64 q0.H, .slice a_0_2 q0.Breaks.length c_0_2], rowT 164 eHd a65 x64.length cp66 (hs27 ++ [⟨a44, b3.2.length, cp45⟩]), innO 126 eSWalker none (hs27 ++ [⟨a44, b3.2.length, cp45⟩]) x64, rowT 2 eI64 a8 x7.length x7.length b3.1]) [0, 1, 4, 2] ?_ ⟨rfl, rfl, rfl, rfl, rfl, trivial⟩ (by decide) rfl
          refine JE.code ?_
          refine JX.region ?_
          refine JL.val (yl_add rfl rfl) rfl ?_
          refine JL.val (yl_move rfl) rfl ?_
          refine JL.nil ?_
          refine JE.cont hres ?_
          exact fun a w h => ⟨a65, cp66, hs27 ++ [⟨a44, b3.2.length, cp45⟩], (Inn.appZ hi28 rfl (appL_some hx64).2), l59, h.weak ⟨rfl, (by first | rfl | (simp only [List.length_set, l59]; rfl) | simp only [List.length_set, l59]), rfl, rfl, rfl, trivial⟩ [0, 1, 2, 3] (by decide) (by first | rfl | (simp only [List.length_set, l59]; rfl) | simp only [List.length_set, l59])⟩
    · refine JX.condF rfl hb ?_
      refine JX.exit ?_
      refine JE.qb rfl ?_
      obtain ⟨b2, hb2⟩ : ∃ b : List (List SWalker) × List Int, b = (x23, x24) := ⟨_, rfl⟩
      have hy2 : b2 = y2 := by rw [hb2]; exact hox2 _ (Option.some.inj hres).symm
      have hres := hresO2
      rw [← hy2] at hres
      have hi70 : Inn hs27 b2.1 := by subst hb2; exact hi28
      have l71 : b2.2.length = x7.length := by subst hb2; exact l29
      refine JE.weak (env' := [(4, .slice a25 b2.1.length cp26), (5, .slice a8 x7.length x7.length)]) (es' := [rowT 164 eHd a25 b2.1.length cp26 hs27, innO 126 eSWalker none hs27 b2.1, rowT 2 eI64 a8 x7.length x7.length b2.2]) [1, 2, 3] ?_ ⟨(by subst hb2; first | rfl | (simp only [List.length_set, l29]; rfl) | simp only [List.length_set, l29]), (by subst hb2; rfl), trivial⟩ (by decide) (by subst hb2; first | rfl | (simp only [List.length_set, l29]; rfl) | simp only [List.length_set, l29])
      refine JE.code ?_
      refine JX.seq ?_
      refine JX.region ?_
      refine JL.val (yl_move rfl) rfl ?_
      refine JL.val (yl_move rfl) rfl ?_
      refine JL.val (yl_assign rfl) rfl ?_
      refine JL.val (yl_assign rfl) rfl ?_
      refine JL.nil ?_
      refine JE.weak (env' := [(2, .slice a25 b2.1.length cp26), (3, .slice a8 x7.length x7.length)]) (es' := [rowT 164 eHd a25 b2.1.length cp26 hs27, innO 126 eSWalker none hs27 b2.1, rowT 2 eI64 a8 x7.length x7.length b2.2]) [0, 1, 2] ?_ ⟨rfl, rfl, trivial⟩ (by decide) rfl
      refine JE.code ?_
      refine JX.ret ?_
      obtain rfl := Option.some.inj hres
      refine JE.ret (rs := [.tmp 2, .tmp 3]) (vs := [.slice a25 b2.1.length cp26, .slice a8 x7.length x7.length]) rfl ⟨rfl, rfl, trivial⟩ ?_
      exact fun w' hb hs => ⟨_, _, ⟨a25, b2.1.length, cp26, hs27, rfl, hi70, a8, x7.length, x7.length, l71, rfl, rfl⟩, rfl, hb, hs.sel [0, 1, 2] _ (by decide) rfl⟩

/- impl.countCurves -/
def sh118 (q0 : SPanel) : Option (Int) := Option.bind (sh114 q0) fun x3 => some ((x3.1.length : Nat) : Int)
def T118 (r : Int) (v : Value) (rs : List Own) : Prop := v = rets [.int .i64 r] ∧ rs = []
set_option maxRecDepth 100000 in
theorem c118 {w : World} {q0 : SPanel} {a_0_2 : Option Addr} {n_0_2 c_0_2 : Nat} (g_0_2 : Rd w a_0_2 (eI64.fl q0.Breaks)) (l_0_2 : q0.Breaks.length = n_0_2) (k_0_2 : n_0_2 ≤ c_0_2) {r : Int} (hres : sh118 q0 = some r) : Calls Go.Proofs.Try.prog 118 [.agg #[.int .i64 q0.W, .int .i64 q0.H, .slice a_0_2 n_0_2 c_0_2]].toArray w (Ret w (T118 r)) := by
  subst l_0_2
  unfold sh118 at hres
  refine calls_of (n := 12) (M := []) (es := []) Go.Proofs.Try.func118 rfl rfl rfl (Sep.nil _ _ _) ?_
  refine JX.seq ?_
  refine JX.region ?_
  refine JL.eff (ef_box rfl rfl) rfl ?_
  rintro _ _ ⟨g1, rfl, rfl⟩
  refine JL.val (yl_assign rfl) rfl ?_
  refine JL.nil ?_
  refine JE.code ?_
  refine JX.seq ?_
  refine JX.region ?_
  refine JL.val (yl_loadn Go.Proofs.Try.underlying28 rfl i28 rfl (fun w hC => rd_box hC 0 rfl) rfl (i28s).symm i28p) rfl ?_
  obtain ⟨x3, hx3, hres⟩ := bind_some hres
  refine JL.eff (ef_call (vs := [.agg #[.int .i64 q0.W, .int .i64 q0.H, .slice a_0_2 q0.Breaks.length c_0_2]]) (T := T114 x3) Go.Proofs.Try.func114 rfl (by kernel_rfl) rfl (fun w hC => c114 (q0 := q0) (rd_arg g_0_2 hC) rfl k_0_2 hx3)) rfl ?_
  rintro _ _ ⟨_, ⟨a4, _, cp5, hs7, rfl, hi8, a10, _, cp11, rfl, rfl, rfl⟩, rfl⟩
  refine JL.val (yl_move rfl) rfl ?_
  refine JL.val (yl_extract rfl rfl) rfl ?_
  refine JL.val (yl_extract rfl rfl) rfl ?_
  refine JL.val (yl_assign rfl) rfl ?_
  refine JL.val (yl_assign rfl) rfl ?_
  refine JL.nil ?_
  refine JE.weak (env' := [(3, .slice a4 x3.1.length cp5)]) (es' := [rowT 164 eHd a4 x3.1.length cp5 hs7, innO 126 eSWalker none hs7 x3.1]) [1, 2] ?_ ⟨rfl, trivial⟩ (by decide) rfl
  refine JE.code ?_
  refine JX.seq ?_
  refine JX.region ?_
  refine JL.val (yl_move rfl) rfl ?_
  refine JL.val (yl_len_slice Go.Proofs.Try.underlying121 rfl) rfl ?_
  refine JL.val (yl_assign rfl) rfl ?_
  refine JL.nil ?_
  refine JE.weak (env' := [(2, .int .i64 ((x3.1.length : Nat) : Int))]) (es' := []) [] ?_ ⟨rfl, trivial⟩ (by decide) rfl
  refine JE.code ?_
  refine JX.ret ?_
  obtain rfl := Option.some.inj hres
  refine JE.ret (rs := [.tmp 2]) (vs := [.int .i64 ((x3.1.length : Nat) : Int)]) rfl ⟨rfl, trivial⟩ ?_
  exact fun w' hb hs => ⟨_, _, ⟨rfl, rfl⟩, rfl, hb, hs.sel [] _ (by decide) rfl⟩

/- impl.areColours -/
def sh97_1 (q1 : List Int) : Int → Option (Int ⊕ (Unit ⊕ Bool))
  | x3 => bif decide (x3 < (q1.length : Int)) then (Option.bind (getI q1 x3) fun x4 => Option.bind (sh125 x4 0 9) fun x5 => bif !x5 then (some (.inr (.inr false))) else (some (.inl (w64 (x3 + 1))))) else (some (.inr (.inl ())))
def sh97 (q0 : SPanel) (q1 : List Int) : Option (Bool) := Option.bind (iter (sh97_1 q1) 0) fun y1 => elimS y1 (fun r => some r) fun b1 => (Option.bind (sh118 q0) fun x6 => some ((q1.length : Int) == x6))
def T97 (r : Bool) (v : Value) (rs : List Own) : Prop := v = rets [.bool r] ∧ rs = []
set_option maxRecDepth 100000 in
theorem c97 {w : World} {q0 : SPanel} {a_0_2 : Option Addr} {n_0_2 c_0_2 : Nat} (g_0_2 : Rd w a_0_2 (eI64.fl q0.Breaks)) (l_0_2 : q0.Breaks.length = n_0_2) (k_0_2 : n_0_2 ≤ c_0_2) {q1 : List Int} {a_1 : Option Addr} {n_1 c_1 : Nat} (g_1 : Rd w a_1 (eI64.fl q1)) (l_1 : q1.length = n_1) (k_1 : n_1 ≤ c_1) {r : Bool} (hres : sh97 q0 q1 = some r) : Calls Go.Proofs.Try.prog 97 [.agg #[.int .i64 q0.W, .int .i64 q0.H, .slice a_0_2 n_0_2 c_0_2], .slice a_1 n_1 c_1].toArray w (Ret w (T97 r)) := by
  subst l_0_2
  subst l_1
  unfold sh97 at hres
  refine calls_of (n := 22) (M := []) (es := []) Go.Proofs.Try.func97 rfl rfl rfl (Sep.nil _ _ _) ?_
  refine JX.seq ?_
  refine JX.region ?_
  refine JL.eff (ef_box rfl rfl) rfl ?_
  rintro _ _ ⟨g1, rfl, rfl⟩
  refine JL.val (yl_assign rfl) rfl ?_
  refine JL.nil ?_
  refine JE.code ?_
  refine JX.seq ?_
  refine JX.seq ?_
  refine JX.region ?_
  refine JL.val (yl_move rfl) rfl ?_
  refine JL.val (yl_len_slice Go.Proofs.Try.underlying22 rfl) rfl ?_
  refine JL.val (yl_move rfl) rfl ?_
  refine JL.nil ?_
  refine JE.code ?_
  refine JX.block ?_
  obtain ⟨y1, hy1, hresO1⟩ := bind_some hres
  refine JX.loop (I := fun (s1 : Int) aa ww => St w [] 22 [(1, .slice a_1 q1.length c_1), (2, ptrAt (some ⟨g1, 0, none⟩) 0), (7, .slice a_1 q1.length c_1), (8, .int .i64 (q1.length : Int)), (9, .int .i64 s1)] [boxO 28 g1 [.int .i64 q0.W, .int .i64 q0.H, .slice a_0_2 q0.Breaks.length c_0_2]] aa ww) (sh97_1 q1) hy1 (fun a w h => h.weak ⟨rfl, rfl, rfl, rfl, rfl, trivial⟩ [0] (by decide) rfl) ?_
  rintro x3 o1 hres hox1 aa ww hS
  refine (?_ : JX Go.Proofs.Try.prog w [] 22 _ _ [(1, .slice a_1 q1.length c_1), (2, ptrAt (some ⟨g1, 0, none⟩) 0), (7, .slice a_1 q1.length c_1), (8, .int .i64 (q1.length : Int)), (9, .int .i64 x3)] [boxO 28 g1 [.int .i64 q0.W, .int .i64 q0.H, .slice a_0_2 q0.Breaks.length c_0_2]] _) aa ww hS
  clear hS
  unfold sh97_1 at hres
  refine JX.seq ?_
  refine JX.region ?_
  refine JL.val (yl_lss rfl rfl) rfl ?_
  refine JL.nil ?_
  refine JE.code ?_
  refine JX.seq ?_
  rcases cond_some hres with ⟨hb, hres⟩ | ⟨hb, hres⟩
  · refine JX.condT rfl hb ?_
    refine JX.skip ?_
    refine JE.code ?_
    refine JX.seq ?_
    refine JX.block ?_
    refine JX.seq ?_
    refine JX.region ?_
    obtain ⟨x4, hx4, hres⟩ := bind_some hres
    refine JL.val (yl_idxT Go.Proofs.Try.underlying22 i2 i2s rfl rfl hx4 rfl (fun w hC => rd_arg g_1 hC)) rfl ?_
    refine JL.val (yl_loadT0 Go.Proofs.Try.underlying2 rfl rfl hx4 (fun w hC => rd_arg g_1 hC) rfl) rfl ?_
    refine JL.val (yl_assign rfl) rfl ?_
    refine JL.nil ?_
    refine JE.code ?_
    refine JX.seq ?_
    refine JX.region ?_
    refine JL.val (yl_move rfl) rfl ?_
    obtain ⟨x5, hx5, hres⟩ := bind_some hres
    refine JL.eff (ef_call (T := T125 x5) Go.Proofs.Try.func125 rfl (by kernel_rfl) rfl (fun w hC => c125  hx5)) rfl ?_
    rintro _ _ ⟨_, ⟨rfl, rfl⟩, rfl⟩
    refine JL.val (yl_not rfl) rfl ?_
    refine JL.nil ?_
    refine JE.code ?_
    rcases cond_some hres with ⟨hb, hres⟩ | ⟨hb, hres⟩
    · refine JX.condT rfl hb ?_
      refine JX.seq ?_
      refine JX.region ?_
      refine JL.val (yl_assign rfl) rfl ?_
      refine JL.nil ?_
      refine JE.weak (env' := [(4, .bool false)]) (es' := []) [] ?_ ⟨rfl, trivial⟩ (by decide) rfl
      refine JE.code ?_
      refine JX.ret ?_
      refine JE.qbr ?_
      refine JE.qbr ?_
      have hres := elimS_inr hresO1 (hox1 _ (Option.some.inj hres).symm)
      obtain rfl := Option.some.inj hres
      refine JE.ret (rs := [.tmp 4]) (vs := [.bool false]) rfl ⟨rfl, trivial⟩ ?_
      exact fun w' hb hs => ⟨_, _, ⟨rfl, rfl⟩, rfl, hb, hs.sel [] _ (by decide) rfl⟩
    · refine JX.condF rfl hb ?_
      refine JX.skip ?_
      refine JE.code ?_
      refine JX.region ?_
      refine JL.val (yl_add rfl rfl) rfl ?_
      refine JL.val (yl_move rfl) rfl ?_
      refine JL.nil ?_
      refine JE.cont hres ?_
      exact fun a w h => h.weak ⟨rfl, rfl, rfl, rfl, rfl, trivial⟩ [0] (by decide) rfl
  · refine JX.condF rfl hb ?_
    refine JX.exit ?_
    refine JE.qb rfl ?_
    obtain ⟨b1, hb1⟩ : ∃ b : Unit, b = () := ⟨_, rfl⟩
    have hy1 : Sum.inl b1 = y1 := by rw [hb1]; exact hox1 _ (Option.some.inj hres).symm
    have hres := elimS_inl hresO1 hy1
    refine JE.weak (env' := [(1, .slice a_1 q1.length c_1), (2, ptrAt (some ⟨g1, 0, none⟩) 0)]) (es' := [boxO 28 g1 [.int .i64 q0.W, .int .i64 q0.H, .slice a_0_2 q0.Breaks.length c_0_2]]) [0] ?_ ⟨(by subst hb1; rfl), (by subst hb1; rfl), trivial⟩ (by decide) (by subst hb1; rfl)
    refine JE.code ?_
    refine JX.seq ?_
    refine JX.region ?_
    refine JL.val (yl_move rfl) rfl ?_
    refine JL.val (yl_len_slice Go.Proofs.Try.underlying22 rfl) rfl ?_
    refine JL.val (yl_loadn Go.Proofs.Try.underlying28 rfl i28 rfl (fun w hC => rd_box hC 0 rfl) rfl (i28s).symm i28p) rfl ?_
    obtain ⟨x6, hx6, hres⟩ := bind_some hres
    refine JL.eff (ef_call (vs := [.agg #[.int .i64 q0.W, .int .i64 q0.H, .slice a_0_2 q0.Breaks.length c_0_2]]) (T := T118 x6) Go.Proofs.Try.func118 rfl (by kernel_rfl) rfl (fun w hC => c118 (q0 := q0) (rd_arg g_0_2 hC) rfl k_0_2 hx6)) rfl ?_
    rintro _ _ ⟨_, ⟨rfl, rfl⟩, rfl⟩
    refine JL.val (yl_eql rfl rfl) rfl ?_
    refine JL.val (yl_assign rfl) rfl ?_
    refine JL.nil ?_
    refine JE.weak (env' := [(4, .bool ((q1.length : Int) == x6))]) (es' := []) [] ?_ ⟨rfl, trivial⟩ (by decide) rfl
    refine JE.code ?_
    refine JX.ret ?_
    obtain rfl := Option.some.inj hres
    refine JE.ret (rs := [.tmp 4]) (vs := [.bool ((q1.length : Int) == x6)]) rfl ⟨rfl, trivial⟩ ?_
    exact fun w' hb hs => ⟨_, _, ⟨rfl, rfl⟩, rfl, hb, hs.sel [] _ (by decide) rfl⟩

/- (impl.Panel).points -/
def sh149_2 (q0 : SPanel) (x7 : Int) : (Int × List SPoint) → Option ((Int × List SPoint) ⊕ (List SPoint))
  | (x13, x14) => bif decide (x13 < (w64 (2 * q0.W))) then (Option.bind (appL x14 [SPoint.mk x13 x7]) fun x19 => some (.inl (w64 (x13 + 2), x19))) else (some (.inr x14))
def sh149_1 (q0 : SPanel) : (Int × List SPoint) → Option ((Int × List SPoint) ⊕ (List SPoint))
  | (x7, x8) => bif decide (x7 < (w64 (2 * q0.H))) then (Option.bind (iter (sh149_2 q0 x7) (w64 (1 + (x7.tmod 2)), x8)) fun b2 => (some (.inl (w64 (x7 + 1), b2)))) else (some (.inr x8))
def sh149 (q0 : SPanel) : Option (List SPoint) := Option.bind (iter (sh149_1 q0) (1, ([] : List SPoint))) fun b1 => (some b1)
def T149 (r : List SPoint) (v : Value) (rs : List Own) : Prop := ∃ (a0 : Option Addr) (n0 c0 : Nat), r.length = n0 ∧ v = rets [.slice a0 n0 c0] ∧ rs = [rowT 35 eSPoint a0 n0 c0 r]
set_option maxRecDepth 100000 in
theorem c149 {w : World} {q0 : SPanel} {a_0_2 : Option Addr} {n_0_2 c_0_2 : Nat} (g_0_2 : Rd w a_0_2 (eI64.fl q0.Breaks)) (l_0_2 : q0.Breaks.length = n_0_2) (k_0_2 : n_0_2 ≤ c_0_2) {r : List SPoint} (hres : sh149 q0 = some r) : Calls Go.Proofs.Try.prog 149 [.agg #[.int .i64 q0.W, .int .i64 q0.H, .slice a_0_2 n_0_2 c_0_2]].toArray w (Ret w (T149 r)) := by
  subst l_0_2
  unfold sh149 at hres
  refine calls_of (n := 31) (M := []) (es := []) Go.Proofs.Try.func149 rfl rfl rfl (Sep.nil _ _ _) ?_
  refine JX.seq ?_
  refine JX.region ?_
  refine JL.eff (ef_box rfl rfl) rfl ?_
  rintro _ _ ⟨g1, rfl, rfl⟩
  refine JL.val (yl_assign rfl) rfl ?_
  refine JL.nil ?_
  refine JE.code ?_
  refine JX.seq ?_
  refine JX.region ?_
  refine JL.eff (ef_buildSlice (E := 35) (k := eSPoint.k) (us := eSPoint.fl ([] : List SPoint)) rfl (fun w => bsl61_0  w) rfl (by decide)) rfl ?_
  rintro _ _ ⟨a3, rfl, rfl⟩
  refine JL.val (yl_assign rfl) rfl ?_
  refine JL.nil ?_
  refine JE.code ?_
  refine JX.seq ?_
  refine JX.seq ?_
  refine JX.region ?_
  refine JL.val (yl_assign rfl) rfl ?_
  refine JL.nil ?_
  refine JE.code ?_
  refine JX.block ?_
  obtain ⟨y1, hy1, hresO1⟩ := bind_some hres
  refine JX.loop (I := fun (s1 : Int × List SPoint) aa ww => ∃ (a5 : Option Addr) (cp6 : Nat), St w [] 31 [(1, ptrAt (some ⟨g1, 0, none⟩) 0), (3, .slice a5 s1.2.length cp6), (4, .int .i64 s1.1)] [boxO 28 g1 [.int .i64 q0.W, .int .i64 q0.H, .slice a_0_2 q0.Breaks.length c_0_2], rowT 35 eSPoint a5 s1.2.length cp6 s1.2] aa ww) (sh149_1 q0) hy1 (fun a w h => ⟨a3, 0, h.weak ⟨rfl, rfl, rfl, trivial⟩ [0, 1] (by decide) rfl⟩) ?_
  rintro ⟨x7, x8⟩ o1 hres hox1 aa ww ⟨a9, cp10, hS⟩
  refine (?_ : JX Go.Proofs.Try.prog w [] 31 _ _ [(1, ptrAt (some ⟨g1, 0, none⟩) 0), (3, .slice a9 x8.length cp10), (4, .int .i64 x7)] [boxO 28 g1 [.int .i64 q0.W, .int .i64 q0.H, .slice a_0_2 q0.Breaks.length c_0_2], rowT 35 eSPoint a9 x8.length cp10 x8] _) aa ww hS
  clear hS
  simp only [sh149_1] at hres
  refine JX.seq ?_
  refine JX.seq ?_
  refine JX.region ?_
  refine JL.val (yl_move rfl) rfl ?_
  refine JL.val (yl_fieldAt (a := some _) Go.Proofs.Try.underlying28 rfl i2 i2n rfl rfl) rfl ?_
  refine JL.val (yl_load1 Go.Proofs.Try.underlying2 rfl rfl (fun w hC => rd_box hC 0 rfl) rfl) rfl ?_
  refine JL.val (yl_mul rfl rfl) rfl ?_
  refine JL.val (yl_lss rfl rfl) rfl ?_
  refine JL.nil ?_
  refine JE.weak (env' := [(1, ptrAt (some ⟨g1, 0, none⟩) 0), (3, .slice a9 x8.length cp10), (4, .int .i64 x7), (11, .bool (decide (x7 < (w64 (2 * q0.H)))))]) (es' := [boxO 28 g1 [.int .i64 q0.W, .int .i64 q0.H, .slice a_0_2 q0.Breaks.length c_0_2], rowT 35 eSPoint a9 x8.length cp10 x8]) [0, 1] ?_ ⟨rfl, rfl, rfl, rfl, trivial⟩ (by decide) rfl
  refine JE.code ?_
  rcases cond_some hres with ⟨hb, hres⟩ | ⟨hb, hres⟩
  · refine JX.condT rfl hb ?_
    refine JX.skip ?_
    refine JE.code ?_
    refine JX.seq ?_
    refine JX.block ?_
    refine JX.seq ?_
    refine JX.region ?_
    refine JL.val (yl_move rfl) rfl ?_
    refine JL.val (yl_rem rfl rfl (by decide)) rfl ?_
    refine JL.val (yl_add rfl rfl) rfl ?_
    refine JL.val (yl_assign rfl) rfl ?_
    refine JL.nil ?_
    refine JE.weak (env' := [(1, ptrAt (some ⟨g1, 0, none⟩) 0), (3, .slice a9 x8.length cp10), (4, .int .i64 x7), (5, .int .i64 (w64 (1 + (x7.tmod 2))))]) (es' := [boxO 28 g1 [.int .i64 q0.W, .int .i64 q0.H, .slice a_0_2 q0.Breaks.length c_0_2], rowT 35 eSPoint a9 x8.length cp10 x8]) [0, 1] ?_ ⟨rfl, rfl, rfl, rfl, trivial⟩ (by decide) rfl
    refine JE.code ?_
    refine JX.block ?_
    obtain ⟨y2, hy2, hresO2⟩ := bind_some hres
    refine JX.loop (I := fun (s2 : Int × List SPoint) aa ww => ∃ (a11 : Option Addr) (cp12 : Nat), St w [] 31 [(1, ptrAt (some ⟨g1, 0, none⟩) 0), (3, .slice a11 s2.2.length cp12), (4, .int .i64 x7), (5, .int .i64 s2.1)] [boxO 28 g1 [.int .i64 q0.W, .int .i64 q0.H, .slice a_0_2 q0.Breaks.length c_0_2], rowT 35 eSPoint a11 s2.2.length cp12 s2.2] aa ww) (sh149_2 q0 x7) hy2 (fun a w h => ⟨a9, cp10, h.weak ⟨rfl, rfl, rfl, rfl, trivial⟩ [0, 1] (by decide) rfl⟩) ?_
    rintro ⟨x13, x14⟩ o2 hres hox2 aa ww ⟨a15, cp16, hS⟩
    refine (?_ : JX Go.Proofs.Try.prog w [] 31 _ _ [(1, ptrAt (some ⟨g1, 0, none⟩) 0), (3, .slice a15 x14.length cp16), (4, .int .i64 x7), (5, .int .i64 x13)] [boxO 28 g1 [.int .i64 q0.W, .int .i64 q0.H, .slice a_0_2 q0.Breaks.length c_0_2], rowT 35 eSPoint a15 x14.length cp16 x14] _) aa ww hS
    clear hS
    simp only [sh149_2] at hres
    refine JX.seq ?_
    refine JX.seq ?_
    refine JX.region ?_
    refine JL.val (yl_move rfl) rfl ?_
    refine JL.val (yl_fieldAt (a := some _) Go.Proofs.Try.underlying28 rfl i2 i2n rfl rfl) rfl ?_
    refine JL.val (yl_load1 Go.Proofs.Try.underlying2 rfl rfl (fun w hC => rd_box hC 0 rfl) rfl) rfl ?_
    refine JL.val (yl_mul rfl rfl) rfl ?_
    refine JL.val (yl_lss rfl rfl) rfl ?_
    refine JL.nil ?_
    refine JE.weak (env' := [(1, ptrAt (some ⟨g1, 0, none⟩) 0), (3, .slice a15 x14.length cp16), (4, .int .i64 x7), (5, .int .i64 x13), (21, .bool (decide (x13 < (w64 (2 * q0.W)))))]) (es' := [boxO 28 g1 [.int .i64 q0.W, .int .i64 q0.H, .slice a_0_2 q0.Breaks.length c_0_2], rowT 35 eSPoint a15 x14.length cp16 x14]) [0, 1] ?_ ⟨rfl, rfl, rfl, rfl, rfl, trivial⟩ (by decide) rfl
    refine JE.code ?_
    rcases cond_some hres with ⟨hb, hres⟩ | ⟨hb, hres⟩
    · refine JX.condT rfl hb ?_
      refine JX.skip ?_
      refine JE.code ?_
      refine JX.seq ?_
      refine JX.block ?_
      refine JX.region ?_
      refine JL.val (yl_move rfl) rfl ?_
      refine JL.val (yl_move rfl) rfl ?_
      refine JL.val (yl_move rfl) rfl ?_
      refine JL.val (yl_build rfl (fun w => bld35_0_1 x13 x7 w)) rfl ?_
      refine JL.eff (ef_buildSlice (E := 35) (k := eSPoint.k) (us := eSPoint.fl [SPoint.mk x13 x7]) rfl (fun w => bsl61_1 x13 x7 w) rfl (by decide)) rfl ?_
      rintro _ _ ⟨a17, rfl, rfl⟩
      obtain ⟨x19, hx19, hres⟩ := bind_some hres
      refine JL.eff (ef_appendT (ix := 1) Go.Proofs.Try.underlying61 i35 i35z i35s rfl i35b0 i35b1 rfl rfl rfl rfl rfl (fun w hC => rd_row hC 2 rfl) hx19) rfl ?_
      rintro _ _ ⟨a20, cp21, rfl, rfl⟩
      refine JL.val (yl_assign rfl) rfl ?_
      refine JL.nil ?_
      refine JE.weak (env' := [(1, ptrAt (some ⟨g1, 0, none⟩) 0), (3, .slice a20 x19.length cp21), (4, .int .i64 x7), (5, .int .i64 x13)]) (es' := [boxO 28 g1 [.int .i64 q0.W, .int .i64 q0.H, .slice a_0_2 q0.Breaks.length c_0_2], rowT 35 eSPoint a20 x19.length cp21 x19]) [0, 1] ?_ ⟨rfl, rfl, rfl, rfl, trivial⟩ (by decide) rfl
      refine JE.code ?_
      refine JX.region ?_
      refine JL.val (yl_move rfl) rfl ?_
      refine JL.val (yl_add rfl rfl) rfl ?_
      refine JL.val (yl_assign rfl) rfl ?_
      refine JL.nil ?_
      refine JE.cont hres ?_
      exact fun a w h => ⟨a20, cp21, h.weak ⟨rfl, rfl, rfl, rfl, trivial⟩ [0, 1] (by decide) rfl⟩
    · refine JX.condF rfl hb ?_
      refine JX.exit ?_
      refine JE.qb rfl ?_
      obtain ⟨b2, hb2⟩ : ∃ b : List SPoint, b = x14 := ⟨_, rfl⟩
      have hy2 : b2 = y2 := by rw [hb2]; exact hox2 _ (Option.some.inj hres).symm
      have hres := hresO2
      rw [← hy2] at hres
      refine JE.weak (env' := [(1, ptrAt (some ⟨g1, 0, none⟩) 0), (3, .slice a15 b2.length cp16), (4, .int .i64 x7)]) (es' := [boxO 28 g1 [.int .i64 q0.W, .int .i64 q0.H, .slice a_0_2 q0.Breaks.length c_0_2], rowT 35 eSPoint a15 b2.length cp16 b2]) [0, 1] ?_ ⟨(by subst hb2; rfl), (by subst hb2; rfl), (by subst hb2; rfl), trivial⟩ (by decide) (by subst hb2; rfl)
      refine JE.code ?_
      refine JX.region ?_
      refine JL.val (yl_move rfl) rfl ?_
      refine JL.val (yl_add rfl rfl) rfl ?_
      refine JL.val (yl_assign rfl) rfl ?_
      refine JL.nil ?_
      refine JE.cont hres ?_
      exact fun a w h => ⟨a15, cp16, h.weak ⟨rfl, rfl, rfl, trivial⟩ [0, 1] (by decide) rfl⟩
  · refine JX.condF rfl hb ?_
    refine JX.exit ?_
    refine JE.qb rfl ?_
    obtain ⟨b1, hb1⟩ : ∃ b : List SPoint, b = x8 := ⟨_, rfl⟩
    have hy1 : b1 = y1 := by rw [hb1]; exact hox1 _ (Option.some.inj hres).symm
    have hres := hresO1
    rw [← hy1] at hres
    refine JE.weak (env' := [(3, .slice a9 b1.length cp10)]) (es' := [rowT 35 eSPoint a9 b1.length cp10 b1]) [1] ?_ ⟨(by subst hb1; rfl), trivial⟩ (by decide) (by subst hb1; rfl)
    refine JE.code ?_
    refine JX.seq ?_
    refine JX.region ?_
    refine JL.val (yl_move rfl) rfl ?_
    refine JL.val (yl_assign rfl) rfl ?_
    refine JL.nil ?_
    refine JE.code ?_
    refine JX.ret ?_
    obtain rfl := Option.some.inj hres
    refine JE.ret (rs := [.tmp 2]) (vs := [.slice a9 b1.length cp10]) rfl ⟨rfl, trivial⟩ ?_
    exact fun w' hb hs => ⟨_, _, ⟨a9, b1.length, cp10, rfl, rfl, rfl⟩, rfl, hb, hs.sel [0] _ (by decide) rfl⟩

/- (impl.Panel).crossings -/
def sh156_1 (q0 : SPanel) (x5 : List SPoint) : (Int × List SPoint) → Option ((Int × List SPoint) ⊕ (List SPoint))
  | (x11, x12) => bif decide (x11 < (x5.length : Int)) then (Option.bind (getI x5 x11) fun x15 => Option.bind (getI q0.Breaks x11) fun x18 => Option.bind (bif x18 == 0 then (Option.bind (appL x12 [x15]) fun x24 => some x24) else (some x12)) fun j19 => (some (.inl (w64 (x11 + 1), j19)))) else (some (.inr x12))
def sh156 (q0 : SPanel) : Option (List SPoint) := Option.bind (sh149 q0) fun x5 => Option.bind (iter (sh156_1 q0 x5) (0, ([] : List SPoint))) fun b1 => (some b1)
def T156 (r : List SPoint) (v : Value) (rs : List Own) : Prop := ∃ (a0 : Option Addr) (n0 c0 : Nat), r.length = n0 ∧ v = rets [.slice a0 n0 c0] ∧ rs = [rowT 35 eSPoint a0 n0 c0 r]
set_option maxRecDepth 100000 in
theorem c156 {w : World} {q0 : SPanel} {a_0_2 : Option Addr} {n_0_2 c_0_2 : Nat} (g_0_2 : Rd w a_0_2 (eI64.fl q0.Breaks)) (l_0_2 : q0.Breaks.length = n_0_2) (k_0_2 : n_0_2 ≤ c_0_2) {r : List SPoint} (hres : sh156 q0 = some r) : Calls Go.Proofs.Try.prog 156 [.agg #[.int .i64 q0.W, .int .i64 q0.H, .slice a_0_2 n_0_2 c_0_2]].toArray w (Ret w (T156 r)) := by
  subst l_0_2
  unfold sh156 at hres
  refine calls_of (n := 27) (M := []) (es := []) Go.Proofs.Try.func156 rfl rfl rfl (Sep.nil _ _ _) ?_
  refine JX.seq ?_
  refine JX.region ?_
  refine JL.eff (ef_box rfl rfl) rfl ?_
  rintro _ _ ⟨g1, rfl, rfl⟩
  refine JL.val (yl_assign rfl) rfl ?_
  refine JL.nil ?_
  refine JE.code ?_
  refine JX.seq ?_
  refine JX.region ?_
  refine JL.eff (ef_buildSlice (E := 35) (k := eSPoint.k) (us := eSPoint.fl ([] : List SPoint)) rfl (fun w => bsl61_0  w) rfl (by decide)) rfl ?_
  rintro _ _ ⟨a3, rfl, rfl⟩
  refine JL.val (yl_assign rfl) rfl ?_
  refine JL.nil ?_
  refine JE.code ?_
  refine JX.seq ?_
  refine JX.seq ?_
  refine JX.region ?_
  refine JL.val (yl_loadn Go.Proofs.Try.underlying28 rfl i28 rfl (fun w hC => rd_box hC 0 rfl) rfl (i28s).symm i28p) rfl ?_
  obtain ⟨x5, hx5, hres⟩ := bind_some hres
  refine JL.eff (ef_call (vs := [.agg #[.int .i64 q0.W, .int .i64 q0.H, .slice a_0_2 q0.Breaks.length c_0_2]]) (T := T149 x5) Go.Proofs.Try.func149 rfl (by kernel_rfl) rfl (fun w hC => c149 (q0 := q0) (rd_arg g_0_2 hC) rfl k_0_2 hx5)) rfl ?_
  rintro _ _ ⟨_, ⟨a6, _, cp7, rfl, rfl, rfl⟩, rfl⟩
  refine JL.val (yl_len_slice Go.Proofs.Try.underlying61 rfl) rfl ?_
  refine JL.val (yl_move rfl) rfl ?_
  refine JL.nil ?_
  refine JE.weak (env' := [(1, ptrAt (some ⟨g1, 0, none⟩) 0), (3, .slice a3 0 0), (8, .slice a6 x5.length cp7), (9, .int .i64 (x5.length : Int)), (10, .int .i64 0)]) (es' := [boxO 28 g1 [.int .i64 q0.W, .int .i64 q0.H, .slice a_0_2 q0.Breaks.length c_0_2], rowT 35 eSPoint a3 0 0 ([] : List SPoint), rowT 35 eSPoint a6 x5.length cp7 x5]) [0, 1, 2] ?_ ⟨rfl, rfl, rfl, rfl, rfl, trivial⟩ (by decide) rfl
  refine JE.code ?_
  refine JX.block ?_
  obtain ⟨y1, hy1, hresO1⟩ := bind_some hres
  refine JX.loop (I := fun (s1 : Int × List SPoint) aa ww => ∃ (a9 : Option Addr) (cp10 : Nat), St w [] 27 [(1, ptrAt (some ⟨g1, 0, none⟩) 0), (3, .slice a9 s1.2.length cp10), (8, .slice a6 x5.length cp7), (9, .int .i64 (x5.length : Int)), (10, .int .i64 s1.1)] [boxO 28 g1 [.int .i64 q0.W, .int .i64 q0.H, .slice a_0_2 q0.Breaks.length c_0_2], rowT 35 eSPoint a9 s1.2.length cp10 s1.2, rowT 35 eSPoint a6 x5.length cp7 x5] aa ww) (sh156_1 q0 x5) hy1 (fun a w h => ⟨a3, 0, h.weak ⟨rfl, rfl, rfl, rfl, rfl, trivial⟩ [0, 1, 2] (by decide) rfl⟩) ?_
  rintro ⟨x11, x12⟩ o1 hres hox1 aa ww ⟨a13, cp14, hS⟩
  refine (?_ : JX Go.Proofs.Try.prog w [] 27 _ _ [(1, ptrAt (some ⟨g1, 0, none⟩) 0), (3, .slice a13 x12.length cp14), (8, .slice a6 x5.length cp7), (9, .int .i64 (x5.length : Int)), (10, .int .i64 x11)] [boxO 28 g1 [.int .i64 q0.W, .int .i64 q0.H, .slice a_0_2 q0.Breaks.length c_0_2], rowT 35 eSPoint a13 x12.length cp14 x12, rowT 35 eSPoint a6 x5.length cp7 x5] _) aa ww hS
  clear hS
  simp only [sh156_1] at hres
  refine JX.seq ?_
  refine JX.region ?_
  refine JL.val (yl_lss rfl rfl) rfl ?_
  refine JL.nil ?_
  refine JE.code ?_
  refine JX.seq ?_
  rcases cond_some hres with ⟨hb, hres⟩ | ⟨hb, hres⟩
  · refine JX.condT rfl hb ?_
    refine JX.skip ?_
    refine JE.code ?_
    refine JX.seq ?_
    refine JX.block ?_
    refine JX.seq ?_
    refine JX.region ?_
    refine JL.val (yl_move rfl) rfl ?_
    obtain ⟨x15, hx15, hres⟩ := bind_some hres
    refine JL.val (yl_idxT Go.Proofs.Try.underlying61 i35 i35s rfl rfl hx15 rfl (fun w hC => rd_row hC 2 rfl)) rfl ?_
    refine JL.val (yl_loadTn Go.Proofs.Try.underlying35 rfl i35 i35s rfl hx15 (fun w hC => rd_row hC 2 rfl)) rfl ?_
    refine JL.eff (ef_alloc i35 i35z rfl) rfl ?_
    rintro _ _ ⟨g16, rfl, rfl⟩
    refine JL.val (yl_assign rfl) rfl ?_
    refine JL.eff (ef_store_box (i := 3) (v := .agg #[.int .i64 x15.X, .int .i64 x15.Y]) i35 rfl rfl rfl (i35s).symm (Nat.le_of_ble_eq_true rfl) (by simp [Value.cells, Value.oneCell'])) rfl ?_
    rintro _ _ rfl
    refine JL.nil ?_
    refine JE.weak (env' := [(1, ptrAt (some ⟨g1, 0, none⟩) 0), (3, .slice a13 x12.length cp14), (4, .int .i64 x11), (5, ptrAt (some ⟨g16, 0, none⟩) 0), (8, .slice a6 x5.length cp7), (9, .int .i64 (x5.length : Int)), (10, .int .i64 x11)]) (es' := [boxO 28 g1 [.int .i64 q0.W, .int .i64 q0.H, .slice a_0_2 q0.Breaks.length c_0_2], rowT 35 eSPoint a13 x12.length cp14 x12, boxO 35 g16 [.int .i64 x15.X, .int .i64 x15.Y], rowT 35 eSPoint a6 x5.length cp7 x5]) [0, 1, 3, 2] ?_ ⟨rfl, rfl, rfl, rfl, rfl, rfl, rfl, trivial⟩ (by decide) rfl
    refine JE.code ?_
    refine JX.seq ?_
    refine JX.region ?_
    refine JL.val (yl_fieldAt (a := some _) Go.Proofs.Try.underlying28 rfl i22 i22n rfl rfl) rfl ?_
    refine JL.val (yl_load1 Go.Proofs.Try.underlying22 rfl rfl (fun w hC => rd_box hC 0 rfl) rfl) rfl ?_
    refine JL.val (yl_move rfl) rfl ?_
    obtain ⟨x18, hx18, hres⟩ := bind_some hres
    refine JL.val (yl_idxT Go.Proofs.Try.underlying22 i2 i2s rfl rfl hx18 rfl (fun w hC => rd_arg g_0_2 hC)) rfl ?_
    refine JL.val (yl_loadT0 Go.Proofs.Try.underlying2 rfl rfl hx18 (fun w hC => rd_arg g_0_2 hC) rfl) rfl ?_
    refine JL.val (yl_eql rfl rfl) rfl ?_
    refine JL.nil ?_
    refine JE.weak (env' := [(1, ptrAt (some ⟨g1, 0, none⟩) 0), (3, .slice a13 x12.length cp14), (5, ptrAt (some ⟨g16, 0, none⟩) 0), (8, .slice a6 x5.length cp7), (9, .int .i64 (x5.length : Int)), (10, .int .i64 x11), (20, .bool (x18 == 0))]) (es' := [boxO 28 g1 [.int .i64 q0.W, .int .i64 q0.H, .slice a_0_2 q0.Breaks.length c_0_2], rowT 35 eSPoint a13 x12.length cp14 x12, boxO 35 g16 [.int .i64 x15.X, .int .i64 x15.Y], rowT 35 eSPoint a6 x5.length cp7 x5]) [0, 1, 2, 3] ?_ ⟨rfl, rfl, rfl, rfl, rfl, rfl, rfl, trivial⟩ (by decide) rfl
    refine JE.code ?_
    obtain ⟨j19, hj19, hresj19⟩ := bind_some hres
    refine JX.cut (K := fun J => ∀ (a20 : Option Addr) (cp21 : Nat), J [(1, ptrAt (some ⟨g1, 0, none⟩) 0), (3, .slice a20 j19.length cp21), (8, .slice a6 x5.length cp7), (9, .int .i64 (x5.length : Int)), (10, .int .i64 x11)] [boxO 28 g1 [.int .i64 q0.W, .int .i64 q0.H, .slice a_0_2 q0.Breaks.length c_0_2], rowT 35 eSPoint a20 j19.length cp21 j19, rowT 35 eSPoint a6 x5.length cp7 x5]) ?_ ?_
    · intro a20 cp21
      have hres := hresj19
      refine JE.code ?_
      refine JX.region ?_
      refine JL.val (yl_add rfl rfl) rfl ?_
      refine JL.val (yl_move rfl) rfl ?_
      refine JL.nil ?_
      refine JE.cont hres ?_
      exact fun a w h => ⟨a20, cp21, h.weak ⟨rfl, rfl, rfl, rfl, rfl, trivial⟩ [0, 1, 2] (by decide) rfl⟩
    · intro K
      rcases cond_some hj19 with ⟨hb, hres⟩ | ⟨hb, hres⟩
      · refine JX.condT rfl hb ?_
        refine JX.region ?_
        refine JL.val (yl_move rfl) rfl ?_
        refine JL.val (yl_loadn Go.Proofs.Try.underlying35 rfl i35 rfl (fun w hC => rd_box hC 2 rfl) rfl (i35s).symm i35p) rfl ?_
        refine JL.eff (ef_buildSlice (E := 35) (k := eSPoint.k) (us := eSPoint.fl [x15]) rfl (fun w => bsl61_1 x15.X x15.Y w) rfl (by decide)) rfl ?_
        rintro _ _ ⟨a22, rfl, rfl⟩
        obtain ⟨x24, hx24, hres⟩ := bind_some hres
        refine JL.eff (ef_appendT (ix := 1) Go.Proofs.Try.underlying61 i35 i35z i35s rfl i35b0 i35b1 rfl rfl rfl rfl rfl (fun w hC => rd_row hC 4 rfl) hx24) rfl ?_
        rintro _ _ ⟨a25, cp26, rfl, rfl⟩
        refine JL.val (yl_assign rfl) rfl ?_
        refine JL.nil ?_
        refine JE.weak (env' := [(1, ptrAt (some ⟨g1, 0, none⟩) 0), (3, .slice a25 x24.length cp26), (8, .slice a6 x5.length cp7), (9, .int .i64 (x5.length : Int)), (10, .int .i64 x11)]) (es' := [boxO 28 g1 [.int .i64 q0.W, .int .i64 q0.H, .slice a_0_2 q0.Breaks.length c_0_2], rowT 35 eSPoint a25 x24.length cp26 x24, rowT 35 eSPoint a6 x5.length cp7 x5]) [0, 1, 3] ?_ ⟨rfl, rfl, rfl, rfl, rfl, trivial⟩ (by decide) rfl
        have hj := Option.some.inj hres
        exact JE.weak [0, 1, 2] (K a25 cp26) ⟨(by subst hj; rfl), (by subst hj; rfl), (by subst hj; rfl), (by subst hj; rfl), (by subst hj; rfl), trivial⟩ (by decide) (by subst hj; rfl)
      · refine JX.condF rfl hb ?_
        refine JX.skip ?_
        have hj := Option.some.inj hres
        exact JE.weak [0, 1, 3] (K a13 cp14) ⟨(by subst hj; rfl), (by subst hj; rfl), (by subst hj; rfl), (by subst hj; rfl), (by subst hj; rfl), trivial⟩ (by decide) (by subst hj; rfl)
  · refine JX.condF rfl hb ?_
    refine JX.exit ?_
    refine JE.qb rfl ?_
    obtain ⟨b1, hb1⟩ : ∃ b : List SPoint, b = x12 := ⟨_, rfl⟩
    have hy1 : b1 = y1 := by rw [hb1]; exact hox1 _ (Option.some.inj hres).symm
    have hres := hresO1
    rw [← hy1] at hres
    refine JE.weak (env' := [(3, .slice a13 b1.length cp14)]) (es' := [rowT 35 eSPoint a13 b1.length cp14 b1]) [1] ?_ ⟨(by subst hb1; rfl), trivial⟩ (by decide) (by subst hb1; rfl)
    refine JE.code ?_
    refine JX.seq ?_
    refine JX.region ?_
    refine JL.val (yl_move rfl) rfl ?_
    refine JL.val (yl_assign rfl) rfl ?_
    refine JL.nil ?_
    refine JE.code ?_
    refine JX.ret ?_
    obtain rfl := Option.some.inj hres
    refine JE.ret (rs := [.tmp 2]) (vs := [.slice a13 b1.length cp14]) rfl ⟨rfl, trivial⟩ ?_
    exact fun w' hb hs => ⟨_, _, ⟨a13, b1.length, cp14, rfl, rfl, rfl⟩, rfl, hb, hs.sel [0] _ (by decide) rfl⟩

/- (impl.Panel).around -/
def sh183_1 (q0 : SPanel) (q1 : SPoint) : (Int × List Int) → Option ((Int × List Int) ⊕ (List Int))
  | (x10, x11) => bif decide (x10 < 4) then (Option.bind (getI ([A112.mk (-1) (-1), A112.mk (-1) 1, A112.mk 1 (-1), A112.mk 1 1] : List A112) x10) fun x13 => Option.bind (getI [x13.a0, x13.a1] (0 : Int)) fun x16 => Option.bind (getI [x13.a0, x13.a1] (1 : Int)) fun x17 => Option.bind (sh168 q0 (SWalker.mk q1 x16 x17)) fun x18 => Option.bind (getI x11 x10) fun x19 => some (.inl (w64 (x10 + 1), x11.set (x10).toNat x18))) else (some (.inr x11))
def sh183 (q0 : SPanel) (q1 : SPoint) : Option (A178) := Option.bind (iter (sh183_1 q0 q1) (0, List.replicate 4 (0 : Int))) fun b1 => (Option.bind (getI b1 (0 : Int)) fun x21 => Option.bind (getI b1 (1 : Int)) fun x22 => Option.bind (getI b1 (2 : Int)) fun x23 => Option.bind (getI b1 (3 : Int)) fun x24 => some (A178.mk x21 x22 x23 x24))
def T183 (r : A178) (v : Value) (rs : List Own) : Prop := v = rets [.agg #[.int .i64 r.a0, .int .i64 r.a1, .int .i64 r.a2, .int .i64 r.a3]] ∧ rs = []
set_option maxRecDepth 100000 in
theorem c183 {w : World} {q0 : SPanel} {a_0_2 : Option Addr} {n_0_2 c_0_2 : Nat} (g_0_2 : Rd w a_0_2 (eI64.fl q0.Breaks)) (l_0_2 : q0.Breaks.length = n_0_2) (k_0_2 : n_0_2 ≤ c_0_2) {q1 : SPoint} {r : A178} (hres : sh183 q0 q1 = some r) : Calls Go.Proofs.Try.prog 183 [.agg #[.int .i64 q0.W, .int .i64 q0.H, .slice a_0_2 n_0_2 c_0_2], .agg #[.int .i64 q1.X, .int .i64 q1.Y]].toArray w (Ret w (T183 r)) := by
  subst l_0_2
  unfold sh183 at hres
  refine calls_of (n := 30) (M := []) (es := []) Go.Proofs.Try.func183 rfl rfl rfl (Sep.nil _ _ _) ?_
  refine JX.seq ?_
  refine JX.region ?_
  refine JL.eff (ef_box rfl rfl) rfl ?_
  rintro _ _ ⟨g1, rfl, rfl⟩
  refine JL.eff (ef_box rfl rfl) rfl ?_
  rintro _ _ ⟨g3, rfl, rfl⟩
  refine JL.eff (ef_alloc i178 i178z rfl) rfl ?_
  rintro _ _ ⟨g5, rfl, rfl⟩
  refine JL.boxrow eI64 2 (m := 4) (List.replicate 4 (0 : Int)) rfl rfl (Nat.le_of_ble_eq_true rfl) rfl ?_
  refine JL.nil ?_
  refine JE.code ?_
  refine JX.seq ?_
  refine JX.region ?_
  refine JL.val (yl_build rfl (fun w => bld178_  w)) rfl ?_
  refine JL.eff (ef_alloc i178 i178z rfl) rfl ?_
  rintro _ _ ⟨g7, rfl, rfl⟩
  refine JL.boxrow eI64 3 (m := 4) (List.replicate 4 (0 : Int)) rfl rfl (Nat.le_of_ble_eq_true rfl) rfl ?_
  refine JL.eff (ef_storeArr (ix := 3) (ys := List.replicate 4 (0 : Int)) i178 rfl rfl rfl rfl (i178s.trans rfl) i178p rfl) rfl ?_
  rintro _ _ rfl
  refine JL.nil ?_
  refine JE.code ?_
  refine JX.seq ?_
  refine JX.seq ?_
  refine JX.region ?_
  refine JL.val (yl_build rfl (fun w => bld112_0_1 (-1) (-1) w)) rfl ?_
  refine JL.val (yl_build rfl (fun w => bld112_0_1 (-1) 1 w)) rfl ?_
  refine JL.val (yl_build rfl (fun w => bld112_0_1 1 (-1) w)) rfl ?_
  refine JL.val (yl_build rfl (fun w => bld112_0_1 1 1 w)) rfl ?_
  refine JL.val (yl_build rfl (fun w => bld113_0_1_2_3 (-1) (-1) (-1) 1 1 (-1) 1 1 w)) rfl ?_
  refine JL.val (yl_move rfl) rfl ?_
  refine JL.nil ?_
  refine JE.weak (env' := [(2, ptrAt (some ⟨g1, 0, none⟩) 0), (3, ptrAt (some ⟨g3, 0, none⟩) 0), (4, ptrAt (some ⟨g5, 0, none⟩) 0), (5, ptrAt (some ⟨g7, 0, none⟩) 0), (13, .agg #[.int .i64 (-1), .int .i64 (-1), .int .i64 (-1), .int .i64 1, .int .i64 1, .int .i64 (-1), .int .i64 1, .int .i64 1]), (14, .int .i64 0)]) (es' := [boxO 28 g1 [.int .i64 q0.W, .int .i64 q0.H, .slice a_0_2 q0.Breaks.length c_0_2], boxO 35 g3 [.int .i64 q1.X, .int .i64 q1.Y], rowT 178 eI64 (some ⟨g5, 0, none⟩) 4 4 (List.replicate 4 (0 : Int)), rowT 178 eI64 (some ⟨g7, 0, none⟩) 4 4 (List.replicate 4 (0 : Int))]) [0, 1, 2, 3] ?_ ⟨rfl, rfl, rfl, rfl, rfl, rfl, trivial⟩ (by decide) rfl
  refine JE.code ?_
  refine JX.block ?_
  obtain ⟨y1, hy1, hresO1⟩ := bind_some hres
  refine JX.loop (I := fun (s1 : Int × List Int) aa ww => ∃ (l9 : s1.2.length = 4), St w [] 30 [(2, ptrAt (some ⟨g1, 0, none⟩) 0), (3, ptrAt (some ⟨g3, 0, none⟩) 0), (4, ptrAt (some ⟨g5, 0, none⟩) 0), (5, ptrAt (some ⟨g7, 0, none⟩) 0), (13, .agg #[.int .i64 (-1), .int .i64 (-1), .int .i64 (-1), .int .i64 1, .int .i64 1, .int .i64 (-1), .int .i64 1, .int .i64 1]), (14, .int .i64 s1.1)] [boxO 28 g1 [.int .i64 q0.W, .int .i64 q0.H, .slice a_0_2 q0.Breaks.length c_0_2], boxO 35 g3 [.int .i64 q1.X, .int .i64 q1.Y], rowT 178 eI64 (some ⟨g5, 0, none⟩) 4 4 (List.replicate 4 (0 : Int)), rowT 178 eI64 (some ⟨g7, 0, none⟩) 4 4 s1.2] aa ww) (sh183_1 q0 q1) hy1 (fun a w h => ⟨(rfl : (List.replicate 4 (0 : Int)).length = 4), h.weak ⟨rfl, rfl, rfl, rfl, rfl, rfl, trivial⟩ [0, 1, 2, 3] (by decide) rfl⟩) ?_
  rintro ⟨x10, x11⟩ o1 hres hox1 aa ww ⟨l12, hS⟩
  refine (?_ : JX Go.Proofs.Try.prog w [] 30 _ _ [(2, ptrAt (some ⟨g1, 0, none⟩) 0), (3, ptrAt (some ⟨g3, 0, none⟩) 0), (4, ptrAt (some ⟨g5, 0, none⟩) 0), (5, ptrAt (some ⟨g7, 0, none⟩) 0), (13, .agg #[.int .i64 (-1), .int .i64 (-1), .int .i64 (-1), .int .i64 1, .int .i64 1, .int .i64 (-1), .int .i64 1, .int .i64 1]), (14, .int .i64 x10)] [boxO 28 g1 [.int .i64 q0.W, .int .i64 q0.H, .slice a_0_2 q0.Breaks.length c_0_2], boxO 35 g3 [.int .i64 q1.X, .int .i64 q1.Y], rowT 178 eI64 (some ⟨g5, 0, none⟩) 4 4 (List.replicate 4 (0 : Int)), rowT 178 eI64 (some ⟨g7, 0, none⟩) 4 4 x11] _) aa ww hS
  clear hS
  simp only [sh183_1] at hres
  refine JX.seq ?_
  refine JX.region ?_
  refine JL.val (yl_lss rfl rfl) rfl ?_
  refine JL.nil ?_
  refine JE.code ?_
  refine JX.seq ?_
  rcases cond_some hres with ⟨hb, hres⟩ | ⟨hb, hres⟩
  · refine JX.condT rfl hb ?_
    refine JX.skip ?_
    refine JE.code ?_
    refine JX.seq ?_
    refine JX.block ?_
    refine JX.seq ?_
    refine JX.region ?_
    refine JL.val (yl_move rfl) rfl ?_
    obtain ⟨x13, hx13, hres⟩ := bind_some hres
    refine JL.val (yl_idxVT (e := eA112) (xs := [A112.mk (-1) (-1), A112.mk (-1) 1, A112.mk 1 (-1), A112.mk 1 1]) Go.Proofs.Try.underlying113 Go.Proofs.Try.underlying112 rfl i112 i112s rfl rfl rfl hx13) rfl ?_
    refine JL.eff (ef_alloc i112 i112z rfl) rfl ?_
    rintro _ _ ⟨g14, rfl, rfl⟩
    refine JL.boxrow eI64 4 (m := 2) (List.replicate 2 (0 : Int)) rfl rfl (Nat.le_of_ble_eq_true rfl) rfl ?_
    refine JL.val (yl_assign rfl) rfl ?_
    refine JL.eff (ef_storeArr (ix := 4) (ys := [x13.a0, x13.a1]) i112 rfl rfl rfl rfl (i112s.trans rfl) i112p rfl) rfl ?_
    rintro _ _ rfl
    refine JL.nil ?_
    refine JE.weak (env' := [(2, ptrAt (some ⟨g1, 0, none⟩) 0), (3, ptrAt (some ⟨g3, 0, none⟩) 0), (4, ptrAt (some ⟨g5, 0, none⟩) 0), (5, ptrAt (some ⟨g7, 0, none⟩) 0), (6, .int .i64 x10), (7, ptrAt (some ⟨g14, 0, none⟩) 0), (13, .agg #[.int .i64 (-1), .int .i64 (-1), .int .i64 (-1), .int .i64 1, .int .i64 1, .int .i64 (-1), .int .i64 1, .int .i64 1]), (14, .int .i64 x10)]) (es' := [boxO 28 g1 [.int .i64 q0.W, .int .i64 q0.H, .slice a_0_2 q0.Breaks.length c_0_2], boxO 35 g3 [.int .i64 q1.X, .int .i64 q1.Y], rowT 178 eI64 (some ⟨g5, 0, none⟩) 4 4 (List.replicate 4 (0 : Int)), rowT 178 eI64 (some ⟨g7, 0, none⟩) 4 4 x11, rowT 112 eI64 (some ⟨g14, 0, none⟩) 2 2 [x13.a0, x13.a1]]) [0, 1, 2, 3, 4] ?_ ⟨rfl, rfl, rfl, rfl, rfl, rfl, rfl, rfl, trivial⟩ (by decide) rfl
    refine JE.code ?_
    refine JX.region ?_
    refine JL.val (yl_move rfl) rfl ?_
    refine JL.val (yl_loadn Go.Proofs.Try.underlying28 rfl i28 rfl (fun w hC => rd_box hC 0 rfl) rfl (i28s).symm i28p) rfl ?_
    refine JL.val (yl_loadn Go.Proofs.Try.underlying35 rfl i35 rfl (fun w hC => rd_box hC 1 rfl) rfl (i35s).symm i35p) rfl ?_
    obtain ⟨x16, hx16, hres⟩ := bind_some hres
    refine JL.val (yl_idxArr (e := eI64) Go.Proofs.Try.underlying112 i2 i2s rfl rfl hx16 (rfl : [x13.a0, x13.a1].length = 2)) rfl ?_
    refine JL.val (yl_loadT0 Go.Proofs.Try.underlying2 rfl rfl hx16 (fun w hC => rd_row hC 4 rfl) rfl) rfl ?_
    obtain ⟨x17, hx17, hres⟩ := bind_some hres
    refine JL.val (yl_idxArr (e := eI64) Go.Proofs.Try.underlying112 i2 i2s rfl rfl hx17 (rfl : [x13.a0, x13.a1].length = 2)) rfl ?_
    refine JL.val (yl_loadT0 Go.Proofs.Try.underlying2 rfl rfl hx17 (fun w hC => rd_row hC 4 rfl) rfl) rfl ?_
    refine JL.val (yl_build rfl (fun w => bld126_0_1_2 q1.X q1.Y x16 x17 w)) rfl ?_
    obtain ⟨x18, hx18, hres⟩ := bind_some hres
    refine JL.eff (ef_call (vs := [.agg #[.int .i64 q0.W, .int .i64 q0.H, .slice a_0_2 q0.Breaks.length c_0_2], .agg #[.int .i64 q1.X, .int .i64 q1.Y, .int .i64 x16, .int .i64 x17]]) (T := T168 x18) Go.Proofs.Try.func168 rfl (by kernel_rfl) rfl (fun w hC => c168 (q0 := q0) (q1 := SWalker.mk q1 x16 x17) (rd_arg g_0_2 hC) rfl k_0_2 hx18)) rfl ?_
    rintro _ _ ⟨_, ⟨rfl, rfl⟩, rfl⟩
    obtain ⟨x19, hx19, hres⟩ := bind_some hres
    refine JL.val (yl_idxArr (e := eI64) Go.Proofs.Try.underlying178 i2 i2s rfl rfl hx19 l12) rfl ?_
    refine JL.eff (ef_storeT (ix := 3) (u := x18) i2 i2s rfl rfl rfl hx19 rfl) rfl ?_
    rintro _ _ rfl
    refine JL.nil ?_
    refine JE.weak (env' := [(2, ptrAt (some ⟨g1, 0, none⟩) 0), (3, ptrAt (some ⟨g3, 0, none⟩) 0), (4, ptrAt (some ⟨g5, 0, none⟩) 0), (5, ptrAt (some ⟨g7, 0, none⟩) 0), (13, .agg #[.int .i64 (-1), .int .i64 (-1), .int .i64 (-1), .int .i64 1, .int .i64 1, .int .i64 (-1), .int .i64 1, .int .i64 1]), (14, .int .i64 x10)]) (es' := [boxO 28 g1 [.int .i64 q0.W, .int .i64 q0.H, .slice a_0_2 q0.Breaks.length c_0_2], boxO 35 g3 [.int .i64 q1.X, .int .i64 q1.Y], rowT 178 eI64 (some ⟨g5, 0, none⟩) 4 4 (List.replicate 4 (0 : Int)), rowT 178 eI64 (some ⟨g7, 0, none⟩) 4 4 (x11.set (x10).toNat x18)]) [0, 1, 2, 3] ?_ ⟨rfl, rfl, rfl, rfl, rfl, rfl, trivial⟩ (by decide) rfl
    refine JE.code ?_
    refine JX.region ?_
    refine JL.val (yl_add rfl rfl) rfl ?_
    refine JL.val (yl_move rfl) rfl ?_
    refine JL.nil ?_
    refine JE.cont hres ?_
    exact fun a w h => ⟨(List.length_set.trans l12), h.weak ⟨rfl, rfl, rfl, rfl, rfl, rfl, trivial⟩ [0, 1, 2, 3] (by decide) rfl⟩
  · refine JX.condF rfl hb ?_
    refine JX.exit ?_
    refine JE.qb rfl ?_
    obtain ⟨b1, hb1⟩ : ∃ b : List Int, b = x11 := ⟨_, rfl⟩
    have hy1 : b1 = y1 := by rw [hb1]; exact hox1 _ (Option.some.inj hres).symm
    have hres := hresO1
    rw [← hy1] at hres
    have l20 : b1.length = 4 := by subst hb1; exact l12
    refine JE.weak (env' := [(4, ptrAt (some ⟨g5, 0, none⟩) 0), (5, ptrAt (some ⟨g7, 0, none⟩) 0)]) (es' := [rowT 178 eI64 (some ⟨g5, 0, none⟩) 4 4 (List.replicate 4 (0 : Int)), rowT 178 eI64 (some ⟨g7, 0, none⟩) 4 4 b1]) [2, 3] ?_ ⟨(by subst hb1; rfl), (by subst hb1; rfl), trivial⟩ (by decide) (by subst hb1; rfl)
    refine JE.code ?_
    refine JX.seq ?_
    refine JX.region ?_
    obtain ⟨x21, hx21, hres⟩ := bind_some hres
    obtain ⟨x22, hx22, hres⟩ := bind_some hres
    obtain ⟨x23, hx23, hres⟩ := bind_some hres
    obtain ⟨x24, hx24, hres⟩ := bind_some hres
    refine JL.val (yl_loadArr (e := eI64) (xs := b1) [x21, x22, x23, x24] Go.Proofs.Try.underlying178 rfl i178 rfl (Nat.le_of_ble_eq_true rfl) rfl (fun w hC => rd_row hC 1 rfl) (list_four l20 hx21 hx22 hx23 hx24)) rfl ?_
    refine JL.eff (ef_storeArr (ix := 0) (ys := [x21, x22, x23, x24]) i178 rfl rfl rfl rfl (i178s.trans rfl) i178p rfl) rfl ?_
    rintro _ _ rfl
    refine JL.nil ?_
    refine JE.weak (env' := [(4, ptrAt (some ⟨g5, 0, none⟩) 0)]) (es' := [rowT 178 eI64 (some ⟨g5, 0, none⟩) 4 4 [x21, x22, x23, x24]]) [0] ?_ ⟨rfl, trivial⟩ (by decide) rfl
    refine JE.code ?_
    refine JX.ret ?_
    obtain rfl := Option.some.inj hres
    refine JE.ret (rs := [.cell 4 178]) (vs := [.agg #[.int .i64 x21, .int .i64 x22, .int .i64 x23, .int .i64 x24]]) rfl ⟨rv_arr (e := eI64) (xs := [x21, x22, x23, x24]) 0 rfl rfl Go.Proofs.Try.underlying178 rfl i178 rfl, trivial⟩ ?_
    exact fun w' hb hs => ⟨_, _, ⟨rfl, rfl⟩, rfl, hb, hs.sel [] _ (by decide) rfl⟩

/- (impl.Panel).curvesAt -/
def sh157_1 (q1 : List Int) (x7 : A178) : (Int × List Int) → Option ((Int × List Int) ⊕ (List Int))
  | (x10, x11) => bif decide (x10 < 4) then (Option.bind (getI ([x7.a0, x7.a1, x7.a2, x7.a3] : List Int) x10) fun x14 => Option.bind (getI q1 x14) fun x15 => Option.bind (appL x11 [x15]) fun x18 => some (.inl (w64 (x10 + 1), x18))) else (some (.inr x11))
def sh157 (q0 : SPanel) (q1 : List Int) (q2 : SPoint) : Option (List Int) := Option.bind (sh183 q0 q2) fun x7 => Option.bind (iter (sh157_1 q1 x7) (0, ([] : List Int))) fun b1 => (Option.bind (sortR b1) fun x23 => Option.bind (compR x23) fun x24 => some x24)
def T157 (r : List Int) (v : Value) (rs : List Own) : Prop := ∃ (a0 : Option Addr) (n0 c0 : Nat), r.length = n0 ∧ v = rets [.slice a0 n0 c0] ∧ rs = [rowT 2 eI64 a0 n0 c0 r]
set_option maxRecDepth 100000 in
theorem c157 {w : World} {q0 : SPanel} {a_0_2 : Option Addr} {n_0_2 c_0_2 : Nat} (g_0_2 : Rd w a_0_2 (eI64.fl q0.Breaks)) (l_0_2 : q0.Breaks.length = n_0_2) (k_0_2 : n_0_2 ≤ c_0_2) {q1 : List Int} {a_1 : Option Addr} {n_1 c_1 : Nat} (g_1 : Rd w a_1 (eI64.fl q1)) (l_1 : q1.length = n_1) (k_1 : n_1 ≤ c_1) {q2 : SPoint} {r : List Int} (hres : sh157 q0 q1 q2 = some r) : Calls Go.Proofs.Try.prog 157 [.agg #[.int .i64 q0.W, .int .i64 q0.H, .slice a_0_2 n_0_2 c_0_2], .slice a_1 n_1 c_1, .agg #[.int .i64 q2.X, .int .i64 q2.Y]].toArray w (Ret w (T157 r)) := by
  subst l_0_2
  subst l_1
  unfold sh157 at hres
  refine calls_of (n := 29) (M := []) (es := []) Go.Proofs.Try.func157 rfl rfl rfl (Sep.nil _ _ _) ?_
  refine JX.seq ?_
  refine JX.region ?_
  refine JL.eff (ef_box rfl rfl) rfl ?_
  rintro _ _ ⟨g1, rfl, rfl⟩
  refine JL.eff (ef_box rfl rfl) rfl ?_
  rintro _ _ ⟨g3, rfl, rfl⟩
  refine JL.val (yl_assign rfl) rfl ?_
  refine JL.nil ?_
  refine JE.code ?_
  refine JX.seq ?_
  refine JX.region ?_
  refine JL.eff (ef_buildSlice (E := 2) (k := eI64.k) (us := eI64.fl ([] : List Int)) rfl (fun w => bsl22_0  w) rfl (by decide)) rfl ?_
  rintro _ _ ⟨a5, rfl, rfl⟩
  refine JL.val (yl_assign rfl) rfl ?_
  refine JL.nil ?_
  refine JE.code ?_
  refine JX.seq ?_
  refine JX.seq ?_
  refine JX.region ?_
  refine JL.val (yl_loadn Go.Proofs.Try.underlying28 rfl i28 rfl (fun w hC => rd_box hC 0 rfl) rfl (i28s).symm i28p) rfl ?_
  refine JL.val (yl_loadn Go.Proofs.Try.underlying35 rfl i35 rfl (fun w hC => rd_box hC 1 rfl) rfl (i35s).symm i35p) rfl ?_
  obtain ⟨x7, hx7, hres⟩ := bind_some hres
  refine JL.eff (ef_call (vs := [.agg #[.int .i64 q0.W, .int .i64 q0.H, .slice a_0_2 q0.Breaks.length c_0_2], .agg #[.int .i64 q2.X, .int .i64 q2.Y]]) (T := T183 x7) Go.Proofs.Try.func183 rfl (by kernel_rfl) rfl (fun w hC => c183 (q0 := q0) (q1 := q2) (rd_arg g_0_2 hC) rfl k_0_2 hx7)) rfl ?_
  rintro _ _ ⟨_, ⟨rfl, rfl⟩, rfl⟩
  refine JL.val (yl_move rfl) rfl ?_
  refine JL.nil ?_
  refine JE.weak (env' := [(1, .slice a_1 q1.length c_1), (7, .slice a5 0 0), (13, .agg #[.int .i64 x7.a0, .int .i64 x7.a1, .int .i64 x7.a2, .int .i64 x7.a3]), (14, .int .i64 0)]) (es' := [rowT 2 eI64 a5 0 0 ([] : List Int)]) [2] ?_ ⟨rfl, rfl, rfl, rfl, trivial⟩ (by decide) rfl
  refine JE.code ?_
  refine JX.block ?_
  obtain ⟨y1, hy1, hresO1⟩ := bind_some hres
  refine JX.loop (I := fun (s1 : Int × List Int) aa ww => ∃ (a8 : Option Addr) (cp9 : Nat), St w [] 29 [(1, .slice a_1 q1.length c_1), (7, .slice a8 s1.2.length cp9), (13, .agg #[.int .i64 x7.a0, .int .i64 x7.a1, .int .i64 x7.a2, .int .i64 x7.a3]), (14, .int .i64 s1.1)] [rowT 2 eI64 a8 s1.2.length cp9 s1.2] aa ww) (sh157_1 q1 x7) hy1 (fun a w h => ⟨a5, 0, h.weak ⟨rfl, rfl, rfl, rfl, trivial⟩ [0] (by decide) rfl⟩) ?_
  rintro ⟨x10, x11⟩ o1 hres hox1 aa ww ⟨a12, cp13, hS⟩
  refine (?_ : JX Go.Proofs.Try.prog w [] 29 _ _ [(1, .slice a_1 q1.length c_1), (7, .slice a12 x11.length cp13), (13, .agg #[.int .i64 x7.a0, .int .i64 x7.a1, .int .i64 x7.a2, .int .i64 x7.a3]), (14, .int .i64 x10)] [rowT 2 eI64 a12 x11.length cp13 x11] _) aa ww hS
  clear hS
  simp only [sh157_1] at hres
  refine JX.seq ?_
  refine JX.region ?_
  refine JL.val (yl_lss rfl rfl) rfl ?_
  refine JL.nil ?_
  refine JE.code ?_
  refine JX.seq ?_
  rcases cond_some hres with ⟨hb, hres⟩ | ⟨hb, hres⟩
  · refine JX.condT rfl hb ?_
    refine JX.skip ?_
    refine JE.code ?_
    refine JX.seq ?_
    refine JX.block ?_
    refine JX.seq ?_
    refine JX.region ?_
    obtain ⟨x14, hx14, hres⟩ := bind_some hres
    refine JL.val (yl_idxV (xs := [x7.a0, x7.a1, x7.a2, x7.a3]) Go.Proofs.Try.underlying178 Go.Proofs.Try.underlying2 rfl i2 i2s rfl rfl rfl hx14) rfl ?_
    refine JL.val (yl_assign rfl) rfl ?_
    refine JL.nil ?_
    refine JE.code ?_
    refine JX.region ?_
    refine JL.val (yl_move rfl) rfl ?_
    refine JL.val (yl_move rfl) rfl ?_
    refine JL.val (yl_move rfl) rfl ?_
    obtain ⟨x15, hx15, hres⟩ := bind_some hres
    refine JL.val (yl_idxT Go.Proofs.Try.underlying22 i2 i2s rfl rfl hx15 rfl (fun w hC => rd_arg g_1 hC)) rfl ?_
    refine JL.val (yl_loadT0 Go.Proofs.Try.underlying2 rfl rfl hx15 (fun w hC => rd_arg g_1 hC) rfl) rfl ?_
    refine JL.eff (ef_buildSlice (E := 2) (k := eI64.k) (us := eI64.fl [x15]) rfl (fun w => bsl22_1 x15 w) rfl (by decide)) rfl ?_
    rintro _ _ ⟨a16, rfl, rfl⟩
    obtain ⟨x18, hx18, hres⟩ := bind_some hres
    refine JL.eff (ef_appendT (ix := 0) Go.Proofs.Try.underlying22 i2 i2z i2s rfl i2b0 i2b1 rfl rfl rfl rfl rfl (fun w hC => rd_row hC 1 rfl) hx18) rfl ?_
    rintro _ _ ⟨a19, cp20, rfl, rfl⟩
    refine JL.val (yl_assign rfl) rfl ?_
    refine JL.nil ?_
    refine JE.weak (env' := [(1, .slice a_1 q1.length c_1), (7, .slice a19 x18.length cp20), (13, .agg #[.int .i64 x7.a0, .int .i64 x7.a1, .int .i64 x7.a2, .int .i64 x7.a3]), (14, .int .i64 x10)]) (es' := [rowT 2 eI64 a19 x18.length cp20 x18]) [0] ?_ ⟨rfl, rfl, rfl, rfl, trivial⟩ (by decide) rfl
    refine JE.code ?_
    refine JX.region ?_
    refine JL.val (yl_add rfl rfl) rfl ?_
    refine JL.val (yl_move rfl) rfl ?_
    refine JL.nil ?_
    refine JE.cont hres ?_
    exact fun a w h => ⟨a19, cp20, h.weak ⟨rfl, rfl, rfl, rfl, trivial⟩ [0] (by decide) rfl⟩
  · refine JX.condF rfl hb ?_
    refine JX.exit ?_
    refine JE.qb rfl ?_
    obtain ⟨b1, hb1⟩ : ∃ b : List Int, b = x11 := ⟨_, rfl⟩
    have hy1 : b1 = y1 := by rw [hb1]; exact hox1 _ (Option.some.inj hres).symm
    have hres := hresO1
    rw [← hy1] at hres
    refine JE.weak (env' := [(7, .slice a12 b1.length cp13)]) (es' := [rowT 2 eI64 a12 b1.length cp13 b1]) [0] ?_ ⟨(by subst hb1; rfl), trivial⟩ (by decide) (by subst hb1; rfl)
    refine JE.code ?_
    refine JX.seq ?_
    refine JX.region ?_
    refine JL.val (yl_move rfl) rfl ?_
    obtain ⟨x23, hx23, hres⟩ := bind_some hres
    refine JL.eff (ef_callms (caps := []) (vs := [.slice a12 b1.length cp13]) (T := fun v es1 rs1 => v = .tuple #[] ∧ es1 = [rowT 2 eI64 a12 b1.length cp13 x23] ∧ rs1 = []) [0] [] [rowT 2 eI64 a12 b1.length cp13 b1] [] rfl Go.Proofs.Try.func106 rfl (by kernel_rfl) rfl (by decide) rfl rfl (fun w N hF hS => sort_ad Go.Proofs.Try.slices_Sort_int Go.Proofs.Try.slices_Sort_int_none hS rfl hx23)) rfl ?_
    rintro _ _ ⟨_, _, ⟨rfl, rfl, rfl⟩, rfl⟩
    refine JL.nil ?_
    refine JE.code ?_
    refine JX.seq ?_
    refine JX.region ?_
    refine JL.val (yl_move rfl) rfl ?_
    obtain ⟨x24, hx24, hres⟩ := bind_some hres
    refine JL.eff (ef_callms (caps := []) (vs := [.slice a12 b1.length cp13]) (T := fun v es1 rs1 => v = .slice a12 x24.length cp13 ∧ es1 = [rowT 2 eI64 a12 x24.length cp13 x24] ∧ rs1 = []) [0] [] [rowT 2 eI64 a12 b1.length cp13 x23] [] rfl Go.Proofs.Try.func107 rfl (by kernel_rfl) rfl (by decide) rfl rfl (fun w N hF hS => compact_ad Go.Proofs.Try.slices_Compact_int Go.Proofs.Try.slices_Compact_int_empty hS (sortR_len hx23) hx24)) rfl ?_
    rintro _ _ ⟨_, _, ⟨rfl, rfl, rfl⟩, rfl⟩
    refine JL.val (yl_assign rfl) rfl ?_
    refine JL.nil ?_
    refine JE.code ?_
    refine JX.ret ?_
    obtain rfl := Option.some.inj hres
    refine JE.ret (rs := [.tmp 6]) (vs := [.slice a12 x24.length cp13]) rfl ⟨rfl, trivial⟩ ?_
    exact fun w' hb hs => ⟨_, _, ⟨a12, x24.length, cp13, rfl, rfl, rfl⟩, rfl, hb, hs.sel [0] _ (by decide) rfl⟩

/- (impl.Panel).crossed -/
def sh98_2 (q0 : SPanel) (x29 : List (List SWalker) × List Int) (x39 : List SPoint) : (Int × List (List Bool)) → Option ((Int × List (List Bool)) ⊕ (List (List Bool)))
  | (x44, x45) => bif decide (x44 < (x39.length : Int)) then (Option.bind (getI x39 x44) fun x47 => Option.bind (sh157 q0 x29.2 x47) fun x50 => Option.bind (bif (x50.length : Int) == 2 then (Option.bind (getI x50 (0 : Int)) fun x57 => Option.bind (getI x45 x57) fun x58 => Option.bind (getI x50 (1 : Int)) fun x62 => Option.bind (getI x50 (1 : Int)) fun x63 => Option.bind (getI x45 x63) fun x64 => Option.bind (getI x50 (0 : Int)) fun x68 => Option.bind (getI x58 x62) fun x69 => Option.bind (getI (x45.set (x57).toNat (x58.set (x62).toNat true)) x63) fun x71 => Option.bind (getI x71 x68) fun x72 => some ((x45.set (x57).toNat (x58.set (x62).toNat true)).set (x63).toNat (x71.set (x68).toNat true))) else (some x45)) fun j54 => (some (.inl (w64 (x44 + 1), j54)))) else (some (.inr x45))
def sh98_1 (x6 : Int) : (Int × List (List Bool)) → Option ((Int × List (List Bool)) ⊕ (List (List Bool)))
  | (x11, x12) => bif decide (x11 < x6) then (Option.bind (mkL x6 false) fun x17 => Option.bind (appL x12 [x17]) fun x22 => some (.inl (w64 (x11 + 1), x22))) else (some (.inr x12))
def sh98 (q0 : SPanel) : Option (List (List Bool)) := Option.bind (sh118 q0) fun x6 => Option.bind (iter (sh98_1 x6) (0, ([] : List (List Bool)))) fun b1 => (Option.bind (sh114 q0) fun x29 => Option.bind (sh156 q0) fun x39 => Option.bind (iter (sh98_2 q0 x29 x39) (0, b1)) fun b2 => (some b2))
def T98 (r : List (List Bool)) (v : Value) (rs : List Own) : Prop := ∃ (a0 : Option Addr) (n0 c0 : Nat) (h0 : List Hd), r.length = n0 ∧ Inn h0 r ∧ v = rets [.slice a0 n0 c0] ∧ rs = [rowT 104 eHd a0 n0 c0 h0, innO 4 eBool none h0 r]
set_option maxRecDepth 100000 in
theorem c98 {w : World} {q0 : SPanel} {a_0_2 : Option Addr} {n_0_2 c_0_2 : Nat} (g_0_2 : Rd w a_0_2 (eI64.fl q0.Breaks)) (l_0_2 : q0.Breaks.length = n_0_2) (k_0_2 : n_0_2 ≤ c_0_2) {r : List (List Bool)} (hres : sh98 q0 = some r) : Calls Go.Proofs.Try.prog 98 [.agg #[.int .i64 q0.W, .int .i64 q0.H, .slice a_0_2 n_0_2 c_0_2]].toArray w (Ret w (T98 r)) := by
  subst l_0_2
  unfold sh98 at hres
  refine calls_of (n := 63) (M := []) (es := []) Go.Proofs.Try.func98 rfl rfl rfl (Sep.nil _ _ _) ?_
  refine JX.seq ?_
  refine JX.region ?_
  refine JL.eff (ef_box rfl rfl) rfl ?_
  rintro _ _ ⟨g1, rfl, rfl⟩
  refine JL.val (yl_assign rfl) rfl ?_
  refine JL.nil ?_
  refine JE.code ?_
  refine JX.seq ?_
  refine JX.region ?_
  refine JL.eff (ef_buildSlice (E := 104) (k := eHd.k) (us := eHd.fl ([] : List Hd)) rfl (fun w => bsl99_0  w) rfl (by decide)) rfl ?_
  rintro _ _ ⟨a3, rfl, rfl⟩
  refine JL.nilinn 4 eBool ?_
  refine JL.val (yl_assign rfl) rfl ?_
  refine JL.nil ?_
  refine JE.code ?_
  refine JX.seq ?_
  refine JX.region ?_
  refine JL.val (yl_loadn Go.Proofs.Try.underlying28 rfl i28 rfl (fun w hC => rd_box hC 0 rfl) rfl (i28s).symm i28p) rfl ?_
  obtain ⟨x6, hx6, hres⟩ := bind_some hres
  refine JL.eff (ef_call (vs := [.agg #[.int .i64 q0.W, .int .i64 q0.H, .slice a_0_2 q0.Breaks.length c_0_2]]) (T := T118 x6) Go.Proofs.Try.func118 rfl (by kernel_rfl) rfl (fun w hC => c118 (q0 := q0) (rd_arg g_0_2 hC) rfl k_0_2 hx6)) rfl ?_
  rintro _ _ ⟨_, ⟨rfl, rfl⟩, rfl⟩
  refine JL.val (yl_assign rfl) rfl ?_
  refine JL.nil ?_
  refine JE.code ?_
  refine JX.seq ?_
  refine JX.seq ?_
  refine JX.region ?_
  refine JL.val (yl_move rfl) rfl ?_
  refine JL.val (yl_move rfl) rfl ?_
  refine JL.nil ?_
  refine JE.code ?_
  refine JX.block ?_
  obtain ⟨y1, hy1, hresO1⟩ := bind_some hres
  refine JX.loop (I := fun (s1 : Int × List (List Bool)) aa ww => ∃ (a7 : Option Addr) (cp8 : Nat) (hs9 : List Hd) (hi10 : Inn hs9 s1.2), St w [] 63 [(1, ptrAt (some ⟨g1, 0, none⟩) 0), (3, .slice a7 s1.2.length cp8), (4, .int .i64 x6), (13, .int .i64 x6), (14, .int .i64 s1.1)] [boxO 28 g1 [.int .i64 q0.W, .int .i64 q0.H, .slice a_0_2 q0.Breaks.length c_0_2], rowT 104 eHd a7 s1.2.length cp8 hs9, innO 4 eBool none hs9 s1.2] aa ww) (sh98_1 x6) hy1 (fun a w h => ⟨a3, 0, ([] : List Hd), (Inn.nil (T := Bool)), h.weak ⟨rfl, rfl, rfl, rfl, rfl, trivial⟩ [0, 1, 2] (by decide) rfl⟩) ?_
  rintro ⟨x11, x12⟩ o1 hres hox1 aa ww ⟨a13, cp14, hs15, hi16, hS⟩
  refine (?_ : JX Go.Proofs.Try.prog w [] 63 _ _ [(1, ptrAt (some ⟨g1, 0, none⟩) 0), (3, .slice a13 x12.length cp14), (4, .int .i64 x6), (13, .int .i64 x6), (14, .int .i64 x11)] [boxO 28 g1 [.int .i64 q0.W, .int .i64 q0.H, .slice a_0_2 q0.Breaks.length c_0_2], rowT 104 eHd a13 x12.length cp14 hs15, innO 4 eBool none hs15 x12] _) aa ww hS
  clear hS
  simp only [sh98_1] at hres
  refine JX.seq ?_
  refine JX.region ?_
  refine JL.val (yl_lss rfl rfl) rfl ?_
  refine JL.nil ?_
  refine JE.code ?_
  refine JX.seq ?_
  rcases cond_some hres with ⟨hb, hres⟩ | ⟨hb, hres⟩
  · refine JX.condT rfl hb ?_
    refine JX.skip ?_
    refine JE.code ?_
    refine JX.seq ?_
    refine JX.block ?_
    refine JX.region ?_
    refine JL.val (yl_move rfl) rfl ?_
    refine JL.val (yl_move rfl) rfl ?_
    obtain ⟨x17, hx17, hres⟩ := bind_some hres
    refine JL.eff (ef_makeS (e := eBool) Go.Proofs.Try.underlying104 i4 i4s i4z rfl i4b1 rfl rfl hx17) rfl ?_
    rintro _ _ ⟨a18, rfl, rfl⟩
    refine JL.eff (ef_buildSlice (E := 104) (k := eHd.k) (us := eHd.fl [⟨a18, x17.length, x17.length⟩]) rfl (fun w => bsl99_1 a18 x17.length x17.length w) rfl (by decide)) rfl ?_
    rintro _ _ ⟨a20, rfl, rfl⟩
    obtain ⟨x22, hx22, hres⟩ := bind_some hres
    refine JL.eff (ef_appendH (ix := 1) Go.Proofs.Try.underlying99 i104 i104z i104s rfl i104b0 i104b1 rfl rfl (Inn.len hi16) rfl rfl (fun w hC => rd_row hC 4 rfl) hx22 hi16) rfl ?_
    rintro _ _ ⟨a23, cp24, rfl, rfl⟩
    refine JL.absorb (es' := [boxO 28 g1 [.int .i64 q0.W, .int .i64 q0.H, .slice a_0_2 q0.Breaks.length c_0_2], rowT 104 eHd a23 x22.length cp24 (hs15 ++ [⟨a18, x17.length, x17.length⟩]), rowT 104 eHd a20 1 1 [⟨a18, x17.length, x17.length⟩]]) [0, 1, 4, 2, 3] (by decide) rfl (appL_some hx22).2 ?_
    refine JL.val (yl_assign rfl) rfl ?_
    refine JL.nil ?_
    refine JE.weak (env' := [(1, ptrAt (some ⟨g1, 0, none⟩) 0), (3, .slice a23 x22.length cp24), (4, .int .i64 x6), (13, .int .i64 x6), (14, .int .i64 x11)]) (es' := [boxO 28 g1 [.int .i64 q0.W, .int .i64 q0.H, .slice a_0_2 q0.Breaks.length c_0_2], rowT 104 eHd a23 x22.length cp24 (hs15 ++ [⟨a18, x17.length, x17.length⟩]), innO 4 eBool none (hs15 ++ [⟨a18, x17.length, x17.length⟩]) x22]) [0, 1, 3] ?_ ⟨rfl, rfl, rfl, rfl, rfl, trivial⟩ (by decide) rfl
    refine JE.code ?_
    refine JX.region ?_
    refine JL.val (yl_add rfl rfl) rfl ?_
    refine JL.val (yl_move rfl) rfl ?_
    refine JL.nil ?_
    refine JE.cont hres ?_
    exact fun a w h => ⟨a23, cp24, hs15 ++ [⟨a18, x17.length, x17.length⟩], (Inn.appZ hi16 rfl (appL_some hx22).2), h.weak ⟨rfl, (by first | rfl | (simp only [List.length_set]; rfl) | simp only [List.length_set]), rfl, rfl, rfl, trivial⟩ [0, 1, 2] (by decide) (by first | rfl | (simp only [List.length_set]; rfl) | simp only [List.length_set])⟩
  · refine JX.condF rfl hb ?_
    refine JX.exit ?_
    refine JE.qb rfl ?_
    obtain ⟨b1, hb1⟩ : ∃ b : List (List Bool), b = x12 := ⟨_, rfl⟩
    have hy1 : b1 = y1 := by rw [hb1]; exact hox1 _ (Option.some.inj hres).symm
    have hres := hresO1
    rw [← hy1] at hres
    have hi28 : Inn hs15 b1 := by subst hb1; exact hi16
    refine JE.weak (env' := [(1, ptrAt (some ⟨g1, 0, none⟩) 0), (3, .slice a13 b1.length cp14)]) (es' := [boxO 28 g1 [.int .i64 q0.W, .int .i64 q0.H, .slice a_0_2 q0.Breaks.length c_0_2], rowT 104 eHd a13 b1.length cp14 hs15, innO 4 eBool none hs15 b1]) [0, 1, 2] ?_ ⟨(by subst hb1; rfl), (by subst hb1; first | rfl | (simp only [List.length_set]; rfl) | simp only [List.length_set]), trivial⟩ (by decide) (by subst hb1; first | rfl | (simp only [List.length_set]; rfl) | simp only [List.length_set])
    refine JE.code ?_
    refine JX.seq ?_
    refine JX.region ?_
    refine JL.val (yl_loadn Go.Proofs.Try.underlying28 rfl i28 rfl (fun w hC => rd_box hC 0 rfl) rfl (i28s).symm i28p) rfl ?_
    obtain ⟨x29, hx29, hres⟩ := bind_some hres
    refine JL.eff (ef_call (vs := [.agg #[.int .i64 q0.W, .int .i64 q0.H, .slice a_0_2 q0.Breaks.length c_0_2]]) (T := T114 x29) Go.Proofs.Try.func114 rfl (by kernel_rfl) rfl (fun w hC => c114 (q0 := q0) (rd_arg g_0_2 hC) rfl k_0_2 hx29)) rfl ?_
    rintro _ _ ⟨_, ⟨a30, _, cp31, hs33, rfl, hi34, a36, _, cp37, rfl, rfl, rfl⟩, rfl⟩
    refine JL.val (yl_move rfl) rfl ?_
    refine JL.val (yl_extract rfl rfl) rfl ?_
    refine JL.val (yl_extract rfl rfl) rfl ?_
    refine JL.val (yl_assign rfl) rfl ?_
    refine JL.val (yl_assign rfl) rfl ?_
    refine JL.nil ?_
    refine JE.weak (env' := [(1, ptrAt (some ⟨g1, 0, none⟩) 0), (3, .slice a13 b1.length cp14), (6, .slice a36 x29.2.length cp37)]) (es' := [boxO 28 g1 [.int .i64 q0.W, .int .i64 q0.H, .slice a_0_2 q0.Breaks.length c_0_2], rowT 104 eHd a13 b1.length cp14 hs15, innO 4 eBool none hs15 b1, rowT 2 eI64 a36 x29.2.length cp37 x29.2]) [0, 1, 2, 5] ?_ ⟨rfl, rfl, rfl, trivial⟩ (by decide) rfl
    refine JE.code ?_
    refine JX.seq ?_
    refine JX.seq ?_
    refine JX.region ?_
    refine JL.val (yl_loadn Go.Proofs.Try.underlying28 rfl i28 rfl (fun w hC => rd_box hC 0 rfl) rfl (i28s).symm i28p) rfl ?_
    obtain ⟨x39, hx39, hres⟩ := bind_some hres
    refine JL.eff (ef_call (vs := [.agg #[.int .i64 q0.W, .int .i64 q0.H, .slice a_0_2 q0.Breaks.length c_0_2]]) (T := T156 x39) Go.Proofs.Try.func156 rfl (by kernel_rfl) rfl (fun w hC => c156 (q0 := q0) (rd_arg g_0_2 hC) rfl k_0_2 hx39)) rfl ?_
    rintro _ _ ⟨_, ⟨a40, _, cp41, rfl, rfl, rfl⟩, rfl⟩
    refine JL.val (yl_len_slice Go.Proofs.Try.underlying61 rfl) rfl ?_
    refine JL.val (yl_move rfl) rfl ?_
    refine JL.nil ?_
    refine JE.weak (env' := [(1, ptrAt (some ⟨g1, 0, none⟩) 0), (3, .slice a13 b1.length cp14), (6, .slice a36 x29.2.length cp37), (28, .slice a40 x39.length cp41), (29, .int .i64 (x39.length : Int)), (30, .int .i64 0)]) (es' := [boxO 28 g1 [.int .i64 q0.W, .int .i64 q0.H, .slice a_0_2 q0.Breaks.length c_0_2], rowT 104 eHd a13 b1.length cp14 hs15, innO 4 eBool none hs15 b1, rowT 2 eI64 a36 x29.2.length cp37 x29.2, rowT 35 eSPoint a40 x39.length cp41 x39]) [0, 1, 2, 3, 4] ?_ ⟨rfl, rfl, rfl, rfl, rfl, rfl, trivial⟩ (by decide) rfl
    refine JE.code ?_
    refine JX.block ?_
    obtain ⟨y2, hy2, hresO2⟩ := bind_some hres
    refine JX.loop (I := fun (s2 : Int × List (List Bool)) aa ww => ∃ (hi43 : Inn hs15 s2.2), St w [] 63 [(1, ptrAt (some ⟨g1, 0, none⟩) 0), (3, .slice a13 b1.length cp14), (6, .slice a36 x29.2.length cp37), (28, .slice a40 x39.length cp41), (29, .int .i64 (x39.length : Int)), (30, .int .i64 s2.1)] [boxO 28 g1 [.int .i64 q0.W, .int .i64 q0.H, .slice a_0_2 q0.Breaks.length c_0_2], rowT 104 eHd a13 b1.length cp14 hs15, innO 4 eBool none hs15 s2.2, rowT 2 eI64 a36 x29.2.length cp37 x29.2, rowT 35 eSPoint a40 x39.length cp41 x39] aa ww) (sh98_2 q0 x29 x39) hy2 (fun a w h => ⟨hi28, h.weak ⟨rfl, rfl, rfl, rfl, rfl, rfl, trivial⟩ [0, 1, 2, 3, 4] (by decide) rfl⟩) ?_
    rintro ⟨x44, x45⟩ o2 hres hox2 aa ww ⟨hi46, hS⟩
    refine (?_ : JX Go.Proofs.Try.prog w [] 63 _ _ [(1, ptrAt (some ⟨g1, 0, none⟩) 0), (3, .slice a13 b1.length cp14), (6, .slice a36 x29.2.length cp37), (28, .slice a40 x39.length cp41), (29, .int .i64 (x39.length : Int)), (30, .int .i64 x44)] [boxO 28 g1 [.int .i64 q0.W, .int .i64 q0.H, .slice a_0_2 q0.Breaks.length c_0_2], rowT 104 eHd a13 b1.length cp14 hs15, innO 4 eBool none hs15 x45, rowT 2 eI64 a36 x29.2.length cp37 x29.2, rowT 35 eSPoint a40 x39.length cp41 x39] _) aa ww hS
    clear hS
    simp only [sh98_2] at hres
    refine JX.seq ?_
    refine JX.region ?_
    refine JL.val (yl_lss rfl rfl) rfl ?_
    refine JL.nil ?_
    refine JE.code ?_
    refine JX.seq ?_
    rcases cond_some hres with ⟨hb, hres⟩ | ⟨hb, hres⟩
    · refine JX.condT rfl hb ?_
      refine JX.skip ?_
      refine JE.code ?_
      refine JX.seq ?_
      refine JX.block ?_
      refine JX.seq ?_
      refine JX.region ?_
      obtain ⟨x47, hx47, hres⟩ := bind_some hres
      refine JL.val (yl_idxT Go.Proofs.Try.underlying61 i35 i35s rfl rfl hx47 rfl (fun w hC => rd_row hC 4 rfl)) rfl ?_
      refine JL.val (yl_loadTn Go.Proofs.Try.underlying35 rfl i35 i35s rfl hx47 (fun w hC => rd_row hC 4 rfl)) rfl ?_
      refine JL.eff (ef_alloc i35 i35z rfl) rfl ?_
      rintro _ _ ⟨g48, rfl, rfl⟩
      refine JL.eff (ef_store_box (i := 5) (v := .agg #[.int .i64 x47.X, .int .i64 x47.Y]) i35 rfl rfl rfl (i35s).symm (Nat.le_of_ble_eq_true rfl) (by simp [Value.cells, Value.oneCell'])) rfl ?_
      rintro _ _ rfl
      refine JL.nil ?_
      refine JE.weak (env' := [(1, ptrAt (some ⟨g1, 0, none⟩) 0), (3, .slice a13 b1.length cp14), (6, .slice a36 x29.2.length cp37), (8, ptrAt (some ⟨g48, 0, none⟩) 0), (28, .slice a40 x39.length cp41), (29, .int .i64 (x39.length : Int)), (30, .int .i64 x44)]) (es' := [boxO 28 g1 [.int .i64 q0.W, .int .i64 q0.H, .slice a_0_2 q0.Breaks.length c_0_2], rowT 104 eHd a13 b1.length cp14 hs15, innO 4 eBool none hs15 x45, rowT 2 eI64 a36 x29.2.length cp37 x29.2, boxO 35 g48 [.int .i64 x47.X, .int .i64 x47.Y], rowT 35 eSPoint a40 x39.length cp41 x39]) [0, 1, 2, 3, 5, 4] ?_ ⟨rfl, rfl, rfl, rfl, rfl, rfl, rfl, trivial⟩ (by decide) rfl
      refine JE.code ?_
      refine JX.seq ?_
      refine JX.region ?_
      refine JL.val (yl_loadn Go.Proofs.Try.underlying28 rfl i28 rfl (fun w hC => rd_box hC 0 rfl) rfl (i28s).symm i28p) rfl ?_
      refine JL.val (yl_move rfl) rfl ?_
      refine JL.val (yl_loadn Go.Proofs.Try.underlying35 rfl i35 rfl (fun w hC => rd_box hC 4 rfl) rfl (i35s).symm i35p) rfl ?_
      obtain ⟨x50, hx50, hres⟩ := bind_some hres
      refine JL.eff (ef_call (vs := [.agg #[.int .i64 q0.W, .int .i64 q0.H, .slice a_0_2 q0.Breaks.length c_0_2], .slice a36 x29.2.length cp37, .agg #[.int .i64 x47.X, .int .i64 x47.Y]]) (T := T157 x50) Go.Proofs.Try.func157 rfl (by kernel_rfl) rfl (fun w hC => c157 (q0 := q0) (q2 := x47) (rd_arg g_0_2 hC) rfl k_0_2 (rd_row hC 3 rfl) rfl (ln_row hC 3 rfl) hx50)) rfl ?_
      rintro _ _ ⟨_, ⟨a51, _, cp52, rfl, rfl, rfl⟩, rfl⟩
      refine JL.val (yl_assign rfl) rfl ?_
      refine JL.nil ?_
      refine JE.weak (env' := [(1, ptrAt (some ⟨g1, 0, none⟩) 0), (3, .slice a13 b1.length cp14), (6, .slice a36 x29.2.length cp37), (9, .slice a51 x50.length cp52), (28, .slice a40 x39.length cp41), (29, .int .i64 (x39.length : Int)), (30, .int .i64 x44)]) (es' := [boxO 28 g1 [.int .i64 q0.W, .int .i64 q0.H, .slice a_0_2 q0.Breaks.length c_0_2], rowT 104 eHd a13 b1.length cp14 hs15, innO 4 eBool none hs15 x45, rowT 2 eI64 a36 x29.2.length cp37 x29.2, rowT 2 eI64 a51 x50.length cp52 x50, rowT 35 eSPoint a40 x39.length cp41 x39]) [0, 1, 2, 3, 6, 5] ?_ ⟨rfl, rfl, rfl, rfl, rfl, rfl, rfl, trivial⟩ (by decide) rfl
      refine JE.code ?_
      refine JX.seq ?_
      refine JX.region ?_
      refine JL.val (yl_move rfl) rfl ?_
      refine JL.val (yl_len_slice Go.Proofs.Try.underlying22 rfl) rfl ?_
      refine JL.val (yl_eql rfl rfl) rfl ?_
      refine JL.nil ?_
      refine JE.code ?_
      obtain ⟨j54, hj54, hresj54⟩ := bind_some hres
      refine JX.cut (K := fun J => ∀ (hi55 : Inn hs15 j54), J [(1, ptrAt (some ⟨g1, 0, none⟩) 0), (3, .slice a13 b1.length cp14), (6, .slice a36 x29.2.length cp37), (28, .slice a40 x39.length cp41), (29, .int .i64 (x39.length : Int)), (30, .int .i64 x44)] [boxO 28 g1 [.int .i64 q0.W, .int .i64 q0.H, .slice a_0_2 q0.Breaks.length c_0_2], rowT 104 eHd a13 b1.length cp14 hs15, innO 4 eBool none hs15 j54, rowT 2 eI64 a36 x29.2.length cp37 x29.2, rowT 35 eSPoint a40 x39.length cp41 x39]) ?_ ?_
      · intro hi55
        have hres := hresj54
        refine JE.code ?_
        refine JX.region ?_
        refine JL.val (yl_add rfl rfl) rfl ?_
        refine JL.val (yl_move rfl) rfl ?_
        refine JL.nil ?_
        refine JE.cont hres ?_
        exact fun a w h => ⟨hi55, h.weak ⟨rfl, rfl, rfl, rfl, rfl, rfl, trivial⟩ [0, 1, 2, 3, 4] (by decide) rfl⟩
      · intro K
        rcases cond_some hj54 with ⟨hb, hres⟩ | ⟨hb, hres⟩
        · refine JX.condT rfl hb ?_
          refine JX.drawH [(0, .pure), (1, .pure), (2, .pure), (3, .read), (4, .pure), (5, .read0), (6, .pure), (7, .pure), (8, .read), (9, .pure), (10, .pure), (11, .pure), (12, .read), (13, .pure), (14, .read0), (15, .pure), (16, .pure), (17, .read), (18, .pure), (19, .must), (20, .must), (21, .must)] [19, 21] [1, 2] [0, 3, 4, 5] [rowT 104 eHd a13 b1.length cp14 hs15, innO 4 eBool none hs15 x45] [boxO 28 g1 [.int .i64 q0.W, .int .i64 q0.H, .slice a_0_2 q0.Breaks.length c_0_2], rowT 2 eI64 a36 x29.2.length cp37 x29.2, rowT 2 eI64 a51 x50.length cp52 x50, rowT 35 eSPoint a40 x39.length cp41 x39] mixedP (by kernel_rfl) (by kernel_rfl) (by decide) rfl rfl ?_
          intro wrr56 Nr56 hFr56
          refine JH.pure rfl (yl_move rfl) rfl ?_
          refine JH.pure rfl (yl_move rfl) rfl ?_
          obtain ⟨x57, hx57, hres⟩ := bind_some hres
          refine JH.pure rfl (yl_idxQ Go.Proofs.Try.underlying22 i2 i2s rfl rfl hx57 rfl (rd_row hFr56.cl 4 rfl) rfl) rfl ?_
          refine JH.read rfl (yl_loadT0 Go.Proofs.Try.underlying2 rfl rfl hx57 (fun w hw => hFr56.row 4 rfl rfl hw) rfl) rfl ?_
          obtain ⟨x58, hx58, hres⟩ := bind_some hres
          obtain ⟨ha59, hc60, hhx58⟩ := Inn.sub hi46 hx58
          refine JH.pure rfl (yl_idxQ Go.Proofs.Try.underlying99 i104 i104s rfl rfl hhx58 (Inn.len hi28) (rd_row hFr56.cl 1 rfl) (Inn.len hi28)) rfl ?_
          refine JH.read0 rfl (yl_loadT0 (z := ⟨ha59, x58.length, hc60⟩) Go.Proofs.Try.underlying104 rfl rfl hhx58 (fun w hw => (rd_row hFr56.cl 1 rfl).bw hw) rfl) rfl ?_
          refine JH.pure rfl (yl_move rfl) rfl ?_
          obtain ⟨x62, hx62, hres⟩ := bind_some hres
          refine JH.pure rfl (yl_idxQ Go.Proofs.Try.underlying22 i2 i2s rfl rfl hx62 rfl (rd_row hFr56.cl 4 rfl) rfl) rfl ?_
          refine JH.read rfl (yl_loadT0 Go.Proofs.Try.underlying2 rfl rfl hx62 (fun w hw => hFr56.row 4 rfl rfl hw) rfl) rfl ?_
          refine JH.pure rfl (yl_move rfl) rfl ?_
          refine JH.pure rfl (yl_move rfl) rfl ?_
          obtain ⟨x63, hx63, hres⟩ := bind_some hres
          refine JH.pure rfl (yl_idxQ Go.Proofs.Try.underlying22 i2 i2s rfl rfl hx63 rfl (rd_row hFr56.cl 4 rfl) rfl) rfl ?_
          refine JH.read rfl (yl_loadT0 Go.Proofs.Try.underlying2 rfl rfl hx63 (fun w hw => hFr56.row 4 rfl rfl hw) rfl) rfl ?_
          obtain ⟨x64, hx64, hres⟩ := bind_some hres
          obtain ⟨ha65, hc66, hhx64⟩ := Inn.sub hi46 hx64
          refine JH.pure rfl (yl_idxQ Go.Proofs.Try.underlying99 i104 i104s rfl rfl hhx64 (Inn.len hi28) (rd_row hFr56.cl 1 rfl) (Inn.len hi28)) rfl ?_
          refine JH.read0 rfl (yl_loadT0 (z := ⟨ha65, x64.length, hc66⟩) Go.Proofs.Try.underlying104 rfl rfl hhx64 (fun w hw => (rd_row hFr56.cl 1 rfl).bw hw) rfl) rfl ?_
          refine JH.pure rfl (yl_move rfl) rfl ?_
          obtain ⟨x68, hx68, hres⟩ := bind_some hres
          refine JH.pure rfl (yl_idxQ Go.Proofs.Try.underlying22 i2 i2s rfl rfl hx68 rfl (rd_row hFr56.cl 4 rfl) rfl) rfl ?_
          refine JH.read rfl (yl_loadT0 Go.Proofs.Try.underlying2 rfl rfl hx68 (fun w hw => hFr56.row 4 rfl rfl hw) rfl) rfl ?_
          obtain ⟨x69, hx69, hres⟩ := bind_some hres
          refine JH.pure rfl (yl_idxQ Go.Proofs.Try.underlying104 i4 i4s rfl rfl hx69 rfl (RdI.sub (rd_inn hFr56.cl 2 rfl) hx58 hhx58) rfl) rfl ?_
          refine JH.focus (es' := [rowT 104 eHd a13 b1.length cp14 hs15]) [0, 1] (by decide) rfl hhx58 hx58 ?_
          refine JH.must rfl (ef_storeT (ix := 2) (u := true) i4 i4s rfl rfl rfl hx69 rfl) rfl rfl ?_
          rintro _ _ rfl
          refine JH.unfocus0 (es' := [rowT 104 eHd a13 b1.length cp14 hs15]) [0, 1, 2] (by decide) rfl hhx58 ?_
          obtain ⟨x71, hx71, hres⟩ := bind_some hres
          obtain ⟨_, _, hqx71⟩ := Inn.sub (Inn.set0 hi46 hx58 List.length_set) hx71
          have hlx71 : x71.length = x64.length := by have := (Option.some.inj (hqx71.symm.trans hhx64)); simpa using congrArg Hd.n this
          obtain ⟨x72, hx72, hres⟩ := bind_some hres
          refine JH.mval rfl (yl_idxT Go.Proofs.Try.underlying104 i4 i4s rfl rfl hx72 hlx71 (fun w hC => (RdI.sub (rd_inn hC 1 rfl) hx71 hhx64))) rfl ?_
          refine JH.focus (es' := [rowT 104 eHd a13 b1.length cp14 hs15]) [0, 1] (by decide) rfl hhx64 hx71 ?_
          refine JH.must rfl (ef_storeT (ix := 2) (u := true) i4 i4s rfl rfl rfl hx72 rfl) rfl rfl ?_
          rintro _ _ rfl
          refine JH.unfocus0 (es' := [rowT 104 eHd a13 b1.length cp14 hs15]) [0, 1, 2] (by decide) rfl hhx64 ?_
          refine JH.nil ?_
          refine JE.weak (env' := [(1, ptrAt (some ⟨g1, 0, none⟩) 0), (3, .slice a13 b1.length cp14), (6, .slice a36 x29.2.length cp37), (28, .slice a40 x39.length cp41), (29, .int .i64 (x39.length : Int)), (30, .int .i64 x44)]) (es' := [boxO 28 g1 [.int .i64 q0.W, .int .i64 q0.H, .slice a_0_2 q0.Breaks.length c_0_2], rowT 104 eHd a13 b1.length cp14 hs15, innO 4 eBool none hs15 ((x45.set (x57).toNat (x58.set (x62).toNat true)).set (x63).toNat (x71.set (x68).toNat true)), rowT 2 eI64 a36 x29.2.length cp37 x29.2, rowT 35 eSPoint a40 x39.length cp41 x39]) [0, 4, 5, 1, 3] ?_ ⟨rfl, rfl, rfl, rfl, rfl, rfl, trivial⟩ (by decide) rfl
          have hj := Option.some.inj hres
          exact JE.weak [0, 1, 2, 3, 4] (K (by subst hj; exact (Inn.set0 (Inn.set0 hi46 hx58 List.length_set) hx71 ((List.length_set.trans hlx71).trans hlx71.symm)))) ⟨(by subst hj; rfl), (by subst hj; rfl), (by subst hj; rfl), (by subst hj; rfl), (by subst hj; rfl), (by subst hj; rfl), trivial⟩ (by decide) (by subst hj; rfl)
        · refine JX.condF rfl hb ?_
          refine JX.skip ?_
          have hj := Option.some.inj hres
          exact JE.weak [0, 1, 2, 3, 5] (K (by subst hj; exact hi46)) ⟨(by subst hj; rfl), (by subst hj; rfl), (by subst hj; rfl), (by subst hj; rfl), (by subst hj; rfl), (by subst hj; rfl), trivial⟩ (by decide) (by subst hj; rfl)
    · refine JX.condF rfl hb ?_
      refine JX.exit ?_
      refine JE.qb rfl ?_
      obtain ⟨b2, hb2⟩ : ∃ b : List (List Bool), b = x45 := ⟨_, rfl⟩
      have hy2 : b2 = y2 := by rw [hb2]; exact hox2 _ (Option.some.inj hres).symm
      have hres := hresO2
      rw [← hy2] at hres
      have hi74 : Inn hs15 b2 := by subst hb2; exact hi46
      refine JE.weak (env' := [(3, .slice a13 b1.length cp14)]) (es' := [rowT 104 eHd a13 b1.length cp14 hs15, innO 4 eBool none hs15 b2]) [1, 2] ?_ ⟨(by subst hb2; rfl), trivial⟩ (by decide) (by subst hb2; rfl)
      refine JE.code ?_
      refine JX.seq ?_
      refine JX.region ?_
      refine JL.val (yl_move rfl) rfl ?_
      refine JL.val (yl_assign rfl) rfl ?_
      refine JL.nil ?_
      refine JE.code ?_
      refine JX.ret ?_
      obtain rfl := Option.some.inj hres
      refine JE.ret (rs := [.tmp 2]) (vs := [.slice a13 b1.length cp14]) rfl ⟨rfl, trivial⟩ ?_
      exact fun w' hb hs => ⟨_, _, ⟨a13, b1.length, cp14, hs15, ((Inn.len hi74).symm.trans (Inn.len hi28)), hi74, rfl, rfl⟩, rfl, hb, hs.sel [0, 1] _ (by decide) rfl⟩

/- impl.IsColouring -/
def sh33_2 (q1 : List Int) (x13 : Int) (x14 : List Bool) : Int → Option (Int ⊕ (Unit ⊕ Bool))
  | x18 => bif decide (x18 < (x14.length : Int)) then (Option.bind (getI x14 x18) fun x19 => Option.bind (bif x19 then (Option.bind (getI q1 x13) fun x22 => Option.bind (getI q1 x18) fun x23 => some (x22 == x23)) else (some false)) fun cb21 => (bif cb21 then (some (.inr (.inr false))) else (some (.inl (w64 (x18 + 1)))))) else (some (.inr (.inl ())))
def sh33_1 (q1 : List Int) (x6 : List (List Bool)) : Int → Option (Int ⊕ (Unit ⊕ Bool))
  | x13 => bif decide (x13 < ((x6.length : Nat) : Int)) then (Option.bind (getI x6 x13) fun x14 => Option.bind (iter (sh33_2 q1 x13 x14) 0) fun y2 => elimS y2 (fun r => some (.inr (.inr r))) fun b2 => (some (.inl (w64 (x13 + 1))))) else (some (.inr (.inl ())))
def sh33 (q0 : SPanel) (q1 : List Int) : Option (Bool) := Option.bind (sh86 q0) fun x3 => Option.bind (bif !x3 then (some true) else (Option.bind (sh97 q0 q1) fun x5 => some !x5)) fun cb4 => (bif cb4 then (some false) else (Option.bind (sh98 q0) fun x6 => Option.bind (iter (sh33_1 q1 x6) 0) fun y1 => elimS y1 (fun r => some r) fun b1 => (some true)))
def T33 (r : Bool) (v : Value) (rs : List Own) : Prop := v = rets [.bool r] ∧ rs = []
set_option maxRecDepth 100000 in
theorem c33 {w : World} {q0 : SPanel} {a_0_2 : Option Addr} {n_0_2 c_0_2 : Nat} (g_0_2 : Rd w a_0_2 (eI64.fl q0.Breaks)) (l_0_2 : q0.Breaks.length = n_0_2) (k_0_2 : n_0_2 ≤ c_0_2) {q1 : List Int} {a_1 : Option Addr} {n_1 c_1 : Nat} (g_1 : Rd w a_1 (eI64.fl q1)) (l_1 : q1.length = n_1) (k_1 : n_1 ≤ c_1) {r : Bool} (hres : sh33 q0 q1 = some r) : Calls Go.Proofs.Try.prog 33 [.agg #[.int .i64 q0.W, .int .i64 q0.H, .slice a_0_2 n_0_2 c_0_2], .slice a_1 n_1 c_1].toArray w (Ret w (T33 r)) := by
  subst l_0_2
  subst l_1
  unfold sh33 at hres
  refine calls_of (n := 47) (M := []) (es := []) Go.Proofs.Try.func33 rfl rfl rfl (Sep.nil _ _ _) ?_
  refine JX.seq ?_
  refine JX.region ?_
  refine JL.eff (ef_box rfl rfl) rfl ?_
  rintro _ _ ⟨g1, rfl, rfl⟩
  refine JL.val (yl_assign rfl) rfl ?_
  refine JL.nil ?_
  refine JE.code ?_
  refine JX.seq ?_
  refine JX.seq ?_
  refine JX.region ?_
  refine JL.val (yl_loadn Go.Proofs.Try.underlying28 rfl i28 rfl (fun w hC => rd_box hC 0 rfl) rfl (i28s).symm i28p) rfl ?_
  obtain ⟨x3, hx3, hres⟩ := bind_some hres
  refine JL.eff (ef_call (vs := [.agg #[.int .i64 q0.W, .int .i64 q0.H, .slice a_0_2 q0.Breaks.length c_0_2]]) (T := T86 x3) Go.Proofs.Try.func86 rfl (by kernel_rfl) rfl (fun w hC => c86 (q0 := q0) (rd_arg g_0_2 hC) rfl k_0_2 hx3)) rfl ?_
  rintro _ _ ⟨_, ⟨rfl, rfl⟩, rfl⟩
  refine JL.val (yl_not rfl) rfl ?_
  refine JL.val (yl_move rfl) rfl ?_
  obtain ⟨cb4, hcb4, hres⟩ := bind_some hres
  refine JL.cut (K := fun J => J [(1, .slice a_1 q1.length c_1), (2, ptrAt (some ⟨g1, 0, none⟩) 0), (17, .bool cb4)] [boxO 28 g1 [.int .i64 q0.W, .int .i64 q0.H, .slice a_0_2 q0.Breaks.length c_0_2]]) 5 ?_ ?_
  · refine JL.nil ?_
    refine JE.weak (env' := [(1, .slice a_1 q1.length c_1), (2, ptrAt (some ⟨g1, 0, none⟩) 0), (17, .bool cb4)]) (es' := [boxO 28 g1 [.int .i64 q0.W, .int .i64 q0.H, .slice a_0_2 q0.Breaks.length c_0_2]]) [0] ?_ ⟨rfl, rfl, rfl, trivial⟩ (by decide) rfl
    refine JE.code ?_
    rcases cond_some hres with ⟨hb, hres⟩ | ⟨hb, hres⟩
    · refine JX.condT rfl hb ?_
      refine JX.seq ?_
      refine JX.region ?_
      refine JL.val (yl_assign rfl) rfl ?_
      refine JL.nil ?_
      refine JE.weak (env' := [(4, .bool false)]) (es' := []) [] ?_ ⟨rfl, trivial⟩ (by decide) rfl
      refine JE.code ?_
      refine JX.ret ?_
      obtain rfl := Option.some.inj hres
      refine JE.ret (rs := [.tmp 4]) (vs := [.bool false]) rfl ⟨rfl, trivial⟩ ?_
      exact fun w' hb hs => ⟨_, _, ⟨rfl, rfl⟩, rfl, hb, hs.sel [] _ (by decide) rfl⟩
    · refine JX.condF rfl hb ?_
      refine JX.skip ?_
      refine JE.code ?_
      refine JX.seq ?_
      refine JX.seq ?_
      refine JX.region ?_
      refine JL.val (yl_loadn Go.Proofs.Try.underlying28 rfl i28 rfl (fun w hC => rd_box hC 0 rfl) rfl (i28s).symm i28p) rfl ?_
      obtain ⟨x6, hx6, hres⟩ := bind_some hres
      refine JL.eff (ef_call (vs := [.agg #[.int .i64 q0.W, .int .i64 q0.H, .slice a_0_2 q0.Breaks.length c_0_2]]) (T := T98 x6) Go.Proofs.Try.func98 rfl (by kernel_rfl) rfl (fun w hC => c98 (q0 := q0) (rd_arg g_0_2 hC) rfl k_0_2 hx6)) rfl ?_
      rintro _ _ ⟨_, ⟨a7, _, cp8, hs10, rfl, hi11, rfl, rfl⟩, rfl⟩
      refine JL.val (yl_len_slice Go.Proofs.Try.underlying99 rfl) rfl ?_
      refine JL.val (yl_move rfl) rfl ?_
      refine JL.nil ?_
      refine JE.weak (env' := [(1, .slice a_1 q1.length c_1), (19, .slice a7 x6.length cp8), (20, .int .i64 ((x6.length : Nat) : Int)), (21, .int .i64 0)]) (es' := [rowT 104 eHd a7 x6.length cp8 hs10, innO 4 eBool none hs10 x6]) [1, 2] ?_ ⟨rfl, rfl, rfl, rfl, trivial⟩ (by decide) rfl
      refine JE.code ?_
      refine JX.block ?_
      obtain ⟨y1, hy1, hresO1⟩ := bind_some hres
      refine JX.loop (I := fun (s1 : Int) aa ww => St w [] 47 [(1, .slice a_1 q1.length c_1), (19, .slice a7 x6.length cp8), (20, .int .i64 ((x6.length : Nat) : Int)), (21, .int .i64 s1)] [rowT 104 eHd a7 x6.length cp8 hs10, innO 4 eBool none hs10 x6] aa ww) (sh33_1 q1 x6) hy1 (fun a w h => h.weak ⟨rfl, rfl, rfl, rfl, trivial⟩ [0, 1] (by decide) rfl) ?_
      rintro x13 o1 hres hox1 aa ww hS
      refine (?_ : JX Go.Proofs.Try.prog w [] 47 _ _ [(1, .slice a_1 q1.length c_1), (19, .slice a7 x6.length cp8), (20, .int .i64 ((x6.length : Nat) : Int)), (21, .int .i64 x13)] [rowT 104 eHd a7 x6.length cp8 hs10, innO 4 eBool none hs10 x6] _) aa ww hS
      clear hS
      unfold sh33_1 at hres
      refine JX.seq ?_
      refine JX.region ?_
      refine JL.val (yl_lss rfl rfl) rfl ?_
      refine JL.nil ?_
      refine JE.code ?_
      refine JX.seq ?_
      rcases cond_some hres with ⟨hb, hres⟩ | ⟨hb, hres⟩
      · refine JX.condT rfl hb ?_
        refine JX.skip ?_
        refine JE.code ?_
        refine JX.seq ?_
        refine JX.block ?_
        refine JX.seq ?_
        refine JX.region ?_
        refine JL.val (yl_move rfl) rfl ?_
        obtain ⟨x14, hx14, hres⟩ := bind_some hres
        obtain ⟨ha15, hc16, hhx14⟩ := Inn.sub hi11 hx14
        refine JL.val (yl_idxT Go.Proofs.Try.underlying99 i104 i104s rfl rfl hhx14 (Inn.len hi11) (fun w hC => rd_row hC 0 rfl)) rfl ?_
        refine JL.val (yl_loadT0 (z := ⟨ha15, x14.length, hc16⟩) Go.Proofs.Try.underlying104 rfl rfl hhx14 (fun w hC => rd_row hC 0 rfl) rfl) rfl ?_
        refine JL.val (yl_assign rfl) rfl ?_
        refine JL.val (yl_assign rfl) rfl ?_
        refine JL.nil ?_
        refine JE.weak (env' := [(1, .slice a_1 q1.length c_1), (5, .int .i64 x13), (6, .slice ha15 x14.length hc16), (19, .slice a7 x6.length cp8), (20, .int .i64 ((x6.length : Nat) : Int)), (21, .int .i64 x13)]) (es' := [rowT 104 eHd a7 x6.length cp8 hs10, innO 4 eBool none hs10 x6]) [0, 1] ?_ ⟨rfl, rfl, rfl, rfl, rfl, rfl, trivial⟩ (by decide) rfl
        refine JE.code ?_
        refine JX.seq ?_
        refine JX.region ?_
        refine JL.val (yl_move rfl) rfl ?_
        refine JL.val (yl_len_slice Go.Proofs.Try.underlying104 rfl) rfl ?_
        refine JL.val (yl_move rfl) rfl ?_
        refine JL.nil ?_
        refine JE.code ?_
        refine JX.block ?_
        obtain ⟨y2, hy2, hresO2⟩ := bind_some hres
        refine JX.loop (I := fun (s2 : Int) aa ww => St w [] 47 [(1, .slice a_1 q1.length c_1), (5, .int .i64 x13), (19, .slice a7 x6.length cp8), (20, .int .i64 ((x6.length : Nat) : Int)), (21, .int .i64 x13), (26, .slice ha15 x14.length hc16), (27, .int .i64 (x14.length : Int)), (28, .int .i64 s2)] [rowT 104 eHd a7 x6.length cp8 hs10, innO 4 eBool none hs10 x6] aa ww) (sh33_2 q1 x13 x14) hy2 (fun a w h => h.weak ⟨rfl, rfl, rfl, rfl, rfl, rfl, rfl, rfl, trivial⟩ [0, 1] (by decide) rfl) ?_
        rintro x18 o2 hres hox2 aa ww hS
        refine (?_ : JX Go.Proofs.Try.prog w [] 47 _ _ [(1, .slice a_1 q1.length c_1), (5, .int .i64 x13), (19, .slice a7 x6.length cp8), (20, .int .i64 ((x6.length : Nat) : Int)), (21, .int .i64 x13), (26, .slice ha15 x14.length hc16), (27, .int .i64 (x14.length : Int)), (28, .int .i64 x18)] [rowT 104 eHd a7 x6.length cp8 hs10, innO 4 eBool none hs10 x6] _) aa ww hS
        clear hS
        unfold sh33_2 at hres
        refine JX.seq ?_
        refine JX.region ?_
        refine JL.val (yl_lss rfl rfl) rfl ?_
        refine JL.nil ?_
        refine JE.code ?_
        refine JX.seq ?_
        rcases cond_some hres with ⟨hb, hres⟩ | ⟨hb, hres⟩
        · refine JX.condT rfl hb ?_
          refine JX.skip ?_
          refine JE.code ?_
          refine JX.seq ?_
          refine JX.block ?_
          refine JX.seq ?_
          refine JX.region ?_
          refine JL.val (yl_move rfl) rfl ?_
          obtain ⟨x19, hx19, hres⟩ := bind_some hres
          refine JL.val (yl_idxT Go.Proofs.Try.underlying104 i4 i4s rfl rfl hx19 rfl (fun w hC => (RdI.sub (rd_inn hC 1 rfl) hx14 hhx14))) rfl ?_
          refine JL.val (yl_loadT0 Go.Proofs.Try.underlying4 rfl rfl hx19 (fun w hC => (RdI.sub (rd_inn hC 1 rfl) hx14 hhx14)) rfl) rfl ?_
          refine JL.val (yl_assign rfl) rfl ?_
          refine JL.val (yl_assign rfl) rfl ?_
          refine JL.nil ?_
          refine JE.weak (env' := [(1, .slice a_1 q1.length c_1), (5, .int .i64 x13), (7, .int .i64 x18), (8, .bool x19), (19, .slice a7 x6.length cp8), (20, .int .i64 ((x6.length : Nat) : Int)), (21, .int .i64 x13), (26, .slice ha15 x14.length hc16), (27, .int .i64 (x14.length : Int)), (28, .int .i64 x18)]) (es' := [rowT 104 eHd a7 x6.length cp8 hs10, innO 4 eBool none hs10 x6]) [0, 1] ?_ ⟨rfl, rfl, rfl, rfl, rfl, rfl, rfl, rfl, rfl, rfl, trivial⟩ (by decide) rfl
          refine JE.code ?_
          refine JX.seq ?_
          refine JX.drawH [(0, .pure), (1, .pure), (2, .pure), (3, .pure), (4, .pure), (5, .read), (6, .pure), (7, .pure), (8, .pure), (9, .read), (10, .pure), (11, .pure)] [] [] [0, 1] [] [rowT 104 eHd a7 x6.length cp8 hs10, innO 4 eBool none hs10 x6] mixedP (by kernel_rfl) (by kernel_rfl) (by decide) rfl rfl ?_
          intro wrr20 Nr20 hFr20
          refine JH.pure rfl (yl_move rfl) rfl ?_
          refine JH.pure rfl (yl_move rfl) rfl ?_
          obtain ⟨cb21, hcb21, hres⟩ := bind_some hres
          refine JH.cut (K := fun J => J [(1, .slice a_1 q1.length c_1), (5, .int .i64 x13), (19, .slice a7 x6.length cp8), (20, .int .i64 ((x6.length : Nat) : Int)), (21, .int .i64 x13), (26, .slice ha15 x14.length hc16), (27, .int .i64 (x14.length : Int)), (28, .int .i64 x18), (44, .bool cb21)] []) 10 ?_ ?_
          · refine JH.nil ?_
            refine JE.weak (env' := [(1, .slice a_1 q1.length c_1), (5, .int .i64 x13), (19, .slice a7 x6.length cp8), (20, .int .i64 ((x6.length : Nat) : Int)), (21, .int .i64 x13), (26, .slice ha15 x14.length hc16), (27, .int .i64 (x14.length : Int)), (28, .int .i64 x18), (44, .bool cb21)]) (es' := [rowT 104 eHd a7 x6.length cp8 hs10, innO 4 eBool none hs10 x6]) [0, 1] ?_ ⟨rfl, rfl, rfl, rfl, rfl, rfl, rfl, rfl, rfl, trivial⟩ (by decide) rfl
            refine JE.code ?_
            rcases cond_some hres with ⟨hb, hres⟩ | ⟨hb, hres⟩
            · refine JX.condT rfl hb ?_
              refine JX.seq ?_
              refine JX.region ?_
              refine JL.val (yl_assign rfl) rfl ?_
              refine JL.nil ?_
              refine JE.weak (env' := [(4, .bool false)]) (es' := []) [] ?_ ⟨rfl, trivial⟩ (by decide) rfl
              refine JE.code ?_
              refine JX.ret ?_
              refine JE.qbr ?_
              refine JE.qbr ?_
              refine JE.qbr ?_
              refine JE.qbr ?_
              have hres := elimS_inr hresO2 (hox2 _ (Option.some.inj hres).symm)
              have hres := elimS_inr hresO1 (hox1 _ (Option.some.inj hres).symm)
              obtain rfl := Option.some.inj hres
              refine JE.ret (rs := [.tmp 4]) (vs := [.bool false]) rfl ⟨rfl, trivial⟩ ?_
              exact fun w' hb hs => ⟨_, _, ⟨rfl, rfl⟩, rfl, hb, hs.sel [] _ (by decide) rfl⟩
            · refine JX.condF rfl hb ?_
              refine JX.skip ?_
              refine JE.code ?_
              refine JX.region ?_
              refine JL.val (yl_add rfl rfl) rfl ?_
              refine JL.val (yl_move rfl) rfl ?_
              refine JL.nil ?_
              refine JE.cont hres ?_
              exact fun a w h => h.weak ⟨rfl, rfl, rfl, rfl, rfl, rfl, rfl, rfl, trivial⟩ [0, 1] (by decide) rfl
          · intro K
            rcases cond_some hcb21 with ⟨hb, hres⟩ | ⟨hb, hres⟩
            · refine JH.set (d := 34) (v := .bool true) (congrArg (fun b => some (Value.bool b)) hb) ?_
              refine JH.gpure rfl rfl rfl (yl_move rfl) rfl ?_
              refine JH.gpure rfl rfl rfl (yl_move rfl) rfl ?_
              obtain ⟨x22, hx22, hres⟩ := bind_some hres
              refine JH.gpure rfl rfl rfl (yl_idxQ Go.Proofs.Try.underlying22 i2 i2s rfl rfl hx22 rfl (rd_arg g_1 hFr20.cl) rfl) rfl ?_
              refine JH.gread rfl rfl rfl (yl_loadT0 Go.Proofs.Try.underlying2 rfl rfl hx22 (fun w hw => hFr20.arg g_1 hw) rfl) rfl ?_
              refine JH.gpure rfl rfl rfl (yl_move rfl) rfl ?_
              refine JH.gpure rfl rfl rfl (yl_move rfl) rfl ?_
              obtain ⟨x23, hx23, hres⟩ := bind_some hres
              refine JH.gpure rfl rfl rfl (yl_idxQ Go.Proofs.Try.underlying22 i2 i2s rfl rfl hx23 rfl (rd_arg g_1 hFr20.cl) rfl) rfl ?_
              refine JH.gread rfl rfl rfl (yl_loadT0 Go.Proofs.Try.underlying2 rfl rfl hx23 (fun w hw => hFr20.arg g_1 hw) rfl) rfl ?_
              refine JH.gpure rfl rfl rfl (yl_eql rfl rfl) rfl ?_
              refine JH.pure rfl (yl_pick_true rfl rfl) rfl ?_
              have he := Option.some.inj hres
              exact JH.weak [] K ⟨rfl, rfl, rfl, rfl, rfl, rfl, rfl, rfl, (by rw [← he]; rfl), trivial⟩ (by decide) rfl
            · refine JH.set (d := 34) (v := .bool false) (congrArg (fun b => some (Value.bool b)) hb) ?_
              refine JH.gskip rfl rfl rfl rfl rfl rfl ?_
              refine JH.gskip rfl rfl rfl rfl rfl rfl ?_
              refine JH.gskip rfl rfl rfl rfl rfl rfl ?_
              refine JH.gskip rfl rfl rfl rfl rfl rfl ?_
              refine JH.gskip rfl rfl rfl rfl rfl rfl ?_
              refine JH.gskip rfl rfl rfl rfl rfl rfl ?_
              refine JH.gskip rfl rfl rfl rfl rfl rfl ?_
              refine JH.gskip rfl rfl rfl rfl rfl rfl ?_
              refine JH.gskip rfl rfl rfl rfl rfl rfl ?_
              refine JH.pure rfl (yl_pick_false rfl rfl) rfl ?_
              have he := Option.some.inj hres
              exact JH.weak [] K ⟨rfl, rfl, rfl, rfl, rfl, rfl, rfl, rfl, (by rw [← he]; rfl), trivial⟩ (by decide) rfl
        · refine JX.condF rfl hb ?_
          refine JX.exit ?_
          refine JE.qb rfl ?_
          obtain ⟨b2, hb2⟩ : ∃ b : Unit, b = () := ⟨_, rfl⟩
          have hy2 : Sum.inl b2 = y2 := by rw [hb2]; exact hox2 _ (Option.some.inj hres).symm
          have hres := elimS_inl hresO2 hy2
          refine JE.weak (env' := [(1, .slice a_1 q1.length c_1), (19, .slice a7 x6.length cp8), (20, .int .i64 ((x6.length : Nat) : Int)), (21, .int .i64 x13)]) (es' := [rowT 104 eHd a7 x6.length cp8 hs10, innO 4 eBool none hs10 x6]) [0, 1] ?_ ⟨(by subst hb2; rfl), (by subst hb2; rfl), (by subst hb2; rfl), (by subst hb2; rfl), trivial⟩ (by decide) (by subst hb2; rfl)
          refine JE.code ?_
          refine JX.region ?_
          refine JL.val (yl_add rfl rfl) rfl ?_
          refine JL.val (yl_move rfl) rfl ?_
          refine JL.nil ?_
          refine JE.cont hres ?_
          exact fun a w h => h.weak ⟨rfl, rfl, rfl, rfl, trivial⟩ [0, 1] (by decide) rfl
      · refine JX.condF rfl hb ?_
        refine JX.exit ?_
        refine JE.qb rfl ?_
        obtain ⟨b1, hb1⟩ : ∃ b : Unit, b = () := ⟨_, rfl⟩
        have hy1 : Sum.inl b1 = y1 := by rw [hb1]; exact hox1 _ (Option.some.inj hres).symm
        have hres := elimS_inl hresO1 hy1
        refine JE.weak (env' := []) (es' := []) [] ?_ trivial (by decide) (by subst hb1; rfl)
        refine JE.code ?_
        refine JX.seq ?_
        refine JX.region ?_
        refine JL.val (yl_assign rfl) rfl ?_
        refine JL.nil ?_
        refine JE.code ?_
        refine JX.ret ?_
        obtain rfl := Option.some.inj hres
        refine JE.ret (rs := [.tmp 4]) (vs := [.bool true]) rfl ⟨rfl, trivial⟩ ?_
        exact fun w' hb hs => ⟨_, _, ⟨rfl, rfl⟩, rfl, hb, hs.sel [] _ (by decide) rfl⟩
  · intro K
    rcases cond_some hcb4 with ⟨hb, hres⟩ | ⟨hb, hres⟩
    · refine JL.set (d := 12) (v := .bool true) (congrArg (fun b => some (Value.bool b)) hb) ?_
      refine JL.gskip rfl rfl rfl rfl ?_
      refine JL.gskip rfl rfl rfl rfl ?_
      refine JL.gskip rfl rfl rfl rfl ?_
      refine JL.gskip rfl rfl rfl rfl ?_
      refine JL.val (yl_pick_true rfl rfl) rfl ?_
      have he := Option.some.inj hres
      exact JL.weak [0] K ⟨rfl, rfl, (by rw [← he]; rfl), trivial⟩ (by decide) rfl
    · refine JL.set (d := 12) (v := .bool false) (congrArg (fun b => some (Value.bool b)) hb) ?_
      refine JL.gval rfl rfl (yl_loadn Go.Proofs.Try.underlying28 rfl i28 rfl (fun w hC => rd_box hC 0 rfl) rfl (i28s).symm i28p) rfl ?_
      refine JL.gval rfl rfl (yl_move rfl) rfl ?_
      obtain ⟨x5, hx5, hres⟩ := bind_some hres
      refine JL.geff rfl rfl (ef_call (vs := [.agg #[.int .i64 q0.W, .int .i64 q0.H, .slice a_0_2 q0.Breaks.length c_0_2], .slice a_1 q1.length c_1]) (T := T97 x5) Go.Proofs.Try.func97 rfl (by kernel_rfl) rfl (fun w hC => c97 (q0 := q0) (rd_arg g_0_2 hC) rfl k_0_2 (rd_arg g_1 hC) rfl k_1 hx5)) rfl ?_
      rintro _ _ ⟨_, ⟨rfl, rfl⟩, rfl⟩
      refine JL.gval rfl rfl (yl_not rfl) rfl ?_
      refine JL.val (yl_pick_false rfl rfl) rfl ?_
      have he := Option.some.inj hres
      exact JL.weak [0] K ⟨rfl, rfl, (by rw [← he]; rfl), trivial⟩ (by decide) rfl

end Go.Sh
