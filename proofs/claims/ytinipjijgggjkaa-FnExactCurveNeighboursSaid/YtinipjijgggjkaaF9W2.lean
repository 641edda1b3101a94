/- Walks through functions that the law reaches, printed by program. -/
import Derived.Test.YtinipjijgggjkaaF9W1
set_option linter.unusedVariables false
set_option linter.unusedSimpArgs false
namespace Go.Sh
open Go Go.RowKit
/- impl.ValidPanel -/
def sh86_1 (q0 : SPanel) : Int → Option (Int ⊕ (Unit ⊕ Bool))
  | x7 => bif decide (x7 < (q0.Breaks.length : Int)) then (Option.bind (getI q0.Breaks x7) fun x8 => Option.bind (sh148 x8) fun x9 => bif !x9 then (some (.inr (.inr false))) else (some (.inl (w64 (x7 + 1))))) else (some (.inr (.inl ())))
def sh86 (q0 : SPanel) : Option (Bool) := Option.bind (sh146 q0.W q0.H) fun x4 => Option.bind (bif !x4 then (some true) else (Option.bind (sh147 q0.W q0.H) fun x6 => some ((q0.Breaks.length : Int) != x6))) fun cb5 => (bif cb5 then (some false) else (Option.bind (iter (sh86_1 q0) 0) fun y1 => elimS y1 (fun r => some r) fun b1 => (some true)))
def T86 (r : Bool) (v : Value) (rs : List Own) : Prop := v = rets [.bool r] ∧ rs = []
set_option maxRecDepth 100000 in
theorem c86 {w : World} {q0 : SPanel} {a_0_2 : Option Addr} {n_0_2 c_0_2 : Nat} (g_0_2 : Rd w a_0_2 (eI64.fl q0.Breaks)) (l_0_2 : q0.Breaks.length = n_0_2) (k_0_2 : n_0_2 ≤ c_0_2) {r : Bool} (hres : sh86 q0 = some r) : Calls Go.Proofs.Try.prog 86 [.agg #[.int .i64 q0.W, .int .i64 q0.H, .slice a_0_2 n_0_2 c_0_2]].toArray w (Ret w (T86 r)) := by
  subst l_0_2
  unfold sh86 at hres
  refine calls_of (n := 33) (M := []) (es := []) Go.Proofs.Try.func86 rfl rfl rfl (Sep.nil _ _ _) ?_
  refine JX.seq ?_
  refine JX.region ?_
  refine JL.eff (ef_box rfl rfl) rfl ?_
  rintro _ _ ⟨g1, rfl, rfl⟩
  refine JL.val (yl_assign rfl) rfl ?_
  refine JL.nil ?_
  refine JE.code ?_
  refine JX.seq ?_
  refine JX.seq ?_
  refine JX.drawH [(0, .pure), (1, .read), (2, .pure), (3, .read), (4, .must), (5, .pure), (6, .pure), (7, .pure), (8, .read), (9, .pure), (10, .pure), (11, .read), (12, .pure), (13, .read), (14, .must), (15, .pure), (16, .pure)] [] [] [0] [] [boxO 28 g1 [.int .i64 q0.W, .int .i64 q0.H, .slice a_0_2 q0.Breaks.length c_0_2]] mixedP (by kernel_rfl) (by kernel_rfl) (by decide) rfl rfl ?_
  intro wrr3 Nr3 hFr3
  refine JH.pure rfl (yl_fieldAt (a := some _) Go.Proofs.Try.underlying28 rfl i2 i2n rfl rfl) rfl ?_
  refine JH.read rfl (yl_load1 Go.Proofs.Try.underlying2 rfl rfl (fun w hw => hFr3.box 0 rfl rfl hw) rfl) rfl ?_
  refine JH.pure rfl (yl_fieldAt (a := some _) Go.Proofs.Try.underlying28 rfl i2 i2n rfl rfl) rfl ?_
  refine JH.read rfl (yl_load1 Go.Proofs.Try.underlying2 rfl rfl (fun w hw => hFr3.box 0 rfl rfl hw) rfl) rfl ?_
  obtain ⟨x4, hx4, hres⟩ := bind_some hres
  refine JH.must rfl (ef_call (T := T146 x4) Go.Proofs.Try.func146 rfl (by kernel_rfl) rfl (fun w hC => c146  hx4)) rfl rfl ?_
  rintro _ _ ⟨_, ⟨rfl, rfl⟩, rfl⟩
  refine JH.pure rfl (yl_not rfl) rfl ?_
  refine JH.pure rfl (yl_move rfl) rfl ?_
  obtain ⟨cb5, hcb5, hres⟩ := bind_some hres
  refine JH.cut (K := fun J => J [(1, ptrAt (some ⟨g1, 0, none⟩) 0), (21, .bool cb5)] []) 10 ?_ ?_
  · refine JH.nil ?_
    refine JE.weak (env' := [(1, ptrAt (some ⟨g1, 0, none⟩) 0), (21, .bool cb5)]) (es' := [boxO 28 g1 [.int .i64 q0.W, .int .i64 q0.H, .slice a_0_2 q0.Breaks.length c_0_2]]) [0] ?_ ⟨rfl, rfl, trivial⟩ (by decide) rfl
    refine JE.code ?_
    rcases cond_some hres with ⟨hb, hres⟩ | ⟨hb, hres⟩
    · refine JX.condT rfl hb ?_
      refine JX.seq ?_
      refine JX.region ?_
      refine JL.val (yl_assign rfl) rfl ?_
      refine JL.nil ?_
      refine JE.weak (env' := [(2, .bool false)]) (es' := []) [] ?_ ⟨rfl, trivial⟩ (by decide) rfl
      refine JE.code ?_
      refine JX.ret ?_
      obtain rfl := Option.some.inj hres
      refine JE.ret (rs := [.tmp 2]) (vs := [.bool false]) rfl ⟨rfl, trivial⟩ ?_
      exact fun w' hb hs => ⟨_, _, ⟨rfl, rfl⟩, rfl, hb, hs.sel [] _ (by decide) rfl⟩
    · refine JX.condF rfl hb ?_
      refine JX.skip ?_
      refine JE.code ?_
      refine JX.seq ?_
      refine JX.seq ?_
      refine JX.region ?_
      refine JL.val (yl_fieldAt (a := some _) Go.Proofs.Try.underlying28 rfl i22 i22n rfl rfl) rfl ?_
      refine JL.val (yl_load1 Go.Proofs.Try.underlying22 rfl rfl (fun w hC => rd_box hC 0 rfl) rfl) rfl ?_
      refine JL.val (yl_len_slice Go.Proofs.Try.underlying22 rfl) rfl ?_
      refine JL.val (yl_move rfl) rfl ?_
      refine JL.nil ?_
      refine JE.weak (env' := [(23, .slice a_0_2 q0.Breaks.length c_0_2), (24, .int .i64 (q0.Breaks.length : Int)), (25, .int .i64 0)]) (es' := []) [] ?_ ⟨rfl, rfl, rfl, trivial⟩ (by decide) rfl
      refine JE.code ?_
      refine JX.block ?_
      obtain ⟨y1, hy1, hresO1⟩ := bind_some hres
      refine JX.loop (I := fun (s1 : Int) aa ww => St w [] 33 [(23, .slice a_0_2 q0.Breaks.length c_0_2), (24, .int .i64 (q0.Breaks.length : Int)), (25, .int .i64 s1)] [] aa ww) (sh86_1 q0) hy1 (fun a w h => h.weak ⟨rfl, rfl, rfl, trivial⟩ [] (by decide) rfl) ?_
      rintro x7 o1 hres hox1 aa ww hS
      refine (?_ : JX Go.Proofs.Try.prog w [] 33 _ _ [(23, .slice a_0_2 q0.Breaks.length c_0_2), (24, .int .i64 (q0.Breaks.length : Int)), (25, .int .i64 x7)] [] _) aa ww hS
      clear hS
      unfold sh86_1 at hres
      refine JX.seq ?_
      refine JX.region ?_
      refine JL.val (yl_lss rfl rfl) rfl ?_
      refine JL.nil ?_
      refine JE.code ?_
      refine JX.seq ?_
      rcases cond_some hres with ⟨hb, hres⟩ | ⟨hb, hres⟩
      · refine JX.condT rfl hb ?_
        refine JX.skip ?_
        refine JE.code ?_
        refine JX.seq ?_
        refine JX.block ?_
        refine JX.seq ?_
        refine JX.region ?_
        obtain ⟨x8, hx8, hres⟩ := bind_some hres
        refine JL.val (yl_idxT Go.Proofs.Try.underlying22 i2 i2s rfl rfl hx8 rfl (fun w hC => rd_arg g_0_2 hC)) rfl ?_
        refine JL.val (yl_loadT0 Go.Proofs.Try.underlying2 rfl rfl hx8 (fun w hC => rd_arg g_0_2 hC) rfl) rfl ?_
        refine JL.val (yl_assign rfl) rfl ?_
        refine JL.nil ?_
        refine JE.code ?_
        refine JX.seq ?_
        refine JX.region ?_
        refine JL.val (yl_move rfl) rfl ?_
        obtain ⟨x9, hx9, hres⟩ := bind_some hres
        refine JL.eff (ef_call (T := T148 x9) Go.Proofs.Try.func148 rfl (by kernel_rfl) rfl (fun w hC => c148  hx9)) rfl ?_
        rintro _ _ ⟨_, ⟨rfl, rfl⟩, rfl⟩
        refine JL.val (yl_not rfl) rfl ?_
        refine JL.nil ?_
        refine JE.code ?_
        rcases cond_some hres with ⟨hb, hres⟩ | ⟨hb, hres⟩
        · refine JX.condT rfl hb ?_
          refine JX.seq ?_
          refine JX.region ?_
          refine JL.val (yl_assign rfl) rfl ?_
          refine JL.nil ?_
          refine JE.code ?_
          refine JX.ret ?_
          refine JE.qbr ?_
          refine JE.qbr ?_
          have hres := elimS_inr hresO1 (hox1 _ (Option.some.inj hres).symm)
          obtain rfl := Option.some.inj hres
          refine JE.ret (rs := [.tmp 2]) (vs := [.bool false]) rfl ⟨rfl, trivial⟩ ?_
          exact fun w' hb hs => ⟨_, _, ⟨rfl, rfl⟩, rfl, hb, hs.sel [] _ (by decide) rfl⟩
        · refine JX.condF rfl hb ?_
          refine JX.skip ?_
          refine JE.code ?_
          refine JX.region ?_
          refine JL.val (yl_add rfl rfl) rfl ?_
          refine JL.val (yl_move rfl) rfl ?_
          refine JL.nil ?_
          refine JE.cont hres ?_
          exact fun a w h => h.weak ⟨rfl, rfl, rfl, trivial⟩ [] (by decide) rfl
      · refine JX.condF rfl hb ?_
        refine JX.exit ?_
        refine JE.qb rfl ?_
        obtain ⟨b1, hb1⟩ : ∃ b : Unit, b = () := ⟨_, rfl⟩
        have hy1 : Sum.inl b1 = y1 := by rw [hb1]; exact hox1 _ (Option.some.inj hres).symm
        have hres := elimS_inl hresO1 hy1
        refine JE.weak (env' := []) (es' := []) [] ?_ trivial (by decide) (by subst hb1; rfl)
        refine JE.code ?_
        refine JX.seq ?_
        refine JX.region ?_
        refine JL.val (yl_assign rfl) rfl ?_
        refine JL.nil ?_
        refine JE.code ?_
        refine JX.ret ?_
        obtain rfl := Option.some.inj hres
        refine JE.ret (rs := [.tmp 2]) (vs := [.bool true]) rfl ⟨rfl, trivial⟩ ?_
        exact fun w' hb hs => ⟨_, _, ⟨rfl, rfl⟩, rfl, hb, hs.sel [] _ (by decide) rfl⟩
  · intro K
    rcases cond_some hcb5 with ⟨hb, hres⟩ | ⟨hb, hres⟩
    · refine JH.set (d := 11) (v := .bool true) (congrArg (fun b => some (Value.bool b)) hb) ?_
      refine JH.gskip rfl rfl rfl rfl rfl rfl ?_
      refine JH.gskip rfl rfl rfl rfl rfl rfl ?_
      refine JH.gskip rfl rfl rfl rfl rfl rfl ?_
      refine JH.gskip rfl rfl rfl rfl rfl rfl ?_
      refine JH.gskip rfl rfl rfl rfl rfl rfl ?_
      refine JH.gskip rfl rfl rfl rfl rfl rfl ?_
      refine JH.gskip rfl rfl rfl rfl rfl rfl ?_
      refine JH.gskip rfl rfl rfl rfl rfl rfl ?_
      refine JH.gskip rfl rfl rfl rfl rfl rfl ?_
      refine JH.pure rfl (yl_pick_true rfl rfl) rfl ?_
      have he := Option.some.inj hres
      exact JH.weak [] K ⟨rfl, (by rw [← he]; rfl), trivial⟩ (by decide) rfl
    · refine JH.set (d := 11) (v := .bool false) (congrArg (fun b => some (Value.bool b)) hb) ?_
      refine JH.gpure rfl rfl rfl (yl_fieldAt (a := some _) Go.Proofs.Try.underlying28 rfl i22 i22n rfl rfl) rfl ?_
      refine JH.gread rfl rfl rfl (yl_load1 Go.Proofs.Try.underlying22 rfl rfl (fun w hw => hFr3.box 0 rfl rfl hw) rfl) rfl ?_
      refine JH.gpure rfl rfl rfl (yl_len_slice Go.Proofs.Try.underlying22 rfl) rfl ?_
      refine JH.gpure rfl rfl rfl (yl_fieldAt (a := some _) Go.Proofs.Try.underlying28 rfl i2 i2n rfl rfl) rfl ?_
      refine JH.gread rfl rfl rfl (yl_load1 Go.Proofs.Try.underlying2 rfl rfl (fun w hw => hFr3.box 0 rfl rfl hw) rfl) rfl ?_
      refine JH.gpure rfl rfl rfl (yl_fieldAt (a := some _) Go.Proofs.Try.underlying28 rfl i2 i2n rfl rfl) rfl ?_
      refine JH.gread rfl rfl rfl (yl_load1 Go.Proofs.Try.underlying2 rfl rfl (fun w hw => hFr3.box 0 rfl rfl hw) rfl) rfl ?_
      obtain ⟨x6, hx6, hres⟩ := bind_some hres
      refine JH.gmust rfl rfl rfl (ef_call (T := T147 x6) Go.Proofs.Try.func147 rfl (by kernel_rfl) rfl (fun w hC => c147  hx6)) rfl rfl ?_
      rintro _ _ ⟨_, ⟨rfl, rfl⟩, rfl⟩
      refine JH.gpure rfl rfl rfl (yl_neq rfl rfl) rfl ?_
      refine JH.pure rfl (yl_pick_false rfl rfl) rfl ?_
      have he := Option.some.inj hres
      exact JH.weak [] K ⟨rfl, (by rw [← he]; rfl), trivial⟩ (by decide) rfl

/- impl.curveCode -/
def sh102_1 (q0 : SPanel) (q1 : List Int) : Int → Option (Int ⊕ (Unit ⊕ Int))
  | x4 => bif decide (x4 < (q1.length : Int)) then (Option.bind (getI q1 x4) fun x5 => Option.bind (sh118 q0) fun x6 => Option.bind (sh125 x5 0 (w64 (x6 - 1))) fun x7 => bif !x7 then (some (.inr (.inr 2))) else (some (.inl (w64 (x4 + 1))))) else (some (.inr (.inl ())))
def sh102 (q0 : SPanel) (q1 : List Int) : Option (Int) := Option.bind (sh86 q0) fun x3 => bif !x3 then (some 1) else (Option.bind (iter (sh102_1 q0 q1) 0) fun y1 => elimS y1 (fun r => some r) fun b1 => (some 0))
def T102 (r : Int) (v : Value) (rs : List Own) : Prop := v = rets [.int .i64 r] ∧ rs = []
set_option maxRecDepth 100000 in
theorem c102 {w : World} {q0 : SPanel} {a_0_2 : Option Addr} {n_0_2 c_0_2 : Nat} (g_0_2 : Rd w a_0_2 (eI64.fl q0.Breaks)) (l_0_2 : q0.Breaks.length = n_0_2) (k_0_2 : n_0_2 ≤ c_0_2) {q1 : List Int} {a_1 : Option Addr} {n_1 c_1 : Nat} (g_1 : Rd w a_1 (eI64.fl q1)) (l_1 : q1.length = n_1) (k_1 : n_1 ≤ c_1) {r : Int} (hres : sh102 q0 q1 = some r) : Calls Go.Proofs.Try.prog 102 [.agg #[.int .i64 q0.W, .int .i64 q0.H, .slice a_0_2 n_0_2 c_0_2], .slice a_1 n_1 c_1].toArray w (Ret w (T102 r)) := by
  subst l_0_2
  subst l_1
  unfold sh102 at hres
  refine calls_of (n := 23) (M := []) (es := []) Go.Proofs.Try.func102 rfl rfl rfl (Sep.nil _ _ _) ?_
  refine JX.seq ?_
  refine JX.region ?_
  refine JL.eff (ef_box rfl rfl) rfl ?_
  rintro _ _ ⟨g1, rfl, rfl⟩
  refine JL.val (yl_assign rfl) rfl ?_
  refine JL.nil ?_
  refine JE.code ?_
  refine JX.seq ?_
  refine JX.seq ?_
  refine JX.region ?_
  refine JL.val (yl_loadn Go.Proofs.Try.underlying28 rfl i28 rfl (fun w hC => rd_box hC 0 rfl) rfl (i28s).symm i28p) rfl ?_
  obtain ⟨x3, hx3, hres⟩ := bind_some hres
  refine JL.eff (ef_call (vs := [.agg #[.int .i64 q0.W, .int .i64 q0.H, .slice a_0_2 q0.Breaks.length c_0_2]]) (T := T86 x3) Go.Proofs.Try.func86 rfl (by kernel_rfl) rfl (fun w hC => c86 (q0 := q0) (rd_arg g_0_2 hC) rfl k_0_2 hx3)) rfl ?_
  rintro _ _ ⟨_, ⟨rfl, rfl⟩, rfl⟩
  refine JL.val (yl_not rfl) rfl ?_
  refine JL.nil ?_
  refine JE.code ?_
  rcases cond_some hres with ⟨hb, hres⟩ | ⟨hb, hres⟩
  · refine JX.condT rfl hb ?_
    refine JX.seq ?_
    refine JX.region ?_
    refine JL.val (yl_assign rfl) rfl ?_
    refine JL.nil ?_
    refine JE.weak (env' := [(4, .int .i64 1)]) (es' := []) [] ?_ ⟨rfl, trivial⟩ (by decide) rfl
    refine JE.code ?_
    refine JX.ret ?_
    obtain rfl := Option.some.inj hres
    refine JE.ret (rs := [.tmp 4]) (vs := [.int .i64 1]) rfl ⟨rfl, trivial⟩ ?_
    exact fun w' hb hs => ⟨_, _, ⟨rfl, rfl⟩, rfl, hb, hs.sel [] _ (by decide) rfl⟩
  · refine JX.condF rfl hb ?_
    refine JX.skip ?_
    refine JE.code ?_
    refine JX.seq ?_
    refine JX.seq ?_
    refine JX.region ?_
    refine JL.val (yl_move rfl) rfl ?_
    refine JL.val (yl_len_slice Go.Proofs.Try.underlying22 rfl) rfl ?_
    refine JL.val (yl_move rfl) rfl ?_
    refine JL.nil ?_
    refine JE.code ?_
    refine JX.block ?_
    obtain ⟨y1, hy1, hresO1⟩ := bind_some hres
    refine JX.loop (I := fun (s1 : Int) aa ww => St w [] 23 [(2, ptrAt (some ⟨g1, 0, none⟩) 0), (10, .slice a_1 q1.length c_1), (11, .int .i64 (q1.length : Int)), (12, .int .i64 s1)] [boxO 28 g1 [.int .i64 q0.W, .int .i64 q0.H, .slice a_0_2 q0.Breaks.length c_0_2]] aa ww) (sh102_1 q0 q1) hy1 (fun a w h => h.weak ⟨rfl, rfl, rfl, rfl, trivial⟩ [0] (by decide) rfl) ?_
    rintro x4 o1 hres hox1 aa ww hS
    refine (?_ : JX Go.Proofs.Try.prog w [] 23 _ _ [(2, ptrAt (some ⟨g1, 0, none⟩) 0), (10, .slice a_1 q1.length c_1), (11, .int .i64 (q1.length : Int)), (12, .int .i64 x4)] [boxO 28 g1 [.int .i64 q0.W, .int .i64 q0.H, .slice a_0_2 q0.Breaks.length c_0_2]] _) aa ww hS
    clear hS
    unfold sh102_1 at hres
    refine JX.seq ?_
    refine JX.region ?_
    refine JL.val (yl_lss rfl rfl) rfl ?_
    refine JL.nil ?_
    refine JE.code ?_
    refine JX.seq ?_
    rcases cond_some hres with ⟨hb, hres⟩ | ⟨hb, hres⟩
    · refine JX.condT rfl hb ?_
      refine JX.skip ?_
      refine JE.code ?_
      refine JX.seq ?_
      refine JX.block ?_
      refine JX.seq ?_
      refine JX.region ?_
      obtain ⟨x5, hx5, hres⟩ := bind_some hres
      refine JL.val (yl_idxT Go.Proofs.Try.underlying22 i2 i2s rfl rfl hx5 rfl (fun w hC => rd_arg g_1 hC)) rfl ?_
      refine JL.val (yl_loadT0 Go.Proofs.Try.underlying2 rfl rfl hx5 (fun w hC => rd_arg g_1 hC) rfl) rfl ?_
      refine JL.val (yl_assign rfl) rfl ?_
      refine JL.nil ?_
      refine JE.code ?_
      refine JX.seq ?_
      refine JX.region ?_
      refine JL.val (yl_move rfl) rfl ?_
      refine JL.val (yl_loadn Go.Proofs.Try.underlying28 rfl i28 rfl (fun w hC => rd_box hC 0 rfl) rfl (i28s).symm i28p) rfl ?_
      obtain ⟨x6, hx6, hres⟩ := bind_some hres
      refine JL.eff (ef_call (vs := [.agg #[.int .i64 q0.W, .int .i64 q0.H, .slice a_0_2 q0.Breaks.length c_0_2]]) (T := T118 x6) Go.Proofs.Try.func118 rfl (by kernel_rfl) rfl (fun w hC => c118 (q0 := q0) (rd_arg g_0_2 hC) rfl k_0_2 hx6)) rfl ?_
      rintro _ _ ⟨_, ⟨rfl, rfl⟩, rfl⟩
      refine JL.val (yl_sub rfl rfl) rfl ?_
      obtain ⟨x7, hx7, hres⟩ := bind_some hres
      refine JL.eff (ef_call (T := T125 x7) Go.Proofs.Try.func125 rfl (by kernel_rfl) rfl (fun w hC => c125  hx7)) rfl ?_
      rintro _ _ ⟨_, ⟨rfl, rfl⟩, rfl⟩
      refine JL.val (yl_not rfl) rfl ?_
      refine JL.nil ?_
      refine JE.weak (env' := [(2, ptrAt (some ⟨g1, 0, none⟩) 0), (10, .slice a_1 q1.length c_1), (11, .int .i64 (q1.length : Int)), (12, .int .i64 x4), (21, .bool !x7)]) (es' := [boxO 28 g1 [.int .i64 q0.W, .int .i64 q0.H, .slice a_0_2 q0.Breaks.length c_0_2]]) [0] ?_ ⟨rfl, rfl, rfl, rfl, rfl, trivial⟩ (by decide) rfl
      refine JE.code ?_
      rcases cond_some hres with ⟨hb, hres⟩ | ⟨hb, hres⟩
      · refine JX.condT rfl hb ?_
        refine JX.seq ?_
        refine JX.region ?_
        refine JL.val (yl_assign rfl) rfl ?_
        refine JL.nil ?_
        refine JE.weak (env' := [(4, .int .i64 2)]) (es' := []) [] ?_ ⟨rfl, trivial⟩ (by decide) rfl
        refine JE.code ?_
        refine JX.ret ?_
        refine JE.qbr ?_
        refine JE.qbr ?_
        have hres := elimS_inr hresO1 (hox1 _ (Option.some.inj hres).symm)
        obtain rfl := Option.some.inj hres
        refine JE.ret (rs := [.tmp 4]) (vs := [.int .i64 2]) rfl ⟨rfl, trivial⟩ ?_
        exact fun w' hb hs => ⟨_, _, ⟨rfl, rfl⟩, rfl, hb, hs.sel [] _ (by decide) rfl⟩
      · refine JX.condF rfl hb ?_
        refine JX.skip ?_
        refine JE.code ?_
        refine JX.region ?_
        refine JL.val (yl_add rfl rfl) rfl ?_
        refine JL.val (yl_move rfl) rfl ?_
        refine JL.nil ?_
        refine JE.cont hres ?_
        exact fun a w h => h.weak ⟨rfl, rfl, rfl, rfl, trivial⟩ [0] (by decide) rfl
    · refine JX.condF rfl hb ?_
      refine JX.exit ?_
      refine JE.qb rfl ?_
      obtain ⟨b1, hb1⟩ : ∃ b : Unit, b = () := ⟨_, rfl⟩
      have hy1 : Sum.inl b1 = y1 := by rw [hb1]; exact hox1 _ (Option.some.inj hres).symm
      have hres := elimS_inl hresO1 hy1
      refine JE.weak (env' := []) (es' := []) [] ?_ trivial (by decide) (by subst hb1; rfl)
      refine JE.code ?_
      refine JX.seq ?_
      refine JX.region ?_
      refine JL.val (yl_assign rfl) rfl ?_
      refine JL.nil ?_
      refine JE.code ?_
      refine JX.ret ?_
      obtain rfl := Option.some.inj hres
      refine JE.ret (rs := [.tmp 4]) (vs := [.int .i64 0]) rfl ⟨rfl, trivial⟩ ?_
      exact fun w' hb hs => ⟨_, _, ⟨rfl, rfl⟩, rfl, hb, hs.sel [] _ (by decide) rfl⟩

/- impl.CurveNeighbours -/
def sh40_1 (x16 : List Bool) : (Int × List Int) → Option ((Int × List Int) ⊕ (List Int))
  | (x22, x23) => bif decide (x22 < (x16.length : Int)) then (Option.bind (getI x16 x22) fun x26 => Option.bind (bif x26 then (Option.bind (appL x23 [x22]) fun x32 => some x32) else (some x23)) fun j27 => (some (.inl (w64 (x22 + 1), j27)))) else (some (.inr x23))
def sh40 (q0 : SPanel) (q1 : Int) : Option (List Int × Int) := Option.bind (sh102 q0 [q1]) fun x5 => bif x5 != 0 then (some (([] : List Int), x5)) else (Option.bind (sh98 q0) fun x9 => Option.bind (getI x9 q1) fun x16 => Option.bind (iter (sh40_1 x16) (0, ([] : List Int))) fun b1 => (some (b1, 0)))
def T40 (r : List Int × Int) (v : Value) (rs : List Own) : Prop := ∃ (a0 : Option Addr) (n0 c0 : Nat), r.1.length = n0 ∧ v = rets [.slice a0 n0 c0, .int .i64 r.2] ∧ rs = [rowT 2 eI64 a0 n0 c0 r.1]
set_option maxRecDepth 100000 in
theorem c40 {w : World} {q0 : SPanel} {a_0_2 : Option Addr} {n_0_2 c_0_2 : Nat} (g_0_2 : Rd w a_0_2 (eI64.fl q0.Breaks)) (l_0_2 : q0.Breaks.length = n_0_2) (k_0_2 : n_0_2 ≤ c_0_2) {q1 : Int} {r : List Int × Int} (hres : sh40 q0 q1 = some r) : Calls Go.Proofs.Try.prog 40 [.agg #[.int .i64 q0.W, .int .i64 q0.H, .slice a_0_2 n_0_2 c_0_2], .int .i64 q1].toArray w (Ret w (T40 r)) := by
  subst l_0_2
  unfold sh40 at hres
  refine calls_of (n := 36) (M := []) (es := []) Go.Proofs.Try.func40 rfl rfl rfl (Sep.nil _ _ _) ?_
  refine JX.seq ?_
  refine JX.region ?_
  refine JL.eff (ef_box rfl rfl) rfl ?_
  rintro _ _ ⟨g1, rfl, rfl⟩
  refine JL.val (yl_assign rfl) rfl ?_
  refine JL.val (yl_assign rfl) rfl ?_
  refine JL.nil ?_
  refine JE.code ?_
  refine JX.seq ?_
  refine JX.seq ?_
  refine JX.region ?_
  refine JL.val (yl_loadn Go.Proofs.Try.underlying28 rfl i28 rfl (fun w hC => rd_box hC 0 rfl) rfl (i28s).symm i28p) rfl ?_
  refine JL.val (yl_move rfl) rfl ?_
  refine JL.eff (ef_buildSlice (E := 2) (k := eI64.k) (us := eI64.fl [q1]) rfl (fun w => bsl22_1 q1 w) rfl (by decide)) rfl ?_
  rintro _ _ ⟨a3, rfl, rfl⟩
  obtain ⟨x5, hx5, hres⟩ := bind_some hres
  refine JL.eff (ef_call (vs := [.agg #[.int .i64 q0.W, .int .i64 q0.H, .slice a_0_2 q0.Breaks.length c_0_2], .slice a3 1 1]) (T := T102 x5) Go.Proofs.Try.func102 rfl (by kernel_rfl) rfl (fun w hC => c102 (q0 := q0) (rd_arg g_0_2 hC) rfl k_0_2 (rd_row hC 1 rfl) rfl (Nat.le_refl _) hx5)) rfl ?_
  rintro _ _ ⟨_, ⟨rfl, rfl⟩, rfl⟩
  refine JL.val (yl_assign rfl) rfl ?_
  refine JL.nil ?_
  refine JE.weak (env' := [(1, .int .i64 q1), (2, ptrAt (some ⟨g1, 0, none⟩) 0), (6, .int .i64 x5)]) (es' := [boxO 28 g1 [.int .i64 q0.W, .int .i64 q0.H, .slice a_0_2 q0.Breaks.length c_0_2]]) [0] ?_ ⟨rfl, rfl, rfl, trivial⟩ (by decide) rfl
  refine JE.code ?_
  refine JX.seq ?_
  refine JX.region ?_
  refine JL.val (yl_move rfl) rfl ?_
  refine JL.val (yl_neq rfl rfl) rfl ?_
  refine JL.nil ?_
  refine JE.code ?_
  rcases cond_some hres with ⟨hb, hres⟩ | ⟨hb, hres⟩
  · refine JX.condT rfl hb ?_
    refine JX.seq ?_
    refine JX.region ?_
    refine JL.val (yl_move rfl) rfl ?_
    refine JL.val (yl_assign rfl) rfl ?_
    refine JL.val (yl_assign rfl) rfl ?_
    refine JL.nil ?_
    refine JE.weak (env' := [(4, .slice none 0 0), (5, .int .i64 x5)]) (es' := []) [] ?_ ⟨rfl, rfl, trivial⟩ (by decide) rfl
    refine JE.code ?_
    refine JX.ret ?_
    refine JE.nilrow 2 eI64 ?_
    obtain rfl := Option.some.inj hres
    refine JE.ret (rs := [.tmp 4, .tmp 5]) (vs := [.slice none 0 0, .int .i64 x5]) rfl ⟨rfl, rfl, trivial⟩ ?_
    exact fun w' hb hs => ⟨_, _, ⟨none, 0, 0, rfl, rfl, rfl⟩, rfl, hb, hs.sel [0] _ (by decide) rfl⟩
  · refine JX.condF rfl hb ?_
    refine JX.skip ?_
    refine JE.code ?_
    refine JX.seq ?_
    refine JX.region ?_
    refine JL.eff (ef_buildSlice (E := 2) (k := eI64.k) (us := eI64.fl ([] : List Int)) rfl (fun w => bsl22_0  w) rfl (by decide)) rfl ?_
    rintro _ _ ⟨a7, rfl, rfl⟩
    refine JL.val (yl_assign rfl) rfl ?_
    refine JL.nil ?_
    refine JE.code ?_
    refine JX.seq ?_
    refine JX.seq ?_
    refine JX.region ?_
    refine JL.val (yl_loadn Go.Proofs.Try.underlying28 rfl i28 rfl (fun w hC => rd_box hC 0 rfl) rfl (i28s).symm i28p) rfl ?_
    obtain ⟨x9, hx9, hres⟩ := bind_some hres
    refine JL.eff (ef_call (vs := [.agg #[.int .i64 q0.W, .int .i64 q0.H, .slice a_0_2 q0.Breaks.length c_0_2]]) (T := T98 x9) Go.Proofs.Try.func98 rfl (by kernel_rfl) rfl (fun w hC => c98 (q0 := q0) (rd_arg g_0_2 hC) rfl k_0_2 hx9)) rfl ?_
    rintro _ _ ⟨_, ⟨a10, _, cp11, hs13, rfl, hi14, rfl, rfl⟩, rfl⟩
    refine JL.val (yl_move rfl) rfl ?_
    obtain ⟨x16, hx16, hres⟩ := bind_some hres
    obtain ⟨ha17, hc18, hhx16⟩ := Inn.sub hi14 hx16
    refine JL.val (yl_idxT Go.Proofs.Try.underlying99 i104 i104s rfl rfl hhx16 (Inn.len hi14) (fun w hC => rd_row hC 2 rfl)) rfl ?_
    refine JL.val (yl_loadT0 (z := ⟨ha17, x16.length, hc18⟩) Go.Proofs.Try.underlying104 rfl rfl hhx16 (fun w hC => rd_row hC 2 rfl) rfl) rfl ?_
    refine JL.val (yl_len_slice Go.Proofs.Try.underlying104 rfl) rfl ?_
    refine JL.val (yl_move rfl) rfl ?_
    refine JL.nil ?_
    refine JE.weak (env' := [(7, .slice a7 0 0), (22, .slice ha17 x16.length hc18), (23, .int .i64 (x16.length : Int)), (24, .int .i64 0)]) (es' := [rowT 2 eI64 a7 0 0 ([] : List Int), rowT 104 eHd a10 x9.length cp11 hs13, innO 4 eBool none hs13 x9]) [1, 2, 3] ?_ ⟨rfl, rfl, rfl, rfl, trivial⟩ (by decide) rfl
    refine JE.code ?_
    refine JX.block ?_
    obtain ⟨y1, hy1, hresO1⟩ := bind_some hres
    refine JX.loop (I := fun (s1 : Int × List Int) aa ww => ∃ (a20 : Option Addr) (cp21 : Nat), St w [] 36 [(7, .slice a20 s1.2.length cp21), (22, .slice ha17 x16.length hc18), (23, .int .i64 (x16.length : Int)), (24, .int .i64 s1.1)] [rowT 2 eI64 a20 s1.2.length cp21 s1.2, rowT 104 eHd a10 x9.length cp11 hs13, innO 4 eBool none hs13 x9] aa ww) (sh40_1 x16) hy1 (fun a w h => ⟨a7, 0, h.weak ⟨rfl, rfl, rfl, rfl, trivial⟩ [0, 1, 2] (by decide) rfl⟩) ?_
    rintro ⟨x22, x23⟩ o1 hres hox1 aa ww ⟨a24, cp25, hS⟩
    refine (?_ : JX Go.Proofs.Try.prog w [] 36 _ _ [(7, .slice a24 x23.length cp25), (22, .slice ha17 x16.length hc18), (23, .int .i64 (x16.length : Int)), (24, .int .i64 x22)] [rowT 2 eI64 a24 x23.length cp25 x23, rowT 104 eHd a10 x9.length cp11 hs13, innO 4 eBool none hs13 x9] _) aa ww hS
    clear hS
    simp only [sh40_1] at hres
    refine JX.seq ?_
    refine JX.region ?_
    refine JL.val (yl_lss rfl rfl) rfl ?_
    refine JL.nil ?_
    refine JE.code ?_
    refine JX.seq ?_
    rcases cond_some hres with ⟨hb, hres⟩ | ⟨hb, hres⟩
    · refine JX.condT rfl hb ?_
      refine JX.skip ?_
      refine JE.code ?_
      refine JX.seq ?_
      refine JX.block ?_
      refine JX.seq ?_
      refine JX.region ?_
      refine JL.val (yl_move rfl) rfl ?_
      obtain ⟨x26, hx26, hres⟩ := bind_some hres
      refine JL.val (yl_idxT Go.Proofs.Try.underlying104 i4 i4s rfl rfl hx26 rfl (fun w hC => (RdI.sub (rd_inn hC 2 rfl) hx16 hhx16))) rfl ?_
      refine JL.val (yl_loadT0 Go.Proofs.Try.underlying4 rfl rfl hx26 (fun w hC => (RdI.sub (rd_inn hC 2 rfl) hx16 hhx16)) rfl) rfl ?_
      refine JL.val (yl_assign rfl) rfl ?_
      refine JL.val (yl_assign rfl) rfl ?_
      refine JL.nil ?_
      refine JE.weak (env' := [(7, .slice a24 x23.length cp25), (8, .int .i64 x22), (9, .bool x26), (22, .slice ha17 x16.length hc18), (23, .int .i64 (x16.length : Int)), (24, .int .i64 x22)]) (es' := [rowT 2 eI64 a24 x23.length cp25 x23, rowT 104 eHd a10 x9.length cp11 hs13, innO 4 eBool none hs13 x9]) [0, 1, 2] ?_ ⟨rfl, rfl, rfl, rfl, rfl, rfl, trivial⟩ (by decide) rfl
      refine JE.code ?_
      refine JX.seq ?_
      refine JX.region ?_
      refine JL.val (yl_move rfl) rfl ?_
      refine JL.nil ?_
      refine JE.code ?_
      obtain ⟨j27, hj27, hresj27⟩ := bind_some hres
      refine JX.cut (K := fun J => ∀ (a28 : Option Addr) (cp29 : Nat), J [(7, .slice a28 j27.length cp29), (22, .slice ha17 x16.length hc18), (23, .int .i64 (x16.length : Int)), (24, .int .i64 x22)] [rowT 2 eI64 a28 j27.length cp29 j27, rowT 104 eHd a10 x9.length cp11 hs13, innO 4 eBool none hs13 x9]) ?_ ?_
      · intro a28 cp29
        have hres := hresj27
        refine JE.code ?_
        refine JX.region ?_
        refine JL.val (yl_add rfl rfl) rfl ?_
        refine JL.val (yl_move rfl) rfl ?_
        refine JL.nil ?_
        refine JE.cont hres ?_
        exact fun a w h => ⟨a28, cp29, h.weak ⟨rfl, rfl, rfl, rfl, trivial⟩ [0, 1, 2] (by decide) rfl⟩
      · intro K
        rcases cond_some hj27 with ⟨hb, hres⟩ | ⟨hb, hres⟩
        · refine JX.condT rfl hb ?_
          refine JX.region ?_
          refine JL.val (yl_move rfl) rfl ?_
          refine JL.val (yl_move rfl) rfl ?_
          refine JL.eff (ef_buildSlice (E := 2) (k := eI64.k) (us := eI64.fl [x22]) rfl (fun w => bsl22_1 x22 w) rfl (by decide)) rfl ?_
          rintro _ _ ⟨a30, rfl, rfl⟩
          obtain ⟨x32, hx32, hres⟩ := bind_some hres
          refine JL.eff (ef_appendT (ix := 0) Go.Proofs.Try.underlying22 i2 i2z i2s rfl i2b0 i2b1 rfl rfl rfl rfl rfl (fun w hC => rd_row hC 3 rfl) hx32) rfl ?_
          rintro _ _ ⟨a33, cp34, rfl, rfl⟩
          refine JL.val (yl_assign rfl) rfl ?_
          refine JL.nil ?_
          refine JE.weak (env' := [(7, .slice a33 x32.length cp34), (22, .slice ha17 x16.length hc18), (23, .int .i64 (x16.length : Int)), (24, .int .i64 x22)]) (es' := [rowT 2 eI64 a33 x32.length cp34 x32, rowT 104 eHd a10 x9.length cp11 hs13, innO 4 eBool none hs13 x9]) [0, 1, 2] ?_ ⟨rfl, rfl, rfl, rfl, trivial⟩ (by decide) rfl
          have hj := Option.some.inj hres
          exact JE.weak [0, 1, 2] (K a33 cp34) ⟨(by subst hj; rfl), (by subst hj; rfl), (by subst hj; rfl), (by subst hj; rfl), trivial⟩ (by decide) (by subst hj; rfl)
        · refine JX.condF rfl hb ?_
          refine JX.skip ?_
          have hj := Option.some.inj hres
          exact JE.weak [0, 1, 2] (K a24 cp25) ⟨(by subst hj; rfl), (by subst hj; rfl), (by subst hj; rfl), (by subst hj; rfl), trivial⟩ (by decide) (by subst hj; rfl)
    · refine JX.condF rfl hb ?_
      refine JX.exit ?_
      refine JE.qb rfl ?_
      obtain ⟨b1, hb1⟩ : ∃ b : List Int, b = x23 := ⟨_, rfl⟩
      have hy1 : b1 = y1 := by rw [hb1]; exact hox1 _ (Option.some.inj hres).symm
      have hres := hresO1
      rw [← hy1] at hres
      refine JE.weak (env' := [(7, .slice a24 b1.length cp25)]) (es' := [rowT 2 eI64 a24 b1.length cp25 b1]) [0] ?_ ⟨(by subst hb1; rfl), trivial⟩ (by decide) (by subst hb1; rfl)
      refine JE.code ?_
      refine JX.seq ?_
      refine JX.region ?_
      refine JL.val (yl_move rfl) rfl ?_
      refine JL.val (yl_assign rfl) rfl ?_
      refine JL.val (yl_assign rfl) rfl ?_
      refine JL.nil ?_
      refine JE.code ?_
      refine JX.ret ?_
      obtain rfl := Option.some.inj hres
      refine JE.ret (rs := [.tmp 4, .tmp 5]) (vs := [.slice a24 b1.length cp25, .int .i64 0]) rfl ⟨rfl, rfl, trivial⟩ ?_
      exact fun w' hb hs => ⟨_, _, ⟨a24, b1.length, cp25, rfl, rfl, rfl⟩, rfl, hb, hs.sel [0] _ (by decide) rfl⟩

/- laws.FnExactCurveNeighbours -/
def sh9 (q0 : SPanel) (q1 : Int) : Option (Bool) := Option.bind (sh15 q0 1048576) fun x3 => bif decide (x3 < 0) then (some true) else (Option.bind (sh17 q0) fun x4 => Option.bind (sh39 x4 q1) fun x8 => Option.bind (sh17 q0) fun x12 => Option.bind (sh40 x12 q1) fun x18 => Option.bind (sh34 x18.1 x8.1) fun x22 => bif !x22 || (x18.2 != x8.2) then (some false) else (Option.bind (sh17 q0) fun x24 => Option.bind (sh19 x12 x24) fun x28 => bif !x28 then (some false) else (Option.bind (sh28 x12 1) fun x29 => Option.bind (bif decide (x29.1 < 0) then (some true) else (Option.bind (sh34 x18.1 x8.1) fun x32 => some !x32)) fun cb31 => (bif cb31 || (x18.2 != x8.2) then (some false) else (Option.bind (sh37 x18.1 1) fun x33 => Option.bind (sh38 x33.2 1) fun x35 => bif decide (x35 < 0) then (some false) else (bif x35 != x33.1 then (some false) else (Option.bind (sh17 q0) fun x36 => Option.bind (sh40 x36 q1) fun x40 => Option.bind (sh34 x40.1 x8.1) fun x44 => bif !x44 || (x40.2 != x8.2) then (some false) else (Option.bind (sh38 x33.2 1) fun x45 => bif decide (x45 < 0) then (some false) else (bif x45 != x33.1 then (some false) else (some true))))))))))
def T9 (r : Bool) (v : Value) (rs : List Own) : Prop := v = rets [.bool r] ∧ rs = []
set_option maxRecDepth 100000 in
set_option maxHeartbeats 1000000 in
theorem c9 {w : World} {q0 : SPanel} {a_0_2 : Option Addr} {n_0_2 c_0_2 : Nat} (g_0_2 : Rd w a_0_2 (eI64.fl q0.Breaks)) (l_0_2 : q0.Breaks.length = n_0_2) (k_0_2 : n_0_2 ≤ c_0_2) {q1 : Int} {r : Bool} (hres : sh9 q0 q1 = some r) : Calls Go.Proofs.Try.prog 9 [.agg #[.int .i64 q0.W, .int .i64 q0.H, .slice a_0_2 n_0_2 c_0_2], .int .i64 q1].toArray w (Ret w (T9 r)) := by
  subst l_0_2
  unfold sh9 at hres
  refine calls_of (n := 101) (M := []) (es := []) Go.Proofs.Try.func9 rfl rfl rfl (Sep.nil _ _ _) ?_
  refine JX.seq ?_
  refine JX.region ?_
  refine JL.eff (ef_box rfl rfl) rfl ?_
  rintro _ _ ⟨g1, rfl, rfl⟩
  refine JL.val (yl_assign rfl) rfl ?_
  refine JL.nil ?_
  refine JE.code ?_
  refine JX.seq ?_
  refine JX.region ?_
  refine JL.val (yl_assign rfl) rfl ?_
  refine JL.nil ?_
  refine JE.code ?_
  refine JX.seq ?_
  refine JX.region ?_
  refine JL.val (yl_loadn Go.Proofs.Try.underlying24 rfl i24 rfl (fun w hC => rd_box hC 0 rfl) rfl (i24s).symm i24p) rfl ?_
  refine JL.val (yl_move rfl) rfl ?_
  obtain ⟨x3, hx3, hres⟩ := bind_some hres
  refine JL.eff (ef_call (vs := [.agg #[.int .i64 q0.W, .int .i64 q0.H, .slice a_0_2 q0.Breaks.length c_0_2], .int .i64 1048576]) (T := T15 x3) Go.Proofs.Try.func15 rfl (by kernel_rfl) rfl (fun w hC => c15 (q0 := q0) (rd_arg g_0_2 hC) rfl k_0_2 hx3)) rfl ?_
  rintro _ _ ⟨_, ⟨rfl, rfl⟩, rfl⟩
  refine JL.val (yl_assign rfl) rfl ?_
  refine JL.nil ?_
  refine JE.weak (env' := [(1, .int .i64 q1), (2, ptrAt (some ⟨g1, 0, none⟩) 0), (5, .int .i64 x3)]) (es' := [boxO 24 g1 [.int .i64 q0.W, .int .i64 q0.H, .slice a_0_2 q0.Breaks.length c_0_2]]) [0] ?_ ⟨rfl, rfl, rfl, trivial⟩ (by decide) rfl
  refine JE.code ?_
  refine JX.seq ?_
  refine JX.seq ?_
  refine JX.region ?_
  refine JL.val (yl_move rfl) rfl ?_
  refine JL.val (yl_lss rfl rfl) rfl ?_
  refine JL.nil ?_
  refine JE.code ?_
  rcases cond_some hres with ⟨hb, hres⟩ | ⟨hb, hres⟩
  · refine JX.condT rfl hb ?_
    refine JX.seq ?_
    refine JX.region ?_
    refine JL.val (yl_assign rfl) rfl ?_
    refine JL.nil ?_
    refine JE.weak (env' := [(4, .bool true)]) (es' := []) [] ?_ ⟨rfl, trivial⟩ (by decide) rfl
    refine JE.code ?_
    refine JX.ret ?_
    obtain rfl := Option.some.inj hres
    refine JE.ret (rs := [.tmp 4]) (vs := [.bool true]) rfl ⟨rfl, trivial⟩ ?_
    exact fun w' hb hs => ⟨_, _, ⟨rfl, rfl⟩, rfl, hb, hs.sel [] _ (by decide) rfl⟩
  · refine JX.condF rfl hb ?_
    refine JX.skip ?_
    refine JE.code ?_
    refine JX.seq ?_
    refine JX.region ?_
    refine JL.val (yl_loadn Go.Proofs.Try.underlying24 rfl i24 rfl (fun w hC => rd_box hC 0 rfl) rfl (i24s).symm i24p) rfl ?_
    obtain ⟨x4, hx4, hres⟩ := bind_some hres
    refine JL.eff (ef_call (vs := [.agg #[.int .i64 q0.W, .int .i64 q0.H, .slice a_0_2 q0.Breaks.length c_0_2]]) (T := T17 x4) Go.Proofs.Try.func17 rfl (by kernel_rfl) rfl (fun w hC => c17 (q0 := q0) (rd_arg g_0_2 hC) rfl k_0_2 hx4)) rfl ?_
    rintro _ _ ⟨_, ⟨a5, _, cp6, rfl, rfl, rfl⟩, rfl⟩
    refine JL.val (yl_move rfl) rfl ?_
    obtain ⟨x8, hx8, hres⟩ := bind_some hres
    refine JL.eff (ef_call (vs := [.agg #[.int .i64 x4.W, .int .i64 x4.H, .slice a5 x4.Breaks.length cp6], .int .i64 q1]) (T := T39 x8) Go.Proofs.Try.func39 rfl (by kernel_rfl) rfl (fun w hC => c39 (q0 := x4) (rd_row hC 1 rfl) rfl (ln_row hC 1 rfl) hx8)) rfl ?_
    rintro _ _ ⟨_, ⟨a9, _, cp10, rfl, rfl, rfl⟩, rfl⟩
    refine JL.val (yl_move rfl) rfl ?_
    refine JL.val (yl_extract rfl rfl) rfl ?_
    refine JL.val (yl_extract rfl rfl) rfl ?_
    refine JL.val (yl_assign rfl) rfl ?_
    refine JL.val (yl_assign rfl) rfl ?_
    refine JL.nil ?_
    refine JE.weak (env' := [(1, .int .i64 q1), (2, ptrAt (some ⟨g1, 0, none⟩) 0), (6, .slice a9 x8.1.length cp10), (7, .int .i64 x8.2)]) (es' := [boxO 24 g1 [.int .i64 q0.W, .int .i64 q0.H, .slice a_0_2 q0.Breaks.length c_0_2], rowT 2 eI64 a9 x8.1.length cp10 x8.1]) [0, 2] ?_ ⟨rfl, rfl, rfl, rfl, trivial⟩ (by decide) rfl
    refine JE.code ?_
    refine JX.seq ?_
    refine JX.region ?_
    refine JL.val (yl_loadn Go.Proofs.Try.underlying24 rfl i24 rfl (fun w hC => rd_box hC 0 rfl) rfl (i24s).symm i24p) rfl ?_
    obtain ⟨x12, hx12, hres⟩ := bind_some hres
    refine JL.eff (ef_call (vs := [.agg #[.int .i64 q0.W, .int .i64 q0.H, .slice a_0_2 q0.Breaks.length c_0_2]]) (T := T17 x12) Go.Proofs.Try.func17 rfl (by kernel_rfl) rfl (fun w hC => c17 (q0 := q0) (rd_arg g_0_2 hC) rfl k_0_2 hx12)) rfl ?_
    rintro _ _ ⟨_, ⟨a13, _, cp14, rfl, rfl, rfl⟩, rfl⟩
    refine JL.eff (ef_alloc i28 i28z rfl) rfl ?_
    rintro _ _ ⟨g16, rfl, rfl⟩
    refine JL.eff (ef_store_box (i := 3) (v := .agg #[.int .i64 x12.W, .int .i64 x12.H, .slice a13 x12.Breaks.length cp14]) i28 rfl rfl rfl (i28s).symm (Nat.le_of_ble_eq_true rfl) (by simp [Value.cells, Value.oneCell'])) rfl ?_
    rintro _ _ rfl
    refine JL.nil ?_
    refine JE.weak (env' := [(1, .int .i64 q1), (2, ptrAt (some ⟨g1, 0, none⟩) 0), (6, .slice a9 x8.1.length cp10), (7, .int .i64 x8.2), (8, ptrAt (some ⟨g16, 0, none⟩) 0)]) (es' := [boxO 24 g1 [.int .i64 q0.W, .int .i64 q0.H, .slice a_0_2 q0.Breaks.length c_0_2], rowT 2 eI64 a9 x8.1.length cp10 x8.1, boxO 28 g16 [.int .i64 x12.W, .int .i64 x12.H, .slice a13 x12.Breaks.length cp14], rowT 2 eI64 a13 x12.Breaks.length cp14 x12.Breaks]) [0, 1, 3, 2] ?_ ⟨rfl, rfl, rfl, rfl, rfl, trivial⟩ (by decide) rfl
    refine JE.code ?_
    refine JX.seq ?_
    refine JX.region ?_
    refine JL.val (yl_loadn Go.Proofs.Try.underlying28 rfl i28 rfl (fun w hC => rd_box hC 2 rfl) rfl (i28s).symm i28p) rfl ?_
    refine JL.val (yl_move rfl) rfl ?_
    obtain ⟨x18, hx18, hres⟩ := bind_some hres
    refine JL.eff (ef_call (vs := [.agg #[.int .i64 x12.W, .int .i64 x12.H, .slice a13 x12.Breaks.length cp14], .int .i64 q1]) (T := T40 x18) Go.Proofs.Try.func40 rfl (by kernel_rfl) rfl (fun w hC => c40 (q0 := x12) (rd_row hC 3 rfl) rfl (ln_row hC 3 rfl) hx18)) rfl ?_
    rintro _ _ ⟨_, ⟨a19, _, cp20, rfl, rfl, rfl⟩, rfl⟩
    refine JL.val (yl_move rfl) rfl ?_
    refine JL.val (yl_extract rfl rfl) rfl ?_
    refine JL.val (yl_extract rfl rfl) rfl ?_
    refine JL.val (yl_assign rfl) rfl ?_
    refine JL.val (yl_assign rfl) rfl ?_
    refine JL.nil ?_
    refine JE.weak (env' := [(1, .int .i64 q1), (2, ptrAt (some ⟨g1, 0, none⟩) 0), (6, .slice a9 x8.1.length cp10), (7, .int .i64 x8.2), (8, ptrAt (some ⟨g16, 0, none⟩) 0), (9, .slice a19 x18.1.length cp20), (10, .int .i64 x18.2)]) (es' := [boxO 24 g1 [.int .i64 q0.W, .int .i64 q0.H, .slice a_0_2 q0.Breaks.length c_0_2], rowT 2 eI64 a9 x8.1.length cp10 x8.1, boxO 28 g16 [.int .i64 x12.W, .int .i64 x12.H, .slice a13 x12.Breaks.length cp14], rowT 2 eI64 a13 x12.Breaks.length cp14 x12.Breaks, rowT 2 eI64 a19 x18.1.length cp20 x18.1]) [0, 1, 2, 3, 4] ?_ ⟨rfl, rfl, rfl, rfl, rfl, rfl, rfl, trivial⟩ (by decide) rfl
    refine JE.code ?_
    refine JX.seq ?_
    refine JX.seq ?_
    refine JX.region ?_
    refine JL.val (yl_move rfl) rfl ?_
    refine JL.val (yl_move rfl) rfl ?_
    obtain ⟨x22, hx22, hres⟩ := bind_some hres
    refine JL.eff (ef_call (T := T34 x22) Go.Proofs.Try.func34 rfl (by kernel_rfl) rfl (fun w hC => c34 (rd_row hC 4 rfl) rfl (ln_row hC 4 rfl) (rd_row hC 1 rfl) rfl (ln_row hC 1 rfl) hx22)) rfl ?_
    rintro _ _ ⟨_, ⟨rfl, rfl⟩, rfl⟩
    refine JL.val (yl_not rfl) rfl ?_
    refine JL.val (yl_move rfl) rfl ?_
    refine JL.cut (K := fun J => J [(1, .int .i64 q1), (2, ptrAt (some ⟨g1, 0, none⟩) 0), (6, .slice a9 x8.1.length cp10), (7, .int .i64 x8.2), (8, ptrAt (some ⟨g16, 0, none⟩) 0), (9, .slice a19 x18.1.length cp20), (10, .int .i64 x18.2), (44, .bool (!x22 || (x18.2 != x8.2)))] [boxO 24 g1 [.int .i64 q0.W, .int .i64 q0.H, .slice a_0_2 q0.Breaks.length c_0_2], rowT 2 eI64 a9 x8.1.length cp10 x8.1, boxO 28 g16 [.int .i64 x12.W, .int .i64 x12.H, .slice a13 x12.Breaks.length cp14], rowT 2 eI64 a13 x12.Breaks.length cp14 x12.Breaks, rowT 2 eI64 a19 x18.1.length cp20 x18.1]) 4 ?_ ?_
    · refine JL.nil ?_
      refine JE.weak (env' := [(1, .int .i64 q1), (2, ptrAt (some ⟨g1, 0, none⟩) 0), (6, .slice a9 x8.1.length cp10), (7, .int .i64 x8.2), (8, ptrAt (some ⟨g16, 0, none⟩) 0), (9, .slice a19 x18.1.length cp20), (10, .int .i64 x18.2), (44, .bool (!x22 || (x18.2 != x8.2)))]) (es' := [boxO 24 g1 [.int .i64 q0.W, .int .i64 q0.H, .slice a_0_2 q0.Breaks.length c_0_2], rowT 2 eI64 a9 x8.1.length cp10 x8.1, boxO 28 g16 [.int .i64 x12.W, .int .i64 x12.H, .slice a13 x12.Breaks.length cp14], rowT 2 eI64 a13 x12.Breaks.length cp14 x12.Breaks, rowT 2 eI64 a19 x18.1.length cp20 x18.1]) [0, 1, 2, 3, 4] ?_ ⟨rfl, rfl, rfl, rfl, rfl, rfl, rfl, rfl, trivial⟩ (by decide) rfl
      refine JE.code ?_
      rcases cond_some hres with ⟨hb, hres⟩ | ⟨hb, hres⟩
      · refine JX.condT rfl hb ?_
        refine JX.seq ?_
        refine JX.region ?_
        refine JL.val (yl_assign rfl) rfl ?_
        refine JL.nil ?_
        refine JE.weak (env' := [(4, .bool false)]) (es' := []) [] ?_ ⟨rfl, trivial⟩ (by decide) rfl
        refine JE.code ?_
        refine JX.ret ?_
        obtain rfl := Option.some.inj hres
        refine JE.ret (rs := [.tmp 4]) (vs := [.bool false]) rfl ⟨rfl, trivial⟩ ?_
        exact fun w' hb hs => ⟨_, _, ⟨rfl, rfl⟩, rfl, hb, hs.sel [] _ (by decide) rfl⟩
      · refine JX.condF rfl hb ?_
        refine JX.skip ?_
        refine JE.code ?_
        refine JX.seq ?_
        refine JX.seq ?_
        refine JX.drawH [(0, .read), (1, .read), (2, .must), (3, .must), (4, .pure)] [] [] [0, 1, 2, 3, 4] [] [boxO 24 g1 [.int .i64 q0.W, .int .i64 q0.H, .slice a_0_2 q0.Breaks.length c_0_2], rowT 2 eI64 a9 x8.1.length cp10 x8.1, boxO 28 g16 [.int .i64 x12.W, .int .i64 x12.H, .slice a13 x12.Breaks.length cp14], rowT 2 eI64 a13 x12.Breaks.length cp14 x12.Breaks, rowT 2 eI64 a19 x18.1.length cp20 x18.1] mixedP (by kernel_rfl) (by kernel_rfl) (by decide) rfl rfl ?_
        intro wrr23 Nr23 hFr23
        refine JH.read rfl (yl_loadn Go.Proofs.Try.underlying28 rfl i28 rfl (fun w hw => hFr23.box 2 rfl rfl hw) rfl (i28s).symm i28p) rfl ?_
        refine JH.read rfl (yl_loadn Go.Proofs.Try.underlying24 rfl i24 rfl (fun w hw => hFr23.box 0 rfl rfl hw) rfl (i24s).symm i24p) rfl ?_
        obtain ⟨x24, hx24, hres⟩ := bind_some hres
        refine JH.must rfl (ef_call (vs := [.agg #[.int .i64 q0.W, .int .i64 q0.H, .slice a_0_2 q0.Breaks.length c_0_2]]) (T := T17 x24) Go.Proofs.Try.func17 rfl (by kernel_rfl) rfl (fun w hC => c17 (q0 := q0) (hFr23.arg g_0_2 hC.1) rfl k_0_2 hx24)) rfl rfl ?_
        rintro _ _ ⟨_, ⟨a25, _, cp26, rfl, rfl, rfl⟩, rfl⟩
        obtain ⟨x28, hx28, hres⟩ := bind_some hres
        refine JH.must rfl (ef_call (vs := [.agg #[.int .i64 x12.W, .int .i64 x12.H, .slice a13 x12.Breaks.length cp14], .agg #[.int .i64 x24.W, .int .i64 x24.H, .slice a25 x24.Breaks.length cp26]]) (T := T19 x28) Go.Proofs.Try.func19 rfl (by kernel_rfl) rfl (fun w hC => c19 (q0 := x12) (q1 := x24) (hFr23.row 3 rfl rfl hC.1) rfl (ln_row hFr23.cl 3 rfl) (rd_row hC 0 rfl) rfl (ln_row hC 0 rfl) hx28)) rfl rfl ?_
        rintro _ _ ⟨_, ⟨rfl, rfl⟩, rfl⟩
        refine JH.pure rfl (yl_not rfl) rfl ?_
        refine JH.nil ?_
        refine JE.weak (env' := [(1, .int .i64 q1), (2, ptrAt (some ⟨g1, 0, none⟩) 0), (6, .slice a9 x8.1.length cp10), (7, .int .i64 x8.2), (8, ptrAt (some ⟨g16, 0, none⟩) 0), (9, .slice a19 x18.1.length cp20), (10, .int .i64 x18.2), (49, .bool !x28)]) (es' := [boxO 24 g1 [.int .i64 q0.W, .int .i64 q0.H, .slice a_0_2 q0.Breaks.length c_0_2], rowT 2 eI64 a9 x8.1.length cp10 x8.1, boxO 28 g16 [.int .i64 x12.W, .int .i64 x12.H, .slice a13 x12.Breaks.length cp14], rowT 2 eI64 a13 x12.Breaks.length cp14 x12.Breaks, rowT 2 eI64 a19 x18.1.length cp20 x18.1]) [0, 1, 2, 3, 4] ?_ ⟨rfl, rfl, rfl, rfl, rfl, rfl, rfl, rfl, trivial⟩ (by decide) rfl
        refine JE.code ?_
        rcases cond_some hres with ⟨hb, hres⟩ | ⟨hb, hres⟩
        · refine JX.condT rfl hb ?_
          refine JX.seq ?_
          refine JX.region ?_
          refine JL.val (yl_assign rfl) rfl ?_
          refine JL.nil ?_
          refine JE.weak (env' := [(4, .bool false)]) (es' := []) [] ?_ ⟨rfl, trivial⟩ (by decide) rfl
          refine JE.code ?_
          refine JX.ret ?_
          obtain rfl := Option.some.inj hres
          refine JE.ret (rs := [.tmp 4]) (vs := [.bool false]) rfl ⟨rfl, trivial⟩ ?_
          exact fun w' hb hs => ⟨_, _, ⟨rfl, rfl⟩, rfl, hb, hs.sel [] _ (by decide) rfl⟩
        · refine JX.condF rfl hb ?_
          refine JX.skip ?_
          refine JE.code ?_
          refine JX.seq ?_
          refine JX.region ?_
          refine JL.val (yl_assign rfl) rfl ?_
          refine JL.nil ?_
          refine JE.code ?_
          refine JX.seq ?_
          refine JX.region ?_
          refine JL.val (yl_loadn Go.Proofs.Try.underlying28 rfl i28 rfl (fun w hC => rd_box hC 2 rfl) rfl (i28s).symm i28p) rfl ?_
          refine JL.val (yl_move rfl) rfl ?_
          obtain ⟨x29, hx29, hres⟩ := bind_some hres
          refine JL.eff (ef_callms (caps := []) (vs := [.agg #[.int .i64 x12.W, .int .i64 x12.H, .slice a13 x12.Breaks.length cp14], .int .i64 1]) (T := T28 a13 x12.Breaks.length cp14 x29) [3] [0, 1, 2, 4] [rowT 2 eI64 a13 x12.Breaks.length cp14 x12.Breaks] [boxO 24 g1 [.int .i64 q0.W, .int .i64 q0.H, .slice a_0_2 q0.Breaks.length c_0_2], rowT 2 eI64 a9 x8.1.length cp10 x8.1, boxO 28 g16 [.int .i64 x12.W, .int .i64 x12.H, .slice a13 x12.Breaks.length cp14], rowT 2 eI64 a19 x18.1.length cp20 x18.1] rfl Go.Proofs.Try.func28 rfl (by kernel_rfl) rfl (by decide) rfl rfl (fun w N hF hS => c28 (q0 := x12) rfl hS hx29)) rfl ?_
          rintro _ _ ⟨_, _, ⟨l30, rfl, rfl, rfl⟩, rfl⟩
          refine JL.val (yl_assign rfl) rfl ?_
          refine JL.nil ?_
          refine JE.weak (env' := [(1, .int .i64 q1), (2, ptrAt (some ⟨g1, 0, none⟩) 0), (6, .slice a9 x8.1.length cp10), (7, .int .i64 x8.2), (9, .slice a19 x18.1.length cp20), (10, .int .i64 x18.2), (11, .int .i64 x29.1)]) (es' := [boxO 24 g1 [.int .i64 q0.W, .int .i64 q0.H, .slice a_0_2 q0.Breaks.length c_0_2], rowT 2 eI64 a9 x8.1.length cp10 x8.1, rowT 2 eI64 a19 x18.1.length cp20 x18.1]) [0, 1, 3] ?_ ⟨rfl, rfl, rfl, rfl, rfl, rfl, rfl, trivial⟩ (by decide) rfl
          refine JE.code ?_
          refine JX.seq ?_
          refine JX.seq ?_
          refine JX.region ?_
          refine JL.val (yl_move rfl) rfl ?_
          refine JL.val (yl_lss rfl rfl) rfl ?_
          refine JL.val (yl_move rfl) rfl ?_
          obtain ⟨cb31, hcb31, hres⟩ := bind_some hres
          refine JL.cut (K := fun J => J [(1, .int .i64 q1), (2, ptrAt (some ⟨g1, 0, none⟩) 0), (6, .slice a9 x8.1.length cp10), (7, .int .i64 x8.2), (9, .slice a19 x18.1.length cp20), (10, .int .i64 x18.2), (60, .bool cb31)] [boxO 24 g1 [.int .i64 q0.W, .int .i64 q0.H, .slice a_0_2 q0.Breaks.length c_0_2], rowT 2 eI64 a9 x8.1.length cp10 x8.1, rowT 2 eI64 a19 x18.1.length cp20 x18.1]) 5 ?_ ?_
          · refine JL.val (yl_move rfl) rfl ?_
            refine JL.cut (K := fun J => J [(1, .int .i64 q1), (2, ptrAt (some ⟨g1, 0, none⟩) 0), (6, .slice a9 x8.1.length cp10), (7, .int .i64 x8.2), (9, .slice a19 x18.1.length cp20), (65, .bool (cb31 || (x18.2 != x8.2)))] [boxO 24 g1 [.int .i64 q0.W, .int .i64 q0.H, .slice a_0_2 q0.Breaks.length c_0_2], rowT 2 eI64 a9 x8.1.length cp10 x8.1, rowT 2 eI64 a19 x18.1.length cp20 x18.1]) 4 ?_ ?_
            · refine JL.nil ?_
              refine JE.weak (env' := [(1, .int .i64 q1), (2, ptrAt (some ⟨g1, 0, none⟩) 0), (6, .slice a9 x8.1.length cp10), (7, .int .i64 x8.2), (9, .slice a19 x18.1.length cp20), (65, .bool (cb31 || (x18.2 != x8.2)))]) (es' := [boxO 24 g1 [.int .i64 q0.W, .int .i64 q0.H, .slice a_0_2 q0.Breaks.length c_0_2], rowT 2 eI64 a9 x8.1.length cp10 x8.1, rowT 2 eI64 a19 x18.1.length cp20 x18.1]) [0, 1, 2] ?_ ⟨rfl, rfl, rfl, rfl, rfl, rfl, trivial⟩ (by decide) rfl
              refine JE.code ?_
              rcases cond_some hres with ⟨hb, hres⟩ | ⟨hb, hres⟩
              · refine JX.condT rfl hb ?_
                refine JX.seq ?_
                refine JX.region ?_
                refine JL.val (yl_assign rfl) rfl ?_
                refine JL.nil ?_
                refine JE.weak (env' := [(4, .bool false)]) (es' := []) [] ?_ ⟨rfl, trivial⟩ (by decide) rfl
                refine JE.code ?_
                refine JX.ret ?_
                obtain rfl := Option.some.inj hres
                refine JE.ret (rs := [.tmp 4]) (vs := [.bool false]) rfl ⟨rfl, trivial⟩ ?_
                exact fun w' hb hs => ⟨_, _, ⟨rfl, rfl⟩, rfl, hb, hs.sel [] _ (by decide) rfl⟩
              · refine JX.condF rfl hb ?_
                refine JX.skip ?_
                refine JE.code ?_
                refine JX.seq ?_
                refine JX.region ?_
                refine JL.val (yl_assign rfl) rfl ?_
                refine JL.nil ?_
                refine JE.code ?_
                refine JX.seq ?_
                refine JX.region ?_
                refine JL.val (yl_move rfl) rfl ?_
                refine JL.val (yl_move rfl) rfl ?_
                obtain ⟨x33, hx33, hres⟩ := bind_some hres
                refine JL.eff (ef_callm (T := T37 a19 x18.1.length cp20 x33) 2 Go.Proofs.Try.func37 rfl (by kernel_rfl) rfl rfl (fun w fp hs => c37 hs rfl hx33)) rfl ?_
                rintro _ _ ⟨_, _, ⟨l34, rfl, rfl, rfl⟩, rfl⟩
                refine JL.val (yl_assign rfl) rfl ?_
                refine JL.nil ?_
                refine JE.weak (env' := [(1, .int .i64 q1), (2, ptrAt (some ⟨g1, 0, none⟩) 0), (6, .slice a9 x8.1.length cp10), (7, .int .i64 x8.2), (9, .slice a19 x18.1.length cp20), (12, .int .i64 x33.1)]) (es' := [boxO 24 g1 [.int .i64 q0.W, .int .i64 q0.H, .slice a_0_2 q0.Breaks.length c_0_2], rowT 2 eI64 a9 x8.1.length cp10 x8.1, rowT 2 eI64 a19 x18.1.length cp20 x33.2]) [0, 1, 2] ?_ ⟨rfl, rfl, rfl, rfl, rfl, rfl, trivial⟩ (by decide) rfl
                refine JE.code ?_
                refine JX.seq ?_
                refine JX.region ?_
                refine JL.val (yl_assign rfl) rfl ?_
                refine JL.nil ?_
                refine JE.code ?_
                refine JX.seq ?_
                refine JX.region ?_
                refine JL.val (yl_move rfl) rfl ?_
                refine JL.val (yl_move rfl) rfl ?_
                obtain ⟨x35, hx35, hres⟩ := bind_some hres
                refine JL.eff (ef_call (T := T38 x35) Go.Proofs.Try.func38 rfl (by kernel_rfl) rfl (fun w hC => c38 (rd_row hC 2 rfl) l34 (ln_row hC 2 rfl) hx35)) rfl ?_
                rintro _ _ ⟨_, ⟨rfl, rfl⟩, rfl⟩
                refine JL.val (yl_assign rfl) rfl ?_
                refine JL.nil ?_
                refine JE.weak (env' := [(1, .int .i64 q1), (2, ptrAt (some ⟨g1, 0, none⟩) 0), (6, .slice a9 x8.1.length cp10), (7, .int .i64 x8.2), (9, .slice a19 x18.1.length cp20), (12, .int .i64 x33.1), (13, .int .i64 x35)]) (es' := [boxO 24 g1 [.int .i64 q0.W, .int .i64 q0.H, .slice a_0_2 q0.Breaks.length c_0_2], rowT 2 eI64 a9 x8.1.length cp10 x8.1, rowT 2 eI64 a19 x18.1.length cp20 x33.2]) [0, 1, 2] ?_ ⟨rfl, rfl, rfl, rfl, rfl, rfl, rfl, trivial⟩ (by decide) rfl
                refine JE.code ?_
                refine JX.seq ?_
                refine JX.seq ?_
                refine JX.region ?_
                refine JL.val (yl_move rfl) rfl ?_
                refine JL.val (yl_lss rfl rfl) rfl ?_
                refine JL.nil ?_
                refine JE.code ?_
                rcases cond_some hres with ⟨hb, hres⟩ | ⟨hb, hres⟩
                · refine JX.condT rfl hb ?_
                  refine JX.seq ?_
                  refine JX.region ?_
                  refine JL.val (yl_assign rfl) rfl ?_
                  refine JL.nil ?_
                  refine JE.weak (env' := [(4, .bool false)]) (es' := []) [] ?_ ⟨rfl, trivial⟩ (by decide) rfl
                  refine JE.code ?_
                  refine JX.ret ?_
                  obtain rfl := Option.some.inj hres
                  refine JE.ret (rs := [.tmp 4]) (vs := [.bool false]) rfl ⟨rfl, trivial⟩ ?_
                  exact fun w' hb hs => ⟨_, _, ⟨rfl, rfl⟩, rfl, hb, hs.sel [] _ (by decide) rfl⟩
                · refine JX.condF rfl hb ?_
                  refine JX.skip ?_
                  refine JE.code ?_
                  refine JX.seq ?_
                  refine JX.seq ?_
                  refine JX.region ?_
                  refine JL.val (yl_move rfl) rfl ?_
                  refine JL.val (yl_move rfl) rfl ?_
                  refine JL.val (yl_neq rfl rfl) rfl ?_
                  refine JL.nil ?_
                  refine JE.code ?_
                  rcases cond_some hres with ⟨hb, hres⟩ | ⟨hb, hres⟩
                  · refine JX.condT rfl hb ?_
                    refine JX.seq ?_
                    refine JX.region ?_
                    refine JL.val (yl_assign rfl) rfl ?_
                    refine JL.nil ?_
                    refine JE.weak (env' := [(4, .bool false)]) (es' := []) [] ?_ ⟨rfl, trivial⟩ (by decide) rfl
                    refine JE.code ?_
                    refine JX.ret ?_
                    obtain rfl := Option.some.inj hres
                    refine JE.ret (rs := [.tmp 4]) (vs := [.bool false]) rfl ⟨rfl, trivial⟩ ?_
                    exact fun w' hb hs => ⟨_, _, ⟨rfl, rfl⟩, rfl, hb, hs.sel [] _ (by decide) rfl⟩
                  · refine JX.condF rfl hb ?_
                    refine JX.skip ?_
                    refine JE.code ?_
                    refine JX.seq ?_
                    refine JX.region ?_
                    refine JL.val (yl_loadn Go.Proofs.Try.underlying24 rfl i24 rfl (fun w hC => rd_box hC 0 rfl) rfl (i24s).symm i24p) rfl ?_
                    obtain ⟨x36, hx36, hres⟩ := bind_some hres
                    refine JL.eff (ef_call (vs := [.agg #[.int .i64 q0.W, .int .i64 q0.H, .slice a_0_2 q0.Breaks.length c_0_2]]) (T := T17 x36) Go.Proofs.Try.func17 rfl (by kernel_rfl) rfl (fun w hC => c17 (q0 := q0) (rd_arg g_0_2 hC) rfl k_0_2 hx36)) rfl ?_
                    rintro _ _ ⟨_, ⟨a37, _, cp38, rfl, rfl, rfl⟩, rfl⟩
                    refine JL.val (yl_move rfl) rfl ?_
                    obtain ⟨x40, hx40, hres⟩ := bind_some hres
                    refine JL.eff (ef_call (vs := [.agg #[.int .i64 x36.W, .int .i64 x36.H, .slice a37 x36.Breaks.length cp38], .int .i64 q1]) (T := T40 x40) Go.Proofs.Try.func40 rfl (by kernel_rfl) rfl (fun w hC => c40 (q0 := x36) (rd_row hC 3 rfl) rfl (ln_row hC 3 rfl) hx40)) rfl ?_
                    rintro _ _ ⟨_, ⟨a41, _, cp42, rfl, rfl, rfl⟩, rfl⟩
                    refine JL.val (yl_move rfl) rfl ?_
                    refine JL.val (yl_extract rfl rfl) rfl ?_
                    refine JL.val (yl_extract rfl rfl) rfl ?_
                    refine JL.val (yl_assign rfl) rfl ?_
                    refine JL.val (yl_assign rfl) rfl ?_
                    refine JL.nil ?_
                    refine JE.weak (env' := [(6, .slice a9 x8.1.length cp10), (7, .int .i64 x8.2), (9, .slice a19 x18.1.length cp20), (12, .int .i64 x33.1), (14, .slice a41 x40.1.length cp42), (15, .int .i64 x40.2)]) (es' := [rowT 2 eI64 a9 x8.1.length cp10 x8.1, rowT 2 eI64 a19 x18.1.length cp20 x33.2, rowT 2 eI64 a41 x40.1.length cp42 x40.1]) [1, 2, 4] ?_ ⟨rfl, rfl, rfl, rfl, rfl, rfl, trivial⟩ (by decide) rfl
                    refine JE.code ?_
                    refine JX.seq ?_
                    refine JX.seq ?_
                    refine JX.region ?_
                    refine JL.val (yl_move rfl) rfl ?_
                    refine JL.val (yl_move rfl) rfl ?_
                    obtain ⟨x44, hx44, hres⟩ := bind_some hres
                    refine JL.eff (ef_call (T := T34 x44) Go.Proofs.Try.func34 rfl (by kernel_rfl) rfl (fun w hC => c34 (rd_row hC 2 rfl) rfl (ln_row hC 2 rfl) (rd_row hC 0 rfl) rfl (ln_row hC 0 rfl) hx44)) rfl ?_
                    rintro _ _ ⟨_, ⟨rfl, rfl⟩, rfl⟩
                    refine JL.val (yl_not rfl) rfl ?_
                    refine JL.val (yl_move rfl) rfl ?_
                    refine JL.cut (K := fun J => J [(9, .slice a19 x18.1.length cp20), (12, .int .i64 x33.1), (92, .bool (!x44 || (x40.2 != x8.2)))] [rowT 2 eI64 a19 x18.1.length cp20 x33.2]) 4 ?_ ?_
                    · refine JL.nil ?_
                      refine JE.weak (env' := [(9, .slice a19 x18.1.length cp20), (12, .int .i64 x33.1), (92, .bool (!x44 || (x40.2 != x8.2)))]) (es' := [rowT 2 eI64 a19 x18.1.length cp20 x33.2]) [0] ?_ ⟨rfl, rfl, rfl, trivial⟩ (by decide) rfl
                      refine JE.code ?_
                      rcases cond_some hres with ⟨hb, hres⟩ | ⟨hb, hres⟩
                      · refine JX.condT rfl hb ?_
                        refine JX.seq ?_
                        refine JX.region ?_
                        refine JL.val (yl_assign rfl) rfl ?_
                        refine JL.nil ?_
                        refine JE.weak (env' := [(4, .bool false)]) (es' := []) [] ?_ ⟨rfl, trivial⟩ (by decide) rfl
                        refine JE.code ?_
                        refine JX.ret ?_
                        obtain rfl := Option.some.inj hres
                        refine JE.ret (rs := [.tmp 4]) (vs := [.bool false]) rfl ⟨rfl, trivial⟩ ?_
                        exact fun w' hb hs => ⟨_, _, ⟨rfl, rfl⟩, rfl, hb, hs.sel [] _ (by decide) rfl⟩
                      · refine JX.condF rfl hb ?_
                        refine JX.skip ?_
                        refine JE.code ?_
                        refine JX.seq ?_
                        refine JX.region ?_
                        refine JL.val (yl_assign rfl) rfl ?_
                        refine JL.nil ?_
                        refine JE.code ?_
                        refine JX.seq ?_
                        refine JX.region ?_
                        refine JL.val (yl_move rfl) rfl ?_
                        refine JL.val (yl_move rfl) rfl ?_
                        obtain ⟨x45, hx45, hres⟩ := bind_some hres
                        refine JL.eff (ef_call (T := T38 x45) Go.Proofs.Try.func38 rfl (by kernel_rfl) rfl (fun w hC => c38 (rd_row hC 0 rfl) l34 (ln_row hC 0 rfl) hx45)) rfl ?_
                        rintro _ _ ⟨_, ⟨rfl, rfl⟩, rfl⟩
                        refine JL.val (yl_assign rfl) rfl ?_
                        refine JL.nil ?_
                        refine JE.weak (env' := [(12, .int .i64 x33.1), (13, .int .i64 x45)]) (es' := []) [] ?_ ⟨rfl, rfl, trivial⟩ (by decide) rfl
                        refine JE.code ?_
                        refine JX.seq ?_
                        refine JX.seq ?_
                        refine JX.region ?_
                        refine JL.val (yl_move rfl) rfl ?_
                        refine JL.val (yl_lss rfl rfl) rfl ?_
                        refine JL.nil ?_
                        refine JE.code ?_
                        rcases cond_some hres with ⟨hb, hres⟩ | ⟨hb, hres⟩
                        · refine JX.condT rfl hb ?_
                          refine JX.seq ?_
                          refine JX.region ?_
                          refine JL.val (yl_assign rfl) rfl ?_
                          refine JL.nil ?_
                          refine JE.code ?_
                          refine JX.ret ?_
                          obtain rfl := Option.some.inj hres
                          refine JE.ret (rs := [.tmp 4]) (vs := [.bool false]) rfl ⟨rfl, trivial⟩ ?_
                          exact fun w' hb hs => ⟨_, _, ⟨rfl, rfl⟩, rfl, hb, hs.sel [] _ (by decide) rfl⟩
                        · refine JX.condF rfl hb ?_
                          refine JX.skip ?_
                          refine JE.code ?_
                          refine JX.seq ?_
                          refine JX.seq ?_
                          refine JX.region ?_
                          refine JL.val (yl_move rfl) rfl ?_
                          refine JL.val (yl_move rfl) rfl ?_
                          refine JL.val (yl_neq rfl rfl) rfl ?_
                          refine JL.nil ?_
                          refine JE.code ?_
                          rcases cond_some hres with ⟨hb, hres⟩ | ⟨hb, hres⟩
                          · refine JX.condT rfl hb ?_
                            refine JX.seq ?_
                            refine JX.region ?_
                            refine JL.val (yl_assign rfl) rfl ?_
                            refine JL.nil ?_
                            refine JE.code ?_
                            refine JX.ret ?_
                            obtain rfl := Option.some.inj hres
                            refine JE.ret (rs := [.tmp 4]) (vs := [.bool false]) rfl ⟨rfl, trivial⟩ ?_
                            exact fun w' hb hs => ⟨_, _, ⟨rfl, rfl⟩, rfl, hb, hs.sel [] _ (by decide) rfl⟩
                          · refine JX.condF rfl hb ?_
                            refine JX.skip ?_
                            refine JE.code ?_
                            refine JX.seq ?_
                            refine JX.region ?_
                            refine JL.val (yl_assign rfl) rfl ?_
                            refine JL.nil ?_
                            refine JE.code ?_
                            refine JX.ret ?_
                            obtain rfl := Option.some.inj hres
                            refine JE.ret (rs := [.tmp 4]) (vs := [.bool true]) rfl ⟨rfl, trivial⟩ ?_
                            exact fun w' hb hs => ⟨_, _, ⟨rfl, rfl⟩, rfl, hb, hs.sel [] _ (by decide) rfl⟩
                    · intro K
                      rcases Bool.eq_false_or_eq_true (!x44) with hb | hb
                      · refine JL.set (d := 88) (v := .bool true) (congrArg (fun b => some (Value.bool b)) hb) ?_
                        refine JL.gskip rfl rfl rfl rfl ?_
                        refine JL.gskip rfl rfl rfl rfl ?_
                        refine JL.gskip rfl rfl rfl rfl ?_
                        refine JL.val (yl_pick_true rfl rfl) rfl ?_
                        exact JL.weak [1] K ⟨rfl, rfl, (by rw [hb]; rfl), trivial⟩ (by decide) rfl
                      · refine JL.set (d := 88) (v := .bool false) (congrArg (fun b => some (Value.bool b)) hb) ?_
                        refine JL.gval rfl rfl (yl_move rfl) rfl ?_
                        refine JL.gval rfl rfl (yl_move rfl) rfl ?_
                        refine JL.gval rfl rfl (yl_neq rfl rfl) rfl ?_
                        refine JL.val (yl_pick_false rfl rfl) rfl ?_
                        exact JL.weak [1] K ⟨rfl, rfl, (by rw [hb]; rfl), trivial⟩ (by decide) rfl
            · intro K
              rcases Bool.eq_false_or_eq_true (cb31) with hb | hb
              · refine JL.set (d := 61) (v := .bool true) (congrArg (fun b => some (Value.bool b)) hb) ?_
                refine JL.gskip rfl rfl rfl rfl ?_
                refine JL.gskip rfl rfl rfl rfl ?_
                refine JL.gskip rfl rfl rfl rfl ?_
                refine JL.val (yl_pick_true rfl rfl) rfl ?_
                exact JL.weak [0, 1, 2] K ⟨rfl, rfl, rfl, rfl, rfl, (by rw [hb]; rfl), trivial⟩ (by decide) rfl
              · refine JL.set (d := 61) (v := .bool false) (congrArg (fun b => some (Value.bool b)) hb) ?_
                refine JL.gval rfl rfl (yl_move rfl) rfl ?_
                refine JL.gval rfl rfl (yl_move rfl) rfl ?_
                refine JL.gval rfl rfl (yl_neq rfl rfl) rfl ?_
                refine JL.val (yl_pick_false rfl rfl) rfl ?_
                exact JL.weak [0, 1, 2] K ⟨rfl, rfl, rfl, rfl, rfl, (by rw [hb]; rfl), trivial⟩ (by decide) rfl
          · intro K
            rcases cond_some hcb31 with ⟨hb, hres⟩ | ⟨hb, hres⟩
            · refine JL.set (d := 55) (v := .bool true) (congrArg (fun b => some (Value.bool b)) hb) ?_
              refine JL.gskip rfl rfl rfl rfl ?_
              refine JL.gskip rfl rfl rfl rfl ?_
              refine JL.gskip rfl rfl rfl rfl ?_
              refine JL.gskip rfl rfl rfl rfl ?_
              refine JL.val (yl_pick_true rfl rfl) rfl ?_
              have he := Option.some.inj hres
              exact JL.weak [0, 1, 2] K ⟨rfl, rfl, rfl, rfl, rfl, rfl, (by rw [← he]; rfl), trivial⟩ (by decide) rfl
            · refine JL.set (d := 55) (v := .bool false) (congrArg (fun b => some (Value.bool b)) hb) ?_
              refine JL.gval rfl rfl (yl_move rfl) rfl ?_
              refine JL.gval rfl rfl (yl_move rfl) rfl ?_
              obtain ⟨x32, hx32, hres⟩ := bind_some hres
              refine JL.geff rfl rfl (ef_call (T := T34 x32) Go.Proofs.Try.func34 rfl (by kernel_rfl) rfl (fun w hC => c34 (rd_row hC 2 rfl) rfl (ln_row hC 2 rfl) (rd_row hC 1 rfl) rfl (ln_row hC 1 rfl) hx32)) rfl ?_
              rintro _ _ ⟨_, ⟨rfl, rfl⟩, rfl⟩
              refine JL.gval rfl rfl (yl_not rfl) rfl ?_
              refine JL.val (yl_pick_false rfl rfl) rfl ?_
              have he := Option.some.inj hres
              exact JL.weak [0, 1, 2] K ⟨rfl, rfl, rfl, rfl, rfl, rfl, (by rw [← he]; rfl), trivial⟩ (by decide) rfl
    · intro K
      rcases Bool.eq_false_or_eq_true (!x22) with hb | hb
      · refine JL.set (d := 40) (v := .bool true) (congrArg (fun b => some (Value.bool b)) hb) ?_
        refine JL.gskip rfl rfl rfl rfl ?_
        refine JL.gskip rfl rfl rfl rfl ?_
        refine JL.gskip rfl rfl rfl rfl ?_
        refine JL.val (yl_pick_true rfl rfl) rfl ?_
        exact JL.weak [0, 1, 2, 3, 4] K ⟨rfl, rfl, rfl, rfl, rfl, rfl, rfl, (by rw [hb]; rfl), trivial⟩ (by decide) rfl
      · refine JL.set (d := 40) (v := .bool false) (congrArg (fun b => some (Value.bool b)) hb) ?_
        refine JL.gval rfl rfl (yl_move rfl) rfl ?_
        refine JL.gval rfl rfl (yl_move rfl) rfl ?_
        refine JL.gval rfl rfl (yl_neq rfl rfl) rfl ?_
        refine JL.val (yl_pick_false rfl rfl) rfl ?_
        exact JL.weak [0, 1, 2, 3, 4] K ⟨rfl, rfl, rfl, rfl, rfl, rfl, rfl, (by rw [hb]; rfl), trivial⟩ (by decide) rfl

end Go.Sh
