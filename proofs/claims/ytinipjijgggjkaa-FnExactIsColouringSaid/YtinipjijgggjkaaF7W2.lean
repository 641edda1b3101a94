/- Walks through functions that the law reaches, printed by program. -/
import Derived.Test.YtinipjijgggjkaaF7W1
set_option linter.unusedVariables false
set_option linter.unusedSimpArgs false
namespace Go.Sh
open Go Go.RowKit
/- impl.IsColouring -/
def sh33_2 (q1 : List Int) (x13 : Int) (x14 : List Bool) : Int → Option (Int ⊕ (Unit ⊕ Bool))
  | x18 => bif decide (x18 < (x14.length : Int)) then (Option.bind (getI x14 x18) fun x19 => Option.bind (bif x19 then (Option.bind (getI q1 x13) fun x22 => Option.bind (getI q1 x18) fun x23 => some (x22 == x23)) else (some false)) fun cb21 => (bif cb21 then (some (.inr (.inr false))) else (some (.inl (w64 (x18 + 1)))))) else (some (.inr (.inl ())))
def sh33_1 (q1 : List Int) (x6 : List (List Bool)) : Int → Option (Int ⊕ (Unit ⊕ Bool))
  | x13 => bif decide (x13 < ((x6.length : Nat) : Int)) then (Option.bind (getI x6 x13) fun x14 => Option.bind (iter (sh33_2 q1 x13 x14) 0) fun y2 => elimS y2 (fun r => some (.inr (.inr r))) fun b2 => (some (.inl (w64 (x13 + 1))))) else (some (.inr (.inl ())))
def sh33 (q0 : SPanel) (q1 : List Int) : Option (Bool) := Option.bind (sh86 q0) fun x3 => Option.bind (bif !x3 then (some true) else (Option.bind (sh97 q0 q1) fun x5 => some !x5)) fun cb4 => (bif cb4 then (some false) else (Option.bind (sh98 q0) fun x6 => Option.bind (iter (sh33_1 q1 x6) 0) fun y1 => elimS y1 (fun r => some r) fun b1 => (some true)))
def T33 (r : Bool) (v : Value) (rs : List Own) : Prop := v = rets [.bool r] ∧ rs = []
set_option maxRecDepth 100000 in
theorem c33 {w : World} {q0 : SPanel} {a_0_2 : Option Addr} {n_0_2 c_0_2 : Nat} (g_0_2 : Rd w a_0_2 (eI64.fl q0.Breaks)) (l_0_2 : q0.Breaks.length = n_0_2) (k_0_2 : n_0_2 ≤ c_0_2) {q1 : List Int} {a_1 : Option Addr} {n_1 c_1 : Nat} (g_1 : Rd w a_1 (eI64.fl q1)) (l_1 : q1.length = n_1) (k_1 : n_1 ≤ c_1) {r : Bool} (hres : sh33 q0 q1 = some r) : Calls Go.Proofs.Try.prog 33 [.agg #[.int .i64 q0.W, .int .i64 q0.H, .slice a_0_2 n_0_2 c_0_2], .slice a_1 n_1 c_1].toArray w (Ret w (T33 r)) := by
  subst l_0_2
  subst l_1
  unfold sh33 at hres
  refine calls_of (n := 47) (M := []) (es := []) Go.Proofs.Try.func33 rfl rfl rfl (Sep.nil _ _ _) ?_
  refine JX.seq ?_
  refine JX.region ?_
  refine JL.eff (ef_box rfl rfl) rfl ?_
  rintro _ _ ⟨g1, rfl, rfl⟩
  refine JL.val (yl_assign rfl) rfl ?_
  refine JL.nil ?_
  refine JE.code ?_
  refine JX.seq ?_
  refine JX.seq ?_
  refine JX.region ?_
  refine JL.val (yl_loadn Go.Proofs.Try.underlying28 rfl i28 rfl (fun w hC => rd_box hC 0 rfl) rfl (i28s).symm i28p) rfl ?_
  obtain ⟨x3, hx3, hres⟩ := bind_some hres
  refine JL.eff (ef_call (vs := [.agg #[.int .i64 q0.W, .int .i64 q0.H, .slice a_0_2 q0.Breaks.length c_0_2]]) (T := T86 x3) Go.Proofs.Try.func86 rfl (by kernel_rfl) rfl (fun w hC => c86 (q0 := q0) (rd_arg g_0_2 hC) rfl k_0_2 hx3)) rfl ?_
  rintro _ _ ⟨_, ⟨rfl, rfl⟩, rfl⟩
  refine JL.val (yl_not rfl) rfl ?_
  refine JL.val (yl_move rfl) rfl ?_
  obtain ⟨cb4, hcb4, hres⟩ := bind_some hres
  refine JL.cut (K := fun J => J [(1, .slice a_1 q1.length c_1), (2, ptrAt (some ⟨g1, 0, none⟩) 0), (17, .bool cb4)] [boxO 28 g1 [.int .i64 q0.W, .int .i64 q0.H, .slice a_0_2 q0.Breaks.length c_0_2]]) 5 ?_ ?_
  · refine JL.nil ?_
    refine JE.weak (env' := [(1, .slice a_1 q1.length c_1), (2, ptrAt (some ⟨g1, 0, none⟩) 0), (17, .bool cb4)]) (es' := [boxO 28 g1 [.int .i64 q0.W, .int .i64 q0.H, .slice a_0_2 q0.Breaks.length c_0_2]]) [0] ?_ ⟨rfl, rfl, rfl, trivial⟩ (by decide) rfl
    refine JE.code ?_
    rcases cond_some hres with ⟨hb, hres⟩ | ⟨hb, hres⟩
    · refine JX.condT rfl hb ?_
      refine JX.seq ?_
      refine JX.region ?_
      refine JL.val (yl_assign rfl) rfl ?_
      refine JL.nil ?_
      refine JE.weak (env' := [(4, .bool false)]) (es' := []) [] ?_ ⟨rfl, trivial⟩ (by decide) rfl
      refine JE.code ?_
      refine JX.ret ?_
      obtain rfl := Option.some.inj hres
      refine JE.ret (rs := [.tmp 4]) (vs := [.bool false]) rfl ⟨rfl, trivial⟩ ?_
      exact fun w' hb hs => ⟨_, _, ⟨rfl, rfl⟩, rfl, hb, hs.sel [] _ (by decide) rfl⟩
    · refine JX.condF rfl hb ?_
      refine JX.skip ?_
      refine JE.code ?_
      refine JX.seq ?_
      refine JX.seq ?_
      refine JX.region ?_
      refine JL.val (yl_loadn Go.Proofs.Try.underlying28 rfl i28 rfl (fun w hC => rd_box hC 0 rfl) rfl (i28s).symm i28p) rfl ?_
      obtain ⟨x6, hx6, hres⟩ := bind_some hres
      refine JL.eff (ef_call (vs := [.agg #[.int .i64 q0.W, .int .i64 q0.H, .slice a_0_2 q0.Breaks.length c_0_2]]) (T := T98 x6) Go.Proofs.Try.func98 rfl (by kernel_rfl) rfl (fun w hC => c98 (q0 := q0) (rd_arg g_0_2 hC) rfl k_0_2 hx6)) rfl ?_
      rintro _ _ ⟨_, ⟨a7, _, cp8, hs10, rfl, hi11, rfl, rfl⟩, rfl⟩
      refine JL.val (yl_len_slice Go.Proofs.Try.underlying99 rfl) rfl ?_
      refine JL.val (yl_move rfl) rfl ?_
      refine JL.nil ?_
      refine JE.weak (env' := [(1, .slice a_1 q1.length c_1), (19, .slice a7 x6.length cp8), (20, .int .i64 ((x6.length : Nat) : Int)), (21, .int .i64 0)]) (es' := [rowT 104 eHd a7 x6.length cp8 hs10, innO 4 eBool none hs10 x6]) [1, 2] ?_ ⟨rfl, rfl, rfl, rfl, trivial⟩ (by decide) rfl
      refine JE.code ?_
      refine JX.block ?_
      obtain ⟨y1, hy1, hresO1⟩ := bind_some hres
      refine JX.loop (I := fun (s1 : Int) aa ww => St w [] 47 [(1, .slice a_1 q1.length c_1), (19, .slice a7 x6.length cp8), (20, .int .i64 ((x6.length : Nat) : Int)), (21, .int .i64 s1)] [rowT 104 eHd a7 x6.length cp8 hs10, innO 4 eBool none hs10 x6] aa ww) (sh33_1 q1 x6) hy1 (fun a w h => h.weak ⟨rfl, rfl, rfl, rfl, trivial⟩ [0, 1] (by decide) rfl) ?_
      rintro x13 o1 hres hox1 aa ww hS
      refine (?_ : JX Go.Proofs.Try.prog w [] 47 _ _ [(1, .slice a_1 q1.length c_1), (19, .slice a7 x6.length cp8), (20, .int .i64 ((x6.length : Nat) : Int)), (21, .int .i64 x13)] [rowT 104 eHd a7 x6.length cp8 hs10, innO 4 eBool none hs10 x6] _) aa ww hS
      clear hS
      unfold sh33_1 at hres
      refine JX.seq ?_
      refine JX.region ?_
      refine JL.val (yl_lss rfl rfl) rfl ?_
      refine JL.nil ?_
      refine JE.code ?_
      refine JX.seq ?_
      rcases cond_some hres with ⟨hb, hres⟩ | ⟨hb, hres⟩
      · refine JX.condT rfl hb ?_
        refine JX.skip ?_
        refine JE.code ?_
        refine JX.seq ?_
        refine JX.block ?_
        refine JX.seq ?_
        refine JX.region ?_
        refine JL.val (yl_move rfl) rfl ?_
        obtain ⟨x14, hx14, hres⟩ := bind_some hres
        obtain ⟨ha15, hc16, hhx14⟩ := Inn.sub hi11 hx14
        refine JL.val (yl_idxT Go.Proofs.Try.underlying99 i104 i104s rfl rfl hhx14 (Inn.len hi11) (fun w hC => rd_row hC 0 rfl)) rfl ?_
        refine JL.val (yl_loadT0 (z := ⟨ha15, x14.length, hc16⟩) Go.Proofs.Try.underlying104 rfl rfl hhx14 (fun w hC => rd_row hC 0 rfl) rfl) rfl ?_
        refine JL.val (yl_assign rfl) rfl ?_
        refine JL.val (yl_assign rfl) rfl ?_
        refine JL.nil ?_
        refine JE.weak (env' := [(1, .slice a_1 q1.length c_1), (5, .int .i64 x13), (6, .slice ha15 x14.length hc16), (19, .slice a7 x6.length cp8), (20, .int .i64 ((x6.length : Nat) : Int)), (21, .int .i64 x13)]) (es' := [rowT 104 eHd a7 x6.length cp8 hs10, innO 4 eBool none hs10 x6]) [0, 1] ?_ ⟨rfl, rfl, rfl, rfl, rfl, rfl, trivial⟩ (by decide) rfl
        refine JE.code ?_
        refine JX.seq ?_
        refine JX.region ?_
        refine JL.val (yl_move rfl) rfl ?_
        refine JL.val (yl_len_slice Go.Proofs.Try.underlying104 rfl) rfl ?_
        refine JL.val (yl_move rfl) rfl ?_
        refine JL.nil ?_
        refine JE.code ?_
        refine JX.block ?_
        obtain ⟨y2, hy2, hresO2⟩ := bind_some hres
        refine JX.loop (I := fun (s2 : Int) aa ww => St w [] 47 [(1, .slice a_1 q1.length c_1), (5, .int .i64 x13), (19, .slice a7 x6.length cp8), (20, .int .i64 ((x6.length : Nat) : Int)), (21, .int .i64 x13), (26, .slice ha15 x14.length hc16), (27, .int .i64 (x14.length : Int)), (28, .int .i64 s2)] [rowT 104 eHd a7 x6.length cp8 hs10, innO 4 eBool none hs10 x6] aa ww) (sh33_2 q1 x13 x14) hy2 (fun a w h => h.weak ⟨rfl, rfl, rfl, rfl, rfl, rfl, rfl, rfl, trivial⟩ [0, 1] (by decide) rfl) ?_
        rintro x18 o2 hres hox2 aa ww hS
        refine (?_ : JX Go.Proofs.Try.prog w [] 47 _ _ [(1, .slice a_1 q1.length c_1), (5, .int .i64 x13), (19, .slice a7 x6.length cp8), (20, .int .i64 ((x6.length : Nat) : Int)), (21, .int .i64 x13), (26, .slice ha15 x14.length hc16), (27, .int .i64 (x14.length : Int)), (28, .int .i64 x18)] [rowT 104 eHd a7 x6.length cp8 hs10, innO 4 eBool none hs10 x6] _) aa ww hS
        clear hS
        unfold sh33_2 at hres
        refine JX.seq ?_
        refine JX.region ?_
        refine JL.val (yl_lss rfl rfl) rfl ?_
        refine JL.nil ?_
        refine JE.code ?_
        refine JX.seq ?_
        rcases cond_some hres with ⟨hb, hres⟩ | ⟨hb, hres⟩
        · refine JX.condT rfl hb ?_
          refine JX.skip ?_
          refine JE.code ?_
          refine JX.seq ?_
          refine JX.block ?_
          refine JX.seq ?_
          refine JX.region ?_
          refine JL.val (yl_move rfl) rfl ?_
          obtain ⟨x19, hx19, hres⟩ := bind_some hres
          refine JL.val (yl_idxT Go.Proofs.Try.underlying104 i4 i4s rfl rfl hx19 rfl (fun w hC => (RdI.sub (rd_inn hC 1 rfl) hx14 hhx14))) rfl ?_
          refine JL.val (yl_loadT0 Go.Proofs.Try.underlying4 rfl rfl hx19 (fun w hC => (RdI.sub (rd_inn hC 1 rfl) hx14 hhx14)) rfl) rfl ?_
          refine JL.val (yl_assign rfl) rfl ?_
          refine JL.val (yl_assign rfl) rfl ?_
          refine JL.nil ?_
          refine JE.weak (env' := [(1, .slice a_1 q1.length c_1), (5, .int .i64 x13), (7, .int .i64 x18), (8, .bool x19), (19, .slice a7 x6.length cp8), (20, .int .i64 ((x6.length : Nat) : Int)), (21, .int .i64 x13), (26, .slice ha15 x14.length hc16), (27, .int .i64 (x14.length : Int)), (28, .int .i64 x18)]) (es' := [rowT 104 eHd a7 x6.length cp8 hs10, innO 4 eBool none hs10 x6]) [0, 1] ?_ ⟨rfl, rfl, rfl, rfl, rfl, rfl, rfl, rfl, rfl, rfl, trivial⟩ (by decide) rfl
          refine JE.code ?_
          refine JX.seq ?_
          refine JX.drawH [(0, .pure), (1, .pure), (2, .pure), (3, .pure), (4, .pure), (5, .read), (6, .pure), (7, .pure), (8, .pure), (9, .read), (10, .pure), (11, .pure)] [] [] [0, 1] [] [rowT 104 eHd a7 x6.length cp8 hs10, innO 4 eBool none hs10 x6] mixedP (by kernel_rfl) (by kernel_rfl) (by decide) rfl rfl ?_
          intro wrr20 Nr20 hFr20
          refine JH.pure rfl (yl_move rfl) rfl ?_
          refine JH.pure rfl (yl_move rfl) rfl ?_
          obtain ⟨cb21, hcb21, hres⟩ := bind_some hres
          refine JH.cut (K := fun J => J [(1, .slice a_1 q1.length c_1), (5, .int .i64 x13), (19, .slice a7 x6.length cp8), (20, .int .i64 ((x6.length : Nat) : Int)), (21, .int .i64 x13), (26, .slice ha15 x14.length hc16), (27, .int .i64 (x14.length : Int)), (28, .int .i64 x18), (44, .bool cb21)] []) 10 ?_ ?_
          · refine JH.nil ?_
            refine JE.weak (env' := [(1, .slice a_1 q1.length c_1), (5, .int .i64 x13), (19, .slice a7 x6.length cp8), (20, .int .i64 ((x6.length : Nat) : Int)), (21, .int .i64 x13), (26, .slice ha15 x14.length hc16), (27, .int .i64 (x14.length : Int)), (28, .int .i64 x18), (44, .bool cb21)]) (es' := [rowT 104 eHd a7 x6.length cp8 hs10, innO 4 eBool none hs10 x6]) [0, 1] ?_ ⟨rfl, rfl, rfl, rfl, rfl, rfl, rfl, rfl, rfl, trivial⟩ (by decide) rfl
            refine JE.code ?_
            rcases cond_some hres with ⟨hb, hres⟩ | ⟨hb, hres⟩
            · refine JX.condT rfl hb ?_
              refine JX.seq ?_
              refine JX.region ?_
              refine JL.val (yl_assign rfl) rfl ?_
              refine JL.nil ?_
              refine JE.weak (env' := [(4, .bool false)]) (es' := []) [] ?_ ⟨rfl, trivial⟩ (by decide) rfl
              refine JE.code ?_
              refine JX.ret ?_
              refine JE.qbr ?_
              refine JE.qbr ?_
              refine JE.qbr ?_
              refine JE.qbr ?_
              have hres := elimS_inr hresO2 (hox2 _ (Option.some.inj hres).symm)
              have hres := elimS_inr hresO1 (hox1 _ (Option.some.inj hres).symm)
              obtain rfl := Option.some.inj hres
              refine JE.ret (rs := [.tmp 4]) (vs := [.bool false]) rfl ⟨rfl, trivial⟩ ?_
              exact fun w' hb hs => ⟨_, _, ⟨rfl, rfl⟩, rfl, hb, hs.sel [] _ (by decide) rfl⟩
            · refine JX.condF rfl hb ?_
              refine JX.skip ?_
              refine JE.code ?_
              refine JX.region ?_
              refine JL.val (yl_add rfl rfl) rfl ?_
              refine JL.val (yl_move rfl) rfl ?_
              refine JL.nil ?_
              refine JE.cont hres ?_
              exact fun a w h => h.weak ⟨rfl, rfl, rfl, rfl, rfl, rfl, rfl, rfl, trivial⟩ [0, 1] (by decide) rfl
          · intro K
            rcases cond_some hcb21 with ⟨hb, hres⟩ | ⟨hb, hres⟩
            · refine JH.set (d := 34) (v := .bool true) (congrArg (fun b => some (Value.bool b)) hb) ?_
              refine JH.gpure rfl rfl rfl (yl_move rfl) rfl ?_
              refine JH.gpure rfl rfl rfl (yl_move rfl) rfl ?_
              obtain ⟨x22, hx22, hres⟩ := bind_some hres
              refine JH.gpure rfl rfl rfl (yl_idxQ Go.Proofs.Try.underlying22 i2 i2s rfl rfl hx22 rfl (rd_arg g_1 hFr20.cl) rfl) rfl ?_
              refine JH.gread rfl rfl rfl (yl_loadT0 Go.Proofs.Try.underlying2 rfl rfl hx22 (fun w hw => hFr20.arg g_1 hw) rfl) rfl ?_
              refine JH.gpure rfl rfl rfl (yl_move rfl) rfl ?_
              refine JH.gpure rfl rfl rfl (yl_move rfl) rfl ?_
              obtain ⟨x23, hx23, hres⟩ := bind_some hres
              refine JH.gpure rfl rfl rfl (yl_idxQ Go.Proofs.Try.underlying22 i2 i2s rfl rfl hx23 rfl (rd_arg g_1 hFr20.cl) rfl) rfl ?_
              refine JH.gread rfl rfl rfl (yl_loadT0 Go.Proofs.Try.underlying2 rfl rfl hx23 (fun w hw => hFr20.arg g_1 hw) rfl) rfl ?_
              refine JH.gpure rfl rfl rfl (yl_eql rfl rfl) rfl ?_
              refine JH.pure rfl (yl_pick_true rfl rfl) rfl ?_
              have he := Option.some.inj hres
              exact JH.weak [] K ⟨rfl, rfl, rfl, rfl, rfl, rfl, rfl, rfl, (by rw [← he]; rfl), trivial⟩ (by decide) rfl
            · refine JH.set (d := 34) (v := .bool false) (congrArg (fun b => some (Value.bool b)) hb) ?_
              refine JH.gskip rfl rfl rfl rfl rfl rfl ?_
              refine JH.gskip rfl rfl rfl rfl rfl rfl ?_
              refine JH.gskip rfl rfl rfl rfl rfl rfl ?_
              refine JH.gskip rfl rfl rfl rfl rfl rfl ?_
              refine JH.gskip rfl rfl rfl rfl rfl rfl ?_
              refine JH.gskip rfl rfl rfl rfl rfl rfl ?_
              refine JH.gskip rfl rfl rfl rfl rfl rfl ?_
              refine JH.gskip rfl rfl rfl rfl rfl rfl ?_
              refine JH.gskip rfl rfl rfl rfl rfl rfl ?_
              refine JH.pure rfl (yl_pick_false rfl rfl) rfl ?_
              have he := Option.some.inj hres
              exact JH.weak [] K ⟨rfl, rfl, rfl, rfl, rfl, rfl, rfl, rfl, (by rw [← he]; rfl), trivial⟩ (by decide) rfl
        · refine JX.condF rfl hb ?_
          refine JX.exit ?_
          refine JE.qb rfl ?_
          obtain ⟨b2, hb2⟩ : ∃ b : Unit, b = () := ⟨_, rfl⟩
          have hy2 : Sum.inl b2 = y2 := by rw [hb2]; exact hox2 _ (Option.some.inj hres).symm
          have hres := elimS_inl hresO2 hy2
          refine JE.weak (env' := [(1, .slice a_1 q1.length c_1), (19, .slice a7 x6.length cp8), (20, .int .i64 ((x6.length : Nat) : Int)), (21, .int .i64 x13)]) (es' := [rowT 104 eHd a7 x6.length cp8 hs10, innO 4 eBool none hs10 x6]) [0, 1] ?_ ⟨(by subst hb2; rfl), (by subst hb2; rfl), (by subst hb2; rfl), (by subst hb2; rfl), trivial⟩ (by decide) (by subst hb2; rfl)
          refine JE.code ?_
          refine JX.region ?_
          refine JL.val (yl_add rfl rfl) rfl ?_
          refine JL.val (yl_move rfl) rfl ?_
          refine JL.nil ?_
          refine JE.cont hres ?_
          exact fun a w h => h.weak ⟨rfl, rfl, rfl, rfl, trivial⟩ [0, 1] (by decide) rfl
      · refine JX.condF rfl hb ?_
        refine JX.exit ?_
        refine JE.qb rfl ?_
        obtain ⟨b1, hb1⟩ : ∃ b : Unit, b = () := ⟨_, rfl⟩
        have hy1 : Sum.inl b1 = y1 := by rw [hb1]; exact hox1 _ (Option.some.inj hres).symm
        have hres := elimS_inl hresO1 hy1
        refine JE.weak (env' := []) (es' := []) [] ?_ trivial (by decide) (by subst hb1; rfl)
        refine JE.code ?_
        refine JX.seq ?_
        refine JX.region ?_
        refine JL.val (yl_assign rfl) rfl ?_
        refine JL.nil ?_
        refine JE.code ?_
        refine JX.ret ?_
        obtain rfl := Option.some.inj hres
        refine JE.ret (rs := [.tmp 4]) (vs := [.bool true]) rfl ⟨rfl, trivial⟩ ?_
        exact fun w' hb hs => ⟨_, _, ⟨rfl, rfl⟩, rfl, hb, hs.sel [] _ (by decide) rfl⟩
  · intro K
    rcases cond_some hcb4 with ⟨hb, hres⟩ | ⟨hb, hres⟩
    · refine JL.set (d := 12) (v := .bool true) (congrArg (fun b => some (Value.bool b)) hb) ?_
      refine JL.gskip rfl rfl rfl rfl ?_
      refine JL.gskip rfl rfl rfl rfl ?_
      refine JL.gskip rfl rfl rfl rfl ?_
      refine JL.gskip rfl rfl rfl rfl ?_
      refine JL.val (yl_pick_true rfl rfl) rfl ?_
      have he := Option.some.inj hres
      exact JL.weak [0] K ⟨rfl, rfl, (by rw [← he]; rfl), trivial⟩ (by decide) rfl
    · refine JL.set (d := 12) (v := .bool false) (congrArg (fun b => some (Value.bool b)) hb) ?_
      refine JL.gval rfl rfl (yl_loadn Go.Proofs.Try.underlying28 rfl i28 rfl (fun w hC => rd_box hC 0 rfl) rfl (i28s).symm i28p) rfl ?_
      refine JL.gval rfl rfl (yl_move rfl) rfl ?_
      obtain ⟨x5, hx5, hres⟩ := bind_some hres
      refine JL.geff rfl rfl (ef_call (vs := [.agg #[.int .i64 q0.W, .int .i64 q0.H, .slice a_0_2 q0.Breaks.length c_0_2], .slice a_1 q1.length c_1]) (T := T97 x5) Go.Proofs.Try.func97 rfl (by kernel_rfl) rfl (fun w hC => c97 (q0 := q0) (rd_arg g_0_2 hC) rfl k_0_2 (rd_arg g_1 hC) rfl k_1 hx5)) rfl ?_
      rintro _ _ ⟨_, ⟨rfl, rfl⟩, rfl⟩
      refine JL.gval rfl rfl (yl_not rfl) rfl ?_
      refine JL.val (yl_pick_false rfl rfl) rfl ?_
      have he := Option.some.inj hres
      exact JL.weak [0] K ⟨rfl, rfl, (by rw [← he]; rfl), trivial⟩ (by decide) rfl

/- laws.FnExactIsColouring -/
def sh7 (q0 : SPanel) (q1 : List Int) : Option (Bool) := bif decide (1048576 < (q1.length : Int)) then (some true) else (Option.bind (sh15 q0 1048576) fun x3 => bif decide (x3 < 0) then (some true) else (Option.bind (sh17 q0) fun x4 => Option.bind (sh32 q1) fun x8 => Option.bind (sh31 x4 x8) fun x12 => Option.bind (sh17 q0) fun x13 => Option.bind (sh32 q1) fun x19 => Option.bind (sh33 x13 x19) fun x23 => bif x23 != x12 then (some false) else (Option.bind (sh17 q0) fun x25 => Option.bind (sh19 x13 x25) fun x29 => bif !x29 then (some false) else (Option.bind (sh32 q1) fun x30 => Option.bind (sh34 x19 x30) fun x34 => bif !x34 then (some false) else (some true)))))
def T7 (r : Bool) (v : Value) (rs : List Own) : Prop := v = rets [.bool r] ∧ rs = []
set_option maxRecDepth 100000 in
theorem c7 {w : World} {q0 : SPanel} {a_0_2 : Option Addr} {n_0_2 c_0_2 : Nat} (g_0_2 : Rd w a_0_2 (eI64.fl q0.Breaks)) (l_0_2 : q0.Breaks.length = n_0_2) (k_0_2 : n_0_2 ≤ c_0_2) {q1 : List Int} {a_1 : Option Addr} {n_1 c_1 : Nat} (g_1 : Rd w a_1 (eI64.fl q1)) (l_1 : q1.length = n_1) (k_1 : n_1 ≤ c_1) {r : Bool} (hres : sh7 q0 q1 = some r) : Calls Go.Proofs.Try.prog 7 [.agg #[.int .i64 q0.W, .int .i64 q0.H, .slice a_0_2 n_0_2 c_0_2], .slice a_1 n_1 c_1].toArray w (Ret w (T7 r)) := by
  subst l_0_2
  subst l_1
  unfold sh7 at hres
  refine calls_of (n := 43) (M := []) (es := []) Go.Proofs.Try.func7 rfl rfl rfl (Sep.nil _ _ _) ?_
  refine JX.seq ?_
  refine JX.region ?_
  refine JL.eff (ef_box rfl rfl) rfl ?_
  rintro _ _ ⟨g1, rfl, rfl⟩
  refine JL.val (yl_assign rfl) rfl ?_
  refine JL.nil ?_
  refine JE.code ?_
  refine JX.seq ?_
  refine JX.seq ?_
  refine JX.region ?_
  refine JL.val (yl_move rfl) rfl ?_
  refine JL.val (yl_len_slice Go.Proofs.Try.underlying22 rfl) rfl ?_
  refine JL.val (yl_gtr rfl rfl) rfl ?_
  refine JL.nil ?_
  refine JE.code ?_
  rcases cond_some hres with ⟨hb, hres⟩ | ⟨hb, hres⟩
  · refine JX.condT rfl hb ?_
    refine JX.seq ?_
    refine JX.region ?_
    refine JL.val (yl_assign rfl) rfl ?_
    refine JL.nil ?_
    refine JE.weak (env' := [(4, .bool true)]) (es' := []) [] ?_ ⟨rfl, trivial⟩ (by decide) rfl
    refine JE.code ?_
    refine JX.ret ?_
    obtain rfl := Option.some.inj hres
    refine JE.ret (rs := [.tmp 4]) (vs := [.bool true]) rfl ⟨rfl, trivial⟩ ?_
    exact fun w' hb hs => ⟨_, _, ⟨rfl, rfl⟩, rfl, hb, hs.sel [] _ (by decide) rfl⟩
  · refine JX.condF rfl hb ?_
    refine JX.skip ?_
    refine JE.code ?_
    refine JX.seq ?_
    refine JX.region ?_
    refine JL.val (yl_assign rfl) rfl ?_
    refine JL.nil ?_
    refine JE.code ?_
    refine JX.seq ?_
    refine JX.region ?_
    refine JL.val (yl_loadn Go.Proofs.Try.underlying24 rfl i24 rfl (fun w hC => rd_box hC 0 rfl) rfl (i24s).symm i24p) rfl ?_
    refine JL.val (yl_move rfl) rfl ?_
    obtain ⟨x3, hx3, hres⟩ := bind_some hres
    refine JL.eff (ef_call (vs := [.agg #[.int .i64 q0.W, .int .i64 q0.H, .slice a_0_2 q0.Breaks.length c_0_2], .int .i64 1048576]) (T := T15 x3) Go.Proofs.Try.func15 rfl (by kernel_rfl) rfl (fun w hC => c15 (q0 := q0) (rd_arg g_0_2 hC) rfl k_0_2 hx3)) rfl ?_
    rintro _ _ ⟨_, ⟨rfl, rfl⟩, rfl⟩
    refine JL.val (yl_assign rfl) rfl ?_
    refine JL.nil ?_
    refine JE.weak (env' := [(1, .slice a_1 q1.length c_1), (2, ptrAt (some ⟨g1, 0, none⟩) 0), (5, .int .i64 x3)]) (es' := [boxO 24 g1 [.int .i64 q0.W, .int .i64 q0.H, .slice a_0_2 q0.Breaks.length c_0_2]]) [0] ?_ ⟨rfl, rfl, rfl, trivial⟩ (by decide) rfl
    refine JE.code ?_
    refine JX.seq ?_
    refine JX.seq ?_
    refine JX.region ?_
    refine JL.val (yl_move rfl) rfl ?_
    refine JL.val (yl_lss rfl rfl) rfl ?_
    refine JL.nil ?_
    refine JE.code ?_
    rcases cond_some hres with ⟨hb, hres⟩ | ⟨hb, hres⟩
    · refine JX.condT rfl hb ?_
      refine JX.seq ?_
      refine JX.region ?_
      refine JL.val (yl_assign rfl) rfl ?_
      refine JL.nil ?_
      refine JE.weak (env' := [(4, .bool true)]) (es' := []) [] ?_ ⟨rfl, trivial⟩ (by decide) rfl
      refine JE.code ?_
      refine JX.ret ?_
      obtain rfl := Option.some.inj hres
      refine JE.ret (rs := [.tmp 4]) (vs := [.bool true]) rfl ⟨rfl, trivial⟩ ?_
      exact fun w' hb hs => ⟨_, _, ⟨rfl, rfl⟩, rfl, hb, hs.sel [] _ (by decide) rfl⟩
    · refine JX.condF rfl hb ?_
      refine JX.skip ?_
      refine JE.code ?_
      refine JX.seq ?_
      refine JX.region ?_
      refine JL.val (yl_loadn Go.Proofs.Try.underlying24 rfl i24 rfl (fun w hC => rd_box hC 0 rfl) rfl (i24s).symm i24p) rfl ?_
      obtain ⟨x4, hx4, hres⟩ := bind_some hres
      refine JL.eff (ef_call (vs := [.agg #[.int .i64 q0.W, .int .i64 q0.H, .slice a_0_2 q0.Breaks.length c_0_2]]) (T := T17 x4) Go.Proofs.Try.func17 rfl (by kernel_rfl) rfl (fun w hC => c17 (q0 := q0) (rd_arg g_0_2 hC) rfl k_0_2 hx4)) rfl ?_
      rintro _ _ ⟨_, ⟨a5, _, cp6, rfl, rfl, rfl⟩, rfl⟩
      refine JL.val (yl_move rfl) rfl ?_
      obtain ⟨x8, hx8, hres⟩ := bind_some hres
      refine JL.eff (ef_call (T := T32 x8) Go.Proofs.Try.func32 rfl (by kernel_rfl) rfl (fun w hC => c32 (rd_arg g_1 hC) rfl k_1 hx8)) rfl ?_
      rintro _ _ ⟨_, ⟨a9, _, cp10, rfl, rfl, rfl⟩, rfl⟩
      obtain ⟨x12, hx12, hres⟩ := bind_some hres
      refine JL.eff (ef_call (vs := [.agg #[.int .i64 x4.W, .int .i64 x4.H, .slice a5 x4.Breaks.length cp6], .slice a9 x8.length cp10]) (T := T31 x12) Go.Proofs.Try.func31 rfl (by kernel_rfl) rfl (fun w hC => c31 (q0 := x4) (rd_row hC 1 rfl) rfl (ln_row hC 1 rfl) (rd_row hC 2 rfl) rfl (ln_row hC 2 rfl) hx12)) rfl ?_
      rintro _ _ ⟨_, ⟨rfl, rfl⟩, rfl⟩
      refine JL.val (yl_assign rfl) rfl ?_
      refine JL.nil ?_
      refine JE.weak (env' := [(1, .slice a_1 q1.length c_1), (2, ptrAt (some ⟨g1, 0, none⟩) 0), (6, .bool x12)]) (es' := [boxO 24 g1 [.int .i64 q0.W, .int .i64 q0.H, .slice a_0_2 q0.Breaks.length c_0_2]]) [0] ?_ ⟨rfl, rfl, rfl, trivial⟩ (by decide) rfl
      refine JE.code ?_
      refine JX.seq ?_
      refine JX.region ?_
      refine JL.val (yl_loadn Go.Proofs.Try.underlying24 rfl i24 rfl (fun w hC => rd_box hC 0 rfl) rfl (i24s).symm i24p) rfl ?_
      obtain ⟨x13, hx13, hres⟩ := bind_some hres
      refine JL.eff (ef_call (vs := [.agg #[.int .i64 q0.W, .int .i64 q0.H, .slice a_0_2 q0.Breaks.length c_0_2]]) (T := T17 x13) Go.Proofs.Try.func17 rfl (by kernel_rfl) rfl (fun w hC => c17 (q0 := q0) (rd_arg g_0_2 hC) rfl k_0_2 hx13)) rfl ?_
      rintro _ _ ⟨_, ⟨a14, _, cp15, rfl, rfl, rfl⟩, rfl⟩
      refine JL.eff (ef_alloc i28 i28z rfl) rfl ?_
      rintro _ _ ⟨g17, rfl, rfl⟩
      refine JL.eff (ef_store_box (i := 2) (v := .agg #[.int .i64 x13.W, .int .i64 x13.H, .slice a14 x13.Breaks.length cp15]) i28 rfl rfl rfl (i28s).symm (Nat.le_of_ble_eq_true rfl) (by simp [Value.cells, Value.oneCell'])) rfl ?_
      rintro _ _ rfl
      refine JL.nil ?_
      refine JE.weak (env' := [(1, .slice a_1 q1.length c_1), (2, ptrAt (some ⟨g1, 0, none⟩) 0), (6, .bool x12), (7, ptrAt (some ⟨g17, 0, none⟩) 0)]) (es' := [boxO 24 g1 [.int .i64 q0.W, .int .i64 q0.H, .slice a_0_2 q0.Breaks.length c_0_2], boxO 28 g17 [.int .i64 x13.W, .int .i64 x13.H, .slice a14 x13.Breaks.length cp15], rowT 2 eI64 a14 x13.Breaks.length cp15 x13.Breaks]) [0, 2, 1] ?_ ⟨rfl, rfl, rfl, rfl, trivial⟩ (by decide) rfl
      refine JE.code ?_
      refine JX.seq ?_
      refine JX.region ?_
      refine JL.val (yl_move rfl) rfl ?_
      obtain ⟨x19, hx19, hres⟩ := bind_some hres
      refine JL.eff (ef_call (T := T32 x19) Go.Proofs.Try.func32 rfl (by kernel_rfl) rfl (fun w hC => c32 (rd_arg g_1 hC) rfl k_1 hx19)) rfl ?_
      rintro _ _ ⟨_, ⟨a20, _, cp21, rfl, rfl, rfl⟩, rfl⟩
      refine JL.val (yl_assign rfl) rfl ?_
      refine JL.nil ?_
      refine JE.code ?_
      refine JX.seq ?_
      refine JX.region ?_
      refine JL.val (yl_loadn Go.Proofs.Try.underlying28 rfl i28 rfl (fun w hC => rd_box hC 1 rfl) rfl (i28s).symm i28p) rfl ?_
      refine JL.val (yl_move rfl) rfl ?_
      obtain ⟨x23, hx23, hres⟩ := bind_some hres
      refine JL.eff (ef_call (vs := [.agg #[.int .i64 x13.W, .int .i64 x13.H, .slice a14 x13.Breaks.length cp15], .slice a20 x19.length cp21]) (T := T33 x23) Go.Proofs.Try.func33 rfl (by kernel_rfl) rfl (fun w hC => c33 (q0 := x13) (rd_row hC 2 rfl) rfl (ln_row hC 2 rfl) (rd_row hC 3 rfl) rfl (ln_row hC 3 rfl) hx23)) rfl ?_
      rintro _ _ ⟨_, ⟨rfl, rfl⟩, rfl⟩
      refine JL.val (yl_assign rfl) rfl ?_
      refine JL.nil ?_
      refine JE.weak (env' := [(1, .slice a_1 q1.length c_1), (2, ptrAt (some ⟨g1, 0, none⟩) 0), (6, .bool x12), (7, ptrAt (some ⟨g17, 0, none⟩) 0), (8, .slice a20 x19.length cp21), (9, .bool x23)]) (es' := [boxO 24 g1 [.int .i64 q0.W, .int .i64 q0.H, .slice a_0_2 q0.Breaks.length c_0_2], boxO 28 g17 [.int .i64 x13.W, .int .i64 x13.H, .slice a14 x13.Breaks.length cp15], rowT 2 eI64 a14 x13.Breaks.length cp15 x13.Breaks, rowT 2 eI64 a20 x19.length cp21 x19]) [0, 1, 2, 3] ?_ ⟨rfl, rfl, rfl, rfl, rfl, rfl, trivial⟩ (by decide) rfl
      refine JE.code ?_
      refine JX.seq ?_
      refine JX.seq ?_
      refine JX.region ?_
      refine JL.val (yl_move rfl) rfl ?_
      refine JL.val (yl_move rfl) rfl ?_
      refine JL.val (yl_bneq Go.Proofs.Try.underlying4 rfl rfl) rfl ?_
      refine JL.nil ?_
      refine JE.code ?_
      rcases cond_some hres with ⟨hb, hres⟩ | ⟨hb, hres⟩
      · refine JX.condT rfl hb ?_
        refine JX.seq ?_
        refine JX.region ?_
        refine JL.val (yl_assign rfl) rfl ?_
        refine JL.nil ?_
        refine JE.weak (env' := [(4, .bool false)]) (es' := []) [] ?_ ⟨rfl, trivial⟩ (by decide) rfl
        refine JE.code ?_
        refine JX.ret ?_
        obtain rfl := Option.some.inj hres
        refine JE.ret (rs := [.tmp 4]) (vs := [.bool false]) rfl ⟨rfl, trivial⟩ ?_
        exact fun w' hb hs => ⟨_, _, ⟨rfl, rfl⟩, rfl, hb, hs.sel [] _ (by decide) rfl⟩
      · refine JX.condF rfl hb ?_
        refine JX.skip ?_
        refine JE.code ?_
        refine JX.seq ?_
        refine JX.seq ?_
        refine JX.drawH [(0, .read), (1, .read), (2, .must), (3, .must), (4, .pure)] [] [] [0, 1, 2, 3] [] [boxO 24 g1 [.int .i64 q0.W, .int .i64 q0.H, .slice a_0_2 q0.Breaks.length c_0_2], boxO 28 g17 [.int .i64 x13.W, .int .i64 x13.H, .slice a14 x13.Breaks.length cp15], rowT 2 eI64 a14 x13.Breaks.length cp15 x13.Breaks, rowT 2 eI64 a20 x19.length cp21 x19] mixedP (by kernel_rfl) (by kernel_rfl) (by decide) rfl rfl ?_
        intro wrr24 Nr24 hFr24
        refine JH.read rfl (yl_loadn Go.Proofs.Try.underlying28 rfl i28 rfl (fun w hw => hFr24.box 1 rfl rfl hw) rfl (i28s).symm i28p) rfl ?_
        refine JH.read rfl (yl_loadn Go.Proofs.Try.underlying24 rfl i24 rfl (fun w hw => hFr24.box 0 rfl rfl hw) rfl (i24s).symm i24p) rfl ?_
        obtain ⟨x25, hx25, hres⟩ := bind_some hres
        refine JH.must rfl (ef_call (vs := [.agg #[.int .i64 q0.W, .int .i64 q0.H, .slice a_0_2 q0.Breaks.length c_0_2]]) (T := T17 x25) Go.Proofs.Try.func17 rfl (by kernel_rfl) rfl (fun w hC => c17 (q0 := q0) (hFr24.arg g_0_2 hC.1) rfl k_0_2 hx25)) rfl rfl ?_
        rintro _ _ ⟨_, ⟨a26, _, cp27, rfl, rfl, rfl⟩, rfl⟩
        obtain ⟨x29, hx29, hres⟩ := bind_some hres
        refine JH.must rfl (ef_call (vs := [.agg #[.int .i64 x13.W, .int .i64 x13.H, .slice a14 x13.Breaks.length cp15], .agg #[.int .i64 x25.W, .int .i64 x25.H, .slice a26 x25.Breaks.length cp27]]) (T := T19 x29) Go.Proofs.Try.func19 rfl (by kernel_rfl) rfl (fun w hC => c19 (q0 := x13) (q1 := x25) (hFr24.row 2 rfl rfl hC.1) rfl (ln_row hFr24.cl 2 rfl) (rd_row hC 0 rfl) rfl (ln_row hC 0 rfl) hx29)) rfl rfl ?_
        rintro _ _ ⟨_, ⟨rfl, rfl⟩, rfl⟩
        refine JH.pure rfl (yl_not rfl) rfl ?_
        refine JH.nil ?_
        refine JE.weak (env' := [(1, .slice a_1 q1.length c_1), (8, .slice a20 x19.length cp21), (37, .bool !x29)]) (es' := [rowT 2 eI64 a20 x19.length cp21 x19]) [3] ?_ ⟨rfl, rfl, rfl, trivial⟩ (by decide) rfl
        refine JE.code ?_
        rcases cond_some hres with ⟨hb, hres⟩ | ⟨hb, hres⟩
        · refine JX.condT rfl hb ?_
          refine JX.seq ?_
          refine JX.region ?_
          refine JL.val (yl_assign rfl) rfl ?_
          refine JL.nil ?_
          refine JE.weak (env' := [(4, .bool false)]) (es' := []) [] ?_ ⟨rfl, trivial⟩ (by decide) rfl
          refine JE.code ?_
          refine JX.ret ?_
          obtain rfl := Option.some.inj hres
          refine JE.ret (rs := [.tmp 4]) (vs := [.bool false]) rfl ⟨rfl, trivial⟩ ?_
          exact fun w' hb hs => ⟨_, _, ⟨rfl, rfl⟩, rfl, hb, hs.sel [] _ (by decide) rfl⟩
        · refine JX.condF rfl hb ?_
          refine JX.skip ?_
          refine JE.code ?_
          refine JX.seq ?_
          refine JX.seq ?_
          refine JX.region ?_
          refine JL.val (yl_move rfl) rfl ?_
          refine JL.val (yl_move rfl) rfl ?_
          obtain ⟨x30, hx30, hres⟩ := bind_some hres
          refine JL.eff (ef_call (T := T32 x30) Go.Proofs.Try.func32 rfl (by kernel_rfl) rfl (fun w hC => c32 (rd_arg g_1 hC) rfl k_1 hx30)) rfl ?_
          rintro _ _ ⟨_, ⟨a31, _, cp32, rfl, rfl, rfl⟩, rfl⟩
          obtain ⟨x34, hx34, hres⟩ := bind_some hres
          refine JL.eff (ef_call (T := T34 x34) Go.Proofs.Try.func34 rfl (by kernel_rfl) rfl (fun w hC => c34 (rd_row hC 0 rfl) rfl (ln_row hC 0 rfl) (rd_row hC 1 rfl) rfl (ln_row hC 1 rfl) hx34)) rfl ?_
          rintro _ _ ⟨_, ⟨rfl, rfl⟩, rfl⟩
          refine JL.val (yl_not rfl) rfl ?_
          refine JL.nil ?_
          refine JE.weak (env' := [(42, .bool !x34)]) (es' := []) [] ?_ ⟨rfl, trivial⟩ (by decide) rfl
          refine JE.code ?_
          rcases cond_some hres with ⟨hb, hres⟩ | ⟨hb, hres⟩
          · refine JX.condT rfl hb ?_
            refine JX.seq ?_
            refine JX.region ?_
            refine JL.val (yl_assign rfl) rfl ?_
            refine JL.nil ?_
            refine JE.code ?_
            refine JX.ret ?_
            obtain rfl := Option.some.inj hres
            refine JE.ret (rs := [.tmp 4]) (vs := [.bool false]) rfl ⟨rfl, trivial⟩ ?_
            exact fun w' hb hs => ⟨_, _, ⟨rfl, rfl⟩, rfl, hb, hs.sel [] _ (by decide) rfl⟩
          · refine JX.condF rfl hb ?_
            refine JX.skip ?_
            refine JE.code ?_
            refine JX.seq ?_
            refine JX.region ?_
            refine JL.val (yl_assign rfl) rfl ?_
            refine JL.nil ?_
            refine JE.code ?_
            refine JX.ret ?_
            obtain rfl := Option.some.inj hres
            refine JE.ret (rs := [.tmp 4]) (vs := [.bool true]) rfl ⟨rfl, trivial⟩ ?_
            exact fun w' hb hs => ⟨_, _, ⟨rfl, rfl⟩, rfl, hb, hs.sel [] _ (by decide) rfl⟩

end Go.Sh
