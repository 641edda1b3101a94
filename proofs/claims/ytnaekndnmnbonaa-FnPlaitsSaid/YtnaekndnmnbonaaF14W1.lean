/- Walks through functions that the law reaches, printed by program. -/
import Derived.Test.YtnaekndnmnbonaaF14W0
set_option linter.unusedVariables false
set_option linter.unusedSimpArgs false
namespace Go.Sh
open Go Go.RowKit
/- spec.ReduceWord -/
def sh71_1 (q1 : List Int) : (Int × List Int) → Option ((Int × List Int) ⊕ (List Int))
  | (x7, x8) => bif decide (x7 < (q1.length : Int)) then (Option.bind (bif decide (0 < (x8.length : Int)) then (Option.bind (getI x8 (w64 ((x8.length : Int) - 1))) fun x13 => Option.bind (getI q1 x7) fun x14 => some (x13 == (w64 (0 - x14)))) else (some false)) fun cb12 => (Option.bind (bif cb12 then (Option.bind (takeL x8 (w64 ((x8.length : Int) - 1))) fun x18 => some x18) else (Option.bind (getI q1 x7) fun x19 => Option.bind (appL x8 [x19]) fun x22 => some x22)) fun j15 => (some (.inl (w64 (x7 + 1), j15))))) else (some (.inr x8))
def sh71 (q0 : Int) (q1 : List Int) : Option (List Int × Int) := Option.bind (sh127 q0 q1) fun x1 => bif !x1 then (some (([] : List Int), 1)) else (Option.bind (iter (sh71_1 q1) (0, ([] : List Int))) fun b1 => (some (b1, 0)))
def T71 (r : List Int × Int) (v : Value) (rs : List Own) : Prop := ∃ (a0 : Option Addr) (n0 c0 : Nat), r.1.length = n0 ∧ v = rets [.slice a0 n0 c0, .int .i64 r.2] ∧ rs = [rowT 2 eI64 a0 n0 c0 r.1]
set_option maxRecDepth 100000 in
theorem c71 {w : World} {q0 : Int} {q1 : List Int} {a_1 : Option Addr} {n_1 c_1 : Nat} (g_1 : Rd w a_1 (eI64.fl q1)) (l_1 : q1.length = n_1) (k_1 : n_1 ≤ c_1) {r : List Int × Int} (hres : sh71 q0 q1 = some r) : Calls Go.Proofs.Try.prog 71 [.int .i64 q0, .slice a_1 n_1 c_1].toArray w (Ret w (T71 r)) := by
  subst l_1
  unfold sh71 at hres
  refine calls_of (n := 49) (M := []) (es := []) Go.Proofs.Try.func71 rfl rfl rfl (Sep.nil _ _ _) ?_
  refine JX.seq ?_
  refine JX.region ?_
  refine JL.val (yl_assign rfl) rfl ?_
  refine JL.val (yl_assign rfl) rfl ?_
  refine JL.nil ?_
  refine JE.code ?_
  refine JX.seq ?_
  refine JX.seq ?_
  refine JX.region ?_
  refine JL.val (yl_move rfl) rfl ?_
  refine JL.val (yl_move rfl) rfl ?_
  obtain ⟨x1, hx1, hres⟩ := bind_some hres
  refine JL.eff (ef_call (T := T127 x1) Go.Proofs.Try.func127 rfl (by kernel_rfl) rfl (fun w hC => c127 (rd_arg g_1 hC) rfl k_1 hx1)) rfl ?_
  rintro _ _ ⟨_, ⟨rfl, rfl⟩, rfl⟩
  refine JL.val (yl_not rfl) rfl ?_
  refine JL.nil ?_
  refine JE.weak (env' := [(1, .slice a_1 q1.length c_1), (12, .bool !x1)]) (es' := []) [] ?_ ⟨rfl, rfl, trivial⟩ (by decide) rfl
  refine JE.code ?_
  rcases cond_some hres with ⟨hb, hres⟩ | ⟨hb, hres⟩
  · refine JX.condT rfl hb ?_
    refine JX.seq ?_
    refine JX.region ?_
    refine JL.val (yl_assign rfl) rfl ?_
    refine JL.val (yl_assign rfl) rfl ?_
    refine JL.nil ?_
    refine JE.code ?_
    refine JX.ret ?_
    refine JE.nilrow 2 eI64 ?_
    obtain rfl := Option.some.inj hres
    refine JE.ret (rs := [.tmp 4, .tmp 5]) (vs := [.slice none 0 0, .int .i64 1]) rfl ⟨rfl, rfl, trivial⟩ ?_
    exact fun w' hb hs => ⟨_, _, ⟨none, 0, 0, rfl, rfl, rfl⟩, rfl, hb, hs.sel [0] _ (by decide) rfl⟩
  · refine JX.condF rfl hb ?_
    refine JX.skip ?_
    refine JE.code ?_
    refine JX.seq ?_
    refine JX.region ?_
    refine JL.eff (ef_buildSlice (E := 2) (k := eI64.k) (us := eI64.fl ([] : List Int)) rfl (fun w => bsl33_0  w) rfl (by decide)) rfl ?_
    rintro _ _ ⟨a3, rfl, rfl⟩
    refine JL.val (yl_assign rfl) rfl ?_
    refine JL.nil ?_
    refine JE.code ?_
    refine JX.seq ?_
    refine JX.seq ?_
    refine JX.region ?_
    refine JL.val (yl_assign rfl) rfl ?_
    refine JL.nil ?_
    refine JE.code ?_
    refine JX.block ?_
    obtain ⟨y1, hy1, hresO1⟩ := bind_some hres
    refine JX.loop (I := fun (s1 : Int × List Int) aa ww => ∃ (a5 : Option Addr) (cp6 : Nat), St w [] 49 [(1, .slice a_1 q1.length c_1), (6, .slice a5 s1.2.length cp6), (7, .int .i64 s1.1)] [rowT 2 eI64 a5 s1.2.length cp6 s1.2] aa ww) (sh71_1 q1) hy1 (fun a w h => ⟨a3, 0, h.weak ⟨rfl, rfl, rfl, trivial⟩ [0] (by decide) rfl⟩) ?_
    rintro ⟨x7, x8⟩ o1 hres hox1 aa ww ⟨a9, cp10, hS⟩
    refine (?_ : JX Go.Proofs.Try.prog w [] 49 _ _ [(1, .slice a_1 q1.length c_1), (6, .slice a9 x8.length cp10), (7, .int .i64 x7)] [rowT 2 eI64 a9 x8.length cp10 x8] _) aa ww hS
    clear hS
    simp only [sh71_1] at hres
    refine JX.seq ?_
    refine JX.seq ?_
    refine JX.region ?_
    refine JL.val (yl_move rfl) rfl ?_
    refine JL.val (yl_move rfl) rfl ?_
    refine JL.val (yl_len_slice Go.Proofs.Try.underlying33 rfl) rfl ?_
    refine JL.val (yl_lss rfl rfl) rfl ?_
    refine JL.nil ?_
    refine JE.weak (env' := [(1, .slice a_1 q1.length c_1), (6, .slice a9 x8.length cp10), (7, .int .i64 x7), (17, .bool (decide (x7 < (q1.length : Int))))]) (es' := [rowT 2 eI64 a9 x8.length cp10 x8]) [0] ?_ ⟨rfl, rfl, rfl, rfl, trivial⟩ (by decide) rfl
    refine JE.code ?_
    rcases cond_some hres with ⟨hb, hres⟩ | ⟨hb, hres⟩
    · refine JX.condT rfl hb ?_
      refine JX.skip ?_
      refine JE.code ?_
      refine JX.seq ?_
      refine JX.block ?_
      refine JX.seq ?_
      refine JX.region ?_
      refine JL.val (yl_move rfl) rfl ?_
      refine JL.val (yl_len_slice Go.Proofs.Try.underlying33 rfl) rfl ?_
      refine JL.val (yl_assign rfl) rfl ?_
      refine JL.nil ?_
      refine JE.code ?_
      refine JX.seq ?_
      refine JX.drawH [(0, .pure), (1, .pure), (2, .pure), (3, .pure), (4, .pure), (5, .pure), (6, .pure), (7, .read), (8, .pure), (9, .pure), (10, .pure), (11, .read), (12, .pure), (13, .pure), (14, .pure)] [] [] [0] [] [rowT 2 eI64 a9 x8.length cp10 x8] mixedP (by kernel_rfl) (by kernel_rfl) (by decide) rfl rfl ?_
      intro wrr11 Nr11 hFr11
      refine JH.pure rfl (yl_move rfl) rfl ?_
      refine JH.pure rfl (yl_gtr rfl rfl) rfl ?_
      refine JH.pure rfl (yl_move rfl) rfl ?_
      obtain ⟨cb12, hcb12, hres⟩ := bind_some hres
      refine JH.cut (K := fun J => J [(1, .slice a_1 q1.length c_1), (6, .slice a9 x8.length cp10), (7, .int .i64 x7), (8, .int .i64 (x8.length : Int)), (36, .bool cb12)] []) 12 ?_ ?_
      · refine JH.nil ?_
        refine JE.weak (env' := [(1, .slice a_1 q1.length c_1), (6, .slice a9 x8.length cp10), (7, .int .i64 x7), (8, .int .i64 (x8.length : Int)), (36, .bool cb12)]) (es' := [rowT 2 eI64 a9 x8.length cp10 x8]) [0] ?_ ⟨rfl, rfl, rfl, rfl, rfl, trivial⟩ (by decide) rfl
        refine JE.code ?_
        obtain ⟨j15, hj15, hresj15⟩ := bind_some hres
        refine JX.cut (K := fun J => ∀ (a16 : Option Addr) (cp17 : Nat), J [(1, .slice a_1 q1.length c_1), (6, .slice a16 j15.length cp17), (7, .int .i64 x7)] [rowT 2 eI64 a16 j15.length cp17 j15]) ?_ ?_
        · intro a16 cp17
          have hres := hresj15
          refine JE.code ?_
          refine JX.region ?_
          refine JL.val (yl_move rfl) rfl ?_
          refine JL.val (yl_add rfl rfl) rfl ?_
          refine JL.val (yl_assign rfl) rfl ?_
          refine JL.nil ?_
          refine JE.cont hres ?_
          exact fun a w h => ⟨a16, cp17, h.weak ⟨rfl, rfl, rfl, trivial⟩ [0] (by decide) rfl⟩
        · intro K
          rcases cond_some hj15 with ⟨hb, hres⟩ | ⟨hb, hres⟩
          · refine JX.condT rfl hb ?_
            refine JX.region ?_
            refine JL.val (yl_move rfl) rfl ?_
            refine JL.val (yl_move rfl) rfl ?_
            refine JL.val (yl_sub rfl rfl) rfl ?_
            obtain ⟨x18, hx18, hres⟩ := bind_some hres
            refine JL.val (yl_takeT Go.Proofs.Try.underlying33 i2 rfl rfl hx18 rfl (fun w hC => ln_row hC 0 rfl)) rfl ?_
            refine JL.takeT 0 hx18 rfl ?_
            refine JL.val (yl_assign rfl) rfl ?_
            refine JL.nil ?_
            refine JE.weak (env' := [(1, .slice a_1 q1.length c_1), (6, .slice a9 x18.length cp10), (7, .int .i64 x7)]) (es' := [rowT 2 eI64 a9 x18.length cp10 x18]) [0] ?_ ⟨rfl, rfl, rfl, trivial⟩ (by decide) rfl
            have hj := Option.some.inj hres
            exact JE.weak [0] (K a9 cp10) ⟨(by subst hj; rfl), (by subst hj; rfl), (by subst hj; rfl), trivial⟩ (by decide) (by subst hj; rfl)
          · refine JX.condF rfl hb ?_
            refine JX.region ?_
            refine JL.val (yl_move rfl) rfl ?_
            refine JL.val (yl_move rfl) rfl ?_
            refine JL.val (yl_move rfl) rfl ?_
            obtain ⟨x19, hx19, hres⟩ := bind_some hres
            refine JL.val (yl_idxT Go.Proofs.Try.underlying33 i2 i2s rfl rfl hx19 rfl (fun w hC => rd_arg g_1 hC)) rfl ?_
            refine JL.val (yl_loadT0 Go.Proofs.Try.underlying2 rfl rfl hx19 (fun w hC => rd_arg g_1 hC) rfl) rfl ?_
            refine JL.eff (ef_buildSlice (E := 2) (k := eI64.k) (us := eI64.fl [x19]) rfl (fun w => bsl33_1 x19 w) rfl (by decide)) rfl ?_
            rintro _ _ ⟨a20, rfl, rfl⟩
            obtain ⟨x22, hx22, hres⟩ := bind_some hres
            refine JL.eff (ef_appendT (ix := 0) Go.Proofs.Try.underlying33 i2 i2z i2s rfl i2b0 i2b1 rfl rfl rfl rfl rfl (fun w hC => rd_row hC 1 rfl) hx22) rfl ?_
            rintro _ _ ⟨a23, cp24, rfl, rfl⟩
            refine JL.val (yl_assign rfl) rfl ?_
            refine JL.nil ?_
            refine JE.weak (env' := [(1, .slice a_1 q1.length c_1), (6, .slice a23 x22.length cp24), (7, .int .i64 x7)]) (es' := [rowT 2 eI64 a23 x22.length cp24 x22]) [0] ?_ ⟨rfl, rfl, rfl, trivial⟩ (by decide) rfl
            have hj := Option.some.inj hres
            exact JE.weak [0] (K a23 cp24) ⟨(by subst hj; rfl), (by subst hj; rfl), (by subst hj; rfl), trivial⟩ (by decide) (by subst hj; rfl)
      · intro K
        rcases cond_some hcb12 with ⟨hb, hres⟩ | ⟨hb, hres⟩
        · refine JH.set (d := 24) (v := .bool true) (congrArg (fun b => some (Value.bool b)) hb) ?_
          refine JH.gpure rfl rfl rfl (yl_move rfl) rfl ?_
          refine JH.gpure rfl rfl rfl (yl_move rfl) rfl ?_
          refine JH.gpure rfl rfl rfl (yl_sub rfl rfl) rfl ?_
          obtain ⟨x13, hx13, hres⟩ := bind_some hres
          refine JH.gpure rfl rfl rfl (yl_idxQ Go.Proofs.Try.underlying33 i2 i2s rfl rfl hx13 rfl (rd_row hFr11.cl 0 rfl) rfl) rfl ?_
          refine JH.gread rfl rfl rfl (yl_loadT0 Go.Proofs.Try.underlying2 rfl rfl hx13 (fun w hw => hFr11.row 0 rfl rfl hw) rfl) rfl ?_
          refine JH.gpure rfl rfl rfl (yl_move rfl) rfl ?_
          refine JH.gpure rfl rfl rfl (yl_move rfl) rfl ?_
          obtain ⟨x14, hx14, hres⟩ := bind_some hres
          refine JH.gpure rfl rfl rfl (yl_idxQ Go.Proofs.Try.underlying33 i2 i2s rfl rfl hx14 rfl (rd_arg g_1 hFr11.cl) rfl) rfl ?_
          refine JH.gread rfl rfl rfl (yl_loadT0 Go.Proofs.Try.underlying2 rfl rfl hx14 (fun w hw => hFr11.arg g_1 hw) rfl) rfl ?_
          refine JH.gpure rfl rfl rfl (yl_neg rfl) rfl ?_
          refine JH.gpure rfl rfl rfl (yl_eql rfl rfl) rfl ?_
          refine JH.pure rfl (yl_pick_true rfl rfl) rfl ?_
          have he := Option.some.inj hres
          exact JH.weak [] K ⟨rfl, rfl, rfl, rfl, (by rw [← he]; rfl), trivial⟩ (by decide) rfl
        · refine JH.set (d := 24) (v := .bool false) (congrArg (fun b => some (Value.bool b)) hb) ?_
          refine JH.gskip rfl rfl rfl rfl rfl rfl ?_
          refine JH.gskip rfl rfl rfl rfl rfl rfl ?_
          refine JH.gskip rfl rfl rfl rfl rfl rfl ?_
          refine JH.gskip rfl rfl rfl rfl rfl rfl ?_
          refine JH.gskip rfl rfl rfl rfl rfl rfl ?_
          refine JH.gskip rfl rfl rfl rfl rfl rfl ?_
          refine JH.gskip rfl rfl rfl rfl rfl rfl ?_
          refine JH.gskip rfl rfl rfl rfl rfl rfl ?_
          refine JH.gskip rfl rfl rfl rfl rfl rfl ?_
          refine JH.gskip rfl rfl rfl rfl rfl rfl ?_
          refine JH.gskip rfl rfl rfl rfl rfl rfl ?_
          refine JH.pure rfl (yl_pick_false rfl rfl) rfl ?_
          have he := Option.some.inj hres
          exact JH.weak [] K ⟨rfl, rfl, rfl, rfl, (by rw [← he]; rfl), trivial⟩ (by decide) rfl
    · refine JX.condF rfl hb ?_
      refine JX.exit ?_
      refine JE.qb rfl ?_
      obtain ⟨b1, hb1⟩ : ∃ b : List Int, b = x8 := ⟨_, rfl⟩
      have hy1 : b1 = y1 := by rw [hb1]; exact hox1 _ (Option.some.inj hres).symm
      have hres := hresO1
      rw [← hy1] at hres
      refine JE.weak (env' := [(6, .slice a9 b1.length cp10)]) (es' := [rowT 2 eI64 a9 b1.length cp10 b1]) [0] ?_ ⟨(by subst hb1; rfl), trivial⟩ (by decide) (by subst hb1; rfl)
      refine JE.code ?_
      refine JX.seq ?_
      refine JX.region ?_
      refine JL.val (yl_move rfl) rfl ?_
      refine JL.val (yl_assign rfl) rfl ?_
      refine JL.val (yl_assign rfl) rfl ?_
      refine JL.nil ?_
      refine JE.code ?_
      refine JX.ret ?_
      obtain rfl := Option.some.inj hres
      refine JE.ret (rs := [.tmp 4, .tmp 5]) (vs := [.slice a9 b1.length cp10, .int .i64 0]) rfl ⟨rfl, rfl, trivial⟩ ?_
      exact fun w' hb hs => ⟨_, _, ⟨a9, b1.length, cp10, rfl, rfl, rfl⟩, rfl, hb, hs.sel [0] _ (by decide) rfl⟩

/- spec.DrawPathOfStrand -/
def sh72 (q0 : List Int) : Option (Int × List Int × Int) := Option.bind (sh133 q0) fun x1 => Option.bind (sh134 (Sl00Src.mk q0 x1.at_ x1.seed)) fun x4 => Option.bind (sh135 (Sl00Src.mk q0 x4.2.2.1 x4.2.2.2) 8) fun x8 => Option.bind (sh135 (Sl00Src.mk q0 x8.2.1 x8.2.2) 12) fun x9 => some (x4.1, x4.2.1, w64 (x8.1 - (w64 (x9.1.tdiv 11))))
def T72 (r : Int × List Int × Int) (v : Value) (rs : List Own) : Prop := ∃ (a1 : Option Addr) (n1 c1 : Nat), r.2.1.length = n1 ∧ v = rets [.int .i64 r.1, .slice a1 n1 c1, .int .i64 r.2.2] ∧ rs = [rowT 2 eI64 a1 n1 c1 r.2.1]
set_option maxRecDepth 100000 in
theorem c72 {w : World} {q0 : List Int} {a_0 : Option Addr} {n_0 c_0 : Nat} (g_0 : Rd w a_0 (eU8.fl q0)) (l_0 : q0.length = n_0) (k_0 : n_0 ≤ c_0) {r : Int × List Int × Int} (hres : sh72 q0 = some r) : Calls Go.Proofs.Try.prog 72 [.slice a_0 n_0 c_0].toArray w (Ret w (T72 r)) := by
  subst l_0
  unfold sh72 at hres
  refine calls_of (n := 23) (M := []) (es := []) Go.Proofs.Try.func72 rfl rfl rfl (Sep.nil _ _ _) ?_
  refine JX.seq ?_
  refine JX.region ?_
  refine JL.val (yl_assign rfl) rfl ?_
  refine JL.val (yl_assign rfl) rfl ?_
  refine JL.val (yl_assign rfl) rfl ?_
  refine JL.nil ?_
  refine JE.code ?_
  refine JX.seq ?_
  refine JX.region ?_
  refine JL.val (yl_move rfl) rfl ?_
  obtain ⟨x1, hx1, hres⟩ := bind_some hres
  refine JL.eff (ef_call (T := T133 a_0 q0.length c_0 x1) Go.Proofs.Try.func133 rfl (by kernel_rfl) rfl (fun w hC => c133 (rd_arg g_0 hC) rfl k_0 hx1)) rfl ?_
  rintro _ _ ⟨_, ⟨g2, rfl, rfl⟩, rfl⟩
  refine JL.val (yl_assign rfl) rfl ?_
  refine JL.nil ?_
  refine JE.code ?_
  refine JX.seq ?_
  refine JX.region ?_
  refine JL.val (yl_move rfl) rfl ?_
  obtain ⟨x4, hx4, hres⟩ := bind_some hres
  refine JL.eff (ef_callms (caps := []) (vs := [ptrAt (some ⟨g2, 0, none⟩) 0]) (T := T134 g2 a_0 q0.length c_0 x4) [0] [] [boxO 176 g2 [.slice a_0 q0.length c_0, .int .i64 x1.at_, .int .u64 x1.seed]] [] rfl Go.Proofs.Try.func134 rfl (by kernel_rfl) rfl (by decide) rfl rfl (fun w N hF hS => c134 (q0 := Sl00Src.mk q0 x1.at_ x1.seed) (RdS.pass0 hF g_0) rfl k_0 hS hx4)) rfl ?_
  rintro _ _ ⟨_, _, ⟨rfl, a5, _, cp6, rfl, rfl, rfl⟩, rfl⟩
  refine JL.val (yl_move rfl) rfl ?_
  refine JL.val (yl_extract rfl rfl) rfl ?_
  refine JL.val (yl_extract rfl rfl) rfl ?_
  refine JL.val (yl_assign rfl) rfl ?_
  refine JL.val (yl_assign rfl) rfl ?_
  refine JL.nil ?_
  refine JE.weak (env' := [(5, ptrAt (some ⟨g2, 0, none⟩) 0), (6, .int .i64 x4.1), (7, .slice a5 x4.2.1.length cp6)]) (es' := [boxO 176 g2 [.slice a_0 q0.length c_0, .int .i64 x4.2.2.1, .int .u64 x4.2.2.2], rowT 2 eI64 a5 x4.2.1.length cp6 x4.2.1]) [0, 1] ?_ ⟨rfl, rfl, rfl, trivial⟩ (by decide) rfl
  refine JE.code ?_
  refine JX.seq ?_
  refine JX.region ?_
  refine JL.val (yl_move rfl) rfl ?_
  refine JL.val (yl_move rfl) rfl ?_
  refine JL.val (yl_move rfl) rfl ?_
  obtain ⟨x8, hx8, hres⟩ := bind_some hres
  refine JL.eff (ef_callms (caps := []) (vs := [ptrAt (some ⟨g2, 0, none⟩) 0, .int .i64 8]) (T := T135 g2 a_0 q0.length c_0 x8) [0] [1] [boxO 176 g2 [.slice a_0 q0.length c_0, .int .i64 x4.2.2.1, .int .u64 x4.2.2.2]] [rowT 2 eI64 a5 x4.2.1.length cp6 x4.2.1] rfl Go.Proofs.Try.func135 rfl (by kernel_rfl) rfl (by decide) rfl rfl (fun w N hF hS => c135 (q0 := Sl00Src.mk q0 x4.2.2.1 x4.2.2.2) (RdS.pass0 hF g_0) rfl k_0 hS hx8)) rfl ?_
  rintro _ _ ⟨_, _, ⟨rfl, rfl, rfl⟩, rfl⟩
  refine JL.val (yl_move rfl) rfl ?_
  obtain ⟨x9, hx9, hres⟩ := bind_some hres
  refine JL.eff (ef_callms (caps := []) (vs := [ptrAt (some ⟨g2, 0, none⟩) 0, .int .i64 12]) (T := T135 g2 a_0 q0.length c_0 x9) [1] [0] [boxO 176 g2 [.slice a_0 q0.length c_0, .int .i64 x8.2.1, .int .u64 x8.2.2]] [rowT 2 eI64 a5 x4.2.1.length cp6 x4.2.1] rfl Go.Proofs.Try.func135 rfl (by kernel_rfl) rfl (by decide) rfl rfl (fun w N hF hS => c135 (q0 := Sl00Src.mk q0 x8.2.1 x8.2.2) (RdS.pass0 hF g_0) rfl k_0 hS hx9)) rfl ?_
  rintro _ _ ⟨_, _, ⟨rfl, rfl, rfl⟩, rfl⟩
  refine JL.val (yl_quo rfl rfl (by decide)) rfl ?_
  refine JL.val (yl_sub rfl rfl) rfl ?_
  refine JL.val (yl_assign rfl) rfl ?_
  refine JL.val (yl_assign rfl) rfl ?_
  refine JL.val (yl_assign rfl) rfl ?_
  refine JL.nil ?_
  refine JE.weak (env' := [(2, .int .i64 x4.1), (3, .slice a5 x4.2.1.length cp6), (4, .int .i64 (w64 (x8.1 - (w64 (x9.1.tdiv 11)))))]) (es' := [rowT 2 eI64 a5 x4.2.1.length cp6 x4.2.1]) [0] ?_ ⟨rfl, rfl, rfl, trivial⟩ (by decide) rfl
  refine JE.code ?_
  refine JX.ret ?_
  obtain rfl := Option.some.inj hres
  refine JE.ret (rs := [.tmp 2, .tmp 3, .tmp 4]) (vs := [.int .i64 x4.1, .slice a5 x4.2.1.length cp6, .int .i64 (w64 (x8.1 - (w64 (x9.1.tdiv 11))))]) rfl ⟨rfl, rfl, rfl, trivial⟩ ?_
  exact fun w' hb hs => ⟨_, _, ⟨a5, x4.2.1.length, cp6, rfl, rfl, rfl⟩, rfl, hb, hs.sel [0] _ (by decide) rfl⟩

/- slices.Index[[]int64,int64] -/
def sh138_1 (q0 : List Int) (q1 : Int) : Int → Option (Int ⊕ (Unit ⊕ Int))
  | x1 => bif decide (x1 < (q0.length : Int)) then (Option.bind (getI q0 x1) fun x2 => bif q1 == x2 then (some (.inr (.inr x1))) else (some (.inl (w64 (x1 + 1))))) else (some (.inr (.inl ())))
def sh138 (q0 : List Int) (q1 : Int) : Option (Int) := Option.bind (iter (sh138_1 q0 q1) 0) fun y1 => elimS y1 (fun r => some r) fun b1 => (some (-1))
def T138 (r : Int) (v : Value) (rs : List Own) : Prop := v = rets [.int .i64 r] ∧ rs = []
set_option maxRecDepth 100000 in
theorem c138 {w : World} {q0 : List Int} {a_0 : Option Addr} {n_0 c_0 : Nat} (g_0 : Rd w a_0 (eI64.fl q0)) (l_0 : q0.length = n_0) (k_0 : n_0 ≤ c_0) {q1 : Int} {r : Int} (hres : sh138 q0 q1 = some r) : Calls Go.Proofs.Try.prog 138 [.slice a_0 n_0 c_0, .int .i64 q1].toArray w (Ret w (T138 r)) := by
  subst l_0
  unfold sh138 at hres
  refine calls_of (n := 19) (M := []) (es := []) Go.Proofs.Try.func138 rfl rfl rfl (Sep.nil _ _ _) ?_
  refine JX.seq ?_
  refine JX.region ?_
  refine JL.val (yl_assign rfl) rfl ?_
  refine JL.nil ?_
  refine JE.code ?_
  refine JX.seq ?_
  refine JX.seq ?_
  refine JX.region ?_
  refine JL.val (yl_move rfl) rfl ?_
  refine JL.val (yl_len_slice Go.Proofs.Try.underlying33 rfl) rfl ?_
  refine JL.val (yl_move rfl) rfl ?_
  refine JL.nil ?_
  refine JE.code ?_
  refine JX.block ?_
  obtain ⟨y1, hy1, hresO1⟩ := bind_some hres
  refine JX.loop (I := fun (s1 : Int) aa ww => St w [] 19 [(0, .slice a_0 q0.length c_0), (1, .int .i64 q1), (7, .int .i64 (q0.length : Int)), (8, .int .i64 s1)] [] aa ww) (sh138_1 q0 q1) hy1 (fun a w h => h.weak ⟨rfl, rfl, rfl, rfl, trivial⟩ [] (by decide) rfl) ?_
  rintro x1 o1 hres hox1 aa ww hS
  refine (?_ : JX Go.Proofs.Try.prog w [] 19 _ _ [(0, .slice a_0 q0.length c_0), (1, .int .i64 q1), (7, .int .i64 (q0.length : Int)), (8, .int .i64 x1)] [] _) aa ww hS
  clear hS
  unfold sh138_1 at hres
  refine JX.seq ?_
  refine JX.region ?_
  refine JL.val (yl_lss rfl rfl) rfl ?_
  refine JL.nil ?_
  refine JE.code ?_
  refine JX.seq ?_
  rcases cond_some hres with ⟨hb, hres⟩ | ⟨hb, hres⟩
  · refine JX.condT rfl hb ?_
    refine JX.skip ?_
    refine JE.code ?_
    refine JX.seq ?_
    refine JX.block ?_
    refine JX.seq ?_
    refine JX.region ?_
    refine JL.val (yl_move rfl) rfl ?_
    refine JL.val (yl_assign rfl) rfl ?_
    refine JL.nil ?_
    refine JE.code ?_
    refine JX.seq ?_
    refine JX.region ?_
    refine JL.val (yl_move rfl) rfl ?_
    refine JL.val (yl_move rfl) rfl ?_
    refine JL.val (yl_move rfl) rfl ?_
    obtain ⟨x2, hx2, hres⟩ := bind_some hres
    refine JL.val (yl_idxT Go.Proofs.Try.underlying33 i2 i2s rfl rfl hx2 rfl (fun w hC => rd_arg g_0 hC)) rfl ?_
    refine JL.val (yl_loadT0 Go.Proofs.Try.underlying2 rfl rfl hx2 (fun w hC => rd_arg g_0 hC) rfl) rfl ?_
    refine JL.val (yl_eql rfl rfl) rfl ?_
    refine JL.nil ?_
    refine JE.weak (env' := [(0, .slice a_0 q0.length c_0), (1, .int .i64 q1), (5, .int .i64 x1), (7, .int .i64 (q0.length : Int)), (8, .int .i64 x1), (16, .bool (q1 == x2))]) (es' := []) [] ?_ ⟨rfl, rfl, rfl, rfl, rfl, rfl, trivial⟩ (by decide) rfl
    refine JE.code ?_
    rcases cond_some hres with ⟨hb, hres⟩ | ⟨hb, hres⟩
    · refine JX.condT rfl hb ?_
      refine JX.seq ?_
      refine JX.region ?_
      refine JL.val (yl_move rfl) rfl ?_
      refine JL.val (yl_assign rfl) rfl ?_
      refine JL.nil ?_
      refine JE.code ?_
      refine JX.ret ?_
      refine JE.qbr ?_
      refine JE.qbr ?_
      have hres := elimS_inr hresO1 (hox1 _ (Option.some.inj hres).symm)
      obtain rfl := Option.some.inj hres
      refine JE.ret (rs := [.tmp 4]) (vs := [.int .i64 x1]) rfl ⟨rfl, trivial⟩ ?_
      exact fun w' hb hs => ⟨_, _, ⟨rfl, rfl⟩, rfl, hb, hs.sel [] _ (by decide) rfl⟩
    · refine JX.condF rfl hb ?_
      refine JX.skip ?_
      refine JE.code ?_
      refine JX.region ?_
      refine JL.val (yl_add rfl rfl) rfl ?_
      refine JL.val (yl_move rfl) rfl ?_
      refine JL.nil ?_
      refine JE.cont hres ?_
      exact fun a w h => h.weak ⟨rfl, rfl, rfl, rfl, trivial⟩ [] (by decide) rfl
  · refine JX.condF rfl hb ?_
    refine JX.exit ?_
    refine JE.qb rfl ?_
    obtain ⟨b1, hb1⟩ : ∃ b : Unit, b = () := ⟨_, rfl⟩
    have hy1 : Sum.inl b1 = y1 := by rw [hb1]; exact hox1 _ (Option.some.inj hres).symm
    have hres := elimS_inl hresO1 hy1
    refine JE.weak (env' := []) (es' := []) [] ?_ trivial (by decide) (by subst hb1; rfl)
    refine JE.code ?_
    refine JX.seq ?_
    refine JX.region ?_
    refine JL.val (yl_assign rfl) rfl ?_
    refine JL.nil ?_
    refine JE.code ?_
    refine JX.ret ?_
    obtain rfl := Option.some.inj hres
    refine JE.ret (rs := [.tmp 4]) (vs := [.int .i64 (-1)]) rfl ⟨rfl, trivial⟩ ?_
    exact fun w' hb hs => ⟨_, _, ⟨rfl, rfl⟩, rfl, hb, hs.sel [] _ (by decide) rfl⟩

/- impl.PathOfStrand$1 -/
def sh137 (q0 : List Int) (q1 : Int) (u0 : List Int) (u1 : Int) : Option (List Int × Int) := Option.bind (sh138 q0 u1) fun x2 => Option.bind (appL u0 [x2]) fun x5 => some (x5, u1)
def T137 (g_u0_0 : Nat) (g_u1_2 : Nat) (r : List Int × Int) (v : Value) (es' rs : List Own) : Prop := ∃ (ax1 : Option Addr) (nx1 cx1 : Nat), r.1.length = nx1 ∧ es' = [boxO 33 g_u0_0 [.slice ax1 nx1 cx1], rowT 2 eI64 ax1 nx1 cx1 r.1, boxO 2 g_u1_2 [.int .i64 r.2]] ∧ v = rets [] ∧ rs = []
set_option maxRecDepth 100000 in
theorem c137 {w : World} {M : List Nat} {q0 : List Int} {a_0 : Option Addr} {n_0 c_0 : Nat} (g_0 : RdS M w a_0 (eI64.fl q0)) (l_0 : q0.length = n_0) (k_0 : n_0 ≤ c_0) {q1 : Int} {g_u0_0 : Nat} {u0 : List Int} {a_u0 : Option Addr} {n_u0 c_u0 : Nat} {g_u1_2 : Nat} {u1 : Int} (l_u0 : u0.length = n_u0) (gs : Sep w.heap.size M w [boxO 33 g_u0_0 [.slice a_u0 n_u0 c_u0], rowT 2 eI64 a_u0 n_u0 c_u0 u0, boxO 2 g_u1_2 [.int .i64 u1]]) {r : List Int × Int} (hres : sh137 q0 q1 u0 u1 = some r) : Calls Go.Proofs.Try.prog 137 [.slice a_0 n_0 c_0, .int .i64 q1, ptrAt (some ⟨g_u0_0, 0, none⟩) 0, ptrAt (some ⟨g_u1_2, 0, none⟩) 0].toArray w (RetMs w M (T137 g_u0_0 g_u1_2 r)) := by
  subst l_0
  subst l_u0
  unfold sh137 at hres
  refine calls_of (n := 12) (M := M) (es := [boxO 33 g_u0_0 [.slice a_u0 u0.length c_u0], rowT 2 eI64 a_u0 u0.length c_u0 u0, boxO 2 g_u1_2 [.int .i64 u1]]) Go.Proofs.Try.func137 rfl rfl rfl gs ?_
  refine JX.drawH [(0, .read0), (1, .pure), (2, .read), (3, .must), (4, .must), (5, .must), (6, .must)] [5, 6] [1, 0] [2] [rowT 2 eI64 a_u0 u0.length c_u0 u0, boxO 33 g_u0_0 [.slice a_u0 u0.length c_u0]] [boxO 2 g_u1_2 [.int .i64 u1]] mixedP (by kernel_rfl) (by kernel_rfl) (by decide) rfl rfl ?_
  intro wrr1 Nr1 hFr1
  refine JH.read0 rfl (yl_load1 Go.Proofs.Try.underlying33 rfl rfl (fun w hw => (rd_box hFr1.cl 0 rfl).bw hw) rfl) rfl ?_
  refine JH.pure rfl (yl_move rfl) rfl ?_
  refine JH.read rfl (yl_load1 Go.Proofs.Try.underlying2 rfl rfl (fun w hw => hFr1.box 2 rfl rfl hw) rfl) rfl ?_
  obtain ⟨x2, hx2, hres⟩ := bind_some hres
  refine JH.must rfl (ef_call (T := T138 x2) Go.Proofs.Try.func138 rfl (by kernel_rfl) rfl (fun w hC => c138 (hFr1.argS g_0 hC.1) rfl k_0 hx2)) rfl rfl ?_
  rintro _ _ ⟨_, ⟨rfl, rfl⟩, rfl⟩
  refine JH.must rfl (ef_buildSlice (E := 2) (k := eI64.k) (us := eI64.fl [x2]) rfl (fun w => bsl33_1 x2 w) rfl (by decide)) rfl rfl ?_
  rintro _ _ ⟨a3, rfl, rfl⟩
  obtain ⟨x5, hx5, hres⟩ := bind_some hres
  refine JH.must rfl (ef_appendT (ix := 0) Go.Proofs.Try.underlying33 i2 i2z i2s rfl i2b0 i2b1 rfl rfl rfl rfl rfl (fun w hC => rd_row hC 2 rfl) hx5) rfl rfl ?_
  rintro _ _ ⟨a6, cp7, rfl, rfl⟩
  refine JH.must rfl (ef_store_box (i := 1) (v := .slice a6 x5.length cp7) i33 rfl rfl rfl (i33s).symm (Nat.le_of_ble_eq_true rfl) (by simp [Value.cells, Value.oneCell'])) rfl rfl ?_
  rintro _ _ rfl
  refine JH.nil ?_
  refine JE.weak (env' := []) (es' := [boxO 33 g_u0_0 [.slice a6 x5.length cp7], rowT 2 eI64 a6 x5.length cp7 x5, boxO 2 g_u1_2 [.int .i64 u1]]) [2, 1, 0] ?_ trivial (by decide) rfl
  show JE _ _ _ (bodyPost _ _ _ .ret) _ _
  obtain rfl := Option.some.inj hres
  refine JE.ret (rs := []) (vs := []) rfl trivial ?_
  exact fun w' hb hs => ⟨_, _, _, ⟨a6, x5.length, cp7, rfl, rfl, rfl, rfl⟩, rfl, hb, hs.sel [0, 1, 2] _ (by decide) rfl⟩

/- impl.plait -/
def sh125f137_2 (q1 : List Int) : (Int × List Int × Int × List Int) → Option ((Int × List Int × Int × List Int) ⊕ (List Int × Int × List Int))
  | (x19, x20, x21, x22) => bif decide (x19 < (q1.length : Int)) then (Option.bind (getI q1 x19) fun x26 => Option.bind (sh176 x26) fun x27 => Option.bind (getI x22 (w64 (x27 - 1))) fun x28 => Option.bind (bif decide (x26 < 0) then (Option.bind (getI x22 x27) fun x38 => some x38) else (some x28)) fun j29 => (Option.bind (getI x22 x27) fun x31 => Option.bind (getI x22 (w64 (x27 - 1))) fun x32 => Option.bind (getI x22 (w64 (x27 - 1))) fun x33 => Option.bind (getI (x22.set (w64 (x27 - 1)).toNat x31) x27) fun x34 => Option.bind (sh137 ((x22.set (w64 (x27 - 1)).toNat x31).set (x27).toNat x32) j29 x20 x21) fun x35 => some (.inl (w64 (x19 + 1), x35.1, x35.2, (x22.set (w64 (x27 - 1)).toNat x31).set (x27).toNat x32)))) else (some (.inr (x20, x21, x22)))
def sh125f137_1 (q0 : Int) : (Int × List Int) → Option ((Int × List Int) ⊕ (List Int))
  | (x5, x6) => bif decide (x5 < q0) then (Option.bind (appL x6 [x5]) fun x11 => some (.inl (w64 (x5 + 1), x11))) else (some (.inr x6))
def sh125f137 (q0 : Int) (q1 : List Int) (u0 : List Int) (u1 : Int) : Option (List Int × List Int × Int) := Option.bind (iter (sh125f137_1 q0) (0, ([] : List Int))) fun b1 => (Option.bind (iter (sh125f137_2 q1) (0, u0, u1, b1)) fun b2 => (some (b2.2.2, b2.1, b2.2.1)))
def T125f137 (g_u0_0 : Nat) (g_u1_2 : Nat) (r : List Int × List Int × Int) (v : Value) (es' rs : List Own) : Prop := ∃ (ax1 : Option Addr) (nx1 cx1 : Nat), r.2.1.length = nx1 ∧ es' = [boxO 33 g_u0_0 [.slice ax1 nx1 cx1], rowT 2 eI64 ax1 nx1 cx1 r.2.1, boxO 2 g_u1_2 [.int .i64 r.2.2]] ∧ ∃ (a0 : Option Addr) (n0 c0 : Nat), r.1.length = n0 ∧ v = rets [.slice a0 n0 c0] ∧ rs = [rowT 2 eI64 a0 n0 c0 r.1]
set_option maxRecDepth 100000 in
theorem c125f137 {w : World} {M : List Nat} {q0 : Int} {q1 : List Int} {a_1 : Option Addr} {n_1 c_1 : Nat} (g_1 : RdS M w a_1 (eI64.fl q1)) (l_1 : q1.length = n_1) (k_1 : n_1 ≤ c_1) {g_u0_0 : Nat} {u0 : List Int} {a_u0 : Option Addr} {n_u0 c_u0 : Nat} {g_u1_2 : Nat} {u1 : Int} (l_u0 : u0.length = n_u0) (gs : Sep w.heap.size M w [boxO 33 g_u0_0 [.slice a_u0 n_u0 c_u0], rowT 2 eI64 a_u0 n_u0 c_u0 u0, boxO 2 g_u1_2 [.int .i64 u1]]) {r : List Int × List Int × Int} (hres : sh125f137 q0 q1 u0 u1 = some r) : Calls Go.Proofs.Try.prog 125 [.int .i64 q0, .slice a_1 n_1 c_1, .func (.func 137) #[] #[ptrAt (some ⟨g_u0_0, 0, none⟩) 0, ptrAt (some ⟨g_u1_2, 0, none⟩) 0]].toArray w (RetMs w M (T125f137 g_u0_0 g_u1_2 r)) := by
  subst l_1
  subst l_u0
  unfold sh125f137 at hres
  refine calls_of (n := 64) (M := M) (es := [boxO 33 g_u0_0 [.slice a_u0 u0.length c_u0], rowT 2 eI64 a_u0 u0.length c_u0 u0, boxO 2 g_u1_2 [.int .i64 u1]]) Go.Proofs.Try.func125 rfl rfl rfl gs ?_
  refine JX.seq ?_
  refine JX.region ?_
  refine JL.val (yl_assign rfl) rfl ?_
  refine JL.nil ?_
  refine JE.code ?_
  refine JX.seq ?_
  refine JX.region ?_
  refine JL.eff (ef_buildSlice (E := 2) (k := eI64.k) (us := eI64.fl ([] : List Int)) rfl (fun w => bsl33_0  w) rfl (by decide)) rfl ?_
  rintro _ _ ⟨a1, rfl, rfl⟩
  refine JL.val (yl_assign rfl) rfl ?_
  refine JL.nil ?_
  refine JE.code ?_
  refine JX.seq ?_
  refine JX.seq ?_
  refine JX.region ?_
  refine JL.val (yl_move rfl) rfl ?_
  refine JL.val (yl_move rfl) rfl ?_
  refine JL.nil ?_
  refine JE.code ?_
  refine JX.block ?_
  obtain ⟨y1, hy1, hresO1⟩ := bind_some hres
  refine JX.loop (I := fun (s1 : Int × List Int) aa ww => ∃ (a3 : Option Addr) (cp4 : Nat), St w M 64 [(1, .slice a_1 q1.length c_1), (2, .func (.func 137) #[] #[ptrAt (some ⟨g_u0_0, 0, none⟩) 0, ptrAt (some ⟨g_u1_2, 0, none⟩) 0]), (7, .slice a3 s1.2.length cp4), (14, .int .i64 q0), (15, .int .i64 s1.1)] [boxO 33 g_u0_0 [.slice a_u0 u0.length c_u0], rowT 2 eI64 a_u0 u0.length c_u0 u0, boxO 2 g_u1_2 [.int .i64 u1], rowT 2 eI64 a3 s1.2.length cp4 s1.2] aa ww) (sh125f137_1 q0) hy1 (fun a w h => ⟨a1, 0, h.weak ⟨rfl, rfl, rfl, rfl, rfl, trivial⟩ [0, 1, 2, 3] (by decide) rfl⟩) ?_
  rintro ⟨x5, x6⟩ o1 hres hox1 aa ww ⟨a7, cp8, hS⟩
  refine (?_ : JX Go.Proofs.Try.prog w M 64 _ _ [(1, .slice a_1 q1.length c_1), (2, .func (.func 137) #[] #[ptrAt (some ⟨g_u0_0, 0, none⟩) 0, ptrAt (some ⟨g_u1_2, 0, none⟩) 0]), (7, .slice a7 x6.length cp8), (14, .int .i64 q0), (15, .int .i64 x5)] [boxO 33 g_u0_0 [.slice a_u0 u0.length c_u0], rowT 2 eI64 a_u0 u0.length c_u0 u0, boxO 2 g_u1_2 [.int .i64 u1], rowT 2 eI64 a7 x6.length cp8 x6] _) aa ww hS
  clear hS
  simp only [sh125f137_1] at hres
  refine JX.seq ?_
  refine JX.region ?_
  refine JL.val (yl_lss rfl rfl) rfl ?_
  refine JL.nil ?_
  refine JE.code ?_
  refine JX.seq ?_
  rcases cond_some hres with ⟨hb, hres⟩ | ⟨hb, hres⟩
  · refine JX.condT rfl hb ?_
    refine JX.skip ?_
    refine JE.code ?_
    refine JX.seq ?_
    refine JX.block ?_
    refine JX.seq ?_
    refine JX.region ?_
    refine JL.val (yl_move rfl) rfl ?_
    refine JL.val (yl_assign rfl) rfl ?_
    refine JL.nil ?_
    refine JE.code ?_
    refine JX.region ?_
    refine JL.val (yl_move rfl) rfl ?_
    refine JL.val (yl_move rfl) rfl ?_
    refine JL.eff (ef_buildSlice (E := 2) (k := eI64.k) (us := eI64.fl [x5]) rfl (fun w => bsl33_1 x5 w) rfl (by decide)) rfl ?_
    rintro _ _ ⟨a9, rfl, rfl⟩
    obtain ⟨x11, hx11, hres⟩ := bind_some hres
    refine JL.eff (ef_appendT (ix := 3) Go.Proofs.Try.underlying33 i2 i2z i2s rfl i2b0 i2b1 rfl rfl rfl rfl rfl (fun w hC => rd_row hC 4 rfl) hx11) rfl ?_
    rintro _ _ ⟨a12, cp13, rfl, rfl⟩
    refine JL.val (yl_assign rfl) rfl ?_
    refine JL.nil ?_
    refine JE.weak (env' := [(1, .slice a_1 q1.length c_1), (2, .func (.func 137) #[] #[ptrAt (some ⟨g_u0_0, 0, none⟩) 0, ptrAt (some ⟨g_u1_2, 0, none⟩) 0]), (7, .slice a12 x11.length cp13), (14, .int .i64 q0), (15, .int .i64 x5)]) (es' := [boxO 33 g_u0_0 [.slice a_u0 u0.length c_u0], rowT 2 eI64 a_u0 u0.length c_u0 u0, boxO 2 g_u1_2 [.int .i64 u1], rowT 2 eI64 a12 x11.length cp13 x11]) [0, 1, 2, 3] ?_ ⟨rfl, rfl, rfl, rfl, rfl, trivial⟩ (by decide) rfl
    refine JE.code ?_
    refine JX.region ?_
    refine JL.val (yl_add rfl rfl) rfl ?_
    refine JL.val (yl_move rfl) rfl ?_
    refine JL.nil ?_
    refine JE.cont hres ?_
    exact fun a w h => ⟨a12, cp13, h.weak ⟨rfl, rfl, rfl, rfl, rfl, trivial⟩ [0, 1, 2, 3] (by decide) rfl⟩
  · refine JX.condF rfl hb ?_
    refine JX.exit ?_
    refine JE.qb rfl ?_
    obtain ⟨b1, hb1⟩ : ∃ b : List Int, b = x6 := ⟨_, rfl⟩
    have hy1 : b1 = y1 := by rw [hb1]; exact hox1 _ (Option.some.inj hres).symm
    have hres := hresO1
    rw [← hy1] at hres
    refine JE.weak (env' := [(1, .slice a_1 q1.length c_1), (2, .func (.func 137) #[] #[ptrAt (some ⟨g_u0_0, 0, none⟩) 0, ptrAt (some ⟨g_u1_2, 0, none⟩) 0]), (7, .slice a7 b1.length cp8)]) (es' := [boxO 33 g_u0_0 [.slice a_u0 u0.length c_u0], rowT 2 eI64 a_u0 u0.length c_u0 u0, boxO 2 g_u1_2 [.int .i64 u1], rowT 2 eI64 a7 b1.length cp8 b1]) [0, 1, 2, 3] ?_ ⟨(by subst hb1; rfl), (by subst hb1; rfl), (by subst hb1; rfl), trivial⟩ (by decide) (by subst hb1; rfl)
    refine JE.code ?_
    refine JX.seq ?_
    refine JX.seq ?_
    refine JX.region ?_
    refine JL.val (yl_move rfl) rfl ?_
    refine JL.val (yl_len_slice Go.Proofs.Try.underlying33 rfl) rfl ?_
    refine JL.val (yl_move rfl) rfl ?_
    refine JL.nil ?_
    refine JE.code ?_
    refine JX.block ?_
    obtain ⟨y2, hy2, hresO2⟩ := bind_some hres
    refine JX.loop (I := fun (s2 : Int × List Int × Int × List Int) aa ww => ∃ (a16 : Option Addr) (cp17 : Nat) (l18 : s2.2.2.2.length = b1.length), St w M 64 [(2, .func (.func 137) #[] #[ptrAt (some ⟨g_u0_0, 0, none⟩) 0, ptrAt (some ⟨g_u1_2, 0, none⟩) 0]), (7, .slice a7 b1.length cp8), (23, .slice a_1 q1.length c_1), (24, .int .i64 (q1.length : Int)), (25, .int .i64 s2.1)] [boxO 33 g_u0_0 [.slice a16 s2.2.1.length cp17], rowT 2 eI64 a16 s2.2.1.length cp17 s2.2.1, boxO 2 g_u1_2 [.int .i64 s2.2.2.1], rowT 2 eI64 a7 b1.length cp8 s2.2.2.2] aa ww) (sh125f137_2 q1) hy2 (fun a w h => ⟨a_u0, c_u0, rfl, h.weak ⟨rfl, rfl, rfl, rfl, rfl, trivial⟩ [0, 1, 2, 3] (by decide) rfl⟩) ?_
    rintro ⟨x19, x20, x21, x22⟩ o2 hres hox2 aa ww ⟨a23, cp24, l25, hS⟩
    refine (?_ : JX Go.Proofs.Try.prog w M 64 _ _ [(2, .func (.func 137) #[] #[ptrAt (some ⟨g_u0_0, 0, none⟩) 0, ptrAt (some ⟨g_u1_2, 0, none⟩) 0]), (7, .slice a7 b1.length cp8), (23, .slice a_1 q1.length c_1), (24, .int .i64 (q1.length : Int)), (25, .int .i64 x19)] [boxO 33 g_u0_0 [.slice a23 x20.length cp24], rowT 2 eI64 a23 x20.length cp24 x20, boxO 2 g_u1_2 [.int .i64 x21], rowT 2 eI64 a7 b1.length cp8 x22] _) aa ww hS
    clear hS
    simp only [sh125f137_2] at hres
    refine JX.seq ?_
    refine JX.region ?_
    refine JL.val (yl_lss rfl rfl) rfl ?_
    refine JL.nil ?_
    refine JE.code ?_
    refine JX.seq ?_
    rcases cond_some hres with ⟨hb, hres⟩ | ⟨hb, hres⟩
    · refine JX.condT rfl hb ?_
      refine JX.skip ?_
      refine JE.code ?_
      refine JX.seq ?_
      refine JX.block ?_
      refine JX.seq ?_
      refine JX.region ?_
      obtain ⟨x26, hx26, hres⟩ := bind_some hres
      refine JL.val (yl_idxT Go.Proofs.Try.underlying33 i2 i2s rfl rfl hx26 rfl (fun w hC => rd_argS g_1 hC)) rfl ?_
      refine JL.val (yl_loadT0 Go.Proofs.Try.underlying2 rfl rfl hx26 (fun w hC => rd_argS g_1 hC) rfl) rfl ?_
      refine JL.val (yl_assign rfl) rfl ?_
      refine JL.nil ?_
      refine JE.code ?_
      refine JX.seq ?_
      refine JX.region ?_
      refine JL.val (yl_move rfl) rfl ?_
      obtain ⟨x27, hx27, hres⟩ := bind_some hres
      refine JL.eff (ef_call (T := T176 x27) Go.Proofs.Try.func176 rfl (by kernel_rfl) rfl (fun w hC => c176  hx27)) rfl ?_
      rintro _ _ ⟨_, ⟨rfl, rfl⟩, rfl⟩
      refine JL.val (yl_assign rfl) rfl ?_
      refine JL.nil ?_
      refine JE.code ?_
      refine JX.seq ?_
      refine JX.region ?_
      refine JL.val (yl_move rfl) rfl ?_
      refine JL.val (yl_move rfl) rfl ?_
      refine JL.val (yl_sub rfl rfl) rfl ?_
      obtain ⟨x28, hx28, hres⟩ := bind_some hres
      refine JL.val (yl_idxT Go.Proofs.Try.underlying33 i2 i2s rfl rfl hx28 l25 (fun w hC => rd_row hC 3 rfl)) rfl ?_
      refine JL.val (yl_loadT0 Go.Proofs.Try.underlying2 rfl rfl hx28 (fun w hC => rd_row hC 3 rfl) rfl) rfl ?_
      refine JL.val (yl_assign rfl) rfl ?_
      refine JL.nil ?_
      refine JE.weak (env' := [(2, .func (.func 137) #[] #[ptrAt (some ⟨g_u0_0, 0, none⟩) 0, ptrAt (some ⟨g_u1_2, 0, none⟩) 0]), (7, .slice a7 b1.length cp8), (10, .int .i64 x26), (11, .int .i64 x27), (12, .int .i64 x28), (23, .slice a_1 q1.length c_1), (24, .int .i64 (q1.length : Int)), (25, .int .i64 x19)]) (es' := [boxO 33 g_u0_0 [.slice a23 x20.length cp24], rowT 2 eI64 a23 x20.length cp24 x20, boxO 2 g_u1_2 [.int .i64 x21], rowT 2 eI64 a7 b1.length cp8 x22]) [0, 1, 2, 3] ?_ ⟨rfl, rfl, rfl, rfl, rfl, rfl, rfl, rfl, trivial⟩ (by decide) rfl
      refine JE.code ?_
      refine JX.seq ?_
      refine JX.seq ?_
      refine JX.region ?_
      refine JL.val (yl_move rfl) rfl ?_
      refine JL.val (yl_lss rfl rfl) rfl ?_
      refine JL.nil ?_
      refine JE.code ?_
      obtain ⟨j29, hj29, hresj29⟩ := bind_some hres
      refine JX.cut (K := fun J => J [(2, .func (.func 137) #[] #[ptrAt (some ⟨g_u0_0, 0, none⟩) 0, ptrAt (some ⟨g_u1_2, 0, none⟩) 0]), (7, .slice a7 b1.length cp8), (11, .int .i64 x27), (12, .int .i64 j29), (23, .slice a_1 q1.length c_1), (24, .int .i64 (q1.length : Int)), (25, .int .i64 x19)] [boxO 33 g_u0_0 [.slice a23 x20.length cp24], rowT 2 eI64 a23 x20.length cp24 x20, boxO 2 g_u1_2 [.int .i64 x21], rowT 2 eI64 a7 b1.length cp8 x22]) ?_ ?_
      · have hres := hresj29
        refine JE.code ?_
        refine JX.seq ?_
        refine JX.drawH [(0, .pure), (1, .pure), (2, .pure), (3, .pure), (4, .pure), (5, .pure), (6, .pure), (7, .pure), (8, .read0), (9, .pure), (10, .pure), (11, .pure), (12, .pure), (13, .read0), (14, .pure), (15, .must), (16, .pure), (17, .must)] [15, 17] [3] [0, 1, 2] [rowT 2 eI64 a7 b1.length cp8 x22] [boxO 33 g_u0_0 [.slice a23 x20.length cp24], rowT 2 eI64 a23 x20.length cp24 x20, boxO 2 g_u1_2 [.int .i64 x21]] mixedP (by kernel_rfl) (by kernel_rfl) (by decide) rfl rfl ?_
        intro wrr30 Nr30 hFr30
        refine JH.pure rfl (yl_move rfl) rfl ?_
        refine JH.pure rfl (yl_move rfl) rfl ?_
        refine JH.pure rfl (yl_sub rfl rfl) rfl ?_
        refine JH.pure rfl (yl_move rfl) rfl ?_
        refine JH.pure rfl (yl_move rfl) rfl ?_
        refine JH.pure rfl (yl_move rfl) rfl ?_
        refine JH.pure rfl (yl_move rfl) rfl ?_
        obtain ⟨x31, hx31, hres⟩ := bind_some hres
        refine JH.pure rfl (yl_idxQ Go.Proofs.Try.underlying33 i2 i2s rfl rfl hx31 l25 (rd_row hFr30.cl 3 rfl) l25) rfl ?_
        refine JH.read0 rfl (yl_loadT0 Go.Proofs.Try.underlying2 rfl rfl hx31 (fun w hw => (rd_row hFr30.cl 3 rfl).bw hw) rfl) rfl ?_
        refine JH.pure rfl (yl_move rfl) rfl ?_
        refine JH.pure rfl (yl_move rfl) rfl ?_
        refine JH.pure rfl (yl_sub rfl rfl) rfl ?_
        obtain ⟨x32, hx32, hres⟩ := bind_some hres
        refine JH.pure rfl (yl_idxQ Go.Proofs.Try.underlying33 i2 i2s rfl rfl hx32 l25 (rd_row hFr30.cl 3 rfl) l25) rfl ?_
        refine JH.read0 rfl (yl_loadT0 Go.Proofs.Try.underlying2 rfl rfl hx32 (fun w hw => (rd_row hFr30.cl 3 rfl).bw hw) rfl) rfl ?_
        obtain ⟨x33, hx33, hres⟩ := bind_some hres
        refine JH.pure rfl (yl_idxQ Go.Proofs.Try.underlying33 i2 i2s rfl rfl hx33 l25 (rd_row hFr30.cl 3 rfl) l25) rfl ?_
        refine JH.must rfl (ef_storeT (ix := 0) (u := x31) i2 i2s rfl rfl rfl hx33 rfl) rfl rfl ?_
        rintro _ _ rfl
        obtain ⟨x34, hx34, hres⟩ := bind_some hres
        refine JH.pure rfl (yl_idxQ Go.Proofs.Try.underlying33 i2 i2s rfl rfl hx34 (List.length_set.trans l25) (rd_row hFr30.cl 3 rfl) l25) rfl ?_
        refine JH.must rfl (ef_storeT (ix := 0) (u := x32) i2 i2s rfl rfl rfl hx34 rfl) rfl rfl ?_
        rintro _ _ rfl
        refine JH.nil ?_
        refine JE.weak (env' := [(2, .func (.func 137) #[] #[ptrAt (some ⟨g_u0_0, 0, none⟩) 0, ptrAt (some ⟨g_u1_2, 0, none⟩) 0]), (7, .slice a7 b1.length cp8), (12, .int .i64 j29), (23, .slice a_1 q1.length c_1), (24, .int .i64 (q1.length : Int)), (25, .int .i64 x19)]) (es' := [boxO 33 g_u0_0 [.slice a23 x20.length cp24], rowT 2 eI64 a23 x20.length cp24 x20, boxO 2 g_u1_2 [.int .i64 x21], rowT 2 eI64 a7 b1.length cp8 ((x22.set (w64 (x27 - 1)).toNat x31).set (x27).toNat x32)]) [0, 1, 2, 3] ?_ ⟨rfl, rfl, rfl, rfl, rfl, rfl, trivial⟩ (by decide) rfl
        refine JE.code ?_
        refine JX.region ?_
        refine JL.val (yl_move rfl) rfl ?_
        refine JL.val (yl_move rfl) rfl ?_
        refine JL.val (yl_move rfl) rfl ?_
        obtain ⟨x35, hx35, hres⟩ := bind_some hres
        refine JL.eff (ef_callms (caps := [ptrAt (some ⟨g_u0_0, 0, none⟩) 0, ptrAt (some ⟨g_u1_2, 0, none⟩) 0]) (vs := [.slice a7 b1.length cp8, .int .i64 j29]) (T := T137 g_u0_0 g_u1_2 x35) [0, 1, 2] [3] [boxO 33 g_u0_0 [.slice a23 x20.length cp24], rowT 2 eI64 a23 x20.length cp24 x20, boxO 2 g_u1_2 [.int .i64 x21]] [rowT 2 eI64 a7 b1.length cp8 ((x22.set (w64 (x27 - 1)).toNat x31).set (x27).toNat x32)] rfl Go.Proofs.Try.func137 rfl (by kernel_rfl) rfl (by decide) rfl rfl (fun w N hF hS => c137  (RdS.row hF 3 rfl rfl) (List.length_set.trans (List.length_set.trans l25)) (ln_row hF.cl 3 rfl) rfl hS hx35)) rfl ?_
        rintro _ _ ⟨_, _, ⟨a36, _, cp37, rfl, rfl, rfl, rfl⟩, rfl⟩
        refine JL.nil ?_
        refine JE.weak (env' := [(2, .func (.func 137) #[] #[ptrAt (some ⟨g_u0_0, 0, none⟩) 0, ptrAt (some ⟨g_u1_2, 0, none⟩) 0]), (7, .slice a7 b1.length cp8), (23, .slice a_1 q1.length c_1), (24, .int .i64 (q1.length : Int)), (25, .int .i64 x19)]) (es' := [boxO 33 g_u0_0 [.slice a36 x35.1.length cp37], rowT 2 eI64 a36 x35.1.length cp37 x35.1, boxO 2 g_u1_2 [.int .i64 x35.2], rowT 2 eI64 a7 b1.length cp8 ((x22.set (w64 (x27 - 1)).toNat x31).set (x27).toNat x32)]) [1, 2, 3, 0] ?_ ⟨rfl, rfl, rfl, rfl, rfl, trivial⟩ (by decide) rfl
        refine JE.code ?_
        refine JX.region ?_
        refine JL.val (yl_add rfl rfl) rfl ?_
        refine JL.val (yl_move rfl) rfl ?_
        refine JL.nil ?_
        refine JE.cont hres ?_
        exact fun a w h => ⟨a36, cp37, (List.length_set.trans (List.length_set.trans l25)), h.weak ⟨rfl, rfl, rfl, rfl, rfl, trivial⟩ [0, 1, 2, 3] (by decide) rfl⟩
      · intro K
        rcases cond_some hj29 with ⟨hb, hres⟩ | ⟨hb, hres⟩
        · refine JX.condT rfl hb ?_
          refine JX.region ?_
          refine JL.val (yl_move rfl) rfl ?_
          refine JL.val (yl_move rfl) rfl ?_
          obtain ⟨x38, hx38, hres⟩ := bind_some hres
          refine JL.val (yl_idxT Go.Proofs.Try.underlying33 i2 i2s rfl rfl hx38 l25 (fun w hC => rd_row hC 3 rfl)) rfl ?_
          refine JL.val (yl_loadT0 Go.Proofs.Try.underlying2 rfl rfl hx38 (fun w hC => rd_row hC 3 rfl) rfl) rfl ?_
          refine JL.val (yl_assign rfl) rfl ?_
          refine JL.nil ?_
          refine JE.weak (env' := [(2, .func (.func 137) #[] #[ptrAt (some ⟨g_u0_0, 0, none⟩) 0, ptrAt (some ⟨g_u1_2, 0, none⟩) 0]), (7, .slice a7 b1.length cp8), (11, .int .i64 x27), (12, .int .i64 x38), (23, .slice a_1 q1.length c_1), (24, .int .i64 (q1.length : Int)), (25, .int .i64 x19)]) (es' := [boxO 33 g_u0_0 [.slice a23 x20.length cp24], rowT 2 eI64 a23 x20.length cp24 x20, boxO 2 g_u1_2 [.int .i64 x21], rowT 2 eI64 a7 b1.length cp8 x22]) [0, 1, 2, 3] ?_ ⟨rfl, rfl, rfl, rfl, rfl, rfl, rfl, trivial⟩ (by decide) rfl
          have hj := Option.some.inj hres
          exact JE.weak [0, 1, 2, 3] (K) ⟨(by subst hj; rfl), (by subst hj; rfl), (by subst hj; rfl), (by subst hj; rfl), (by subst hj; rfl), (by subst hj; rfl), (by subst hj; rfl), trivial⟩ (by decide) (by subst hj; rfl)
        · refine JX.condF rfl hb ?_
          refine JX.skip ?_
          have hj := Option.some.inj hres
          exact JE.weak [0, 1, 2, 3] (K) ⟨(by subst hj; rfl), (by subst hj; rfl), (by subst hj; rfl), (by subst hj; rfl), (by subst hj; rfl), (by subst hj; rfl), (by subst hj; rfl), trivial⟩ (by decide) (by subst hj; rfl)
    · refine JX.condF rfl hb ?_
      refine JX.exit ?_
      refine JE.qb rfl ?_
      obtain ⟨b2, hb2⟩ : ∃ b : List Int × Int × List Int, b = (x20, x21, x22) := ⟨_, rfl⟩
      have hy2 : b2 = y2 := by rw [hb2]; exact hox2 _ (Option.some.inj hres).symm
      have hres := hresO2
      rw [← hy2] at hres
      have l41 : b2.2.2.length = b1.length := by subst hb2; exact l25
      refine JE.weak (env' := [(7, .slice a7 b1.length cp8)]) (es' := [boxO 33 g_u0_0 [.slice a23 b2.1.length cp24], rowT 2 eI64 a23 b2.1.length cp24 b2.1, boxO 2 g_u1_2 [.int .i64 b2.2.1], rowT 2 eI64 a7 b1.length cp8 b2.2.2]) [0, 1, 2, 3] ?_ ⟨(by subst hb2; rfl), trivial⟩ (by decide) (by subst hb2; rfl)
      refine JE.code ?_
      refine JX.seq ?_
      refine JX.region ?_
      refine JL.val (yl_move rfl) rfl ?_
      refine JL.val (yl_assign rfl) rfl ?_
      refine JL.nil ?_
      refine JE.code ?_
      refine JX.ret ?_
      obtain rfl := Option.some.inj hres
      refine JE.ret (rs := [.tmp 6]) (vs := [.slice a7 b1.length cp8]) rfl ⟨rfl, trivial⟩ ?_
      exact fun w' hb hs => ⟨_, _, _, ⟨a23, b2.1.length, cp24, rfl, rfl, a7, b1.length, cp8, l41, rfl, rfl⟩, rfl, hb, hs.sel [0, 1, 2, 3] _ (by decide) rfl⟩

/- impl.PathOfStrand -/
def sh73 (q0 : Int) (q1 : List Int) (q2 : Int) : Option (List Int × Int) := Option.bind (sh76 q0 q1) fun x3 => bif !x3 then (some (([] : List Int), 1)) else (Option.bind (sh136 q2 0 (w64 (q0 - 1))) fun x5 => bif !x5 then (some (([] : List Int), 2)) else (Option.bind (sh125f137 q0 q1 [q2] q2) fun x11 => some (x11.2.1, 0)))
def T73 (r : List Int × Int) (v : Value) (rs : List Own) : Prop := ∃ (a0 : Option Addr) (n0 c0 : Nat), r.1.length = n0 ∧ v = rets [.slice a0 n0 c0, .int .i64 r.2] ∧ rs = [rowT 2 eI64 a0 n0 c0 r.1]
set_option maxRecDepth 100000 in
theorem c73 {w : World} {q0 : Int} {q1 : List Int} {a_1 : Option Addr} {n_1 c_1 : Nat} (g_1 : Rd w a_1 (eI64.fl q1)) (l_1 : q1.length = n_1) (k_1 : n_1 ≤ c_1) {q2 : Int} {r : List Int × Int} (hres : sh73 q0 q1 q2 = some r) : Calls Go.Proofs.Try.prog 73 [.int .i64 q0, .slice a_1 n_1 c_1, .int .i64 q2].toArray w (Ret w (T73 r)) := by
  subst l_1
  unfold sh73 at hres
  refine calls_of (n := 25) (M := []) (es := []) Go.Proofs.Try.func73 rfl rfl rfl (Sep.nil _ _ _) ?_
  refine JX.seq ?_
  refine JX.region ?_
  refine JL.eff (ef_box rfl rfl) rfl ?_
  rintro _ _ ⟨g1, rfl, rfl⟩
  refine JL.val (yl_assign rfl) rfl ?_
  refine JL.val (yl_assign rfl) rfl ?_
  refine JL.nil ?_
  refine JE.code ?_
  refine JX.seq ?_
  refine JX.seq ?_
  refine JX.region ?_
  refine JL.val (yl_move rfl) rfl ?_
  refine JL.val (yl_move rfl) rfl ?_
  obtain ⟨x3, hx3, hres⟩ := bind_some hres
  refine JL.eff (ef_call (T := T76 x3) Go.Proofs.Try.func76 rfl (by kernel_rfl) rfl (fun w hC => c76 (rd_arg g_1 hC) rfl k_1 hx3)) rfl ?_
  rintro _ _ ⟨_, ⟨rfl, rfl⟩, rfl⟩
  refine JL.val (yl_not rfl) rfl ?_
  refine JL.nil ?_
  refine JE.weak (env' := [(0, .int .i64 q0), (1, .slice a_1 q1.length c_1), (5, ptrAt (some ⟨g1, 0, none⟩) 0), (12, .bool !x3)]) (es' := [boxO 2 g1 [.int .i64 q2]]) [0] ?_ ⟨rfl, rfl, rfl, rfl, trivial⟩ (by decide) rfl
  refine JE.code ?_
  rcases cond_some hres with ⟨hb, hres⟩ | ⟨hb, hres⟩
  · refine JX.condT rfl hb ?_
    refine JX.seq ?_
    refine JX.region ?_
    refine JL.val (yl_assign rfl) rfl ?_
    refine JL.val (yl_assign rfl) rfl ?_
    refine JL.nil ?_
    refine JE.weak (env' := [(6, .slice none 0 0), (7, .int .i64 1)]) (es' := []) [] ?_ ⟨rfl, rfl, trivial⟩ (by decide) rfl
    refine JE.code ?_
    refine JX.ret ?_
    refine JE.nilrow 2 eI64 ?_
    obtain rfl := Option.some.inj hres
    refine JE.ret (rs := [.tmp 6, .tmp 7]) (vs := [.slice none 0 0, .int .i64 1]) rfl ⟨rfl, rfl, trivial⟩ ?_
    exact fun w' hb hs => ⟨_, _, ⟨none, 0, 0, rfl, rfl, rfl⟩, rfl, hb, hs.sel [0] _ (by decide) rfl⟩
  · refine JX.condF rfl hb ?_
    refine JX.skip ?_
    refine JE.code ?_
    refine JX.seq ?_
    refine JX.seq ?_
    refine JX.region ?_
    refine JL.val (yl_load1 Go.Proofs.Try.underlying2 rfl rfl (fun w hC => rd_box hC 0 rfl) rfl) rfl ?_
    refine JL.val (yl_move rfl) rfl ?_
    refine JL.val (yl_sub rfl rfl) rfl ?_
    obtain ⟨x5, hx5, hres⟩ := bind_some hres
    refine JL.eff (ef_call (T := T136 x5) Go.Proofs.Try.func136 rfl (by kernel_rfl) rfl (fun w hC => c136  hx5)) rfl ?_
    rintro _ _ ⟨_, ⟨rfl, rfl⟩, rfl⟩
    refine JL.val (yl_not rfl) rfl ?_
    refine JL.nil ?_
    refine JE.weak (env' := [(0, .int .i64 q0), (1, .slice a_1 q1.length c_1), (5, ptrAt (some ⟨g1, 0, none⟩) 0), (17, .bool !x5)]) (es' := [boxO 2 g1 [.int .i64 q2]]) [0] ?_ ⟨rfl, rfl, rfl, rfl, trivial⟩ (by decide) rfl
    refine JE.code ?_
    rcases cond_some hres with ⟨hb, hres⟩ | ⟨hb, hres⟩
    · refine JX.condT rfl hb ?_
      refine JX.seq ?_
      refine JX.region ?_
      refine JL.val (yl_assign rfl) rfl ?_
      refine JL.val (yl_assign rfl) rfl ?_
      refine JL.nil ?_
      refine JE.weak (env' := [(6, .slice none 0 0), (7, .int .i64 2)]) (es' := []) [] ?_ ⟨rfl, rfl, trivial⟩ (by decide) rfl
      refine JE.code ?_
      refine JX.ret ?_
      refine JE.nilrow 2 eI64 ?_
      obtain rfl := Option.some.inj hres
      refine JE.ret (rs := [.tmp 6, .tmp 7]) (vs := [.slice none 0 0, .int .i64 2]) rfl ⟨rfl, rfl, trivial⟩ ?_
      exact fun w' hb hs => ⟨_, _, ⟨none, 0, 0, rfl, rfl, rfl⟩, rfl, hb, hs.sel [0] _ (by decide) rfl⟩
    · refine JX.condF rfl hb ?_
      refine JX.skip ?_
      refine JE.code ?_
      refine JX.seq ?_
      refine JX.region ?_
      refine JL.val (yl_load1 Go.Proofs.Try.underlying2 rfl rfl (fun w hC => rd_box hC 0 rfl) rfl) rfl ?_
      refine JL.eff (ef_buildSlice (E := 2) (k := eI64.k) (us := eI64.fl [q2]) rfl (fun w => bsl33_1 q2 w) rfl (by decide)) rfl ?_
      rintro _ _ ⟨a7, rfl, rfl⟩
      refine JL.eff (ef_alloc i33 i33z rfl) rfl ?_
      rintro _ _ ⟨g9, rfl, rfl⟩
      refine JL.eff (ef_store_box (i := 2) (v := .slice a7 1 1) i33 rfl rfl rfl (i33s).symm (Nat.le_of_ble_eq_true rfl) (by simp [Value.cells, Value.oneCell'])) rfl ?_
      rintro _ _ rfl
      refine JL.nil ?_
      refine JE.weak (env' := [(0, .int .i64 q0), (1, .slice a_1 q1.length c_1), (5, ptrAt (some ⟨g1, 0, none⟩) 0), (8, ptrAt (some ⟨g9, 0, none⟩) 0)]) (es' := [boxO 2 g1 [.int .i64 q2], boxO 33 g9 [.slice a7 1 1], rowT 2 eI64 a7 1 1 [q2]]) [0, 2, 1] ?_ ⟨rfl, rfl, rfl, rfl, trivial⟩ (by decide) rfl
      refine JE.code ?_
      refine JX.seq ?_
      refine JX.region ?_
      refine JL.val (yl_move rfl) rfl ?_
      refine JL.val (yl_move rfl) rfl ?_
      refine JL.val (yl_func rfl) rfl ?_
      obtain ⟨x11, hx11, hres⟩ := bind_some hres
      refine JL.eff (ef_callms (caps := []) (vs := [.int .i64 q0, .slice a_1 q1.length c_1, .func (.func 137) #[] #[ptrAt (some ⟨g9, 0, none⟩) 0, ptrAt (some ⟨g1, 0, none⟩) 0]]) (T := T125f137 g9 g1 x11) [1, 2, 0] [] [boxO 33 g9 [.slice a7 1 1], rowT 2 eI64 a7 1 1 [q2], boxO 2 g1 [.int .i64 q2]] [] rfl Go.Proofs.Try.func125 rfl (by kernel_rfl) rfl (by decide) rfl rfl (fun w N hF hS => c125f137  (RdS.pass0 hF g_1) rfl k_1 rfl hS hx11)) rfl ?_
      rintro _ _ ⟨_, _, ⟨a12, _, cp13, rfl, rfl, a14, _, cp15, rfl, rfl, rfl⟩, rfl⟩
      refine JL.nil ?_
      refine JE.weak (env' := [(8, ptrAt (some ⟨g9, 0, none⟩) 0)]) (es' := [boxO 33 g9 [.slice a12 x11.2.1.length cp13], rowT 2 eI64 a12 x11.2.1.length cp13 x11.2.1]) [0, 1] ?_ ⟨rfl, trivial⟩ (by decide) rfl
      refine JE.code ?_
      refine JX.seq ?_
      refine JX.region ?_
      refine JL.val (yl_load1 Go.Proofs.Try.underlying33 rfl rfl (fun w hC => rd_box hC 0 rfl) rfl) rfl ?_
      refine JL.val (yl_assign rfl) rfl ?_
      refine JL.val (yl_assign rfl) rfl ?_
      refine JL.nil ?_
      refine JE.weak (env' := [(6, .slice a12 x11.2.1.length cp13), (7, .int .i64 0)]) (es' := [rowT 2 eI64 a12 x11.2.1.length cp13 x11.2.1]) [1] ?_ ⟨rfl, rfl, trivial⟩ (by decide) rfl
      refine JE.code ?_
      refine JX.ret ?_
      obtain rfl := Option.some.inj hres
      refine JE.ret (rs := [.tmp 6, .tmp 7]) (vs := [.slice a12 x11.2.1.length cp13, .int .i64 0]) rfl ⟨rfl, rfl, trivial⟩ ?_
      exact fun w' hb hs => ⟨_, _, ⟨a12, x11.2.1.length, cp13, rfl, rfl, rfl⟩, rfl, hb, hs.sel [0] _ (by decide) rfl⟩

/- spec.l23Place -/
def sh139_1 (q0 : List Int) (q1 : Int) : Int → Option (Int ⊕ (Unit ⊕ Int))
  | x1 => bif decide (x1 < (q0.length : Int)) then (Option.bind (getI q0 x1) fun x2 => bif x2 == q1 then (some (.inr (.inr x1))) else (some (.inl (w64 (x1 + 1))))) else (some (.inr (.inl ())))
def sh139 (q0 : List Int) (q1 : Int) : Option (Int) := Option.bind (iter (sh139_1 q0 q1) 0) fun y1 => elimS y1 (fun r => some r) fun b1 => (some (-1))
def T139 (r : Int) (v : Value) (rs : List Own) : Prop := v = rets [.int .i64 r] ∧ rs = []
set_option maxRecDepth 100000 in
theorem c139 {w : World} {q0 : List Int} {a_0 : Option Addr} {n_0 c_0 : Nat} (g_0 : Rd w a_0 (eI64.fl q0)) (l_0 : q0.length = n_0) (k_0 : n_0 ≤ c_0) {q1 : Int} {r : Int} (hres : sh139 q0 q1 = some r) : Calls Go.Proofs.Try.prog 139 [.slice a_0 n_0 c_0, .int .i64 q1].toArray w (Ret w (T139 r)) := by
  subst l_0
  unfold sh139 at hres
  refine calls_of (n := 19) (M := []) (es := []) Go.Proofs.Try.func139 rfl rfl rfl (Sep.nil _ _ _) ?_
  refine JX.seq ?_
  refine JX.region ?_
  refine JL.val (yl_assign rfl) rfl ?_
  refine JL.nil ?_
  refine JE.code ?_
  refine JX.seq ?_
  refine JX.seq ?_
  refine JX.region ?_
  refine JL.val (yl_assign rfl) rfl ?_
  refine JL.nil ?_
  refine JE.code ?_
  refine JX.block ?_
  obtain ⟨y1, hy1, hresO1⟩ := bind_some hres
  refine JX.loop (I := fun (s1 : Int) aa ww => St w [] 19 [(0, .slice a_0 q0.length c_0), (1, .int .i64 q1), (5, .int .i64 s1)] [] aa ww) (sh139_1 q0 q1) hy1 (fun a w h => h.weak ⟨rfl, rfl, rfl, trivial⟩ [] (by decide) rfl) ?_
  rintro x1 o1 hres hox1 aa ww hS
  refine (?_ : JX Go.Proofs.Try.prog w [] 19 _ _ [(0, .slice a_0 q0.length c_0), (1, .int .i64 q1), (5, .int .i64 x1)] [] _) aa ww hS
  clear hS
  unfold sh139_1 at hres
  refine JX.seq ?_
  refine JX.seq ?_
  refine JX.region ?_
  refine JL.val (yl_move rfl) rfl ?_
  refine JL.val (yl_move rfl) rfl ?_
  refine JL.val (yl_len_slice Go.Proofs.Try.underlying33 rfl) rfl ?_
  refine JL.val (yl_lss rfl rfl) rfl ?_
  refine JL.nil ?_
  refine JE.weak (env' := [(0, .slice a_0 q0.length c_0), (1, .int .i64 q1), (5, .int .i64 x1), (9, .bool (decide (x1 < (q0.length : Int))))]) (es' := []) [] ?_ ⟨rfl, rfl, rfl, rfl, trivial⟩ (by decide) rfl
  refine JE.code ?_
  rcases cond_some hres with ⟨hb, hres⟩ | ⟨hb, hres⟩
  · refine JX.condT rfl hb ?_
    refine JX.skip ?_
    refine JE.code ?_
    refine JX.seq ?_
    refine JX.block ?_
    refine JX.seq ?_
    refine JX.region ?_
    refine JL.val (yl_move rfl) rfl ?_
    refine JL.val (yl_move rfl) rfl ?_
    obtain ⟨x2, hx2, hres⟩ := bind_some hres
    refine JL.val (yl_idxT Go.Proofs.Try.underlying33 i2 i2s rfl rfl hx2 rfl (fun w hC => rd_arg g_0 hC)) rfl ?_
    refine JL.val (yl_loadT0 Go.Proofs.Try.underlying2 rfl rfl hx2 (fun w hC => rd_arg g_0 hC) rfl) rfl ?_
    refine JL.val (yl_move rfl) rfl ?_
    refine JL.val (yl_eql rfl rfl) rfl ?_
    refine JL.nil ?_
    refine JE.weak (env' := [(0, .slice a_0 q0.length c_0), (1, .int .i64 q1), (5, .int .i64 x1), (17, .bool (x2 == q1))]) (es' := []) [] ?_ ⟨rfl, rfl, rfl, rfl, trivial⟩ (by decide) rfl
    refine JE.code ?_
    rcases cond_some hres with ⟨hb, hres⟩ | ⟨hb, hres⟩
    · refine JX.condT rfl hb ?_
      refine JX.seq ?_
      refine JX.region ?_
      refine JL.val (yl_move rfl) rfl ?_
      refine JL.val (yl_assign rfl) rfl ?_
      refine JL.nil ?_
      refine JE.code ?_
      refine JX.ret ?_
      refine JE.qbr ?_
      refine JE.qbr ?_
      have hres := elimS_inr hresO1 (hox1 _ (Option.some.inj hres).symm)
      obtain rfl := Option.some.inj hres
      refine JE.ret (rs := [.tmp 4]) (vs := [.int .i64 x1]) rfl ⟨rfl, trivial⟩ ?_
      exact fun w' hb hs => ⟨_, _, ⟨rfl, rfl⟩, rfl, hb, hs.sel [] _ (by decide) rfl⟩
    · refine JX.condF rfl hb ?_
      refine JX.skip ?_
      refine JE.code ?_
      refine JX.region ?_
      refine JL.val (yl_move rfl) rfl ?_
      refine JL.val (yl_add rfl rfl) rfl ?_
      refine JL.val (yl_assign rfl) rfl ?_
      refine JL.nil ?_
      refine JE.cont hres ?_
      exact fun a w h => h.weak ⟨rfl, rfl, rfl, trivial⟩ [] (by decide) rfl
  · refine JX.condF rfl hb ?_
    refine JX.exit ?_
    refine JE.qb rfl ?_
    obtain ⟨b1, hb1⟩ : ∃ b : Unit, b = () := ⟨_, rfl⟩
    have hy1 : Sum.inl b1 = y1 := by rw [hb1]; exact hox1 _ (Option.some.inj hres).symm
    have hres := elimS_inl hresO1 hy1
    refine JE.weak (env' := []) (es' := []) [] ?_ trivial (by decide) (by subst hb1; rfl)
    refine JE.code ?_
    refine JX.seq ?_
    refine JX.region ?_
    refine JL.val (yl_assign rfl) rfl ?_
    refine JL.nil ?_
    refine JE.code ?_
    refine JX.ret ?_
    obtain rfl := Option.some.inj hres
    refine JE.ret (rs := [.tmp 4]) (vs := [.int .i64 (-1)]) rfl ⟨rfl, trivial⟩ ?_
    exact fun w' hb hs => ⟨_, _, ⟨rfl, rfl⟩, rfl, hb, hs.sel [] _ (by decide) rfl⟩

/- spec.PathOfStrand -/
def sh74_1 (q1 : List Int) (q2 : Int) : (Int × List Int × List Int) → Option ((Int × List Int × List Int) ⊕ (List Int))
  | (x14, x15, x16) => bif decide (x14 < (q1.length : Int)) then (Option.bind (getI q1 x14) fun x20 => Option.bind (sh132 x15 x20) fun x21 => Option.bind (sh139 x21 q2) fun x23 => Option.bind (appL x16 [x23]) fun x26 => some (.inl (w64 (x14 + 1), x21, x26))) else (some (.inr x16))
def sh74 (q0 : Int) (q1 : List Int) (q2 : Int) : Option (List Int × Int) := Option.bind (sh127 q0 q1) fun x1 => bif !x1 then (some (([] : List Int), 1)) else (Option.bind (sh115 q2 0 (w64 (q0 - 1))) fun x3 => bif !x3 then (some (([] : List Int), 2)) else (Option.bind (sh130 q0) fun x5 => Option.bind (iter (sh74_1 q1 q2) (0, x5, [q2])) fun b1 => (some (b1, 0))))
def T74 (r : List Int × Int) (v : Value) (rs : List Own) : Prop := ∃ (a0 : Option Addr) (n0 c0 : Nat), r.1.length = n0 ∧ v = rets [.slice a0 n0 c0, .int .i64 r.2] ∧ rs = [rowT 2 eI64 a0 n0 c0 r.1]
set_option maxRecDepth 100000 in
theorem c74 {w : World} {q0 : Int} {q1 : List Int} {a_1 : Option Addr} {n_1 c_1 : Nat} (g_1 : Rd w a_1 (eI64.fl q1)) (l_1 : q1.length = n_1) (k_1 : n_1 ≤ c_1) {q2 : Int} {r : List Int × Int} (hres : sh74 q0 q1 q2 = some r) : Calls Go.Proofs.Try.prog 74 [.int .i64 q0, .slice a_1 n_1 c_1, .int .i64 q2].toArray w (Ret w (T74 r)) := by
  subst l_1
  unfold sh74 at hres
  refine calls_of (n := 43) (M := []) (es := []) Go.Proofs.Try.func74 rfl rfl rfl (Sep.nil _ _ _) ?_
  refine JX.seq ?_
  refine JX.region ?_
  refine JL.val (yl_assign rfl) rfl ?_
  refine JL.val (yl_assign rfl) rfl ?_
  refine JL.nil ?_
  refine JE.code ?_
  refine JX.seq ?_
  refine JX.seq ?_
  refine JX.region ?_
  refine JL.val (yl_move rfl) rfl ?_
  refine JL.val (yl_move rfl) rfl ?_
  obtain ⟨x1, hx1, hres⟩ := bind_some hres
  refine JL.eff (ef_call (T := T127 x1) Go.Proofs.Try.func127 rfl (by kernel_rfl) rfl (fun w hC => c127 (rd_arg g_1 hC) rfl k_1 hx1)) rfl ?_
  rintro _ _ ⟨_, ⟨rfl, rfl⟩, rfl⟩
  refine JL.val (yl_not rfl) rfl ?_
  refine JL.nil ?_
  refine JE.weak (env' := [(0, .int .i64 q0), (1, .slice a_1 q1.length c_1), (2, .int .i64 q2), (14, .bool !x1)]) (es' := []) [] ?_ ⟨rfl, rfl, rfl, rfl, trivial⟩ (by decide) rfl
  refine JE.code ?_
  rcases cond_some hres with ⟨hb, hres⟩ | ⟨hb, hres⟩
  · refine JX.condT rfl hb ?_
    refine JX.seq ?_
    refine JX.region ?_
    refine JL.val (yl_assign rfl) rfl ?_
    refine JL.val (yl_assign rfl) rfl ?_
    refine JL.nil ?_
    refine JE.code ?_
    refine JX.ret ?_
    refine JE.nilrow 2 eI64 ?_
    obtain rfl := Option.some.inj hres
    refine JE.ret (rs := [.tmp 6, .tmp 7]) (vs := [.slice none 0 0, .int .i64 1]) rfl ⟨rfl, rfl, trivial⟩ ?_
    exact fun w' hb hs => ⟨_, _, ⟨none, 0, 0, rfl, rfl, rfl⟩, rfl, hb, hs.sel [0] _ (by decide) rfl⟩
  · refine JX.condF rfl hb ?_
    refine JX.skip ?_
    refine JE.code ?_
    refine JX.seq ?_
    refine JX.seq ?_
    refine JX.region ?_
    refine JL.val (yl_move rfl) rfl ?_
    refine JL.val (yl_move rfl) rfl ?_
    refine JL.val (yl_sub rfl rfl) rfl ?_
    obtain ⟨x3, hx3, hres⟩ := bind_some hres
    refine JL.eff (ef_call (T := T115 x3) Go.Proofs.Try.func115 rfl (by kernel_rfl) rfl (fun w hC => c115  hx3)) rfl ?_
    rintro _ _ ⟨_, ⟨rfl, rfl⟩, rfl⟩
    refine JL.val (yl_not rfl) rfl ?_
    refine JL.nil ?_
    refine JE.weak (env' := [(0, .int .i64 q0), (1, .slice a_1 q1.length c_1), (2, .int .i64 q2), (19, .bool !x3)]) (es' := []) [] ?_ ⟨rfl, rfl, rfl, rfl, trivial⟩ (by decide) rfl
    refine JE.code ?_
    rcases cond_some hres with ⟨hb, hres⟩ | ⟨hb, hres⟩
    · refine JX.condT rfl hb ?_
      refine JX.seq ?_
      refine JX.region ?_
      refine JL.val (yl_assign rfl) rfl ?_
      refine JL.val (yl_assign rfl) rfl ?_
      refine JL.nil ?_
      refine JE.code ?_
      refine JX.ret ?_
      refine JE.nilrow 2 eI64 ?_
      obtain rfl := Option.some.inj hres
      refine JE.ret (rs := [.tmp 6, .tmp 7]) (vs := [.slice none 0 0, .int .i64 2]) rfl ⟨rfl, rfl, trivial⟩ ?_
      exact fun w' hb hs => ⟨_, _, ⟨none, 0, 0, rfl, rfl, rfl⟩, rfl, hb, hs.sel [0] _ (by decide) rfl⟩
    · refine JX.condF rfl hb ?_
      refine JX.skip ?_
      refine JE.code ?_
      refine JX.seq ?_
      refine JX.region ?_
      refine JL.val (yl_move rfl) rfl ?_
      obtain ⟨x5, hx5, hres⟩ := bind_some hres
      refine JL.eff (ef_call (T := T130 x5) Go.Proofs.Try.func130 rfl (by kernel_rfl) rfl (fun w hC => c130  hx5)) rfl ?_
      rintro _ _ ⟨_, ⟨a6, _, cp7, rfl, rfl, rfl⟩, rfl⟩
      refine JL.val (yl_assign rfl) rfl ?_
      refine JL.nil ?_
      refine JE.code ?_
      refine JX.seq ?_
      refine JX.region ?_
      refine JL.val (yl_move rfl) rfl ?_
      refine JL.eff (ef_buildSlice (E := 2) (k := eI64.k) (us := eI64.fl [q2]) rfl (fun w => bsl33_1 q2 w) rfl (by decide)) rfl ?_
      rintro _ _ ⟨a9, rfl, rfl⟩
      refine JL.val (yl_assign rfl) rfl ?_
      refine JL.nil ?_
      refine JE.code ?_
      refine JX.seq ?_
      refine JX.seq ?_
      refine JX.region ?_
      refine JL.val (yl_assign rfl) rfl ?_
      refine JL.nil ?_
      refine JE.code ?_
      refine JX.block ?_
      obtain ⟨y1, hy1, hresO1⟩ := bind_some hres
      refine JX.loop (I := fun (s1 : Int × List Int × List Int) aa ww => ∃ (l11 : s1.2.1.length = x5.length) (a12 : Option Addr) (cp13 : Nat), St w [] 43 [(1, .slice a_1 q1.length c_1), (2, .int .i64 q2), (8, .slice a6 x5.length cp7), (9, .slice a12 s1.2.2.length cp13), (10, .int .i64 s1.1)] [rowT 2 eI64 a6 x5.length cp7 s1.2.1, rowT 2 eI64 a12 s1.2.2.length cp13 s1.2.2] aa ww) (sh74_1 q1 q2) hy1 (fun a w h => ⟨rfl, a9, 1, h.weak ⟨rfl, rfl, rfl, rfl, rfl, trivial⟩ [0, 1] (by decide) rfl⟩) ?_
      rintro ⟨x14, x15, x16⟩ o1 hres hox1 aa ww ⟨l17, a18, cp19, hS⟩
      refine (?_ : JX Go.Proofs.Try.prog w [] 43 _ _ [(1, .slice a_1 q1.length c_1), (2, .int .i64 q2), (8, .slice a6 x5.length cp7), (9, .slice a18 x16.length cp19), (10, .int .i64 x14)] [rowT 2 eI64 a6 x5.length cp7 x15, rowT 2 eI64 a18 x16.length cp19 x16] _) aa ww hS
      clear hS
      simp only [sh74_1] at hres
      refine JX.seq ?_
      refine JX.seq ?_
      refine JX.region ?_
      refine JL.val (yl_move rfl) rfl ?_
      refine JL.val (yl_move rfl) rfl ?_
      refine JL.val (yl_len_slice Go.Proofs.Try.underlying33 rfl) rfl ?_
      refine JL.val (yl_lss rfl rfl) rfl ?_
      refine JL.nil ?_
      refine JE.weak (env' := [(1, .slice a_1 q1.length c_1), (2, .int .i64 q2), (8, .slice a6 x5.length cp7), (9, .slice a18 x16.length cp19), (10, .int .i64 x14), (27, .bool (decide (x14 < (q1.length : Int))))]) (es' := [rowT 2 eI64 a6 x5.length cp7 x15, rowT 2 eI64 a18 x16.length cp19 x16]) [0, 1] ?_ ⟨rfl, rfl, rfl, rfl, rfl, rfl, trivial⟩ (by decide) rfl
      refine JE.code ?_
      rcases cond_some hres with ⟨hb, hres⟩ | ⟨hb, hres⟩
      · refine JX.condT rfl hb ?_
        refine JX.skip ?_
        refine JE.code ?_
        refine JX.seq ?_
        refine JX.block ?_
        refine JX.seq ?_
        refine JX.region ?_
        refine JL.val (yl_move rfl) rfl ?_
        refine JL.val (yl_move rfl) rfl ?_
        refine JL.val (yl_move rfl) rfl ?_
        obtain ⟨x20, hx20, hres⟩ := bind_some hres
        refine JL.val (yl_idxT Go.Proofs.Try.underlying33 i2 i2s rfl rfl hx20 rfl (fun w hC => rd_arg g_1 hC)) rfl ?_
        refine JL.val (yl_loadT0 Go.Proofs.Try.underlying2 rfl rfl hx20 (fun w hC => rd_arg g_1 hC) rfl) rfl ?_
        obtain ⟨x21, hx21, hres⟩ := bind_some hres
        refine JL.eff (ef_callm (T := T132 a6 x5.length cp7 x21) 0 Go.Proofs.Try.func132 rfl (by kernel_rfl) rfl rfl (fun w fp hs => c132 hs l17 hx21)) rfl ?_
        rintro _ _ ⟨_, _, ⟨l22, rfl, rfl, rfl⟩, rfl⟩
        refine JL.nil ?_
        refine JE.weak (env' := [(1, .slice a_1 q1.length c_1), (2, .int .i64 q2), (8, .slice a6 x5.length cp7), (9, .slice a18 x16.length cp19), (10, .int .i64 x14)]) (es' := [rowT 2 eI64 a6 x5.length cp7 x21, rowT 2 eI64 a18 x16.length cp19 x16]) [0, 1] ?_ ⟨rfl, rfl, rfl, rfl, rfl, trivial⟩ (by decide) rfl
        refine JE.code ?_
        refine JX.region ?_
        refine JL.val (yl_move rfl) rfl ?_
        refine JL.val (yl_move rfl) rfl ?_
        refine JL.val (yl_move rfl) rfl ?_
        obtain ⟨x23, hx23, hres⟩ := bind_some hres
        refine JL.eff (ef_call (T := T139 x23) Go.Proofs.Try.func139 rfl (by kernel_rfl) rfl (fun w hC => c139 (rd_row hC 0 rfl) l22 (ln_row hC 0 rfl) hx23)) rfl ?_
        rintro _ _ ⟨_, ⟨rfl, rfl⟩, rfl⟩
        refine JL.eff (ef_buildSlice (E := 2) (k := eI64.k) (us := eI64.fl [x23]) rfl (fun w => bsl33_1 x23 w) rfl (by decide)) rfl ?_
        rintro _ _ ⟨a24, rfl, rfl⟩
        obtain ⟨x26, hx26, hres⟩ := bind_some hres
        refine JL.eff (ef_appendT (ix := 1) Go.Proofs.Try.underlying33 i2 i2z i2s rfl i2b0 i2b1 rfl rfl rfl rfl rfl (fun w hC => rd_row hC 2 rfl) hx26) rfl ?_
        rintro _ _ ⟨a27, cp28, rfl, rfl⟩
        refine JL.val (yl_assign rfl) rfl ?_
        refine JL.nil ?_
        refine JE.weak (env' := [(1, .slice a_1 q1.length c_1), (2, .int .i64 q2), (8, .slice a6 x5.length cp7), (9, .slice a27 x26.length cp28), (10, .int .i64 x14)]) (es' := [rowT 2 eI64 a6 x5.length cp7 x21, rowT 2 eI64 a27 x26.length cp28 x26]) [0, 1] ?_ ⟨rfl, rfl, rfl, rfl, rfl, trivial⟩ (by decide) rfl
        refine JE.code ?_
        refine JX.region ?_
        refine JL.val (yl_move rfl) rfl ?_
        refine JL.val (yl_add rfl rfl) rfl ?_
        refine JL.val (yl_assign rfl) rfl ?_
        refine JL.nil ?_
        refine JE.cont hres ?_
        exact fun a w h => ⟨l22, a27, cp28, h.weak ⟨rfl, rfl, rfl, rfl, rfl, trivial⟩ [0, 1] (by decide) rfl⟩
      · refine JX.condF rfl hb ?_
        refine JX.exit ?_
        refine JE.qb rfl ?_
        obtain ⟨b1, hb1⟩ : ∃ b : List Int, b = x16 := ⟨_, rfl⟩
        have hy1 : b1 = y1 := by rw [hb1]; exact hox1 _ (Option.some.inj hres).symm
        have hres := hresO1
        rw [← hy1] at hres
        refine JE.weak (env' := [(9, .slice a18 b1.length cp19)]) (es' := [rowT 2 eI64 a18 b1.length cp19 b1]) [1] ?_ ⟨(by subst hb1; rfl), trivial⟩ (by decide) (by subst hb1; rfl)
        refine JE.code ?_
        refine JX.seq ?_
        refine JX.region ?_
        refine JL.val (yl_move rfl) rfl ?_
        refine JL.val (yl_assign rfl) rfl ?_
        refine JL.val (yl_assign rfl) rfl ?_
        refine JL.nil ?_
        refine JE.code ?_
        refine JX.ret ?_
        obtain rfl := Option.some.inj hres
        refine JE.ret (rs := [.tmp 6, .tmp 7]) (vs := [.slice a18 b1.length cp19, .int .i64 0]) rfl ⟨rfl, rfl, trivial⟩ ?_
        exact fun w' hb hs => ⟨_, _, ⟨a18, b1.length, cp19, rfl, rfl, rfl⟩, rfl, hb, hs.sel [0] _ (by decide) rfl⟩

/- laws.f6ints -/
def sh75_1 (q0 : List Int) (q1 : List Int) : Int → Option (Int ⊕ (Unit ⊕ Bool))
  | x1 => bif decide (x1 < (q0.length : Int)) then (Option.bind (getI q0 x1) fun x3 => Option.bind (getI q1 x1) fun x4 => bif x3 != x4 then (some (.inr (.inr false))) else (some (.inl (w64 (x1 + 1))))) else (some (.inr (.inl ())))
def sh75 (q0 : List Int) (q1 : List Int) : Option (Bool) := bif (q0.length : Int) != (q1.length : Int) then (some false) else (Option.bind (iter (sh75_1 q0 q1) 0) fun y1 => elimS y1 (fun r => some r) fun b1 => (some true))
def T75 (r : Bool) (v : Value) (rs : List Own) : Prop := v = rets [.bool r] ∧ rs = []
set_option maxRecDepth 100000 in
theorem c75 {w : World} {q0 : List Int} {a_0 : Option Addr} {n_0 c_0 : Nat} (g_0 : Rd w a_0 (eI64.fl q0)) (l_0 : q0.length = n_0) (k_0 : n_0 ≤ c_0) {q1 : List Int} {a_1 : Option Addr} {n_1 c_1 : Nat} (g_1 : Rd w a_1 (eI64.fl q1)) (l_1 : q1.length = n_1) (k_1 : n_1 ≤ c_1) {r : Bool} (hres : sh75 q0 q1 = some r) : Calls Go.Proofs.Try.prog 75 [.slice a_0 n_0 c_0, .slice a_1 n_1 c_1].toArray w (Ret w (T75 r)) := by
  subst l_0
  subst l_1
  unfold sh75 at hres
  refine calls_of (n := 26) (M := []) (es := []) Go.Proofs.Try.func75 rfl rfl rfl (Sep.nil _ _ _) ?_
  refine JX.seq ?_
  refine JX.region ?_
  refine JL.val (yl_assign rfl) rfl ?_
  refine JL.nil ?_
  refine JE.code ?_
  refine JX.seq ?_
  refine JX.seq ?_
  refine JX.region ?_
  refine JL.val (yl_move rfl) rfl ?_
  refine JL.val (yl_len_slice Go.Proofs.Try.underlying33 rfl) rfl ?_
  refine JL.val (yl_move rfl) rfl ?_
  refine JL.val (yl_len_slice Go.Proofs.Try.underlying33 rfl) rfl ?_
  refine JL.val (yl_neq rfl rfl) rfl ?_
  refine JL.nil ?_
  refine JE.weak (env' := [(0, .slice a_0 q0.length c_0), (1, .slice a_1 q1.length c_1), (10, .bool ((q0.length : Int) != (q1.length : Int)))]) (es' := []) [] ?_ ⟨rfl, rfl, rfl, trivial⟩ (by decide) rfl
  refine JE.code ?_
  rcases cond_some hres with ⟨hb, hres⟩ | ⟨hb, hres⟩
  · refine JX.condT rfl hb ?_
    refine JX.seq ?_
    refine JX.region ?_
    refine JL.val (yl_assign rfl) rfl ?_
    refine JL.nil ?_
    refine JE.code ?_
    refine JX.ret ?_
    obtain rfl := Option.some.inj hres
    refine JE.ret (rs := [.tmp 4]) (vs := [.bool false]) rfl ⟨rfl, trivial⟩ ?_
    exact fun w' hb hs => ⟨_, _, ⟨rfl, rfl⟩, rfl, hb, hs.sel [] _ (by decide) rfl⟩
  · refine JX.condF rfl hb ?_
    refine JX.skip ?_
    refine JE.code ?_
    refine JX.seq ?_
    refine JX.seq ?_
    refine JX.region ?_
    refine JL.val (yl_assign rfl) rfl ?_
    refine JL.nil ?_
    refine JE.code ?_
    refine JX.block ?_
    obtain ⟨y1, hy1, hresO1⟩ := bind_some hres
    refine JX.loop (I := fun (s1 : Int) aa ww => St w [] 26 [(0, .slice a_0 q0.length c_0), (1, .slice a_1 q1.length c_1), (5, .int .i64 s1)] [] aa ww) (sh75_1 q0 q1) hy1 (fun a w h => h.weak ⟨rfl, rfl, rfl, trivial⟩ [] (by decide) rfl) ?_
    rintro x1 o1 hres hox1 aa ww hS
    refine (?_ : JX Go.Proofs.Try.prog w [] 26 _ _ [(0, .slice a_0 q0.length c_0), (1, .slice a_1 q1.length c_1), (5, .int .i64 x1)] [] _) aa ww hS
    clear hS
    unfold sh75_1 at hres
    refine JX.seq ?_
    refine JX.seq ?_
    refine JX.region ?_
    refine JL.val (yl_move rfl) rfl ?_
    refine JL.val (yl_move rfl) rfl ?_
    refine JL.val (yl_len_slice Go.Proofs.Try.underlying33 rfl) rfl ?_
    refine JL.val (yl_lss rfl rfl) rfl ?_
    refine JL.nil ?_
    refine JE.weak (env' := [(0, .slice a_0 q0.length c_0), (1, .slice a_1 q1.length c_1), (5, .int .i64 x1), (14, .bool (decide (x1 < (q0.length : Int))))]) (es' := []) [] ?_ ⟨rfl, rfl, rfl, rfl, trivial⟩ (by decide) rfl
    refine JE.code ?_
    rcases cond_some hres with ⟨hb, hres⟩ | ⟨hb, hres⟩
    · refine JX.condT rfl hb ?_
      refine JX.skip ?_
      refine JE.code ?_
      refine JX.seq ?_
      refine JX.block ?_
      refine JX.seq ?_
      refine JX.drawH [(0, .pure), (1, .pure), (2, .pure), (3, .read), (4, .pure), (5, .pure), (6, .pure), (7, .read), (8, .pure)] [] [] [] [] [] mixedP (by kernel_rfl) (by kernel_rfl) (by decide) rfl rfl ?_
      intro wrr2 Nr2 hFr2
      refine JH.pure rfl (yl_move rfl) rfl ?_
      refine JH.pure rfl (yl_move rfl) rfl ?_
      obtain ⟨x3, hx3, hres⟩ := bind_some hres
      refine JH.pure rfl (yl_idxQ Go.Proofs.Try.underlying33 i2 i2s rfl rfl hx3 rfl (rd_arg g_0 hFr2.cl) rfl) rfl ?_
      refine JH.read rfl (yl_loadT0 Go.Proofs.Try.underlying2 rfl rfl hx3 (fun w hw => hFr2.arg g_0 hw) rfl) rfl ?_
      refine JH.pure rfl (yl_move rfl) rfl ?_
      refine JH.pure rfl (yl_move rfl) rfl ?_
      obtain ⟨x4, hx4, hres⟩ := bind_some hres
      refine JH.pure rfl (yl_idxQ Go.Proofs.Try.underlying33 i2 i2s rfl rfl hx4 rfl (rd_arg g_1 hFr2.cl) rfl) rfl ?_
      refine JH.read rfl (yl_loadT0 Go.Proofs.Try.underlying2 rfl rfl hx4 (fun w hw => hFr2.arg g_1 hw) rfl) rfl ?_
      refine JH.pure rfl (yl_neq rfl rfl) rfl ?_
      refine JH.nil ?_
      refine JE.weak (env' := [(0, .slice a_0 q0.length c_0), (1, .slice a_1 q1.length c_1), (5, .int .i64 x1), (25, .bool (x3 != x4))]) (es' := []) [] ?_ ⟨rfl, rfl, rfl, rfl, trivial⟩ (by decide) rfl
      refine JE.code ?_
      rcases cond_some hres with ⟨hb, hres⟩ | ⟨hb, hres⟩
      · refine JX.condT rfl hb ?_
        refine JX.seq ?_
        refine JX.region ?_
        refine JL.val (yl_assign rfl) rfl ?_
        refine JL.nil ?_
        refine JE.code ?_
        refine JX.ret ?_
        refine JE.qbr ?_
        refine JE.qbr ?_
        have hres := elimS_inr hresO1 (hox1 _ (Option.some.inj hres).symm)
        obtain rfl := Option.some.inj hres
        refine JE.ret (rs := [.tmp 4]) (vs := [.bool false]) rfl ⟨rfl, trivial⟩ ?_
        exact fun w' hb hs => ⟨_, _, ⟨rfl, rfl⟩, rfl, hb, hs.sel [] _ (by decide) rfl⟩
      · refine JX.condF rfl hb ?_
        refine JX.skip ?_
        refine JE.code ?_
        refine JX.region ?_
        refine JL.val (yl_move rfl) rfl ?_
        refine JL.val (yl_add rfl rfl) rfl ?_
        refine JL.val (yl_assign rfl) rfl ?_
        refine JL.nil ?_
        refine JE.cont hres ?_
        exact fun a w h => h.weak ⟨rfl, rfl, rfl, trivial⟩ [] (by decide) rfl
    · refine JX.condF rfl hb ?_
      refine JX.exit ?_
      refine JE.qb rfl ?_
      obtain ⟨b1, hb1⟩ : ∃ b : Unit, b = () := ⟨_, rfl⟩
      have hy1 : Sum.inl b1 = y1 := by rw [hb1]; exact hox1 _ (Option.some.inj hres).symm
      have hres := elimS_inl hresO1 hy1
      refine JE.weak (env' := []) (es' := []) [] ?_ trivial (by decide) (by subst hb1; rfl)
      refine JE.code ?_
      refine JX.seq ?_
      refine JX.region ?_
      refine JL.val (yl_assign rfl) rfl ?_
      refine JL.nil ?_
      refine JE.code ?_
      refine JX.ret ?_
      obtain rfl := Option.some.inj hres
      refine JE.ret (rs := [.tmp 4]) (vs := [.bool true]) rfl ⟨rfl, trivial⟩ ?_
      exact fun w' hb hs => ⟨_, _, ⟨rfl, rfl⟩, rfl, hb, hs.sel [] _ (by decide) rfl⟩

/- spec.ValidWord -/
def sh77 (q0 : Int) (q1 : List Int) : Option (Bool) := Option.bind (sh127 q0 q1) fun x1 => some x1
def T77 (r : Bool) (v : Value) (rs : List Own) : Prop := v = rets [.bool r] ∧ rs = []
set_option maxRecDepth 100000 in
theorem c77 {w : World} {q0 : Int} {q1 : List Int} {a_1 : Option Addr} {n_1 c_1 : Nat} (g_1 : Rd w a_1 (eI64.fl q1)) (l_1 : q1.length = n_1) (k_1 : n_1 ≤ c_1) {r : Bool} (hres : sh77 q0 q1 = some r) : Calls Go.Proofs.Try.prog 77 [.int .i64 q0, .slice a_1 n_1 c_1].toArray w (Ret w (T77 r)) := by
  subst l_1
  unfold sh77 at hres
  refine calls_of (n := 8) (M := []) (es := []) Go.Proofs.Try.func77 rfl rfl rfl (Sep.nil _ _ _) ?_
  refine JX.seq ?_
  refine JX.region ?_
  refine JL.val (yl_assign rfl) rfl ?_
  refine JL.nil ?_
  refine JE.code ?_
  refine JX.seq ?_
  refine JX.region ?_
  refine JL.val (yl_move rfl) rfl ?_
  refine JL.val (yl_move rfl) rfl ?_
  obtain ⟨x1, hx1, hres⟩ := bind_some hres
  refine JL.eff (ef_call (T := T127 x1) Go.Proofs.Try.func127 rfl (by kernel_rfl) rfl (fun w hC => c127 (rd_arg g_1 hC) rfl k_1 hx1)) rfl ?_
  rintro _ _ ⟨_, ⟨rfl, rfl⟩, rfl⟩
  refine JL.val (yl_assign rfl) rfl ?_
  refine JL.nil ?_
  refine JE.weak (env' := [(4, .bool x1)]) (es' := []) [] ?_ ⟨rfl, trivial⟩ (by decide) rfl
  refine JE.code ?_
  refine JX.ret ?_
  obtain rfl := Option.some.inj hres
  refine JE.ret (rs := [.tmp 4]) (vs := [.bool x1]) rfl ⟨rfl, trivial⟩ ?_
  exact fun w' hb hs => ⟨_, _, ⟨rfl, rfl⟩, rfl, hb, hs.sel [] _ (by decide) rfl⟩

/- laws.FnPlaits -/
def sh14_1 (x14 : List Int × Int) : (Int × Int) → Option ((Int × Int) ⊕ (Int))
  | (x63, x64) => bif decide (x64 < (x14.1.length : Int)) then (Option.bind (getI x14.1 x64) fun x65 => some (.inl (w64 (x63 + x65), w64 (x64 + 1)))) else (some (.inr x63))
def sh14 (q0 : List Int) : Option (Bool) := Option.bind (sh62 q0) fun x1 => bif x1 then (some true) else (Option.bind (sh63 q0) fun x2 => Option.bind (sh64 x2.1 x2.2) fun x6 => Option.bind (sh65 x2.1 x2.2) fun x10 => Option.bind (sh66 x2.1 x2.2) fun x14 => Option.bind (sh67 x2.1 x2.2) fun x18 => Option.bind (sh68 x2.1 x2.2) fun x22 => Option.bind (sh69 x2.1 x2.2) fun x26 => Option.bind (sh70 x2.1 x2.2) fun x30 => Option.bind (sh71 x2.1 x2.2) fun x34 => Option.bind (sh72 q0) fun x38 => Option.bind (sh73 x38.1 x38.2.1 x38.2.2) fun x42 => Option.bind (sh74 x38.1 x38.2.1 x38.2.2) fun x46 => Option.bind (bif x6.2 != x10.2 then (some true) else (Option.bind (sh75 x6.1 x10.1) fun x51 => some !x51)) fun cb50 => (Option.bind (bif cb50 || (x14.2 != x18.2) then (some true) else (Option.bind (sh75 x14.1 x18.1) fun x53 => some !x53)) fun cb52 => (Option.bind (bif cb52 || (x22.2 != x26.2) then (some true) else (Option.bind (sh75 x22.1 x26.1) fun x55 => some !x55)) fun cb54 => (Option.bind (bif cb54 || (x30.2 != x34.2) then (some true) else (Option.bind (sh75 x30.1 x34.1) fun x57 => some !x57)) fun cb56 => (Option.bind (bif cb56 || (x42.2 != x46.2) then (some true) else (Option.bind (sh75 x42.1 x46.1) fun x59 => some !x59)) fun cb58 => (Option.bind (bif cb58 then (some true) else (Option.bind (sh76 x2.1 x2.2) fun x61 => Option.bind (sh77 x2.1 x2.2) fun x62 => some (x61 != x62))) fun cb60 => (bif cb60 then (some false) else (bif x6.2 != 0 then (some true) else (Option.bind (iter (sh14_1 x14) (0, 0)) fun b1 => (Option.bind (sh64 x2.1 x30.1) fun x66 => Option.bind (sh70 x2.1 x30.1) fun x70 => Option.bind (bif (b1 != (x2.2.length : Int)) || (x66.2 != 0) then (some true) else (Option.bind (sh75 x66.1 x6.1) fun x75 => some !x75)) fun cb74 => (Option.bind (bif cb74 || (x70.2 != 0) then (some true) else (Option.bind (sh75 x70.1 x30.1) fun x77 => some !x77)) fun cb76 => (bif cb76 then (some false) else (bif decide (200 < (w64 (2 * (x2.2.length : Int)))) then (some true) else (Option.bind (appL ([] : List Int) x2.2) fun x80 => Option.bind (appL x80 x22.1) fun x83 => Option.bind (sh70 x2.1 x83) fun x86 => some ((x86.2 == 0) && ((x86.1.length : Int) == 0))))))))))))))))
def T14 (r : Bool) (v : Value) (rs : List Own) : Prop := v = rets [.bool r] ∧ rs = []
set_option maxRecDepth 100000 in
set_option maxHeartbeats 1000000 in
theorem c14 {w : World} {q0 : List Int} {a_0 : Option Addr} {n_0 c_0 : Nat} (g_0 : Rd w a_0 (eU8.fl q0)) (l_0 : q0.length = n_0) (k_0 : n_0 ≤ c_0) {r : Bool} (hres : sh14 q0 = some r) : Calls Go.Proofs.Try.prog 14 [.slice a_0 n_0 c_0].toArray w (Ret w (T14 r)) := by
  subst l_0
  unfold sh14 at hres
  refine calls_of (n := 246) (M := []) (es := []) Go.Proofs.Try.func14 rfl rfl rfl (Sep.nil _ _ _) ?_
  refine JX.seq ?_
  refine JX.region ?_
  refine JL.val (yl_assign rfl) rfl ?_
  refine JL.nil ?_
  refine JE.code ?_
  refine JX.seq ?_
  refine JX.seq ?_
  refine JX.region ?_
  refine JL.val (yl_move rfl) rfl ?_
  obtain ⟨x1, hx1, hres⟩ := bind_some hres
  refine JL.eff (ef_call (T := T62 x1) Go.Proofs.Try.func62 rfl (by kernel_rfl) rfl (fun w hC => c62 (rd_arg g_0 hC) rfl k_0 hx1)) rfl ?_
  rintro _ _ ⟨_, ⟨rfl, rfl⟩, rfl⟩
  refine JL.nil ?_
  refine JE.code ?_
  rcases cond_some hres with ⟨hb, hres⟩ | ⟨hb, hres⟩
  · refine JX.condT rfl hb ?_
    refine JX.seq ?_
    refine JX.region ?_
    refine JL.val (yl_assign rfl) rfl ?_
    refine JL.nil ?_
    refine JE.code ?_
    refine JX.ret ?_
    obtain rfl := Option.some.inj hres
    refine JE.ret (rs := [.tmp 2]) (vs := [.bool true]) rfl ⟨rfl, trivial⟩ ?_
    exact fun w' hb hs => ⟨_, _, ⟨rfl, rfl⟩, rfl, hb, hs.sel [] _ (by decide) rfl⟩
  · refine JX.condF rfl hb ?_
    refine JX.skip ?_
    refine JE.code ?_
    refine JX.seq ?_
    refine JX.region ?_
    refine JL.val (yl_move rfl) rfl ?_
    obtain ⟨x2, hx2, hres⟩ := bind_some hres
    refine JL.eff (ef_call (T := T63 x2) Go.Proofs.Try.func63 rfl (by kernel_rfl) rfl (fun w hC => c63 (rd_arg g_0 hC) rfl k_0 hx2)) rfl ?_
    rintro _ _ ⟨_, ⟨a3, _, cp4, rfl, rfl, rfl⟩, rfl⟩
    refine JL.val (yl_move rfl) rfl ?_
    refine JL.val (yl_extract rfl rfl) rfl ?_
    refine JL.val (yl_extract rfl rfl) rfl ?_
    refine JL.val (yl_assign rfl) rfl ?_
    refine JL.val (yl_assign rfl) rfl ?_
    refine JL.nil ?_
    refine JE.weak (env' := [(0, .slice a_0 q0.length c_0), (3, .int .i64 x2.1), (4, .slice a3 x2.2.length cp4)]) (es' := [rowT 2 eI64 a3 x2.2.length cp4 x2.2]) [0] ?_ ⟨rfl, rfl, rfl, trivial⟩ (by decide) rfl
    refine JE.code ?_
    refine JX.seq ?_
    refine JX.region ?_
    refine JL.val (yl_move rfl) rfl ?_
    refine JL.val (yl_move rfl) rfl ?_
    obtain ⟨x6, hx6, hres⟩ := bind_some hres
    refine JL.eff (ef_call (T := T64 x6) Go.Proofs.Try.func64 rfl (by kernel_rfl) rfl (fun w hC => c64 (rd_row hC 0 rfl) rfl (ln_row hC 0 rfl) hx6)) rfl ?_
    rintro _ _ ⟨_, ⟨a7, _, cp8, rfl, rfl, rfl⟩, rfl⟩
    refine JL.val (yl_move rfl) rfl ?_
    refine JL.val (yl_extract rfl rfl) rfl ?_
    refine JL.val (yl_extract rfl rfl) rfl ?_
    refine JL.val (yl_assign rfl) rfl ?_
    refine JL.val (yl_assign rfl) rfl ?_
    refine JL.nil ?_
    refine JE.weak (env' := [(0, .slice a_0 q0.length c_0), (3, .int .i64 x2.1), (4, .slice a3 x2.2.length cp4), (5, .slice a7 x6.1.length cp8), (6, .int .i64 x6.2)]) (es' := [rowT 2 eI64 a3 x2.2.length cp4 x2.2, rowT 2 eI64 a7 x6.1.length cp8 x6.1]) [0, 1] ?_ ⟨rfl, rfl, rfl, rfl, rfl, trivial⟩ (by decide) rfl
    refine JE.code ?_
    refine JX.seq ?_
    refine JX.region ?_
    refine JL.val (yl_move rfl) rfl ?_
    refine JL.val (yl_move rfl) rfl ?_
    obtain ⟨x10, hx10, hres⟩ := bind_some hres
    refine JL.eff (ef_call (T := T65 x10) Go.Proofs.Try.func65 rfl (by kernel_rfl) rfl (fun w hC => c65 (rd_row hC 0 rfl) rfl (ln_row hC 0 rfl) hx10)) rfl ?_
    rintro _ _ ⟨_, ⟨a11, _, cp12, rfl, rfl, rfl⟩, rfl⟩
    refine JL.val (yl_move rfl) rfl ?_
    refine JL.val (yl_extract rfl rfl) rfl ?_
    refine JL.val (yl_extract rfl rfl) rfl ?_
    refine JL.val (yl_assign rfl) rfl ?_
    refine JL.val (yl_assign rfl) rfl ?_
    refine JL.nil ?_
    refine JE.weak (env' := [(0, .slice a_0 q0.length c_0), (3, .int .i64 x2.1), (4, .slice a3 x2.2.length cp4), (5, .slice a7 x6.1.length cp8), (6, .int .i64 x6.2), (7, .slice a11 x10.1.length cp12), (8, .int .i64 x10.2)]) (es' := [rowT 2 eI64 a3 x2.2.length cp4 x2.2, rowT 2 eI64 a7 x6.1.length cp8 x6.1, rowT 2 eI64 a11 x10.1.length cp12 x10.1]) [0, 1, 2] ?_ ⟨rfl, rfl, rfl, rfl, rfl, rfl, rfl, trivial⟩ (by decide) rfl
    refine JE.code ?_
    refine JX.seq ?_
    refine JX.region ?_
    refine JL.val (yl_move rfl) rfl ?_
    refine JL.val (yl_move rfl) rfl ?_
    obtain ⟨x14, hx14, hres⟩ := bind_some hres
    refine JL.eff (ef_call (T := T66 x14) Go.Proofs.Try.func66 rfl (by kernel_rfl) rfl (fun w hC => c66 (rd_row hC 0 rfl) rfl (ln_row hC 0 rfl) hx14)) rfl ?_
    rintro _ _ ⟨_, ⟨a15, _, cp16, rfl, rfl, rfl⟩, rfl⟩
    refine JL.val (yl_move rfl) rfl ?_
    refine JL.val (yl_extract rfl rfl) rfl ?_
    refine JL.val (yl_extract rfl rfl) rfl ?_
    refine JL.val (yl_assign rfl) rfl ?_
    refine JL.val (yl_assign rfl) rfl ?_
    refine JL.nil ?_
    refine JE.weak (env' := [(0, .slice a_0 q0.length c_0), (3, .int .i64 x2.1), (4, .slice a3 x2.2.length cp4), (5, .slice a7 x6.1.length cp8), (6, .int .i64 x6.2), (7, .slice a11 x10.1.length cp12), (8, .int .i64 x10.2), (9, .slice a15 x14.1.length cp16), (10, .int .i64 x14.2)]) (es' := [rowT 2 eI64 a3 x2.2.length cp4 x2.2, rowT 2 eI64 a7 x6.1.length cp8 x6.1, rowT 2 eI64 a11 x10.1.length cp12 x10.1, rowT 2 eI64 a15 x14.1.length cp16 x14.1]) [0, 1, 2, 3] ?_ ⟨rfl, rfl, rfl, rfl, rfl, rfl, rfl, rfl, rfl, trivial⟩ (by decide) rfl
    refine JE.code ?_
    refine JX.seq ?_
    refine JX.region ?_
    refine JL.val (yl_move rfl) rfl ?_
    refine JL.val (yl_move rfl) rfl ?_
    obtain ⟨x18, hx18, hres⟩ := bind_some hres
    refine JL.eff (ef_call (T := T67 x18) Go.Proofs.Try.func67 rfl (by kernel_rfl) rfl (fun w hC => c67 (rd_row hC 0 rfl) rfl (ln_row hC 0 rfl) hx18)) rfl ?_
    rintro _ _ ⟨_, ⟨a19, _, cp20, rfl, rfl, rfl⟩, rfl⟩
    refine JL.val (yl_move rfl) rfl ?_
    refine JL.val (yl_extract rfl rfl) rfl ?_
    refine JL.val (yl_extract rfl rfl) rfl ?_
    refine JL.val (yl_assign rfl) rfl ?_
    refine JL.val (yl_assign rfl) rfl ?_
    refine JL.nil ?_
    refine JE.weak (env' := [(0, .slice a_0 q0.length c_0), (3, .int .i64 x2.1), (4, .slice a3 x2.2.length cp4), (5, .slice a7 x6.1.length cp8), (6, .int .i64 x6.2), (7, .slice a11 x10.1.length cp12), (8, .int .i64 x10.2), (9, .slice a15 x14.1.length cp16), (10, .int .i64 x14.2), (11, .slice a19 x18.1.length cp20), (12, .int .i64 x18.2)]) (es' := [rowT 2 eI64 a3 x2.2.length cp4 x2.2, rowT 2 eI64 a7 x6.1.length cp8 x6.1, rowT 2 eI64 a11 x10.1.length cp12 x10.1, rowT 2 eI64 a15 x14.1.length cp16 x14.1, rowT 2 eI64 a19 x18.1.length cp20 x18.1]) [0, 1, 2, 3, 4] ?_ ⟨rfl, rfl, rfl, rfl, rfl, rfl, rfl, rfl, rfl, rfl, rfl, trivial⟩ (by decide) rfl
    refine JE.code ?_
    refine JX.seq ?_
    refine JX.region ?_
    refine JL.val (yl_move rfl) rfl ?_
    refine JL.val (yl_move rfl) rfl ?_
    obtain ⟨x22, hx22, hres⟩ := bind_some hres
    refine JL.eff (ef_call (T := T68 x22) Go.Proofs.Try.func68 rfl (by kernel_rfl) rfl (fun w hC => c68 (rd_row hC 0 rfl) rfl (ln_row hC 0 rfl) hx22)) rfl ?_
    rintro _ _ ⟨_, ⟨a23, _, cp24, rfl, rfl, rfl⟩, rfl⟩
    refine JL.val (yl_move rfl) rfl ?_
    refine JL.val (yl_extract rfl rfl) rfl ?_
    refine JL.val (yl_extract rfl rfl) rfl ?_
    refine JL.val (yl_assign rfl) rfl ?_
    refine JL.val (yl_assign rfl) rfl ?_
    refine JL.nil ?_
    refine JE.weak (env' := [(0, .slice a_0 q0.length c_0), (3, .int .i64 x2.1), (4, .slice a3 x2.2.length cp4), (5, .slice a7 x6.1.length cp8), (6, .int .i64 x6.2), (7, .slice a11 x10.1.length cp12), (8, .int .i64 x10.2), (9, .slice a15 x14.1.length cp16), (10, .int .i64 x14.2), (11, .slice a19 x18.1.length cp20), (12, .int .i64 x18.2), (13, .slice a23 x22.1.length cp24), (14, .int .i64 x22.2)]) (es' := [rowT 2 eI64 a3 x2.2.length cp4 x2.2, rowT 2 eI64 a7 x6.1.length cp8 x6.1, rowT 2 eI64 a11 x10.1.length cp12 x10.1, rowT 2 eI64 a15 x14.1.length cp16 x14.1, rowT 2 eI64 a19 x18.1.length cp20 x18.1, rowT 2 eI64 a23 x22.1.length cp24 x22.1]) [0, 1, 2, 3, 4, 5] ?_ ⟨rfl, rfl, rfl, rfl, rfl, rfl, rfl, rfl, rfl, rfl, rfl, rfl, rfl, trivial⟩ (by decide) rfl
    refine JE.code ?_
    refine JX.seq ?_
    refine JX.region ?_
    refine JL.val (yl_move rfl) rfl ?_
    refine JL.val (yl_move rfl) rfl ?_
    obtain ⟨x26, hx26, hres⟩ := bind_some hres
    refine JL.eff (ef_call (T := T69 x26) Go.Proofs.Try.func69 rfl (by kernel_rfl) rfl (fun w hC => c69 (rd_row hC 0 rfl) rfl (ln_row hC 0 rfl) hx26)) rfl ?_
    rintro _ _ ⟨_, ⟨a27, _, cp28, rfl, rfl, rfl⟩, rfl⟩
    refine JL.val (yl_move rfl) rfl ?_
    refine JL.val (yl_extract rfl rfl) rfl ?_
    refine JL.val (yl_extract rfl rfl) rfl ?_
    refine JL.val (yl_assign rfl) rfl ?_
    refine JL.val (yl_assign rfl) rfl ?_
    refine JL.nil ?_
    refine JE.weak (env' := [(0, .slice a_0 q0.length c_0), (3, .int .i64 x2.1), (4, .slice a3 x2.2.length cp4), (5, .slice a7 x6.1.length cp8), (6, .int .i64 x6.2), (7, .slice a11 x10.1.length cp12), (8, .int .i64 x10.2), (9, .slice a15 x14.1.length cp16), (10, .int .i64 x14.2), (11, .slice a19 x18.1.length cp20), (12, .int .i64 x18.2), (13, .slice a23 x22.1.length cp24), (14, .int .i64 x22.2), (15, .slice a27 x26.1.length cp28), (16, .int .i64 x26.2)]) (es' := [rowT 2 eI64 a3 x2.2.length cp4 x2.2, rowT 2 eI64 a7 x6.1.length cp8 x6.1, rowT 2 eI64 a11 x10.1.length cp12 x10.1, rowT 2 eI64 a15 x14.1.length cp16 x14.1, rowT 2 eI64 a19 x18.1.length cp20 x18.1, rowT 2 eI64 a23 x22.1.length cp24 x22.1, rowT 2 eI64 a27 x26.1.length cp28 x26.1]) [0, 1, 2, 3, 4, 5, 6] ?_ ⟨rfl, rfl, rfl, rfl, rfl, rfl, rfl, rfl, rfl, rfl, rfl, rfl, rfl, rfl, rfl, trivial⟩ (by decide) rfl
    refine JE.code ?_
    refine JX.seq ?_
    refine JX.region ?_
    refine JL.val (yl_move rfl) rfl ?_
    refine JL.val (yl_move rfl) rfl ?_
    obtain ⟨x30, hx30, hres⟩ := bind_some hres
    refine JL.eff (ef_call (T := T70 x30) Go.Proofs.Try.func70 rfl (by kernel_rfl) rfl (fun w hC => c70 (rd_row hC 0 rfl) rfl (ln_row hC 0 rfl) hx30)) rfl ?_
    rintro _ _ ⟨_, ⟨a31, _, cp32, rfl, rfl, rfl⟩, rfl⟩
    refine JL.val (yl_move rfl) rfl ?_
    refine JL.val (yl_extract rfl rfl) rfl ?_
    refine JL.val (yl_extract rfl rfl) rfl ?_
    refine JL.val (yl_assign rfl) rfl ?_
    refine JL.val (yl_assign rfl) rfl ?_
    refine JL.nil ?_
    refine JE.weak (env' := [(0, .slice a_0 q0.length c_0), (3, .int .i64 x2.1), (4, .slice a3 x2.2.length cp4), (5, .slice a7 x6.1.length cp8), (6, .int .i64 x6.2), (7, .slice a11 x10.1.length cp12), (8, .int .i64 x10.2), (9, .slice a15 x14.1.length cp16), (10, .int .i64 x14.2), (11, .slice a19 x18.1.length cp20), (12, .int .i64 x18.2), (13, .slice a23 x22.1.length cp24), (14, .int .i64 x22.2), (15, .slice a27 x26.1.length cp28), (16, .int .i64 x26.2), (17, .slice a31 x30.1.length cp32), (18, .int .i64 x30.2)]) (es' := [rowT 2 eI64 a3 x2.2.length cp4 x2.2, rowT 2 eI64 a7 x6.1.length cp8 x6.1, rowT 2 eI64 a11 x10.1.length cp12 x10.1, rowT 2 eI64 a15 x14.1.length cp16 x14.1, rowT 2 eI64 a19 x18.1.length cp20 x18.1, rowT 2 eI64 a23 x22.1.length cp24 x22.1, rowT 2 eI64 a27 x26.1.length cp28 x26.1, rowT 2 eI64 a31 x30.1.length cp32 x30.1]) [0, 1, 2, 3, 4, 5, 6, 7] ?_ ⟨rfl, rfl, rfl, rfl, rfl, rfl, rfl, rfl, rfl, rfl, rfl, rfl, rfl, rfl, rfl, rfl, rfl, trivial⟩ (by decide) rfl
    refine JE.code ?_
    refine JX.seq ?_
    refine JX.region ?_
    refine JL.val (yl_move rfl) rfl ?_
    refine JL.val (yl_move rfl) rfl ?_
    obtain ⟨x34, hx34, hres⟩ := bind_some hres
    refine JL.eff (ef_call (T := T71 x34) Go.Proofs.Try.func71 rfl (by kernel_rfl) rfl (fun w hC => c71 (rd_row hC 0 rfl) rfl (ln_row hC 0 rfl) hx34)) rfl ?_
    rintro _ _ ⟨_, ⟨a35, _, cp36, rfl, rfl, rfl⟩, rfl⟩
    refine JL.val (yl_move rfl) rfl ?_
    refine JL.val (yl_extract rfl rfl) rfl ?_
    refine JL.val (yl_extract rfl rfl) rfl ?_
    refine JL.val (yl_assign rfl) rfl ?_
    refine JL.val (yl_assign rfl) rfl ?_
    refine JL.nil ?_
    refine JE.weak (env' := [(0, .slice a_0 q0.length c_0), (3, .int .i64 x2.1), (4, .slice a3 x2.2.length cp4), (5, .slice a7 x6.1.length cp8), (6, .int .i64 x6.2), (7, .slice a11 x10.1.length cp12), (8, .int .i64 x10.2), (9, .slice a15 x14.1.length cp16), (10, .int .i64 x14.2), (11, .slice a19 x18.1.length cp20), (12, .int .i64 x18.2), (13, .slice a23 x22.1.length cp24), (14, .int .i64 x22.2), (15, .slice a27 x26.1.length cp28), (16, .int .i64 x26.2), (17, .slice a31 x30.1.length cp32), (18, .int .i64 x30.2), (19, .slice a35 x34.1.length cp36), (20, .int .i64 x34.2)]) (es' := [rowT 2 eI64 a3 x2.2.length cp4 x2.2, rowT 2 eI64 a7 x6.1.length cp8 x6.1, rowT 2 eI64 a11 x10.1.length cp12 x10.1, rowT 2 eI64 a15 x14.1.length cp16 x14.1, rowT 2 eI64 a19 x18.1.length cp20 x18.1, rowT 2 eI64 a23 x22.1.length cp24 x22.1, rowT 2 eI64 a27 x26.1.length cp28 x26.1, rowT 2 eI64 a31 x30.1.length cp32 x30.1, rowT 2 eI64 a35 x34.1.length cp36 x34.1]) [0, 1, 2, 3, 4, 5, 6, 7, 8] ?_ ⟨rfl, rfl, rfl, rfl, rfl, rfl, rfl, rfl, rfl, rfl, rfl, rfl, rfl, rfl, rfl, rfl, rfl, rfl, rfl, trivial⟩ (by decide) rfl
    refine JE.code ?_
    refine JX.seq ?_
    refine JX.region ?_
    refine JL.val (yl_move rfl) rfl ?_
    obtain ⟨x38, hx38, hres⟩ := bind_some hres
    refine JL.eff (ef_call (T := T72 x38) Go.Proofs.Try.func72 rfl (by kernel_rfl) rfl (fun w hC => c72 (rd_arg g_0 hC) rfl k_0 hx38)) rfl ?_
    rintro _ _ ⟨_, ⟨a39, _, cp40, rfl, rfl, rfl⟩, rfl⟩
    refine JL.val (yl_move rfl) rfl ?_
    refine JL.val (yl_extract rfl rfl) rfl ?_
    refine JL.val (yl_extract rfl rfl) rfl ?_
    refine JL.val (yl_extract rfl rfl) rfl ?_
    refine JL.val (yl_assign rfl) rfl ?_
    refine JL.val (yl_assign rfl) rfl ?_
    refine JL.val (yl_assign rfl) rfl ?_
    refine JL.nil ?_
    refine JE.weak (env' := [(3, .int .i64 x2.1), (4, .slice a3 x2.2.length cp4), (5, .slice a7 x6.1.length cp8), (6, .int .i64 x6.2), (7, .slice a11 x10.1.length cp12), (8, .int .i64 x10.2), (9, .slice a15 x14.1.length cp16), (10, .int .i64 x14.2), (11, .slice a19 x18.1.length cp20), (12, .int .i64 x18.2), (13, .slice a23 x22.1.length cp24), (14, .int .i64 x22.2), (15, .slice a27 x26.1.length cp28), (16, .int .i64 x26.2), (17, .slice a31 x30.1.length cp32), (18, .int .i64 x30.2), (19, .slice a35 x34.1.length cp36), (20, .int .i64 x34.2), (21, .int .i64 x38.1), (22, .slice a39 x38.2.1.length cp40), (23, .int .i64 x38.2.2)]) (es' := [rowT 2 eI64 a3 x2.2.length cp4 x2.2, rowT 2 eI64 a7 x6.1.length cp8 x6.1, rowT 2 eI64 a11 x10.1.length cp12 x10.1, rowT 2 eI64 a15 x14.1.length cp16 x14.1, rowT 2 eI64 a19 x18.1.length cp20 x18.1, rowT 2 eI64 a23 x22.1.length cp24 x22.1, rowT 2 eI64 a27 x26.1.length cp28 x26.1, rowT 2 eI64 a31 x30.1.length cp32 x30.1, rowT 2 eI64 a35 x34.1.length cp36 x34.1, rowT 2 eI64 a39 x38.2.1.length cp40 x38.2.1]) [0, 1, 2, 3, 4, 5, 6, 7, 8, 9] ?_ ⟨rfl, rfl, rfl, rfl, rfl, rfl, rfl, rfl, rfl, rfl, rfl, rfl, rfl, rfl, rfl, rfl, rfl, rfl, rfl, rfl, rfl, trivial⟩ (by decide) rfl
    refine JE.code ?_
    refine JX.seq ?_
    refine JX.region ?_
    refine JL.val (yl_move rfl) rfl ?_
    refine JL.val (yl_move rfl) rfl ?_
    refine JL.val (yl_move rfl) rfl ?_
    obtain ⟨x42, hx42, hres⟩ := bind_some hres
    refine JL.eff (ef_call (T := T73 x42) Go.Proofs.Try.func73 rfl (by kernel_rfl) rfl (fun w hC => c73 (rd_row hC 9 rfl) rfl (ln_row hC 9 rfl) hx42)) rfl ?_
    rintro _ _ ⟨_, ⟨a43, _, cp44, rfl, rfl, rfl⟩, rfl⟩
    refine JL.val (yl_move rfl) rfl ?_
    refine JL.val (yl_extract rfl rfl) rfl ?_
    refine JL.val (yl_extract rfl rfl) rfl ?_
    refine JL.val (yl_assign rfl) rfl ?_
    refine JL.val (yl_assign rfl) rfl ?_
    refine JL.nil ?_
    refine JE.weak (env' := [(3, .int .i64 x2.1), (4, .slice a3 x2.2.length cp4), (5, .slice a7 x6.1.length cp8), (6, .int .i64 x6.2), (7, .slice a11 x10.1.length cp12), (8, .int .i64 x10.2), (9, .slice a15 x14.1.length cp16), (10, .int .i64 x14.2), (11, .slice a19 x18.1.length cp20), (12, .int .i64 x18.2), (13, .slice a23 x22.1.length cp24), (14, .int .i64 x22.2), (15, .slice a27 x26.1.length cp28), (16, .int .i64 x26.2), (17, .slice a31 x30.1.length cp32), (18, .int .i64 x30.2), (19, .slice a35 x34.1.length cp36), (20, .int .i64 x34.2), (21, .int .i64 x38.1), (22, .slice a39 x38.2.1.length cp40), (23, .int .i64 x38.2.2), (24, .slice a43 x42.1.length cp44), (25, .int .i64 x42.2)]) (es' := [rowT 2 eI64 a3 x2.2.length cp4 x2.2, rowT 2 eI64 a7 x6.1.length cp8 x6.1, rowT 2 eI64 a11 x10.1.length cp12 x10.1, rowT 2 eI64 a15 x14.1.length cp16 x14.1, rowT 2 eI64 a19 x18.1.length cp20 x18.1, rowT 2 eI64 a23 x22.1.length cp24 x22.1, rowT 2 eI64 a27 x26.1.length cp28 x26.1, rowT 2 eI64 a31 x30.1.length cp32 x30.1, rowT 2 eI64 a35 x34.1.length cp36 x34.1, rowT 2 eI64 a39 x38.2.1.length cp40 x38.2.1, rowT 2 eI64 a43 x42.1.length cp44 x42.1]) [0, 1, 2, 3, 4, 5, 6, 7, 8, 9, 10] ?_ ⟨rfl, rfl, rfl, rfl, rfl, rfl, rfl, rfl, rfl, rfl, rfl, rfl, rfl, rfl, rfl, rfl, rfl, rfl, rfl, rfl, rfl, rfl, rfl, trivial⟩ (by decide) rfl
    refine JE.code ?_
    refine JX.seq ?_
    refine JX.region ?_
    refine JL.val (yl_move rfl) rfl ?_
    refine JL.val (yl_move rfl) rfl ?_
    refine JL.val (yl_move rfl) rfl ?_
    obtain ⟨x46, hx46, hres⟩ := bind_some hres
    refine JL.eff (ef_call (T := T74 x46) Go.Proofs.Try.func74 rfl (by kernel_rfl) rfl (fun w hC => c74 (rd_row hC 9 rfl) rfl (ln_row hC 9 rfl) hx46)) rfl ?_
    rintro _ _ ⟨_, ⟨a47, _, cp48, rfl, rfl, rfl⟩, rfl⟩
    refine JL.val (yl_move rfl) rfl ?_
    refine JL.val (yl_extract rfl rfl) rfl ?_
    refine JL.val (yl_extract rfl rfl) rfl ?_
    refine JL.val (yl_assign rfl) rfl ?_
    refine JL.val (yl_assign rfl) rfl ?_
    refine JL.nil ?_
    refine JE.weak (env' := [(3, .int .i64 x2.1), (4, .slice a3 x2.2.length cp4), (5, .slice a7 x6.1.length cp8), (6, .int .i64 x6.2), (7, .slice a11 x10.1.length cp12), (8, .int .i64 x10.2), (9, .slice a15 x14.1.length cp16), (10, .int .i64 x14.2), (11, .slice a19 x18.1.length cp20), (12, .int .i64 x18.2), (13, .slice a23 x22.1.length cp24), (14, .int .i64 x22.2), (15, .slice a27 x26.1.length cp28), (16, .int .i64 x26.2), (17, .slice a31 x30.1.length cp32), (18, .int .i64 x30.2), (19, .slice a35 x34.1.length cp36), (20, .int .i64 x34.2), (24, .slice a43 x42.1.length cp44), (25, .int .i64 x42.2), (26, .slice a47 x46.1.length cp48), (27, .int .i64 x46.2)]) (es' := [rowT 2 eI64 a3 x2.2.length cp4 x2.2, rowT 2 eI64 a7 x6.1.length cp8 x6.1, rowT 2 eI64 a11 x10.1.length cp12 x10.1, rowT 2 eI64 a15 x14.1.length cp16 x14.1, rowT 2 eI64 a19 x18.1.length cp20 x18.1, rowT 2 eI64 a23 x22.1.length cp24 x22.1, rowT 2 eI64 a27 x26.1.length cp28 x26.1, rowT 2 eI64 a31 x30.1.length cp32 x30.1, rowT 2 eI64 a35 x34.1.length cp36 x34.1, rowT 2 eI64 a43 x42.1.length cp44 x42.1, rowT 2 eI64 a47 x46.1.length cp48 x46.1]) [0, 1, 2, 3, 4, 5, 6, 7, 8, 10, 11] ?_ ⟨rfl, rfl, rfl, rfl, rfl, rfl, rfl, rfl, rfl, rfl, rfl, rfl, rfl, rfl, rfl, rfl, rfl, rfl, rfl, rfl, rfl, rfl, trivial⟩ (by decide) rfl
    refine JE.code ?_
    refine JX.seq ?_
    refine JX.seq ?_
    refine JX.region ?_
    refine JL.val (yl_move rfl) rfl ?_
    refine JL.val (yl_move rfl) rfl ?_
    refine JL.val (yl_neq rfl rfl) rfl ?_
    refine JL.val (yl_move rfl) rfl ?_
    obtain ⟨cb50, hcb50, hres⟩ := bind_some hres
    refine JL.cut (K := fun J => J [(3, .int .i64 x2.1), (4, .slice a3 x2.2.length cp4), (5, .slice a7 x6.1.length cp8), (6, .int .i64 x6.2), (9, .slice a15 x14.1.length cp16), (10, .int .i64 x14.2), (11, .slice a19 x18.1.length cp20), (12, .int .i64 x18.2), (13, .slice a23 x22.1.length cp24), (14, .int .i64 x22.2), (15, .slice a27 x26.1.length cp28), (16, .int .i64 x26.2), (17, .slice a31 x30.1.length cp32), (18, .int .i64 x30.2), (19, .slice a35 x34.1.length cp36), (20, .int .i64 x34.2), (24, .slice a43 x42.1.length cp44), (25, .int .i64 x42.2), (26, .slice a47 x46.1.length cp48), (27, .int .i64 x46.2), (120, .bool cb50)] [rowT 2 eI64 a3 x2.2.length cp4 x2.2, rowT 2 eI64 a7 x6.1.length cp8 x6.1, rowT 2 eI64 a15 x14.1.length cp16 x14.1, rowT 2 eI64 a19 x18.1.length cp20 x18.1, rowT 2 eI64 a23 x22.1.length cp24 x22.1, rowT 2 eI64 a27 x26.1.length cp28 x26.1, rowT 2 eI64 a31 x30.1.length cp32 x30.1, rowT 2 eI64 a35 x34.1.length cp36 x34.1, rowT 2 eI64 a43 x42.1.length cp44 x42.1, rowT 2 eI64 a47 x46.1.length cp48 x46.1]) 5 ?_ ?_
    · refine JL.val (yl_move rfl) rfl ?_
      refine JL.cut (K := fun J => J [(3, .int .i64 x2.1), (4, .slice a3 x2.2.length cp4), (5, .slice a7 x6.1.length cp8), (6, .int .i64 x6.2), (9, .slice a15 x14.1.length cp16), (11, .slice a19 x18.1.length cp20), (13, .slice a23 x22.1.length cp24), (14, .int .i64 x22.2), (15, .slice a27 x26.1.length cp28), (16, .int .i64 x26.2), (17, .slice a31 x30.1.length cp32), (18, .int .i64 x30.2), (19, .slice a35 x34.1.length cp36), (20, .int .i64 x34.2), (24, .slice a43 x42.1.length cp44), (25, .int .i64 x42.2), (26, .slice a47 x46.1.length cp48), (27, .int .i64 x46.2), (125, .bool (cb50 || (x14.2 != x18.2)))] [rowT 2 eI64 a3 x2.2.length cp4 x2.2, rowT 2 eI64 a7 x6.1.length cp8 x6.1, rowT 2 eI64 a15 x14.1.length cp16 x14.1, rowT 2 eI64 a19 x18.1.length cp20 x18.1, rowT 2 eI64 a23 x22.1.length cp24 x22.1, rowT 2 eI64 a27 x26.1.length cp28 x26.1, rowT 2 eI64 a31 x30.1.length cp32 x30.1, rowT 2 eI64 a35 x34.1.length cp36 x34.1, rowT 2 eI64 a43 x42.1.length cp44 x42.1, rowT 2 eI64 a47 x46.1.length cp48 x46.1]) 4 ?_ ?_
      · refine JL.val (yl_move rfl) rfl ?_
        obtain ⟨cb52, hcb52, hres⟩ := bind_some hres
        refine JL.cut (K := fun J => J [(3, .int .i64 x2.1), (4, .slice a3 x2.2.length cp4), (5, .slice a7 x6.1.length cp8), (6, .int .i64 x6.2), (9, .slice a15 x14.1.length cp16), (13, .slice a23 x22.1.length cp24), (14, .int .i64 x22.2), (15, .slice a27 x26.1.length cp28), (16, .int .i64 x26.2), (17, .slice a31 x30.1.length cp32), (18, .int .i64 x30.2), (19, .slice a35 x34.1.length cp36), (20, .int .i64 x34.2), (24, .slice a43 x42.1.length cp44), (25, .int .i64 x42.2), (26, .slice a47 x46.1.length cp48), (27, .int .i64 x46.2), (131, .bool cb52)] [rowT 2 eI64 a3 x2.2.length cp4 x2.2, rowT 2 eI64 a7 x6.1.length cp8 x6.1, rowT 2 eI64 a15 x14.1.length cp16 x14.1, rowT 2 eI64 a23 x22.1.length cp24 x22.1, rowT 2 eI64 a27 x26.1.length cp28 x26.1, rowT 2 eI64 a31 x30.1.length cp32 x30.1, rowT 2 eI64 a35 x34.1.length cp36 x34.1, rowT 2 eI64 a43 x42.1.length cp44 x42.1, rowT 2 eI64 a47 x46.1.length cp48 x46.1]) 5 ?_ ?_
        · refine JL.val (yl_move rfl) rfl ?_
          refine JL.cut (K := fun J => J [(3, .int .i64 x2.1), (4, .slice a3 x2.2.length cp4), (5, .slice a7 x6.1.length cp8), (6, .int .i64 x6.2), (9, .slice a15 x14.1.length cp16), (13, .slice a23 x22.1.length cp24), (15, .slice a27 x26.1.length cp28), (17, .slice a31 x30.1.length cp32), (18, .int .i64 x30.2), (19, .slice a35 x34.1.length cp36), (20, .int .i64 x34.2), (24, .slice a43 x42.1.length cp44), (25, .int .i64 x42.2), (26, .slice a47 x46.1.length cp48), (27, .int .i64 x46.2), (136, .bool (cb52 || (x22.2 != x26.2)))] [rowT 2 eI64 a3 x2.2.length cp4 x2.2, rowT 2 eI64 a7 x6.1.length cp8 x6.1, rowT 2 eI64 a15 x14.1.length cp16 x14.1, rowT 2 eI64 a23 x22.1.length cp24 x22.1, rowT 2 eI64 a27 x26.1.length cp28 x26.1, rowT 2 eI64 a31 x30.1.length cp32 x30.1, rowT 2 eI64 a35 x34.1.length cp36 x34.1, rowT 2 eI64 a43 x42.1.length cp44 x42.1, rowT 2 eI64 a47 x46.1.length cp48 x46.1]) 4 ?_ ?_
          · refine JL.val (yl_move rfl) rfl ?_
            obtain ⟨cb54, hcb54, hres⟩ := bind_some hres
            refine JL.cut (K := fun J => J [(3, .int .i64 x2.1), (4, .slice a3 x2.2.length cp4), (5, .slice a7 x6.1.length cp8), (6, .int .i64 x6.2), (9, .slice a15 x14.1.length cp16), (13, .slice a23 x22.1.length cp24), (17, .slice a31 x30.1.length cp32), (18, .int .i64 x30.2), (19, .slice a35 x34.1.length cp36), (20, .int .i64 x34.2), (24, .slice a43 x42.1.length cp44), (25, .int .i64 x42.2), (26, .slice a47 x46.1.length cp48), (27, .int .i64 x46.2), (142, .bool cb54)] [rowT 2 eI64 a3 x2.2.length cp4 x2.2, rowT 2 eI64 a7 x6.1.length cp8 x6.1, rowT 2 eI64 a15 x14.1.length cp16 x14.1, rowT 2 eI64 a23 x22.1.length cp24 x22.1, rowT 2 eI64 a31 x30.1.length cp32 x30.1, rowT 2 eI64 a35 x34.1.length cp36 x34.1, rowT 2 eI64 a43 x42.1.length cp44 x42.1, rowT 2 eI64 a47 x46.1.length cp48 x46.1]) 5 ?_ ?_
            · refine JL.val (yl_move rfl) rfl ?_
              refine JL.cut (K := fun J => J [(3, .int .i64 x2.1), (4, .slice a3 x2.2.length cp4), (5, .slice a7 x6.1.length cp8), (6, .int .i64 x6.2), (9, .slice a15 x14.1.length cp16), (13, .slice a23 x22.1.length cp24), (17, .slice a31 x30.1.length cp32), (19, .slice a35 x34.1.length cp36), (24, .slice a43 x42.1.length cp44), (25, .int .i64 x42.2), (26, .slice a47 x46.1.length cp48), (27, .int .i64 x46.2), (147, .bool (cb54 || (x30.2 != x34.2)))] [rowT 2 eI64 a3 x2.2.length cp4 x2.2, rowT 2 eI64 a7 x6.1.length cp8 x6.1, rowT 2 eI64 a15 x14.1.length cp16 x14.1, rowT 2 eI64 a23 x22.1.length cp24 x22.1, rowT 2 eI64 a31 x30.1.length cp32 x30.1, rowT 2 eI64 a35 x34.1.length cp36 x34.1, rowT 2 eI64 a43 x42.1.length cp44 x42.1, rowT 2 eI64 a47 x46.1.length cp48 x46.1]) 4 ?_ ?_
              · refine JL.val (yl_move rfl) rfl ?_
                obtain ⟨cb56, hcb56, hres⟩ := bind_some hres
                refine JL.cut (K := fun J => J [(3, .int .i64 x2.1), (4, .slice a3 x2.2.length cp4), (5, .slice a7 x6.1.length cp8), (6, .int .i64 x6.2), (9, .slice a15 x14.1.length cp16), (13, .slice a23 x22.1.length cp24), (17, .slice a31 x30.1.length cp32), (24, .slice a43 x42.1.length cp44), (25, .int .i64 x42.2), (26, .slice a47 x46.1.length cp48), (27, .int .i64 x46.2), (153, .bool cb56)] [rowT 2 eI64 a3 x2.2.length cp4 x2.2, rowT 2 eI64 a7 x6.1.length cp8 x6.1, rowT 2 eI64 a15 x14.1.length cp16 x14.1, rowT 2 eI64 a23 x22.1.length cp24 x22.1, rowT 2 eI64 a31 x30.1.length cp32 x30.1, rowT 2 eI64 a43 x42.1.length cp44 x42.1, rowT 2 eI64 a47 x46.1.length cp48 x46.1]) 5 ?_ ?_
                · refine JL.val (yl_move rfl) rfl ?_
                  refine JL.cut (K := fun J => J [(3, .int .i64 x2.1), (4, .slice a3 x2.2.length cp4), (5, .slice a7 x6.1.length cp8), (6, .int .i64 x6.2), (9, .slice a15 x14.1.length cp16), (13, .slice a23 x22.1.length cp24), (17, .slice a31 x30.1.length cp32), (24, .slice a43 x42.1.length cp44), (26, .slice a47 x46.1.length cp48), (158, .bool (cb56 || (x42.2 != x46.2)))] [rowT 2 eI64 a3 x2.2.length cp4 x2.2, rowT 2 eI64 a7 x6.1.length cp8 x6.1, rowT 2 eI64 a15 x14.1.length cp16 x14.1, rowT 2 eI64 a23 x22.1.length cp24 x22.1, rowT 2 eI64 a31 x30.1.length cp32 x30.1, rowT 2 eI64 a43 x42.1.length cp44 x42.1, rowT 2 eI64 a47 x46.1.length cp48 x46.1]) 4 ?_ ?_
                  · refine JL.val (yl_move rfl) rfl ?_
                    obtain ⟨cb58, hcb58, hres⟩ := bind_some hres
                    refine JL.cut (K := fun J => J [(3, .int .i64 x2.1), (4, .slice a3 x2.2.length cp4), (5, .slice a7 x6.1.length cp8), (6, .int .i64 x6.2), (9, .slice a15 x14.1.length cp16), (13, .slice a23 x22.1.length cp24), (17, .slice a31 x30.1.length cp32), (164, .bool cb58)] [rowT 2 eI64 a3 x2.2.length cp4 x2.2, rowT 2 eI64 a7 x6.1.length cp8 x6.1, rowT 2 eI64 a15 x14.1.length cp16 x14.1, rowT 2 eI64 a23 x22.1.length cp24 x22.1, rowT 2 eI64 a31 x30.1.length cp32 x30.1]) 5 ?_ ?_
                    · refine JL.val (yl_move rfl) rfl ?_
                      obtain ⟨cb60, hcb60, hres⟩ := bind_some hres
                      refine JL.cut (K := fun J => J [(3, .int .i64 x2.1), (4, .slice a3 x2.2.length cp4), (5, .slice a7 x6.1.length cp8), (6, .int .i64 x6.2), (9, .slice a15 x14.1.length cp16), (13, .slice a23 x22.1.length cp24), (17, .slice a31 x30.1.length cp32), (173, .bool cb60)] [rowT 2 eI64 a3 x2.2.length cp4 x2.2, rowT 2 eI64 a7 x6.1.length cp8 x6.1, rowT 2 eI64 a15 x14.1.length cp16 x14.1, rowT 2 eI64 a23 x22.1.length cp24 x22.1, rowT 2 eI64 a31 x30.1.length cp32 x30.1]) 8 ?_ ?_
                      · refine JL.nil ?_
                        refine JE.weak (env' := [(3, .int .i64 x2.1), (4, .slice a3 x2.2.length cp4), (5, .slice a7 x6.1.length cp8), (6, .int .i64 x6.2), (9, .slice a15 x14.1.length cp16), (13, .slice a23 x22.1.length cp24), (17, .slice a31 x30.1.length cp32), (173, .bool cb60)]) (es' := [rowT 2 eI64 a3 x2.2.length cp4 x2.2, rowT 2 eI64 a7 x6.1.length cp8 x6.1, rowT 2 eI64 a15 x14.1.length cp16 x14.1, rowT 2 eI64 a23 x22.1.length cp24 x22.1, rowT 2 eI64 a31 x30.1.length cp32 x30.1]) [0, 1, 2, 3, 4] ?_ ⟨rfl, rfl, rfl, rfl, rfl, rfl, rfl, rfl, trivial⟩ (by decide) rfl
                        refine JE.code ?_
                        rcases cond_some hres with ⟨hb, hres⟩ | ⟨hb, hres⟩
                        · refine JX.condT rfl hb ?_
                          refine JX.seq ?_
                          refine JX.region ?_
                          refine JL.val (yl_assign rfl) rfl ?_
                          refine JL.nil ?_
                          refine JE.weak (env' := [(2, .bool false)]) (es' := []) [] ?_ ⟨rfl, trivial⟩ (by decide) rfl
                          refine JE.code ?_
                          refine JX.ret ?_
                          obtain rfl := Option.some.inj hres
                          refine JE.ret (rs := [.tmp 2]) (vs := [.bool false]) rfl ⟨rfl, trivial⟩ ?_
                          exact fun w' hb hs => ⟨_, _, ⟨rfl, rfl⟩, rfl, hb, hs.sel [] _ (by decide) rfl⟩
                        · refine JX.condF rfl hb ?_
                          refine JX.skip ?_
                          refine JE.code ?_
                          refine JX.seq ?_
                          refine JX.seq ?_
                          refine JX.region ?_
                          refine JL.val (yl_move rfl) rfl ?_
                          refine JL.val (yl_neq rfl rfl) rfl ?_
                          refine JL.nil ?_
                          refine JE.code ?_
                          rcases cond_some hres with ⟨hb, hres⟩ | ⟨hb, hres⟩
                          · refine JX.condT rfl hb ?_
                            refine JX.seq ?_
                            refine JX.region ?_
                            refine JL.val (yl_assign rfl) rfl ?_
                            refine JL.nil ?_
                            refine JE.weak (env' := [(2, .bool true)]) (es' := []) [] ?_ ⟨rfl, trivial⟩ (by decide) rfl
                            refine JE.code ?_
                            refine JX.ret ?_
                            obtain rfl := Option.some.inj hres
                            refine JE.ret (rs := [.tmp 2]) (vs := [.bool true]) rfl ⟨rfl, trivial⟩ ?_
                            exact fun w' hb hs => ⟨_, _, ⟨rfl, rfl⟩, rfl, hb, hs.sel [] _ (by decide) rfl⟩
                          · refine JX.condF rfl hb ?_
                            refine JX.skip ?_
                            refine JE.code ?_
                            refine JX.seq ?_
                            refine JX.region ?_
                            refine JL.val (yl_assign rfl) rfl ?_
                            refine JL.nil ?_
                            refine JE.code ?_
                            refine JX.seq ?_
                            refine JX.seq ?_
                            refine JX.region ?_
                            refine JL.val (yl_assign rfl) rfl ?_
                            refine JL.nil ?_
                            refine JE.code ?_
                            refine JX.block ?_
                            obtain ⟨y1, hy1, hresO1⟩ := bind_some hres
                            refine JX.loop (I := fun (s1 : Int × Int) aa ww => St w [] 246 [(3, .int .i64 x2.1), (4, .slice a3 x2.2.length cp4), (5, .slice a7 x6.1.length cp8), (9, .slice a15 x14.1.length cp16), (13, .slice a23 x22.1.length cp24), (17, .slice a31 x30.1.length cp32), (28, .int .i64 s1.1), (29, .int .i64 s1.2)] [rowT 2 eI64 a3 x2.2.length cp4 x2.2, rowT 2 eI64 a7 x6.1.length cp8 x6.1, rowT 2 eI64 a15 x14.1.length cp16 x14.1, rowT 2 eI64 a23 x22.1.length cp24 x22.1, rowT 2 eI64 a31 x30.1.length cp32 x30.1] aa ww) (sh14_1 x14) hy1 (fun a w h => h.weak ⟨rfl, rfl, rfl, rfl, rfl, rfl, rfl, rfl, trivial⟩ [0, 1, 2, 3, 4] (by decide) rfl) ?_
                            rintro ⟨x63, x64⟩ o1 hres hox1 aa ww hS
                            refine (?_ : JX Go.Proofs.Try.prog w [] 246 _ _ [(3, .int .i64 x2.1), (4, .slice a3 x2.2.length cp4), (5, .slice a7 x6.1.length cp8), (9, .slice a15 x14.1.length cp16), (13, .slice a23 x22.1.length cp24), (17, .slice a31 x30.1.length cp32), (28, .int .i64 x63), (29, .int .i64 x64)] [rowT 2 eI64 a3 x2.2.length cp4 x2.2, rowT 2 eI64 a7 x6.1.length cp8 x6.1, rowT 2 eI64 a15 x14.1.length cp16 x14.1, rowT 2 eI64 a23 x22.1.length cp24 x22.1, rowT 2 eI64 a31 x30.1.length cp32 x30.1] _) aa ww hS
                            clear hS
                            simp only [sh14_1] at hres
                            refine JX.seq ?_
                            refine JX.seq ?_
                            refine JX.region ?_
                            refine JL.val (yl_move rfl) rfl ?_
                            refine JL.val (yl_move rfl) rfl ?_
                            refine JL.val (yl_len_slice Go.Proofs.Try.underlying33 rfl) rfl ?_
                            refine JL.val (yl_lss rfl rfl) rfl ?_
                            refine JL.nil ?_
                            refine JE.weak (env' := [(3, .int .i64 x2.1), (4, .slice a3 x2.2.length cp4), (5, .slice a7 x6.1.length cp8), (9, .slice a15 x14.1.length cp16), (13, .slice a23 x22.1.length cp24), (17, .slice a31 x30.1.length cp32), (28, .int .i64 x63), (29, .int .i64 x64), (179, .bool (decide (x64 < (x14.1.length : Int))))]) (es' := [rowT 2 eI64 a3 x2.2.length cp4 x2.2, rowT 2 eI64 a7 x6.1.length cp8 x6.1, rowT 2 eI64 a15 x14.1.length cp16 x14.1, rowT 2 eI64 a23 x22.1.length cp24 x22.1, rowT 2 eI64 a31 x30.1.length cp32 x30.1]) [0, 1, 2, 3, 4] ?_ ⟨rfl, rfl, rfl, rfl, rfl, rfl, rfl, rfl, rfl, trivial⟩ (by decide) rfl
                            refine JE.code ?_
                            rcases cond_some hres with ⟨hb, hres⟩ | ⟨hb, hres⟩
                            · refine JX.condT rfl hb ?_
                              refine JX.skip ?_
                              refine JE.code ?_
                              refine JX.seq ?_
                              refine JX.block ?_
                              refine JX.region ?_
                              refine JL.val (yl_move rfl) rfl ?_
                              refine JL.val (yl_move rfl) rfl ?_
                              refine JL.val (yl_move rfl) rfl ?_
                              obtain ⟨x65, hx65, hres⟩ := bind_some hres
                              refine JL.val (yl_idxT Go.Proofs.Try.underlying33 i2 i2s rfl rfl hx65 rfl (fun w hC => rd_row hC 2 rfl)) rfl ?_
                              refine JL.val (yl_loadT0 Go.Proofs.Try.underlying2 rfl rfl hx65 (fun w hC => rd_row hC 2 rfl) rfl) rfl ?_
                              refine JL.val (yl_add rfl rfl) rfl ?_
                              refine JL.val (yl_assign rfl) rfl ?_
                              refine JL.nil ?_
                              refine JE.weak (env' := [(3, .int .i64 x2.1), (4, .slice a3 x2.2.length cp4), (5, .slice a7 x6.1.length cp8), (9, .slice a15 x14.1.length cp16), (13, .slice a23 x22.1.length cp24), (17, .slice a31 x30.1.length cp32), (28, .int .i64 (w64 (x63 + x65))), (29, .int .i64 x64)]) (es' := [rowT 2 eI64 a3 x2.2.length cp4 x2.2, rowT 2 eI64 a7 x6.1.length cp8 x6.1, rowT 2 eI64 a15 x14.1.length cp16 x14.1, rowT 2 eI64 a23 x22.1.length cp24 x22.1, rowT 2 eI64 a31 x30.1.length cp32 x30.1]) [0, 1, 2, 3, 4] ?_ ⟨rfl, rfl, rfl, rfl, rfl, rfl, rfl, rfl, trivial⟩ (by decide) rfl
                              refine JE.code ?_
                              refine JX.region ?_
                              refine JL.val (yl_move rfl) rfl ?_
                              refine JL.val (yl_add rfl rfl) rfl ?_
                              refine JL.val (yl_assign rfl) rfl ?_
                              refine JL.nil ?_
                              refine JE.cont hres ?_
                              exact fun a w h => h.weak ⟨rfl, rfl, rfl, rfl, rfl, rfl, rfl, rfl, trivial⟩ [0, 1, 2, 3, 4] (by decide) rfl
                            · refine JX.condF rfl hb ?_
                              refine JX.exit ?_
                              refine JE.qb rfl ?_
                              obtain ⟨b1, hb1⟩ : ∃ b : Int, b = x63 := ⟨_, rfl⟩
                              have hy1 : b1 = y1 := by rw [hb1]; exact hox1 _ (Option.some.inj hres).symm
                              have hres := hresO1
                              rw [← hy1] at hres
                              refine JE.weak (env' := [(3, .int .i64 x2.1), (4, .slice a3 x2.2.length cp4), (5, .slice a7 x6.1.length cp8), (13, .slice a23 x22.1.length cp24), (17, .slice a31 x30.1.length cp32), (28, .int .i64 b1)]) (es' := [rowT 2 eI64 a3 x2.2.length cp4 x2.2, rowT 2 eI64 a7 x6.1.length cp8 x6.1, rowT 2 eI64 a23 x22.1.length cp24 x22.1, rowT 2 eI64 a31 x30.1.length cp32 x30.1]) [0, 1, 3, 4] ?_ ⟨(by subst hb1; rfl), (by subst hb1; rfl), (by subst hb1; rfl), (by subst hb1; rfl), (by subst hb1; rfl), (by subst hb1; rfl), trivial⟩ (by decide) (by subst hb1; rfl)
                              refine JE.code ?_
                              refine JX.seq ?_
                              refine JX.region ?_
                              refine JL.val (yl_move rfl) rfl ?_
                              refine JL.val (yl_move rfl) rfl ?_
                              obtain ⟨x66, hx66, hres⟩ := bind_some hres
                              refine JL.eff (ef_call (T := T64 x66) Go.Proofs.Try.func64 rfl (by kernel_rfl) rfl (fun w hC => c64 (rd_row hC 3 rfl) rfl (ln_row hC 3 rfl) hx66)) rfl ?_
                              rintro _ _ ⟨_, ⟨a67, _, cp68, rfl, rfl, rfl⟩, rfl⟩
                              refine JL.val (yl_move rfl) rfl ?_
                              refine JL.val (yl_extract rfl rfl) rfl ?_
                              refine JL.val (yl_extract rfl rfl) rfl ?_
                              refine JL.val (yl_assign rfl) rfl ?_
                              refine JL.val (yl_assign rfl) rfl ?_
                              refine JL.nil ?_
                              refine JE.weak (env' := [(3, .int .i64 x2.1), (4, .slice a3 x2.2.length cp4), (5, .slice a7 x6.1.length cp8), (13, .slice a23 x22.1.length cp24), (17, .slice a31 x30.1.length cp32), (28, .int .i64 b1), (30, .slice a67 x66.1.length cp68), (31, .int .i64 x66.2)]) (es' := [rowT 2 eI64 a3 x2.2.length cp4 x2.2, rowT 2 eI64 a7 x6.1.length cp8 x6.1, rowT 2 eI64 a23 x22.1.length cp24 x22.1, rowT 2 eI64 a31 x30.1.length cp32 x30.1, rowT 2 eI64 a67 x66.1.length cp68 x66.1]) [0, 1, 2, 3, 4] ?_ ⟨rfl, rfl, rfl, rfl, rfl, rfl, rfl, rfl, trivial⟩ (by decide) rfl
                              refine JE.code ?_
                              refine JX.seq ?_
                              refine JX.region ?_
                              refine JL.val (yl_move rfl) rfl ?_
                              refine JL.val (yl_move rfl) rfl ?_
                              obtain ⟨x70, hx70, hres⟩ := bind_some hres
                              refine JL.eff (ef_call (T := T70 x70) Go.Proofs.Try.func70 rfl (by kernel_rfl) rfl (fun w hC => c70 (rd_row hC 3 rfl) rfl (ln_row hC 3 rfl) hx70)) rfl ?_
                              rintro _ _ ⟨_, ⟨a71, _, cp72, rfl, rfl, rfl⟩, rfl⟩
                              refine JL.val (yl_move rfl) rfl ?_
                              refine JL.val (yl_extract rfl rfl) rfl ?_
                              refine JL.val (yl_extract rfl rfl) rfl ?_
                              refine JL.val (yl_assign rfl) rfl ?_
                              refine JL.val (yl_assign rfl) rfl ?_
                              refine JL.nil ?_
                              refine JE.weak (env' := [(3, .int .i64 x2.1), (4, .slice a3 x2.2.length cp4), (5, .slice a7 x6.1.length cp8), (13, .slice a23 x22.1.length cp24), (17, .slice a31 x30.1.length cp32), (28, .int .i64 b1), (30, .slice a67 x66.1.length cp68), (31, .int .i64 x66.2), (32, .slice a71 x70.1.length cp72), (33, .int .i64 x70.2)]) (es' := [rowT 2 eI64 a3 x2.2.length cp4 x2.2, rowT 2 eI64 a7 x6.1.length cp8 x6.1, rowT 2 eI64 a23 x22.1.length cp24 x22.1, rowT 2 eI64 a31 x30.1.length cp32 x30.1, rowT 2 eI64 a67 x66.1.length cp68 x66.1, rowT 2 eI64 a71 x70.1.length cp72 x70.1]) [0, 1, 2, 3, 4, 5] ?_ ⟨rfl, rfl, rfl, rfl, rfl, rfl, rfl, rfl, rfl, rfl, trivial⟩ (by decide) rfl
                              refine JE.code ?_
                              refine JX.seq ?_
                              refine JX.seq ?_
                              refine JX.region ?_
                              refine JL.val (yl_move rfl) rfl ?_
                              refine JL.val (yl_move rfl) rfl ?_
                              refine JL.val (yl_len_slice Go.Proofs.Try.underlying33 rfl) rfl ?_
                              refine JL.val (yl_neq rfl rfl) rfl ?_
                              refine JL.val (yl_move rfl) rfl ?_
                              refine JL.cut (K := fun J => J [(3, .int .i64 x2.1), (4, .slice a3 x2.2.length cp4), (5, .slice a7 x6.1.length cp8), (13, .slice a23 x22.1.length cp24), (17, .slice a31 x30.1.length cp32), (30, .slice a67 x66.1.length cp68), (32, .slice a71 x70.1.length cp72), (33, .int .i64 x70.2), (207, .bool ((b1 != (x2.2.length : Int)) || (x66.2 != 0)))] [rowT 2 eI64 a3 x2.2.length cp4 x2.2, rowT 2 eI64 a7 x6.1.length cp8 x6.1, rowT 2 eI64 a23 x22.1.length cp24 x22.1, rowT 2 eI64 a31 x30.1.length cp32 x30.1, rowT 2 eI64 a67 x66.1.length cp68 x66.1, rowT 2 eI64 a71 x70.1.length cp72 x70.1]) 3 ?_ ?_
                              · refine JL.val (yl_move rfl) rfl ?_
                                obtain ⟨cb74, hcb74, hres⟩ := bind_some hres
                                refine JL.cut (K := fun J => J [(3, .int .i64 x2.1), (4, .slice a3 x2.2.length cp4), (13, .slice a23 x22.1.length cp24), (17, .slice a31 x30.1.length cp32), (32, .slice a71 x70.1.length cp72), (33, .int .i64 x70.2), (213, .bool cb74)] [rowT 2 eI64 a3 x2.2.length cp4 x2.2, rowT 2 eI64 a23 x22.1.length cp24 x22.1, rowT 2 eI64 a31 x30.1.length cp32 x30.1, rowT 2 eI64 a71 x70.1.length cp72 x70.1]) 5 ?_ ?_
                                · refine JL.val (yl_move rfl) rfl ?_
                                  refine JL.cut (K := fun J => J [(3, .int .i64 x2.1), (4, .slice a3 x2.2.length cp4), (13, .slice a23 x22.1.length cp24), (17, .slice a31 x30.1.length cp32), (32, .slice a71 x70.1.length cp72), (217, .bool (cb74 || (x70.2 != 0)))] [rowT 2 eI64 a3 x2.2.length cp4 x2.2, rowT 2 eI64 a23 x22.1.length cp24 x22.1, rowT 2 eI64 a31 x30.1.length cp32 x30.1, rowT 2 eI64 a71 x70.1.length cp72 x70.1]) 3 ?_ ?_
                                  · refine JL.val (yl_move rfl) rfl ?_
                                    obtain ⟨cb76, hcb76, hres⟩ := bind_some hres
                                    refine JL.cut (K := fun J => J [(3, .int .i64 x2.1), (4, .slice a3 x2.2.length cp4), (13, .slice a23 x22.1.length cp24), (223, .bool cb76)] [rowT 2 eI64 a3 x2.2.length cp4 x2.2, rowT 2 eI64 a23 x22.1.length cp24 x22.1]) 5 ?_ ?_
                                    · refine JL.nil ?_
                                      refine JE.weak (env' := [(3, .int .i64 x2.1), (4, .slice a3 x2.2.length cp4), (13, .slice a23 x22.1.length cp24), (223, .bool cb76)]) (es' := [rowT 2 eI64 a3 x2.2.length cp4 x2.2, rowT 2 eI64 a23 x22.1.length cp24 x22.1]) [0, 1] ?_ ⟨rfl, rfl, rfl, rfl, trivial⟩ (by decide) rfl
                                      refine JE.code ?_
                                      rcases cond_some hres with ⟨hb, hres⟩ | ⟨hb, hres⟩
                                      · refine JX.condT rfl hb ?_
                                        refine JX.seq ?_
                                        refine JX.region ?_
                                        refine JL.val (yl_assign rfl) rfl ?_
                                        refine JL.nil ?_
                                        refine JE.weak (env' := [(2, .bool false)]) (es' := []) [] ?_ ⟨rfl, trivial⟩ (by decide) rfl
                                        refine JE.code ?_
                                        refine JX.ret ?_
                                        obtain rfl := Option.some.inj hres
                                        refine JE.ret (rs := [.tmp 2]) (vs := [.bool false]) rfl ⟨rfl, trivial⟩ ?_
                                        exact fun w' hb hs => ⟨_, _, ⟨rfl, rfl⟩, rfl, hb, hs.sel [] _ (by decide) rfl⟩
                                      · refine JX.condF rfl hb ?_
                                        refine JX.skip ?_
                                        refine JE.code ?_
                                        refine JX.seq ?_
                                        refine JX.seq ?_
                                        refine JX.region ?_
                                        refine JL.val (yl_move rfl) rfl ?_
                                        refine JL.val (yl_len_slice Go.Proofs.Try.underlying33 rfl) rfl ?_
                                        refine JL.val (yl_mul rfl rfl) rfl ?_
                                        refine JL.val (yl_gtr rfl rfl) rfl ?_
                                        refine JL.nil ?_
                                        refine JE.weak (env' := [(3, .int .i64 x2.1), (4, .slice a3 x2.2.length cp4), (13, .slice a23 x22.1.length cp24), (227, .bool (decide (200 < (w64 (2 * (x2.2.length : Int))))))]) (es' := [rowT 2 eI64 a3 x2.2.length cp4 x2.2, rowT 2 eI64 a23 x22.1.length cp24 x22.1]) [0, 1] ?_ ⟨rfl, rfl, rfl, rfl, trivial⟩ (by decide) rfl
                                        refine JE.code ?_
                                        rcases cond_some hres with ⟨hb, hres⟩ | ⟨hb, hres⟩
                                        · refine JX.condT rfl hb ?_
                                          refine JX.seq ?_
                                          refine JX.region ?_
                                          refine JL.val (yl_assign rfl) rfl ?_
                                          refine JL.nil ?_
                                          refine JE.weak (env' := [(2, .bool true)]) (es' := []) [] ?_ ⟨rfl, trivial⟩ (by decide) rfl
                                          refine JE.code ?_
                                          refine JX.ret ?_
                                          obtain rfl := Option.some.inj hres
                                          refine JE.ret (rs := [.tmp 2]) (vs := [.bool true]) rfl ⟨rfl, trivial⟩ ?_
                                          exact fun w' hb hs => ⟨_, _, ⟨rfl, rfl⟩, rfl, hb, hs.sel [] _ (by decide) rfl⟩
                                        · refine JX.condF rfl hb ?_
                                          refine JX.skip ?_
                                          refine JE.code ?_
                                          refine JX.seq ?_
                                          refine JX.region ?_
                                          refine JL.eff (ef_buildSlice (E := 2) (k := eI64.k) (us := eI64.fl ([] : List Int)) rfl (fun w => bsl33_0  w) rfl (by decide)) rfl ?_
                                          rintro _ _ ⟨a78, rfl, rfl⟩
                                          refine JL.val (yl_move rfl) rfl ?_
                                          obtain ⟨x80, hx80, hres⟩ := bind_some hres
                                          refine JL.eff (ef_appendT (ix := 2) Go.Proofs.Try.underlying33 i2 i2z i2s rfl i2b0 i2b1 rfl rfl rfl rfl rfl (fun w hC => rd_row hC 0 rfl) hx80) rfl ?_
                                          rintro _ _ ⟨a81, cp82, rfl, rfl⟩
                                          refine JL.val (yl_move rfl) rfl ?_
                                          obtain ⟨x83, hx83, hres⟩ := bind_some hres
                                          refine JL.eff (ef_appendT (ix := 2) Go.Proofs.Try.underlying33 i2 i2z i2s rfl i2b0 i2b1 rfl rfl rfl rfl rfl (fun w hC => rd_row hC 1 rfl) hx83) rfl ?_
                                          rintro _ _ ⟨a84, cp85, rfl, rfl⟩
                                          refine JL.val (yl_assign rfl) rfl ?_
                                          refine JL.nil ?_
                                          refine JE.weak (env' := [(3, .int .i64 x2.1), (34, .slice a84 x83.length cp85)]) (es' := [rowT 2 eI64 a84 x83.length cp85 x83]) [2] ?_ ⟨rfl, rfl, trivial⟩ (by decide) rfl
                                          refine JE.code ?_
                                          refine JX.seq ?_
                                          refine JX.region ?_
                                          refine JL.val (yl_move rfl) rfl ?_
                                          refine JL.val (yl_move rfl) rfl ?_
                                          obtain ⟨x86, hx86, hres⟩ := bind_some hres
                                          refine JL.eff (ef_call (T := T70 x86) Go.Proofs.Try.func70 rfl (by kernel_rfl) rfl (fun w hC => c70 (rd_row hC 0 rfl) rfl (ln_row hC 0 rfl) hx86)) rfl ?_
                                          rintro _ _ ⟨_, ⟨a87, _, cp88, rfl, rfl, rfl⟩, rfl⟩
                                          refine JL.val (yl_move rfl) rfl ?_
                                          refine JL.val (yl_extract rfl rfl) rfl ?_
                                          refine JL.val (yl_extract rfl rfl) rfl ?_
                                          refine JL.val (yl_assign rfl) rfl ?_
                                          refine JL.val (yl_assign rfl) rfl ?_
                                          refine JL.nil ?_
                                          refine JE.weak (env' := [(35, .slice a87 x86.1.length cp88), (36, .int .i64 x86.2)]) (es' := [rowT 2 eI64 a87 x86.1.length cp88 x86.1]) [1] ?_ ⟨rfl, rfl, trivial⟩ (by decide) rfl
                                          refine JE.code ?_
                                          refine JX.seq ?_
                                          refine JX.region ?_
                                          refine JL.val (yl_move rfl) rfl ?_
                                          refine JL.val (yl_eql rfl rfl) rfl ?_
                                          refine JL.val (yl_move rfl) rfl ?_
                                          refine JL.cut (K := fun J => J [(245, .bool ((x86.2 == 0) && ((x86.1.length : Int) == 0)))] []) 4 ?_ ?_
                                          · refine JL.val (yl_assign rfl) rfl ?_
                                            refine JL.nil ?_
                                            refine JE.weak (env' := [(2, .bool ((x86.2 == 0) && ((x86.1.length : Int) == 0)))]) (es' := []) [] ?_ ⟨rfl, trivial⟩ (by decide) rfl
                                            refine JE.code ?_
                                            refine JX.ret ?_
                                            obtain rfl := Option.some.inj hres
                                            refine JE.ret (rs := [.tmp 2]) (vs := [.bool ((x86.2 == 0) && ((x86.1.length : Int) == 0))]) rfl ⟨rfl, trivial⟩ ?_
                                            exact fun w' hb hs => ⟨_, _, ⟨rfl, rfl⟩, rfl, hb, hs.sel [] _ (by decide) rfl⟩
                                          · intro K
                                            rcases Bool.eq_false_or_eq_true (x86.2 == 0) with hb | hb
                                            · refine JL.set (d := 241) (v := .bool true) (congrArg (fun b => some (Value.bool b)) hb) ?_
                                              refine JL.gval rfl rfl (yl_move rfl) rfl ?_
                                              refine JL.gval rfl rfl (yl_len_slice Go.Proofs.Try.underlying33 rfl) rfl ?_
                                              refine JL.gval rfl rfl (yl_eql rfl rfl) rfl ?_
                                              refine JL.val (yl_pick_true rfl rfl) rfl ?_
                                              exact JL.weak [] K ⟨(by rw [hb]; rfl), trivial⟩ (by decide) rfl
                                            · refine JL.set (d := 241) (v := .bool false) (congrArg (fun b => some (Value.bool b)) hb) ?_
                                              refine JL.gskip rfl rfl rfl rfl ?_
                                              refine JL.gskip rfl rfl rfl rfl ?_
                                              refine JL.gskip rfl rfl rfl rfl ?_
                                              refine JL.val (yl_pick_false rfl rfl) rfl ?_
                                              exact JL.weak [] K ⟨(by rw [hb]; rfl), trivial⟩ (by decide) rfl
                                    · intro K
                                      rcases cond_some hcb76 with ⟨hb, hres⟩ | ⟨hb, hres⟩
                                      · refine JL.set (d := 218) (v := .bool true) (congrArg (fun b => some (Value.bool b)) hb) ?_
                                        refine JL.gskip rfl rfl rfl rfl ?_
                                        refine JL.gskip rfl rfl rfl rfl ?_
                                        refine JL.gskip rfl rfl rfl rfl ?_
                                        refine JL.gskip rfl rfl rfl rfl ?_
                                        refine JL.val (yl_pick_true rfl rfl) rfl ?_
                                        have he := Option.some.inj hres
                                        exact JL.weak [0, 1] K ⟨rfl, rfl, rfl, (by rw [← he]; rfl), trivial⟩ (by decide) rfl
                                      · refine JL.set (d := 218) (v := .bool false) (congrArg (fun b => some (Value.bool b)) hb) ?_
                                        refine JL.gval rfl rfl (yl_move rfl) rfl ?_
                                        refine JL.gval rfl rfl (yl_move rfl) rfl ?_
                                        obtain ⟨x77, hx77, hres⟩ := bind_some hres
                                        refine JL.geff rfl rfl (ef_call (T := T75 x77) Go.Proofs.Try.func75 rfl (by kernel_rfl) rfl (fun w hC => c75 (rd_row hC 3 rfl) rfl (ln_row hC 3 rfl) (rd_row hC 2 rfl) rfl (ln_row hC 2 rfl) hx77)) rfl ?_
                                        rintro _ _ ⟨_, ⟨rfl, rfl⟩, rfl⟩
                                        refine JL.gval rfl rfl (yl_not rfl) rfl ?_
                                        refine JL.val (yl_pick_false rfl rfl) rfl ?_
                                        have he := Option.some.inj hres
                                        exact JL.weak [0, 1] K ⟨rfl, rfl, rfl, (by rw [← he]; rfl), trivial⟩ (by decide) rfl
                                  · intro K
                                    rcases Bool.eq_false_or_eq_true (cb74) with hb | hb
                                    · refine JL.set (d := 214) (v := .bool true) (congrArg (fun b => some (Value.bool b)) hb) ?_
                                      refine JL.gskip rfl rfl rfl rfl ?_
                                      refine JL.gskip rfl rfl rfl rfl ?_
                                      refine JL.val (yl_pick_true rfl rfl) rfl ?_
                                      exact JL.weak [0, 1, 2, 3] K ⟨rfl, rfl, rfl, rfl, rfl, (by rw [hb]; rfl), trivial⟩ (by decide) rfl
                                    · refine JL.set (d := 214) (v := .bool false) (congrArg (fun b => some (Value.bool b)) hb) ?_
                                      refine JL.gval rfl rfl (yl_move rfl) rfl ?_
                                      refine JL.gval rfl rfl (yl_neq rfl rfl) rfl ?_
                                      refine JL.val (yl_pick_false rfl rfl) rfl ?_
                                      exact JL.weak [0, 1, 2, 3] K ⟨rfl, rfl, rfl, rfl, rfl, (by rw [hb]; rfl), trivial⟩ (by decide) rfl
                                · intro K
                                  rcases cond_some hcb74 with ⟨hb, hres⟩ | ⟨hb, hres⟩
                                  · refine JL.set (d := 208) (v := .bool true) (congrArg (fun b => some (Value.bool b)) hb) ?_
                                    refine JL.gskip rfl rfl rfl rfl ?_
                                    refine JL.gskip rfl rfl rfl rfl ?_
                                    refine JL.gskip rfl rfl rfl rfl ?_
                                    refine JL.gskip rfl rfl rfl rfl ?_
                                    refine JL.val (yl_pick_true rfl rfl) rfl ?_
                                    have he := Option.some.inj hres
                                    exact JL.weak [0, 2, 3, 5] K ⟨rfl, rfl, rfl, rfl, rfl, rfl, (by rw [← he]; rfl), trivial⟩ (by decide) rfl
                                  · refine JL.set (d := 208) (v := .bool false) (congrArg (fun b => some (Value.bool b)) hb) ?_
                                    refine JL.gval rfl rfl (yl_move rfl) rfl ?_
                                    refine JL.gval rfl rfl (yl_move rfl) rfl ?_
                                    obtain ⟨x75, hx75, hres⟩ := bind_some hres
                                    refine JL.geff rfl rfl (ef_call (T := T75 x75) Go.Proofs.Try.func75 rfl (by kernel_rfl) rfl (fun w hC => c75 (rd_row hC 4 rfl) rfl (ln_row hC 4 rfl) (rd_row hC 1 rfl) rfl (ln_row hC 1 rfl) hx75)) rfl ?_
                                    rintro _ _ ⟨_, ⟨rfl, rfl⟩, rfl⟩
                                    refine JL.gval rfl rfl (yl_not rfl) rfl ?_
                                    refine JL.val (yl_pick_false rfl rfl) rfl ?_
                                    have he := Option.some.inj hres
                                    exact JL.weak [0, 2, 3, 5] K ⟨rfl, rfl, rfl, rfl, rfl, rfl, (by rw [← he]; rfl), trivial⟩ (by decide) rfl
                              · intro K
                                rcases Bool.eq_false_or_eq_true (b1 != (x2.2.length : Int)) with hb | hb
                                · refine JL.set (d := 204) (v := .bool true) (congrArg (fun b => some (Value.bool b)) hb) ?_
                                  refine JL.gskip rfl rfl rfl rfl ?_
                                  refine JL.gskip rfl rfl rfl rfl ?_
                                  refine JL.val (yl_pick_true rfl rfl) rfl ?_
                                  exact JL.weak [0, 1, 2, 3, 4, 5] K ⟨rfl, rfl, rfl, rfl, rfl, rfl, rfl, rfl, (by rw [hb]; rfl), trivial⟩ (by decide) rfl
                                · refine JL.set (d := 204) (v := .bool false) (congrArg (fun b => some (Value.bool b)) hb) ?_
                                  refine JL.gval rfl rfl (yl_move rfl) rfl ?_
                                  refine JL.gval rfl rfl (yl_neq rfl rfl) rfl ?_
                                  refine JL.val (yl_pick_false rfl rfl) rfl ?_
                                  exact JL.weak [0, 1, 2, 3, 4, 5] K ⟨rfl, rfl, rfl, rfl, rfl, rfl, rfl, rfl, (by rw [hb]; rfl), trivial⟩ (by decide) rfl
                      · intro K
                        rcases cond_some hcb60 with ⟨hb, hres⟩ | ⟨hb, hres⟩
                        · refine JL.set (d := 165) (v := .bool true) (congrArg (fun b => some (Value.bool b)) hb) ?_
                          refine JL.gskip rfl rfl rfl rfl ?_
                          refine JL.gskip rfl rfl rfl rfl ?_
                          refine JL.gskip rfl rfl rfl rfl ?_
                          refine JL.gskip rfl rfl rfl rfl ?_
                          refine JL.gskip rfl rfl rfl rfl ?_
                          refine JL.gskip rfl rfl rfl rfl ?_
                          refine JL.gskip rfl rfl rfl rfl ?_
                          refine JL.val (yl_pick_true rfl rfl) rfl ?_
                          have he := Option.some.inj hres
                          exact JL.weak [0, 1, 2, 3, 4] K ⟨rfl, rfl, rfl, rfl, rfl, rfl, rfl, (by rw [← he]; rfl), trivial⟩ (by decide) rfl
                        · refine JL.set (d := 165) (v := .bool false) (congrArg (fun b => some (Value.bool b)) hb) ?_
                          refine JL.gval rfl rfl (yl_move rfl) rfl ?_
                          refine JL.gval rfl rfl (yl_move rfl) rfl ?_
                          obtain ⟨x61, hx61, hres⟩ := bind_some hres
                          refine JL.geff rfl rfl (ef_call (T := T76 x61) Go.Proofs.Try.func76 rfl (by kernel_rfl) rfl (fun w hC => c76 (rd_row hC 0 rfl) rfl (ln_row hC 0 rfl) hx61)) rfl ?_
                          rintro _ _ ⟨_, ⟨rfl, rfl⟩, rfl⟩
                          refine JL.gval rfl rfl (yl_move rfl) rfl ?_
                          refine JL.gval rfl rfl (yl_move rfl) rfl ?_
                          obtain ⟨x62, hx62, hres⟩ := bind_some hres
                          refine JL.geff rfl rfl (ef_call (T := T77 x62) Go.Proofs.Try.func77 rfl (by kernel_rfl) rfl (fun w hC => c77 (rd_row hC 0 rfl) rfl (ln_row hC 0 rfl) hx62)) rfl ?_
                          rintro _ _ ⟨_, ⟨rfl, rfl⟩, rfl⟩
                          refine JL.gval rfl rfl (yl_bneq Go.Proofs.Try.underlying4 rfl rfl) rfl ?_
                          refine JL.val (yl_pick_false rfl rfl) rfl ?_
                          have he := Option.some.inj hres
                          exact JL.weak [0, 1, 2, 3, 4] K ⟨rfl, rfl, rfl, rfl, rfl, rfl, rfl, (by rw [← he]; rfl), trivial⟩ (by decide) rfl
                    · intro K
                      rcases cond_some hcb58 with ⟨hb, hres⟩ | ⟨hb, hres⟩
                      · refine JL.set (d := 159) (v := .bool true) (congrArg (fun b => some (Value.bool b)) hb) ?_
                        refine JL.gskip rfl rfl rfl rfl ?_
                        refine JL.gskip rfl rfl rfl rfl ?_
                        refine JL.gskip rfl rfl rfl rfl ?_
                        refine JL.gskip rfl rfl rfl rfl ?_
                        refine JL.val (yl_pick_true rfl rfl) rfl ?_
                        have he := Option.some.inj hres
                        exact JL.weak [0, 1, 2, 3, 4] K ⟨rfl, rfl, rfl, rfl, rfl, rfl, rfl, (by rw [← he]; rfl), trivial⟩ (by decide) rfl
                      · refine JL.set (d := 159) (v := .bool false) (congrArg (fun b => some (Value.bool b)) hb) ?_
                        refine JL.gval rfl rfl (yl_move rfl) rfl ?_
                        refine JL.gval rfl rfl (yl_move rfl) rfl ?_
                        obtain ⟨x59, hx59, hres⟩ := bind_some hres
                        refine JL.geff rfl rfl (ef_call (T := T75 x59) Go.Proofs.Try.func75 rfl (by kernel_rfl) rfl (fun w hC => c75 (rd_row hC 5 rfl) rfl (ln_row hC 5 rfl) (rd_row hC 6 rfl) rfl (ln_row hC 6 rfl) hx59)) rfl ?_
                        rintro _ _ ⟨_, ⟨rfl, rfl⟩, rfl⟩
                        refine JL.gval rfl rfl (yl_not rfl) rfl ?_
                        refine JL.val (yl_pick_false rfl rfl) rfl ?_
                        have he := Option.some.inj hres
                        exact JL.weak [0, 1, 2, 3, 4] K ⟨rfl, rfl, rfl, rfl, rfl, rfl, rfl, (by rw [← he]; rfl), trivial⟩ (by decide) rfl
                  · intro K
                    rcases Bool.eq_false_or_eq_true (cb56) with hb | hb
                    · refine JL.set (d := 154) (v := .bool true) (congrArg (fun b => some (Value.bool b)) hb) ?_
                      refine JL.gskip rfl rfl rfl rfl ?_
                      refine JL.gskip rfl rfl rfl rfl ?_
                      refine JL.gskip rfl rfl rfl rfl ?_
                      refine JL.val (yl_pick_true rfl rfl) rfl ?_
                      exact JL.weak [0, 1, 2, 3, 4, 5, 6] K ⟨rfl, rfl, rfl, rfl, rfl, rfl, rfl, rfl, rfl, (by rw [hb]; rfl), trivial⟩ (by decide) rfl
                    · refine JL.set (d := 154) (v := .bool false) (congrArg (fun b => some (Value.bool b)) hb) ?_
                      refine JL.gval rfl rfl (yl_move rfl) rfl ?_
                      refine JL.gval rfl rfl (yl_move rfl) rfl ?_
                      refine JL.gval rfl rfl (yl_neq rfl rfl) rfl ?_
                      refine JL.val (yl_pick_false rfl rfl) rfl ?_
                      exact JL.weak [0, 1, 2, 3, 4, 5, 6] K ⟨rfl, rfl, rfl, rfl, rfl, rfl, rfl, rfl, rfl, (by rw [hb]; rfl), trivial⟩ (by decide) rfl
                · intro K
                  rcases cond_some hcb56 with ⟨hb, hres⟩ | ⟨hb, hres⟩
                  · refine JL.set (d := 148) (v := .bool true) (congrArg (fun b => some (Value.bool b)) hb) ?_
                    refine JL.gskip rfl rfl rfl rfl ?_
                    refine JL.gskip rfl rfl rfl rfl ?_
                    refine JL.gskip rfl rfl rfl rfl ?_
                    refine JL.gskip rfl rfl rfl rfl ?_
                    refine JL.val (yl_pick_true rfl rfl) rfl ?_
                    have he := Option.some.inj hres
                    exact JL.weak [0, 1, 2, 3, 4, 6, 7] K ⟨rfl, rfl, rfl, rfl, rfl, rfl, rfl, rfl, rfl, rfl, rfl, (by rw [← he]; rfl), trivial⟩ (by decide) rfl
                  · refine JL.set (d := 148) (v := .bool false) (congrArg (fun b => some (Value.bool b)) hb) ?_
                    refine JL.gval rfl rfl (yl_move rfl) rfl ?_
                    refine JL.gval rfl rfl (yl_move rfl) rfl ?_
                    obtain ⟨x57, hx57, hres⟩ := bind_some hres
                    refine JL.geff rfl rfl (ef_call (T := T75 x57) Go.Proofs.Try.func75 rfl (by kernel_rfl) rfl (fun w hC => c75 (rd_row hC 4 rfl) rfl (ln_row hC 4 rfl) (rd_row hC 5 rfl) rfl (ln_row hC 5 rfl) hx57)) rfl ?_
                    rintro _ _ ⟨_, ⟨rfl, rfl⟩, rfl⟩
                    refine JL.gval rfl rfl (yl_not rfl) rfl ?_
                    refine JL.val (yl_pick_false rfl rfl) rfl ?_
                    have he := Option.some.inj hres
                    exact JL.weak [0, 1, 2, 3, 4, 6, 7] K ⟨rfl, rfl, rfl, rfl, rfl, rfl, rfl, rfl, rfl, rfl, rfl, (by rw [← he]; rfl), trivial⟩ (by decide) rfl
              · intro K
                rcases Bool.eq_false_or_eq_true (cb54) with hb | hb
                · refine JL.set (d := 143) (v := .bool true) (congrArg (fun b => some (Value.bool b)) hb) ?_
                  refine JL.gskip rfl rfl rfl rfl ?_
                  refine JL.gskip rfl rfl rfl rfl ?_
                  refine JL.gskip rfl rfl rfl rfl ?_
                  refine JL.val (yl_pick_true rfl rfl) rfl ?_
                  exact JL.weak [0, 1, 2, 3, 4, 5, 6, 7] K ⟨rfl, rfl, rfl, rfl, rfl, rfl, rfl, rfl, rfl, rfl, rfl, rfl, (by rw [hb]; rfl), trivial⟩ (by decide) rfl
                · refine JL.set (d := 143) (v := .bool false) (congrArg (fun b => some (Value.bool b)) hb) ?_
                  refine JL.gval rfl rfl (yl_move rfl) rfl ?_
                  refine JL.gval rfl rfl (yl_move rfl) rfl ?_
                  refine JL.gval rfl rfl (yl_neq rfl rfl) rfl ?_
                  refine JL.val (yl_pick_false rfl rfl) rfl ?_
                  exact JL.weak [0, 1, 2, 3, 4, 5, 6, 7] K ⟨rfl, rfl, rfl, rfl, rfl, rfl, rfl, rfl, rfl, rfl, rfl, rfl, (by rw [hb]; rfl), trivial⟩ (by decide) rfl
            · intro K
              rcases cond_some hcb54 with ⟨hb, hres⟩ | ⟨hb, hres⟩
              · refine JL.set (d := 137) (v := .bool true) (congrArg (fun b => some (Value.bool b)) hb) ?_
                refine JL.gskip rfl rfl rfl rfl ?_
                refine JL.gskip rfl rfl rfl rfl ?_
                refine JL.gskip rfl rfl rfl rfl ?_
                refine JL.gskip rfl rfl rfl rfl ?_
                refine JL.val (yl_pick_true rfl rfl) rfl ?_
                have he := Option.some.inj hres
                exact JL.weak [0, 1, 2, 3, 5, 6, 7, 8] K ⟨rfl, rfl, rfl, rfl, rfl, rfl, rfl, rfl, rfl, rfl, rfl, rfl, rfl, rfl, (by rw [← he]; rfl), trivial⟩ (by decide) rfl
              · refine JL.set (d := 137) (v := .bool false) (congrArg (fun b => some (Value.bool b)) hb) ?_
                refine JL.gval rfl rfl (yl_move rfl) rfl ?_
                refine JL.gval rfl rfl (yl_move rfl) rfl ?_
                obtain ⟨x55, hx55, hres⟩ := bind_some hres
                refine JL.geff rfl rfl (ef_call (T := T75 x55) Go.Proofs.Try.func75 rfl (by kernel_rfl) rfl (fun w hC => c75 (rd_row hC 3 rfl) rfl (ln_row hC 3 rfl) (rd_row hC 4 rfl) rfl (ln_row hC 4 rfl) hx55)) rfl ?_
                rintro _ _ ⟨_, ⟨rfl, rfl⟩, rfl⟩
                refine JL.gval rfl rfl (yl_not rfl) rfl ?_
                refine JL.val (yl_pick_false rfl rfl) rfl ?_
                have he := Option.some.inj hres
                exact JL.weak [0, 1, 2, 3, 5, 6, 7, 8] K ⟨rfl, rfl, rfl, rfl, rfl, rfl, rfl, rfl, rfl, rfl, rfl, rfl, rfl, rfl, (by rw [← he]; rfl), trivial⟩ (by decide) rfl
          · intro K
            rcases Bool.eq_false_or_eq_true (cb52) with hb | hb
            · refine JL.set (d := 132) (v := .bool true) (congrArg (fun b => some (Value.bool b)) hb) ?_
              refine JL.gskip rfl rfl rfl rfl ?_
              refine JL.gskip rfl rfl rfl rfl ?_
              refine JL.gskip rfl rfl rfl rfl ?_
              refine JL.val (yl_pick_true rfl rfl) rfl ?_
              exact JL.weak [0, 1, 2, 3, 4, 5, 6, 7, 8] K ⟨rfl, rfl, rfl, rfl, rfl, rfl, rfl, rfl, rfl, rfl, rfl, rfl, rfl, rfl, rfl, (by rw [hb]; rfl), trivial⟩ (by decide) rfl
            · refine JL.set (d := 132) (v := .bool false) (congrArg (fun b => some (Value.bool b)) hb) ?_
              refine JL.gval rfl rfl (yl_move rfl) rfl ?_
              refine JL.gval rfl rfl (yl_move rfl) rfl ?_
              refine JL.gval rfl rfl (yl_neq rfl rfl) rfl ?_
              refine JL.val (yl_pick_false rfl rfl) rfl ?_
              exact JL.weak [0, 1, 2, 3, 4, 5, 6, 7, 8] K ⟨rfl, rfl, rfl, rfl, rfl, rfl, rfl, rfl, rfl, rfl, rfl, rfl, rfl, rfl, rfl, (by rw [hb]; rfl), trivial⟩ (by decide) rfl
        · intro K
          rcases cond_some hcb52 with ⟨hb, hres⟩ | ⟨hb, hres⟩
          · refine JL.set (d := 126) (v := .bool true) (congrArg (fun b => some (Value.bool b)) hb) ?_
            refine JL.gskip rfl rfl rfl rfl ?_
            refine JL.gskip rfl rfl rfl rfl ?_
            refine JL.gskip rfl rfl rfl rfl ?_
            refine JL.gskip rfl rfl rfl rfl ?_
            refine JL.val (yl_pick_true rfl rfl) rfl ?_
            have he := Option.some.inj hres
            exact JL.weak [0, 1, 2, 4, 5, 6, 7, 8, 9] K ⟨rfl, rfl, rfl, rfl, rfl, rfl, rfl, rfl, rfl, rfl, rfl, rfl, rfl, rfl, rfl, rfl, rfl, (by rw [← he]; rfl), trivial⟩ (by decide) rfl
          · refine JL.set (d := 126) (v := .bool false) (congrArg (fun b => some (Value.bool b)) hb) ?_
            refine JL.gval rfl rfl (yl_move rfl) rfl ?_
            refine JL.gval rfl rfl (yl_move rfl) rfl ?_
            obtain ⟨x53, hx53, hres⟩ := bind_some hres
            refine JL.geff rfl rfl (ef_call (T := T75 x53) Go.Proofs.Try.func75 rfl (by kernel_rfl) rfl (fun w hC => c75 (rd_row hC 2 rfl) rfl (ln_row hC 2 rfl) (rd_row hC 3 rfl) rfl (ln_row hC 3 rfl) hx53)) rfl ?_
            rintro _ _ ⟨_, ⟨rfl, rfl⟩, rfl⟩
            refine JL.gval rfl rfl (yl_not rfl) rfl ?_
            refine JL.val (yl_pick_false rfl rfl) rfl ?_
            have he := Option.some.inj hres
            exact JL.weak [0, 1, 2, 4, 5, 6, 7, 8, 9] K ⟨rfl, rfl, rfl, rfl, rfl, rfl, rfl, rfl, rfl, rfl, rfl, rfl, rfl, rfl, rfl, rfl, rfl, (by rw [← he]; rfl), trivial⟩ (by decide) rfl
      · intro K
        rcases Bool.eq_false_or_eq_true (cb50) with hb | hb
        · refine JL.set (d := 121) (v := .bool true) (congrArg (fun b => some (Value.bool b)) hb) ?_
          refine JL.gskip rfl rfl rfl rfl ?_
          refine JL.gskip rfl rfl rfl rfl ?_
          refine JL.gskip rfl rfl rfl rfl ?_
          refine JL.val (yl_pick_true rfl rfl) rfl ?_
          exact JL.weak [0, 1, 2, 3, 4, 5, 6, 7, 8, 9] K ⟨rfl, rfl, rfl, rfl, rfl, rfl, rfl, rfl, rfl, rfl, rfl, rfl, rfl, rfl, rfl, rfl, rfl, rfl, (by rw [hb]; rfl), trivial⟩ (by decide) rfl
        · refine JL.set (d := 121) (v := .bool false) (congrArg (fun b => some (Value.bool b)) hb) ?_
          refine JL.gval rfl rfl (yl_move rfl) rfl ?_
          refine JL.gval rfl rfl (yl_move rfl) rfl ?_
          refine JL.gval rfl rfl (yl_neq rfl rfl) rfl ?_
          refine JL.val (yl_pick_false rfl rfl) rfl ?_
          exact JL.weak [0, 1, 2, 3, 4, 5, 6, 7, 8, 9] K ⟨rfl, rfl, rfl, rfl, rfl, rfl, rfl, rfl, rfl, rfl, rfl, rfl, rfl, rfl, rfl, rfl, rfl, rfl, (by rw [hb]; rfl), trivial⟩ (by decide) rfl
    · intro K
      rcases cond_some hcb50 with ⟨hb, hres⟩ | ⟨hb, hres⟩
      · refine JL.set (d := 115) (v := .bool true) (congrArg (fun b => some (Value.bool b)) hb) ?_
        refine JL.gskip rfl rfl rfl rfl ?_
        refine JL.gskip rfl rfl rfl rfl ?_
        refine JL.gskip rfl rfl rfl rfl ?_
        refine JL.gskip rfl rfl rfl rfl ?_
        refine JL.val (yl_pick_true rfl rfl) rfl ?_
        have he := Option.some.inj hres
        exact JL.weak [0, 1, 3, 4, 5, 6, 7, 8, 9, 10] K ⟨rfl, rfl, rfl, rfl, rfl, rfl, rfl, rfl, rfl, rfl, rfl, rfl, rfl, rfl, rfl, rfl, rfl, rfl, rfl, rfl, (by rw [← he]; rfl), trivial⟩ (by decide) rfl
      · refine JL.set (d := 115) (v := .bool false) (congrArg (fun b => some (Value.bool b)) hb) ?_
        refine JL.gval rfl rfl (yl_move rfl) rfl ?_
        refine JL.gval rfl rfl (yl_move rfl) rfl ?_
        obtain ⟨x51, hx51, hres⟩ := bind_some hres
        refine JL.geff rfl rfl (ef_call (T := T75 x51) Go.Proofs.Try.func75 rfl (by kernel_rfl) rfl (fun w hC => c75 (rd_row hC 1 rfl) rfl (ln_row hC 1 rfl) (rd_row hC 2 rfl) rfl (ln_row hC 2 rfl) hx51)) rfl ?_
        rintro _ _ ⟨_, ⟨rfl, rfl⟩, rfl⟩
        refine JL.gval rfl rfl (yl_not rfl) rfl ?_
        refine JL.val (yl_pick_false rfl rfl) rfl ?_
        have he := Option.some.inj hres
        exact JL.weak [0, 1, 3, 4, 5, 6, 7, 8, 9, 10] K ⟨rfl, rfl, rfl, rfl, rfl, rfl, rfl, rfl, rfl, rfl, rfl, rfl, rfl, rfl, rfl, rfl, rfl, rfl, rfl, rfl, (by rw [← he]; rfl), trivial⟩ (by decide) rfl

end Go.Sh
