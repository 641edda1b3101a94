/- Walks through functions that the law reaches, printed by program. -/
import Derived.Test.YtinipjijgggjkaaF11W0
set_option linter.unusedVariables false
set_option linter.unusedSimpArgs false
namespace Go.Sh
open Go Go.RowKit
/- spec.l00Put -/
def sh105_1 (q0 : List Int) (q1 : Int) : (Bool × Int × List Int) → Option ((Bool × Int × List Int) ⊕ (Bool × List Int))
  | (x5, x6, x7) => bif decide (x6 < (q0.length : Int)) then (Option.bind (bif !x5 then (Option.bind (getI q0 x6) fun x11 => some (decide (q1 ≤ x11))) else (some false)) fun cb10 => (Option.bind (bif cb10 then (Option.bind (getI q0 x6) fun x21 => Option.bind (bif decide (q1 < x21) then (Option.bind (appL x7 [q1]) fun x27 => some x27) else (some x7)) fun j22 => (some (true, j22))) else (some (x5, x7))) fun j12 => (Option.bind (getI q0 x6) fun x15 => Option.bind (appL j12.2 [x15]) fun x18 => some (.inl (j12.1, w64 (x6 + 1), x18))))) else (some (.inr (x5, x7)))
def sh105 (q0 : List Int) (q1 : Int) : Option (List Int) := Option.bind (iter (sh105_1 q0 q1) (false, 0, ([] : List Int))) fun b1 => (Option.bind (bif !b1.1 then (Option.bind (appL b1.2 [q1]) fun x37 => some x37) else (some b1.2)) fun j32 => (some j32))
def T105 (r : List Int) (v : Value) (rs : List Own) : Prop := ∃ (a0 : Option Addr) (n0 c0 : Nat), r.length = n0 ∧ v = rets [.slice a0 n0 c0] ∧ rs = [rowT 2 eI64 a0 n0 c0 r]
set_option maxRecDepth 100000 in
theorem c105 {w : World} {q0 : List Int} {a_0 : Option Addr} {n_0 c_0 : Nat} (g_0 : Rd w a_0 (eI64.fl q0)) (l_0 : q0.length = n_0) (k_0 : n_0 ≤ c_0) {q1 : Int} {r : List Int} (hres : sh105 q0 q1 = some r) : Calls Go.Proofs.Try.prog 105 [.slice a_0 n_0 c_0, .int .i64 q1].toArray w (Ret w (T105 r)) := by
  subst l_0
  unfold sh105 at hres
  refine calls_of (n := 49) (M := []) (es := []) Go.Proofs.Try.func105 rfl rfl rfl (Sep.nil _ _ _) ?_
  refine JX.seq ?_
  refine JX.region ?_
  refine JL.val (yl_assign rfl) rfl ?_
  refine JL.nil ?_
  refine JE.code ?_
  refine JX.seq ?_
  refine JX.region ?_
  refine JL.eff (ef_buildSlice (E := 2) (k := eI64.k) (us := eI64.fl ([] : List Int)) rfl (fun w => bsl22_0  w) rfl (by decide)) rfl ?_
  rintro _ _ ⟨a1, rfl, rfl⟩
  refine JL.val (yl_assign rfl) rfl ?_
  refine JL.nil ?_
  refine JE.code ?_
  refine JX.seq ?_
  refine JX.region ?_
  refine JL.val (yl_assign rfl) rfl ?_
  refine JL.nil ?_
  refine JE.code ?_
  refine JX.seq ?_
  refine JX.seq ?_
  refine JX.region ?_
  refine JL.val (yl_assign rfl) rfl ?_
  refine JL.nil ?_
  refine JE.code ?_
  refine JX.block ?_
  obtain ⟨y1, hy1, hresO1⟩ := bind_some hres
  refine JX.loop (I := fun (s1 : Bool × Int × List Int) aa ww => ∃ (a3 : Option Addr) (cp4 : Nat), St w [] 49 [(0, .slice a_0 q0.length c_0), (1, .int .i64 q1), (5, .slice a3 s1.2.2.length cp4), (6, .bool s1.1), (7, .int .i64 s1.2.1)] [rowT 2 eI64 a3 s1.2.2.length cp4 s1.2.2] aa ww) (sh105_1 q0 q1) hy1 (fun a w h => ⟨a1, 0, h.weak ⟨rfl, rfl, rfl, rfl, rfl, trivial⟩ [0] (by decide) rfl⟩) ?_
  rintro ⟨x5, x6, x7⟩ o1 hres hox1 aa ww ⟨a8, cp9, hS⟩
  refine (?_ : JX Go.Proofs.Try.prog w [] 49 _ _ [(0, .slice a_0 q0.length c_0), (1, .int .i64 q1), (5, .slice a8 x7.length cp9), (6, .bool x5), (7, .int .i64 x6)] [rowT 2 eI64 a8 x7.length cp9 x7] _) aa ww hS
  clear hS
  simp only [sh105_1] at hres
  refine JX.seq ?_
  refine JX.seq ?_
  refine JX.region ?_
  refine JL.val (yl_move rfl) rfl ?_
  refine JL.val (yl_move rfl) rfl ?_
  refine JL.val (yl_len_slice Go.Proofs.Try.underlying22 rfl) rfl ?_
  refine JL.val (yl_lss rfl rfl) rfl ?_
  refine JL.nil ?_
  refine JE.weak (env' := [(0, .slice a_0 q0.length c_0), (1, .int .i64 q1), (5, .slice a8 x7.length cp9), (6, .bool x5), (7, .int .i64 x6), (12, .bool (decide (x6 < (q0.length : Int))))]) (es' := [rowT 2 eI64 a8 x7.length cp9 x7]) [0] ?_ ⟨rfl, rfl, rfl, rfl, rfl, rfl, trivial⟩ (by decide) rfl
  refine JE.code ?_
  rcases cond_some hres with ⟨hb, hres⟩ | ⟨hb, hres⟩
  · refine JX.condT rfl hb ?_
    refine JX.skip ?_
    refine JE.code ?_
    refine JX.seq ?_
    refine JX.block ?_
    refine JX.seq ?_
    refine JX.seq ?_
    refine JX.region ?_
    refine JL.val (yl_move rfl) rfl ?_
    refine JL.val (yl_not rfl) rfl ?_
    refine JL.val (yl_move rfl) rfl ?_
    obtain ⟨cb10, hcb10, hres⟩ := bind_some hres
    refine JL.cut (K := fun J => J [(0, .slice a_0 q0.length c_0), (1, .int .i64 q1), (5, .slice a8 x7.length cp9), (6, .bool x5), (7, .int .i64 x6), (24, .bool cb10)] [rowT 2 eI64 a8 x7.length cp9 x7]) 7 ?_ ?_
    · refine JL.nil ?_
      refine JE.weak (env' := [(0, .slice a_0 q0.length c_0), (1, .int .i64 q1), (5, .slice a8 x7.length cp9), (6, .bool x5), (7, .int .i64 x6), (24, .bool cb10)]) (es' := [rowT 2 eI64 a8 x7.length cp9 x7]) [0] ?_ ⟨rfl, rfl, rfl, rfl, rfl, rfl, trivial⟩ (by decide) rfl
      refine JE.code ?_
      obtain ⟨j12, hj12, hresj12⟩ := bind_some hres
      refine JX.cut (K := fun J => ∀ (a13 : Option Addr) (cp14 : Nat), J [(0, .slice a_0 q0.length c_0), (1, .int .i64 q1), (5, .slice a13 j12.2.length cp14), (6, .bool j12.1), (7, .int .i64 x6)] [rowT 2 eI64 a13 j12.2.length cp14 j12.2]) ?_ ?_
      · intro a13 cp14
        have hres := hresj12
        refine JE.code ?_
        refine JX.region ?_
        refine JL.val (yl_move rfl) rfl ?_
        refine JL.val (yl_move rfl) rfl ?_
        refine JL.val (yl_move rfl) rfl ?_
        obtain ⟨x15, hx15, hres⟩ := bind_some hres
        refine JL.val (yl_idxT Go.Proofs.Try.underlying22 i2 i2s rfl rfl hx15 rfl (fun w hC => rd_arg g_0 hC)) rfl ?_
        refine JL.val (yl_loadT0 Go.Proofs.Try.underlying2 rfl rfl hx15 (fun w hC => rd_arg g_0 hC) rfl) rfl ?_
        refine JL.eff (ef_buildSlice (E := 2) (k := eI64.k) (us := eI64.fl [x15]) rfl (fun w => bsl22_1 x15 w) rfl (by decide)) rfl ?_
        rintro _ _ ⟨a16, rfl, rfl⟩
        obtain ⟨x18, hx18, hres⟩ := bind_some hres
        refine JL.eff (ef_appendT (ix := 0) Go.Proofs.Try.underlying22 i2 i2z i2s rfl i2b0 i2b1 rfl rfl rfl rfl rfl (fun w hC => rd_row hC 1 rfl) hx18) rfl ?_
        rintro _ _ ⟨a19, cp20, rfl, rfl⟩
        refine JL.val (yl_assign rfl) rfl ?_
        refine JL.nil ?_
        refine JE.weak (env' := [(0, .slice a_0 q0.length c_0), (1, .int .i64 q1), (5, .slice a19 x18.length cp20), (6, .bool j12.1), (7, .int .i64 x6)]) (es' := [rowT 2 eI64 a19 x18.length cp20 x18]) [0] ?_ ⟨rfl, rfl, rfl, rfl, rfl, trivial⟩ (by decide) rfl
        refine JE.code ?_
        refine JX.region ?_
        refine JL.val (yl_move rfl) rfl ?_
        refine JL.val (yl_add rfl rfl) rfl ?_
        refine JL.val (yl_assign rfl) rfl ?_
        refine JL.nil ?_
        refine JE.cont hres ?_
        exact fun a w h => ⟨a19, cp20, h.weak ⟨rfl, rfl, rfl, rfl, rfl, trivial⟩ [0] (by decide) rfl⟩
      · intro K
        rcases cond_some hj12 with ⟨hb, hres⟩ | ⟨hb, hres⟩
        · refine JX.condT rfl hb ?_
          refine JX.seq ?_
          refine JX.region ?_
          refine JL.val (yl_assign rfl) rfl ?_
          refine JL.nil ?_
          refine JE.code ?_
          refine JX.seq ?_
          refine JX.region ?_
          refine JL.val (yl_move rfl) rfl ?_
          refine JL.val (yl_move rfl) rfl ?_
          obtain ⟨x21, hx21, hres⟩ := bind_some hres
          refine JL.val (yl_idxT Go.Proofs.Try.underlying22 i2 i2s rfl rfl hx21 rfl (fun w hC => rd_arg g_0 hC)) rfl ?_
          refine JL.val (yl_loadT0 Go.Proofs.Try.underlying2 rfl rfl hx21 (fun w hC => rd_arg g_0 hC) rfl) rfl ?_
          refine JL.val (yl_move rfl) rfl ?_
          refine JL.val (yl_gtr rfl rfl) rfl ?_
          refine JL.nil ?_
          refine JE.weak (env' := [(0, .slice a_0 q0.length c_0), (1, .int .i64 q1), (5, .slice a8 x7.length cp9), (6, .bool true), (7, .int .i64 x6), (30, .bool (decide (q1 < x21)))]) (es' := [rowT 2 eI64 a8 x7.length cp9 x7]) [0] ?_ ⟨rfl, rfl, rfl, rfl, rfl, rfl, trivial⟩ (by decide) rfl
          refine JE.code ?_
          obtain ⟨j22, hj22, hresj22⟩ := bind_some hres
          refine JX.cut (K := fun J => ∀ (a23 : Option Addr) (cp24 : Nat), J [(0, .slice a_0 q0.length c_0), (1, .int .i64 q1), (5, .slice a23 j22.length cp24), (6, .bool true), (7, .int .i64 x6)] [rowT 2 eI64 a23 j22.length cp24 j22]) ?_ ?_
          · intro a23 cp24
            have hres := hresj22
            have hj := Option.some.inj hres
            exact JE.weak [0] (K a23 cp24) ⟨(by subst hj; rfl), (by subst hj; rfl), (by subst hj; rfl), (by subst hj; rfl), (by subst hj; rfl), trivial⟩ (by decide) (by subst hj; rfl)
          · intro K
            rcases cond_some hj22 with ⟨hb, hres⟩ | ⟨hb, hres⟩
            · refine JX.condT rfl hb ?_
              refine JX.region ?_
              refine JL.val (yl_move rfl) rfl ?_
              refine JL.val (yl_move rfl) rfl ?_
              refine JL.eff (ef_buildSlice (E := 2) (k := eI64.k) (us := eI64.fl [q1]) rfl (fun w => bsl22_1 q1 w) rfl (by decide)) rfl ?_
              rintro _ _ ⟨a25, rfl, rfl⟩
              obtain ⟨x27, hx27, hres⟩ := bind_some hres
              refine JL.eff (ef_appendT (ix := 0) Go.Proofs.Try.underlying22 i2 i2z i2s rfl i2b0 i2b1 rfl rfl rfl rfl rfl (fun w hC => rd_row hC 1 rfl) hx27) rfl ?_
              rintro _ _ ⟨a28, cp29, rfl, rfl⟩
              refine JL.val (yl_assign rfl) rfl ?_
              refine JL.nil ?_
              refine JE.weak (env' := [(0, .slice a_0 q0.length c_0), (1, .int .i64 q1), (5, .slice a28 x27.length cp29), (6, .bool true), (7, .int .i64 x6)]) (es' := [rowT 2 eI64 a28 x27.length cp29 x27]) [0] ?_ ⟨rfl, rfl, rfl, rfl, rfl, trivial⟩ (by decide) rfl
              have hj := Option.some.inj hres
              exact JE.weak [0] (K a28 cp29) ⟨(by subst hj; rfl), (by subst hj; rfl), (by subst hj; rfl), (by subst hj; rfl), (by subst hj; rfl), trivial⟩ (by decide) (by subst hj; rfl)
            · refine JX.condF rfl hb ?_
              refine JX.skip ?_
              have hj := Option.some.inj hres
              exact JE.weak [0] (K a8 cp9) ⟨(by subst hj; rfl), (by subst hj; rfl), (by subst hj; rfl), (by subst hj; rfl), (by subst hj; rfl), trivial⟩ (by decide) (by subst hj; rfl)
        · refine JX.condF rfl hb ?_
          refine JX.skip ?_
          have hj := Option.some.inj hres
          exact JE.weak [0] (K a8 cp9) ⟨(by subst hj; rfl), (by subst hj; rfl), (by subst hj; rfl), (by subst hj; rfl), (by subst hj; rfl), trivial⟩ (by decide) (by subst hj; rfl)
    · intro K
      rcases cond_some hcb10 with ⟨hb, hres⟩ | ⟨hb, hres⟩
      · refine JL.set (d := 17) (v := .bool true) (congrArg (fun b => some (Value.bool b)) hb) ?_
        refine JL.gval rfl rfl (yl_move rfl) rfl ?_
        refine JL.gval rfl rfl (yl_move rfl) rfl ?_
        obtain ⟨x11, hx11, hres⟩ := bind_some hres
        refine JL.gval rfl rfl (yl_idxT Go.Proofs.Try.underlying22 i2 i2s rfl rfl hx11 rfl (fun w hC => rd_arg g_0 hC)) rfl ?_
        refine JL.gval rfl rfl (yl_loadT0 Go.Proofs.Try.underlying2 rfl rfl hx11 (fun w hC => rd_arg g_0 hC) rfl) rfl ?_
        refine JL.gval rfl rfl (yl_move rfl) rfl ?_
        refine JL.gval rfl rfl (yl_geq rfl rfl) rfl ?_
        refine JL.val (yl_pick_true rfl rfl) rfl ?_
        have he := Option.some.inj hres
        exact JL.weak [0] K ⟨rfl, rfl, rfl, rfl, rfl, (by rw [← he]; rfl), trivial⟩ (by decide) rfl
      · refine JL.set (d := 17) (v := .bool false) (congrArg (fun b => some (Value.bool b)) hb) ?_
        refine JL.gskip rfl rfl rfl rfl ?_
        refine JL.gskip rfl rfl rfl rfl ?_
        refine JL.gskip rfl rfl rfl rfl ?_
        refine JL.gskip rfl rfl rfl rfl ?_
        refine JL.gskip rfl rfl rfl rfl ?_
        refine JL.gskip rfl rfl rfl rfl ?_
        refine JL.val (yl_pick_false rfl rfl) rfl ?_
        have he := Option.some.inj hres
        exact JL.weak [0] K ⟨rfl, rfl, rfl, rfl, rfl, (by rw [← he]; rfl), trivial⟩ (by decide) rfl
  · refine JX.condF rfl hb ?_
    refine JX.exit ?_
    refine JE.qb rfl ?_
    obtain ⟨b1, hb1⟩ : ∃ b : Bool × List Int, b = (x5, x7) := ⟨_, rfl⟩
    have hy1 : b1 = y1 := by rw [hb1]; exact hox1 _ (Option.some.inj hres).symm
    have hres := hresO1
    rw [← hy1] at hres
    refine JE.weak (env' := [(1, .int .i64 q1), (5, .slice a8 b1.2.length cp9), (6, .bool b1.1)]) (es' := [rowT 2 eI64 a8 b1.2.length cp9 b1.2]) [0] ?_ ⟨(by subst hb1; rfl), (by subst hb1; rfl), (by subst hb1; rfl), trivial⟩ (by decide) (by subst hb1; rfl)
    refine JE.code ?_
    refine JX.seq ?_
    refine JX.seq ?_
    refine JX.region ?_
    refine JL.val (yl_move rfl) rfl ?_
    refine JL.val (yl_not rfl) rfl ?_
    refine JL.nil ?_
    refine JE.code ?_
    obtain ⟨j32, hj32, hresj32⟩ := bind_some hres
    refine JX.cut (K := fun J => ∀ (a33 : Option Addr) (cp34 : Nat), J [(5, .slice a33 j32.length cp34)] [rowT 2 eI64 a33 j32.length cp34 j32]) ?_ ?_
    · intro a33 cp34
      have hres := hresj32
      refine JE.code ?_
      refine JX.seq ?_
      refine JX.region ?_
      refine JL.val (yl_move rfl) rfl ?_
      refine JL.val (yl_assign rfl) rfl ?_
      refine JL.nil ?_
      refine JE.code ?_
      refine JX.ret ?_
      obtain rfl := Option.some.inj hres
      refine JE.ret (rs := [.tmp 4]) (vs := [.slice a33 j32.length cp34]) rfl ⟨rfl, trivial⟩ ?_
      exact fun w' hb hs => ⟨_, _, ⟨a33, j32.length, cp34, rfl, rfl, rfl⟩, rfl, hb, hs.sel [0] _ (by decide) rfl⟩
    · intro K
      rcases cond_some hj32 with ⟨hb, hres⟩ | ⟨hb, hres⟩
      · refine JX.condT rfl hb ?_
        refine JX.region ?_
        refine JL.val (yl_move rfl) rfl ?_
        refine JL.val (yl_move rfl) rfl ?_
        refine JL.eff (ef_buildSlice (E := 2) (k := eI64.k) (us := eI64.fl [q1]) rfl (fun w => bsl22_1 q1 w) rfl (by decide)) rfl ?_
        rintro _ _ ⟨a35, rfl, rfl⟩
        obtain ⟨x37, hx37, hres⟩ := bind_some hres
        refine JL.eff (ef_appendT (ix := 0) Go.Proofs.Try.underlying22 i2 i2z i2s rfl i2b0 i2b1 rfl rfl rfl rfl rfl (fun w hC => rd_row hC 1 rfl) hx37) rfl ?_
        rintro _ _ ⟨a38, cp39, rfl, rfl⟩
        refine JL.val (yl_assign rfl) rfl ?_
        refine JL.nil ?_
        refine JE.weak (env' := [(5, .slice a38 x37.length cp39)]) (es' := [rowT 2 eI64 a38 x37.length cp39 x37]) [0] ?_ ⟨rfl, trivial⟩ (by decide) rfl
        have hj := Option.some.inj hres
        exact JE.weak [0] (K a38 cp39) ⟨(by subst hj; rfl), trivial⟩ (by decide) (by subst hj; rfl)
      · refine JX.condF rfl hb ?_
        refine JX.skip ?_
        have hj := Option.some.inj hres
        exact JE.weak [0] (K a8 cp9) ⟨(by subst hj; rfl), trivial⟩ (by decide) (by subst hj; rfl)

/- spec.RegionNeighbours -/
def sh43_2 (q0 : SPanel) (q1 : Int) (x3 : List (List SPoint) × List Int × Int) (x18 : Int) : (Int × List Int) → Option ((Int × List Int) ⊕ (List Int))
  | (x28, x29) => bif decide (x28 < 4) then (Option.bind (getI x3.1 q1) fun x33 => Option.bind (getI x33 x18) fun x37 => Option.bind (getI x3.1 q1) fun x38 => Option.bind (getI x38 x18) fun x42 => Option.bind (sh84 q0 (SPoint.mk (w64 ((w64 (x37.X + (w64 ((x28.tmod 2) * 2)))) - 1)) (w64 ((w64 (x42.Y + (w64 ((w64 (x28.tdiv 2)) * 2)))) - 1)))) fun x45 => Option.bind (bif x45 then (Option.bind (sh85 q0 (SPoint.mk (w64 ((w64 (x37.X + (w64 ((x28.tmod 2) * 2)))) - 1)) (w64 ((w64 (x42.Y + (w64 ((w64 (x28.tdiv 2)) * 2)))) - 1)))) fun x49 => Option.bind (getI x3.2.1 x49) fun x50 => Option.bind (sh105 x29 x50) fun x51 => some x51) else (some x29)) fun j46 => (some (.inl (w64 (x28 + 1), j46)))) else (some (.inr x29))
def sh43_1 (q0 : SPanel) (q1 : Int) (x3 : List (List SPoint) × List Int × Int) : (Int × List Int) → Option ((Int × List Int) ⊕ (List Int))
  | (x18, x19) => Option.bind (getI x3.1 q1) fun x22 => bif decide (x18 < (x22.length : Int)) then (Option.bind (iter (sh43_2 q0 q1 x3 x18) (0, x19)) fun b2 => (some (.inl (w64 (x18 + 1), b2)))) else (some (.inr x19))
def sh43 (q0 : SPanel) (q1 : Int) : Option (List Int × Int) := Option.bind (sh89 q0 q1) fun x3 => bif x3.2.2 != 0 then (some (([] : List Int), x3.2.2)) else (Option.bind (iter (sh43_1 q0 q1 x3) (0, ([] : List Int))) fun b1 => (some (b1, 0)))
def T43 (r : List Int × Int) (v : Value) (rs : List Own) : Prop := ∃ (a0 : Option Addr) (n0 c0 : Nat), r.1.length = n0 ∧ v = rets [.slice a0 n0 c0, .int .i64 r.2] ∧ rs = [rowT 2 eI64 a0 n0 c0 r.1]
set_option maxRecDepth 100000 in
theorem c43 {w : World} {q0 : SPanel} {a_0_2 : Option Addr} {n_0_2 c_0_2 : Nat} (g_0_2 : Rd w a_0_2 (eI64.fl q0.Breaks)) (l_0_2 : q0.Breaks.length = n_0_2) (k_0_2 : n_0_2 ≤ c_0_2) {q1 : Int} {r : List Int × Int} (hres : sh43 q0 q1 = some r) : Calls Go.Proofs.Try.prog 43 [.agg #[.int .i64 q0.W, .int .i64 q0.H, .slice a_0_2 n_0_2 c_0_2], .int .i64 q1].toArray w (Ret w (T43 r)) := by
  subst l_0_2
  unfold sh43 at hres
  refine calls_of (n := 73) (M := []) (es := []) Go.Proofs.Try.func43 rfl rfl rfl (Sep.nil _ _ _) ?_
  refine JX.seq ?_
  refine JX.region ?_
  refine JL.eff (ef_box rfl rfl) rfl ?_
  rintro _ _ ⟨g1, rfl, rfl⟩
  refine JL.val (yl_assign rfl) rfl ?_
  refine JL.val (yl_assign rfl) rfl ?_
  refine JL.nil ?_
  refine JE.code ?_
  refine JX.seq ?_
  refine JX.region ?_
  refine JL.val (yl_move rfl) rfl ?_
  obtain ⟨x3, hx3, hres⟩ := bind_some hres
  refine JL.eff (ef_call (T := T89 x3) Go.Proofs.Try.func89 rfl (by kernel_rfl) rfl (fun w hC => c89 (RdAt.of0 (rd_box hC 0 rfl)) (rd_arg g_0_2 hC) rfl k_0_2 hx3)) rfl ?_
  rintro _ _ ⟨_, ⟨a4, _, cp5, hs7, rfl, hi8, a10, _, cp11, rfl, rfl, rfl⟩, rfl⟩
  refine JL.val (yl_move rfl) rfl ?_
  refine JL.val (yl_extract rfl rfl) rfl ?_
  refine JL.val (yl_extract rfl rfl) rfl ?_
  refine JL.val (yl_extract rfl rfl) rfl ?_
  refine JL.val (yl_assign rfl) rfl ?_
  refine JL.val (yl_assign rfl) rfl ?_
  refine JL.val (yl_assign rfl) rfl ?_
  refine JL.nil ?_
  refine JE.weak (env' := [(1, .int .i64 q1), (2, ptrAt (some ⟨g1, 0, none⟩) 0), (6, .slice a4 x3.1.length cp5), (7, .slice a10 x3.2.1.length cp11), (8, .int .i64 x3.2.2)]) (es' := [boxO 28 g1 [.int .i64 q0.W, .int .i64 q0.H, .slice a_0_2 q0.Breaks.length c_0_2], rowT 61 eHd a4 x3.1.length cp5 hs7, innO 35 eSPoint none hs7 x3.1, rowT 2 eI64 a10 x3.2.1.length cp11 x3.2.1]) [0, 1, 2, 3] ?_ ⟨rfl, rfl, rfl, rfl, rfl, trivial⟩ (by decide) rfl
  refine JE.code ?_
  refine JX.seq ?_
  refine JX.seq ?_
  refine JX.region ?_
  refine JL.val (yl_move rfl) rfl ?_
  refine JL.val (yl_neq rfl rfl) rfl ?_
  refine JL.nil ?_
  refine JE.code ?_
  rcases cond_some hres with ⟨hb, hres⟩ | ⟨hb, hres⟩
  · refine JX.condT rfl hb ?_
    refine JX.seq ?_
    refine JX.region ?_
    refine JL.val (yl_move rfl) rfl ?_
    refine JL.val (yl_assign rfl) rfl ?_
    refine JL.val (yl_assign rfl) rfl ?_
    refine JL.nil ?_
    refine JE.weak (env' := [(4, .slice none 0 0), (5, .int .i64 x3.2.2)]) (es' := []) [] ?_ ⟨rfl, rfl, trivial⟩ (by decide) rfl
    refine JE.code ?_
    refine JX.ret ?_
    refine JE.nilrow 2 eI64 ?_
    obtain rfl := Option.some.inj hres
    refine JE.ret (rs := [.tmp 4, .tmp 5]) (vs := [.slice none 0 0, .int .i64 x3.2.2]) rfl ⟨rfl, rfl, trivial⟩ ?_
    exact fun w' hb hs => ⟨_, _, ⟨none, 0, 0, rfl, rfl, rfl⟩, rfl, hb, hs.sel [0] _ (by decide) rfl⟩
  · refine JX.condF rfl hb ?_
    refine JX.skip ?_
    refine JE.code ?_
    refine JX.seq ?_
    refine JX.region ?_
    refine JL.eff (ef_buildSlice (E := 2) (k := eI64.k) (us := eI64.fl ([] : List Int)) rfl (fun w => bsl22_0  w) rfl (by decide)) rfl ?_
    rintro _ _ ⟨a14, rfl, rfl⟩
    refine JL.val (yl_assign rfl) rfl ?_
    refine JL.nil ?_
    refine JE.code ?_
    refine JX.seq ?_
    refine JX.seq ?_
    refine JX.region ?_
    refine JL.val (yl_assign rfl) rfl ?_
    refine JL.nil ?_
    refine JE.code ?_
    refine JX.block ?_
    obtain ⟨y1, hy1, hresO1⟩ := bind_some hres
    refine JX.loop (I := fun (s1 : Int × List Int) aa ww => ∃ (a16 : Option Addr) (cp17 : Nat), St w [] 73 [(1, .int .i64 q1), (2, ptrAt (some ⟨g1, 0, none⟩) 0), (6, .slice a4 x3.1.length cp5), (7, .slice a10 x3.2.1.length cp11), (9, .slice a16 s1.2.length cp17), (10, .int .i64 s1.1)] [boxO 28 g1 [.int .i64 q0.W, .int .i64 q0.H, .slice a_0_2 q0.Breaks.length c_0_2], rowT 61 eHd a4 x3.1.length cp5 hs7, innO 35 eSPoint none hs7 x3.1, rowT 2 eI64 a10 x3.2.1.length cp11 x3.2.1, rowT 2 eI64 a16 s1.2.length cp17 s1.2] aa ww) (sh43_1 q0 q1 x3) hy1 (fun a w h => ⟨a14, 0, h.weak ⟨rfl, rfl, rfl, rfl, rfl, rfl, trivial⟩ [0, 1, 2, 3, 4] (by decide) rfl⟩) ?_
    rintro ⟨x18, x19⟩ o1 hres hox1 aa ww ⟨a20, cp21, hS⟩
    refine (?_ : JX Go.Proofs.Try.prog w [] 73 _ _ [(1, .int .i64 q1), (2, ptrAt (some ⟨g1, 0, none⟩) 0), (6, .slice a4 x3.1.length cp5), (7, .slice a10 x3.2.1.length cp11), (9, .slice a20 x19.length cp21), (10, .int .i64 x18)] [boxO 28 g1 [.int .i64 q0.W, .int .i64 q0.H, .slice a_0_2 q0.Breaks.length c_0_2], rowT 61 eHd a4 x3.1.length cp5 hs7, innO 35 eSPoint none hs7 x3.1, rowT 2 eI64 a10 x3.2.1.length cp11 x3.2.1, rowT 2 eI64 a20 x19.length cp21 x19] _) aa ww hS
    clear hS
    simp only [sh43_1] at hres
    refine JX.seq ?_
    refine JX.seq ?_
    refine JX.region ?_
    refine JL.val (yl_move rfl) rfl ?_
    refine JL.val (yl_move rfl) rfl ?_
    refine JL.val (yl_move rfl) rfl ?_
    obtain ⟨x22, hx22, hres⟩ := bind_some hres
    obtain ⟨ha23, hc24, hhx22⟩ := Inn.sub hi8 hx22
    refine JL.val (yl_idxT Go.Proofs.Try.underlying40 i61 i61s rfl rfl hhx22 (Inn.len hi8) (fun w hC => rd_row hC 1 rfl)) rfl ?_
    refine JL.val (yl_loadT0 (z := ⟨ha23, x22.length, hc24⟩) Go.Proofs.Try.underlying61 rfl rfl hhx22 (fun w hC => rd_row hC 1 rfl) rfl) rfl ?_
    refine JL.val (yl_len_slice Go.Proofs.Try.underlying61 rfl) rfl ?_
    refine JL.val (yl_lss rfl rfl) rfl ?_
    refine JL.nil ?_
    refine JE.weak (env' := [(1, .int .i64 q1), (2, ptrAt (some ⟨g1, 0, none⟩) 0), (6, .slice a4 x3.1.length cp5), (7, .slice a10 x3.2.1.length cp11), (9, .slice a20 x19.length cp21), (10, .int .i64 x18), (29, .bool (decide (x18 < (x22.length : Int))))]) (es' := [boxO 28 g1 [.int .i64 q0.W, .int .i64 q0.H, .slice a_0_2 q0.Breaks.length c_0_2], rowT 61 eHd a4 x3.1.length cp5 hs7, innO 35 eSPoint none hs7 x3.1, rowT 2 eI64 a10 x3.2.1.length cp11 x3.2.1, rowT 2 eI64 a20 x19.length cp21 x19]) [0, 1, 2, 3, 4] ?_ ⟨rfl, rfl, rfl, rfl, rfl, rfl, rfl, trivial⟩ (by decide) rfl
    refine JE.code ?_
    rcases cond_some hres with ⟨hb, hres⟩ | ⟨hb, hres⟩
    · refine JX.condT rfl hb ?_
      refine JX.skip ?_
      refine JE.code ?_
      refine JX.seq ?_
      refine JX.block ?_
      refine JX.seq ?_
      refine JX.region ?_
      refine JL.val (yl_assign rfl) rfl ?_
      refine JL.nil ?_
      refine JE.code ?_
      refine JX.block ?_
      obtain ⟨y2, hy2, hresO2⟩ := bind_some hres
      refine JX.loop (I := fun (s2 : Int × List Int) aa ww => ∃ (a26 : Option Addr) (cp27 : Nat), St w [] 73 [(1, .int .i64 q1), (2, ptrAt (some ⟨g1, 0, none⟩) 0), (6, .slice a4 x3.1.length cp5), (7, .slice a10 x3.2.1.length cp11), (9, .slice a26 s2.2.length cp27), (10, .int .i64 x18), (11, .int .i64 s2.1)] [boxO 28 g1 [.int .i64 q0.W, .int .i64 q0.H, .slice a_0_2 q0.Breaks.length c_0_2], rowT 61 eHd a4 x3.1.length cp5 hs7, innO 35 eSPoint none hs7 x3.1, rowT 2 eI64 a10 x3.2.1.length cp11 x3.2.1, rowT 2 eI64 a26 s2.2.length cp27 s2.2] aa ww) (sh43_2 q0 q1 x3 x18) hy2 (fun a w h => ⟨a20, cp21, h.weak ⟨rfl, rfl, rfl, rfl, rfl, rfl, rfl, trivial⟩ [0, 1, 2, 3, 4] (by decide) rfl⟩) ?_
      rintro ⟨x28, x29⟩ o2 hres hox2 aa ww ⟨a30, cp31, hS⟩
      refine (?_ : JX Go.Proofs.Try.prog w [] 73 _ _ [(1, .int .i64 q1), (2, ptrAt (some ⟨g1, 0, none⟩) 0), (6, .slice a4 x3.1.length cp5), (7, .slice a10 x3.2.1.length cp11), (9, .slice a30 x29.length cp31), (10, .int .i64 x18), (11, .int .i64 x28)] [boxO 28 g1 [.int .i64 q0.W, .int .i64 q0.H, .slice a_0_2 q0.Breaks.length c_0_2], rowT 61 eHd a4 x3.1.length cp5 hs7, innO 35 eSPoint none hs7 x3.1, rowT 2 eI64 a10 x3.2.1.length cp11 x3.2.1, rowT 2 eI64 a30 x29.length cp31 x29] _) aa ww hS
      clear hS
      simp only [sh43_2] at hres
      refine JX.seq ?_
      refine JX.seq ?_
      refine JX.region ?_
      refine JL.val (yl_move rfl) rfl ?_
      refine JL.val (yl_lss rfl rfl) rfl ?_
      refine JL.nil ?_
      refine JE.code ?_
      rcases cond_some hres with ⟨hb, hres⟩ | ⟨hb, hres⟩
      · refine JX.condT rfl hb ?_
        refine JX.skip ?_
        refine JE.code ?_
        refine JX.seq ?_
        refine JX.block ?_
        refine JX.seq ?_
        refine JX.drawH [(0, .pure), (1, .pure), (2, .pure), (3, .read), (4, .pure), (5, .pure), (6, .pure), (7, .read), (8, .pure), (9, .pure), (10, .pure), (11, .pure), (12, .pure), (13, .pure), (14, .pure), (15, .pure), (16, .read), (17, .pure), (18, .pure), (19, .pure), (20, .read), (21, .pure), (22, .pure), (23, .pure), (24, .pure), (25, .pure), (26, .pure), (27, .must), (28, .must)] [28] [] [0, 1, 2, 3, 4] [] [boxO 28 g1 [.int .i64 q0.W, .int .i64 q0.H, .slice a_0_2 q0.Breaks.length c_0_2], rowT 61 eHd a4 x3.1.length cp5 hs7, innO 35 eSPoint none hs7 x3.1, rowT 2 eI64 a10 x3.2.1.length cp11 x3.2.1, rowT 2 eI64 a30 x29.length cp31 x29] mixedP (by kernel_rfl) (by kernel_rfl) (by decide) rfl rfl ?_
        intro wrr32 Nr32 hFr32
        refine JH.pure rfl (yl_move rfl) rfl ?_
        refine JH.pure rfl (yl_move rfl) rfl ?_
        obtain ⟨x33, hx33, hres⟩ := bind_some hres
        obtain ⟨ha34, hc35, hhx33⟩ := Inn.sub hi8 hx33
        refine JH.pure rfl (yl_idxQ Go.Proofs.Try.underlying40 i61 i61s rfl rfl hhx33 (Inn.len hi8) (rd_row hFr32.cl 1 rfl) (Inn.len hi8)) rfl ?_
        refine JH.read rfl (yl_loadT0 (z := ⟨ha34, x33.length, hc35⟩) Go.Proofs.Try.underlying61 rfl rfl hhx33 (fun w hw => hFr32.row 1 rfl rfl hw) rfl) rfl ?_
        refine JH.pure rfl (yl_move rfl) rfl ?_
        obtain ⟨x37, hx37, hres⟩ := bind_some hres
        refine JH.pure rfl (yl_idxQ Go.Proofs.Try.underlying61 i35 i35s rfl rfl hx37 rfl (RdI.sub (rd_inn hFr32.cl 2 rfl) hx33 hhx33) rfl) rfl ?_
        refine JH.pure rfl (yl_fieldAt Go.Proofs.Try.underlying35 rfl i2 i2n rfl (RdT.someQ (RdI.sub (rd_inn hFr32.cl 2 rfl) hx33 hhx33) hx37 rfl rfl)) rfl ?_
        refine JH.read rfl (yl_loadT1 Go.Proofs.Try.underlying2 rfl rfl hx37 (fun w hw => RdI.sub (hFr32.inn 2 rfl rfl hw) hx33 hhx33) rfl) rfl ?_
        refine JH.pure rfl (yl_move rfl) rfl ?_
        refine JH.pure rfl (yl_rem rfl rfl (by decide)) rfl ?_
        refine JH.pure rfl (yl_mul rfl rfl) rfl ?_
        refine JH.pure rfl (yl_add rfl rfl) rfl ?_
        refine JH.pure rfl (yl_sub rfl rfl) rfl ?_
        refine JH.pure rfl (yl_move rfl) rfl ?_
        refine JH.pure rfl (yl_move rfl) rfl ?_
        obtain ⟨x38, hx38, hres⟩ := bind_some hres
        obtain ⟨ha39, hc40, hhx38⟩ := Inn.sub hi8 hx38
        refine JH.pure rfl (yl_idxQ Go.Proofs.Try.underlying40 i61 i61s rfl rfl hhx38 (Inn.len hi8) (rd_row hFr32.cl 1 rfl) (Inn.len hi8)) rfl ?_
        refine JH.read rfl (yl_loadT0 (z := ⟨ha39, x38.length, hc40⟩) Go.Proofs.Try.underlying61 rfl rfl hhx38 (fun w hw => hFr32.row 1 rfl rfl hw) rfl) rfl ?_
        refine JH.pure rfl (yl_move rfl) rfl ?_
        obtain ⟨x42, hx42, hres⟩ := bind_some hres
        refine JH.pure rfl (yl_idxQ Go.Proofs.Try.underlying61 i35 i35s rfl rfl hx42 rfl (RdI.sub (rd_inn hFr32.cl 2 rfl) hx38 hhx38) rfl) rfl ?_
        refine JH.pure rfl (yl_fieldAt Go.Proofs.Try.underlying35 rfl i2 i2n rfl (RdT.someQ (RdI.sub (rd_inn hFr32.cl 2 rfl) hx38 hhx38) hx42 rfl rfl)) rfl ?_
        refine JH.read rfl (yl_loadT1 Go.Proofs.Try.underlying2 rfl rfl hx42 (fun w hw => RdI.sub (hFr32.inn 2 rfl rfl hw) hx38 hhx38) rfl) rfl ?_
        refine JH.pure rfl (yl_move rfl) rfl ?_
        refine JH.pure rfl (yl_quo rfl rfl (by decide)) rfl ?_
        refine JH.pure rfl (yl_mul rfl rfl) rfl ?_
        refine JH.pure rfl (yl_add rfl rfl) rfl ?_
        refine JH.pure rfl (yl_sub rfl rfl) rfl ?_
        refine JH.pure rfl (yl_build rfl (fun w => bld35_0_1 (w64 ((w64 (x37.X + (w64 ((x28.tmod 2) * 2)))) - 1)) (w64 ((w64 (x42.Y + (w64 ((w64 (x28.tdiv 2)) * 2)))) - 1)) w)) rfl ?_
        refine JH.must rfl (ef_alloc i35 i35z rfl) rfl rfl ?_
        rintro _ _ ⟨g43, rfl, rfl⟩
        refine JH.must rfl (ef_store_box (i := 0) (v := .agg #[.int .i64 (w64 ((w64 (x37.X + (w64 ((x28.tmod 2) * 2)))) - 1)), .int .i64 (w64 ((w64 (x42.Y + (w64 ((w64 (x28.tdiv 2)) * 2)))) - 1))]) i35 rfl rfl rfl (i35s).symm (Nat.le_of_ble_eq_true rfl) (by simp [Value.cells, Value.oneCell'])) rfl rfl ?_
        rintro _ _ rfl
        refine JH.nil ?_
        refine JE.weak (env' := [(1, .int .i64 q1), (2, ptrAt (some ⟨g1, 0, none⟩) 0), (6, .slice a4 x3.1.length cp5), (7, .slice a10 x3.2.1.length cp11), (9, .slice a30 x29.length cp31), (10, .int .i64 x18), (11, .int .i64 x28), (12, ptrAt (some ⟨g43, 0, none⟩) 0)]) (es' := [boxO 28 g1 [.int .i64 q0.W, .int .i64 q0.H, .slice a_0_2 q0.Breaks.length c_0_2], rowT 61 eHd a4 x3.1.length cp5 hs7, innO 35 eSPoint none hs7 x3.1, rowT 2 eI64 a10 x3.2.1.length cp11 x3.2.1, rowT 2 eI64 a30 x29.length cp31 x29, boxO 35 g43 [.int .i64 (w64 ((w64 (x37.X + (w64 ((x28.tmod 2) * 2)))) - 1)), .int .i64 (w64 ((w64 (x42.Y + (w64 ((w64 (x28.tdiv 2)) * 2)))) - 1))]]) [0, 1, 2, 3, 4, 5] ?_ ⟨rfl, rfl, rfl, rfl, rfl, rfl, rfl, rfl, trivial⟩ (by decide) rfl
        refine JE.code ?_
        refine JX.seq ?_
        refine JX.region ?_
        refine JL.val (yl_loadn Go.Proofs.Try.underlying35 rfl i35 rfl (fun w hC => rd_box hC 5 rfl) rfl (i35s).symm i35p) rfl ?_
        obtain ⟨x45, hx45, hres⟩ := bind_some hres
        refine JL.eff (ef_call (vs := [ptrAt (some ⟨g1, 0, none⟩) 0, .agg #[.int .i64 (w64 ((w64 (x37.X + (w64 ((x28.tmod 2) * 2)))) - 1)), .int .i64 (w64 ((w64 (x42.Y + (w64 ((w64 (x28.tdiv 2)) * 2)))) - 1))]]) (T := T84 x45) Go.Proofs.Try.func84 rfl (by kernel_rfl) rfl (fun w hC => c84 (q1 := SPoint.mk (w64 ((w64 (x37.X + (w64 ((x28.tmod 2) * 2)))) - 1)) (w64 ((w64 (x42.Y + (w64 ((w64 (x28.tdiv 2)) * 2)))) - 1))) (RdAt.of0 (rd_box hC 0 rfl)) (rd_arg g_0_2 hC) rfl k_0_2 hx45)) rfl ?_
        rintro _ _ ⟨_, ⟨rfl, rfl⟩, rfl⟩
        refine JL.nil ?_
        refine JE.code ?_
        obtain ⟨j46, hj46, hresj46⟩ := bind_some hres
        refine JX.cut (K := fun J => ∀ (a47 : Option Addr) (cp48 : Nat), J [(1, .int .i64 q1), (2, ptrAt (some ⟨g1, 0, none⟩) 0), (6, .slice a4 x3.1.length cp5), (7, .slice a10 x3.2.1.length cp11), (9, .slice a47 j46.length cp48), (10, .int .i64 x18), (11, .int .i64 x28)] [boxO 28 g1 [.int .i64 q0.W, .int .i64 q0.H, .slice a_0_2 q0.Breaks.length c_0_2], rowT 61 eHd a4 x3.1.length cp5 hs7, innO 35 eSPoint none hs7 x3.1, rowT 2 eI64 a10 x3.2.1.length cp11 x3.2.1, rowT 2 eI64 a47 j46.length cp48 j46]) ?_ ?_
        · intro a47 cp48
          have hres := hresj46
          refine JE.code ?_
          refine JX.region ?_
          refine JL.val (yl_move rfl) rfl ?_
          refine JL.val (yl_add rfl rfl) rfl ?_
          refine JL.val (yl_assign rfl) rfl ?_
          refine JL.nil ?_
          refine JE.cont hres ?_
          exact fun a w h => ⟨a47, cp48, h.weak ⟨rfl, rfl, rfl, rfl, rfl, rfl, rfl, trivial⟩ [0, 1, 2, 3, 4] (by decide) rfl⟩
        · intro K
          rcases cond_some hj46 with ⟨hb, hres⟩ | ⟨hb, hres⟩
          · refine JX.condT rfl hb ?_
            refine JX.region ?_
            refine JL.val (yl_move rfl) rfl ?_
            refine JL.val (yl_move rfl) rfl ?_
            refine JL.val (yl_loadn Go.Proofs.Try.underlying35 rfl i35 rfl (fun w hC => rd_box hC 5 rfl) rfl (i35s).symm i35p) rfl ?_
            obtain ⟨x49, hx49, hres⟩ := bind_some hres
            refine JL.eff (ef_call (vs := [ptrAt (some ⟨g1, 0, none⟩) 0, .agg #[.int .i64 (w64 ((w64 (x37.X + (w64 ((x28.tmod 2) * 2)))) - 1)), .int .i64 (w64 ((w64 (x42.Y + (w64 ((w64 (x28.tdiv 2)) * 2)))) - 1))]]) (T := T85 x49) Go.Proofs.Try.func85 rfl (by kernel_rfl) rfl (fun w hC => c85 (q1 := SPoint.mk (w64 ((w64 (x37.X + (w64 ((x28.tmod 2) * 2)))) - 1)) (w64 ((w64 (x42.Y + (w64 ((w64 (x28.tdiv 2)) * 2)))) - 1))) (RdAt.of0 (rd_box hC 0 rfl)) (rd_arg g_0_2 hC) rfl k_0_2 hx49)) rfl ?_
            rintro _ _ ⟨_, ⟨rfl, rfl⟩, rfl⟩
            obtain ⟨x50, hx50, hres⟩ := bind_some hres
            refine JL.val (yl_idxT Go.Proofs.Try.underlying22 i2 i2s rfl rfl hx50 rfl (fun w hC => rd_row hC 3 rfl)) rfl ?_
            refine JL.val (yl_loadT0 Go.Proofs.Try.underlying2 rfl rfl hx50 (fun w hC => rd_row hC 3 rfl) rfl) rfl ?_
            obtain ⟨x51, hx51, hres⟩ := bind_some hres
            refine JL.eff (ef_call (T := T105 x51) Go.Proofs.Try.func105 rfl (by kernel_rfl) rfl (fun w hC => c105 (rd_row hC 4 rfl) rfl (ln_row hC 4 rfl) hx51)) rfl ?_
            rintro _ _ ⟨_, ⟨a52, _, cp53, rfl, rfl, rfl⟩, rfl⟩
            refine JL.val (yl_assign rfl) rfl ?_
            refine JL.nil ?_
            refine JE.weak (env' := [(1, .int .i64 q1), (2, ptrAt (some ⟨g1, 0, none⟩) 0), (6, .slice a4 x3.1.length cp5), (7, .slice a10 x3.2.1.length cp11), (9, .slice a52 x51.length cp53), (10, .int .i64 x18), (11, .int .i64 x28)]) (es' := [boxO 28 g1 [.int .i64 q0.W, .int .i64 q0.H, .slice a_0_2 q0.Breaks.length c_0_2], rowT 61 eHd a4 x3.1.length cp5 hs7, innO 35 eSPoint none hs7 x3.1, rowT 2 eI64 a10 x3.2.1.length cp11 x3.2.1, rowT 2 eI64 a52 x51.length cp53 x51]) [0, 1, 2, 3, 6] ?_ ⟨rfl, rfl, rfl, rfl, rfl, rfl, rfl, trivial⟩ (by decide) rfl
            have hj := Option.some.inj hres
            exact JE.weak [0, 1, 2, 3, 4] (K a52 cp53) ⟨(by subst hj; rfl), (by subst hj; rfl), (by subst hj; rfl), (by subst hj; rfl), (by subst hj; rfl), (by subst hj; rfl), (by subst hj; rfl), trivial⟩ (by decide) (by subst hj; rfl)
          · refine JX.condF rfl hb ?_
            refine JX.skip ?_
            have hj := Option.some.inj hres
            exact JE.weak [0, 1, 2, 3, 4] (K a30 cp31) ⟨(by subst hj; rfl), (by subst hj; rfl), (by subst hj; rfl), (by subst hj; rfl), (by subst hj; rfl), (by subst hj; rfl), (by subst hj; rfl), trivial⟩ (by decide) (by subst hj; rfl)
      · refine JX.condF rfl hb ?_
        refine JX.exit ?_
        refine JE.qb rfl ?_
        obtain ⟨b2, hb2⟩ : ∃ b : List Int, b = x29 := ⟨_, rfl⟩
        have hy2 : b2 = y2 := by rw [hb2]; exact hox2 _ (Option.some.inj hres).symm
        have hres := hresO2
        rw [← hy2] at hres
        refine JE.weak (env' := [(1, .int .i64 q1), (2, ptrAt (some ⟨g1, 0, none⟩) 0), (6, .slice a4 x3.1.length cp5), (7, .slice a10 x3.2.1.length cp11), (9, .slice a30 b2.length cp31), (10, .int .i64 x18)]) (es' := [boxO 28 g1 [.int .i64 q0.W, .int .i64 q0.H, .slice a_0_2 q0.Breaks.length c_0_2], rowT 61 eHd a4 x3.1.length cp5 hs7, innO 35 eSPoint none hs7 x3.1, rowT 2 eI64 a10 x3.2.1.length cp11 x3.2.1, rowT 2 eI64 a30 b2.length cp31 b2]) [0, 1, 2, 3, 4] ?_ ⟨(by subst hb2; rfl), (by subst hb2; rfl), (by subst hb2; rfl), (by subst hb2; rfl), (by subst hb2; rfl), (by subst hb2; rfl), trivial⟩ (by decide) (by subst hb2; rfl)
        refine JE.code ?_
        refine JX.region ?_
        refine JL.val (yl_move rfl) rfl ?_
        refine JL.val (yl_add rfl rfl) rfl ?_
        refine JL.val (yl_assign rfl) rfl ?_
        refine JL.nil ?_
        refine JE.cont hres ?_
        exact fun a w h => ⟨a30, cp31, h.weak ⟨rfl, rfl, rfl, rfl, rfl, rfl, trivial⟩ [0, 1, 2, 3, 4] (by decide) rfl⟩
    · refine JX.condF rfl hb ?_
      refine JX.exit ?_
      refine JE.qb rfl ?_
      obtain ⟨b1, hb1⟩ : ∃ b : List Int, b = x19 := ⟨_, rfl⟩
      have hy1 : b1 = y1 := by rw [hb1]; exact hox1 _ (Option.some.inj hres).symm
      have hres := hresO1
      rw [← hy1] at hres
      refine JE.weak (env' := [(9, .slice a20 b1.length cp21)]) (es' := [rowT 2 eI64 a20 b1.length cp21 b1]) [4] ?_ ⟨(by subst hb1; rfl), trivial⟩ (by decide) (by subst hb1; rfl)
      refine JE.code ?_
      refine JX.seq ?_
      refine JX.region ?_
      refine JL.val (yl_move rfl) rfl ?_
      refine JL.val (yl_assign rfl) rfl ?_
      refine JL.val (yl_assign rfl) rfl ?_
      refine JL.nil ?_
      refine JE.code ?_
      refine JX.ret ?_
      obtain rfl := Option.some.inj hres
      refine JE.ret (rs := [.tmp 4, .tmp 5]) (vs := [.slice a20 b1.length cp21, .int .i64 0]) rfl ⟨rfl, rfl, trivial⟩ ?_
      exact fun w' hb hs => ⟨_, _, ⟨a20, b1.length, cp21, rfl, rfl, rfl⟩, rfl, hb, hs.sel [0] _ (by decide) rfl⟩

/- impl.inRange -/
def sh125 (q0 : Int) (q1 : Int) (q2 : Int) : Option (Bool) := some ((decide (q1 ≤ q0)) && (decide (q0 ≤ q2)))
def T125 (r : Bool) (v : Value) (rs : List Own) : Prop := v = rets [.bool r] ∧ rs = []
set_option maxRecDepth 100000 in
theorem c125 {w : World} {q0 : Int} {q1 : Int} {q2 : Int} {r : Bool} (hres : sh125 q0 q1 q2 = some r) : Calls Go.Proofs.Try.prog 125 [.int .i64 q0, .int .i64 q1, .int .i64 q2].toArray w (Ret w (T125 r)) := by
  unfold sh125 at hres
  refine calls_of (n := 15) (M := []) (es := []) Go.Proofs.Try.func125 rfl rfl rfl (Sep.nil _ _ _) ?_
  refine JX.seq ?_
  refine JX.region ?_
  refine JL.val (yl_assign rfl) rfl ?_
  refine JL.nil ?_
  refine JE.code ?_
  refine JX.seq ?_
  refine JX.region ?_
  refine JL.val (yl_move rfl) rfl ?_
  refine JL.val (yl_move rfl) rfl ?_
  refine JL.val (yl_geq rfl rfl) rfl ?_
  refine JL.val (yl_move rfl) rfl ?_
  refine JL.cut (K := fun J => J [(14, .bool ((decide (q1 ≤ q0)) && (decide (q0 ≤ q2))))] []) 4 ?_ ?_
  · refine JL.val (yl_assign rfl) rfl ?_
    refine JL.nil ?_
    refine JE.weak (env' := [(6, .bool ((decide (q1 ≤ q0)) && (decide (q0 ≤ q2))))]) (es' := []) [] ?_ ⟨rfl, trivial⟩ (by decide) rfl
    refine JE.code ?_
    refine JX.ret ?_
    obtain rfl := Option.some.inj hres
    refine JE.ret (rs := [.tmp 6]) (vs := [.bool ((decide (q1 ≤ q0)) && (decide (q0 ≤ q2)))]) rfl ⟨rfl, trivial⟩ ?_
    exact fun w' hb hs => ⟨_, _, ⟨rfl, rfl⟩, rfl, hb, hs.sel [] _ (by decide) rfl⟩
  · intro K
    rcases Bool.eq_false_or_eq_true (decide (q1 ≤ q0)) with hb | hb
    · refine JL.set (d := 10) (v := .bool true) (congrArg (fun b => some (Value.bool b)) hb) ?_
      refine JL.gval rfl rfl (yl_move rfl) rfl ?_
      refine JL.gval rfl rfl (yl_move rfl) rfl ?_
      refine JL.gval rfl rfl (yl_leq rfl rfl) rfl ?_
      refine JL.val (yl_pick_true rfl rfl) rfl ?_
      exact JL.weak [] K ⟨(by rw [hb]; rfl), trivial⟩ (by decide) rfl
    · refine JL.set (d := 10) (v := .bool false) (congrArg (fun b => some (Value.bool b)) hb) ?_
      refine JL.gskip rfl rfl rfl rfl ?_
      refine JL.gskip rfl rfl rfl rfl ?_
      refine JL.gskip rfl rfl rfl rfl ?_
      refine JL.val (yl_pick_false rfl rfl) rfl ?_
      exact JL.weak [] K ⟨(by rw [hb]; rfl), trivial⟩ (by decide) rfl

/- impl.validSize -/
def sh146 (q0 : Int) (q1 : Int) : Option (Bool) := Option.bind (sh125 q0 1 8) fun x1 => Option.bind (bif x1 then (Option.bind (sh125 q1 1 8) fun x3 => some x3) else (some false)) fun cb2 => (some cb2)
def T146 (r : Bool) (v : Value) (rs : List Own) : Prop := v = rets [.bool r] ∧ rs = []
set_option maxRecDepth 100000 in
theorem c146 {w : World} {q0 : Int} {q1 : Int} {r : Bool} (hres : sh146 q0 q1 = some r) : Calls Go.Proofs.Try.prog 146 [.int .i64 q0, .int .i64 q1].toArray w (Ret w (T146 r)) := by
  unfold sh146 at hres
  refine calls_of (n := 11) (M := []) (es := []) Go.Proofs.Try.func146 rfl rfl rfl (Sep.nil _ _ _) ?_
  refine JX.seq ?_
  refine JX.region ?_
  refine JL.val (yl_assign rfl) rfl ?_
  refine JL.nil ?_
  refine JE.code ?_
  refine JX.seq ?_
  refine JX.region ?_
  refine JL.val (yl_move rfl) rfl ?_
  obtain ⟨x1, hx1, hres⟩ := bind_some hres
  refine JL.eff (ef_call (T := T125 x1) Go.Proofs.Try.func125 rfl (by kernel_rfl) rfl (fun w hC => c125  hx1)) rfl ?_
  rintro _ _ ⟨_, ⟨rfl, rfl⟩, rfl⟩
  refine JL.val (yl_move rfl) rfl ?_
  obtain ⟨cb2, hcb2, hres⟩ := bind_some hres
  refine JL.cut (K := fun J => J [(10, .bool cb2)] []) 3 ?_ ?_
  · refine JL.val (yl_assign rfl) rfl ?_
    refine JL.nil ?_
    refine JE.weak (env' := [(4, .bool cb2)]) (es' := []) [] ?_ ⟨rfl, trivial⟩ (by decide) rfl
    refine JE.code ?_
    refine JX.ret ?_
    obtain rfl := Option.some.inj hres
    refine JE.ret (rs := [.tmp 4]) (vs := [.bool cb2]) rfl ⟨rfl, trivial⟩ ?_
    exact fun w' hb hs => ⟨_, _, ⟨rfl, rfl⟩, rfl, hb, hs.sel [] _ (by decide) rfl⟩
  · intro K
    rcases cond_some hcb2 with ⟨hb, hres⟩ | ⟨hb, hres⟩
    · refine JL.set (d := 7) (v := .bool true) (congrArg (fun b => some (Value.bool b)) hb) ?_
      refine JL.gval rfl rfl (yl_move rfl) rfl ?_
      obtain ⟨x3, hx3, hres⟩ := bind_some hres
      refine JL.geff rfl rfl (ef_call (T := T125 x3) Go.Proofs.Try.func125 rfl (by kernel_rfl) rfl (fun w hC => c125  hx3)) rfl ?_
      rintro _ _ ⟨_, ⟨rfl, rfl⟩, rfl⟩
      refine JL.val (yl_pick_true rfl rfl) rfl ?_
      have he := Option.some.inj hres
      exact JL.weak [] K ⟨(by rw [← he]; rfl), trivial⟩ (by decide) rfl
    · refine JL.set (d := 7) (v := .bool false) (congrArg (fun b => some (Value.bool b)) hb) ?_
      refine JL.gskip rfl rfl rfl rfl ?_
      refine JL.gskip rfl rfl rfl rfl ?_
      refine JL.val (yl_pick_false rfl rfl) rfl ?_
      have he := Option.some.inj hres
      exact JL.weak [] K ⟨(by rw [← he]; rfl), trivial⟩ (by decide) rfl

/- impl.innerPoints -/
def sh147 (q0 : Int) (q1 : Int) : Option (Int) := some (w64 ((w64 (q0 * (w64 (q1 - 1)))) + (w64 (q1 * (w64 (q0 - 1))))))
def T147 (r : Int) (v : Value) (rs : List Own) : Prop := v = rets [.int .i64 r] ∧ rs = []
set_option maxRecDepth 100000 in
theorem c147 {w : World} {q0 : Int} {q1 : Int} {r : Int} (hres : sh147 q0 q1 = some r) : Calls Go.Proofs.Try.prog 147 [.int .i64 q0, .int .i64 q1].toArray w (Ret w (T147 r)) := by
  unfold sh147 at hres
  refine calls_of (n := 14) (M := []) (es := []) Go.Proofs.Try.func147 rfl rfl rfl (Sep.nil _ _ _) ?_
  refine JX.seq ?_
  refine JX.region ?_
  refine JL.val (yl_assign rfl) rfl ?_
  refine JL.nil ?_
  refine JE.code ?_
  refine JX.seq ?_
  refine JX.region ?_
  refine JL.val (yl_move rfl) rfl ?_
  refine JL.val (yl_move rfl) rfl ?_
  refine JL.val (yl_sub rfl rfl) rfl ?_
  refine JL.val (yl_mul rfl rfl) rfl ?_
  refine JL.val (yl_move rfl) rfl ?_
  refine JL.val (yl_move rfl) rfl ?_
  refine JL.val (yl_sub rfl rfl) rfl ?_
  refine JL.val (yl_mul rfl rfl) rfl ?_
  refine JL.val (yl_add rfl rfl) rfl ?_
  refine JL.val (yl_assign rfl) rfl ?_
  refine JL.nil ?_
  refine JE.weak (env' := [(4, .int .i64 (w64 ((w64 (q0 * (w64 (q1 - 1)))) + (w64 (q1 * (w64 (q0 - 1)))))))]) (es' := []) [] ?_ ⟨rfl, trivial⟩ (by decide) rfl
  refine JE.code ?_
  refine JX.ret ?_
  obtain rfl := Option.some.inj hres
  refine JE.ret (rs := [.tmp 4]) (vs := [.int .i64 (w64 ((w64 (q0 * (w64 (q1 - 1)))) + (w64 (q1 * (w64 (q0 - 1))))))]) rfl ⟨rfl, trivial⟩ ?_
  exact fun w' hb hs => ⟨_, _, ⟨rfl, rfl⟩, rfl, hb, hs.sel [] _ (by decide) rfl⟩

/- impl.validBreak -/
def sh148 (q0 : Int) : Option (Bool) := Option.bind (sh125 q0 0 2) fun x1 => some x1
def T148 (r : Bool) (v : Value) (rs : List Own) : Prop := v = rets [.bool r] ∧ rs = []
set_option maxRecDepth 100000 in
theorem c148 {w : World} {q0 : Int} {r : Bool} (hres : sh148 q0 = some r) : Calls Go.Proofs.Try.prog 148 [.int .i64 q0].toArray w (Ret w (T148 r)) := by
  unfold sh148 at hres
  refine calls_of (n := 5) (M := []) (es := []) Go.Proofs.Try.func148 rfl rfl rfl (Sep.nil _ _ _) ?_
  refine JX.seq ?_
  refine JX.region ?_
  refine JL.val (yl_assign rfl) rfl ?_
  refine JL.nil ?_
  refine JE.code ?_
  refine JX.seq ?_
  refine JX.region ?_
  refine JL.val (yl_move rfl) rfl ?_
  obtain ⟨x1, hx1, hres⟩ := bind_some hres
  refine JL.eff (ef_call (T := T125 x1) Go.Proofs.Try.func125 rfl (by kernel_rfl) rfl (fun w hC => c125  hx1)) rfl ?_
  rintro _ _ ⟨_, ⟨rfl, rfl⟩, rfl⟩
  refine JL.val (yl_assign rfl) rfl ?_
  refine JL.nil ?_
  refine JE.code ?_
  refine JX.ret ?_
  obtain rfl := Option.some.inj hres
  refine JE.ret (rs := [.tmp 2]) (vs := [.bool x1]) rfl ⟨rfl, trivial⟩ ?_
  exact fun w' hb hs => ⟨_, _, ⟨rfl, rfl⟩, rfl, hb, hs.sel [] _ (by decide) rfl⟩

/- impl.ValidPanel -/
def sh86_1 (q0 : SPanel) : Int → Option (Int ⊕ (Unit ⊕ Bool))
  | x7 => bif decide (x7 < (q0.Breaks.length : Int)) then (Option.bind (getI q0.Breaks x7) fun x8 => Option.bind (sh148 x8) fun x9 => bif !x9 then (some (.inr (.inr false))) else (some (.inl (w64 (x7 + 1))))) else (some (.inr (.inl ())))
def sh86 (q0 : SPanel) : Option (Bool) := Option.bind (sh146 q0.W q0.H) fun x4 => Option.bind (bif !x4 then (some true) else (Option.bind (sh147 q0.W q0.H) fun x6 => some ((q0.Breaks.length : Int) != x6))) fun cb5 => (bif cb5 then (some false) else (Option.bind (iter (sh86_1 q0) 0) fun y1 => elimS y1 (fun r => some r) fun b1 => (some true)))
def T86 (r : Bool) (v : Value) (rs : List Own) : Prop := v = rets [.bool r] ∧ rs = []
set_option maxRecDepth 100000 in
theorem c86 {w : World} {q0 : SPanel} {a_0_2 : Option Addr} {n_0_2 c_0_2 : Nat} (g_0_2 : Rd w a_0_2 (eI64.fl q0.Breaks)) (l_0_2 : q0.Breaks.length = n_0_2) (k_0_2 : n_0_2 ≤ c_0_2) {r : Bool} (hres : sh86 q0 = some r) : Calls Go.Proofs.Try.prog 86 [.agg #[.int .i64 q0.W, .int .i64 q0.H, .slice a_0_2 n_0_2 c_0_2]].toArray w (Ret w (T86 r)) := by
  subst l_0_2
  unfold sh86 at hres
  refine calls_of (n := 33) (M := []) (es := []) Go.Proofs.Try.func86 rfl rfl rfl (Sep.nil _ _ _) ?_
  refine JX.seq ?_
  refine JX.region ?_
  refine JL.eff (ef_box rfl rfl) rfl ?_
  rintro _ _ ⟨g1, rfl, rfl⟩
  refine JL.val (yl_assign rfl) rfl ?_
  refine JL.nil ?_
  refine JE.code ?_
  refine JX.seq ?_
  refine JX.seq ?_
  refine JX.drawH [(0, .pure), (1, .read), (2, .pure), (3, .read), (4, .must), (5, .pure), (6, .pure), (7, .pure), (8, .read), (9, .pure), (10, .pure), (11, .read), (12, .pure), (13, .read), (14, .must), (15, .pure), (16, .pure)] [] [] [0] [] [boxO 28 g1 [.int .i64 q0.W, .int .i64 q0.H, .slice a_0_2 q0.Breaks.length c_0_2]] mixedP (by kernel_rfl) (by kernel_rfl) (by decide) rfl rfl ?_
  intro wrr3 Nr3 hFr3
  refine JH.pure rfl (yl_fieldAt (a := some _) Go.Proofs.Try.underlying28 rfl i2 i2n rfl rfl) rfl ?_
  refine JH.read rfl (yl_load1 Go.Proofs.Try.underlying2 rfl rfl (fun w hw => hFr3.box 0 rfl rfl hw) rfl) rfl ?_
  refine JH.pure rfl (yl_fieldAt (a := some _) Go.Proofs.Try.underlying28 rfl i2 i2n rfl rfl) rfl ?_
  refine JH.read rfl (yl_load1 Go.Proofs.Try.underlying2 rfl rfl (fun w hw => hFr3.box 0 rfl rfl hw) rfl) rfl ?_
  obtain ⟨x4, hx4, hres⟩ := bind_some hres
  refine JH.must rfl (ef_call (T := T146 x4) Go.Proofs.Try.func146 rfl (by kernel_rfl) rfl (fun w hC => c146  hx4)) rfl rfl ?_
  rintro _ _ ⟨_, ⟨rfl, rfl⟩, rfl⟩
  refine JH.pure rfl (yl_not rfl) rfl ?_
  refine JH.pure rfl (yl_move rfl) rfl ?_
  obtain ⟨cb5, hcb5, hres⟩ := bind_some hres
  refine JH.cut (K := fun J => J [(1, ptrAt (some ⟨g1, 0, none⟩) 0), (21, .bool cb5)] []) 10 ?_ ?_
  · refine JH.nil ?_
    refine JE.weak (env' := [(1, ptrAt (some ⟨g1, 0, none⟩) 0), (21, .bool cb5)]) (es' := [boxO 28 g1 [.int .i64 q0.W, .int .i64 q0.H, .slice a_0_2 q0.Breaks.length c_0_2]]) [0] ?_ ⟨rfl, rfl, trivial⟩ (by decide) rfl
    refine JE.code ?_
    rcases cond_some hres with ⟨hb, hres⟩ | ⟨hb, hres⟩
    · refine JX.condT rfl hb ?_
      refine JX.seq ?_
      refine JX.region ?_
      refine JL.val (yl_assign rfl) rfl ?_
      refine JL.nil ?_
      refine JE.weak (env' := [(2, .bool false)]) (es' := []) [] ?_ ⟨rfl, trivial⟩ (by decide) rfl
      refine JE.code ?_
      refine JX.ret ?_
      obtain rfl := Option.some.inj hres
      refine JE.ret (rs := [.tmp 2]) (vs := [.bool false]) rfl ⟨rfl, trivial⟩ ?_
      exact fun w' hb hs => ⟨_, _, ⟨rfl, rfl⟩, rfl, hb, hs.sel [] _ (by decide) rfl⟩
    · refine JX.condF rfl hb ?_
      refine JX.skip ?_
      refine JE.code ?_
      refine JX.seq ?_
      refine JX.seq ?_
      refine JX.region ?_
      refine JL.val (yl_fieldAt (a := some _) Go.Proofs.Try.underlying28 rfl i22 i22n rfl rfl) rfl ?_
      refine JL.val (yl_load1 Go.Proofs.Try.underlying22 rfl rfl (fun w hC => rd_box hC 0 rfl) rfl) rfl ?_
      refine JL.val (yl_len_slice Go.Proofs.Try.underlying22 rfl) rfl ?_
      refine JL.val (yl_move rfl) rfl ?_
      refine JL.nil ?_
      refine JE.weak (env' := [(23, .slice a_0_2 q0.Breaks.length c_0_2), (24, .int .i64 (q0.Breaks.length : Int)), (25, .int .i64 0)]) (es' := []) [] ?_ ⟨rfl, rfl, rfl, trivial⟩ (by decide) rfl
      refine JE.code ?_
      refine JX.block ?_
      obtain ⟨y1, hy1, hresO1⟩ := bind_some hres
      refine JX.loop (I := fun (s1 : Int) aa ww => St w [] 33 [(23, .slice a_0_2 q0.Breaks.length c_0_2), (24, .int .i64 (q0.Breaks.length : Int)), (25, .int .i64 s1)] [] aa ww) (sh86_1 q0) hy1 (fun a w h => h.weak ⟨rfl, rfl, rfl, trivial⟩ [] (by decide) rfl) ?_
      rintro x7 o1 hres hox1 aa ww hS
      refine (?_ : JX Go.Proofs.Try.prog w [] 33 _ _ [(23, .slice a_0_2 q0.Breaks.length c_0_2), (24, .int .i64 (q0.Breaks.length : Int)), (25, .int .i64 x7)] [] _) aa ww hS
      clear hS
      unfold sh86_1 at hres
      refine JX.seq ?_
      refine JX.region ?_
      refine JL.val (yl_lss rfl rfl) rfl ?_
      refine JL.nil ?_
      refine JE.code ?_
      refine JX.seq ?_
      rcases cond_some hres with ⟨hb, hres⟩ | ⟨hb, hres⟩
      · refine JX.condT rfl hb ?_
        refine JX.skip ?_
        refine JE.code ?_
        refine JX.seq ?_
        refine JX.block ?_
        refine JX.seq ?_
        refine JX.region ?_
        obtain ⟨x8, hx8, hres⟩ := bind_some hres
        refine JL.val (yl_idxT Go.Proofs.Try.underlying22 i2 i2s rfl rfl hx8 rfl (fun w hC => rd_arg g_0_2 hC)) rfl ?_
        refine JL.val (yl_loadT0 Go.Proofs.Try.underlying2 rfl rfl hx8 (fun w hC => rd_arg g_0_2 hC) rfl) rfl ?_
        refine JL.val (yl_assign rfl) rfl ?_
        refine JL.nil ?_
        refine JE.code ?_
        refine JX.seq ?_
        refine JX.region ?_
        refine JL.val (yl_move rfl) rfl ?_
        obtain ⟨x9, hx9, hres⟩ := bind_some hres
        refine JL.eff (ef_call (T := T148 x9) Go.Proofs.Try.func148 rfl (by kernel_rfl) rfl (fun w hC => c148  hx9)) rfl ?_
        rintro _ _ ⟨_, ⟨rfl, rfl⟩, rfl⟩
        refine JL.val (yl_not rfl) rfl ?_
        refine JL.nil ?_
        refine JE.code ?_
        rcases cond_some hres with ⟨hb, hres⟩ | ⟨hb, hres⟩
        · refine JX.condT rfl hb ?_
          refine JX.seq ?_
          refine JX.region ?_
          refine JL.val (yl_assign rfl) rfl ?_
          refine JL.nil ?_
          refine JE.code ?_
          refine JX.ret ?_
          refine JE.qbr ?_
          refine JE.qbr ?_
          have hres := elimS_inr hresO1 (hox1 _ (Option.some.inj hres).symm)
          obtain rfl := Option.some.inj hres
          refine JE.ret (rs := [.tmp 2]) (vs := [.bool false]) rfl ⟨rfl, trivial⟩ ?_
          exact fun w' hb hs => ⟨_, _, ⟨rfl, rfl⟩, rfl, hb, hs.sel [] _ (by decide) rfl⟩
        · refine JX.condF rfl hb ?_
          refine JX.skip ?_
          refine JE.code ?_
          refine JX.region ?_
          refine JL.val (yl_add rfl rfl) rfl ?_
          refine JL.val (yl_move rfl) rfl ?_
          refine JL.nil ?_
          refine JE.cont hres ?_
          exact fun a w h => h.weak ⟨rfl, rfl, rfl, trivial⟩ [] (by decide) rfl
      · refine JX.condF rfl hb ?_
        refine JX.exit ?_
        refine JE.qb rfl ?_
        obtain ⟨b1, hb1⟩ : ∃ b : Unit, b = () := ⟨_, rfl⟩
        have hy1 : Sum.inl b1 = y1 := by rw [hb1]; exact hox1 _ (Option.some.inj hres).symm
        have hres := elimS_inl hresO1 hy1
        refine JE.weak (env' := []) (es' := []) [] ?_ trivial (by decide) (by subst hb1; rfl)
        refine JE.code ?_
        refine JX.seq ?_
        refine JX.region ?_
        refine JL.val (yl_assign rfl) rfl ?_
        refine JL.nil ?_
        refine JE.code ?_
        refine JX.ret ?_
        obtain rfl := Option.some.inj hres
        refine JE.ret (rs := [.tmp 2]) (vs := [.bool true]) rfl ⟨rfl, trivial⟩ ?_
        exact fun w' hb hs => ⟨_, _, ⟨rfl, rfl⟩, rfl, hb, hs.sel [] _ (by decide) rfl⟩
  · intro K
    rcases cond_some hcb5 with ⟨hb, hres⟩ | ⟨hb, hres⟩
    · refine JH.set (d := 11) (v := .bool true) (congrArg (fun b => some (Value.bool b)) hb) ?_
      refine JH.gskip rfl rfl rfl rfl rfl rfl ?_
      refine JH.gskip rfl rfl rfl rfl rfl rfl ?_
      refine JH.gskip rfl rfl rfl rfl rfl rfl ?_
      refine JH.gskip rfl rfl rfl rfl rfl rfl ?_
      refine JH.gskip rfl rfl rfl rfl rfl rfl ?_
      refine JH.gskip rfl rfl rfl rfl rfl rfl ?_
      refine JH.gskip rfl rfl rfl rfl rfl rfl ?_
      refine JH.gskip rfl rfl rfl rfl rfl rfl ?_
      refine JH.gskip rfl rfl rfl rfl rfl rfl ?_
      refine JH.pure rfl (yl_pick_true rfl rfl) rfl ?_
      have he := Option.some.inj hres
      exact JH.weak [] K ⟨rfl, (by rw [← he]; rfl), trivial⟩ (by decide) rfl
    · refine JH.set (d := 11) (v := .bool false) (congrArg (fun b => some (Value.bool b)) hb) ?_
      refine JH.gpure rfl rfl rfl (yl_fieldAt (a := some _) Go.Proofs.Try.underlying28 rfl i22 i22n rfl rfl) rfl ?_
      refine JH.gread rfl rfl rfl (yl_load1 Go.Proofs.Try.underlying22 rfl rfl (fun w hw => hFr3.box 0 rfl rfl hw) rfl) rfl ?_
      refine JH.gpure rfl rfl rfl (yl_len_slice Go.Proofs.Try.underlying22 rfl) rfl ?_
      refine JH.gpure rfl rfl rfl (yl_fieldAt (a := some _) Go.Proofs.Try.underlying28 rfl i2 i2n rfl rfl) rfl ?_
      refine JH.gread rfl rfl rfl (yl_load1 Go.Proofs.Try.underlying2 rfl rfl (fun w hw => hFr3.box 0 rfl rfl hw) rfl) rfl ?_
      refine JH.gpure rfl rfl rfl (yl_fieldAt (a := some _) Go.Proofs.Try.underlying28 rfl i2 i2n rfl rfl) rfl ?_
      refine JH.gread rfl rfl rfl (yl_load1 Go.Proofs.Try.underlying2 rfl rfl (fun w hw => hFr3.box 0 rfl rfl hw) rfl) rfl ?_
      obtain ⟨x6, hx6, hres⟩ := bind_some hres
      refine JH.gmust rfl rfl rfl (ef_call (T := T147 x6) Go.Proofs.Try.func147 rfl (by kernel_rfl) rfl (fun w hC => c147  hx6)) rfl rfl ?_
      rintro _ _ ⟨_, ⟨rfl, rfl⟩, rfl⟩
      refine JH.gpure rfl rfl rfl (yl_neq rfl rfl) rfl ?_
      refine JH.pure rfl (yl_pick_false rfl rfl) rfl ?_
      have he := Option.some.inj hres
      exact JH.weak [] K ⟨rfl, (by rw [← he]; rfl), trivial⟩ (by decide) rfl

/- (impl.Panel).points -/
def sh149_2 (q0 : SPanel) (x7 : Int) : (Int × List SPoint) → Option ((Int × List SPoint) ⊕ (List SPoint))
  | (x13, x14) => bif decide (x13 < (w64 (2 * q0.W))) then (Option.bind (appL x14 [SPoint.mk x13 x7]) fun x19 => some (.inl (w64 (x13 + 2), x19))) else (some (.inr x14))
def sh149_1 (q0 : SPanel) : (Int × List SPoint) → Option ((Int × List SPoint) ⊕ (List SPoint))
  | (x7, x8) => bif decide (x7 < (w64 (2 * q0.H))) then (Option.bind (iter (sh149_2 q0 x7) (w64 (1 + (x7.tmod 2)), x8)) fun b2 => (some (.inl (w64 (x7 + 1), b2)))) else (some (.inr x8))
def sh149 (q0 : SPanel) : Option (List SPoint) := Option.bind (iter (sh149_1 q0) (1, ([] : List SPoint))) fun b1 => (some b1)
def T149 (r : List SPoint) (v : Value) (rs : List Own) : Prop := ∃ (a0 : Option Addr) (n0 c0 : Nat), r.length = n0 ∧ v = rets [.slice a0 n0 c0] ∧ rs = [rowT 35 eSPoint a0 n0 c0 r]
set_option maxRecDepth 100000 in
theorem c149 {w : World} {q0 : SPanel} {a_0_2 : Option Addr} {n_0_2 c_0_2 : Nat} (g_0_2 : Rd w a_0_2 (eI64.fl q0.Breaks)) (l_0_2 : q0.Breaks.length = n_0_2) (k_0_2 : n_0_2 ≤ c_0_2) {r : List SPoint} (hres : sh149 q0 = some r) : Calls Go.Proofs.Try.prog 149 [.agg #[.int .i64 q0.W, .int .i64 q0.H, .slice a_0_2 n_0_2 c_0_2]].toArray w (Ret w (T149 r)) := by
  subst l_0_2
  unfold sh149 at hres
  refine calls_of (n := 31) (M := []) (es := []) Go.Proofs.Try.func149 rfl rfl rfl (Sep.nil _ _ _) ?_
  refine JX.seq ?_
  refine JX.region ?_
  refine JL.eff (ef_box rfl rfl) rfl ?_
  rintro _ _ ⟨g1, rfl, rfl⟩
  refine JL.val (yl_assign rfl) rfl ?_
  refine JL.nil ?_
  refine JE.code ?_
  refine JX.seq ?_
  refine JX.region ?_
  refine JL.eff (ef_buildSlice (E := 35) (k := eSPoint.k) (us := eSPoint.fl ([] : List SPoint)) rfl (fun w => bsl61_0  w) rfl (by decide)) rfl ?_
  rintro _ _ ⟨a3, rfl, rfl⟩
  refine JL.val (yl_assign rfl) rfl ?_
  refine JL.nil ?_
  refine JE.code ?_
  refine JX.seq ?_
  refine JX.seq ?_
  refine JX.region ?_
  refine JL.val (yl_assign rfl) rfl ?_
  refine JL.nil ?_
  refine JE.code ?_
  refine JX.block ?_
  obtain ⟨y1, hy1, hresO1⟩ := bind_some hres
  refine JX.loop (I := fun (s1 : Int × List SPoint) aa ww => ∃ (a5 : Option Addr) (cp6 : Nat), St w [] 31 [(1, ptrAt (some ⟨g1, 0, none⟩) 0), (3, .slice a5 s1.2.length cp6), (4, .int .i64 s1.1)] [boxO 28 g1 [.int .i64 q0.W, .int .i64 q0.H, .slice a_0_2 q0.Breaks.length c_0_2], rowT 35 eSPoint a5 s1.2.length cp6 s1.2] aa ww) (sh149_1 q0) hy1 (fun a w h => ⟨a3, 0, h.weak ⟨rfl, rfl, rfl, trivial⟩ [0, 1] (by decide) rfl⟩) ?_
  rintro ⟨x7, x8⟩ o1 hres hox1 aa ww ⟨a9, cp10, hS⟩
  refine (?_ : JX Go.Proofs.Try.prog w [] 31 _ _ [(1, ptrAt (some ⟨g1, 0, none⟩) 0), (3, .slice a9 x8.length cp10), (4, .int .i64 x7)] [boxO 28 g1 [.int .i64 q0.W, .int .i64 q0.H, .slice a_0_2 q0.Breaks.length c_0_2], rowT 35 eSPoint a9 x8.length cp10 x8] _) aa ww hS
  clear hS
  simp only [sh149_1] at hres
  refine JX.seq ?_
  refine JX.seq ?_
  refine JX.region ?_
  refine JL.val (yl_move rfl) rfl ?_
  refine JL.val (yl_fieldAt (a := some _) Go.Proofs.Try.underlying28 rfl i2 i2n rfl rfl) rfl ?_
  refine JL.val (yl_load1 Go.Proofs.Try.underlying2 rfl rfl (fun w hC => rd_box hC 0 rfl) rfl) rfl ?_
  refine JL.val (yl_mul rfl rfl) rfl ?_
  refine JL.val (yl_lss rfl rfl) rfl ?_
  refine JL.nil ?_
  refine JE.weak (env' := [(1, ptrAt (some ⟨g1, 0, none⟩) 0), (3, .slice a9 x8.length cp10), (4, .int .i64 x7), (11, .bool (decide (x7 < (w64 (2 * q0.H)))))]) (es' := [boxO 28 g1 [.int .i64 q0.W, .int .i64 q0.H, .slice a_0_2 q0.Breaks.length c_0_2], rowT 35 eSPoint a9 x8.length cp10 x8]) [0, 1] ?_ ⟨rfl, rfl, rfl, rfl, trivial⟩ (by decide) rfl
  refine JE.code ?_
  rcases cond_some hres with ⟨hb, hres⟩ | ⟨hb, hres⟩
  · refine JX.condT rfl hb ?_
    refine JX.skip ?_
    refine JE.code ?_
    refine JX.seq ?_
    refine JX.block ?_
    refine JX.seq ?_
    refine JX.region ?_
    refine JL.val (yl_move rfl) rfl ?_
    refine JL.val (yl_rem rfl rfl (by decide)) rfl ?_
    refine JL.val (yl_add rfl rfl) rfl ?_
    refine JL.val (yl_assign rfl) rfl ?_
    refine JL.nil ?_
    refine JE.weak (env' := [(1, ptrAt (some ⟨g1, 0, none⟩) 0), (3, .slice a9 x8.length cp10), (4, .int .i64 x7), (5, .int .i64 (w64 (1 + (x7.tmod 2))))]) (es' := [boxO 28 g1 [.int .i64 q0.W, .int .i64 q0.H, .slice a_0_2 q0.Breaks.length c_0_2], rowT 35 eSPoint a9 x8.length cp10 x8]) [0, 1] ?_ ⟨rfl, rfl, rfl, rfl, trivial⟩ (by decide) rfl
    refine JE.code ?_
    refine JX.block ?_
    obtain ⟨y2, hy2, hresO2⟩ := bind_some hres
    refine JX.loop (I := fun (s2 : Int × List SPoint) aa ww => ∃ (a11 : Option Addr) (cp12 : Nat), St w [] 31 [(1, ptrAt (some ⟨g1, 0, none⟩) 0), (3, .slice a11 s2.2.length cp12), (4, .int .i64 x7), (5, .int .i64 s2.1)] [boxO 28 g1 [.int .i64 q0.W, .int .i64 q0.H, .slice a_0_2 q0.Breaks.length c_0_2], rowT 35 eSPoint a11 s2.2.length cp12 s2.2] aa ww) (sh149_2 q0 x7) hy2 (fun a w h => ⟨a9, cp10, h.weak ⟨rfl, rfl, rfl, rfl, trivial⟩ [0, 1] (by decide) rfl⟩) ?_
    rintro ⟨x13, x14⟩ o2 hres hox2 aa ww ⟨a15, cp16, hS⟩
    refine (?_ : JX Go.Proofs.Try.prog w [] 31 _ _ [(1, ptrAt (some ⟨g1, 0, none⟩) 0), (3, .slice a15 x14.length cp16), (4, .int .i64 x7), (5, .int .i64 x13)] [boxO 28 g1 [.int .i64 q0.W, .int .i64 q0.H, .slice a_0_2 q0.Breaks.length c_0_2], rowT 35 eSPoint a15 x14.length cp16 x14] _) aa ww hS
    clear hS
    simp only [sh149_2] at hres
    refine JX.seq ?_
    refine JX.seq ?_
    refine JX.region ?_
    refine JL.val (yl_move rfl) rfl ?_
    refine JL.val (yl_fieldAt (a := some _) Go.Proofs.Try.underlying28 rfl i2 i2n rfl rfl) rfl ?_
    refine JL.val (yl_load1 Go.Proofs.Try.underlying2 rfl rfl (fun w hC => rd_box hC 0 rfl) rfl) rfl ?_
    refine JL.val (yl_mul rfl rfl) rfl ?_
    refine JL.val (yl_lss rfl rfl) rfl ?_
    refine JL.nil ?_
    refine JE.weak (env' := [(1, ptrAt (some ⟨g1, 0, none⟩) 0), (3, .slice a15 x14.length cp16), (4, .int .i64 x7), (5, .int .i64 x13), (21, .bool (decide (x13 < (w64 (2 * q0.W)))))]) (es' := [boxO 28 g1 [.int .i64 q0.W, .int .i64 q0.H, .slice a_0_2 q0.Breaks.length c_0_2], rowT 35 eSPoint a15 x14.length cp16 x14]) [0, 1] ?_ ⟨rfl, rfl, rfl, rfl, rfl, trivial⟩ (by decide) rfl
    refine JE.code ?_
    rcases cond_some hres with ⟨hb, hres⟩ | ⟨hb, hres⟩
    · refine JX.condT rfl hb ?_
      refine JX.skip ?_
      refine JE.code ?_
      refine JX.seq ?_
      refine JX.block ?_
      refine JX.region ?_
      refine JL.val (yl_move rfl) rfl ?_
      refine JL.val (yl_move rfl) rfl ?_
      refine JL.val (yl_move rfl) rfl ?_
      refine JL.val (yl_build rfl (fun w => bld35_0_1 x13 x7 w)) rfl ?_
      refine JL.eff (ef_buildSlice (E := 35) (k := eSPoint.k) (us := eSPoint.fl [SPoint.mk x13 x7]) rfl (fun w => bsl61_1 x13 x7 w) rfl (by decide)) rfl ?_
      rintro _ _ ⟨a17, rfl, rfl⟩
      obtain ⟨x19, hx19, hres⟩ := bind_some hres
      refine JL.eff (ef_appendT (ix := 1) Go.Proofs.Try.underlying61 i35 i35z i35s rfl i35b0 i35b1 rfl rfl rfl rfl rfl (fun w hC => rd_row hC 2 rfl) hx19) rfl ?_
      rintro _ _ ⟨a20, cp21, rfl, rfl⟩
      refine JL.val (yl_assign rfl) rfl ?_
      refine JL.nil ?_
      refine JE.weak (env' := [(1, ptrAt (some ⟨g1, 0, none⟩) 0), (3, .slice a20 x19.length cp21), (4, .int .i64 x7), (5, .int .i64 x13)]) (es' := [boxO 28 g1 [.int .i64 q0.W, .int .i64 q0.H, .slice a_0_2 q0.Breaks.length c_0_2], rowT 35 eSPoint a20 x19.length cp21 x19]) [0, 1] ?_ ⟨rfl, rfl, rfl, rfl, trivial⟩ (by decide) rfl
      refine JE.code ?_
      refine JX.region ?_
      refine JL.val (yl_move rfl) rfl ?_
      refine JL.val (yl_add rfl rfl) rfl ?_
      refine JL.val (yl_assign rfl) rfl ?_
      refine JL.nil ?_
      refine JE.cont hres ?_
      exact fun a w h => ⟨a20, cp21, h.weak ⟨rfl, rfl, rfl, rfl, trivial⟩ [0, 1] (by decide) rfl⟩
    · refine JX.condF rfl hb ?_
      refine JX.exit ?_
      refine JE.qb rfl ?_
      obtain ⟨b2, hb2⟩ : ∃ b : List SPoint, b = x14 := ⟨_, rfl⟩
      have hy2 : b2 = y2 := by rw [hb2]; exact hox2 _ (Option.some.inj hres).symm
      have hres := hresO2
      rw [← hy2] at hres
      refine JE.weak (env' := [(1, ptrAt (some ⟨g1, 0, none⟩) 0), (3, .slice a15 b2.length cp16), (4, .int .i64 x7)]) (es' := [boxO 28 g1 [.int .i64 q0.W, .int .i64 q0.H, .slice a_0_2 q0.Breaks.length c_0_2], rowT 35 eSPoint a15 b2.length cp16 b2]) [0, 1] ?_ ⟨(by subst hb2; rfl), (by subst hb2; rfl), (by subst hb2; rfl), trivial⟩ (by decide) (by subst hb2; rfl)
      refine JE.code ?_
      refine JX.region ?_
      refine JL.val (yl_move rfl) rfl ?_
      refine JL.val (yl_add rfl rfl) rfl ?_
      refine JL.val (yl_assign rfl) rfl ?_
      refine JL.nil ?_
      refine JE.cont hres ?_
      exact fun a w h => ⟨a15, cp16, h.weak ⟨rfl, rfl, rfl, trivial⟩ [0, 1] (by decide) rfl⟩
  · refine JX.condF rfl hb ?_
    refine JX.exit ?_
    refine JE.qb rfl ?_
    obtain ⟨b1, hb1⟩ : ∃ b : List SPoint, b = x8 := ⟨_, rfl⟩
    have hy1 : b1 = y1 := by rw [hb1]; exact hox1 _ (Option.some.inj hres).symm
    have hres := hresO1
    rw [← hy1] at hres
    refine JE.weak (env' := [(3, .slice a9 b1.length cp10)]) (es' := [rowT 35 eSPoint a9 b1.length cp10 b1]) [1] ?_ ⟨(by subst hb1; rfl), trivial⟩ (by decide) (by subst hb1; rfl)
    refine JE.code ?_
    refine JX.seq ?_
    refine JX.region ?_
    refine JL.val (yl_move rfl) rfl ?_
    refine JL.val (yl_assign rfl) rfl ?_
    refine JL.nil ?_
    refine JE.code ?_
    refine JX.ret ?_
    obtain rfl := Option.some.inj hres
    refine JE.ret (rs := [.tmp 2]) (vs := [.slice a9 b1.length cp10]) rfl ⟨rfl, trivial⟩ ?_
    exact fun w' hb hs => ⟨_, _, ⟨a9, b1.length, cp10, rfl, rfl, rfl⟩, rfl, hb, hs.sel [0] _ (by decide) rfl⟩

/- impl.compare -/
def sh181 (q0 : Int) (q1 : Int) : Option (Int) := bif decide (q0 < q1) then (some (-1)) else (bif decide (q1 < q0) then (some 1) else (some 0))
def T181 (r : Int) (v : Value) (rs : List Own) : Prop := v = rets [.int .i64 r] ∧ rs = []
set_option maxRecDepth 100000 in
theorem c181 {w : World} {q0 : Int} {q1 : Int} {r : Int} (hres : sh181 q0 q1 = some r) : Calls Go.Proofs.Try.prog 181 [.int .i64 q0, .int .i64 q1].toArray w (Ret w (T181 r)) := by
  unfold sh181 at hres
  refine calls_of (n := 13) (M := []) (es := []) Go.Proofs.Try.func181 rfl rfl rfl (Sep.nil _ _ _) ?_
  refine JX.seq ?_
  refine JX.region ?_
  refine JL.val (yl_assign rfl) rfl ?_
  refine JL.nil ?_
  refine JE.code ?_
  refine JX.seq ?_
  refine JX.block ?_
  refine JX.seq ?_
  refine JX.region ?_
  refine JL.val (yl_move rfl) rfl ?_
  refine JL.val (yl_move rfl) rfl ?_
  refine JL.val (yl_lss rfl rfl) rfl ?_
  refine JL.val (yl_assign rfl) rfl ?_
  refine JL.nil ?_
  refine JE.weak (env' := [(0, .int .i64 q0), (1, .int .i64 q1), (5, .bool (decide (q0 < q1)))]) (es' := []) [] ?_ ⟨rfl, rfl, rfl, trivial⟩ (by decide) rfl
  refine JE.code ?_
  rcases cond_some hres with ⟨hb, hres⟩ | ⟨hb, hres⟩
  · refine JX.condT rfl hb ?_
    refine JX.seq ?_
    refine JX.region ?_
    refine JL.val (yl_assign rfl) rfl ?_
    refine JL.nil ?_
    refine JE.code ?_
    refine JX.ret ?_
    refine JE.qbr ?_
    obtain rfl := Option.some.inj hres
    refine JE.ret (rs := [.tmp 4]) (vs := [.int .i64 (-1)]) rfl ⟨rfl, trivial⟩ ?_
    exact fun w' hb hs => ⟨_, _, ⟨rfl, rfl⟩, rfl, hb, hs.sel [] _ (by decide) rfl⟩
  · refine JX.condF rfl hb ?_
    refine JX.seq ?_
    refine JX.region ?_
    refine JL.val (yl_move rfl) rfl ?_
    refine JL.val (yl_move rfl) rfl ?_
    refine JL.val (yl_gtr rfl rfl) rfl ?_
    refine JL.val (yl_assign rfl) rfl ?_
    refine JL.nil ?_
    refine JE.weak (env' := [(9, .bool (decide (q1 < q0)))]) (es' := []) [] ?_ ⟨rfl, trivial⟩ (by decide) rfl
    refine JE.code ?_
    rcases cond_some hres with ⟨hb, hres⟩ | ⟨hb, hres⟩
    · refine JX.condT rfl hb ?_
      refine JX.seq ?_
      refine JX.region ?_
      refine JL.val (yl_assign rfl) rfl ?_
      refine JL.nil ?_
      refine JE.code ?_
      refine JX.ret ?_
      refine JE.qbr ?_
      obtain rfl := Option.some.inj hres
      refine JE.ret (rs := [.tmp 4]) (vs := [.int .i64 1]) rfl ⟨rfl, trivial⟩ ?_
      exact fun w' hb hs => ⟨_, _, ⟨rfl, rfl⟩, rfl, hb, hs.sel [] _ (by decide) rfl⟩
    · refine JX.condF rfl hb ?_
      refine JX.skip ?_
      refine JE.code ?_
      refine JX.seq ?_
      refine JX.region ?_
      refine JL.val (yl_assign rfl) rfl ?_
      refine JL.nil ?_
      refine JE.code ?_
      refine JX.ret ?_
      obtain rfl := Option.some.inj hres
      refine JE.ret (rs := [.tmp 4]) (vs := [.int .i64 0]) rfl ⟨rfl, trivial⟩ ?_
      exact fun w' hb hs => ⟨_, _, ⟨rfl, rfl⟩, rfl, hb, hs.sel [] _ (by decide) rfl⟩

/- impl.comparePoints -/
def sh151 (q0 : SPoint) (q1 : SPoint) : Option (Int) := Option.bind (sh181 q0.Y q1.Y) fun x5 => bif x5 != 0 then (some x5) else (Option.bind (sh181 q0.X q1.X) fun x6 => some x6)
def T151 (r : Int) (v : Value) (rs : List Own) : Prop := v = rets [.int .i64 r] ∧ rs = []
set_option maxRecDepth 100000 in
theorem c151 {w : World} {q0 : SPoint} {q1 : SPoint} {r : Int} (hres : sh151 q0 q1 = some r) : Calls Go.Proofs.Try.prog 151 [.agg #[.int .i64 q0.X, .int .i64 q0.Y], .agg #[.int .i64 q1.X, .int .i64 q1.Y]].toArray w (Ret w (T151 r)) := by
  unfold sh151 at hres
  refine calls_of (n := 19) (M := []) (es := []) Go.Proofs.Try.func151 rfl rfl rfl (Sep.nil _ _ _) ?_
  refine JX.seq ?_
  refine JX.region ?_
  refine JL.eff (ef_box rfl rfl) rfl ?_
  rintro _ _ ⟨g1, rfl, rfl⟩
  refine JL.eff (ef_box rfl rfl) rfl ?_
  rintro _ _ ⟨g3, rfl, rfl⟩
  refine JL.val (yl_assign rfl) rfl ?_
  refine JL.nil ?_
  refine JE.code ?_
  refine JX.seq ?_
  refine JX.seq ?_
  refine JX.region ?_
  refine JL.val (yl_fieldAt (a := some _) Go.Proofs.Try.underlying35 rfl i2 i2n rfl rfl) rfl ?_
  refine JL.val (yl_load1 Go.Proofs.Try.underlying2 rfl rfl (fun w hC => rd_box hC 0 rfl) rfl) rfl ?_
  refine JL.val (yl_fieldAt (a := some _) Go.Proofs.Try.underlying35 rfl i2 i2n rfl rfl) rfl ?_
  refine JL.val (yl_load1 Go.Proofs.Try.underlying2 rfl rfl (fun w hC => rd_box hC 1 rfl) rfl) rfl ?_
  obtain ⟨x5, hx5, hres⟩ := bind_some hres
  refine JL.eff (ef_call (T := T181 x5) Go.Proofs.Try.func181 rfl (by kernel_rfl) rfl (fun w hC => c181  hx5)) rfl ?_
  rintro _ _ ⟨_, ⟨rfl, rfl⟩, rfl⟩
  refine JL.val (yl_assign rfl) rfl ?_
  refine JL.nil ?_
  refine JE.weak (env' := [(2, ptrAt (some ⟨g1, 0, none⟩) 0), (3, ptrAt (some ⟨g3, 0, none⟩) 0), (5, .int .i64 x5)]) (es' := [boxO 35 g1 [.int .i64 q0.X, .int .i64 q0.Y], boxO 35 g3 [.int .i64 q1.X, .int .i64 q1.Y]]) [0, 1] ?_ ⟨rfl, rfl, rfl, trivial⟩ (by decide) rfl
  refine JE.code ?_
  refine JX.seq ?_
  refine JX.region ?_
  refine JL.val (yl_move rfl) rfl ?_
  refine JL.val (yl_neq rfl rfl) rfl ?_
  refine JL.nil ?_
  refine JE.code ?_
  rcases cond_some hres with ⟨hb, hres⟩ | ⟨hb, hres⟩
  · refine JX.condT rfl hb ?_
    refine JX.seq ?_
    refine JX.region ?_
    refine JL.val (yl_move rfl) rfl ?_
    refine JL.val (yl_assign rfl) rfl ?_
    refine JL.nil ?_
    refine JE.weak (env' := [(4, .int .i64 x5)]) (es' := []) [] ?_ ⟨rfl, trivial⟩ (by decide) rfl
    refine JE.code ?_
    refine JX.ret ?_
    obtain rfl := Option.some.inj hres
    refine JE.ret (rs := [.tmp 4]) (vs := [.int .i64 x5]) rfl ⟨rfl, trivial⟩ ?_
    exact fun w' hb hs => ⟨_, _, ⟨rfl, rfl⟩, rfl, hb, hs.sel [] _ (by decide) rfl⟩
  · refine JX.condF rfl hb ?_
    refine JX.skip ?_
    refine JE.code ?_
    refine JX.seq ?_
    refine JX.region ?_
    refine JL.val (yl_fieldAt (a := some _) Go.Proofs.Try.underlying35 rfl i2 i2n rfl rfl) rfl ?_
    refine JL.val (yl_load1 Go.Proofs.Try.underlying2 rfl rfl (fun w hC => rd_box hC 0 rfl) rfl) rfl ?_
    refine JL.val (yl_fieldAt (a := some _) Go.Proofs.Try.underlying35 rfl i2 i2n rfl rfl) rfl ?_
    refine JL.val (yl_load1 Go.Proofs.Try.underlying2 rfl rfl (fun w hC => rd_box hC 1 rfl) rfl) rfl ?_
    obtain ⟨x6, hx6, hres⟩ := bind_some hres
    refine JL.eff (ef_call (T := T181 x6) Go.Proofs.Try.func181 rfl (by kernel_rfl) rfl (fun w hC => c181  hx6)) rfl ?_
    rintro _ _ ⟨_, ⟨rfl, rfl⟩, rfl⟩
    refine JL.val (yl_assign rfl) rfl ?_
    refine JL.nil ?_
    refine JE.weak (env' := [(4, .int .i64 x6)]) (es' := []) [] ?_ ⟨rfl, trivial⟩ (by decide) rfl
    refine JE.code ?_
    refine JX.ret ?_
    obtain rfl := Option.some.inj hres
    refine JE.ret (rs := [.tmp 4]) (vs := [.int .i64 x6]) rfl ⟨rfl, trivial⟩ ?_
    exact fun w' hb hs => ⟨_, _, ⟨rfl, rfl⟩, rfl, hb, hs.sel [] _ (by decide) rfl⟩

/- (impl.Panel).regions -/
def sh88_5 (b1 : (List (SPoint × List SPoint))) (x1570 : List (List SPoint)) (x1587 : SPoint) : (Int × (List (SPoint × Int)) × List SPoint) → Option ((Int × (List (SPoint × Int)) × List SPoint) ⊕ ((List (SPoint × Int)) × List SPoint))
  | (x1594, x1595, x1596) => bif decide (x1594 < ((rowOf b1 x1587).length : Int)) then (Option.bind (getI (rowOf b1 x1587) x1594) fun x1599 => Option.bind (bif !((mfind x1595 x1599).isSome) then (Option.bind (appL x1596 [x1599]) fun x1607 => some (mput x1595 x1599 ((x1570.length : Nat) : Int), x1607)) else (some (x1595, x1596))) fun j1602 => (some (.inl (w64 (x1594 + 1), j1602.1, j1602.2)))) else (some (.inr (x1595, x1596)))
def sh88_4 (b1 : (List (SPoint × List SPoint))) (x1570 : List (List SPoint)) : (Int × (List (SPoint × Int)) × List SPoint) → Option ((Int × (List (SPoint × Int)) × List SPoint) ⊕ ((List (SPoint × Int)) × List SPoint))
  | (x1582, x1583, x1584) => bif decide (x1582 < (x1584.length : Int)) then (Option.bind (getI x1584 x1582) fun x1587 => Option.bind (iter (sh88_5 b1 x1570 x1587) (0, x1583, x1584)) fun b5 => (some (.inl (w64 (x1582 + 1), b5.1, b5.2)))) else (some (.inr (x1583, x1584)))
def sh88_3 (q0 : SPanel) (b1 : (List (SPoint × List SPoint))) (x1558 : Int) : (Int × List (List SPoint) × (List (SPoint × Int))) → Option ((Int × List (List SPoint) × (List (SPoint × Int))) ⊕ (List (List SPoint) × (List (SPoint × Int))))
  | (x1569, x1570, x1571) => bif decide (x1569 ≤ (w64 (2 * q0.W))) then (bif (mfind x1571 (SPoint.mk x1569 x1558)).isSome then (some (.inl (w64 (x1569 + 2), x1570, x1571))) else (Option.bind (iter (sh88_4 b1 x1570) (0, mput x1571 (SPoint.mk x1569 x1558) ((x1570.length : Nat) : Int), [SPoint.mk x1569 x1558])) fun b4 => (Option.bind (sortW ltPt b4.2) fun x1614 => Option.bind (appL x1570 [x1614]) fun x1617 => some (.inl (w64 (x1569 + 2), x1617, b4.1))))) else (some (.inr (x1570, x1571)))
def sh88_2 (q0 : SPanel) (b1 : (List (SPoint × List SPoint))) : (Int × List (List SPoint) × (List (SPoint × Int))) → Option ((Int × List (List SPoint) × (List (SPoint × Int))) ⊕ (List (List SPoint) × (List (SPoint × Int))))
  | (x1558, x1559, x1560) => bif decide (x1558 < (w64 ((w64 (2 * q0.H)) + 1))) then (Option.bind (iter (sh88_3 q0 b1 x1558) (x1558.tmod 2, x1559, x1560)) fun b3 => (some (.inl (w64 (x1558 + 1), b3.1, b3.2)))) else (some (.inr (x1559, x1560)))
def sh88_1 (q0 : SPanel) (x5 : List SPoint) : (Int × (List (SPoint × List SPoint))) → Option ((Int × (List (SPoint × List SPoint))) ⊕ ((List (SPoint × List SPoint))))
  | (x11, x12) => bif decide (x11 < (x5.length : Int)) then (Option.bind (getI x5 x11) fun x15 => Option.bind (getI q0.Breaks x11) fun x23 => Option.bind (bif x23 == 2 then (some (SPoint.mk (w64 (x15.X - 1)) x15.Y, SPoint.mk (w64 (x15.X + 1)) x15.Y)) else (some (SPoint.mk x15.X (w64 (x15.Y - 1)), SPoint.mk x15.X (w64 (x15.Y + 1))))) fun j24 => (Option.bind (getI q0.Breaks x11) fun x25 => Option.bind (bif x25 != 0 then (Option.bind (neqG j24.1 j24.2) fun x29 => Option.bind (appL (rowOf x12 j24.1) [j24.2]) fun x639 => Option.bind (appL (rowOf x12 j24.2) [j24.1]) fun x1539 => some (mput (mput x12 j24.1 x639) j24.2 x1539)) else (some x12)) fun j26 => (some (.inl (w64 (x11 + 1), j26))))) else (some (.inr x12))
def sh88 (q0 : SPanel) : Option (List (List SPoint) × (List (SPoint × Int))) := Option.bind (sh149 q0) fun x5 => Option.bind (iter (sh88_1 q0 x5) (0, ([] : List (SPoint × List SPoint)))) fun b1 => (Option.bind (iter (sh88_2 q0 b1) (0, ([] : List (List SPoint)), ([] : List (SPoint × Int)))) fun b2 => (some (b2.1, b2.2)))
def T88 (r : List (List SPoint) × (List (SPoint × Int))) (v : Value) (rs : List Own) : Prop := ∃ (a0 : Option Addr) (n0 c0 : Nat) (h0 : List Hd), r.1.length = n0 ∧ Inn h0 r.1 ∧ ∃ (o1 : Option Nat), v = rets [.slice a0 n0 c0, .map o1] ∧ rs = [rowT 61 eHd a0 n0 c0 h0, innO 35 eSPoint none h0 r.1, mapI eSPoint o1 r.2]
set_option maxRecDepth 100000 in
set_option maxHeartbeats 1000000 in
theorem c88 {w : World} {q0 : SPanel} {a_0_2 : Option Addr} {n_0_2 c_0_2 : Nat} (g_0_2 : Rd w a_0_2 (eI64.fl q0.Breaks)) (l_0_2 : q0.Breaks.length = n_0_2) (k_0_2 : n_0_2 ≤ c_0_2) {r : List (List SPoint) × (List (SPoint × Int))} (hres : sh88 q0 = some r) : Calls Go.Proofs.Try.prog 88 [.agg #[.int .i64 q0.W, .int .i64 q0.H, .slice a_0_2 n_0_2 c_0_2]].toArray w (Ret w (T88 r)) := by
  subst l_0_2
  unfold sh88 at hres
  refine calls_of (n := 163) (M := []) (es := []) Go.Proofs.Try.func88 rfl rfl rfl (Sep.nil _ _ _) ?_
  refine JX.seq ?_
  refine JX.region ?_
  refine JL.eff (ef_box rfl rfl) rfl ?_
  rintro _ _ ⟨g1, rfl, rfl⟩
  refine JL.val (yl_assign rfl) rfl ?_
  refine JL.val (yl_assign rfl) rfl ?_
  refine JL.nil ?_
  refine JE.code ?_
  refine JX.seq ?_
  refine JX.region ?_
  refine JL.eff (ef_makeMapR (e := eSPoint) 35 eSPoint) rfl ?_
  rintro _ _ ⟨g3, rfl, rfl⟩
  refine JL.val (yl_assign rfl) rfl ?_
  refine JL.nil ?_
  refine JE.code ?_
  refine JX.seq ?_
  refine JX.seq ?_
  refine JX.region ?_
  refine JL.val (yl_loadn Go.Proofs.Try.underlying28 rfl i28 rfl (fun w hC => rd_box hC 0 rfl) rfl (i28s).symm i28p) rfl ?_
  obtain ⟨x5, hx5, hres⟩ := bind_some hres
  refine JL.eff (ef_call (vs := [.agg #[.int .i64 q0.W, .int .i64 q0.H, .slice a_0_2 q0.Breaks.length c_0_2]]) (T := T149 x5) Go.Proofs.Try.func149 rfl (by kernel_rfl) rfl (fun w hC => c149 (q0 := q0) (rd_arg g_0_2 hC) rfl k_0_2 hx5)) rfl ?_
  rintro _ _ ⟨_, ⟨a6, _, cp7, rfl, rfl, rfl⟩, rfl⟩
  refine JL.val (yl_len_slice Go.Proofs.Try.underlying61 rfl) rfl ?_
  refine JL.val (yl_move rfl) rfl ?_
  refine JL.nil ?_
  refine JE.weak (env' := [(1, ptrAt (some ⟨g1, 0, none⟩) 0), (4, .map (some g3)), (24, .slice a6 x5.length cp7), (25, .int .i64 (x5.length : Int)), (26, .int .i64 0)]) (es' := [boxO 28 g1 [.int .i64 q0.W, .int .i64 q0.H, .slice a_0_2 q0.Breaks.length c_0_2], mapR eSPoint 35 eSPoint g3 [] ([] : List (SPoint × Hd)) ([] : List (SPoint × List SPoint)), rowT 35 eSPoint a6 x5.length cp7 x5]) [0, 1, 2] ?_ ⟨rfl, rfl, rfl, rfl, rfl, trivial⟩ (by decide) rfl
  refine JE.code ?_
  refine JX.block ?_
  obtain ⟨y1, hy1, hresO1⟩ := bind_some hres
  refine JX.loop (I := fun (s1 : Int × (List (SPoint × List SPoint))) aa ww => ∃ (mh9 : List (SPoint × Hd)) (hi10 : InnM mh9 s1.2), St w [] 163 [(1, ptrAt (some ⟨g1, 0, none⟩) 0), (4, .map (some g3)), (24, .slice a6 x5.length cp7), (25, .int .i64 (x5.length : Int)), (26, .int .i64 s1.1)] [boxO 28 g1 [.int .i64 q0.W, .int .i64 q0.H, .slice a_0_2 q0.Breaks.length c_0_2], mapR eSPoint 35 eSPoint g3 [] mh9 s1.2, rowT 35 eSPoint a6 x5.length cp7 x5] aa ww) (sh88_1 q0 x5) hy1 (fun a w h => ⟨([] : List (SPoint × Hd)), (InnM.nil (K := SPoint) (T := SPoint)), h.weak ⟨rfl, rfl, rfl, rfl, rfl, trivial⟩ [0, 1, 2] (by decide) rfl⟩) ?_
  rintro ⟨x11, x12⟩ o1 hres hox1 aa ww ⟨mh13, hi14, hS⟩
  refine (?_ : JX Go.Proofs.Try.prog w [] 163 _ _ [(1, ptrAt (some ⟨g1, 0, none⟩) 0), (4, .map (some g3)), (24, .slice a6 x5.length cp7), (25, .int .i64 (x5.length : Int)), (26, .int .i64 x11)] [boxO 28 g1 [.int .i64 q0.W, .int .i64 q0.H, .slice a_0_2 q0.Breaks.length c_0_2], mapR eSPoint 35 eSPoint g3 [] mh13 x12, rowT 35 eSPoint a6 x5.length cp7 x5] _) aa ww hS
  clear hS
  simp only [sh88_1] at hres
  refine JX.seq ?_
  refine JX.region ?_
  refine JL.val (yl_lss rfl rfl) rfl ?_
  refine JL.nil ?_
  refine JE.code ?_
  refine JX.seq ?_
  rcases cond_some hres with ⟨hb, hres⟩ | ⟨hb, hres⟩
  · refine JX.condT rfl hb ?_
    refine JX.skip ?_
    refine JE.code ?_
    refine JX.seq ?_
    refine JX.block ?_
    refine JX.seq ?_
    refine JX.region ?_
    refine JL.val (yl_move rfl) rfl ?_
    obtain ⟨x15, hx15, hres⟩ := bind_some hres
    refine JL.val (yl_idxT Go.Proofs.Try.underlying61 i35 i35s rfl rfl hx15 rfl (fun w hC => rd_row hC 2 rfl)) rfl ?_
    refine JL.val (yl_loadTn Go.Proofs.Try.underlying35 rfl i35 i35s rfl hx15 (fun w hC => rd_row hC 2 rfl)) rfl ?_
    refine JL.eff (ef_alloc i35 i35z rfl) rfl ?_
    rintro _ _ ⟨g16, rfl, rfl⟩
    refine JL.val (yl_assign rfl) rfl ?_
    refine JL.eff (ef_store_box (i := 3) (v := .agg #[.int .i64 x15.X, .int .i64 x15.Y]) i35 rfl rfl rfl (i35s).symm (Nat.le_of_ble_eq_true rfl) (by simp [Value.cells, Value.oneCell'])) rfl ?_
    rintro _ _ rfl
    refine JL.nil ?_
    refine JE.weak (env' := [(1, ptrAt (some ⟨g1, 0, none⟩) 0), (4, .map (some g3)), (5, .int .i64 x11), (6, ptrAt (some ⟨g16, 0, none⟩) 0), (24, .slice a6 x5.length cp7), (25, .int .i64 (x5.length : Int)), (26, .int .i64 x11)]) (es' := [boxO 28 g1 [.int .i64 q0.W, .int .i64 q0.H, .slice a_0_2 q0.Breaks.length c_0_2], mapR eSPoint 35 eSPoint g3 [] mh13 x12, boxO 35 g16 [.int .i64 x15.X, .int .i64 x15.Y], rowT 35 eSPoint a6 x5.length cp7 x5]) [0, 1, 3, 2] ?_ ⟨rfl, rfl, rfl, rfl, rfl, rfl, rfl, trivial⟩ (by decide) rfl
    refine JE.code ?_
    refine JX.seq ?_
    refine JX.drawH [(0, .pure), (1, .read), (2, .pure), (3, .read), (4, .pure), (5, .pure), (6, .pure), (7, .read), (8, .pure), (9, .read), (10, .pure), (11, .pure), (12, .two 13), (14, .must), (15, .must)] [14, 15] [] [0, 1, 2, 3] [] [boxO 28 g1 [.int .i64 q0.W, .int .i64 q0.H, .slice a_0_2 q0.Breaks.length c_0_2], mapR eSPoint 35 eSPoint g3 [] mh13 x12, boxO 35 g16 [.int .i64 x15.X, .int .i64 x15.Y], rowT 35 eSPoint a6 x5.length cp7 x5] mixedP (by kernel_rfl) (by kernel_rfl) (by decide) rfl rfl ?_
    intro wrr18 Nr18 hFr18
    refine JH.pure rfl (yl_fieldAt (a := some _) Go.Proofs.Try.underlying35 rfl i2 i2n rfl rfl) rfl ?_
    refine JH.read rfl (yl_load1 Go.Proofs.Try.underlying2 rfl rfl (fun w hw => hFr18.box 2 rfl rfl hw) rfl) rfl ?_
    refine JH.pure rfl (yl_fieldAt (a := some _) Go.Proofs.Try.underlying35 rfl i2 i2n rfl rfl) rfl ?_
    refine JH.read rfl (yl_load1 Go.Proofs.Try.underlying2 rfl rfl (fun w hw => hFr18.box 2 rfl rfl hw) rfl) rfl ?_
    refine JH.pure rfl (yl_sub rfl rfl) rfl ?_
    refine JH.pure rfl (yl_build rfl (fun w => bld35_0_1 x15.X (w64 (x15.Y - 1)) w)) rfl ?_
    refine JH.pure rfl (yl_fieldAt (a := some _) Go.Proofs.Try.underlying35 rfl i2 i2n rfl rfl) rfl ?_
    refine JH.read rfl (yl_load1 Go.Proofs.Try.underlying2 rfl rfl (fun w hw => hFr18.box 2 rfl rfl hw) rfl) rfl ?_
    refine JH.pure rfl (yl_fieldAt (a := some _) Go.Proofs.Try.underlying35 rfl i2 i2n rfl rfl) rfl ?_
    refine JH.read rfl (yl_load1 Go.Proofs.Try.underlying2 rfl rfl (fun w hw => hFr18.box 2 rfl rfl hw) rfl) rfl ?_
    refine JH.pure rfl (yl_add rfl rfl) rfl ?_
    refine JH.pure rfl (yl_build rfl (fun w => bld35_0_1 x15.X (w64 (x15.Y + 1)) w)) rfl ?_
    refine JH.cut (K := fun J => ∀ (g19 : Nat) (g21 : Nat), J [(1, ptrAt (some ⟨g1, 0, none⟩) 0), (4, .map (some g3)), (5, .int .i64 x11), (6, ptrAt (some ⟨g16, 0, none⟩) 0), (7, ptrAt (some ⟨g19, 0, none⟩) 0), (8, ptrAt (some ⟨g21, 0, none⟩) 0), (24, .slice a6 x5.length cp7), (25, .int .i64 (x5.length : Int)), (26, .int .i64 x11), (36, .agg #[.int .i64 x15.X, .int .i64 (w64 (x15.Y - 1))]), (42, .agg #[.int .i64 x15.X, .int .i64 (w64 (x15.Y + 1))])] [boxO 35 g19 [.int .i64 0, .int .i64 0], boxO 35 g21 [.int .i64 0, .int .i64 0]]) 1 ?_ ?_
    · intro g19 g21
      refine JH.must rfl (ef_store_box (i := 0) (v := .agg #[.int .i64 x15.X, .int .i64 (w64 (x15.Y - 1))]) i35 rfl rfl rfl (i35s).symm (Nat.le_of_ble_eq_true rfl) (by simp [Value.cells, Value.oneCell'])) rfl rfl ?_
      rintro _ _ rfl
      refine JH.must rfl (ef_store_box (i := 1) (v := .agg #[.int .i64 x15.X, .int .i64 (w64 (x15.Y + 1))]) i35 rfl rfl rfl (i35s).symm (Nat.le_of_ble_eq_true rfl) (by simp [Value.cells, Value.oneCell'])) rfl rfl ?_
      rintro _ _ rfl
      refine JH.nil ?_
      refine JE.weak (env' := [(1, ptrAt (some ⟨g1, 0, none⟩) 0), (4, .map (some g3)), (5, .int .i64 x11), (6, ptrAt (some ⟨g16, 0, none⟩) 0), (7, ptrAt (some ⟨g19, 0, none⟩) 0), (8, ptrAt (some ⟨g21, 0, none⟩) 0), (24, .slice a6 x5.length cp7), (25, .int .i64 (x5.length : Int)), (26, .int .i64 x11)]) (es' := [boxO 28 g1 [.int .i64 q0.W, .int .i64 q0.H, .slice a_0_2 q0.Breaks.length c_0_2], mapR eSPoint 35 eSPoint g3 [] mh13 x12, boxO 35 g16 [.int .i64 x15.X, .int .i64 x15.Y], boxO 35 g19 [.int .i64 x15.X, .int .i64 (w64 (x15.Y - 1))], boxO 35 g21 [.int .i64 x15.X, .int .i64 (w64 (x15.Y + 1))], rowT 35 eSPoint a6 x5.length cp7 x5]) [0, 1, 2, 4, 5, 3] ?_ ⟨rfl, rfl, rfl, rfl, rfl, rfl, rfl, rfl, rfl, trivial⟩ (by decide) rfl
      refine JE.code ?_
      refine JX.seq ?_
      refine JX.seq ?_
      refine JX.region ?_
      refine JL.val (yl_fieldAt (a := some _) Go.Proofs.Try.underlying28 rfl i22 i22n rfl rfl) rfl ?_
      refine JL.val (yl_load1 Go.Proofs.Try.underlying22 rfl rfl (fun w hC => rd_box hC 0 rfl) rfl) rfl ?_
      refine JL.val (yl_move rfl) rfl ?_
      obtain ⟨x23, hx23, hres⟩ := bind_some hres
      refine JL.val (yl_idxT Go.Proofs.Try.underlying22 i2 i2s rfl rfl hx23 rfl (fun w hC => rd_arg g_0_2 hC)) rfl ?_
      refine JL.val (yl_loadT0 Go.Proofs.Try.underlying2 rfl rfl hx23 (fun w hC => rd_arg g_0_2 hC) rfl) rfl ?_
      refine JL.val (yl_eql rfl rfl) rfl ?_
      refine JL.nil ?_
      refine JE.weak (env' := [(1, ptrAt (some ⟨g1, 0, none⟩) 0), (4, .map (some g3)), (5, .int .i64 x11), (6, ptrAt (some ⟨g16, 0, none⟩) 0), (7, ptrAt (some ⟨g19, 0, none⟩) 0), (8, ptrAt (some ⟨g21, 0, none⟩) 0), (24, .slice a6 x5.length cp7), (25, .int .i64 (x5.length : Int)), (26, .int .i64 x11), (48, .bool (x23 == 2))]) (es' := [boxO 28 g1 [.int .i64 q0.W, .int .i64 q0.H, .slice a_0_2 q0.Breaks.length c_0_2], mapR eSPoint 35 eSPoint g3 [] mh13 x12, boxO 35 g16 [.int .i64 x15.X, .int .i64 x15.Y], boxO 35 g19 [.int .i64 x15.X, .int .i64 (w64 (x15.Y - 1))], boxO 35 g21 [.int .i64 x15.X, .int .i64 (w64 (x15.Y + 1))], rowT 35 eSPoint a6 x5.length cp7 x5]) [0, 1, 2, 3, 4, 5] ?_ ⟨rfl, rfl, rfl, rfl, rfl, rfl, rfl, rfl, rfl, rfl, trivial⟩ (by decide) rfl
      refine JE.code ?_
      obtain ⟨j24, hj24, hresj24⟩ := bind_some hres
      refine JX.cut (K := fun J => J [(1, ptrAt (some ⟨g1, 0, none⟩) 0), (4, .map (some g3)), (5, .int .i64 x11), (7, ptrAt (some ⟨g19, 0, none⟩) 0), (8, ptrAt (some ⟨g21, 0, none⟩) 0), (24, .slice a6 x5.length cp7), (25, .int .i64 (x5.length : Int)), (26, .int .i64 x11)] [boxO 28 g1 [.int .i64 q0.W, .int .i64 q0.H, .slice a_0_2 q0.Breaks.length c_0_2], mapR eSPoint 35 eSPoint g3 [] mh13 x12, boxO 35 g19 [.int .i64 j24.1.X, .int .i64 j24.1.Y], boxO 35 g21 [.int .i64 j24.2.X, .int .i64 j24.2.Y], rowT 35 eSPoint a6 x5.length cp7 x5]) ?_ ?_
      · have hres := hresj24
        refine JE.code ?_
        refine JX.seq ?_
        refine JX.region ?_
        refine JL.val (yl_fieldAt (a := some _) Go.Proofs.Try.underlying28 rfl i22 i22n rfl rfl) rfl ?_
        refine JL.val (yl_load1 Go.Proofs.Try.underlying22 rfl rfl (fun w hC => rd_box hC 0 rfl) rfl) rfl ?_
        refine JL.val (yl_move rfl) rfl ?_
        obtain ⟨x25, hx25, hres⟩ := bind_some hres
        refine JL.val (yl_idxT Go.Proofs.Try.underlying22 i2 i2s rfl rfl hx25 rfl (fun w hC => rd_arg g_0_2 hC)) rfl ?_
        refine JL.val (yl_loadT0 Go.Proofs.Try.underlying2 rfl rfl hx25 (fun w hC => rd_arg g_0_2 hC) rfl) rfl ?_
        refine JL.val (yl_neq rfl rfl) rfl ?_
        refine JL.nil ?_
        refine JE.weak (env' := [(1, ptrAt (some ⟨g1, 0, none⟩) 0), (4, .map (some g3)), (7, ptrAt (some ⟨g19, 0, none⟩) 0), (8, ptrAt (some ⟨g21, 0, none⟩) 0), (24, .slice a6 x5.length cp7), (25, .int .i64 (x5.length : Int)), (26, .int .i64 x11), (66, .bool (x25 != 0))]) (es' := [boxO 28 g1 [.int .i64 q0.W, .int .i64 q0.H, .slice a_0_2 q0.Breaks.length c_0_2], mapR eSPoint 35 eSPoint g3 [] mh13 x12, boxO 35 g19 [.int .i64 j24.1.X, .int .i64 j24.1.Y], boxO 35 g21 [.int .i64 j24.2.X, .int .i64 j24.2.Y], rowT 35 eSPoint a6 x5.length cp7 x5]) [0, 1, 2, 3, 4] ?_ ⟨rfl, rfl, rfl, rfl, rfl, rfl, rfl, rfl, trivial⟩ (by decide) rfl
        refine JE.code ?_
        obtain ⟨j26, hj26, hresj26⟩ := bind_some hres
        refine JX.cut (K := fun J => ∀ (mh27 : List (SPoint × Hd)) (hi28 : InnM mh27 j26), J [(1, ptrAt (some ⟨g1, 0, none⟩) 0), (4, .map (some g3)), (24, .slice a6 x5.length cp7), (25, .int .i64 (x5.length : Int)), (26, .int .i64 x11)] [boxO 28 g1 [.int .i64 q0.W, .int .i64 q0.H, .slice a_0_2 q0.Breaks.length c_0_2], mapR eSPoint 35 eSPoint g3 [] mh27 j26, rowT 35 eSPoint a6 x5.length cp7 x5]) ?_ ?_
        · intro mh27 hi28
          have hres := hresj26
          refine JE.code ?_
          refine JX.region ?_
          refine JL.val (yl_add rfl rfl) rfl ?_
          refine JL.val (yl_move rfl) rfl ?_
          refine JL.nil ?_
          refine JE.cont hres ?_
          exact fun a w h => ⟨mh27, hi28, h.weak ⟨rfl, rfl, rfl, rfl, rfl, trivial⟩ [0, 1, 2] (by decide) rfl⟩
        · intro K
          rcases cond_some hj26 with ⟨hb, hres⟩ | ⟨hb, hres⟩
          · refine JX.condT rfl hb ?_
            obtain ⟨x29, hx29, hres⟩ := bind_some hres
            obtain ⟨ha30, hc31, hg32⟩ := InnM.get hi14 j24.2
            refine JX.mapout (es' := [boxO 28 g1 [.int .i64 q0.W, .int .i64 q0.H, .slice a_0_2 q0.Breaks.length c_0_2], boxO 35 g19 [.int .i64 j24.1.X, .int .i64 j24.1.Y], boxO 35 g21 [.int .i64 j24.2.X, .int .i64 j24.2.Y], rowT 35 eSPoint a6 x5.length cp7 x5]) [0, 2, 3, 4, 1] (by decide) rfl (k := j24.2) (by simp) hg32 ?_
            obtain ⟨ha34, hc35, hg36⟩ := InnM.get hi14 j24.1
            refine JX.mapout (es' := [boxO 28 g1 [.int .i64 q0.W, .int .i64 q0.H, .slice a_0_2 q0.Breaks.length c_0_2], boxO 35 g19 [.int .i64 j24.1.X, .int .i64 j24.1.Y], boxO 35 g21 [.int .i64 j24.2.X, .int .i64 j24.2.Y], rowT 35 eSPoint a6 x5.length cp7 x5, rowT 35 eSPoint ha30 ((rowOf x12 j24.2).length) hc31 (rowOf x12 j24.2)]) [0, 1, 2, 3, 5, 4] (by decide) rfl (k := j24.1) (by simpa using neqG_some hx29) hg36 ?_
            refine JX.drawH [(0, .pure), (1, .read), (2, .pure), (3, .read), (4, .pure), (5, .read), (7, .read), (10, .pure), (11, .read), (13, .read), (0, .tree (.alt 6 (.alt 8 (.alt 9 (.alt 12 (.alt 14 .done .nil) (.alt 14 (.alt 12 .done .nil) .nil)) (.alt 12 (.alt 9 (.alt 14 .done .nil) (.alt 14 (.alt 9 .done .nil) .nil)) (.alt 14 (.alt 9 (.alt 12 .done .nil) (.alt 12 (.alt 9 .done .nil) .nil)) .nil))) (.alt 12 (.alt 8 (.alt 9 (.alt 14 .done .nil) (.alt 14 (.alt 9 .done .nil) .nil)) (.alt 14 (.alt 8 (.alt 9 .done .nil) .nil) .nil)) (.alt 14 (.alt 8 (.alt 9 (.alt 12 .done .nil) (.alt 12 (.alt 9 .done .nil) .nil)) (.alt 12 (.alt 8 (.alt 9 .done .nil) .nil) .nil)) .nil))) (.alt 8 (.alt 6 (.alt 9 (.alt 12 (.alt 14 .done .nil) (.alt 14 (.alt 12 .done .nil) .nil)) (.alt 12 (.alt 9 (.alt 14 .done .nil) (.alt 14 (.alt 9 .done .nil) .nil)) (.alt 14 (.alt 9 (.alt 12 .done .nil) (.alt 12 (.alt 9 .done .nil) .nil)) .nil))) (.alt 12 (.alt 6 (.alt 9 (.alt 14 .done .nil) (.alt 14 (.alt 9 .done .nil) .nil)) (.alt 14 (.alt 6 (.alt 9 .done .nil) .nil) .nil)) (.alt 14 (.alt 6 (.alt 9 (.alt 12 .done .nil) (.alt 12 (.alt 9 .done .nil) .nil)) (.alt 12 (.alt 6 (.alt 9 .done .nil) .nil) .nil)) .nil))) (.alt 12 (.alt 6 (.alt 8 (.alt 9 (.alt 14 .done .nil) (.alt 14 (.alt 9 .done .nil) .nil)) (.alt 14 (.alt 8 (.alt 9 .done .nil) .nil) .nil)) (.alt 8 (.alt 6 (.alt 9 (.alt 14 .done .nil) (.alt 14 (.alt 9 .done .nil) .nil)) (.alt 14 (.alt 6 (.alt 9 .done .nil) .nil) .nil)) (.alt 14 (.alt 6 (.alt 8 (.alt 9 .done .nil) .nil) (.alt 8 (.alt 6 (.alt 9 .done .nil) .nil) .nil)) .nil))) (.alt 14 (.alt 6 (.alt 8 (.alt 9 (.alt 12 .done .nil) (.alt 12 (.alt 9 .done .nil) .nil)) (.alt 12 (.alt 8 (.alt 9 .done .nil) .nil) .nil)) (.alt 8 (.alt 6 (.alt 9 (.alt 12 .done .nil) (.alt 12 (.alt 9 .done .nil) .nil)) (.alt 12 (.alt 6 (.alt 9 .done .nil) .nil) .nil)) (.alt 12 (.alt 6 (.alt 8 (.alt 9 .done .nil) .nil) (.alt 8 (.alt 6 (.alt 9 .done .nil) .nil) .nil)) .nil))) .nil))))), (15, .must), (16, .must), (17, .pure), (18, .must), (19, .must)] [9, 15, 16, 18, 19] [5, 6, 4] [0, 1, 2, 3] [mapR eSPoint 35 eSPoint g3 [j24.1, j24.2] mh13 x12, rowT 35 eSPoint ha34 ((rowOf x12 j24.1).length) hc35 (rowOf x12 j24.1), rowT 35 eSPoint ha30 ((rowOf x12 j24.2).length) hc31 (rowOf x12 j24.2)] [boxO 28 g1 [.int .i64 q0.W, .int .i64 q0.H, .slice a_0_2 q0.Breaks.length c_0_2], boxO 35 g19 [.int .i64 j24.1.X, .int .i64 j24.1.Y], boxO 35 g21 [.int .i64 j24.2.X, .int .i64 j24.2.Y], rowT 35 eSPoint a6 x5.length cp7 x5] mixedP (by kernel_rfl) (by kernel_rfl) (by decide) rfl rfl ?_
            intro wrr38 Nr38 hFr38
            refine JH.pure rfl (yl_move rfl) rfl ?_
            refine JH.read rfl (yl_loadn Go.Proofs.Try.underlying35 rfl i35 rfl (fun w hw => hFr38.box 1 rfl rfl hw) rfl (i35s).symm i35p) rfl ?_
            refine JH.pure rfl (yl_move rfl) rfl ?_
            refine JH.read rfl (yl_loadn Go.Proofs.Try.underlying35 rfl i35 rfl (fun w hw => hFr38.box 2 rfl rfl hw) rfl (i35s).symm i35p) rfl ?_
            refine JH.pure rfl (yl_move rfl) rfl ?_
            refine JH.read rfl (yl_loadn Go.Proofs.Try.underlying35 rfl i35 rfl (fun w hw => hFr38.box 1 rfl rfl hw) rfl (i35s).symm i35p) rfl ?_
            refine JH.read rfl (yl_loadn Go.Proofs.Try.underlying35 rfl i35 rfl (fun w hw => hFr38.box 2 rfl rfl hw) rfl (i35s).symm i35p) rfl ?_
            refine JH.pure rfl (yl_move rfl) rfl ?_
            refine JH.read rfl (yl_loadn Go.Proofs.Try.underlying35 rfl i35 rfl (fun w hw => hFr38.box 2 rfl rfl hw) rfl (i35s).symm i35p) rfl ?_
            refine JH.read rfl (yl_loadn Go.Proofs.Try.underlying35 rfl i35 rfl (fun w hw => hFr38.box 1 rfl rfl hw) rfl (i35s).symm i35p) rfl ?_
            obtain ⟨x639, hx639, hres⟩ := bind_some hres
            refine JH.cutS (K := fun J => ∀ (a640 : Option Addr) (cp641 : Nat) (a339 : Option Addr) (a1239 : Option Addr), J [(1, ptrAt (some ⟨g1, 0, none⟩) 0), (4, .map (some g3)), (24, .slice a6 x5.length cp7), (25, .int .i64 (x5.length : Int)), (26, .int .i64 x11), (67, .map (some g3)), (68, .agg #[.int .i64 j24.1.X, .int .i64 j24.1.Y]), (69, .map (some g3)), (70, .agg #[.int .i64 j24.2.X, .int .i64 j24.2.Y]), (76, .slice a640 x639.length cp641), (79, .slice ha30 ((rowOf x12 j24.2).length) hc31), (81, .slice a1239 1 1)] [mapR eSPoint 35 eSPoint g3 [j24.1, j24.2] mh13 x12, rowT 35 eSPoint a640 x639.length cp641 x639, rowT 35 eSPoint ha30 ((rowOf x12 j24.2).length) hc31 (rowOf x12 j24.2), rowT 35 eSPoint a339 1 1 [j24.2], rowT 35 eSPoint a1239 1 1 [j24.1]]) false 1 ?_ ?_
            · intro a640 cp641 a339 a1239
              obtain ⟨x1539, hx1539, hres⟩ := bind_some hres
              refine JH.must rfl (ef_appendT (ix := 2) Go.Proofs.Try.underlying61 i35 i35z i35s rfl i35b0 i35b1 rfl rfl rfl rfl rfl (fun w hC => rd_row hC 4 rfl) hx1539) rfl rfl ?_
              rintro _ _ ⟨a1540, cp1541, rfl, rfl⟩
              refine JH.must rfl (ef_mapEntry (i := 0) (k := j24.1) Go.Proofs.Try.underlying146 zv61 keyOk35 rfl rfl rfl (by simp)) rfl rfl ?_
              rintro _ _ ⟨v1542, j1543, u1544, hj1545, rfl, rfl⟩
              refine JH.pure rfl (yl_extract rfl rfl) rfl ?_
              refine JH.must rfl (ef_entryStore (i := 0) (k := j24.1) (mh := mh13) rfl rfl rfl hj1545 rfl (by simp)) rfl rfl ?_
              rintro _ _ rfl
              refine JH.must rfl (ef_mapUpdR (i := 0) (k := j24.2) Go.Proofs.Try.underlying146 keyOk35 rfl rfl rfl rfl (by simp)) rfl rfl ?_
              rintro _ _ rfl
              refine JH.nil ?_
              refine JE.mapin (es' := [boxO 28 g1 [.int .i64 q0.W, .int .i64 q0.H, .slice a_0_2 q0.Breaks.length c_0_2], boxO 35 g19 [.int .i64 j24.1.X, .int .i64 j24.1.Y], boxO 35 g21 [.int .i64 j24.2.X, .int .i64 j24.2.Y], rowT 35 eSPoint a6 x5.length cp7 x5, rowT 35 eSPoint a1540 x1539.length cp1541 x1539, rowT 35 eSPoint a339 1 1 [j24.2], rowT 35 eSPoint a1239 1 1 [j24.1]]) [0, 1, 2, 3, 6, 7, 8, 4, 5] (by decide) (x := x639) rfl (k := j24.1) (by simpa using neqG_some hx29) (by rw [hdOf_put, if_neg (neqG_some hx29), hdOf_put, if_pos rfl]) ?_
              refine JE.mapin (es' := [boxO 28 g1 [.int .i64 q0.W, .int .i64 q0.H, .slice a_0_2 q0.Breaks.length c_0_2], boxO 35 g19 [.int .i64 j24.1.X, .int .i64 j24.1.Y], boxO 35 g21 [.int .i64 j24.2.X, .int .i64 j24.2.Y], rowT 35 eSPoint a6 x5.length cp7 x5, rowT 35 eSPoint a339 1 1 [j24.2], rowT 35 eSPoint a1239 1 1 [j24.1]]) [0, 1, 2, 3, 5, 6, 7, 4] (by decide) (x := x1539) rfl (k := j24.2) (by simp) (by rw [hdOf_put, if_pos rfl]) ?_
              refine JE.weak (env' := [(1, ptrAt (some ⟨g1, 0, none⟩) 0), (4, .map (some g3)), (24, .slice a6 x5.length cp7), (25, .int .i64 (x5.length : Int)), (26, .int .i64 x11)]) (es' := [boxO 28 g1 [.int .i64 q0.W, .int .i64 q0.H, .slice a_0_2 q0.Breaks.length c_0_2], mapR eSPoint 35 eSPoint g3 [] (mput (mput mh13 j24.1 ⟨a640, x639.length, cp641⟩) j24.2 ⟨a1540, x1539.length, cp1541⟩) (mput (mput x12 j24.1 x639) j24.2 x1539), rowT 35 eSPoint a6 x5.length cp7 x5]) [0, 6, 3] ?_ ⟨rfl, rfl, rfl, rfl, rfl, trivial⟩ (by decide) rfl
              have hj := Option.some.inj hres
              exact JE.weak [0, 1, 2] (K (mput (mput mh13 j24.1 ⟨a640, x639.length, cp641⟩) j24.2 ⟨a1540, x1539.length, cp1541⟩) (by subst hj; exact (InnM.put (InnM.put hi14 j24.1 rfl) j24.2 rfl))) ⟨(by subst hj; rfl), (by subst hj; rfl), (by subst hj; rfl), (by subst hj; rfl), (by subst hj; rfl), trivial⟩ (by decide) (by subst hj; rfl)
            · intro K
              refine JH.talt ?_ ?_
              · refine JH.mval rfl (yl_lookR (mh := mh13) (k := j24.1) Go.Proofs.Try.underlying146 zv61 keyOk35 rfl rfl hg36 (fun w hC => rd_mapR hC 0 rfl)) rfl ?_
                refine JH.talt ?_ ?_
                · refine JH.must rfl (ef_buildSlice (E := 35) (k := eSPoint.k) (us := eSPoint.fl [j24.2]) rfl (fun w => bsl61_1 j24.2.X j24.2.Y w) rfl (by decide)) rfl rfl ?_
                  rintro _ _ ⟨a339, rfl, rfl⟩
                  refine JH.talt ?_ ?_
                  · refine JH.must rfl (ef_appendT (ix := 1) Go.Proofs.Try.underlying61 i35 i35z i35s rfl i35b0 i35b1 rfl rfl rfl rfl rfl (fun w hC => rd_row hC 3 rfl) hx639) rfl rfl ?_
                    rintro _ _ ⟨a640, cp641, rfl, rfl⟩
                    refine JH.talt ?_ ?_
                    · refine JH.mval rfl (yl_lookR (mh := mh13) (k := j24.2) Go.Proofs.Try.underlying146 zv61 keyOk35 rfl rfl hg32 (fun w hC => rd_mapR hC 0 rfl)) rfl ?_
                      refine JH.talt ?_ ?_
                      · refine JH.must rfl (ef_buildSlice (E := 35) (k := eSPoint.k) (us := eSPoint.fl [j24.1]) rfl (fun w => bsl61_1 j24.1.X j24.1.Y w) rfl (by decide)) rfl rfl ?_
                        rintro _ _ ⟨a1239, rfl, rfl⟩
                        refine JH.tdone ?_
                        exact JH.weak [0, 1, 2, 3, 4] (K a640 cp641 a339 a1239) ⟨rfl, rfl, rfl, rfl, rfl, rfl, rfl, rfl, rfl, rfl, rfl, rfl, trivial⟩ (by decide) rfl
                      · exact JH.tnil
                    · refine JH.talt ?_ ?_
                      · refine JH.must rfl (ef_buildSlice (E := 35) (k := eSPoint.k) (us := eSPoint.fl [j24.1]) rfl (fun w => bsl61_1 j24.1.X j24.1.Y w) rfl (by decide)) rfl rfl ?_
                        rintro _ _ ⟨a1239, rfl, rfl⟩
                        refine JH.talt ?_ ?_
                        · refine JH.mval rfl (yl_lookR (mh := mh13) (k := j24.2) Go.Proofs.Try.underlying146 zv61 keyOk35 rfl rfl hg32 (fun w hC => rd_mapR hC 0 rfl)) rfl ?_
                          refine JH.tdone ?_
                          exact JH.weak [0, 1, 2, 3, 4] (K a640 cp641 a339 a1239) ⟨rfl, rfl, rfl, rfl, rfl, rfl, rfl, rfl, rfl, rfl, rfl, rfl, trivial⟩ (by decide) rfl
                        · exact JH.tnil
                      · exact JH.tnil
                  · refine JH.talt ?_ ?_
                    · refine JH.mval rfl (yl_lookR (mh := mh13) (k := j24.2) Go.Proofs.Try.underlying146 zv61 keyOk35 rfl rfl hg32 (fun w hC => rd_mapR hC 0 rfl)) rfl ?_
                      refine JH.talt ?_ ?_
                      · refine JH.must rfl (ef_appendT (ix := 1) Go.Proofs.Try.underlying61 i35 i35z i35s rfl i35b0 i35b1 rfl rfl rfl rfl rfl (fun w hC => rd_row hC 3 rfl) hx639) rfl rfl ?_
                        rintro _ _ ⟨a640, cp641, rfl, rfl⟩
                        refine JH.talt ?_ ?_
                        · refine JH.must rfl (ef_buildSlice (E := 35) (k := eSPoint.k) (us := eSPoint.fl [j24.1]) rfl (fun w => bsl61_1 j24.1.X j24.1.Y w) rfl (by decide)) rfl rfl ?_
                          rintro _ _ ⟨a1239, rfl, rfl⟩
                          refine JH.tdone ?_
                          exact JH.weak [0, 1, 2, 3, 4] (K a640 cp641 a339 a1239) ⟨rfl, rfl, rfl, rfl, rfl, rfl, rfl, rfl, rfl, rfl, rfl, rfl, trivial⟩ (by decide) rfl
                        · exact JH.tnil
                      · refine JH.talt ?_ ?_
                        · refine JH.must rfl (ef_buildSlice (E := 35) (k := eSPoint.k) (us := eSPoint.fl [j24.1]) rfl (fun w => bsl61_1 j24.1.X j24.1.Y w) rfl (by decide)) rfl rfl ?_
                          rintro _ _ ⟨a1239, rfl, rfl⟩
                          refine JH.talt ?_ ?_
                          · refine JH.must rfl (ef_appendT (ix := 1) Go.Proofs.Try.underlying61 i35 i35z i35s rfl i35b0 i35b1 rfl rfl rfl rfl rfl (fun w hC => rd_row hC 3 rfl) hx639) rfl rfl ?_
                            rintro _ _ ⟨a640, cp641, rfl, rfl⟩
                            refine JH.tdone ?_
                            exact JH.weak [0, 1, 2, 3, 4] (K a640 cp641 a339 a1239) ⟨rfl, rfl, rfl, rfl, rfl, rfl, rfl, rfl, rfl, rfl, rfl, rfl, trivial⟩ (by decide) rfl
                          · exact JH.tnil
                        · exact JH.tnil
                    · refine JH.talt ?_ ?_
                      · refine JH.must rfl (ef_buildSlice (E := 35) (k := eSPoint.k) (us := eSPoint.fl [j24.1]) rfl (fun w => bsl61_1 j24.1.X j24.1.Y w) rfl (by decide)) rfl rfl ?_
                        rintro _ _ ⟨a1239, rfl, rfl⟩
                        refine JH.talt ?_ ?_
                        · refine JH.must rfl (ef_appendT (ix := 1) Go.Proofs.Try.underlying61 i35 i35z i35s rfl i35b0 i35b1 rfl rfl rfl rfl rfl (fun w hC => rd_row hC 3 rfl) hx639) rfl rfl ?_
                          rintro _ _ ⟨a640, cp641, rfl, rfl⟩
                          refine JH.talt ?_ ?_
                          · refine JH.mval rfl (yl_lookR (mh := mh13) (k := j24.2) Go.Proofs.Try.underlying146 zv61 keyOk35 rfl rfl hg32 (fun w hC => rd_mapR hC 0 rfl)) rfl ?_
                            refine JH.tdone ?_
                            exact JH.weak [0, 1, 2, 3, 4] (K a640 cp641 a339 a1239) ⟨rfl, rfl, rfl, rfl, rfl, rfl, rfl, rfl, rfl, rfl, rfl, rfl, trivial⟩ (by decide) rfl
                          · exact JH.tnil
                        · refine JH.talt ?_ ?_
                          · refine JH.mval rfl (yl_lookR (mh := mh13) (k := j24.2) Go.Proofs.Try.underlying146 zv61 keyOk35 rfl rfl hg32 (fun w hC => rd_mapR hC 0 rfl)) rfl ?_
                            refine JH.talt ?_ ?_
                            · refine JH.must rfl (ef_appendT (ix := 1) Go.Proofs.Try.underlying61 i35 i35z i35s rfl i35b0 i35b1 rfl rfl rfl rfl rfl (fun w hC => rd_row hC 3 rfl) hx639) rfl rfl ?_
                              rintro _ _ ⟨a640, cp641, rfl, rfl⟩
                              refine JH.tdone ?_
                              exact JH.weak [0, 1, 2, 3, 4] (K a640 cp641 a339 a1239) ⟨rfl, rfl, rfl, rfl, rfl, rfl, rfl, rfl, rfl, rfl, rfl, rfl, trivial⟩ (by decide) rfl
                            · exact JH.tnil
                          · exact JH.tnil
                      · exact JH.tnil
                · refine JH.talt ?_ ?_
                  · refine JH.mval rfl (yl_lookR (mh := mh13) (k := j24.2) Go.Proofs.Try.underlying146 zv61 keyOk35 rfl rfl hg32 (fun w hC => rd_mapR hC 0 rfl)) rfl ?_
                    refine JH.talt ?_ ?_
                    · refine JH.must rfl (ef_buildSlice (E := 35) (k := eSPoint.k) (us := eSPoint.fl [j24.2]) rfl (fun w => bsl61_1 j24.2.X j24.2.Y w) rfl (by decide)) rfl rfl ?_
                      rintro _ _ ⟨a339, rfl, rfl⟩
                      refine JH.talt ?_ ?_
                      · refine JH.must rfl (ef_appendT (ix := 1) Go.Proofs.Try.underlying61 i35 i35z i35s rfl i35b0 i35b1 rfl rfl rfl rfl rfl (fun w hC => rd_row hC 3 rfl) hx639) rfl rfl ?_
                        rintro _ _ ⟨a640, cp641, rfl, rfl⟩
                        refine JH.talt ?_ ?_
                        · refine JH.must rfl (ef_buildSlice (E := 35) (k := eSPoint.k) (us := eSPoint.fl [j24.1]) rfl (fun w => bsl61_1 j24.1.X j24.1.Y w) rfl (by decide)) rfl rfl ?_
                          rintro _ _ ⟨a1239, rfl, rfl⟩
                          refine JH.tdone ?_
                          exact JH.weak [0, 1, 2, 3, 4] (K a640 cp641 a339 a1239) ⟨rfl, rfl, rfl, rfl, rfl, rfl, rfl, rfl, rfl, rfl, rfl, rfl, trivial⟩ (by decide) rfl
                        · exact JH.tnil
                      · refine JH.talt ?_ ?_
                        · refine JH.must rfl (ef_buildSlice (E := 35) (k := eSPoint.k) (us := eSPoint.fl [j24.1]) rfl (fun w => bsl61_1 j24.1.X j24.1.Y w) rfl (by decide)) rfl rfl ?_
                          rintro _ _ ⟨a1239, rfl, rfl⟩
                          refine JH.talt ?_ ?_
                          · refine JH.must rfl (ef_appendT (ix := 1) Go.Proofs.Try.underlying61 i35 i35z i35s rfl i35b0 i35b1 rfl rfl rfl rfl rfl (fun w hC => rd_row hC 3 rfl) hx639) rfl rfl ?_
                            rintro _ _ ⟨a640, cp641, rfl, rfl⟩
                            refine JH.tdone ?_
                            exact JH.weak [0, 1, 2, 3, 4] (K a640 cp641 a339 a1239) ⟨rfl, rfl, rfl, rfl, rfl, rfl, rfl, rfl, rfl, rfl, rfl, rfl, trivial⟩ (by decide) rfl
                          · exact JH.tnil
                        · exact JH.tnil
                    · refine JH.talt ?_ ?_
                      · refine JH.must rfl (ef_buildSlice (E := 35) (k := eSPoint.k) (us := eSPoint.fl [j24.1]) rfl (fun w => bsl61_1 j24.1.X j24.1.Y w) rfl (by decide)) rfl rfl ?_
                        rintro _ _ ⟨a1239, rfl, rfl⟩
                        refine JH.talt ?_ ?_
                        · refine JH.must rfl (ef_buildSlice (E := 35) (k := eSPoint.k) (us := eSPoint.fl [j24.2]) rfl (fun w => bsl61_1 j24.2.X j24.2.Y w) rfl (by decide)) rfl rfl ?_
                          rintro _ _ ⟨a339, rfl, rfl⟩
                          refine JH.talt ?_ ?_
                          · refine JH.must rfl (ef_appendT (ix := 1) Go.Proofs.Try.underlying61 i35 i35z i35s rfl i35b0 i35b1 rfl rfl rfl rfl rfl (fun w hC => rd_row hC 4 rfl) hx639) rfl rfl ?_
                            rintro _ _ ⟨a640, cp641, rfl, rfl⟩
                            refine JH.tdone ?_
                            exact JH.weak [0, 1, 2, 4, 3] (K a640 cp641 a339 a1239) ⟨rfl, rfl, rfl, rfl, rfl, rfl, rfl, rfl, rfl, rfl, rfl, rfl, trivial⟩ (by decide) rfl
                          · exact JH.tnil
                        · exact JH.tnil
                      · exact JH.tnil
                  · refine JH.talt ?_ ?_
                    · refine JH.must rfl (ef_buildSlice (E := 35) (k := eSPoint.k) (us := eSPoint.fl [j24.1]) rfl (fun w => bsl61_1 j24.1.X j24.1.Y w) rfl (by decide)) rfl rfl ?_
                      rintro _ _ ⟨a1239, rfl, rfl⟩
                      refine JH.talt ?_ ?_
                      · refine JH.must rfl (ef_buildSlice (E := 35) (k := eSPoint.k) (us := eSPoint.fl [j24.2]) rfl (fun w => bsl61_1 j24.2.X j24.2.Y w) rfl (by decide)) rfl rfl ?_
                        rintro _ _ ⟨a339, rfl, rfl⟩
                        refine JH.talt ?_ ?_
                        · refine JH.must rfl (ef_appendT (ix := 1) Go.Proofs.Try.underlying61 i35 i35z i35s rfl i35b0 i35b1 rfl rfl rfl rfl rfl (fun w hC => rd_row hC 4 rfl) hx639) rfl rfl ?_
                          rintro _ _ ⟨a640, cp641, rfl, rfl⟩
                          refine JH.talt ?_ ?_
                          · refine JH.mval rfl (yl_lookR (mh := mh13) (k := j24.2) Go.Proofs.Try.underlying146 zv61 keyOk35 rfl rfl hg32 (fun w hC => rd_mapR hC 0 rfl)) rfl ?_
                            refine JH.tdone ?_
                            exact JH.weak [0, 1, 2, 4, 3] (K a640 cp641 a339 a1239) ⟨rfl, rfl, rfl, rfl, rfl, rfl, rfl, rfl, rfl, rfl, rfl, rfl, trivial⟩ (by decide) rfl
                          · exact JH.tnil
                        · refine JH.talt ?_ ?_
                          · refine JH.mval rfl (yl_lookR (mh := mh13) (k := j24.2) Go.Proofs.Try.underlying146 zv61 keyOk35 rfl rfl hg32 (fun w hC => rd_mapR hC 0 rfl)) rfl ?_
                            refine JH.talt ?_ ?_
                            · refine JH.must rfl (ef_appendT (ix := 1) Go.Proofs.Try.underlying61 i35 i35z i35s rfl i35b0 i35b1 rfl rfl rfl rfl rfl (fun w hC => rd_row hC 4 rfl) hx639) rfl rfl ?_
                              rintro _ _ ⟨a640, cp641, rfl, rfl⟩
                              refine JH.tdone ?_
                              exact JH.weak [0, 1, 2, 4, 3] (K a640 cp641 a339 a1239) ⟨rfl, rfl, rfl, rfl, rfl, rfl, rfl, rfl, rfl, rfl, rfl, rfl, trivial⟩ (by decide) rfl
                            · exact JH.tnil
                          · exact JH.tnil
                      · refine JH.talt ?_ ?_
                        · refine JH.mval rfl (yl_lookR (mh := mh13) (k := j24.2) Go.Proofs.Try.underlying146 zv61 keyOk35 rfl rfl hg32 (fun w hC => rd_mapR hC 0 rfl)) rfl ?_
                          refine JH.talt ?_ ?_
                          · refine JH.must rfl (ef_buildSlice (E := 35) (k := eSPoint.k) (us := eSPoint.fl [j24.2]) rfl (fun w => bsl61_1 j24.2.X j24.2.Y w) rfl (by decide)) rfl rfl ?_
                            rintro _ _ ⟨a339, rfl, rfl⟩
                            refine JH.talt ?_ ?_
                            · refine JH.must rfl (ef_appendT (ix := 1) Go.Proofs.Try.underlying61 i35 i35z i35s rfl i35b0 i35b1 rfl rfl rfl rfl rfl (fun w hC => rd_row hC 4 rfl) hx639) rfl rfl ?_
                              rintro _ _ ⟨a640, cp641, rfl, rfl⟩
                              refine JH.tdone ?_
                              exact JH.weak [0, 1, 2, 4, 3] (K a640 cp641 a339 a1239) ⟨rfl, rfl, rfl, rfl, rfl, rfl, rfl, rfl, rfl, rfl, rfl, rfl, trivial⟩ (by decide) rfl
                            · exact JH.tnil
                          · exact JH.tnil
                        · exact JH.tnil
                    · exact JH.tnil
              · refine JH.talt ?_ ?_
                · refine JH.must rfl (ef_buildSlice (E := 35) (k := eSPoint.k) (us := eSPoint.fl [j24.2]) rfl (fun w => bsl61_1 j24.2.X j24.2.Y w) rfl (by decide)) rfl rfl ?_
                  rintro _ _ ⟨a339, rfl, rfl⟩
                  refine JH.talt ?_ ?_
                  · refine JH.mval rfl (yl_lookR (mh := mh13) (k := j24.1) Go.Proofs.Try.underlying146 zv61 keyOk35 rfl rfl hg36 (fun w hC => rd_mapR hC 0 rfl)) rfl ?_
                    refine JH.talt ?_ ?_
                    · refine JH.must rfl (ef_appendT (ix := 1) Go.Proofs.Try.underlying61 i35 i35z i35s rfl i35b0 i35b1 rfl rfl rfl rfl rfl (fun w hC => rd_row hC 3 rfl) hx639) rfl rfl ?_
                      rintro _ _ ⟨a640, cp641, rfl, rfl⟩
                      refine JH.talt ?_ ?_
                      · refine JH.mval rfl (yl_lookR (mh := mh13) (k := j24.2) Go.Proofs.Try.underlying146 zv61 keyOk35 rfl rfl hg32 (fun w hC => rd_mapR hC 0 rfl)) rfl ?_
                        refine JH.talt ?_ ?_
                        · refine JH.must rfl (ef_buildSlice (E := 35) (k := eSPoint.k) (us := eSPoint.fl [j24.1]) rfl (fun w => bsl61_1 j24.1.X j24.1.Y w) rfl (by decide)) rfl rfl ?_
                          rintro _ _ ⟨a1239, rfl, rfl⟩
                          refine JH.tdone ?_
                          exact JH.weak [0, 1, 2, 3, 4] (K a640 cp641 a339 a1239) ⟨rfl, rfl, rfl, rfl, rfl, rfl, rfl, rfl, rfl, rfl, rfl, rfl, trivial⟩ (by decide) rfl
                        · exact JH.tnil
                      · refine JH.talt ?_ ?_
                        · refine JH.must rfl (ef_buildSlice (E := 35) (k := eSPoint.k) (us := eSPoint.fl [j24.1]) rfl (fun w => bsl61_1 j24.1.X j24.1.Y w) rfl (by decide)) rfl rfl ?_
                          rintro _ _ ⟨a1239, rfl, rfl⟩
                          refine JH.talt ?_ ?_
                          · refine JH.mval rfl (yl_lookR (mh := mh13) (k := j24.2) Go.Proofs.Try.underlying146 zv61 keyOk35 rfl rfl hg32 (fun w hC => rd_mapR hC 0 rfl)) rfl ?_
                            refine JH.tdone ?_
                            exact JH.weak [0, 1, 2, 3, 4] (K a640 cp641 a339 a1239) ⟨rfl, rfl, rfl, rfl, rfl, rfl, rfl, rfl, rfl, rfl, rfl, rfl, trivial⟩ (by decide) rfl
                          · exact JH.tnil
                        · exact JH.tnil
                    · refine JH.talt ?_ ?_
                      · refine JH.mval rfl (yl_lookR (mh := mh13) (k := j24.2) Go.Proofs.Try.underlying146 zv61 keyOk35 rfl rfl hg32 (fun w hC => rd_mapR hC 0 rfl)) rfl ?_
                        refine JH.talt ?_ ?_
                        · refine JH.must rfl (ef_appendT (ix := 1) Go.Proofs.Try.underlying61 i35 i35z i35s rfl i35b0 i35b1 rfl rfl rfl rfl rfl (fun w hC => rd_row hC 3 rfl) hx639) rfl rfl ?_
                          rintro _ _ ⟨a640, cp641, rfl, rfl⟩
                          refine JH.talt ?_ ?_
                          · refine JH.must rfl (ef_buildSlice (E := 35) (k := eSPoint.k) (us := eSPoint.fl [j24.1]) rfl (fun w => bsl61_1 j24.1.X j24.1.Y w) rfl (by decide)) rfl rfl ?_
                            rintro _ _ ⟨a1239, rfl, rfl⟩
                            refine JH.tdone ?_
                            exact JH.weak [0, 1, 2, 3, 4] (K a640 cp641 a339 a1239) ⟨rfl, rfl, rfl, rfl, rfl, rfl, rfl, rfl, rfl, rfl, rfl, rfl, trivial⟩ (by decide) rfl
                          · exact JH.tnil
                        · refine JH.talt ?_ ?_
                          · refine JH.must rfl (ef_buildSlice (E := 35) (k := eSPoint.k) (us := eSPoint.fl [j24.1]) rfl (fun w => bsl61_1 j24.1.X j24.1.Y w) rfl (by decide)) rfl rfl ?_
                            rintro _ _ ⟨a1239, rfl, rfl⟩
                            refine JH.talt ?_ ?_
                            · refine JH.must rfl (ef_appendT (ix := 1) Go.Proofs.Try.underlying61 i35 i35z i35s rfl i35b0 i35b1 rfl rfl rfl rfl rfl (fun w hC => rd_row hC 3 rfl) hx639) rfl rfl ?_
                              rintro _ _ ⟨a640, cp641, rfl, rfl⟩
                              refine JH.tdone ?_
                              exact JH.weak [0, 1, 2, 3, 4] (K a640 cp641 a339 a1239) ⟨rfl, rfl, rfl, rfl, rfl, rfl, rfl, rfl, rfl, rfl, rfl, rfl, trivial⟩ (by decide) rfl
                            · exact JH.tnil
                          · exact JH.tnil
                      · refine JH.talt ?_ ?_
                        · refine JH.must rfl (ef_buildSlice (E := 35) (k := eSPoint.k) (us := eSPoint.fl [j24.1]) rfl (fun w => bsl61_1 j24.1.X j24.1.Y w) rfl (by decide)) rfl rfl ?_
                          rintro _ _ ⟨a1239, rfl, rfl⟩
                          refine JH.talt ?_ ?_
                          · refine JH.must rfl (ef_appendT (ix := 1) Go.Proofs.Try.underlying61 i35 i35z i35s rfl i35b0 i35b1 rfl rfl rfl rfl rfl (fun w hC => rd_row hC 3 rfl) hx639) rfl rfl ?_
                            rintro _ _ ⟨a640, cp641, rfl, rfl⟩
                            refine JH.talt ?_ ?_
                            · refine JH.mval rfl (yl_lookR (mh := mh13) (k := j24.2) Go.Proofs.Try.underlying146 zv61 keyOk35 rfl rfl hg32 (fun w hC => rd_mapR hC 0 rfl)) rfl ?_
                              refine JH.tdone ?_
                              exact JH.weak [0, 1, 2, 3, 4] (K a640 cp641 a339 a1239) ⟨rfl, rfl, rfl, rfl, rfl, rfl, rfl, rfl, rfl, rfl, rfl, rfl, trivial⟩ (by decide) rfl
                            · exact JH.tnil
                          · refine JH.talt ?_ ?_
                            · refine JH.mval rfl (yl_lookR (mh := mh13) (k := j24.2) Go.Proofs.Try.underlying146 zv61 keyOk35 rfl rfl hg32 (fun w hC => rd_mapR hC 0 rfl)) rfl ?_
                              refine JH.talt ?_ ?_
                              · refine JH.must rfl (ef_appendT (ix := 1) Go.Proofs.Try.underlying61 i35 i35z i35s rfl i35b0 i35b1 rfl rfl rfl rfl rfl (fun w hC => rd_row hC 3 rfl) hx639) rfl rfl ?_
                                rintro _ _ ⟨a640, cp641, rfl, rfl⟩
                                refine JH.tdone ?_
                                exact JH.weak [0, 1, 2, 3, 4] (K a640 cp641 a339 a1239) ⟨rfl, rfl, rfl, rfl, rfl, rfl, rfl, rfl, rfl, rfl, rfl, rfl, trivial⟩ (by decide) rfl
                              · exact JH.tnil
                            · exact JH.tnil
                        · exact JH.tnil
                  · refine JH.talt ?_ ?_
                    · refine JH.mval rfl (yl_lookR (mh := mh13) (k := j24.2) Go.Proofs.Try.underlying146 zv61 keyOk35 rfl rfl hg32 (fun w hC => rd_mapR hC 0 rfl)) rfl ?_
                      refine JH.talt ?_ ?_
                      · refine JH.mval rfl (yl_lookR (mh := mh13) (k := j24.1) Go.Proofs.Try.underlying146 zv61 keyOk35 rfl rfl hg36 (fun w hC => rd_mapR hC 0 rfl)) rfl ?_
                        refine JH.talt ?_ ?_
                        · refine JH.must rfl (ef_appendT (ix := 1) Go.Proofs.Try.underlying61 i35 i35z i35s rfl i35b0 i35b1 rfl rfl rfl rfl rfl (fun w hC => rd_row hC 3 rfl) hx639) rfl rfl ?_
                          rintro _ _ ⟨a640, cp641, rfl, rfl⟩
                          refine JH.talt ?_ ?_
                          · refine JH.must rfl (ef_buildSlice (E := 35) (k := eSPoint.k) (us := eSPoint.fl [j24.1]) rfl (fun w => bsl61_1 j24.1.X j24.1.Y w) rfl (by decide)) rfl rfl ?_
                            rintro _ _ ⟨a1239, rfl, rfl⟩
                            refine JH.tdone ?_
                            exact JH.weak [0, 1, 2, 3, 4] (K a640 cp641 a339 a1239) ⟨rfl, rfl, rfl, rfl, rfl, rfl, rfl, rfl, rfl, rfl, rfl, rfl, trivial⟩ (by decide) rfl
                          · exact JH.tnil
                        · refine JH.talt ?_ ?_
                          · refine JH.must rfl (ef_buildSlice (E := 35) (k := eSPoint.k) (us := eSPoint.fl [j24.1]) rfl (fun w => bsl61_1 j24.1.X j24.1.Y w) rfl (by decide)) rfl rfl ?_
                            rintro _ _ ⟨a1239, rfl, rfl⟩
                            refine JH.talt ?_ ?_
                            · refine JH.must rfl (ef_appendT (ix := 1) Go.Proofs.Try.underlying61 i35 i35z i35s rfl i35b0 i35b1 rfl rfl rfl rfl rfl (fun w hC => rd_row hC 3 rfl) hx639) rfl rfl ?_
                              rintro _ _ ⟨a640, cp641, rfl, rfl⟩
                              refine JH.tdone ?_
                              exact JH.weak [0, 1, 2, 3, 4] (K a640 cp641 a339 a1239) ⟨rfl, rfl, rfl, rfl, rfl, rfl, rfl, rfl, rfl, rfl, rfl, rfl, trivial⟩ (by decide) rfl
                            · exact JH.tnil
                          · exact JH.tnil
                      · refine JH.talt ?_ ?_
                        · refine JH.must rfl (ef_buildSlice (E := 35) (k := eSPoint.k) (us := eSPoint.fl [j24.1]) rfl (fun w => bsl61_1 j24.1.X j24.1.Y w) rfl (by decide)) rfl rfl ?_
                          rintro _ _ ⟨a1239, rfl, rfl⟩
                          refine JH.talt ?_ ?_
                          · refine JH.mval rfl (yl_lookR (mh := mh13) (k := j24.1) Go.Proofs.Try.underlying146 zv61 keyOk35 rfl rfl hg36 (fun w hC => rd_mapR hC 0 rfl)) rfl ?_
                            refine JH.talt ?_ ?_
                            · refine JH.must rfl (ef_appendT (ix := 1) Go.Proofs.Try.underlying61 i35 i35z i35s rfl i35b0 i35b1 rfl rfl rfl rfl rfl (fun w hC => rd_row hC 3 rfl) hx639) rfl rfl ?_
                              rintro _ _ ⟨a640, cp641, rfl, rfl⟩
                              refine JH.tdone ?_
                              exact JH.weak [0, 1, 2, 3, 4] (K a640 cp641 a339 a1239) ⟨rfl, rfl, rfl, rfl, rfl, rfl, rfl, rfl, rfl, rfl, rfl, rfl, trivial⟩ (by decide) rfl
                            · exact JH.tnil
                          · exact JH.tnil
                        · exact JH.tnil
                    · refine JH.talt ?_ ?_
                      · refine JH.must rfl (ef_buildSlice (E := 35) (k := eSPoint.k) (us := eSPoint.fl [j24.1]) rfl (fun w => bsl61_1 j24.1.X j24.1.Y w) rfl (by decide)) rfl rfl ?_
                        rintro _ _ ⟨a1239, rfl, rfl⟩
                        refine JH.talt ?_ ?_
                        · refine JH.mval rfl (yl_lookR (mh := mh13) (k := j24.1) Go.Proofs.Try.underlying146 zv61 keyOk35 rfl rfl hg36 (fun w hC => rd_mapR hC 0 rfl)) rfl ?_
                          refine JH.talt ?_ ?_
                          · refine JH.must rfl (ef_appendT (ix := 1) Go.Proofs.Try.underlying61 i35 i35z i35s rfl i35b0 i35b1 rfl rfl rfl rfl rfl (fun w hC => rd_row hC 3 rfl) hx639) rfl rfl ?_
                            rintro _ _ ⟨a640, cp641, rfl, rfl⟩
                            refine JH.talt ?_ ?_
                            · refine JH.mval rfl (yl_lookR (mh := mh13) (k := j24.2) Go.Proofs.Try.underlying146 zv61 keyOk35 rfl rfl hg32 (fun w hC => rd_mapR hC 0 rfl)) rfl ?_
                              refine JH.tdone ?_
                              exact JH.weak [0, 1, 2, 3, 4] (K a640 cp641 a339 a1239) ⟨rfl, rfl, rfl, rfl, rfl, rfl, rfl, rfl, rfl, rfl, rfl, rfl, trivial⟩ (by decide) rfl
                            · exact JH.tnil
                          · refine JH.talt ?_ ?_
                            · refine JH.mval rfl (yl_lookR (mh := mh13) (k := j24.2) Go.Proofs.Try.underlying146 zv61 keyOk35 rfl rfl hg32 (fun w hC => rd_mapR hC 0 rfl)) rfl ?_
                              refine JH.talt ?_ ?_
                              · refine JH.must rfl (ef_appendT (ix := 1) Go.Proofs.Try.underlying61 i35 i35z i35s rfl i35b0 i35b1 rfl rfl rfl rfl rfl (fun w hC => rd_row hC 3 rfl) hx639) rfl rfl ?_
                                rintro _ _ ⟨a640, cp641, rfl, rfl⟩
                                refine JH.tdone ?_
                                exact JH.weak [0, 1, 2, 3, 4] (K a640 cp641 a339 a1239) ⟨rfl, rfl, rfl, rfl, rfl, rfl, rfl, rfl, rfl, rfl, rfl, rfl, trivial⟩ (by decide) rfl
                              · exact JH.tnil
                            · exact JH.tnil
                        · refine JH.talt ?_ ?_
                          · refine JH.mval rfl (yl_lookR (mh := mh13) (k := j24.2) Go.Proofs.Try.underlying146 zv61 keyOk35 rfl rfl hg32 (fun w hC => rd_mapR hC 0 rfl)) rfl ?_
                            refine JH.talt ?_ ?_
                            · refine JH.mval rfl (yl_lookR (mh := mh13) (k := j24.1) Go.Proofs.Try.underlying146 zv61 keyOk35 rfl rfl hg36 (fun w hC => rd_mapR hC 0 rfl)) rfl ?_
                              refine JH.talt ?_ ?_
                              · refine JH.must rfl (ef_appendT (ix := 1) Go.Proofs.Try.underlying61 i35 i35z i35s rfl i35b0 i35b1 rfl rfl rfl rfl rfl (fun w hC => rd_row hC 3 rfl) hx639) rfl rfl ?_
                                rintro _ _ ⟨a640, cp641, rfl, rfl⟩
                                refine JH.tdone ?_
                                exact JH.weak [0, 1, 2, 3, 4] (K a640 cp641 a339 a1239) ⟨rfl, rfl, rfl, rfl, rfl, rfl, rfl, rfl, rfl, rfl, rfl, rfl, trivial⟩ (by decide) rfl
                              · exact JH.tnil
                            · exact JH.tnil
                          · exact JH.tnil
                      · exact JH.tnil
                · refine JH.talt ?_ ?_
                  · refine JH.mval rfl (yl_lookR (mh := mh13) (k := j24.2) Go.Proofs.Try.underlying146 zv61 keyOk35 rfl rfl hg32 (fun w hC => rd_mapR hC 0 rfl)) rfl ?_
                    refine JH.talt ?_ ?_
                    · refine JH.mval rfl (yl_lookR (mh := mh13) (k := j24.1) Go.Proofs.Try.underlying146 zv61 keyOk35 rfl rfl hg36 (fun w hC => rd_mapR hC 0 rfl)) rfl ?_
                      refine JH.talt ?_ ?_
                      · refine JH.must rfl (ef_buildSlice (E := 35) (k := eSPoint.k) (us := eSPoint.fl [j24.2]) rfl (fun w => bsl61_1 j24.2.X j24.2.Y w) rfl (by decide)) rfl rfl ?_
                        rintro _ _ ⟨a339, rfl, rfl⟩
                        refine JH.talt ?_ ?_
                        · refine JH.must rfl (ef_appendT (ix := 1) Go.Proofs.Try.underlying61 i35 i35z i35s rfl i35b0 i35b1 rfl rfl rfl rfl rfl (fun w hC => rd_row hC 3 rfl) hx639) rfl rfl ?_
                          rintro _ _ ⟨a640, cp641, rfl, rfl⟩
                          refine JH.talt ?_ ?_
                          · refine JH.must rfl (ef_buildSlice (E := 35) (k := eSPoint.k) (us := eSPoint.fl [j24.1]) rfl (fun w => bsl61_1 j24.1.X j24.1.Y w) rfl (by decide)) rfl rfl ?_
                            rintro _ _ ⟨a1239, rfl, rfl⟩
                            refine JH.tdone ?_
                            exact JH.weak [0, 1, 2, 3, 4] (K a640 cp641 a339 a1239) ⟨rfl, rfl, rfl, rfl, rfl, rfl, rfl, rfl, rfl, rfl, rfl, rfl, trivial⟩ (by decide) rfl
                          · exact JH.tnil
                        · refine JH.talt ?_ ?_
                          · refine JH.must rfl (ef_buildSlice (E := 35) (k := eSPoint.k) (us := eSPoint.fl [j24.1]) rfl (fun w => bsl61_1 j24.1.X j24.1.Y w) rfl (by decide)) rfl rfl ?_
                            rintro _ _ ⟨a1239, rfl, rfl⟩
                            refine JH.talt ?_ ?_
                            · refine JH.must rfl (ef_appendT (ix := 1) Go.Proofs.Try.underlying61 i35 i35z i35s rfl i35b0 i35b1 rfl rfl rfl rfl rfl (fun w hC => rd_row hC 3 rfl) hx639) rfl rfl ?_
                              rintro _ _ ⟨a640, cp641, rfl, rfl⟩
                              refine JH.tdone ?_
                              exact JH.weak [0, 1, 2, 3, 4] (K a640 cp641 a339 a1239) ⟨rfl, rfl, rfl, rfl, rfl, rfl, rfl, rfl, rfl, rfl, rfl, rfl, trivial⟩ (by decide) rfl
                            · exact JH.tnil
                          · exact JH.tnil
                      · refine JH.talt ?_ ?_
                        · refine JH.must rfl (ef_buildSlice (E := 35) (k := eSPoint.k) (us := eSPoint.fl [j24.1]) rfl (fun w => bsl61_1 j24.1.X j24.1.Y w) rfl (by decide)) rfl rfl ?_
                          rintro _ _ ⟨a1239, rfl, rfl⟩
                          refine JH.talt ?_ ?_
                          · refine JH.must rfl (ef_buildSlice (E := 35) (k := eSPoint.k) (us := eSPoint.fl [j24.2]) rfl (fun w => bsl61_1 j24.2.X j24.2.Y w) rfl (by decide)) rfl rfl ?_
                            rintro _ _ ⟨a339, rfl, rfl⟩
                            refine JH.talt ?_ ?_
                            · refine JH.must rfl (ef_appendT (ix := 1) Go.Proofs.Try.underlying61 i35 i35z i35s rfl i35b0 i35b1 rfl rfl rfl rfl rfl (fun w hC => rd_row hC 4 rfl) hx639) rfl rfl ?_
                              rintro _ _ ⟨a640, cp641, rfl, rfl⟩
                              refine JH.tdone ?_
                              exact JH.weak [0, 1, 2, 4, 3] (K a640 cp641 a339 a1239) ⟨rfl, rfl, rfl, rfl, rfl, rfl, rfl, rfl, rfl, rfl, rfl, rfl, trivial⟩ (by decide) rfl
                            · exact JH.tnil
                          · exact JH.tnil
                        · exact JH.tnil
                    · refine JH.talt ?_ ?_
                      · refine JH.must rfl (ef_buildSlice (E := 35) (k := eSPoint.k) (us := eSPoint.fl [j24.2]) rfl (fun w => bsl61_1 j24.2.X j24.2.Y w) rfl (by decide)) rfl rfl ?_
                        rintro _ _ ⟨a339, rfl, rfl⟩
                        refine JH.talt ?_ ?_
                        · refine JH.mval rfl (yl_lookR (mh := mh13) (k := j24.1) Go.Proofs.Try.underlying146 zv61 keyOk35 rfl rfl hg36 (fun w hC => rd_mapR hC 0 rfl)) rfl ?_
                          refine JH.talt ?_ ?_
                          · refine JH.must rfl (ef_appendT (ix := 1) Go.Proofs.Try.underlying61 i35 i35z i35s rfl i35b0 i35b1 rfl rfl rfl rfl rfl (fun w hC => rd_row hC 3 rfl) hx639) rfl rfl ?_
                            rintro _ _ ⟨a640, cp641, rfl, rfl⟩
                            refine JH.talt ?_ ?_
                            · refine JH.must rfl (ef_buildSlice (E := 35) (k := eSPoint.k) (us := eSPoint.fl [j24.1]) rfl (fun w => bsl61_1 j24.1.X j24.1.Y w) rfl (by decide)) rfl rfl ?_
                              rintro _ _ ⟨a1239, rfl, rfl⟩
                              refine JH.tdone ?_
                              exact JH.weak [0, 1, 2, 3, 4] (K a640 cp641 a339 a1239) ⟨rfl, rfl, rfl, rfl, rfl, rfl, rfl, rfl, rfl, rfl, rfl, rfl, trivial⟩ (by decide) rfl
                            · exact JH.tnil
                          · refine JH.talt ?_ ?_
                            · refine JH.must rfl (ef_buildSlice (E := 35) (k := eSPoint.k) (us := eSPoint.fl [j24.1]) rfl (fun w => bsl61_1 j24.1.X j24.1.Y w) rfl (by decide)) rfl rfl ?_
                              rintro _ _ ⟨a1239, rfl, rfl⟩
                              refine JH.talt ?_ ?_
                              · refine JH.must rfl (ef_appendT (ix := 1) Go.Proofs.Try.underlying61 i35 i35z i35s rfl i35b0 i35b1 rfl rfl rfl rfl rfl (fun w hC => rd_row hC 3 rfl) hx639) rfl rfl ?_
                                rintro _ _ ⟨a640, cp641, rfl, rfl⟩
                                refine JH.tdone ?_
                                exact JH.weak [0, 1, 2, 3, 4] (K a640 cp641 a339 a1239) ⟨rfl, rfl, rfl, rfl, rfl, rfl, rfl, rfl, rfl, rfl, rfl, rfl, trivial⟩ (by decide) rfl
                              · exact JH.tnil
                            · exact JH.tnil
                        · refine JH.talt ?_ ?_
                          · refine JH.must rfl (ef_buildSlice (E := 35) (k := eSPoint.k) (us := eSPoint.fl [j24.1]) rfl (fun w => bsl61_1 j24.1.X j24.1.Y w) rfl (by decide)) rfl rfl ?_
                            rintro _ _ ⟨a1239, rfl, rfl⟩
                            refine JH.talt ?_ ?_
                            · refine JH.mval rfl (yl_lookR (mh := mh13) (k := j24.1) Go.Proofs.Try.underlying146 zv61 keyOk35 rfl rfl hg36 (fun w hC => rd_mapR hC 0 rfl)) rfl ?_
                              refine JH.talt ?_ ?_
                              · refine JH.must rfl (ef_appendT (ix := 1) Go.Proofs.Try.underlying61 i35 i35z i35s rfl i35b0 i35b1 rfl rfl rfl rfl rfl (fun w hC => rd_row hC 3 rfl) hx639) rfl rfl ?_
                                rintro _ _ ⟨a640, cp641, rfl, rfl⟩
                                refine JH.tdone ?_
                                exact JH.weak [0, 1, 2, 3, 4] (K a640 cp641 a339 a1239) ⟨rfl, rfl, rfl, rfl, rfl, rfl, rfl, rfl, rfl, rfl, rfl, rfl, trivial⟩ (by decide) rfl
                              · exact JH.tnil
                            · exact JH.tnil
                          · exact JH.tnil
                      · refine JH.talt ?_ ?_
                        · refine JH.must rfl (ef_buildSlice (E := 35) (k := eSPoint.k) (us := eSPoint.fl [j24.1]) rfl (fun w => bsl61_1 j24.1.X j24.1.Y w) rfl (by decide)) rfl rfl ?_
                          rintro _ _ ⟨a1239, rfl, rfl⟩
                          refine JH.talt ?_ ?_
                          · refine JH.mval rfl (yl_lookR (mh := mh13) (k := j24.1) Go.Proofs.Try.underlying146 zv61 keyOk35 rfl rfl hg36 (fun w hC => rd_mapR hC 0 rfl)) rfl ?_
                            refine JH.talt ?_ ?_
                            · refine JH.must rfl (ef_buildSlice (E := 35) (k := eSPoint.k) (us := eSPoint.fl [j24.2]) rfl (fun w => bsl61_1 j24.2.X j24.2.Y w) rfl (by decide)) rfl rfl ?_
                              rintro _ _ ⟨a339, rfl, rfl⟩
                              refine JH.talt ?_ ?_
                              · refine JH.must rfl (ef_appendT (ix := 1) Go.Proofs.Try.underlying61 i35 i35z i35s rfl i35b0 i35b1 rfl rfl rfl rfl rfl (fun w hC => rd_row hC 4 rfl) hx639) rfl rfl ?_
                                rintro _ _ ⟨a640, cp641, rfl, rfl⟩
                                refine JH.tdone ?_
                                exact JH.weak [0, 1, 2, 4, 3] (K a640 cp641 a339 a1239) ⟨rfl, rfl, rfl, rfl, rfl, rfl, rfl, rfl, rfl, rfl, rfl, rfl, trivial⟩ (by decide) rfl
                              · exact JH.tnil
                            · exact JH.tnil
                          · refine JH.talt ?_ ?_
                            · refine JH.must rfl (ef_buildSlice (E := 35) (k := eSPoint.k) (us := eSPoint.fl [j24.2]) rfl (fun w => bsl61_1 j24.2.X j24.2.Y w) rfl (by decide)) rfl rfl ?_
                              rintro _ _ ⟨a339, rfl, rfl⟩
                              refine JH.talt ?_ ?_
                              · refine JH.mval rfl (yl_lookR (mh := mh13) (k := j24.1) Go.Proofs.Try.underlying146 zv61 keyOk35 rfl rfl hg36 (fun w hC => rd_mapR hC 0 rfl)) rfl ?_
                                refine JH.talt ?_ ?_
                                · refine JH.must rfl (ef_appendT (ix := 1) Go.Proofs.Try.underlying61 i35 i35z i35s rfl i35b0 i35b1 rfl rfl rfl rfl rfl (fun w hC => rd_row hC 4 rfl) hx639) rfl rfl ?_
                                  rintro _ _ ⟨a640, cp641, rfl, rfl⟩
                                  refine JH.tdone ?_
                                  exact JH.weak [0, 1, 2, 4, 3] (K a640 cp641 a339 a1239) ⟨rfl, rfl, rfl, rfl, rfl, rfl, rfl, rfl, rfl, rfl, rfl, rfl, trivial⟩ (by decide) rfl
                                · exact JH.tnil
                              · exact JH.tnil
                            · exact JH.tnil
                        · exact JH.tnil
                  · refine JH.talt ?_ ?_
                    · refine JH.must rfl (ef_buildSlice (E := 35) (k := eSPoint.k) (us := eSPoint.fl [j24.1]) rfl (fun w => bsl61_1 j24.1.X j24.1.Y w) rfl (by decide)) rfl rfl ?_
                      rintro _ _ ⟨a1239, rfl, rfl⟩
                      refine JH.talt ?_ ?_
                      · refine JH.mval rfl (yl_lookR (mh := mh13) (k := j24.1) Go.Proofs.Try.underlying146 zv61 keyOk35 rfl rfl hg36 (fun w hC => rd_mapR hC 0 rfl)) rfl ?_
                        refine JH.talt ?_ ?_
                        · refine JH.must rfl (ef_buildSlice (E := 35) (k := eSPoint.k) (us := eSPoint.fl [j24.2]) rfl (fun w => bsl61_1 j24.2.X j24.2.Y w) rfl (by decide)) rfl rfl ?_
                          rintro _ _ ⟨a339, rfl, rfl⟩
                          refine JH.talt ?_ ?_
                          · refine JH.must rfl (ef_appendT (ix := 1) Go.Proofs.Try.underlying61 i35 i35z i35s rfl i35b0 i35b1 rfl rfl rfl rfl rfl (fun w hC => rd_row hC 4 rfl) hx639) rfl rfl ?_
                            rintro _ _ ⟨a640, cp641, rfl, rfl⟩
                            refine JH.talt ?_ ?_
                            · refine JH.mval rfl (yl_lookR (mh := mh13) (k := j24.2) Go.Proofs.Try.underlying146 zv61 keyOk35 rfl rfl hg32 (fun w hC => rd_mapR hC 0 rfl)) rfl ?_
                              refine JH.tdone ?_
                              exact JH.weak [0, 1, 2, 4, 3] (K a640 cp641 a339 a1239) ⟨rfl, rfl, rfl, rfl, rfl, rfl, rfl, rfl, rfl, rfl, rfl, rfl, trivial⟩ (by decide) rfl
                            · exact JH.tnil
                          · refine JH.talt ?_ ?_
                            · refine JH.mval rfl (yl_lookR (mh := mh13) (k := j24.2) Go.Proofs.Try.underlying146 zv61 keyOk35 rfl rfl hg32 (fun w hC => rd_mapR hC 0 rfl)) rfl ?_
                              refine JH.talt ?_ ?_
                              · refine JH.must rfl (ef_appendT (ix := 1) Go.Proofs.Try.underlying61 i35 i35z i35s rfl i35b0 i35b1 rfl rfl rfl rfl rfl (fun w hC => rd_row hC 4 rfl) hx639) rfl rfl ?_
                                rintro _ _ ⟨a640, cp641, rfl, rfl⟩
                                refine JH.tdone ?_
                                exact JH.weak [0, 1, 2, 4, 3] (K a640 cp641 a339 a1239) ⟨rfl, rfl, rfl, rfl, rfl, rfl, rfl, rfl, rfl, rfl, rfl, rfl, trivial⟩ (by decide) rfl
                              · exact JH.tnil
                            · exact JH.tnil
                        · refine JH.talt ?_ ?_
                          · refine JH.mval rfl (yl_lookR (mh := mh13) (k := j24.2) Go.Proofs.Try.underlying146 zv61 keyOk35 rfl rfl hg32 (fun w hC => rd_mapR hC 0 rfl)) rfl ?_
                            refine JH.talt ?_ ?_
                            · refine JH.must rfl (ef_buildSlice (E := 35) (k := eSPoint.k) (us := eSPoint.fl [j24.2]) rfl (fun w => bsl61_1 j24.2.X j24.2.Y w) rfl (by decide)) rfl rfl ?_
                              rintro _ _ ⟨a339, rfl, rfl⟩
                              refine JH.talt ?_ ?_
                              · refine JH.must rfl (ef_appendT (ix := 1) Go.Proofs.Try.underlying61 i35 i35z i35s rfl i35b0 i35b1 rfl rfl rfl rfl rfl (fun w hC => rd_row hC 4 rfl) hx639) rfl rfl ?_
                                rintro _ _ ⟨a640, cp641, rfl, rfl⟩
                                refine JH.tdone ?_
                                exact JH.weak [0, 1, 2, 4, 3] (K a640 cp641 a339 a1239) ⟨rfl, rfl, rfl, rfl, rfl, rfl, rfl, rfl, rfl, rfl, rfl, rfl, trivial⟩ (by decide) rfl
                              · exact JH.tnil
                            · exact JH.tnil
                          · exact JH.tnil
                      · refine JH.talt ?_ ?_
                        · refine JH.must rfl (ef_buildSlice (E := 35) (k := eSPoint.k) (us := eSPoint.fl [j24.2]) rfl (fun w => bsl61_1 j24.2.X j24.2.Y w) rfl (by decide)) rfl rfl ?_
                          rintro _ _ ⟨a339, rfl, rfl⟩
                          refine JH.talt ?_ ?_
                          · refine JH.mval rfl (yl_lookR (mh := mh13) (k := j24.1) Go.Proofs.Try.underlying146 zv61 keyOk35 rfl rfl hg36 (fun w hC => rd_mapR hC 0 rfl)) rfl ?_
                            refine JH.talt ?_ ?_
                            · refine JH.must rfl (ef_appendT (ix := 1) Go.Proofs.Try.underlying61 i35 i35z i35s rfl i35b0 i35b1 rfl rfl rfl rfl rfl (fun w hC => rd_row hC 4 rfl) hx639) rfl rfl ?_
                              rintro _ _ ⟨a640, cp641, rfl, rfl⟩
                              refine JH.talt ?_ ?_
                              · refine JH.mval rfl (yl_lookR (mh := mh13) (k := j24.2) Go.Proofs.Try.underlying146 zv61 keyOk35 rfl rfl hg32 (fun w hC => rd_mapR hC 0 rfl)) rfl ?_
                                refine JH.tdone ?_
                                exact JH.weak [0, 1, 2, 4, 3] (K a640 cp641 a339 a1239) ⟨rfl, rfl, rfl, rfl, rfl, rfl, rfl, rfl, rfl, rfl, rfl, rfl, trivial⟩ (by decide) rfl
                              · exact JH.tnil
                            · refine JH.talt ?_ ?_
                              · refine JH.mval rfl (yl_lookR (mh := mh13) (k := j24.2) Go.Proofs.Try.underlying146 zv61 keyOk35 rfl rfl hg32 (fun w hC => rd_mapR hC 0 rfl)) rfl ?_
                                refine JH.talt ?_ ?_
                                · refine JH.must rfl (ef_appendT (ix := 1) Go.Proofs.Try.underlying61 i35 i35z i35s rfl i35b0 i35b1 rfl rfl rfl rfl rfl (fun w hC => rd_row hC 4 rfl) hx639) rfl rfl ?_
                                  rintro _ _ ⟨a640, cp641, rfl, rfl⟩
                                  refine JH.tdone ?_
                                  exact JH.weak [0, 1, 2, 4, 3] (K a640 cp641 a339 a1239) ⟨rfl, rfl, rfl, rfl, rfl, rfl, rfl, rfl, rfl, rfl, rfl, rfl, trivial⟩ (by decide) rfl
                                · exact JH.tnil
                              · exact JH.tnil
                          · refine JH.talt ?_ ?_
                            · refine JH.mval rfl (yl_lookR (mh := mh13) (k := j24.2) Go.Proofs.Try.underlying146 zv61 keyOk35 rfl rfl hg32 (fun w hC => rd_mapR hC 0 rfl)) rfl ?_
                              refine JH.talt ?_ ?_
                              · refine JH.mval rfl (yl_lookR (mh := mh13) (k := j24.1) Go.Proofs.Try.underlying146 zv61 keyOk35 rfl rfl hg36 (fun w hC => rd_mapR hC 0 rfl)) rfl ?_
                                refine JH.talt ?_ ?_
                                · refine JH.must rfl (ef_appendT (ix := 1) Go.Proofs.Try.underlying61 i35 i35z i35s rfl i35b0 i35b1 rfl rfl rfl rfl rfl (fun w hC => rd_row hC 4 rfl) hx639) rfl rfl ?_
                                  rintro _ _ ⟨a640, cp641, rfl, rfl⟩
                                  refine JH.tdone ?_
                                  exact JH.weak [0, 1, 2, 4, 3] (K a640 cp641 a339 a1239) ⟨rfl, rfl, rfl, rfl, rfl, rfl, rfl, rfl, rfl, rfl, rfl, rfl, trivial⟩ (by decide) rfl
                                · exact JH.tnil
                              · exact JH.tnil
                            · exact JH.tnil
                        · refine JH.talt ?_ ?_
                          · refine JH.mval rfl (yl_lookR (mh := mh13) (k := j24.2) Go.Proofs.Try.underlying146 zv61 keyOk35 rfl rfl hg32 (fun w hC => rd_mapR hC 0 rfl)) rfl ?_
                            refine JH.talt ?_ ?_
                            · refine JH.mval rfl (yl_lookR (mh := mh13) (k := j24.1) Go.Proofs.Try.underlying146 zv61 keyOk35 rfl rfl hg36 (fun w hC => rd_mapR hC 0 rfl)) rfl ?_
                              refine JH.talt ?_ ?_
                              · refine JH.must rfl (ef_buildSlice (E := 35) (k := eSPoint.k) (us := eSPoint.fl [j24.2]) rfl (fun w => bsl61_1 j24.2.X j24.2.Y w) rfl (by decide)) rfl rfl ?_
                                rintro _ _ ⟨a339, rfl, rfl⟩
                                refine JH.talt ?_ ?_
                                · refine JH.must rfl (ef_appendT (ix := 1) Go.Proofs.Try.underlying61 i35 i35z i35s rfl i35b0 i35b1 rfl rfl rfl rfl rfl (fun w hC => rd_row hC 4 rfl) hx639) rfl rfl ?_
                                  rintro _ _ ⟨a640, cp641, rfl, rfl⟩
                                  refine JH.tdone ?_
                                  exact JH.weak [0, 1, 2, 4, 3] (K a640 cp641 a339 a1239) ⟨rfl, rfl, rfl, rfl, rfl, rfl, rfl, rfl, rfl, rfl, rfl, rfl, trivial⟩ (by decide) rfl
                                · exact JH.tnil
                              · exact JH.tnil
                            · refine JH.talt ?_ ?_
                              · refine JH.must rfl (ef_buildSlice (E := 35) (k := eSPoint.k) (us := eSPoint.fl [j24.2]) rfl (fun w => bsl61_1 j24.2.X j24.2.Y w) rfl (by decide)) rfl rfl ?_
                                rintro _ _ ⟨a339, rfl, rfl⟩
                                refine JH.talt ?_ ?_
                                · refine JH.mval rfl (yl_lookR (mh := mh13) (k := j24.1) Go.Proofs.Try.underlying146 zv61 keyOk35 rfl rfl hg36 (fun w hC => rd_mapR hC 0 rfl)) rfl ?_
                                  refine JH.talt ?_ ?_
                                  · refine JH.must rfl (ef_appendT (ix := 1) Go.Proofs.Try.underlying61 i35 i35z i35s rfl i35b0 i35b1 rfl rfl rfl rfl rfl (fun w hC => rd_row hC 4 rfl) hx639) rfl rfl ?_
                                    rintro _ _ ⟨a640, cp641, rfl, rfl⟩
                                    refine JH.tdone ?_
                                    exact JH.weak [0, 1, 2, 4, 3] (K a640 cp641 a339 a1239) ⟨rfl, rfl, rfl, rfl, rfl, rfl, rfl, rfl, rfl, rfl, rfl, rfl, trivial⟩ (by decide) rfl
                                  · exact JH.tnil
                                · exact JH.tnil
                              · exact JH.tnil
                          · exact JH.tnil
                    · exact JH.tnil
          · refine JX.condF rfl hb ?_
            refine JX.skip ?_
            have hj := Option.some.inj hres
            exact JE.weak [0, 1, 4] (K mh13 (by subst hj; exact hi14)) ⟨(by subst hj; rfl), (by subst hj; rfl), (by subst hj; rfl), (by subst hj; rfl), (by subst hj; rfl), trivial⟩ (by decide) (by subst hj; rfl)
      · intro K
        rcases cond_some hj24 with ⟨hb, hres⟩ | ⟨hb, hres⟩
        · refine JX.condT rfl hb ?_
          refine JX.drawH [(0, .pure), (1, .read), (2, .pure), (3, .pure), (4, .read), (5, .pure), (6, .pure), (7, .read), (8, .pure), (9, .pure), (10, .read), (11, .pure), (12, .must), (13, .must)] [12, 13] [3, 4] [0, 1, 2, 5] [boxO 35 g19 [.int .i64 x15.X, .int .i64 (w64 (x15.Y - 1))], boxO 35 g21 [.int .i64 x15.X, .int .i64 (w64 (x15.Y + 1))]] [boxO 28 g1 [.int .i64 q0.W, .int .i64 q0.H, .slice a_0_2 q0.Breaks.length c_0_2], mapR eSPoint 35 eSPoint g3 [] mh13 x12, boxO 35 g16 [.int .i64 x15.X, .int .i64 x15.Y], rowT 35 eSPoint a6 x5.length cp7 x5] mixedP (by kernel_rfl) (by kernel_rfl) (by decide) rfl rfl ?_
          intro wrr1546 Nr1546 hFr1546
          refine JH.pure rfl (yl_fieldAt (a := some _) Go.Proofs.Try.underlying35 rfl i2 i2n rfl rfl) rfl ?_
          refine JH.read rfl (yl_load1 Go.Proofs.Try.underlying2 rfl rfl (fun w hw => hFr1546.box 2 rfl rfl hw) rfl) rfl ?_
          refine JH.pure rfl (yl_sub rfl rfl) rfl ?_
          refine JH.pure rfl (yl_fieldAt (a := some _) Go.Proofs.Try.underlying35 rfl i2 i2n rfl rfl) rfl ?_
          refine JH.read rfl (yl_load1 Go.Proofs.Try.underlying2 rfl rfl (fun w hw => hFr1546.box 2 rfl rfl hw) rfl) rfl ?_
          refine JH.pure rfl (yl_build rfl (fun w => bld35_0_1 (w64 (x15.X - 1)) x15.Y w)) rfl ?_
          refine JH.pure rfl (yl_fieldAt (a := some _) Go.Proofs.Try.underlying35 rfl i2 i2n rfl rfl) rfl ?_
          refine JH.read rfl (yl_load1 Go.Proofs.Try.underlying2 rfl rfl (fun w hw => hFr1546.box 2 rfl rfl hw) rfl) rfl ?_
          refine JH.pure rfl (yl_add rfl rfl) rfl ?_
          refine JH.pure rfl (yl_fieldAt (a := some _) Go.Proofs.Try.underlying35 rfl i2 i2n rfl rfl) rfl ?_
          refine JH.read rfl (yl_load1 Go.Proofs.Try.underlying2 rfl rfl (fun w hw => hFr1546.box 2 rfl rfl hw) rfl) rfl ?_
          refine JH.pure rfl (yl_build rfl (fun w => bld35_0_1 (w64 (x15.X + 1)) x15.Y w)) rfl ?_
          refine JH.must rfl (ef_store_box (i := 0) (v := .agg #[.int .i64 (w64 (x15.X - 1)), .int .i64 x15.Y]) i35 rfl rfl rfl (i35s).symm (Nat.le_of_ble_eq_true rfl) (by simp [Value.cells, Value.oneCell'])) rfl rfl ?_
          rintro _ _ rfl
          refine JH.must rfl (ef_store_box (i := 1) (v := .agg #[.int .i64 (w64 (x15.X + 1)), .int .i64 x15.Y]) i35 rfl rfl rfl (i35s).symm (Nat.le_of_ble_eq_true rfl) (by simp [Value.cells, Value.oneCell'])) rfl rfl ?_
          rintro _ _ rfl
          refine JH.nil ?_
          refine JE.weak (env' := [(1, ptrAt (some ⟨g1, 0, none⟩) 0), (4, .map (some g3)), (5, .int .i64 x11), (7, ptrAt (some ⟨g19, 0, none⟩) 0), (8, ptrAt (some ⟨g21, 0, none⟩) 0), (24, .slice a6 x5.length cp7), (25, .int .i64 (x5.length : Int)), (26, .int .i64 x11)]) (es' := [boxO 28 g1 [.int .i64 q0.W, .int .i64 q0.H, .slice a_0_2 q0.Breaks.length c_0_2], mapR eSPoint 35 eSPoint g3 [] mh13 x12, boxO 35 g19 [.int .i64 (w64 (x15.X - 1)), .int .i64 x15.Y], boxO 35 g21 [.int .i64 (w64 (x15.X + 1)), .int .i64 x15.Y], rowT 35 eSPoint a6 x5.length cp7 x5]) [0, 1, 4, 5, 3] ?_ ⟨rfl, rfl, rfl, rfl, rfl, rfl, rfl, rfl, trivial⟩ (by decide) rfl
          have hj := Option.some.inj hres
          exact JE.weak [0, 1, 2, 3, 4] (K) ⟨(by subst hj; rfl), (by subst hj; rfl), (by subst hj; rfl), (by subst hj; rfl), (by subst hj; rfl), (by subst hj; rfl), (by subst hj; rfl), (by subst hj; rfl), trivial⟩ (by decide) (by subst hj; rfl)
        · refine JX.condF rfl hb ?_
          refine JX.skip ?_
          have hj := Option.some.inj hres
          exact JE.weak [0, 1, 3, 4, 5] (K) ⟨(by subst hj; rfl), (by subst hj; rfl), (by subst hj; rfl), (by subst hj; rfl), (by subst hj; rfl), (by subst hj; rfl), (by subst hj; rfl), (by subst hj; rfl), trivial⟩ (by decide) (by subst hj; rfl)
    · intro K
      refine JH.two ?_ ?_
      · refine JH.must rfl (ef_alloc i35 i35z rfl) rfl rfl ?_
        rintro _ _ ⟨g19, rfl, rfl⟩
        refine JH.must rfl (ef_alloc i35 i35z rfl) rfl rfl ?_
        rintro _ _ ⟨g21, rfl, rfl⟩
        exact JH.weak [0, 1] (K g19 g21) ⟨rfl, rfl, rfl, rfl, rfl, rfl, rfl, rfl, rfl, rfl, rfl, trivial⟩ (by decide) rfl
      · refine JH.must rfl (ef_alloc i35 i35z rfl) rfl rfl ?_
        rintro _ _ ⟨g21, rfl, rfl⟩
        refine JH.must rfl (ef_alloc i35 i35z rfl) rfl rfl ?_
        rintro _ _ ⟨g19, rfl, rfl⟩
        exact JH.weak [1, 0] (K g19 g21) ⟨rfl, rfl, rfl, rfl, rfl, rfl, rfl, rfl, rfl, rfl, rfl, trivial⟩ (by decide) rfl
  · refine JX.condF rfl hb ?_
    refine JX.exit ?_
    refine JE.qb rfl ?_
    obtain ⟨b1, hb1⟩ : ∃ b : (List (SPoint × List SPoint)), b = x12 := ⟨_, rfl⟩
    have hy1 : b1 = y1 := by rw [hb1]; exact hox1 _ (Option.some.inj hres).symm
    have hres := hresO1
    rw [← hy1] at hres
    have hi1548 : InnM mh13 b1 := by subst hb1; exact hi14
    refine JE.weak (env' := [(1, ptrAt (some ⟨g1, 0, none⟩) 0), (4, .map (some g3))]) (es' := [boxO 28 g1 [.int .i64 q0.W, .int .i64 q0.H, .slice a_0_2 q0.Breaks.length c_0_2], mapR eSPoint 35 eSPoint g3 [] mh13 b1]) [0, 1] ?_ ⟨(by subst hb1; rfl), (by subst hb1; rfl), trivial⟩ (by decide) (by subst hb1; rfl)
    refine JE.code ?_
    refine JX.seq ?_
    refine JX.region ?_
    refine JL.eff (ef_buildSlice (E := 61) (k := eHd.k) (us := eHd.fl ([] : List Hd)) rfl (fun w => bsl40_0  w) rfl (by decide)) rfl ?_
    rintro _ _ ⟨a1549, rfl, rfl⟩
    refine JL.nilinn 35 eSPoint ?_
    refine JL.eff (ef_makeMapI (e := eSPoint)) rfl ?_
    rintro _ _ ⟨g1552, rfl, rfl⟩
    refine JL.val (yl_assign rfl) rfl ?_
    refine JL.val (yl_assign rfl) rfl ?_
    refine JL.nil ?_
    refine JE.weak (env' := [(1, ptrAt (some ⟨g1, 0, none⟩) 0), (4, .map (some g3)), (9, .slice a1549 0 0), (10, .map (some g1552))]) (es' := [boxO 28 g1 [.int .i64 q0.W, .int .i64 q0.H, .slice a_0_2 q0.Breaks.length c_0_2], mapR eSPoint 35 eSPoint g3 [] mh13 b1, rowT 61 eHd a1549 0 0 ([] : List Hd), innO 35 eSPoint none ([] : List Hd) ([] : List (List SPoint)), mapI eSPoint (some g1552) ([] : List (SPoint × Int))]) [0, 1, 2, 3, 4] ?_ ⟨rfl, rfl, rfl, rfl, trivial⟩ (by decide) rfl
    refine JE.code ?_
    refine JX.seq ?_
    refine JX.seq ?_
    refine JX.region ?_
    refine JL.val (yl_fieldAt (a := some _) Go.Proofs.Try.underlying28 rfl i2 i2n rfl rfl) rfl ?_
    refine JL.val (yl_load1 Go.Proofs.Try.underlying2 rfl rfl (fun w hC => rd_box hC 0 rfl) rfl) rfl ?_
    refine JL.val (yl_mul rfl rfl) rfl ?_
    refine JL.val (yl_add rfl rfl) rfl ?_
    refine JL.val (yl_move rfl) rfl ?_
    refine JL.nil ?_
    refine JE.weak (env' := [(1, ptrAt (some ⟨g1, 0, none⟩) 0), (4, .map (some g3)), (9, .slice a1549 0 0), (10, .map (some g1552)), (91, .int .i64 (w64 ((w64 (2 * q0.H)) + 1))), (92, .int .i64 0)]) (es' := [boxO 28 g1 [.int .i64 q0.W, .int .i64 q0.H, .slice a_0_2 q0.Breaks.length c_0_2], mapR eSPoint 35 eSPoint g3 [] mh13 b1, rowT 61 eHd a1549 0 0 ([] : List Hd), innO 35 eSPoint none ([] : List Hd) ([] : List (List SPoint)), mapI eSPoint (some g1552) ([] : List (SPoint × Int))]) [0, 1, 2, 3, 4] ?_ ⟨rfl, rfl, rfl, rfl, rfl, rfl, trivial⟩ (by decide) rfl
    refine JE.code ?_
    refine JX.block ?_
    obtain ⟨y2, hy2, hresO2⟩ := bind_some hres
    refine JX.loop (I := fun (s2 : Int × List (List SPoint) × (List (SPoint × Int))) aa ww => ∃ (a1554 : Option Addr) (cp1555 : Nat) (hs1556 : List Hd) (hi1557 : Inn hs1556 s2.2.1), St w [] 163 [(1, ptrAt (some ⟨g1, 0, none⟩) 0), (4, .map (some g3)), (9, .slice a1554 s2.2.1.length cp1555), (10, .map (some g1552)), (91, .int .i64 (w64 ((w64 (2 * q0.H)) + 1))), (92, .int .i64 s2.1)] [boxO 28 g1 [.int .i64 q0.W, .int .i64 q0.H, .slice a_0_2 q0.Breaks.length c_0_2], mapR eSPoint 35 eSPoint g3 [] mh13 b1, rowT 61 eHd a1554 s2.2.1.length cp1555 hs1556, innO 35 eSPoint none hs1556 s2.2.1, mapI eSPoint (some g1552) s2.2.2] aa ww) (sh88_2 q0 b1) hy2 (fun a w h => ⟨a1549, 0, ([] : List Hd), (Inn.nil (T := SPoint)), h.weak ⟨rfl, rfl, rfl, rfl, rfl, rfl, trivial⟩ [0, 1, 2, 3, 4] (by decide) rfl⟩) ?_
    rintro ⟨x1558, x1559, x1560⟩ o2 hres hox2 aa ww ⟨a1561, cp1562, hs1563, hi1564, hS⟩
    refine (?_ : JX Go.Proofs.Try.prog w [] 163 _ _ [(1, ptrAt (some ⟨g1, 0, none⟩) 0), (4, .map (some g3)), (9, .slice a1561 x1559.length cp1562), (10, .map (some g1552)), (91, .int .i64 (w64 ((w64 (2 * q0.H)) + 1))), (92, .int .i64 x1558)] [boxO 28 g1 [.int .i64 q0.W, .int .i64 q0.H, .slice a_0_2 q0.Breaks.length c_0_2], mapR eSPoint 35 eSPoint g3 [] mh13 b1, rowT 61 eHd a1561 x1559.length cp1562 hs1563, innO 35 eSPoint none hs1563 x1559, mapI eSPoint (some g1552) x1560] _) aa ww hS
    clear hS
    simp only [sh88_2] at hres
    refine JX.seq ?_
    refine JX.region ?_
    refine JL.val (yl_lss rfl rfl) rfl ?_
    refine JL.nil ?_
    refine JE.code ?_
    refine JX.seq ?_
    rcases cond_some hres with ⟨hb, hres⟩ | ⟨hb, hres⟩
    · refine JX.condT rfl hb ?_
      refine JX.skip ?_
      refine JE.code ?_
      refine JX.seq ?_
      refine JX.block ?_
      refine JX.seq ?_
      refine JX.region ?_
      refine JL.val (yl_move rfl) rfl ?_
      refine JL.val (yl_assign rfl) rfl ?_
      refine JL.nil ?_
      refine JE.code ?_
      refine JX.seq ?_
      refine JX.region ?_
      refine JL.val (yl_move rfl) rfl ?_
      refine JL.val (yl_rem rfl rfl (by decide)) rfl ?_
      refine JL.val (yl_assign rfl) rfl ?_
      refine JL.nil ?_
      refine JE.code ?_
      refine JX.block ?_
      obtain ⟨y3, hy3, hresO3⟩ := bind_some hres
      refine JX.loop (I := fun (s3 : Int × List (List SPoint) × (List (SPoint × Int))) aa ww => ∃ (a1565 : Option Addr) (cp1566 : Nat) (hs1567 : List Hd) (hi1568 : Inn hs1567 s3.2.1), St w [] 163 [(1, ptrAt (some ⟨g1, 0, none⟩) 0), (4, .map (some g3)), (9, .slice a1565 s3.2.1.length cp1566), (10, .map (some g1552)), (11, .int .i64 x1558), (12, .int .i64 s3.1), (91, .int .i64 (w64 ((w64 (2 * q0.H)) + 1))), (92, .int .i64 x1558)] [boxO 28 g1 [.int .i64 q0.W, .int .i64 q0.H, .slice a_0_2 q0.Breaks.length c_0_2], mapR eSPoint 35 eSPoint g3 [] mh13 b1, rowT 61 eHd a1565 s3.2.1.length cp1566 hs1567, innO 35 eSPoint none hs1567 s3.2.1, mapI eSPoint (some g1552) s3.2.2] aa ww) (sh88_3 q0 b1 x1558) hy3 (fun a w h => ⟨a1561, cp1562, hs1563, hi1564, h.weak ⟨rfl, rfl, (by first | rfl | (simp only [List.length_set]; rfl) | simp only [List.length_set]), rfl, rfl, rfl, rfl, rfl, trivial⟩ [0, 1, 2, 3, 4] (by decide) (by first | rfl | (simp only [List.length_set]; rfl) | simp only [List.length_set])⟩) ?_
      rintro ⟨x1569, x1570, x1571⟩ o3 hres hox3 aa ww ⟨a1572, cp1573, hs1574, hi1575, hS⟩
      refine (?_ : JX Go.Proofs.Try.prog w [] 163 _ _ [(1, ptrAt (some ⟨g1, 0, none⟩) 0), (4, .map (some g3)), (9, .slice a1572 x1570.length cp1573), (10, .map (some g1552)), (11, .int .i64 x1558), (12, .int .i64 x1569), (91, .int .i64 (w64 ((w64 (2 * q0.H)) + 1))), (92, .int .i64 x1558)] [boxO 28 g1 [.int .i64 q0.W, .int .i64 q0.H, .slice a_0_2 q0.Breaks.length c_0_2], mapR eSPoint 35 eSPoint g3 [] mh13 b1, rowT 61 eHd a1572 x1570.length cp1573 hs1574, innO 35 eSPoint none hs1574 x1570, mapI eSPoint (some g1552) x1571] _) aa ww hS
      clear hS
      simp only [sh88_3] at hres
      refine JX.seq ?_
      refine JX.seq ?_
      refine JX.region ?_
      refine JL.val (yl_move rfl) rfl ?_
      refine JL.val (yl_fieldAt (a := some _) Go.Proofs.Try.underlying28 rfl i2 i2n rfl rfl) rfl ?_
      refine JL.val (yl_load1 Go.Proofs.Try.underlying2 rfl rfl (fun w hC => rd_box hC 0 rfl) rfl) rfl ?_
      refine JL.val (yl_mul rfl rfl) rfl ?_
      refine JL.val (yl_leq rfl rfl) rfl ?_
      refine JL.nil ?_
      refine JE.weak (env' := [(1, ptrAt (some ⟨g1, 0, none⟩) 0), (4, .map (some g3)), (9, .slice a1572 x1570.length cp1573), (10, .map (some g1552)), (11, .int .i64 x1558), (12, .int .i64 x1569), (91, .int .i64 (w64 ((w64 (2 * q0.H)) + 1))), (92, .int .i64 x1558), (101, .bool (decide (x1569 ≤ (w64 (2 * q0.W)))))]) (es' := [boxO 28 g1 [.int .i64 q0.W, .int .i64 q0.H, .slice a_0_2 q0.Breaks.length c_0_2], mapR eSPoint 35 eSPoint g3 [] mh13 b1, rowT 61 eHd a1572 x1570.length cp1573 hs1574, innO 35 eSPoint none hs1574 x1570, mapI eSPoint (some g1552) x1571]) [0, 1, 2, 3, 4] ?_ ⟨rfl, rfl, rfl, rfl, rfl, rfl, rfl, rfl, rfl, trivial⟩ (by decide) rfl
      refine JE.code ?_
      rcases cond_some hres with ⟨hb, hres⟩ | ⟨hb, hres⟩
      · refine JX.condT rfl hb ?_
        refine JX.skip ?_
        refine JE.code ?_
        refine JX.seq ?_
        refine JX.block ?_
        refine JX.seq ?_
        refine JX.region ?_
        refine JL.val (yl_move rfl) rfl ?_
        refine JL.val (yl_move rfl) rfl ?_
        refine JL.val (yl_build rfl (fun w => bld35_0_1 x1569 x1558 w)) rfl ?_
        refine JL.eff (ef_alloc i35 i35z rfl) rfl ?_
        rintro _ _ ⟨g1576, rfl, rfl⟩
        refine JL.eff (ef_store_box (i := 5) (v := .agg #[.int .i64 x1569, .int .i64 x1558]) i35 rfl rfl rfl (i35s).symm (Nat.le_of_ble_eq_true rfl) (by simp [Value.cells, Value.oneCell'])) rfl ?_
        rintro _ _ rfl
        refine JL.nil ?_
        refine JE.weak (env' := [(1, ptrAt (some ⟨g1, 0, none⟩) 0), (4, .map (some g3)), (9, .slice a1572 x1570.length cp1573), (10, .map (some g1552)), (11, .int .i64 x1558), (12, .int .i64 x1569), (13, ptrAt (some ⟨g1576, 0, none⟩) 0), (91, .int .i64 (w64 ((w64 (2 * q0.H)) + 1))), (92, .int .i64 x1558)]) (es' := [boxO 28 g1 [.int .i64 q0.W, .int .i64 q0.H, .slice a_0_2 q0.Breaks.length c_0_2], mapR eSPoint 35 eSPoint g3 [] mh13 b1, rowT 61 eHd a1572 x1570.length cp1573 hs1574, innO 35 eSPoint none hs1574 x1570, mapI eSPoint (some g1552) x1571, boxO 35 g1576 [.int .i64 x1569, .int .i64 x1558]]) [0, 1, 2, 3, 4, 5] ?_ ⟨rfl, rfl, rfl, rfl, rfl, rfl, rfl, rfl, rfl, trivial⟩ (by decide) rfl
        refine JE.code ?_
        refine JX.seq ?_
        refine JX.seq ?_
        refine JX.region ?_
        refine JL.val (yl_move rfl) rfl ?_
        refine JL.val (yl_loadn Go.Proofs.Try.underlying35 rfl i35 rfl (fun w hC => rd_box hC 5 rfl) rfl (i35s).symm i35p) rfl ?_
        refine JL.val (yl_lookIok (e := eSPoint) (mi := x1571) (k := SPoint.mk x1569 x1558) Go.Proofs.Try.underlying91 zv2 keyOk35 rfl rfl (fun w hC => rd_mapI hC 4 rfl)) rfl ?_
        refine JL.val (yl_move rfl) rfl ?_
        refine JL.val (yl_extract rfl rfl) rfl ?_
        refine JL.val (yl_extract rfl rfl) rfl ?_
        refine JL.val (yl_assign rfl) rfl ?_
        refine JL.val (yl_assign rfl) rfl ?_
        refine JL.nil ?_
        refine JE.weak (env' := [(1, ptrAt (some ⟨g1, 0, none⟩) 0), (4, .map (some g3)), (9, .slice a1572 x1570.length cp1573), (10, .map (some g1552)), (11, .int .i64 x1558), (12, .int .i64 x1569), (13, ptrAt (some ⟨g1576, 0, none⟩) 0), (15, .bool ((mfind x1571 (SPoint.mk x1569 x1558)).isSome)), (91, .int .i64 (w64 ((w64 (2 * q0.H)) + 1))), (92, .int .i64 x1558)]) (es' := [boxO 28 g1 [.int .i64 q0.W, .int .i64 q0.H, .slice a_0_2 q0.Breaks.length c_0_2], mapR eSPoint 35 eSPoint g3 [] mh13 b1, rowT 61 eHd a1572 x1570.length cp1573 hs1574, innO 35 eSPoint none hs1574 x1570, mapI eSPoint (some g1552) x1571, boxO 35 g1576 [.int .i64 x1569, .int .i64 x1558]]) [0, 1, 2, 3, 4, 5] ?_ ⟨rfl, rfl, rfl, rfl, rfl, rfl, rfl, rfl, rfl, rfl, trivial⟩ (by decide) rfl
        refine JE.code ?_
        refine JX.seq ?_
        refine JX.region ?_
        refine JL.val (yl_move rfl) rfl ?_
        refine JL.nil ?_
        refine JE.code ?_
        rcases cond_some hres with ⟨hb, hres⟩ | ⟨hb, hres⟩
        · refine JX.condT rfl hb ?_
          refine JX.exit ?_
          refine JE.qb rfl ?_
          refine JE.code ?_
          refine JX.region ?_
          refine JL.val (yl_move rfl) rfl ?_
          refine JL.val (yl_add rfl rfl) rfl ?_
          refine JL.val (yl_assign rfl) rfl ?_
          refine JL.nil ?_
          refine JE.weak (env' := [(1, ptrAt (some ⟨g1, 0, none⟩) 0), (4, .map (some g3)), (9, .slice a1572 x1570.length cp1573), (10, .map (some g1552)), (11, .int .i64 x1558), (12, .int .i64 (w64 (x1569 + 2))), (91, .int .i64 (w64 ((w64 (2 * q0.H)) + 1))), (92, .int .i64 x1558)]) (es' := [boxO 28 g1 [.int .i64 q0.W, .int .i64 q0.H, .slice a_0_2 q0.Breaks.length c_0_2], mapR eSPoint 35 eSPoint g3 [] mh13 b1, rowT 61 eHd a1572 x1570.length cp1573 hs1574, innO 35 eSPoint none hs1574 x1570, mapI eSPoint (some g1552) x1571]) [0, 1, 2, 3, 4] ?_ ⟨rfl, rfl, rfl, rfl, rfl, rfl, rfl, rfl, trivial⟩ (by decide) rfl
          refine JE.cont hres ?_
          exact fun a w h => ⟨a1572, cp1573, hs1574, hi1575, h.weak ⟨rfl, rfl, (by first | rfl | (simp only [List.length_set]; rfl) | simp only [List.length_set]), rfl, rfl, rfl, rfl, rfl, trivial⟩ [0, 1, 2, 3, 4] (by decide) (by first | rfl | (simp only [List.length_set]; rfl) | simp only [List.length_set])⟩
        · refine JX.condF rfl hb ?_
          refine JX.skip ?_
          refine JE.code ?_
          refine JX.seq ?_
          refine JX.region ?_
          refine JL.val (yl_loadn Go.Proofs.Try.underlying35 rfl i35 rfl (fun w hC => rd_box hC 5 rfl) rfl (i35s).symm i35p) rfl ?_
          refine JL.eff (ef_buildSlice (E := 35) (k := eSPoint.k) (us := eSPoint.fl [SPoint.mk x1569 x1558]) rfl (fun w => bsl61_1 x1569 x1558 w) rfl (by decide)) rfl ?_
          rintro _ _ ⟨a1578, rfl, rfl⟩
          refine JL.val (yl_assign rfl) rfl ?_
          refine JL.nil ?_
          refine JE.code ?_
          refine JX.seq ?_
          refine JX.region ?_
          refine JL.val (yl_move rfl) rfl ?_
          refine JL.val (yl_loadn Go.Proofs.Try.underlying35 rfl i35 rfl (fun w hC => rd_box hC 5 rfl) rfl (i35s).symm i35p) rfl ?_
          refine JL.val (yl_move rfl) rfl ?_
          refine JL.val (yl_len_slice Go.Proofs.Try.underlying40 rfl) rfl ?_
          refine JL.eff (ef_mapUpdI (e := eSPoint) (i := 4) (k := SPoint.mk x1569 x1558) (v := ((x1570.length : Nat) : Int)) Go.Proofs.Try.underlying91 keyOk35 rfl rfl rfl rfl) rfl ?_
          rintro _ _ rfl
          refine JL.nil ?_
          refine JE.weak (env' := [(1, ptrAt (some ⟨g1, 0, none⟩) 0), (4, .map (some g3)), (9, .slice a1572 x1570.length cp1573), (10, .map (some g1552)), (11, .int .i64 x1558), (12, .int .i64 x1569), (16, .slice a1578 1 1), (91, .int .i64 (w64 ((w64 (2 * q0.H)) + 1))), (92, .int .i64 x1558)]) (es' := [boxO 28 g1 [.int .i64 q0.W, .int .i64 q0.H, .slice a_0_2 q0.Breaks.length c_0_2], mapR eSPoint 35 eSPoint g3 [] mh13 b1, rowT 61 eHd a1572 x1570.length cp1573 hs1574, innO 35 eSPoint none hs1574 x1570, mapI eSPoint (some g1552) (mput x1571 (SPoint.mk x1569 x1558) ((x1570.length : Nat) : Int)), rowT 35 eSPoint a1578 1 1 [SPoint.mk x1569 x1558]]) [0, 1, 2, 3, 4, 6] ?_ ⟨rfl, rfl, rfl, rfl, rfl, rfl, rfl, rfl, rfl, trivial⟩ (by decide) rfl
          refine JE.code ?_
          refine JX.seq ?_
          refine JX.seq ?_
          refine JX.region ?_
          refine JL.val (yl_assign rfl) rfl ?_
          refine JL.nil ?_
          refine JE.code ?_
          refine JX.block ?_
          obtain ⟨y4, hy4, hresO4⟩ := bind_some hres
          refine JX.loop (I := fun (s4 : Int × (List (SPoint × Int)) × List SPoint) aa ww => ∃ (a1580 : Option Addr) (cp1581 : Nat), St w [] 163 [(1, ptrAt (some ⟨g1, 0, none⟩) 0), (4, .map (some g3)), (9, .slice a1572 x1570.length cp1573), (10, .map (some g1552)), (11, .int .i64 x1558), (12, .int .i64 x1569), (16, .slice a1580 s4.2.2.length cp1581), (17, .int .i64 s4.1), (91, .int .i64 (w64 ((w64 (2 * q0.H)) + 1))), (92, .int .i64 x1558)] [boxO 28 g1 [.int .i64 q0.W, .int .i64 q0.H, .slice a_0_2 q0.Breaks.length c_0_2], mapR eSPoint 35 eSPoint g3 [] mh13 b1, rowT 61 eHd a1572 x1570.length cp1573 hs1574, innO 35 eSPoint none hs1574 x1570, mapI eSPoint (some g1552) s4.2.1, rowT 35 eSPoint a1580 s4.2.2.length cp1581 s4.2.2] aa ww) (sh88_4 b1 x1570) hy4 (fun a w h => ⟨a1578, 1, h.weak ⟨rfl, rfl, rfl, rfl, rfl, rfl, rfl, rfl, rfl, rfl, trivial⟩ [0, 1, 2, 3, 4, 5] (by decide) rfl⟩) ?_
          rintro ⟨x1582, x1583, x1584⟩ o4 hres hox4 aa ww ⟨a1585, cp1586, hS⟩
          refine (?_ : JX Go.Proofs.Try.prog w [] 163 _ _ [(1, ptrAt (some ⟨g1, 0, none⟩) 0), (4, .map (some g3)), (9, .slice a1572 x1570.length cp1573), (10, .map (some g1552)), (11, .int .i64 x1558), (12, .int .i64 x1569), (16, .slice a1585 x1584.length cp1586), (17, .int .i64 x1582), (91, .int .i64 (w64 ((w64 (2 * q0.H)) + 1))), (92, .int .i64 x1558)] [boxO 28 g1 [.int .i64 q0.W, .int .i64 q0.H, .slice a_0_2 q0.Breaks.length c_0_2], mapR eSPoint 35 eSPoint g3 [] mh13 b1, rowT 61 eHd a1572 x1570.length cp1573 hs1574, innO 35 eSPoint none hs1574 x1570, mapI eSPoint (some g1552) x1583, rowT 35 eSPoint a1585 x1584.length cp1586 x1584] _) aa ww hS
          clear hS
          simp only [sh88_4] at hres
          refine JX.seq ?_
          refine JX.seq ?_
          refine JX.region ?_
          refine JL.val (yl_move rfl) rfl ?_
          refine JL.val (yl_move rfl) rfl ?_
          refine JL.val (yl_len_slice Go.Proofs.Try.underlying61 rfl) rfl ?_
          refine JL.val (yl_lss rfl rfl) rfl ?_
          refine JL.nil ?_
          refine JE.weak (env' := [(1, ptrAt (some ⟨g1, 0, none⟩) 0), (4, .map (some g3)), (9, .slice a1572 x1570.length cp1573), (10, .map (some g1552)), (11, .int .i64 x1558), (12, .int .i64 x1569), (16, .slice a1585 x1584.length cp1586), (17, .int .i64 x1582), (91, .int .i64 (w64 ((w64 (2 * q0.H)) + 1))), (92, .int .i64 x1558), (123, .bool (decide (x1582 < (x1584.length : Int))))]) (es' := [boxO 28 g1 [.int .i64 q0.W, .int .i64 q0.H, .slice a_0_2 q0.Breaks.length c_0_2], mapR eSPoint 35 eSPoint g3 [] mh13 b1, rowT 61 eHd a1572 x1570.length cp1573 hs1574, innO 35 eSPoint none hs1574 x1570, mapI eSPoint (some g1552) x1583, rowT 35 eSPoint a1585 x1584.length cp1586 x1584]) [0, 1, 2, 3, 4, 5] ?_ ⟨rfl, rfl, rfl, rfl, rfl, rfl, rfl, rfl, rfl, rfl, rfl, trivial⟩ (by decide) rfl
          refine JE.code ?_
          rcases cond_some hres with ⟨hb, hres⟩ | ⟨hb, hres⟩
          · refine JX.condT rfl hb ?_
            refine JX.skip ?_
            refine JE.code ?_
            refine JX.seq ?_
            refine JX.block ?_
            refine JX.seq ?_
            refine JX.region ?_
            refine JL.val (yl_move rfl) rfl ?_
            refine JL.val (yl_move rfl) rfl ?_
            refine JL.val (yl_move rfl) rfl ?_
            obtain ⟨x1587, hx1587, hres⟩ := bind_some hres
            refine JL.val (yl_idxT Go.Proofs.Try.underlying61 i35 i35s rfl rfl hx1587 rfl (fun w hC => rd_row hC 5 rfl)) rfl ?_
            refine JL.val (yl_loadTn Go.Proofs.Try.underlying35 rfl i35 i35s rfl hx1587 (fun w hC => rd_row hC 5 rfl)) rfl ?_
            obtain ⟨ha1588, hc1589, hg1590⟩ := InnM.get hi1548 x1587
            refine JL.val (yl_lookR (mh := mh13) (k := x1587) Go.Proofs.Try.underlying146 zv61 keyOk35 rfl rfl hg1590 (fun w hC => rd_mapR hC 1 rfl)) rfl ?_
            refine JL.val (yl_len_slice Go.Proofs.Try.underlying61 rfl) rfl ?_
            refine JL.val (yl_move rfl) rfl ?_
            refine JL.nil ?_
            refine JE.weak (env' := [(1, ptrAt (some ⟨g1, 0, none⟩) 0), (4, .map (some g3)), (9, .slice a1572 x1570.length cp1573), (10, .map (some g1552)), (11, .int .i64 x1558), (12, .int .i64 x1569), (16, .slice a1585 x1584.length cp1586), (17, .int .i64 x1582), (91, .int .i64 (w64 ((w64 (2 * q0.H)) + 1))), (92, .int .i64 x1558), (131, .slice ha1588 ((rowOf b1 x1587).length) hc1589), (132, .int .i64 ((rowOf b1 x1587).length : Int)), (133, .int .i64 0)]) (es' := [boxO 28 g1 [.int .i64 q0.W, .int .i64 q0.H, .slice a_0_2 q0.Breaks.length c_0_2], mapR eSPoint 35 eSPoint g3 [] mh13 b1, rowT 61 eHd a1572 x1570.length cp1573 hs1574, innO 35 eSPoint none hs1574 x1570, mapI eSPoint (some g1552) x1583, rowT 35 eSPoint a1585 x1584.length cp1586 x1584]) [0, 1, 2, 3, 4, 5] ?_ ⟨rfl, rfl, rfl, rfl, rfl, rfl, rfl, rfl, rfl, rfl, rfl, rfl, rfl, trivial⟩ (by decide) rfl
            refine JE.code ?_
            refine JX.block ?_
            obtain ⟨y5, hy5, hresO5⟩ := bind_some hres
            refine JX.loop (I := fun (s5 : Int × (List (SPoint × Int)) × List SPoint) aa ww => ∃ (a1592 : Option Addr) (cp1593 : Nat), St w [] 163 [(1, ptrAt (some ⟨g1, 0, none⟩) 0), (4, .map (some g3)), (9, .slice a1572 x1570.length cp1573), (10, .map (some g1552)), (11, .int .i64 x1558), (12, .int .i64 x1569), (16, .slice a1592 s5.2.2.length cp1593), (17, .int .i64 x1582), (91, .int .i64 (w64 ((w64 (2 * q0.H)) + 1))), (92, .int .i64 x1558), (131, .slice ha1588 ((rowOf b1 x1587).length) hc1589), (132, .int .i64 ((rowOf b1 x1587).length : Int)), (133, .int .i64 s5.1)] [boxO 28 g1 [.int .i64 q0.W, .int .i64 q0.H, .slice a_0_2 q0.Breaks.length c_0_2], mapR eSPoint 35 eSPoint g3 [] mh13 b1, rowT 61 eHd a1572 x1570.length cp1573 hs1574, innO 35 eSPoint none hs1574 x1570, mapI eSPoint (some g1552) s5.2.1, rowT 35 eSPoint a1592 s5.2.2.length cp1593 s5.2.2] aa ww) (sh88_5 b1 x1570 x1587) hy5 (fun a w h => ⟨a1585, cp1586, h.weak ⟨rfl, rfl, rfl, rfl, rfl, rfl, rfl, rfl, rfl, rfl, rfl, rfl, rfl, trivial⟩ [0, 1, 2, 3, 4, 5] (by decide) rfl⟩) ?_
            rintro ⟨x1594, x1595, x1596⟩ o5 hres hox5 aa ww ⟨a1597, cp1598, hS⟩
            refine (?_ : JX Go.Proofs.Try.prog w [] 163 _ _ [(1, ptrAt (some ⟨g1, 0, none⟩) 0), (4, .map (some g3)), (9, .slice a1572 x1570.length cp1573), (10, .map (some g1552)), (11, .int .i64 x1558), (12, .int .i64 x1569), (16, .slice a1597 x1596.length cp1598), (17, .int .i64 x1582), (91, .int .i64 (w64 ((w64 (2 * q0.H)) + 1))), (92, .int .i64 x1558), (131, .slice ha1588 ((rowOf b1 x1587).length) hc1589), (132, .int .i64 ((rowOf b1 x1587).length : Int)), (133, .int .i64 x1594)] [boxO 28 g1 [.int .i64 q0.W, .int .i64 q0.H, .slice a_0_2 q0.Breaks.length c_0_2], mapR eSPoint 35 eSPoint g3 [] mh13 b1, rowT 61 eHd a1572 x1570.length cp1573 hs1574, innO 35 eSPoint none hs1574 x1570, mapI eSPoint (some g1552) x1595, rowT 35 eSPoint a1597 x1596.length cp1598 x1596] _) aa ww hS
            clear hS
            simp only [sh88_5] at hres
            refine JX.seq ?_
            refine JX.region ?_
            refine JL.val (yl_lss rfl rfl) rfl ?_
            refine JL.nil ?_
            refine JE.code ?_
            refine JX.seq ?_
            rcases cond_some hres with ⟨hb, hres⟩ | ⟨hb, hres⟩
            · refine JX.condT rfl hb ?_
              refine JX.skip ?_
              refine JE.code ?_
              refine JX.seq ?_
              refine JX.block ?_
              refine JX.seq ?_
              refine JX.region ?_
              obtain ⟨x1599, hx1599, hres⟩ := bind_some hres
              refine JL.val (yl_idxT Go.Proofs.Try.underlying61 i35 i35s rfl rfl hx1599 rfl (fun w hC => (rd_rowM hC 1 rfl hg1590))) rfl ?_
              refine JL.val (yl_loadTn Go.Proofs.Try.underlying35 rfl i35 i35s rfl hx1599 (fun w hC => (rd_rowM hC 1 rfl hg1590))) rfl ?_
              refine JL.eff (ef_alloc i35 i35z rfl) rfl ?_
              rintro _ _ ⟨g1600, rfl, rfl⟩
              refine JL.eff (ef_store_box (i := 6) (v := .agg #[.int .i64 x1599.X, .int .i64 x1599.Y]) i35 rfl rfl rfl (i35s).symm (Nat.le_of_ble_eq_true rfl) (by simp [Value.cells, Value.oneCell'])) rfl ?_
              rintro _ _ rfl
              refine JL.nil ?_
              refine JE.weak (env' := [(1, ptrAt (some ⟨g1, 0, none⟩) 0), (4, .map (some g3)), (9, .slice a1572 x1570.length cp1573), (10, .map (some g1552)), (11, .int .i64 x1558), (12, .int .i64 x1569), (16, .slice a1597 x1596.length cp1598), (17, .int .i64 x1582), (19, ptrAt (some ⟨g1600, 0, none⟩) 0), (91, .int .i64 (w64 ((w64 (2 * q0.H)) + 1))), (92, .int .i64 x1558), (131, .slice ha1588 ((rowOf b1 x1587).length) hc1589), (132, .int .i64 ((rowOf b1 x1587).length : Int)), (133, .int .i64 x1594)]) (es' := [boxO 28 g1 [.int .i64 q0.W, .int .i64 q0.H, .slice a_0_2 q0.Breaks.length c_0_2], mapR eSPoint 35 eSPoint g3 [] mh13 b1, rowT 61 eHd a1572 x1570.length cp1573 hs1574, innO 35 eSPoint none hs1574 x1570, mapI eSPoint (some g1552) x1595, rowT 35 eSPoint a1597 x1596.length cp1598 x1596, boxO 35 g1600 [.int .i64 x1599.X, .int .i64 x1599.Y]]) [0, 1, 2, 3, 4, 5, 6] ?_ ⟨rfl, rfl, rfl, rfl, rfl, rfl, rfl, rfl, rfl, rfl, rfl, rfl, rfl, rfl, trivial⟩ (by decide) rfl
              refine JE.code ?_
              refine JX.seq ?_
              refine JX.region ?_
              refine JL.val (yl_move rfl) rfl ?_
              refine JL.val (yl_loadn Go.Proofs.Try.underlying35 rfl i35 rfl (fun w hC => rd_box hC 6 rfl) rfl (i35s).symm i35p) rfl ?_
              refine JL.val (yl_lookIok (e := eSPoint) (mi := x1595) (k := x1599) Go.Proofs.Try.underlying91 zv2 keyOk35 rfl rfl (fun w hC => rd_mapI hC 4 rfl)) rfl ?_
              refine JL.val (yl_move rfl) rfl ?_
              refine JL.val (yl_extract rfl rfl) rfl ?_
              refine JL.val (yl_extract rfl rfl) rfl ?_
              refine JL.val (yl_assign rfl) rfl ?_
              refine JL.val (yl_assign rfl) rfl ?_
              refine JL.nil ?_
              refine JE.weak (env' := [(1, ptrAt (some ⟨g1, 0, none⟩) 0), (4, .map (some g3)), (9, .slice a1572 x1570.length cp1573), (10, .map (some g1552)), (11, .int .i64 x1558), (12, .int .i64 x1569), (16, .slice a1597 x1596.length cp1598), (17, .int .i64 x1582), (19, ptrAt (some ⟨g1600, 0, none⟩) 0), (21, .bool ((mfind x1595 x1599).isSome)), (91, .int .i64 (w64 ((w64 (2 * q0.H)) + 1))), (92, .int .i64 x1558), (131, .slice ha1588 ((rowOf b1 x1587).length) hc1589), (132, .int .i64 ((rowOf b1 x1587).length : Int)), (133, .int .i64 x1594)]) (es' := [boxO 28 g1 [.int .i64 q0.W, .int .i64 q0.H, .slice a_0_2 q0.Breaks.length c_0_2], mapR eSPoint 35 eSPoint g3 [] mh13 b1, rowT 61 eHd a1572 x1570.length cp1573 hs1574, innO 35 eSPoint none hs1574 x1570, mapI eSPoint (some g1552) x1595, rowT 35 eSPoint a1597 x1596.length cp1598 x1596, boxO 35 g1600 [.int .i64 x1599.X, .int .i64 x1599.Y]]) [0, 1, 2, 3, 4, 5, 6] ?_ ⟨rfl, rfl, rfl, rfl, rfl, rfl, rfl, rfl, rfl, rfl, rfl, rfl, rfl, rfl, rfl, trivial⟩ (by decide) rfl
              refine JE.code ?_
              refine JX.seq ?_
              refine JX.region ?_
              refine JL.val (yl_move rfl) rfl ?_
              refine JL.val (yl_not rfl) rfl ?_
              refine JL.nil ?_
              refine JE.code ?_
              obtain ⟨j1602, hj1602, hresj1602⟩ := bind_some hres
              refine JX.cut (K := fun J => ∀ (a1603 : Option Addr) (cp1604 : Nat), J [(1, ptrAt (some ⟨g1, 0, none⟩) 0), (4, .map (some g3)), (9, .slice a1572 x1570.length cp1573), (10, .map (some g1552)), (11, .int .i64 x1558), (12, .int .i64 x1569), (16, .slice a1603 j1602.2.length cp1604), (17, .int .i64 x1582), (91, .int .i64 (w64 ((w64 (2 * q0.H)) + 1))), (92, .int .i64 x1558), (131, .slice ha1588 ((rowOf b1 x1587).length) hc1589), (132, .int .i64 ((rowOf b1 x1587).length : Int)), (133, .int .i64 x1594)] [boxO 28 g1 [.int .i64 q0.W, .int .i64 q0.H, .slice a_0_2 q0.Breaks.length c_0_2], mapR eSPoint 35 eSPoint g3 [] mh13 b1, rowT 61 eHd a1572 x1570.length cp1573 hs1574, innO 35 eSPoint none hs1574 x1570, mapI eSPoint (some g1552) j1602.1, rowT 35 eSPoint a1603 j1602.2.length cp1604 j1602.2]) ?_ ?_
              · intro a1603 cp1604
                have hres := hresj1602
                refine JE.code ?_
                refine JX.region ?_
                refine JL.val (yl_add rfl rfl) rfl ?_
                refine JL.val (yl_move rfl) rfl ?_
                refine JL.nil ?_
                refine JE.cont hres ?_
                exact fun a w h => ⟨a1603, cp1604, h.weak ⟨rfl, rfl, rfl, rfl, rfl, rfl, rfl, rfl, rfl, rfl, rfl, rfl, rfl, trivial⟩ [0, 1, 2, 3, 4, 5] (by decide) rfl⟩
              · intro K
                rcases cond_some hj1602 with ⟨hb, hres⟩ | ⟨hb, hres⟩
                · refine JX.condT rfl hb ?_
                  refine JX.seq ?_
                  refine JX.region ?_
                  refine JL.val (yl_move rfl) rfl ?_
                  refine JL.val (yl_loadn Go.Proofs.Try.underlying35 rfl i35 rfl (fun w hC => rd_box hC 6 rfl) rfl (i35s).symm i35p) rfl ?_
                  refine JL.val (yl_move rfl) rfl ?_
                  refine JL.val (yl_len_slice Go.Proofs.Try.underlying40 rfl) rfl ?_
                  refine JL.eff (ef_mapUpdI (e := eSPoint) (i := 4) (k := x1599) (v := ((x1570.length : Nat) : Int)) Go.Proofs.Try.underlying91 keyOk35 rfl rfl rfl rfl) rfl ?_
                  rintro _ _ rfl
                  refine JL.nil ?_
                  refine JE.weak (env' := [(1, ptrAt (some ⟨g1, 0, none⟩) 0), (4, .map (some g3)), (9, .slice a1572 x1570.length cp1573), (10, .map (some g1552)), (11, .int .i64 x1558), (12, .int .i64 x1569), (16, .slice a1597 x1596.length cp1598), (17, .int .i64 x1582), (19, ptrAt (some ⟨g1600, 0, none⟩) 0), (91, .int .i64 (w64 ((w64 (2 * q0.H)) + 1))), (92, .int .i64 x1558), (131, .slice ha1588 ((rowOf b1 x1587).length) hc1589), (132, .int .i64 ((rowOf b1 x1587).length : Int)), (133, .int .i64 x1594)]) (es' := [boxO 28 g1 [.int .i64 q0.W, .int .i64 q0.H, .slice a_0_2 q0.Breaks.length c_0_2], mapR eSPoint 35 eSPoint g3 [] mh13 b1, rowT 61 eHd a1572 x1570.length cp1573 hs1574, innO 35 eSPoint none hs1574 x1570, mapI eSPoint (some g1552) (mput x1595 x1599 ((x1570.length : Nat) : Int)), rowT 35 eSPoint a1597 x1596.length cp1598 x1596, boxO 35 g1600 [.int .i64 x1599.X, .int .i64 x1599.Y]]) [0, 1, 2, 3, 4, 5, 6] ?_ ⟨rfl, rfl, rfl, rfl, rfl, rfl, rfl, rfl, rfl, rfl, rfl, rfl, rfl, rfl, trivial⟩ (by decide) rfl
                  refine JE.code ?_
                  refine JX.region ?_
                  refine JL.val (yl_move rfl) rfl ?_
                  refine JL.val (yl_loadn Go.Proofs.Try.underlying35 rfl i35 rfl (fun w hC => rd_box hC 6 rfl) rfl (i35s).symm i35p) rfl ?_
                  refine JL.eff (ef_buildSlice (E := 35) (k := eSPoint.k) (us := eSPoint.fl [x1599]) rfl (fun w => bsl61_1 x1599.X x1599.Y w) rfl (by decide)) rfl ?_
                  rintro _ _ ⟨a1605, rfl, rfl⟩
                  obtain ⟨x1607, hx1607, hres⟩ := bind_some hres
                  refine JL.eff (ef_appendT (ix := 5) Go.Proofs.Try.underlying61 i35 i35z i35s rfl i35b0 i35b1 rfl rfl rfl rfl rfl (fun w hC => rd_row hC 7 rfl) hx1607) rfl ?_
                  rintro _ _ ⟨a1608, cp1609, rfl, rfl⟩
                  refine JL.val (yl_assign rfl) rfl ?_
                  refine JL.nil ?_
                  refine JE.weak (env' := [(1, ptrAt (some ⟨g1, 0, none⟩) 0), (4, .map (some g3)), (9, .slice a1572 x1570.length cp1573), (10, .map (some g1552)), (11, .int .i64 x1558), (12, .int .i64 x1569), (16, .slice a1608 x1607.length cp1609), (17, .int .i64 x1582), (91, .int .i64 (w64 ((w64 (2 * q0.H)) + 1))), (92, .int .i64 x1558), (131, .slice ha1588 ((rowOf b1 x1587).length) hc1589), (132, .int .i64 ((rowOf b1 x1587).length : Int)), (133, .int .i64 x1594)]) (es' := [boxO 28 g1 [.int .i64 q0.W, .int .i64 q0.H, .slice a_0_2 q0.Breaks.length c_0_2], mapR eSPoint 35 eSPoint g3 [] mh13 b1, rowT 61 eHd a1572 x1570.length cp1573 hs1574, innO 35 eSPoint none hs1574 x1570, mapI eSPoint (some g1552) (mput x1595 x1599 ((x1570.length : Nat) : Int)), rowT 35 eSPoint a1608 x1607.length cp1609 x1607]) [0, 1, 2, 3, 4, 5] ?_ ⟨rfl, rfl, rfl, rfl, rfl, rfl, rfl, rfl, rfl, rfl, rfl, rfl, rfl, trivial⟩ (by decide) rfl
                  have hj := Option.some.inj hres
                  exact JE.weak [0, 1, 2, 3, 4, 5] (K a1608 cp1609) ⟨(by subst hj; rfl), (by subst hj; rfl), (by subst hj; rfl), (by subst hj; rfl), (by subst hj; rfl), (by subst hj; rfl), (by subst hj; rfl), (by subst hj; rfl), (by subst hj; rfl), (by subst hj; rfl), (by subst hj; rfl), (by subst hj; rfl), (by subst hj; rfl), trivial⟩ (by decide) (by subst hj; rfl)
                · refine JX.condF rfl hb ?_
                  refine JX.skip ?_
                  have hj := Option.some.inj hres
                  exact JE.weak [0, 1, 2, 3, 4, 5] (K a1597 cp1598) ⟨(by subst hj; rfl), (by subst hj; rfl), (by subst hj; rfl), (by subst hj; rfl), (by subst hj; rfl), (by subst hj; rfl), (by subst hj; rfl), (by subst hj; rfl), (by subst hj; rfl), (by subst hj; rfl), (by subst hj; rfl), (by subst hj; rfl), (by subst hj; rfl), trivial⟩ (by decide) (by subst hj; rfl)
            · refine JX.condF rfl hb ?_
              refine JX.exit ?_
              refine JE.qb rfl ?_
              obtain ⟨b5, hb5⟩ : ∃ b : (List (SPoint × Int)) × List SPoint, b = (x1595, x1596) := ⟨_, rfl⟩
              have hy5 : b5 = y5 := by rw [hb5]; exact hox5 _ (Option.some.inj hres).symm
              have hres := hresO5
              rw [← hy5] at hres
              refine JE.weak (env' := [(1, ptrAt (some ⟨g1, 0, none⟩) 0), (4, .map (some g3)), (9, .slice a1572 x1570.length cp1573), (10, .map (some g1552)), (11, .int .i64 x1558), (12, .int .i64 x1569), (16, .slice a1597 b5.2.length cp1598), (17, .int .i64 x1582), (91, .int .i64 (w64 ((w64 (2 * q0.H)) + 1))), (92, .int .i64 x1558)]) (es' := [boxO 28 g1 [.int .i64 q0.W, .int .i64 q0.H, .slice a_0_2 q0.Breaks.length c_0_2], mapR eSPoint 35 eSPoint g3 [] mh13 b1, rowT 61 eHd a1572 x1570.length cp1573 hs1574, innO 35 eSPoint none hs1574 x1570, mapI eSPoint (some g1552) b5.1, rowT 35 eSPoint a1597 b5.2.length cp1598 b5.2]) [0, 1, 2, 3, 4, 5] ?_ ⟨(by subst hb5; rfl), (by subst hb5; rfl), (by subst hb5; rfl), (by subst hb5; rfl), (by subst hb5; rfl), (by subst hb5; rfl), (by subst hb5; rfl), (by subst hb5; rfl), (by subst hb5; rfl), (by subst hb5; rfl), trivial⟩ (by decide) (by subst hb5; rfl)
              refine JE.code ?_
              refine JX.region ?_
              refine JL.val (yl_move rfl) rfl ?_
              refine JL.val (yl_add rfl rfl) rfl ?_
              refine JL.val (yl_assign rfl) rfl ?_
              refine JL.nil ?_
              refine JE.cont hres ?_
              exact fun a w h => ⟨a1597, cp1598, h.weak ⟨rfl, rfl, rfl, rfl, rfl, rfl, rfl, rfl, rfl, rfl, trivial⟩ [0, 1, 2, 3, 4, 5] (by decide) rfl⟩
          · refine JX.condF rfl hb ?_
            refine JX.exit ?_
            refine JE.qb rfl ?_
            obtain ⟨b4, hb4⟩ : ∃ b : (List (SPoint × Int)) × List SPoint, b = (x1583, x1584) := ⟨_, rfl⟩
            have hy4 : b4 = y4 := by rw [hb4]; exact hox4 _ (Option.some.inj hres).symm
            have hres := hresO4
            rw [← hy4] at hres
            refine JE.weak (env' := [(1, ptrAt (some ⟨g1, 0, none⟩) 0), (4, .map (some g3)), (9, .slice a1572 x1570.length cp1573), (10, .map (some g1552)), (11, .int .i64 x1558), (12, .int .i64 x1569), (16, .slice a1585 b4.2.length cp1586), (91, .int .i64 (w64 ((w64 (2 * q0.H)) + 1))), (92, .int .i64 x1558)]) (es' := [boxO 28 g1 [.int .i64 q0.W, .int .i64 q0.H, .slice a_0_2 q0.Breaks.length c_0_2], mapR eSPoint 35 eSPoint g3 [] mh13 b1, rowT 61 eHd a1572 x1570.length cp1573 hs1574, innO 35 eSPoint none hs1574 x1570, mapI eSPoint (some g1552) b4.1, rowT 35 eSPoint a1585 b4.2.length cp1586 b4.2]) [0, 1, 2, 3, 4, 5] ?_ ⟨(by subst hb4; rfl), (by subst hb4; rfl), (by subst hb4; rfl), (by subst hb4; rfl), (by subst hb4; rfl), (by subst hb4; rfl), (by subst hb4; rfl), (by subst hb4; rfl), (by subst hb4; rfl), trivial⟩ (by decide) (by subst hb4; rfl)
            refine JE.code ?_
            refine JX.seq ?_
            refine JX.region ?_
            refine JL.val (yl_move rfl) rfl ?_
            obtain ⟨x1614, hx1614, hres⟩ := bind_some hres
            refine JL.eff (ef_callms (caps := []) (vs := [.slice a1585 b4.2.length cp1586, .func (.func 151) #[] #[]]) (T := fun v es1 rs1 => v = .tuple #[] ∧ es1 = [rowT 35 eSPoint a1585 b4.2.length cp1586 x1614] ∧ rs1 = []) [5] [0, 1, 2, 3, 4] [rowT 35 eSPoint a1585 b4.2.length cp1586 b4.2] [boxO 28 g1 [.int .i64 q0.W, .int .i64 q0.H, .slice a_0_2 q0.Breaks.length c_0_2], mapR eSPoint 35 eSPoint g3 [] mh13 b1, rowT 61 eHd a1572 x1570.length cp1573 hs1574, innO 35 eSPoint none hs1574 x1570, mapI eSPoint (some g1552) b4.1] rfl Go.Proofs.Try.func150 rfl (by kernel_rfl) rfl (by decide) rfl rfl (fun w N hF hS => sortf_ad sortPtsK sortPts0 hS rfl hx1614)) rfl ?_
            rintro _ _ ⟨_, _, ⟨rfl, rfl, rfl⟩, rfl⟩
            refine JL.nil ?_
            refine JE.code ?_
            refine JX.region ?_
            refine JL.val (yl_move rfl) rfl ?_
            refine JL.val (yl_move rfl) rfl ?_
            refine JL.eff (ef_buildSlice (E := 61) (k := eHd.k) (us := eHd.fl [⟨a1585, b4.2.length, cp1586⟩]) rfl (fun w => bsl40_1 a1585 b4.2.length cp1586 w) rfl (by decide)) rfl ?_
            rintro _ _ ⟨a1615, rfl, rfl⟩
            obtain ⟨x1617, hx1617, hres⟩ := bind_some hres
            refine JL.eff (ef_appendH (ix := 2) Go.Proofs.Try.underlying40 i61 i61z i61s rfl i61b0 i61b1 rfl rfl (Inn.len hi1575) rfl rfl (fun w hC => rd_row hC 6 rfl) hx1617 hi1575) rfl ?_
            rintro _ _ ⟨a1618, cp1619, rfl, rfl⟩
            refine JL.absorb (es' := [boxO 28 g1 [.int .i64 q0.W, .int .i64 q0.H, .slice a_0_2 q0.Breaks.length c_0_2], mapR eSPoint 35 eSPoint g3 [] mh13 b1, rowT 61 eHd a1618 x1617.length cp1619 (hs1574 ++ [⟨a1585, b4.2.length, cp1586⟩]), mapI eSPoint (some g1552) b4.1, rowT 61 eHd a1615 1 1 [⟨a1585, b4.2.length, cp1586⟩]]) [0, 1, 2, 4, 6, 3, 5] (by decide) rfl (appL_some hx1617).2 ?_
            refine JL.val (yl_assign rfl) rfl ?_
            refine JL.nil ?_
            refine JE.weak (env' := [(1, ptrAt (some ⟨g1, 0, none⟩) 0), (4, .map (some g3)), (9, .slice a1618 x1617.length cp1619), (10, .map (some g1552)), (11, .int .i64 x1558), (12, .int .i64 x1569), (91, .int .i64 (w64 ((w64 (2 * q0.H)) + 1))), (92, .int .i64 x1558)]) (es' := [boxO 28 g1 [.int .i64 q0.W, .int .i64 q0.H, .slice a_0_2 q0.Breaks.length c_0_2], mapR eSPoint 35 eSPoint g3 [] mh13 b1, rowT 61 eHd a1618 x1617.length cp1619 (hs1574 ++ [⟨a1585, b4.2.length, cp1586⟩]), innO 35 eSPoint none (hs1574 ++ [⟨a1585, b4.2.length, cp1586⟩]) x1617, mapI eSPoint (some g1552) b4.1]) [0, 1, 2, 5, 3] ?_ ⟨rfl, rfl, rfl, rfl, rfl, rfl, rfl, rfl, trivial⟩ (by decide) rfl
            refine JE.code ?_
            refine JX.region ?_
            refine JL.val (yl_move rfl) rfl ?_
            refine JL.val (yl_add rfl rfl) rfl ?_
            refine JL.val (yl_assign rfl) rfl ?_
            refine JL.nil ?_
            refine JE.cont hres ?_
            exact fun a w h => ⟨a1618, cp1619, hs1574 ++ [⟨a1585, b4.2.length, cp1586⟩], (Inn.appZ hi1575 (sortW_len hx1614) (appL_some hx1617).2), h.weak ⟨rfl, rfl, (by first | rfl | (simp only [List.length_set]; rfl) | simp only [List.length_set]), rfl, rfl, rfl, rfl, rfl, trivial⟩ [0, 1, 2, 3, 4] (by decide) (by first | rfl | (simp only [List.length_set]; rfl) | simp only [List.length_set])⟩
      · refine JX.condF rfl hb ?_
        refine JX.exit ?_
        refine JE.qb rfl ?_
        obtain ⟨b3, hb3⟩ : ∃ b : List (List SPoint) × (List (SPoint × Int)), b = (x1570, x1571) := ⟨_, rfl⟩
        have hy3 : b3 = y3 := by rw [hb3]; exact hox3 _ (Option.some.inj hres).symm
        have hres := hresO3
        rw [← hy3] at hres
        have hi1623 : Inn hs1574 b3.1 := by subst hb3; exact hi1575
        refine JE.weak (env' := [(1, ptrAt (some ⟨g1, 0, none⟩) 0), (4, .map (some g3)), (9, .slice a1572 b3.1.length cp1573), (10, .map (some g1552)), (91, .int .i64 (w64 ((w64 (2 * q0.H)) + 1))), (92, .int .i64 x1558)]) (es' := [boxO 28 g1 [.int .i64 q0.W, .int .i64 q0.H, .slice a_0_2 q0.Breaks.length c_0_2], mapR eSPoint 35 eSPoint g3 [] mh13 b1, rowT 61 eHd a1572 b3.1.length cp1573 hs1574, innO 35 eSPoint none hs1574 b3.1, mapI eSPoint (some g1552) b3.2]) [0, 1, 2, 3, 4] ?_ ⟨(by subst hb3; rfl), (by subst hb3; rfl), (by subst hb3; first | rfl | (simp only [List.length_set]; rfl) | simp only [List.length_set]), (by subst hb3; rfl), (by subst hb3; rfl), (by subst hb3; rfl), trivial⟩ (by decide) (by subst hb3; first | rfl | (simp only [List.length_set]; rfl) | simp only [List.length_set])
        refine JE.code ?_
        refine JX.region ?_
        refine JL.val (yl_add rfl rfl) rfl ?_
        refine JL.val (yl_move rfl) rfl ?_
        refine JL.nil ?_
        refine JE.cont hres ?_
        exact fun a w h => ⟨a1572, cp1573, hs1574, hi1623, h.weak ⟨rfl, rfl, (by first | rfl | (simp only [List.length_set]; rfl) | simp only [List.length_set]), rfl, rfl, rfl, trivial⟩ [0, 1, 2, 3, 4] (by decide) (by first | rfl | (simp only [List.length_set]; rfl) | simp only [List.length_set])⟩
    · refine JX.condF rfl hb ?_
      refine JX.exit ?_
      refine JE.qb rfl ?_
      obtain ⟨b2, hb2⟩ : ∃ b : List (List SPoint) × (List (SPoint × Int)), b = (x1559, x1560) := ⟨_, rfl⟩
      have hy2 : b2 = y2 := by rw [hb2]; exact hox2 _ (Option.some.inj hres).symm
      have hres := hresO2
      rw [← hy2] at hres
      have hi1627 : Inn hs1563 b2.1 := by subst hb2; exact hi1564
      refine JE.weak (env' := [(9, .slice a1561 b2.1.length cp1562), (10, .map (some g1552))]) (es' := [rowT 61 eHd a1561 b2.1.length cp1562 hs1563, innO 35 eSPoint none hs1563 b2.1, mapI eSPoint (some g1552) b2.2]) [2, 3, 4] ?_ ⟨(by subst hb2; first | rfl | (simp only [List.length_set]; rfl) | simp only [List.length_set]), (by subst hb2; rfl), trivial⟩ (by decide) (by subst hb2; first | rfl | (simp only [List.length_set]; rfl) | simp only [List.length_set])
      refine JE.code ?_
      refine JX.seq ?_
      refine JX.region ?_
      refine JL.val (yl_move rfl) rfl ?_
      refine JL.val (yl_move rfl) rfl ?_
      refine JL.val (yl_assign rfl) rfl ?_
      refine JL.val (yl_assign rfl) rfl ?_
      refine JL.nil ?_
      refine JE.weak (env' := [(2, .slice a1561 b2.1.length cp1562), (3, .map (some g1552))]) (es' := [rowT 61 eHd a1561 b2.1.length cp1562 hs1563, innO 35 eSPoint none hs1563 b2.1, mapI eSPoint (some g1552) b2.2]) [0, 1, 2] ?_ ⟨rfl, rfl, trivial⟩ (by decide) rfl
      refine JE.code ?_
      refine JX.ret ?_
      obtain rfl := Option.some.inj hres
      refine JE.ret (rs := [.tmp 2, .tmp 3]) (vs := [.slice a1561 b2.1.length cp1562, .map (some g1552)]) rfl ⟨rfl, rfl, trivial⟩ ?_
      exact fun w' hb hs => ⟨_, _, ⟨a1561, b2.1.length, cp1562, hs1563, rfl, hi1627, (some g1552), rfl, rfl⟩, rfl, hb, hs.sel [0, 1, 2] _ (by decide) rfl⟩

/- impl.hasIndex -/
def sh152 (q0 : Int) (q1 : Int) : Option (Bool) := Option.bind (sh125 q0 0 (w64 (q1 - 1))) fun x1 => some x1
def T152 (r : Bool) (v : Value) (rs : List Own) : Prop := v = rets [.bool r] ∧ rs = []
set_option maxRecDepth 100000 in
theorem c152 {w : World} {q0 : Int} {q1 : Int} {r : Bool} (hres : sh152 q0 q1 = some r) : Calls Go.Proofs.Try.prog 152 [.int .i64 q0, .int .i64 q1].toArray w (Ret w (T152 r)) := by
  unfold sh152 at hres
  refine calls_of (n := 9) (M := []) (es := []) Go.Proofs.Try.func152 rfl rfl rfl (Sep.nil _ _ _) ?_
  refine JX.seq ?_
  refine JX.region ?_
  refine JL.val (yl_assign rfl) rfl ?_
  refine JL.nil ?_
  refine JE.code ?_
  refine JX.seq ?_
  refine JX.region ?_
  refine JL.val (yl_move rfl) rfl ?_
  refine JL.val (yl_move rfl) rfl ?_
  refine JL.val (yl_sub rfl rfl) rfl ?_
  obtain ⟨x1, hx1, hres⟩ := bind_some hres
  refine JL.eff (ef_call (T := T125 x1) Go.Proofs.Try.func125 rfl (by kernel_rfl) rfl (fun w hC => c125  hx1)) rfl ?_
  rintro _ _ ⟨_, ⟨rfl, rfl⟩, rfl⟩
  refine JL.val (yl_assign rfl) rfl ?_
  refine JL.nil ?_
  refine JE.weak (env' := [(4, .bool x1)]) (es' := []) [] ?_ ⟨rfl, trivial⟩ (by decide) rfl
  refine JE.code ?_
  refine JX.ret ?_
  obtain rfl := Option.some.inj hres
  refine JE.ret (rs := [.tmp 4]) (vs := [.bool x1]) rfl ⟨rfl, trivial⟩ ?_
  exact fun w' hb hs => ⟨_, _, ⟨rfl, rfl⟩, rfl, hb, hs.sel [] _ (by decide) rfl⟩

/- impl.regionOf -/
def sh90 (q0 : SPanel) (q1 : Int) : Option (List SPoint × (List (SPoint × Int)) × Int) := Option.bind (sh86 q0) fun x3 => bif !x3 then (some (([] : List SPoint), ([] : List (SPoint × Int)), 1)) else (Option.bind (sh88 q0) fun x6 => Option.bind (sh152 q1 ((x6.1.length : Nat) : Int)) fun x15 => bif !x15 then (some (([] : List SPoint), ([] : List (SPoint × Int)), 2)) else (Option.bind (getI x6.1 q1) fun x18 => some (x18, x6.2, 0)))
def T90 (r : List SPoint × (List (SPoint × Int)) × Int) (v : Value) (rs : List Own) : Prop := ∃ (a0 : Option Addr) (n0 c0 : Nat), r.1.length = n0 ∧ ∃ (o1 : Option Nat), v = rets [.slice a0 n0 c0, .map o1, .int .i64 r.2.2] ∧ rs = [rowT 35 eSPoint a0 n0 c0 r.1, mapI eSPoint o1 r.2.1]
set_option maxRecDepth 100000 in
theorem c90 {w : World} {q0 : SPanel} {a_0_2 : Option Addr} {n_0_2 c_0_2 : Nat} (g_0_2 : Rd w a_0_2 (eI64.fl q0.Breaks)) (l_0_2 : q0.Breaks.length = n_0_2) (k_0_2 : n_0_2 ≤ c_0_2) {q1 : Int} {r : List SPoint × (List (SPoint × Int)) × Int} (hres : sh90 q0 q1 = some r) : Calls Go.Proofs.Try.prog 90 [.agg #[.int .i64 q0.W, .int .i64 q0.H, .slice a_0_2 n_0_2 c_0_2], .int .i64 q1].toArray w (Ret w (T90 r)) := by
  subst l_0_2
  unfold sh90 at hres
  refine calls_of (n := 27) (M := []) (es := []) Go.Proofs.Try.func90 rfl rfl rfl (Sep.nil _ _ _) ?_
  refine JX.seq ?_
  refine JX.region ?_
  refine JL.eff (ef_box rfl rfl) rfl ?_
  rintro _ _ ⟨g1, rfl, rfl⟩
  refine JL.val (yl_assign rfl) rfl ?_
  refine JL.val (yl_assign rfl) rfl ?_
  refine JL.val (yl_assign rfl) rfl ?_
  refine JL.nil ?_
  refine JE.weak (env' := [(1, .int .i64 q1), (2, ptrAt (some ⟨g1, 0, none⟩) 0)]) (es' := [boxO 28 g1 [.int .i64 q0.W, .int .i64 q0.H, .slice a_0_2 q0.Breaks.length c_0_2]]) [0] ?_ ⟨rfl, rfl, trivial⟩ (by decide) rfl
  refine JE.code ?_
  refine JX.seq ?_
  refine JX.seq ?_
  refine JX.region ?_
  refine JL.val (yl_loadn Go.Proofs.Try.underlying28 rfl i28 rfl (fun w hC => rd_box hC 0 rfl) rfl (i28s).symm i28p) rfl ?_
  obtain ⟨x3, hx3, hres⟩ := bind_some hres
  refine JL.eff (ef_call (vs := [.agg #[.int .i64 q0.W, .int .i64 q0.H, .slice a_0_2 q0.Breaks.length c_0_2]]) (T := T86 x3) Go.Proofs.Try.func86 rfl (by kernel_rfl) rfl (fun w hC => c86 (q0 := q0) (rd_arg g_0_2 hC) rfl k_0_2 hx3)) rfl ?_
  rintro _ _ ⟨_, ⟨rfl, rfl⟩, rfl⟩
  refine JL.val (yl_not rfl) rfl ?_
  refine JL.nil ?_
  refine JE.code ?_
  rcases cond_some hres with ⟨hb, hres⟩ | ⟨hb, hres⟩
  · refine JX.condT rfl hb ?_
    refine JX.seq ?_
    refine JX.region ?_
    refine JL.val (yl_assign rfl) rfl ?_
    refine JL.val (yl_assign rfl) rfl ?_
    refine JL.val (yl_assign rfl) rfl ?_
    refine JL.nil ?_
    refine JE.weak (env' := [(4, .slice none 0 0), (5, .map none), (6, .int .i64 1)]) (es' := []) [] ?_ ⟨rfl, rfl, rfl, trivial⟩ (by decide) rfl
    refine JE.code ?_
    refine JX.ret ?_
    refine JE.nilrow 35 eSPoint ?_
    refine JE.nilmap eSPoint ?_
    obtain rfl := Option.some.inj hres
    refine JE.ret (rs := [.tmp 4, .tmp 5, .tmp 6]) (vs := [.slice none 0 0, .map none, .int .i64 1]) rfl ⟨rfl, rfl, rfl, trivial⟩ ?_
    exact fun w' hb hs => ⟨_, _, ⟨none, 0, 0, rfl, none, rfl, rfl⟩, rfl, hb, hs.sel [0, 1] _ (by decide) rfl⟩
  · refine JX.condF rfl hb ?_
    refine JX.skip ?_
    refine JE.code ?_
    refine JX.seq ?_
    refine JX.region ?_
    refine JL.val (yl_loadn Go.Proofs.Try.underlying28 rfl i28 rfl (fun w hC => rd_box hC 0 rfl) rfl (i28s).symm i28p) rfl ?_
    obtain ⟨x6, hx6, hres⟩ := bind_some hres
    refine JL.eff (ef_call (vs := [.agg #[.int .i64 q0.W, .int .i64 q0.H, .slice a_0_2 q0.Breaks.length c_0_2]]) (T := T88 x6) Go.Proofs.Try.func88 rfl (by kernel_rfl) rfl (fun w hC => c88 (q0 := q0) (rd_arg g_0_2 hC) rfl k_0_2 hx6)) rfl ?_
    rintro _ _ ⟨_, ⟨a7, _, cp8, hs10, rfl, hi11, o13, rfl, rfl⟩, rfl⟩
    refine JL.val (yl_move rfl) rfl ?_
    refine JL.val (yl_extract rfl rfl) rfl ?_
    refine JL.val (yl_extract rfl rfl) rfl ?_
    refine JL.val (yl_assign rfl) rfl ?_
    refine JL.val (yl_assign rfl) rfl ?_
    refine JL.nil ?_
    refine JE.weak (env' := [(1, .int .i64 q1), (7, .slice a7 x6.1.length cp8), (8, .map o13)]) (es' := [rowT 61 eHd a7 x6.1.length cp8 hs10, innO 35 eSPoint none hs10 x6.1, mapI eSPoint o13 x6.2]) [1, 2, 3] ?_ ⟨rfl, rfl, rfl, trivial⟩ (by decide) rfl
    refine JE.code ?_
    refine JX.seq ?_
    refine JX.seq ?_
    refine JX.region ?_
    refine JL.val (yl_move rfl) rfl ?_
    refine JL.val (yl_move rfl) rfl ?_
    refine JL.val (yl_len_slice Go.Proofs.Try.underlying40 rfl) rfl ?_
    obtain ⟨x15, hx15, hres⟩ := bind_some hres
    refine JL.eff (ef_call (T := T152 x15) Go.Proofs.Try.func152 rfl (by kernel_rfl) rfl (fun w hC => c152  hx15)) rfl ?_
    rintro _ _ ⟨_, ⟨rfl, rfl⟩, rfl⟩
    refine JL.val (yl_not rfl) rfl ?_
    refine JL.nil ?_
    refine JE.weak (env' := [(1, .int .i64 q1), (7, .slice a7 x6.1.length cp8), (8, .map o13), (21, .bool !x15)]) (es' := [rowT 61 eHd a7 x6.1.length cp8 hs10, innO 35 eSPoint none hs10 x6.1, mapI eSPoint o13 x6.2]) [0, 1, 2] ?_ ⟨rfl, rfl, rfl, rfl, trivial⟩ (by decide) rfl
    refine JE.code ?_
    rcases cond_some hres with ⟨hb, hres⟩ | ⟨hb, hres⟩
    · refine JX.condT rfl hb ?_
      refine JX.seq ?_
      refine JX.region ?_
      refine JL.val (yl_assign rfl) rfl ?_
      refine JL.val (yl_assign rfl) rfl ?_
      refine JL.val (yl_assign rfl) rfl ?_
      refine JL.nil ?_
      refine JE.weak (env' := [(4, .slice none 0 0), (5, .map none), (6, .int .i64 2)]) (es' := []) [] ?_ ⟨rfl, rfl, rfl, trivial⟩ (by decide) rfl
      refine JE.code ?_
      refine JX.ret ?_
      refine JE.nilrow 35 eSPoint ?_
      refine JE.nilmap eSPoint ?_
      obtain rfl := Option.some.inj hres
      refine JE.ret (rs := [.tmp 4, .tmp 5, .tmp 6]) (vs := [.slice none 0 0, .map none, .int .i64 2]) rfl ⟨rfl, rfl, rfl, trivial⟩ ?_
      exact fun w' hb hs => ⟨_, _, ⟨none, 0, 0, rfl, none, rfl, rfl⟩, rfl, hb, hs.sel [0, 1] _ (by decide) rfl⟩
    · refine JX.condF rfl hb ?_
      refine JX.skip ?_
      refine JE.code ?_
      refine JX.seq ?_
      refine JX.region ?_
      refine JL.val (yl_move rfl) rfl ?_
      refine JL.val (yl_move rfl) rfl ?_
      obtain ⟨x18, hx18, hres⟩ := bind_some hres
      obtain ⟨ha19, hc20, hhx18⟩ := Inn.sub hi11 hx18
      refine JL.val (yl_idxT Go.Proofs.Try.underlying40 i61 i61s rfl rfl hhx18 (Inn.len hi11) (fun w hC => rd_row hC 0 rfl)) rfl ?_
      refine JL.val (yl_loadT0 (z := ⟨ha19, x18.length, hc20⟩) Go.Proofs.Try.underlying61 rfl rfl hhx18 (fun w hC => rd_row hC 0 rfl) rfl) rfl ?_
      refine JL.val (yl_move rfl) rfl ?_
      refine JL.val (yl_assign rfl) rfl ?_
      refine JL.val (yl_assign rfl) rfl ?_
      refine JL.val (yl_assign rfl) rfl ?_
      refine JL.nil ?_
      refine JE.weak (env' := [(4, .slice ha19 x18.length hc20), (5, .map o13), (6, .int .i64 0)]) (es' := [rowT 61 eHd a7 x6.1.length cp8 hs10, innO 35 eSPoint none hs10 x6.1, mapI eSPoint o13 x6.2]) [0, 1, 2] ?_ ⟨rfl, rfl, rfl, trivial⟩ (by decide) rfl
      refine JE.code ?_
      refine JX.ret ?_
      refine JE.focus (es' := [rowT 61 eHd a7 x6.1.length cp8 hs10, mapI eSPoint o13 x6.2]) [0, 2, 1] (by decide) rfl hhx18 hx18 ?_
      obtain rfl := Option.some.inj hres
      refine JE.ret (rs := [.tmp 4, .tmp 5, .tmp 6]) (vs := [.slice ha19 x18.length hc20, .map o13, .int .i64 0]) rfl ⟨rfl, rfl, rfl, trivial⟩ ?_
      exact fun w' hb hs => ⟨_, _, ⟨ha19, x18.length, hc20, rfl, o13, rfl, rfl⟩, rfl, hb, hs.sel [3, 1] _ (by decide) rfl⟩

end Go.Sh
