/- Walks through functions that the law reaches, printed by program. -/
import Derived.Test.YtinipjijgggjkaaF13W1
set_option linter.unusedVariables false
set_option linter.unusedSimpArgs false
namespace Go.Sh
open Go Go.RowKit
/- spec.l21Greedy -/
def sh99_3 (q0 : List (List Bool)) (x5 : Int) (x6 : List Int) (x9 : Int) : (Bool × Int) → Option ((Bool × Int) ⊕ (Bool))
  | (x11, x12) => bif decide (x12 < x5) then (Option.bind (bif x11 then (Option.bind (getI q0 x5) fun x14 => Option.bind (getI x14 x12) fun x18 => Option.bind (bif x18 then (Option.bind (getI x6 x12) fun x20 => some (x20 == x9)) else (some false)) fun cb19 => (some !cb19)) else (some false)) fun cb13 => (some (.inl (cb13, w64 (x12 + 1))))) else (some (.inr x11))
def sh99_2 (q0 : List (List Bool)) (x5 : Int) (x6 : List Int) : (Int × Bool) → Option ((Int × Bool) ⊕ (Int))
  | (x9, x10) => bif !x10 then (Option.bind (iter (sh99_3 q0 x5 x6 x9) (true, 0)) fun b3 => (Option.bind (bif !b3 then (some (w64 (x9 + 1))) else (some x9)) fun j21 => (some (.inl (j21, b3))))) else (some (.inr x9))
def sh99_1 (q0 : List (List Bool)) : (Int × List Int) → Option ((Int × List Int) ⊕ (List Int))
  | (x5, x6) => bif decide (x5 < ((q0.length : Nat) : Int)) then (Option.bind (iter (sh99_2 q0 x5 x6) (0, false)) fun b2 => (Option.bind (appL x6 [b2]) fun x24 => some (.inl (w64 (x5 + 1), x24)))) else (some (.inr x6))
def sh99 (q0 : List (List Bool)) : Option (List Int) := Option.bind (iter (sh99_1 q0) (0, ([] : List Int))) fun b1 => (some b1)
def T99 (r : List Int) (v : Value) (rs : List Own) : Prop := ∃ (a0 : Option Addr) (n0 c0 : Nat), r.length = n0 ∧ v = rets [.slice a0 n0 c0] ∧ rs = [rowT 2 eI64 a0 n0 c0 r]
set_option maxRecDepth 100000 in
set_option maxHeartbeats 1000000 in
theorem c99 {w : World} {q0 : List (List Bool)} {a_0 : Option Addr} {n_0 c_0 : Nat} {h_0 : List Hd} (g_0 : Rd w a_0 (eHd.fl h_0)) (r_0 : RdI w eBool h_0 q0) (i_0 : Inn h_0 q0) (l_0 : q0.length = n_0) (k_0 : n_0 ≤ c_0) {r : List Int} (hres : sh99 q0 = some r) : Calls Go.Proofs.Try.prog 99 [.slice a_0 n_0 c_0].toArray w (Ret w (T99 r)) := by
  subst l_0
  unfold sh99 at hres
  refine calls_of (n := 50) (M := []) (es := []) Go.Proofs.Try.func99 rfl rfl rfl (Sep.nil _ _ _) ?_
  refine JX.seq ?_
  refine JX.region ?_
  refine JL.val (yl_assign rfl) rfl ?_
  refine JL.nil ?_
  refine JE.code ?_
  refine JX.seq ?_
  refine JX.region ?_
  refine JL.eff (ef_buildSlice (E := 2) (k := eI64.k) (us := eI64.fl ([] : List Int)) rfl (fun w => bsl22_0  w) rfl (by decide)) rfl ?_
  rintro _ _ ⟨a1, rfl, rfl⟩
  refine JL.val (yl_assign rfl) rfl ?_
  refine JL.nil ?_
  refine JE.code ?_
  refine JX.seq ?_
  refine JX.seq ?_
  refine JX.region ?_
  refine JL.val (yl_assign rfl) rfl ?_
  refine JL.nil ?_
  refine JE.code ?_
  refine JX.block ?_
  obtain ⟨y1, hy1, hresO1⟩ := bind_some hres
  refine JX.loop (I := fun (s1 : Int × List Int) aa ww => ∃ (a3 : Option Addr) (cp4 : Nat), St w [] 50 [(0, .slice a_0 q0.length c_0), (3, .slice a3 s1.2.length cp4), (4, .int .i64 s1.1)] [rowT 2 eI64 a3 s1.2.length cp4 s1.2] aa ww) (sh99_1 q0) hy1 (fun a w h => ⟨a1, 0, h.weak ⟨rfl, rfl, rfl, trivial⟩ [0] (by decide) rfl⟩) ?_
  rintro ⟨x5, x6⟩ o1 hres hox1 aa ww ⟨a7, cp8, hS⟩
  refine (?_ : JX Go.Proofs.Try.prog w [] 50 _ _ [(0, .slice a_0 q0.length c_0), (3, .slice a7 x6.length cp8), (4, .int .i64 x5)] [rowT 2 eI64 a7 x6.length cp8 x6] _) aa ww hS
  clear hS
  simp only [sh99_1] at hres
  refine JX.seq ?_
  refine JX.seq ?_
  refine JX.region ?_
  refine JL.val (yl_move rfl) rfl ?_
  refine JL.val (yl_move rfl) rfl ?_
  refine JL.val (yl_len_slice Go.Proofs.Try.underlying99 rfl) rfl ?_
  refine JL.val (yl_lss rfl rfl) rfl ?_
  refine JL.nil ?_
  refine JE.weak (env' := [(0, .slice a_0 q0.length c_0), (3, .slice a7 x6.length cp8), (4, .int .i64 x5), (12, .bool (decide (x5 < ((q0.length : Nat) : Int))))]) (es' := [rowT 2 eI64 a7 x6.length cp8 x6]) [0] ?_ ⟨rfl, rfl, rfl, rfl, trivial⟩ (by decide) rfl
  refine JE.code ?_
  rcases cond_some hres with ⟨hb, hres⟩ | ⟨hb, hres⟩
  · refine JX.condT rfl hb ?_
    refine JX.skip ?_
    refine JE.code ?_
    refine JX.seq ?_
    refine JX.block ?_
    refine JX.seq ?_
    refine JX.region ?_
    refine JL.val (yl_assign rfl) rfl ?_
    refine JL.nil ?_
    refine JE.code ?_
    refine JX.seq ?_
    refine JX.seq ?_
    refine JX.region ?_
    refine JL.val (yl_assign rfl) rfl ?_
    refine JL.nil ?_
    refine JE.code ?_
    refine JX.block ?_
    obtain ⟨y2, hy2, hresO2⟩ := bind_some hres
    refine JX.loop (I := fun (s2 : Int × Bool) aa ww => St w [] 50 [(0, .slice a_0 q0.length c_0), (3, .slice a7 x6.length cp8), (4, .int .i64 x5), (5, .int .i64 s2.1), (6, .bool s2.2)] [rowT 2 eI64 a7 x6.length cp8 x6] aa ww) (sh99_2 q0 x5 x6) hy2 (fun a w h => h.weak ⟨rfl, rfl, rfl, rfl, rfl, trivial⟩ [0] (by decide) rfl) ?_
    rintro ⟨x9, x10⟩ o2 hres hox2 aa ww hS
    refine (?_ : JX Go.Proofs.Try.prog w [] 50 _ _ [(0, .slice a_0 q0.length c_0), (3, .slice a7 x6.length cp8), (4, .int .i64 x5), (5, .int .i64 x9), (6, .bool x10)] [rowT 2 eI64 a7 x6.length cp8 x6] _) aa ww hS
    clear hS
    simp only [sh99_2] at hres
    refine JX.seq ?_
    refine JX.seq ?_
    refine JX.region ?_
    refine JL.val (yl_move rfl) rfl ?_
    refine JL.val (yl_not rfl) rfl ?_
    refine JL.nil ?_
    refine JE.code ?_
    rcases cond_some hres with ⟨hb, hres⟩ | ⟨hb, hres⟩
    · refine JX.condT rfl hb ?_
      refine JX.skip ?_
      refine JE.code ?_
      refine JX.block ?_
      refine JX.seq ?_
      refine JX.region ?_
      refine JL.val (yl_assign rfl) rfl ?_
      refine JL.nil ?_
      refine JE.code ?_
      refine JX.seq ?_
      refine JX.seq ?_
      refine JX.region ?_
      refine JL.val (yl_assign rfl) rfl ?_
      refine JL.nil ?_
      refine JE.code ?_
      refine JX.block ?_
      obtain ⟨y3, hy3, hresO3⟩ := bind_some hres
      refine JX.loop (I := fun (s3 : Bool × Int) aa ww => St w [] 50 [(0, .slice a_0 q0.length c_0), (3, .slice a7 x6.length cp8), (4, .int .i64 x5), (5, .int .i64 x9), (6, .bool s3.1), (7, .int .i64 s3.2)] [rowT 2 eI64 a7 x6.length cp8 x6] aa ww) (sh99_3 q0 x5 x6 x9) hy3 (fun a w h => h.weak ⟨rfl, rfl, rfl, rfl, rfl, rfl, trivial⟩ [0] (by decide) rfl) ?_
      rintro ⟨x11, x12⟩ o3 hres hox3 aa ww hS
      refine (?_ : JX Go.Proofs.Try.prog w [] 50 _ _ [(0, .slice a_0 q0.length c_0), (3, .slice a7 x6.length cp8), (4, .int .i64 x5), (5, .int .i64 x9), (6, .bool x11), (7, .int .i64 x12)] [rowT 2 eI64 a7 x6.length cp8 x6] _) aa ww hS
      clear hS
      simp only [sh99_3] at hres
      refine JX.seq ?_
      refine JX.seq ?_
      refine JX.region ?_
      refine JL.val (yl_move rfl) rfl ?_
      refine JL.val (yl_move rfl) rfl ?_
      refine JL.val (yl_lss rfl rfl) rfl ?_
      refine JL.nil ?_
      refine JE.code ?_
      rcases cond_some hres with ⟨hb, hres⟩ | ⟨hb, hres⟩
      · refine JX.condT rfl hb ?_
        refine JX.skip ?_
        refine JE.code ?_
        refine JX.seq ?_
        refine JX.block ?_
        refine JX.region ?_
        refine JL.val (yl_move rfl) rfl ?_
        refine JL.val (yl_move rfl) rfl ?_
        obtain ⟨cb13, hcb13, hres⟩ := bind_some hres
        refine JL.cut (K := fun J => J [(0, .slice a_0 q0.length c_0), (3, .slice a7 x6.length cp8), (4, .int .i64 x5), (5, .int .i64 x9), (7, .int .i64 x12), (40, .bool cb13)] [rowT 2 eI64 a7 x6.length cp8 x6]) 17 ?_ ?_
        · refine JL.val (yl_assign rfl) rfl ?_
          refine JL.nil ?_
          refine JE.weak (env' := [(0, .slice a_0 q0.length c_0), (3, .slice a7 x6.length cp8), (4, .int .i64 x5), (5, .int .i64 x9), (6, .bool cb13), (7, .int .i64 x12)]) (es' := [rowT 2 eI64 a7 x6.length cp8 x6]) [0] ?_ ⟨rfl, rfl, rfl, rfl, rfl, rfl, trivial⟩ (by decide) rfl
          refine JE.code ?_
          refine JX.region ?_
          refine JL.val (yl_move rfl) rfl ?_
          refine JL.val (yl_add rfl rfl) rfl ?_
          refine JL.val (yl_assign rfl) rfl ?_
          refine JL.nil ?_
          refine JE.cont hres ?_
          exact fun a w h => h.weak ⟨rfl, rfl, rfl, rfl, rfl, rfl, trivial⟩ [0] (by decide) rfl
        · intro K
          rcases cond_some hcb13 with ⟨hb, hres⟩ | ⟨hb, hres⟩
          · refine JL.set (d := 23) (v := .bool true) (congrArg (fun b => some (Value.bool b)) hb) ?_
            refine JL.gval rfl rfl (yl_move rfl) rfl ?_
            refine JL.gval rfl rfl (yl_move rfl) rfl ?_
            obtain ⟨x14, hx14, hres⟩ := bind_some hres
            obtain ⟨ha15, hc16, hhx14⟩ := Inn.sub i_0 hx14
            refine JL.gval rfl rfl (yl_idxT Go.Proofs.Try.underlying99 i104 i104s rfl rfl hhx14 (Inn.len i_0) (fun w hC => rd_arg g_0 hC)) rfl ?_
            refine JL.gval rfl rfl (yl_loadT0 (z := ⟨ha15, x14.length, hc16⟩) Go.Proofs.Try.underlying104 rfl rfl hhx14 (fun w hC => rd_arg g_0 hC) rfl) rfl ?_
            refine JL.gval rfl rfl (yl_move rfl) rfl ?_
            obtain ⟨x18, hx18, hres⟩ := bind_some hres
            refine JL.gval rfl rfl (yl_idxT Go.Proofs.Try.underlying104 i4 i4s rfl rfl hx18 rfl (fun w hC => rd_arg (RdI.sub r_0 hx14 hhx14) hC)) rfl ?_
            refine JL.gval rfl rfl (yl_loadT0 Go.Proofs.Try.underlying4 rfl rfl hx18 (fun w hC => rd_arg (RdI.sub r_0 hx14 hhx14) hC) rfl) rfl ?_
            refine JL.gval rfl rfl (yl_move rfl) rfl ?_
            obtain ⟨cb19, hcb19, hres⟩ := bind_some hres
            refine JL.cut (K := fun J => J [(0, .slice a_0 q0.length c_0), (3, .slice a7 x6.length cp8), (4, .int .i64 x5), (5, .int .i64 x9), (7, .int .i64 x12), (23, .bool true), (38, .bool cb19)] [rowT 2 eI64 a7 x6.length cp8 x6]) 7 ?_ ?_
            · refine JL.gval rfl rfl (yl_not rfl) rfl ?_
              refine JL.val (yl_pick_true rfl rfl) rfl ?_
              have he := Option.some.inj hres
              exact JL.weak [0] K ⟨rfl, rfl, rfl, rfl, rfl, (by rw [← he]; rfl), trivial⟩ (by decide) rfl
            · intro K
              rcases cond_some hcb19 with ⟨hb, hres⟩ | ⟨hb, hres⟩
              · refine JL.set (d := 31) (v := .bool true) (congrArg (fun b => some (Value.bool b)) hb) ?_
                refine JL.gval rfl rfl (yl_move rfl) rfl ?_
                refine JL.gval rfl rfl (yl_move rfl) rfl ?_
                obtain ⟨x20, hx20, hres⟩ := bind_some hres
                refine JL.gval rfl rfl (yl_idxT Go.Proofs.Try.underlying22 i2 i2s rfl rfl hx20 rfl (fun w hC => rd_row hC 0 rfl)) rfl ?_
                refine JL.gval rfl rfl (yl_loadT0 Go.Proofs.Try.underlying2 rfl rfl hx20 (fun w hC => rd_row hC 0 rfl) rfl) rfl ?_
                refine JL.gval rfl rfl (yl_move rfl) rfl ?_
                refine JL.gval rfl rfl (yl_eql rfl rfl) rfl ?_
                refine JL.gval rfl rfl (yl_pick_true rfl rfl) rfl ?_
                have he := Option.some.inj hres
                exact JL.weak [0] K ⟨rfl, rfl, rfl, rfl, rfl, rfl, (by rw [← he]; rfl), trivial⟩ (by decide) rfl
              · refine JL.set (d := 31) (v := .bool false) (congrArg (fun b => some (Value.bool b)) hb) ?_
                refine JL.gskip rfl rfl rfl rfl ?_
                refine JL.gskip rfl rfl rfl rfl ?_
                refine JL.gskip rfl rfl rfl rfl ?_
                refine JL.gskip rfl rfl rfl rfl ?_
                refine JL.gskip rfl rfl rfl rfl ?_
                refine JL.gskip rfl rfl rfl rfl ?_
                refine JL.gval rfl rfl (yl_pick_false rfl rfl) rfl ?_
                have he := Option.some.inj hres
                exact JL.weak [0] K ⟨rfl, rfl, rfl, rfl, rfl, rfl, (by rw [← he]; rfl), trivial⟩ (by decide) rfl
          · refine JL.set (d := 23) (v := .bool false) (congrArg (fun b => some (Value.bool b)) hb) ?_
            refine JL.gskip rfl rfl rfl rfl ?_
            refine JL.gskip rfl rfl rfl rfl ?_
            refine JL.gskip rfl rfl rfl rfl ?_
            refine JL.gskip rfl rfl rfl rfl ?_
            refine JL.gskip rfl rfl rfl rfl ?_
            refine JL.gskip rfl rfl rfl rfl ?_
            refine JL.gskip rfl rfl rfl rfl ?_
            refine JL.gskip rfl rfl rfl rfl ?_
            refine JL.gnone rfl rfl rfl ?_
            refine JL.gnone rfl rfl rfl ?_
            refine JL.gnone rfl rfl rfl ?_
            refine JL.gnone rfl rfl rfl ?_
            refine JL.gnone rfl rfl rfl ?_
            refine JL.gnone rfl rfl rfl ?_
            refine JL.gskip rfl rfl rfl rfl ?_
            refine JL.gskip rfl rfl rfl rfl ?_
            refine JL.val (yl_pick_false rfl rfl) rfl ?_
            have he := Option.some.inj hres
            exact JL.weak [0] K ⟨rfl, rfl, rfl, rfl, rfl, (by rw [← he]; rfl), trivial⟩ (by decide) rfl
      · refine JX.condF rfl hb ?_
        refine JX.exit ?_
        refine JE.qb rfl ?_
        obtain ⟨b3, hb3⟩ : ∃ b : Bool, b = x11 := ⟨_, rfl⟩
        have hy3 : b3 = y3 := by rw [hb3]; exact hox3 _ (Option.some.inj hres).symm
        have hres := hresO3
        rw [← hy3] at hres
        refine JE.weak (env' := [(0, .slice a_0 q0.length c_0), (3, .slice a7 x6.length cp8), (4, .int .i64 x5), (5, .int .i64 x9), (6, .bool b3)]) (es' := [rowT 2 eI64 a7 x6.length cp8 x6]) [0] ?_ ⟨(by subst hb3; rfl), (by subst hb3; rfl), (by subst hb3; rfl), (by subst hb3; rfl), (by subst hb3; rfl), trivial⟩ (by decide) (by subst hb3; rfl)
        refine JE.code ?_
        refine JX.seq ?_
        refine JX.region ?_
        refine JL.val (yl_move rfl) rfl ?_
        refine JL.val (yl_not rfl) rfl ?_
        refine JL.nil ?_
        refine JE.code ?_
        obtain ⟨j21, hj21, hresj21⟩ := bind_some hres
        refine JX.cut (K := fun J => J [(0, .slice a_0 q0.length c_0), (3, .slice a7 x6.length cp8), (4, .int .i64 x5), (5, .int .i64 j21), (6, .bool b3)] [rowT 2 eI64 a7 x6.length cp8 x6]) ?_ ?_
        · have hres := hresj21
          refine JE.cont hres ?_
          exact fun a w h => h.weak ⟨rfl, rfl, rfl, rfl, rfl, trivial⟩ [0] (by decide) rfl
        · intro K
          rcases cond_some hj21 with ⟨hb, hres⟩ | ⟨hb, hres⟩
          · refine JX.condT rfl hb ?_
            refine JX.region ?_
            refine JL.val (yl_move rfl) rfl ?_
            refine JL.val (yl_add rfl rfl) rfl ?_
            refine JL.val (yl_assign rfl) rfl ?_
            refine JL.nil ?_
            have hj := Option.some.inj hres
            exact JE.weak [0] (K) ⟨(by subst hj; rfl), (by subst hj; rfl), (by subst hj; rfl), (by subst hj; rfl), (by subst hj; rfl), trivial⟩ (by decide) (by subst hj; rfl)
          · refine JX.condF rfl hb ?_
            refine JX.skip ?_
            have hj := Option.some.inj hres
            exact JE.weak [0] (K) ⟨(by subst hj; rfl), (by subst hj; rfl), (by subst hj; rfl), (by subst hj; rfl), (by subst hj; rfl), trivial⟩ (by decide) (by subst hj; rfl)
    · refine JX.condF rfl hb ?_
      refine JX.exit ?_
      refine JE.qb rfl ?_
      obtain ⟨b2, hb2⟩ : ∃ b : Int, b = x9 := ⟨_, rfl⟩
      have hy2 : b2 = y2 := by rw [hb2]; exact hox2 _ (Option.some.inj hres).symm
      have hres := hresO2
      rw [← hy2] at hres
      refine JE.weak (env' := [(0, .slice a_0 q0.length c_0), (3, .slice a7 x6.length cp8), (4, .int .i64 x5), (5, .int .i64 b2)]) (es' := [rowT 2 eI64 a7 x6.length cp8 x6]) [0] ?_ ⟨(by subst hb2; rfl), (by subst hb2; rfl), (by subst hb2; rfl), (by subst hb2; rfl), trivial⟩ (by decide) (by subst hb2; rfl)
      refine JE.code ?_
      refine JX.region ?_
      refine JL.val (yl_move rfl) rfl ?_
      refine JL.val (yl_move rfl) rfl ?_
      refine JL.eff (ef_buildSlice (E := 2) (k := eI64.k) (us := eI64.fl [b2]) rfl (fun w => bsl22_1 b2 w) rfl (by decide)) rfl ?_
      rintro _ _ ⟨a22, rfl, rfl⟩
      obtain ⟨x24, hx24, hres⟩ := bind_some hres
      refine JL.eff (ef_appendT (ix := 0) Go.Proofs.Try.underlying22 i2 i2z i2s rfl i2b0 i2b1 rfl rfl rfl rfl rfl (fun w hC => rd_row hC 1 rfl) hx24) rfl ?_
      rintro _ _ ⟨a25, cp26, rfl, rfl⟩
      refine JL.val (yl_assign rfl) rfl ?_
      refine JL.nil ?_
      refine JE.weak (env' := [(0, .slice a_0 q0.length c_0), (3, .slice a25 x24.length cp26), (4, .int .i64 x5)]) (es' := [rowT 2 eI64 a25 x24.length cp26 x24]) [0] ?_ ⟨rfl, rfl, rfl, trivial⟩ (by decide) rfl
      refine JE.code ?_
      refine JX.region ?_
      refine JL.val (yl_move rfl) rfl ?_
      refine JL.val (yl_add rfl rfl) rfl ?_
      refine JL.val (yl_assign rfl) rfl ?_
      refine JL.nil ?_
      refine JE.cont hres ?_
      exact fun a w h => ⟨a25, cp26, h.weak ⟨rfl, rfl, rfl, trivial⟩ [0] (by decide) rfl⟩
  · refine JX.condF rfl hb ?_
    refine JX.exit ?_
    refine JE.qb rfl ?_
    obtain ⟨b1, hb1⟩ : ∃ b : List Int, b = x6 := ⟨_, rfl⟩
    have hy1 : b1 = y1 := by rw [hb1]; exact hox1 _ (Option.some.inj hres).symm
    have hres := hresO1
    rw [← hy1] at hres
    refine JE.weak (env' := [(3, .slice a7 b1.length cp8)]) (es' := [rowT 2 eI64 a7 b1.length cp8 b1]) [0] ?_ ⟨(by subst hb1; rfl), trivial⟩ (by decide) (by subst hb1; rfl)
    refine JE.code ?_
    refine JX.seq ?_
    refine JX.region ?_
    refine JL.val (yl_move rfl) rfl ?_
    refine JL.val (yl_assign rfl) rfl ?_
    refine JL.nil ?_
    refine JE.code ?_
    refine JX.ret ?_
    obtain rfl := Option.some.inj hres
    refine JE.ret (rs := [.tmp 2]) (vs := [.slice a7 b1.length cp8]) rfl ⟨rfl, trivial⟩ ?_
    exact fun w' hb hs => ⟨_, _, ⟨a7, b1.length, cp8, rfl, rfl, rfl⟩, rfl, hb, hs.sel [0] _ (by decide) rfl⟩

/- spec.ColourCurves -/
def sh35 (q0 : SPanel) : Option (List Int × Int) := Option.bind (sh82 q0) fun x3 => bif !x3 then (some (([] : List Int), 1)) else (Option.bind (sh94 q0) fun x5 => Option.bind (sh99 x5) fun x12 => some (x12, 0))
def T35 (r : List Int × Int) (v : Value) (rs : List Own) : Prop := ∃ (a0 : Option Addr) (n0 c0 : Nat), r.1.length = n0 ∧ v = rets [.slice a0 n0 c0, .int .i64 r.2] ∧ rs = [rowT 2 eI64 a0 n0 c0 r.1]
set_option maxRecDepth 100000 in
theorem c35 {w : World} {q0 : SPanel} {a_0_2 : Option Addr} {n_0_2 c_0_2 : Nat} (g_0_2 : Rd w a_0_2 (eI64.fl q0.Breaks)) (l_0_2 : q0.Breaks.length = n_0_2) (k_0_2 : n_0_2 ≤ c_0_2) {r : List Int × Int} (hres : sh35 q0 = some r) : Calls Go.Proofs.Try.prog 35 [.agg #[.int .i64 q0.W, .int .i64 q0.H, .slice a_0_2 n_0_2 c_0_2]].toArray w (Ret w (T35 r)) := by
  subst l_0_2
  unfold sh35 at hres
  refine calls_of (n := 8) (M := []) (es := []) Go.Proofs.Try.func35 rfl rfl rfl (Sep.nil _ _ _) ?_
  refine JX.seq ?_
  refine JX.region ?_
  refine JL.eff (ef_box rfl rfl) rfl ?_
  rintro _ _ ⟨g1, rfl, rfl⟩
  refine JL.val (yl_assign rfl) rfl ?_
  refine JL.val (yl_assign rfl) rfl ?_
  refine JL.nil ?_
  refine JE.code ?_
  refine JX.seq ?_
  refine JX.seq ?_
  refine JX.region ?_
  obtain ⟨x3, hx3, hres⟩ := bind_some hres
  refine JL.eff (ef_call (T := T82 x3) Go.Proofs.Try.func82 rfl (by kernel_rfl) rfl (fun w hC => c82 (RdAt.of0 (rd_box hC 0 rfl)) (rd_arg g_0_2 hC) rfl k_0_2 hx3)) rfl ?_
  rintro _ _ ⟨_, ⟨rfl, rfl⟩, rfl⟩
  refine JL.val (yl_not rfl) rfl ?_
  refine JL.nil ?_
  refine JE.code ?_
  rcases cond_some hres with ⟨hb, hres⟩ | ⟨hb, hres⟩
  · refine JX.condT rfl hb ?_
    refine JX.seq ?_
    refine JX.region ?_
    refine JL.val (yl_assign rfl) rfl ?_
    refine JL.val (yl_assign rfl) rfl ?_
    refine JL.nil ?_
    refine JE.weak (env' := [(2, .slice none 0 0), (3, .int .i64 1)]) (es' := []) [] ?_ ⟨rfl, rfl, trivial⟩ (by decide) rfl
    refine JE.code ?_
    refine JX.ret ?_
    refine JE.nilrow 2 eI64 ?_
    obtain rfl := Option.some.inj hres
    refine JE.ret (rs := [.tmp 2, .tmp 3]) (vs := [.slice none 0 0, .int .i64 1]) rfl ⟨rfl, rfl, trivial⟩ ?_
    exact fun w' hb hs => ⟨_, _, ⟨none, 0, 0, rfl, rfl, rfl⟩, rfl, hb, hs.sel [0] _ (by decide) rfl⟩
  · refine JX.condF rfl hb ?_
    refine JX.skip ?_
    refine JE.code ?_
    refine JX.seq ?_
    refine JX.region ?_
    obtain ⟨x5, hx5, hres⟩ := bind_some hres
    refine JL.eff (ef_call (T := T94 x5) Go.Proofs.Try.func94 rfl (by kernel_rfl) rfl (fun w hC => c94 (RdAt.of0 (rd_box hC 0 rfl)) (rd_arg g_0_2 hC) rfl k_0_2 hx5)) rfl ?_
    rintro _ _ ⟨_, ⟨a6, _, cp7, hs9, rfl, hi10, rfl, rfl⟩, rfl⟩
    obtain ⟨x12, hx12, hres⟩ := bind_some hres
    refine JL.eff (ef_call (T := T99 x12) Go.Proofs.Try.func99 rfl (by kernel_rfl) rfl (fun w hC => c99 (rd_row hC 1 rfl) (rd_inn hC 2 rfl) hi10 rfl (ln_row hC 1 rfl) hx12)) rfl ?_
    rintro _ _ ⟨_, ⟨a13, _, cp14, rfl, rfl, rfl⟩, rfl⟩
    refine JL.val (yl_assign rfl) rfl ?_
    refine JL.val (yl_assign rfl) rfl ?_
    refine JL.nil ?_
    refine JE.weak (env' := [(2, .slice a13 x12.length cp14), (3, .int .i64 0)]) (es' := [rowT 2 eI64 a13 x12.length cp14 x12]) [3] ?_ ⟨rfl, rfl, trivial⟩ (by decide) rfl
    refine JE.code ?_
    refine JX.ret ?_
    obtain rfl := Option.some.inj hres
    refine JE.ret (rs := [.tmp 2, .tmp 3]) (vs := [.slice a13 x12.length cp14, .int .i64 0]) rfl ⟨rfl, rfl, trivial⟩ ?_
    exact fun w' hb hs => ⟨_, _, ⟨a13, x12.length, cp14, rfl, rfl, rfl⟩, rfl, hb, hs.sel [0] _ (by decide) rfl⟩

/- slices.Index[[]bool,bool] -/
def sh100_1 (q0 : List Bool) (q1 : Bool) : Int → Option (Int ⊕ (Unit ⊕ Int))
  | x1 => bif decide (x1 < (q0.length : Int)) then (Option.bind (getI q0 x1) fun x2 => bif q1 == x2 then (some (.inr (.inr x1))) else (some (.inl (w64 (x1 + 1))))) else (some (.inr (.inl ())))
def sh100 (q0 : List Bool) (q1 : Bool) : Option (Int) := Option.bind (iter (sh100_1 q0 q1) 0) fun y1 => elimS y1 (fun r => some r) fun b1 => (some (-1))
def T100 (r : Int) (v : Value) (rs : List Own) : Prop := v = rets [.int .i64 r] ∧ rs = []
set_option maxRecDepth 100000 in
theorem c100 {w : World} {q0 : List Bool} {a_0 : Option Addr} {n_0 c_0 : Nat} (g_0 : Rd w a_0 (eBool.fl q0)) (l_0 : q0.length = n_0) (k_0 : n_0 ≤ c_0) {q1 : Bool} {r : Int} (hres : sh100 q0 q1 = some r) : Calls Go.Proofs.Try.prog 100 [.slice a_0 n_0 c_0, .bool q1].toArray w (Ret w (T100 r)) := by
  subst l_0
  unfold sh100 at hres
  refine calls_of (n := 19) (M := []) (es := []) Go.Proofs.Try.func100 rfl rfl rfl (Sep.nil _ _ _) ?_
  refine JX.seq ?_
  refine JX.region ?_
  refine JL.val (yl_assign rfl) rfl ?_
  refine JL.nil ?_
  refine JE.code ?_
  refine JX.seq ?_
  refine JX.seq ?_
  refine JX.region ?_
  refine JL.val (yl_move rfl) rfl ?_
  refine JL.val (yl_len_slice Go.Proofs.Try.underlying104 rfl) rfl ?_
  refine JL.val (yl_move rfl) rfl ?_
  refine JL.nil ?_
  refine JE.code ?_
  refine JX.block ?_
  obtain ⟨y1, hy1, hresO1⟩ := bind_some hres
  refine JX.loop (I := fun (s1 : Int) aa ww => St w [] 19 [(0, .slice a_0 q0.length c_0), (1, .bool q1), (7, .int .i64 (q0.length : Int)), (8, .int .i64 s1)] [] aa ww) (sh100_1 q0 q1) hy1 (fun a w h => h.weak ⟨rfl, rfl, rfl, rfl, trivial⟩ [] (by decide) rfl) ?_
  rintro x1 o1 hres hox1 aa ww hS
  refine (?_ : JX Go.Proofs.Try.prog w [] 19 _ _ [(0, .slice a_0 q0.length c_0), (1, .bool q1), (7, .int .i64 (q0.length : Int)), (8, .int .i64 x1)] [] _) aa ww hS
  clear hS
  unfold sh100_1 at hres
  refine JX.seq ?_
  refine JX.region ?_
  refine JL.val (yl_lss rfl rfl) rfl ?_
  refine JL.nil ?_
  refine JE.code ?_
  refine JX.seq ?_
  rcases cond_some hres with ⟨hb, hres⟩ | ⟨hb, hres⟩
  · refine JX.condT rfl hb ?_
    refine JX.skip ?_
    refine JE.code ?_
    refine JX.seq ?_
    refine JX.block ?_
    refine JX.seq ?_
    refine JX.region ?_
    refine JL.val (yl_move rfl) rfl ?_
    refine JL.val (yl_assign rfl) rfl ?_
    refine JL.nil ?_
    refine JE.code ?_
    refine JX.seq ?_
    refine JX.region ?_
    refine JL.val (yl_move rfl) rfl ?_
    refine JL.val (yl_move rfl) rfl ?_
    refine JL.val (yl_move rfl) rfl ?_
    obtain ⟨x2, hx2, hres⟩ := bind_some hres
    refine JL.val (yl_idxT Go.Proofs.Try.underlying104 i4 i4s rfl rfl hx2 rfl (fun w hC => rd_arg g_0 hC)) rfl ?_
    refine JL.val (yl_loadT0 Go.Proofs.Try.underlying4 rfl rfl hx2 (fun w hC => rd_arg g_0 hC) rfl) rfl ?_
    refine JL.val (yl_beql Go.Proofs.Try.underlying4 rfl rfl) rfl ?_
    refine JL.nil ?_
    refine JE.weak (env' := [(0, .slice a_0 q0.length c_0), (1, .bool q1), (5, .int .i64 x1), (7, .int .i64 (q0.length : Int)), (8, .int .i64 x1), (16, .bool (q1 == x2))]) (es' := []) [] ?_ ⟨rfl, rfl, rfl, rfl, rfl, rfl, trivial⟩ (by decide) rfl
    refine JE.code ?_
    rcases cond_some hres with ⟨hb, hres⟩ | ⟨hb, hres⟩
    · refine JX.condT rfl hb ?_
      refine JX.seq ?_
      refine JX.region ?_
      refine JL.val (yl_move rfl) rfl ?_
      refine JL.val (yl_assign rfl) rfl ?_
      refine JL.nil ?_
      refine JE.code ?_
      refine JX.ret ?_
      refine JE.qbr ?_
      refine JE.qbr ?_
      have hres := elimS_inr hresO1 (hox1 _ (Option.some.inj hres).symm)
      obtain rfl := Option.some.inj hres
      refine JE.ret (rs := [.tmp 4]) (vs := [.int .i64 x1]) rfl ⟨rfl, trivial⟩ ?_
      exact fun w' hb hs => ⟨_, _, ⟨rfl, rfl⟩, rfl, hb, hs.sel [] _ (by decide) rfl⟩
    · refine JX.condF rfl hb ?_
      refine JX.skip ?_
      refine JE.code ?_
      refine JX.region ?_
      refine JL.val (yl_add rfl rfl) rfl ?_
      refine JL.val (yl_move rfl) rfl ?_
      refine JL.nil ?_
      refine JE.cont hres ?_
      exact fun a w h => h.weak ⟨rfl, rfl, rfl, rfl, trivial⟩ [] (by decide) rfl
  · refine JX.condF rfl hb ?_
    refine JX.exit ?_
    refine JE.qb rfl ?_
    obtain ⟨b1, hb1⟩ : ∃ b : Unit, b = () := ⟨_, rfl⟩
    have hy1 : Sum.inl b1 = y1 := by rw [hb1]; exact hox1 _ (Option.some.inj hres).symm
    have hres := elimS_inl hresO1 hy1
    refine JE.weak (env' := []) (es' := []) [] ?_ trivial (by decide) (by subst hb1; rfl)
    refine JE.code ?_
    refine JX.seq ?_
    refine JX.region ?_
    refine JL.val (yl_assign rfl) rfl ?_
    refine JL.nil ?_
    refine JE.code ?_
    refine JX.ret ?_
    obtain rfl := Option.some.inj hres
    refine JE.ret (rs := [.tmp 4]) (vs := [.int .i64 (-1)]) rfl ⟨rfl, trivial⟩ ?_
    exact fun w' hb hs => ⟨_, _, ⟨rfl, rfl⟩, rfl, hb, hs.sel [] _ (by decide) rfl⟩

/- impl.ColourCurves -/
def sh36_2 (x16 : Int) (x17 : List Int) (x20 : List Bool) : (Int × List Bool) → Option ((Int × List Bool) ⊕ (List Bool))
  | (x28, x29) => bif decide (x28 < x16) then (Option.bind (getI x20 x28) fun x31 => Option.bind (bif x31 then (Option.bind (getI x17 x28) fun x34 => Option.bind (getI x29 x34) fun x35 => some (x29.set (x34).toNat true)) else (some x29)) fun j32 => (some (.inl (w64 (x28 + 1), j32)))) else (some (.inr x29))
def sh36_1 (x7 : List (List Bool)) : (Int × List Int) → Option ((Int × List Int) ⊕ (List Int))
  | (x16, x17) => bif decide (x16 < ((x7.length : Nat) : Int)) then (Option.bind (getI x7 x16) fun x20 => Option.bind (mkL (w64 (x16 + 1)) false) fun x24 => Option.bind (iter (sh36_2 x16 x17 x20) (0, x24)) fun b2 => (Option.bind (sh100 b2 false) fun x37 => Option.bind (appL x17 [x37]) fun x40 => some (.inl (w64 (x16 + 1), x40)))) else (some (.inr x17))
def sh36 (q0 : SPanel) : Option (List Int × Int) := Option.bind (sh86 q0) fun x3 => bif !x3 then (some (([] : List Int), 1)) else (Option.bind (sh98 q0) fun x7 => Option.bind (iter (sh36_1 x7) (0, ([] : List Int))) fun b1 => (some (b1, 0)))
def T36 (r : List Int × Int) (v : Value) (rs : List Own) : Prop := ∃ (a0 : Option Addr) (n0 c0 : Nat), r.1.length = n0 ∧ v = rets [.slice a0 n0 c0, .int .i64 r.2] ∧ rs = [rowT 2 eI64 a0 n0 c0 r.1]
set_option maxRecDepth 100000 in
theorem c36 {w : World} {q0 : SPanel} {a_0_2 : Option Addr} {n_0_2 c_0_2 : Nat} (g_0_2 : Rd w a_0_2 (eI64.fl q0.Breaks)) (l_0_2 : q0.Breaks.length = n_0_2) (k_0_2 : n_0_2 ≤ c_0_2) {r : List Int × Int} (hres : sh36 q0 = some r) : Calls Go.Proofs.Try.prog 36 [.agg #[.int .i64 q0.W, .int .i64 q0.H, .slice a_0_2 n_0_2 c_0_2]].toArray w (Ret w (T36 r)) := by
  subst l_0_2
  unfold sh36 at hres
  refine calls_of (n := 46) (M := []) (es := []) Go.Proofs.Try.func36 rfl rfl rfl (Sep.nil _ _ _) ?_
  refine JX.seq ?_
  refine JX.region ?_
  refine JL.eff (ef_box rfl rfl) rfl ?_
  rintro _ _ ⟨g1, rfl, rfl⟩
  refine JL.val (yl_assign rfl) rfl ?_
  refine JL.val (yl_assign rfl) rfl ?_
  refine JL.nil ?_
  refine JE.code ?_
  refine JX.seq ?_
  refine JX.seq ?_
  refine JX.region ?_
  refine JL.val (yl_loadn Go.Proofs.Try.underlying28 rfl i28 rfl (fun w hC => rd_box hC 0 rfl) rfl (i28s).symm i28p) rfl ?_
  obtain ⟨x3, hx3, hres⟩ := bind_some hres
  refine JL.eff (ef_call (vs := [.agg #[.int .i64 q0.W, .int .i64 q0.H, .slice a_0_2 q0.Breaks.length c_0_2]]) (T := T86 x3) Go.Proofs.Try.func86 rfl (by kernel_rfl) rfl (fun w hC => c86 (q0 := q0) (rd_arg g_0_2 hC) rfl k_0_2 hx3)) rfl ?_
  rintro _ _ ⟨_, ⟨rfl, rfl⟩, rfl⟩
  refine JL.val (yl_not rfl) rfl ?_
  refine JL.nil ?_
  refine JE.code ?_
  rcases cond_some hres with ⟨hb, hres⟩ | ⟨hb, hres⟩
  · refine JX.condT rfl hb ?_
    refine JX.seq ?_
    refine JX.region ?_
    refine JL.val (yl_assign rfl) rfl ?_
    refine JL.val (yl_assign rfl) rfl ?_
    refine JL.nil ?_
    refine JE.weak (env' := [(2, .slice none 0 0), (3, .int .i64 1)]) (es' := []) [] ?_ ⟨rfl, rfl, trivial⟩ (by decide) rfl
    refine JE.code ?_
    refine JX.ret ?_
    refine JE.nilrow 2 eI64 ?_
    obtain rfl := Option.some.inj hres
    refine JE.ret (rs := [.tmp 2, .tmp 3]) (vs := [.slice none 0 0, .int .i64 1]) rfl ⟨rfl, rfl, trivial⟩ ?_
    exact fun w' hb hs => ⟨_, _, ⟨none, 0, 0, rfl, rfl, rfl⟩, rfl, hb, hs.sel [0] _ (by decide) rfl⟩
  · refine JX.condF rfl hb ?_
    refine JX.skip ?_
    refine JE.code ?_
    refine JX.seq ?_
    refine JX.region ?_
    refine JL.eff (ef_buildSlice (E := 2) (k := eI64.k) (us := eI64.fl ([] : List Int)) rfl (fun w => bsl22_0  w) rfl (by decide)) rfl ?_
    rintro _ _ ⟨a5, rfl, rfl⟩
    refine JL.val (yl_assign rfl) rfl ?_
    refine JL.nil ?_
    refine JE.code ?_
    refine JX.seq ?_
    refine JX.seq ?_
    refine JX.region ?_
    refine JL.val (yl_loadn Go.Proofs.Try.underlying28 rfl i28 rfl (fun w hC => rd_box hC 0 rfl) rfl (i28s).symm i28p) rfl ?_
    obtain ⟨x7, hx7, hres⟩ := bind_some hres
    refine JL.eff (ef_call (vs := [.agg #[.int .i64 q0.W, .int .i64 q0.H, .slice a_0_2 q0.Breaks.length c_0_2]]) (T := T98 x7) Go.Proofs.Try.func98 rfl (by kernel_rfl) rfl (fun w hC => c98 (q0 := q0) (rd_arg g_0_2 hC) rfl k_0_2 hx7)) rfl ?_
    rintro _ _ ⟨_, ⟨a8, _, cp9, hs11, rfl, hi12, rfl, rfl⟩, rfl⟩
    refine JL.val (yl_len_slice Go.Proofs.Try.underlying99 rfl) rfl ?_
    refine JL.val (yl_move rfl) rfl ?_
    refine JL.nil ?_
    refine JE.weak (env' := [(4, .slice a5 0 0), (14, .slice a8 x7.length cp9), (15, .int .i64 ((x7.length : Nat) : Int)), (16, .int .i64 0)]) (es' := [rowT 2 eI64 a5 0 0 ([] : List Int), rowT 104 eHd a8 x7.length cp9 hs11, innO 4 eBool none hs11 x7]) [1, 2, 3] ?_ ⟨rfl, rfl, rfl, rfl, trivial⟩ (by decide) rfl
    refine JE.code ?_
    refine JX.block ?_
    obtain ⟨y1, hy1, hresO1⟩ := bind_some hres
    refine JX.loop (I := fun (s1 : Int × List Int) aa ww => ∃ (a14 : Option Addr) (cp15 : Nat), St w [] 46 [(4, .slice a14 s1.2.length cp15), (14, .slice a8 x7.length cp9), (15, .int .i64 ((x7.length : Nat) : Int)), (16, .int .i64 s1.1)] [rowT 2 eI64 a14 s1.2.length cp15 s1.2, rowT 104 eHd a8 x7.length cp9 hs11, innO 4 eBool none hs11 x7] aa ww) (sh36_1 x7) hy1 (fun a w h => ⟨a5, 0, h.weak ⟨rfl, rfl, rfl, rfl, trivial⟩ [0, 1, 2] (by decide) rfl⟩) ?_
    rintro ⟨x16, x17⟩ o1 hres hox1 aa ww ⟨a18, cp19, hS⟩
    refine (?_ : JX Go.Proofs.Try.prog w [] 46 _ _ [(4, .slice a18 x17.length cp19), (14, .slice a8 x7.length cp9), (15, .int .i64 ((x7.length : Nat) : Int)), (16, .int .i64 x16)] [rowT 2 eI64 a18 x17.length cp19 x17, rowT 104 eHd a8 x7.length cp9 hs11, innO 4 eBool none hs11 x7] _) aa ww hS
    clear hS
    simp only [sh36_1] at hres
    refine JX.seq ?_
    refine JX.region ?_
    refine JL.val (yl_lss rfl rfl) rfl ?_
    refine JL.nil ?_
    refine JE.code ?_
    refine JX.seq ?_
    rcases cond_some hres with ⟨hb, hres⟩ | ⟨hb, hres⟩
    · refine JX.condT rfl hb ?_
      refine JX.skip ?_
      refine JE.code ?_
      refine JX.seq ?_
      refine JX.block ?_
      refine JX.seq ?_
      refine JX.region ?_
      refine JL.val (yl_move rfl) rfl ?_
      obtain ⟨x20, hx20, hres⟩ := bind_some hres
      obtain ⟨ha21, hc22, hhx20⟩ := Inn.sub hi12 hx20
      refine JL.val (yl_idxT Go.Proofs.Try.underlying99 i104 i104s rfl rfl hhx20 (Inn.len hi12) (fun w hC => rd_row hC 1 rfl)) rfl ?_
      refine JL.val (yl_loadT0 (z := ⟨ha21, x20.length, hc22⟩) Go.Proofs.Try.underlying104 rfl rfl hhx20 (fun w hC => rd_row hC 1 rfl) rfl) rfl ?_
      refine JL.val (yl_assign rfl) rfl ?_
      refine JL.val (yl_assign rfl) rfl ?_
      refine JL.nil ?_
      refine JE.weak (env' := [(4, .slice a18 x17.length cp19), (5, .int .i64 x16), (6, .slice ha21 x20.length hc22), (14, .slice a8 x7.length cp9), (15, .int .i64 ((x7.length : Nat) : Int)), (16, .int .i64 x16)]) (es' := [rowT 2 eI64 a18 x17.length cp19 x17, rowT 104 eHd a8 x7.length cp9 hs11, innO 4 eBool none hs11 x7]) [0, 1, 2] ?_ ⟨rfl, rfl, rfl, rfl, rfl, rfl, trivial⟩ (by decide) rfl
      refine JE.code ?_
      refine JX.seq ?_
      refine JX.region ?_
      refine JL.val (yl_move rfl) rfl ?_
      refine JL.val (yl_add rfl rfl) rfl ?_
      obtain ⟨x24, hx24, hres⟩ := bind_some hres
      refine JL.eff (ef_makeS (e := eBool) Go.Proofs.Try.underlying104 i4 i4s i4z rfl i4b1 rfl rfl hx24) rfl ?_
      rintro _ _ ⟨a25, rfl, rfl⟩
      refine JL.val (yl_assign rfl) rfl ?_
      refine JL.nil ?_
      refine JE.weak (env' := [(4, .slice a18 x17.length cp19), (5, .int .i64 x16), (6, .slice ha21 x20.length hc22), (7, .slice a25 x24.length x24.length), (14, .slice a8 x7.length cp9), (15, .int .i64 ((x7.length : Nat) : Int)), (16, .int .i64 x16)]) (es' := [rowT 2 eI64 a18 x17.length cp19 x17, rowT 104 eHd a8 x7.length cp9 hs11, innO 4 eBool none hs11 x7, rowT 4 eBool a25 x24.length x24.length x24]) [0, 1, 2, 3] ?_ ⟨rfl, rfl, rfl, rfl, rfl, rfl, rfl, trivial⟩ (by decide) rfl
      refine JE.code ?_
      refine JX.seq ?_
      refine JX.seq ?_
      refine JX.region ?_
      refine JL.val (yl_move rfl) rfl ?_
      refine JL.val (yl_move rfl) rfl ?_
      refine JL.nil ?_
      refine JE.code ?_
      refine JX.block ?_
      obtain ⟨y2, hy2, hresO2⟩ := bind_some hres
      refine JX.loop (I := fun (s2 : Int × List Bool) aa ww => ∃ (l27 : s2.2.length = x24.length), St w [] 46 [(4, .slice a18 x17.length cp19), (6, .slice ha21 x20.length hc22), (7, .slice a25 x24.length x24.length), (14, .slice a8 x7.length cp9), (15, .int .i64 ((x7.length : Nat) : Int)), (16, .int .i64 x16), (24, .int .i64 x16), (25, .int .i64 s2.1)] [rowT 2 eI64 a18 x17.length cp19 x17, rowT 104 eHd a8 x7.length cp9 hs11, innO 4 eBool none hs11 x7, rowT 4 eBool a25 x24.length x24.length s2.2] aa ww) (sh36_2 x16 x17 x20) hy2 (fun a w h => ⟨rfl, h.weak ⟨rfl, rfl, rfl, rfl, rfl, rfl, rfl, rfl, trivial⟩ [0, 1, 2, 3] (by decide) rfl⟩) ?_
      rintro ⟨x28, x29⟩ o2 hres hox2 aa ww ⟨l30, hS⟩
      refine (?_ : JX Go.Proofs.Try.prog w [] 46 _ _ [(4, .slice a18 x17.length cp19), (6, .slice ha21 x20.length hc22), (7, .slice a25 x24.length x24.length), (14, .slice a8 x7.length cp9), (15, .int .i64 ((x7.length : Nat) : Int)), (16, .int .i64 x16), (24, .int .i64 x16), (25, .int .i64 x28)] [rowT 2 eI64 a18 x17.length cp19 x17, rowT 104 eHd a8 x7.length cp9 hs11, innO 4 eBool none hs11 x7, rowT 4 eBool a25 x24.length x24.length x29] _) aa ww hS
      clear hS
      simp only [sh36_2] at hres
      refine JX.seq ?_
      refine JX.region ?_
      refine JL.val (yl_lss rfl rfl) rfl ?_
      refine JL.nil ?_
      refine JE.code ?_
      refine JX.seq ?_
      rcases cond_some hres with ⟨hb, hres⟩ | ⟨hb, hres⟩
      · refine JX.condT rfl hb ?_
        refine JX.skip ?_
        refine JE.code ?_
        refine JX.seq ?_
        refine JX.block ?_
        refine JX.seq ?_
        refine JX.region ?_
        refine JL.val (yl_move rfl) rfl ?_
        refine JL.val (yl_assign rfl) rfl ?_
        refine JL.nil ?_
        refine JE.code ?_
        refine JX.seq ?_
        refine JX.region ?_
        refine JL.val (yl_move rfl) rfl ?_
        refine JL.val (yl_move rfl) rfl ?_
        obtain ⟨x31, hx31, hres⟩ := bind_some hres
        refine JL.val (yl_idxT Go.Proofs.Try.underlying104 i4 i4s rfl rfl hx31 rfl (fun w hC => (RdI.sub (rd_inn hC 2 rfl) hx20 hhx20))) rfl ?_
        refine JL.val (yl_loadT0 Go.Proofs.Try.underlying4 rfl rfl hx31 (fun w hC => (RdI.sub (rd_inn hC 2 rfl) hx20 hhx20)) rfl) rfl ?_
        refine JL.nil ?_
        refine JE.weak (env' := [(4, .slice a18 x17.length cp19), (6, .slice ha21 x20.length hc22), (7, .slice a25 x24.length x24.length), (8, .int .i64 x28), (14, .slice a8 x7.length cp9), (15, .int .i64 ((x7.length : Nat) : Int)), (16, .int .i64 x16), (24, .int .i64 x16), (25, .int .i64 x28), (31, .bool x31)]) (es' := [rowT 2 eI64 a18 x17.length cp19 x17, rowT 104 eHd a8 x7.length cp9 hs11, innO 4 eBool none hs11 x7, rowT 4 eBool a25 x24.length x24.length x29]) [0, 1, 2, 3] ?_ ⟨rfl, rfl, rfl, rfl, rfl, rfl, rfl, rfl, rfl, rfl, trivial⟩ (by decide) rfl
        refine JE.code ?_
        obtain ⟨j32, hj32, hresj32⟩ := bind_some hres
        refine JX.cut (K := fun J => ∀ (l33 : j32.length = x24.length), J [(4, .slice a18 x17.length cp19), (6, .slice ha21 x20.length hc22), (7, .slice a25 x24.length x24.length), (14, .slice a8 x7.length cp9), (15, .int .i64 ((x7.length : Nat) : Int)), (16, .int .i64 x16), (24, .int .i64 x16), (25, .int .i64 x28)] [rowT 2 eI64 a18 x17.length cp19 x17, rowT 104 eHd a8 x7.length cp9 hs11, innO 4 eBool none hs11 x7, rowT 4 eBool a25 x24.length x24.length j32]) ?_ ?_
        · intro l33
          have hres := hresj32
          refine JE.code ?_
          refine JX.region ?_
          refine JL.val (yl_add rfl rfl) rfl ?_
          refine JL.val (yl_move rfl) rfl ?_
          refine JL.nil ?_
          refine JE.cont hres ?_
          exact fun a w h => ⟨l33, h.weak ⟨rfl, rfl, rfl, rfl, rfl, rfl, rfl, rfl, trivial⟩ [0, 1, 2, 3] (by decide) rfl⟩
        · intro K
          rcases cond_some hj32 with ⟨hb, hres⟩ | ⟨hb, hres⟩
          · refine JX.condT rfl hb ?_
            refine JX.region ?_
            refine JL.val (yl_move rfl) rfl ?_
            refine JL.val (yl_move rfl) rfl ?_
            refine JL.val (yl_move rfl) rfl ?_
            obtain ⟨x34, hx34, hres⟩ := bind_some hres
            refine JL.val (yl_idxT Go.Proofs.Try.underlying22 i2 i2s rfl rfl hx34 rfl (fun w hC => rd_row hC 0 rfl)) rfl ?_
            refine JL.val (yl_loadT0 Go.Proofs.Try.underlying2 rfl rfl hx34 (fun w hC => rd_row hC 0 rfl) rfl) rfl ?_
            obtain ⟨x35, hx35, hres⟩ := bind_some hres
            refine JL.val (yl_idxT Go.Proofs.Try.underlying104 i4 i4s rfl rfl hx35 l30 (fun w hC => rd_row hC 3 rfl)) rfl ?_
            refine JL.eff (ef_storeT (ix := 3) (u := true) i4 i4s rfl rfl rfl hx35 rfl) rfl ?_
            rintro _ _ rfl
            refine JL.nil ?_
            refine JE.weak (env' := [(4, .slice a18 x17.length cp19), (6, .slice ha21 x20.length hc22), (7, .slice a25 x24.length x24.length), (14, .slice a8 x7.length cp9), (15, .int .i64 ((x7.length : Nat) : Int)), (16, .int .i64 x16), (24, .int .i64 x16), (25, .int .i64 x28)]) (es' := [rowT 2 eI64 a18 x17.length cp19 x17, rowT 104 eHd a8 x7.length cp9 hs11, innO 4 eBool none hs11 x7, rowT 4 eBool a25 x24.length x24.length (x29.set (x34).toNat true)]) [0, 1, 2, 3] ?_ ⟨rfl, rfl, rfl, rfl, rfl, rfl, rfl, rfl, trivial⟩ (by decide) rfl
            have hj := Option.some.inj hres
            exact JE.weak [0, 1, 2, 3] (K (by subst hj; exact (List.length_set.trans l30))) ⟨(by subst hj; rfl), (by subst hj; rfl), (by subst hj; rfl), (by subst hj; rfl), (by subst hj; rfl), (by subst hj; rfl), (by subst hj; rfl), (by subst hj; rfl), trivial⟩ (by decide) (by subst hj; rfl)
          · refine JX.condF rfl hb ?_
            refine JX.skip ?_
            have hj := Option.some.inj hres
            exact JE.weak [0, 1, 2, 3] (K (by subst hj; exact l30)) ⟨(by subst hj; rfl), (by subst hj; rfl), (by subst hj; rfl), (by subst hj; rfl), (by subst hj; rfl), (by subst hj; rfl), (by subst hj; rfl), (by subst hj; rfl), trivial⟩ (by decide) (by subst hj; rfl)
      · refine JX.condF rfl hb ?_
        refine JX.exit ?_
        refine JE.qb rfl ?_
        obtain ⟨b2, hb2⟩ : ∃ b : List Bool, b = x29 := ⟨_, rfl⟩
        have hy2 : b2 = y2 := by rw [hb2]; exact hox2 _ (Option.some.inj hres).symm
        have hres := hresO2
        rw [← hy2] at hres
        have l36 : b2.length = x24.length := by subst hb2; exact l30
        refine JE.weak (env' := [(4, .slice a18 x17.length cp19), (7, .slice a25 x24.length x24.length), (14, .slice a8 x7.length cp9), (15, .int .i64 ((x7.length : Nat) : Int)), (16, .int .i64 x16)]) (es' := [rowT 2 eI64 a18 x17.length cp19 x17, rowT 4 eBool a25 x24.length x24.length b2, rowT 104 eHd a8 x7.length cp9 hs11, innO 4 eBool none hs11 x7]) [0, 3, 1, 2] ?_ ⟨(by subst hb2; rfl), (by subst hb2; rfl), (by subst hb2; rfl), (by subst hb2; rfl), (by subst hb2; rfl), trivial⟩ (by decide) (by subst hb2; rfl)
        refine JE.code ?_
        refine JX.region ?_
        refine JL.val (yl_move rfl) rfl ?_
        refine JL.val (yl_move rfl) rfl ?_
        obtain ⟨x37, hx37, hres⟩ := bind_some hres
        refine JL.eff (ef_call (T := T100 x37) Go.Proofs.Try.func100 rfl (by kernel_rfl) rfl (fun w hC => c100 (rd_row hC 1 rfl) l36 (Nat.le_refl _) hx37)) rfl ?_
        rintro _ _ ⟨_, ⟨rfl, rfl⟩, rfl⟩
        refine JL.eff (ef_buildSlice (E := 2) (k := eI64.k) (us := eI64.fl [x37]) rfl (fun w => bsl22_1 x37 w) rfl (by decide)) rfl ?_
        rintro _ _ ⟨a38, rfl, rfl⟩
        obtain ⟨x40, hx40, hres⟩ := bind_some hres
        refine JL.eff (ef_appendT (ix := 0) Go.Proofs.Try.underlying22 i2 i2z i2s rfl i2b0 i2b1 rfl rfl rfl rfl rfl (fun w hC => rd_row hC 4 rfl) hx40) rfl ?_
        rintro _ _ ⟨a41, cp42, rfl, rfl⟩
        refine JL.val (yl_assign rfl) rfl ?_
        refine JL.nil ?_
        refine JE.weak (env' := [(4, .slice a41 x40.length cp42), (14, .slice a8 x7.length cp9), (15, .int .i64 ((x7.length : Nat) : Int)), (16, .int .i64 x16)]) (es' := [rowT 2 eI64 a41 x40.length cp42 x40, rowT 104 eHd a8 x7.length cp9 hs11, innO 4 eBool none hs11 x7]) [0, 2, 3] ?_ ⟨rfl, rfl, rfl, rfl, trivial⟩ (by decide) rfl
        refine JE.code ?_
        refine JX.region ?_
        refine JL.val (yl_add rfl rfl) rfl ?_
        refine JL.val (yl_move rfl) rfl ?_
        refine JL.nil ?_
        refine JE.cont hres ?_
        exact fun a w h => ⟨a41, cp42, h.weak ⟨rfl, rfl, rfl, rfl, trivial⟩ [0, 1, 2] (by decide) rfl⟩
    · refine JX.condF rfl hb ?_
      refine JX.exit ?_
      refine JE.qb rfl ?_
      obtain ⟨b1, hb1⟩ : ∃ b : List Int, b = x17 := ⟨_, rfl⟩
      have hy1 : b1 = y1 := by rw [hb1]; exact hox1 _ (Option.some.inj hres).symm
      have hres := hresO1
      rw [← hy1] at hres
      refine JE.weak (env' := [(4, .slice a18 b1.length cp19)]) (es' := [rowT 2 eI64 a18 b1.length cp19 b1]) [0] ?_ ⟨(by subst hb1; rfl), trivial⟩ (by decide) (by subst hb1; rfl)
      refine JE.code ?_
      refine JX.seq ?_
      refine JX.region ?_
      refine JL.val (yl_move rfl) rfl ?_
      refine JL.val (yl_assign rfl) rfl ?_
      refine JL.val (yl_assign rfl) rfl ?_
      refine JL.nil ?_
      refine JE.code ?_
      refine JX.ret ?_
      obtain rfl := Option.some.inj hres
      refine JE.ret (rs := [.tmp 2, .tmp 3]) (vs := [.slice a18 b1.length cp19, .int .i64 0]) rfl ⟨rfl, rfl, trivial⟩ ?_
      exact fun w' hb hs => ⟨_, _, ⟨a18, b1.length, cp19, rfl, rfl, rfl⟩, rfl, hb, hs.sel [0] _ (by decide) rfl⟩

/- spec.l04Code -/
def sh101 (q0 : SPanel) (q1 : Int) : Option (List Int × Int) := Option.bind (sh82 q0) fun x1 => bif !x1 then (some (([] : List Int), 1)) else (Option.bind (sh116 q0) fun x3 => Option.bind (sh127 q1 0 (w64 (((x3.1.length : Nat) : Int) - 1))) fun x13 => bif !x13 then (some (([] : List Int), 2)) else (some (x3.2, 0)))
def T101 (r : List Int × Int) (v : Value) (rs : List Own) : Prop := ∃ (a0 : Option Addr) (n0 c0 : Nat), r.1.length = n0 ∧ v = rets [.slice a0 n0 c0, .int .i64 r.2] ∧ rs = [rowT 2 eI64 a0 n0 c0 r.1]
set_option maxRecDepth 100000 in
theorem c101 {w : World} {q0 : SPanel} {a_0 : Option Addr} {n_0 : Nat} {a_0_2 : Option Addr} {n_0_2 c_0_2 : Nat} (g_0 : RdAt w a_0 n_0 [.int .i64 q0.W, .int .i64 q0.H, .slice a_0_2 n_0_2 c_0_2]) (g_0_2 : Rd w a_0_2 (eI64.fl q0.Breaks)) (l_0_2 : q0.Breaks.length = n_0_2) (k_0_2 : n_0_2 ≤ c_0_2) {q1 : Int} {r : List Int × Int} (hres : sh101 q0 q1 = some r) : Calls Go.Proofs.Try.prog 101 [ptrAt a_0 n_0, .int .i64 q1].toArray w (Ret w (T101 r)) := by
  subst l_0_2
  obtain ⟨b_0, e_0, g_0⟩ := g_0.norm0
  rw [e_0]
  unfold sh101 at hres
  refine calls_of (n := 23) (M := []) (es := []) Go.Proofs.Try.func101 rfl rfl rfl (Sep.nil _ _ _) ?_
  refine JX.seq ?_
  refine JX.region ?_
  refine JL.val (yl_assign rfl) rfl ?_
  refine JL.val (yl_assign rfl) rfl ?_
  refine JL.nil ?_
  refine JE.code ?_
  refine JX.seq ?_
  refine JX.seq ?_
  refine JX.region ?_
  refine JL.val (yl_move rfl) rfl ?_
  obtain ⟨x1, hx1, hres⟩ := bind_some hres
  refine JL.eff (ef_call (T := T82 x1) Go.Proofs.Try.func82 rfl (by kernel_rfl) rfl (fun w hC => c82 (RdAt.of0 (rd_arg g_0 hC)) (rd_arg g_0_2 hC) rfl k_0_2 hx1)) rfl ?_
  rintro _ _ ⟨_, ⟨rfl, rfl⟩, rfl⟩
  refine JL.val (yl_not rfl) rfl ?_
  refine JL.nil ?_
  refine JE.code ?_
  rcases cond_some hres with ⟨hb, hres⟩ | ⟨hb, hres⟩
  · refine JX.condT rfl hb ?_
    refine JX.seq ?_
    refine JX.region ?_
    refine JL.val (yl_assign rfl) rfl ?_
    refine JL.val (yl_assign rfl) rfl ?_
    refine JL.nil ?_
    refine JE.code ?_
    refine JX.ret ?_
    refine JE.nilrow 2 eI64 ?_
    obtain rfl := Option.some.inj hres
    refine JE.ret (rs := [.tmp 4, .tmp 5]) (vs := [.slice none 0 0, .int .i64 1]) rfl ⟨rfl, rfl, trivial⟩ ?_
    exact fun w' hb hs => ⟨_, _, ⟨none, 0, 0, rfl, rfl, rfl⟩, rfl, hb, hs.sel [0] _ (by decide) rfl⟩
  · refine JX.condF rfl hb ?_
    refine JX.skip ?_
    refine JE.code ?_
    refine JX.seq ?_
    refine JX.region ?_
    refine JL.val (yl_move rfl) rfl ?_
    obtain ⟨x3, hx3, hres⟩ := bind_some hres
    refine JL.eff (ef_call (T := T116 x3) Go.Proofs.Try.func116 rfl (by kernel_rfl) rfl (fun w hC => c116 (RdAt.of0 (rd_arg g_0 hC)) (rd_arg g_0_2 hC) rfl k_0_2 hx3)) rfl ?_
    rintro _ _ ⟨_, ⟨a4, _, cp5, hs7, rfl, hi8, a10, _, cp11, rfl, rfl, rfl⟩, rfl⟩
    refine JL.val (yl_move rfl) rfl ?_
    refine JL.val (yl_extract rfl rfl) rfl ?_
    refine JL.val (yl_extract rfl rfl) rfl ?_
    refine JL.val (yl_assign rfl) rfl ?_
    refine JL.val (yl_assign rfl) rfl ?_
    refine JL.nil ?_
    refine JE.weak (env' := [(1, .int .i64 q1), (6, .slice a4 x3.1.length cp5), (7, .slice a10 x3.2.length cp11)]) (es' := [rowT 61 eHd a4 x3.1.length cp5 hs7, innO 35 eSPoint none hs7 x3.1, rowT 2 eI64 a10 x3.2.length cp11 x3.2]) [0, 1, 2] ?_ ⟨rfl, rfl, rfl, trivial⟩ (by decide) rfl
    refine JE.code ?_
    refine JX.seq ?_
    refine JX.seq ?_
    refine JX.region ?_
    refine JL.val (yl_move rfl) rfl ?_
    refine JL.val (yl_move rfl) rfl ?_
    refine JL.val (yl_len_slice Go.Proofs.Try.underlying40 rfl) rfl ?_
    refine JL.val (yl_sub rfl rfl) rfl ?_
    obtain ⟨x13, hx13, hres⟩ := bind_some hres
    refine JL.eff (ef_call (T := T127 x13) Go.Proofs.Try.func127 rfl (by kernel_rfl) rfl (fun w hC => c127  hx13)) rfl ?_
    rintro _ _ ⟨_, ⟨rfl, rfl⟩, rfl⟩
    refine JL.val (yl_not rfl) rfl ?_
    refine JL.nil ?_
    refine JE.weak (env' := [(7, .slice a10 x3.2.length cp11), (21, .bool !x13)]) (es' := [rowT 2 eI64 a10 x3.2.length cp11 x3.2]) [2] ?_ ⟨rfl, rfl, trivial⟩ (by decide) rfl
    refine JE.code ?_
    rcases cond_some hres with ⟨hb, hres⟩ | ⟨hb, hres⟩
    · refine JX.condT rfl hb ?_
      refine JX.seq ?_
      refine JX.region ?_
      refine JL.val (yl_assign rfl) rfl ?_
      refine JL.val (yl_assign rfl) rfl ?_
      refine JL.nil ?_
      refine JE.weak (env' := [(4, .slice none 0 0), (5, .int .i64 2)]) (es' := []) [] ?_ ⟨rfl, rfl, trivial⟩ (by decide) rfl
      refine JE.code ?_
      refine JX.ret ?_
      refine JE.nilrow 2 eI64 ?_
      obtain rfl := Option.some.inj hres
      refine JE.ret (rs := [.tmp 4, .tmp 5]) (vs := [.slice none 0 0, .int .i64 2]) rfl ⟨rfl, rfl, trivial⟩ ?_
      exact fun w' hb hs => ⟨_, _, ⟨none, 0, 0, rfl, rfl, rfl⟩, rfl, hb, hs.sel [0] _ (by decide) rfl⟩
    · refine JX.condF rfl hb ?_
      refine JX.skip ?_
      refine JE.code ?_
      refine JX.seq ?_
      refine JX.region ?_
      refine JL.val (yl_move rfl) rfl ?_
      refine JL.val (yl_assign rfl) rfl ?_
      refine JL.val (yl_assign rfl) rfl ?_
      refine JL.nil ?_
      refine JE.code ?_
      refine JX.ret ?_
      obtain rfl := Option.some.inj hres
      refine JE.ret (rs := [.tmp 4, .tmp 5]) (vs := [.slice a10 x3.2.length cp11, .int .i64 0]) rfl ⟨rfl, rfl, trivial⟩ ?_
      exact fun w' hb hs => ⟨_, _, ⟨a10, x3.2.length, cp11, rfl, rfl, rfl⟩, rfl, hb, hs.sel [0] _ (by decide) rfl⟩

/- spec.CurveNeighbours -/
def sh39_1 (x15 : List Bool) : (Int × List Int) → Option ((Int × List Int) ⊕ (List Int))
  | (x23, x24) => bif decide (x23 < (x15.length : Int)) then (Option.bind (getI x15 x23) fun x27 => Option.bind (bif x27 then (Option.bind (appL x24 [x23]) fun x33 => some x33) else (some x24)) fun j28 => (some (.inl (w64 (x23 + 1), j28)))) else (some (.inr x24))
def sh39 (q0 : SPanel) (q1 : Int) : Option (List Int × Int) := Option.bind (sh101 q0 q1) fun x3 => bif x3.2 != 0 then (some (([] : List Int), x3.2)) else (Option.bind (sh94 q0) fun x8 => Option.bind (getI x8 q1) fun x15 => Option.bind (iter (sh39_1 x15) (0, ([] : List Int))) fun b1 => (some (b1, 0)))
def T39 (r : List Int × Int) (v : Value) (rs : List Own) : Prop := ∃ (a0 : Option Addr) (n0 c0 : Nat), r.1.length = n0 ∧ v = rets [.slice a0 n0 c0, .int .i64 r.2] ∧ rs = [rowT 2 eI64 a0 n0 c0 r.1]
set_option maxRecDepth 100000 in
theorem c39 {w : World} {q0 : SPanel} {a_0_2 : Option Addr} {n_0_2 c_0_2 : Nat} (g_0_2 : Rd w a_0_2 (eI64.fl q0.Breaks)) (l_0_2 : q0.Breaks.length = n_0_2) (k_0_2 : n_0_2 ≤ c_0_2) {q1 : Int} {r : List Int × Int} (hres : sh39 q0 q1 = some r) : Calls Go.Proofs.Try.prog 39 [.agg #[.int .i64 q0.W, .int .i64 q0.H, .slice a_0_2 n_0_2 c_0_2], .int .i64 q1].toArray w (Ret w (T39 r)) := by
  subst l_0_2
  unfold sh39 at hres
  refine calls_of (n := 39) (M := []) (es := []) Go.Proofs.Try.func39 rfl rfl rfl (Sep.nil _ _ _) ?_
  refine JX.seq ?_
  refine JX.region ?_
  refine JL.eff (ef_box rfl rfl) rfl ?_
  rintro _ _ ⟨g1, rfl, rfl⟩
  refine JL.val (yl_assign rfl) rfl ?_
  refine JL.val (yl_assign rfl) rfl ?_
  refine JL.nil ?_
  refine JE.code ?_
  refine JX.seq ?_
  refine JX.region ?_
  refine JL.val (yl_move rfl) rfl ?_
  obtain ⟨x3, hx3, hres⟩ := bind_some hres
  refine JL.eff (ef_call (T := T101 x3) Go.Proofs.Try.func101 rfl (by kernel_rfl) rfl (fun w hC => c101 (RdAt.of0 (rd_box hC 0 rfl)) (rd_arg g_0_2 hC) rfl k_0_2 hx3)) rfl ?_
  rintro _ _ ⟨_, ⟨a4, _, cp5, rfl, rfl, rfl⟩, rfl⟩
  refine JL.val (yl_move rfl) rfl ?_
  refine JL.val (yl_extract rfl rfl) rfl ?_
  refine JL.val (yl_extract rfl rfl) rfl ?_
  refine JL.val (yl_assign rfl) rfl ?_
  refine JL.val (yl_assign rfl) rfl ?_
  refine JL.nil ?_
  refine JE.weak (env' := [(1, .int .i64 q1), (2, ptrAt (some ⟨g1, 0, none⟩) 0), (7, .int .i64 x3.2)]) (es' := [boxO 28 g1 [.int .i64 q0.W, .int .i64 q0.H, .slice a_0_2 q0.Breaks.length c_0_2]]) [0] ?_ ⟨rfl, rfl, rfl, trivial⟩ (by decide) rfl
  refine JE.code ?_
  refine JX.seq ?_
  refine JX.seq ?_
  refine JX.region ?_
  refine JL.val (yl_move rfl) rfl ?_
  refine JL.val (yl_neq rfl rfl) rfl ?_
  refine JL.nil ?_
  refine JE.code ?_
  rcases cond_some hres with ⟨hb, hres⟩ | ⟨hb, hres⟩
  · refine JX.condT rfl hb ?_
    refine JX.seq ?_
    refine JX.region ?_
    refine JL.val (yl_move rfl) rfl ?_
    refine JL.val (yl_assign rfl) rfl ?_
    refine JL.val (yl_assign rfl) rfl ?_
    refine JL.nil ?_
    refine JE.weak (env' := [(4, .slice none 0 0), (5, .int .i64 x3.2)]) (es' := []) [] ?_ ⟨rfl, rfl, trivial⟩ (by decide) rfl
    refine JE.code ?_
    refine JX.ret ?_
    refine JE.nilrow 2 eI64 ?_
    obtain rfl := Option.some.inj hres
    refine JE.ret (rs := [.tmp 4, .tmp 5]) (vs := [.slice none 0 0, .int .i64 x3.2]) rfl ⟨rfl, rfl, trivial⟩ ?_
    exact fun w' hb hs => ⟨_, _, ⟨none, 0, 0, rfl, rfl, rfl⟩, rfl, hb, hs.sel [0] _ (by decide) rfl⟩
  · refine JX.condF rfl hb ?_
    refine JX.skip ?_
    refine JE.code ?_
    refine JX.seq ?_
    refine JX.region ?_
    obtain ⟨x8, hx8, hres⟩ := bind_some hres
    refine JL.eff (ef_call (T := T94 x8) Go.Proofs.Try.func94 rfl (by kernel_rfl) rfl (fun w hC => c94 (RdAt.of0 (rd_box hC 0 rfl)) (rd_arg g_0_2 hC) rfl k_0_2 hx8)) rfl ?_
    rintro _ _ ⟨_, ⟨a9, _, cp10, hs12, rfl, hi13, rfl, rfl⟩, rfl⟩
    refine JL.val (yl_move rfl) rfl ?_
    obtain ⟨x15, hx15, hres⟩ := bind_some hres
    obtain ⟨ha16, hc17, hhx15⟩ := Inn.sub hi13 hx15
    refine JL.val (yl_idxT Go.Proofs.Try.underlying99 i104 i104s rfl rfl hhx15 (Inn.len hi13) (fun w hC => rd_row hC 1 rfl)) rfl ?_
    refine JL.val (yl_loadT0 (z := ⟨ha16, x15.length, hc17⟩) Go.Proofs.Try.underlying104 rfl rfl hhx15 (fun w hC => rd_row hC 1 rfl) rfl) rfl ?_
    refine JL.val (yl_assign rfl) rfl ?_
    refine JL.nil ?_
    refine JE.weak (env' := [(8, .slice ha16 x15.length hc17)]) (es' := [rowT 104 eHd a9 x8.length cp10 hs12, innO 4 eBool none hs12 x8]) [1, 2] ?_ ⟨rfl, trivial⟩ (by decide) rfl
    refine JE.code ?_
    refine JX.seq ?_
    refine JX.region ?_
    refine JL.eff (ef_buildSlice (E := 2) (k := eI64.k) (us := eI64.fl ([] : List Int)) rfl (fun w => bsl22_0  w) rfl (by decide)) rfl ?_
    rintro _ _ ⟨a19, rfl, rfl⟩
    refine JL.val (yl_assign rfl) rfl ?_
    refine JL.nil ?_
    refine JE.code ?_
    refine JX.seq ?_
    refine JX.seq ?_
    refine JX.region ?_
    refine JL.val (yl_assign rfl) rfl ?_
    refine JL.nil ?_
    refine JE.code ?_
    refine JX.block ?_
    obtain ⟨y1, hy1, hresO1⟩ := bind_some hres
    refine JX.loop (I := fun (s1 : Int × List Int) aa ww => ∃ (a21 : Option Addr) (cp22 : Nat), St w [] 39 [(8, .slice ha16 x15.length hc17), (9, .slice a21 s1.2.length cp22), (10, .int .i64 s1.1)] [rowT 104 eHd a9 x8.length cp10 hs12, innO 4 eBool none hs12 x8, rowT 2 eI64 a21 s1.2.length cp22 s1.2] aa ww) (sh39_1 x15) hy1 (fun a w h => ⟨a19, 0, h.weak ⟨rfl, rfl, rfl, trivial⟩ [0, 1, 2] (by decide) rfl⟩) ?_
    rintro ⟨x23, x24⟩ o1 hres hox1 aa ww ⟨a25, cp26, hS⟩
    refine (?_ : JX Go.Proofs.Try.prog w [] 39 _ _ [(8, .slice ha16 x15.length hc17), (9, .slice a25 x24.length cp26), (10, .int .i64 x23)] [rowT 104 eHd a9 x8.length cp10 hs12, innO 4 eBool none hs12 x8, rowT 2 eI64 a25 x24.length cp26 x24] _) aa ww hS
    clear hS
    simp only [sh39_1] at hres
    refine JX.seq ?_
    refine JX.seq ?_
    refine JX.region ?_
    refine JL.val (yl_move rfl) rfl ?_
    refine JL.val (yl_move rfl) rfl ?_
    refine JL.val (yl_len_slice Go.Proofs.Try.underlying104 rfl) rfl ?_
    refine JL.val (yl_lss rfl rfl) rfl ?_
    refine JL.nil ?_
    refine JE.weak (env' := [(8, .slice ha16 x15.length hc17), (9, .slice a25 x24.length cp26), (10, .int .i64 x23), (27, .bool (decide (x23 < (x15.length : Int))))]) (es' := [rowT 104 eHd a9 x8.length cp10 hs12, innO 4 eBool none hs12 x8, rowT 2 eI64 a25 x24.length cp26 x24]) [0, 1, 2] ?_ ⟨rfl, rfl, rfl, rfl, trivial⟩ (by decide) rfl
    refine JE.code ?_
    rcases cond_some hres with ⟨hb, hres⟩ | ⟨hb, hres⟩
    · refine JX.condT rfl hb ?_
      refine JX.skip ?_
      refine JE.code ?_
      refine JX.seq ?_
      refine JX.block ?_
      refine JX.seq ?_
      refine JX.region ?_
      refine JL.val (yl_move rfl) rfl ?_
      refine JL.val (yl_move rfl) rfl ?_
      obtain ⟨x27, hx27, hres⟩ := bind_some hres
      refine JL.val (yl_idxT Go.Proofs.Try.underlying104 i4 i4s rfl rfl hx27 rfl (fun w hC => (RdI.sub (rd_inn hC 1 rfl) hx15 hhx15))) rfl ?_
      refine JL.val (yl_loadT0 Go.Proofs.Try.underlying4 rfl rfl hx27 (fun w hC => (RdI.sub (rd_inn hC 1 rfl) hx15 hhx15)) rfl) rfl ?_
      refine JL.nil ?_
      refine JE.weak (env' := [(8, .slice ha16 x15.length hc17), (9, .slice a25 x24.length cp26), (10, .int .i64 x23), (33, .bool x27)]) (es' := [rowT 104 eHd a9 x8.length cp10 hs12, innO 4 eBool none hs12 x8, rowT 2 eI64 a25 x24.length cp26 x24]) [0, 1, 2] ?_ ⟨rfl, rfl, rfl, rfl, trivial⟩ (by decide) rfl
      refine JE.code ?_
      obtain ⟨j28, hj28, hresj28⟩ := bind_some hres
      refine JX.cut (K := fun J => ∀ (a29 : Option Addr) (cp30 : Nat), J [(8, .slice ha16 x15.length hc17), (9, .slice a29 j28.length cp30), (10, .int .i64 x23)] [rowT 104 eHd a9 x8.length cp10 hs12, innO 4 eBool none hs12 x8, rowT 2 eI64 a29 j28.length cp30 j28]) ?_ ?_
      · intro a29 cp30
        have hres := hresj28
        refine JE.code ?_
        refine JX.region ?_
        refine JL.val (yl_move rfl) rfl ?_
        refine JL.val (yl_add rfl rfl) rfl ?_
        refine JL.val (yl_assign rfl) rfl ?_
        refine JL.nil ?_
        refine JE.cont hres ?_
        exact fun a w h => ⟨a29, cp30, h.weak ⟨rfl, rfl, rfl, trivial⟩ [0, 1, 2] (by decide) rfl⟩
      · intro K
        rcases cond_some hj28 with ⟨hb, hres⟩ | ⟨hb, hres⟩
        · refine JX.condT rfl hb ?_
          refine JX.region ?_
          refine JL.val (yl_move rfl) rfl ?_
          refine JL.val (yl_move rfl) rfl ?_
          refine JL.eff (ef_buildSlice (E := 2) (k := eI64.k) (us := eI64.fl [x23]) rfl (fun w => bsl22_1 x23 w) rfl (by decide)) rfl ?_
          rintro _ _ ⟨a31, rfl, rfl⟩
          obtain ⟨x33, hx33, hres⟩ := bind_some hres
          refine JL.eff (ef_appendT (ix := 2) Go.Proofs.Try.underlying22 i2 i2z i2s rfl i2b0 i2b1 rfl rfl rfl rfl rfl (fun w hC => rd_row hC 3 rfl) hx33) rfl ?_
          rintro _ _ ⟨a34, cp35, rfl, rfl⟩
          refine JL.val (yl_assign rfl) rfl ?_
          refine JL.nil ?_
          refine JE.weak (env' := [(8, .slice ha16 x15.length hc17), (9, .slice a34 x33.length cp35), (10, .int .i64 x23)]) (es' := [rowT 104 eHd a9 x8.length cp10 hs12, innO 4 eBool none hs12 x8, rowT 2 eI64 a34 x33.length cp35 x33]) [0, 1, 2] ?_ ⟨rfl, rfl, rfl, trivial⟩ (by decide) rfl
          have hj := Option.some.inj hres
          exact JE.weak [0, 1, 2] (K a34 cp35) ⟨(by subst hj; rfl), (by subst hj; rfl), (by subst hj; rfl), trivial⟩ (by decide) (by subst hj; rfl)
        · refine JX.condF rfl hb ?_
          refine JX.skip ?_
          have hj := Option.some.inj hres
          exact JE.weak [0, 1, 2] (K a25 cp26) ⟨(by subst hj; rfl), (by subst hj; rfl), (by subst hj; rfl), trivial⟩ (by decide) (by subst hj; rfl)
    · refine JX.condF rfl hb ?_
      refine JX.exit ?_
      refine JE.qb rfl ?_
      obtain ⟨b1, hb1⟩ : ∃ b : List Int, b = x24 := ⟨_, rfl⟩
      have hy1 : b1 = y1 := by rw [hb1]; exact hox1 _ (Option.some.inj hres).symm
      have hres := hresO1
      rw [← hy1] at hres
      refine JE.weak (env' := [(9, .slice a25 b1.length cp26)]) (es' := [rowT 2 eI64 a25 b1.length cp26 b1]) [2] ?_ ⟨(by subst hb1; rfl), trivial⟩ (by decide) (by subst hb1; rfl)
      refine JE.code ?_
      refine JX.seq ?_
      refine JX.region ?_
      refine JL.val (yl_move rfl) rfl ?_
      refine JL.val (yl_assign rfl) rfl ?_
      refine JL.val (yl_assign rfl) rfl ?_
      refine JL.nil ?_
      refine JE.code ?_
      refine JX.ret ?_
      obtain rfl := Option.some.inj hres
      refine JE.ret (rs := [.tmp 4, .tmp 5]) (vs := [.slice a25 b1.length cp26, .int .i64 0]) rfl ⟨rfl, rfl, trivial⟩ ?_
      exact fun w' hb hs => ⟨_, _, ⟨a25, b1.length, cp26, rfl, rfl, rfl⟩, rfl, hb, hs.sel [0] _ (by decide) rfl⟩

/- impl.curveCode -/
def sh102_1 (q0 : SPanel) (q1 : List Int) : Int → Option (Int ⊕ (Unit ⊕ Int))
  | x4 => bif decide (x4 < (q1.length : Int)) then (Option.bind (getI q1 x4) fun x5 => Option.bind (sh118 q0) fun x6 => Option.bind (sh125 x5 0 (w64 (x6 - 1))) fun x7 => bif !x7 then (some (.inr (.inr 2))) else (some (.inl (w64 (x4 + 1))))) else (some (.inr (.inl ())))
def sh102 (q0 : SPanel) (q1 : List Int) : Option (Int) := Option.bind (sh86 q0) fun x3 => bif !x3 then (some 1) else (Option.bind (iter (sh102_1 q0 q1) 0) fun y1 => elimS y1 (fun r => some r) fun b1 => (some 0))
def T102 (r : Int) (v : Value) (rs : List Own) : Prop := v = rets [.int .i64 r] ∧ rs = []
set_option maxRecDepth 100000 in
theorem c102 {w : World} {q0 : SPanel} {a_0_2 : Option Addr} {n_0_2 c_0_2 : Nat} (g_0_2 : Rd w a_0_2 (eI64.fl q0.Breaks)) (l_0_2 : q0.Breaks.length = n_0_2) (k_0_2 : n_0_2 ≤ c_0_2) {q1 : List Int} {a_1 : Option Addr} {n_1 c_1 : Nat} (g_1 : Rd w a_1 (eI64.fl q1)) (l_1 : q1.length = n_1) (k_1 : n_1 ≤ c_1) {r : Int} (hres : sh102 q0 q1 = some r) : Calls Go.Proofs.Try.prog 102 [.agg #[.int .i64 q0.W, .int .i64 q0.H, .slice a_0_2 n_0_2 c_0_2], .slice a_1 n_1 c_1].toArray w (Ret w (T102 r)) := by
  subst l_0_2
  subst l_1
  unfold sh102 at hres
  refine calls_of (n := 23) (M := []) (es := []) Go.Proofs.Try.func102 rfl rfl rfl (Sep.nil _ _ _) ?_
  refine JX.seq ?_
  refine JX.region ?_
  refine JL.eff (ef_box rfl rfl) rfl ?_
  rintro _ _ ⟨g1, rfl, rfl⟩
  refine JL.val (yl_assign rfl) rfl ?_
  refine JL.nil ?_
  refine JE.code ?_
  refine JX.seq ?_
  refine JX.seq ?_
  refine JX.region ?_
  refine JL.val (yl_loadn Go.Proofs.Try.underlying28 rfl i28 rfl (fun w hC => rd_box hC 0 rfl) rfl (i28s).symm i28p) rfl ?_
  obtain ⟨x3, hx3, hres⟩ := bind_some hres
  refine JL.eff (ef_call (vs := [.agg #[.int .i64 q0.W, .int .i64 q0.H, .slice a_0_2 q0.Breaks.length c_0_2]]) (T := T86 x3) Go.Proofs.Try.func86 rfl (by kernel_rfl) rfl (fun w hC => c86 (q0 := q0) (rd_arg g_0_2 hC) rfl k_0_2 hx3)) rfl ?_
  rintro _ _ ⟨_, ⟨rfl, rfl⟩, rfl⟩
  refine JL.val (yl_not rfl) rfl ?_
  refine JL.nil ?_
  refine JE.code ?_
  rcases cond_some hres with ⟨hb, hres⟩ | ⟨hb, hres⟩
  · refine JX.condT rfl hb ?_
    refine JX.seq ?_
    refine JX.region ?_
    refine JL.val (yl_assign rfl) rfl ?_
    refine JL.nil ?_
    refine JE.weak (env' := [(4, .int .i64 1)]) (es' := []) [] ?_ ⟨rfl, trivial⟩ (by decide) rfl
    refine JE.code ?_
    refine JX.ret ?_
    obtain rfl := Option.some.inj hres
    refine JE.ret (rs := [.tmp 4]) (vs := [.int .i64 1]) rfl ⟨rfl, trivial⟩ ?_
    exact fun w' hb hs => ⟨_, _, ⟨rfl, rfl⟩, rfl, hb, hs.sel [] _ (by decide) rfl⟩
  · refine JX.condF rfl hb ?_
    refine JX.skip ?_
    refine JE.code ?_
    refine JX.seq ?_
    refine JX.seq ?_
    refine JX.region ?_
    refine JL.val (yl_move rfl) rfl ?_
    refine JL.val (yl_len_slice Go.Proofs.Try.underlying22 rfl) rfl ?_
    refine JL.val (yl_move rfl) rfl ?_
    refine JL.nil ?_
    refine JE.code ?_
    refine JX.block ?_
    obtain ⟨y1, hy1, hresO1⟩ := bind_some hres
    refine JX.loop (I := fun (s1 : Int) aa ww => St w [] 23 [(2, ptrAt (some ⟨g1, 0, none⟩) 0), (10, .slice a_1 q1.length c_1), (11, .int .i64 (q1.length : Int)), (12, .int .i64 s1)] [boxO 28 g1 [.int .i64 q0.W, .int .i64 q0.H, .slice a_0_2 q0.Breaks.length c_0_2]] aa ww) (sh102_1 q0 q1) hy1 (fun a w h => h.weak ⟨rfl, rfl, rfl, rfl, trivial⟩ [0] (by decide) rfl) ?_
    rintro x4 o1 hres hox1 aa ww hS
    refine (?_ : JX Go.Proofs.Try.prog w [] 23 _ _ [(2, ptrAt (some ⟨g1, 0, none⟩) 0), (10, .slice a_1 q1.length c_1), (11, .int .i64 (q1.length : Int)), (12, .int .i64 x4)] [boxO 28 g1 [.int .i64 q0.W, .int .i64 q0.H, .slice a_0_2 q0.Breaks.length c_0_2]] _) aa ww hS
    clear hS
    unfold sh102_1 at hres
    refine JX.seq ?_
    refine JX.region ?_
    refine JL.val (yl_lss rfl rfl) rfl ?_
    refine JL.nil ?_
    refine JE.code ?_
    refine JX.seq ?_
    rcases cond_some hres with ⟨hb, hres⟩ | ⟨hb, hres⟩
    · refine JX.condT rfl hb ?_
      refine JX.skip ?_
      refine JE.code ?_
      refine JX.seq ?_
      refine JX.block ?_
      refine JX.seq ?_
      refine JX.region ?_
      obtain ⟨x5, hx5, hres⟩ := bind_some hres
      refine JL.val (yl_idxT Go.Proofs.Try.underlying22 i2 i2s rfl rfl hx5 rfl (fun w hC => rd_arg g_1 hC)) rfl ?_
      refine JL.val (yl_loadT0 Go.Proofs.Try.underlying2 rfl rfl hx5 (fun w hC => rd_arg g_1 hC) rfl) rfl ?_
      refine JL.val (yl_assign rfl) rfl ?_
      refine JL.nil ?_
      refine JE.code ?_
      refine JX.seq ?_
      refine JX.region ?_
      refine JL.val (yl_move rfl) rfl ?_
      refine JL.val (yl_loadn Go.Proofs.Try.underlying28 rfl i28 rfl (fun w hC => rd_box hC 0 rfl) rfl (i28s).symm i28p) rfl ?_
      obtain ⟨x6, hx6, hres⟩ := bind_some hres
      refine JL.eff (ef_call (vs := [.agg #[.int .i64 q0.W, .int .i64 q0.H, .slice a_0_2 q0.Breaks.length c_0_2]]) (T := T118 x6) Go.Proofs.Try.func118 rfl (by kernel_rfl) rfl (fun w hC => c118 (q0 := q0) (rd_arg g_0_2 hC) rfl k_0_2 hx6)) rfl ?_
      rintro _ _ ⟨_, ⟨rfl, rfl⟩, rfl⟩
      refine JL.val (yl_sub rfl rfl) rfl ?_
      obtain ⟨x7, hx7, hres⟩ := bind_some hres
      refine JL.eff (ef_call (T := T125 x7) Go.Proofs.Try.func125 rfl (by kernel_rfl) rfl (fun w hC => c125  hx7)) rfl ?_
      rintro _ _ ⟨_, ⟨rfl, rfl⟩, rfl⟩
      refine JL.val (yl_not rfl) rfl ?_
      refine JL.nil ?_
      refine JE.weak (env' := [(2, ptrAt (some ⟨g1, 0, none⟩) 0), (10, .slice a_1 q1.length c_1), (11, .int .i64 (q1.length : Int)), (12, .int .i64 x4), (21, .bool !x7)]) (es' := [boxO 28 g1 [.int .i64 q0.W, .int .i64 q0.H, .slice a_0_2 q0.Breaks.length c_0_2]]) [0] ?_ ⟨rfl, rfl, rfl, rfl, rfl, trivial⟩ (by decide) rfl
      refine JE.code ?_
      rcases cond_some hres with ⟨hb, hres⟩ | ⟨hb, hres⟩
      · refine JX.condT rfl hb ?_
        refine JX.seq ?_
        refine JX.region ?_
        refine JL.val (yl_assign rfl) rfl ?_
        refine JL.nil ?_
        refine JE.weak (env' := [(4, .int .i64 2)]) (es' := []) [] ?_ ⟨rfl, trivial⟩ (by decide) rfl
        refine JE.code ?_
        refine JX.ret ?_
        refine JE.qbr ?_
        refine JE.qbr ?_
        have hres := elimS_inr hresO1 (hox1 _ (Option.some.inj hres).symm)
        obtain rfl := Option.some.inj hres
        refine JE.ret (rs := [.tmp 4]) (vs := [.int .i64 2]) rfl ⟨rfl, trivial⟩ ?_
        exact fun w' hb hs => ⟨_, _, ⟨rfl, rfl⟩, rfl, hb, hs.sel [] _ (by decide) rfl⟩
      · refine JX.condF rfl hb ?_
        refine JX.skip ?_
        refine JE.code ?_
        refine JX.region ?_
        refine JL.val (yl_add rfl rfl) rfl ?_
        refine JL.val (yl_move rfl) rfl ?_
        refine JL.nil ?_
        refine JE.cont hres ?_
        exact fun a w h => h.weak ⟨rfl, rfl, rfl, rfl, trivial⟩ [0] (by decide) rfl
    · refine JX.condF rfl hb ?_
      refine JX.exit ?_
      refine JE.qb rfl ?_
      obtain ⟨b1, hb1⟩ : ∃ b : Unit, b = () := ⟨_, rfl⟩
      have hy1 : Sum.inl b1 = y1 := by rw [hb1]; exact hox1 _ (Option.some.inj hres).symm
      have hres := elimS_inl hresO1 hy1
      refine JE.weak (env' := []) (es' := []) [] ?_ trivial (by decide) (by subst hb1; rfl)
      refine JE.code ?_
      refine JX.seq ?_
      refine JX.region ?_
      refine JL.val (yl_assign rfl) rfl ?_
      refine JL.nil ?_
      refine JE.code ?_
      refine JX.ret ?_
      obtain rfl := Option.some.inj hres
      refine JE.ret (rs := [.tmp 4]) (vs := [.int .i64 0]) rfl ⟨rfl, trivial⟩ ?_
      exact fun w' hb hs => ⟨_, _, ⟨rfl, rfl⟩, rfl, hb, hs.sel [] _ (by decide) rfl⟩

/- impl.CurveNeighbours -/
def sh40_1 (x16 : List Bool) : (Int × List Int) → Option ((Int × List Int) ⊕ (List Int))
  | (x22, x23) => bif decide (x22 < (x16.length : Int)) then (Option.bind (getI x16 x22) fun x26 => Option.bind (bif x26 then (Option.bind (appL x23 [x22]) fun x32 => some x32) else (some x23)) fun j27 => (some (.inl (w64 (x22 + 1), j27)))) else (some (.inr x23))
def sh40 (q0 : SPanel) (q1 : Int) : Option (List Int × Int) := Option.bind (sh102 q0 [q1]) fun x5 => bif x5 != 0 then (some (([] : List Int), x5)) else (Option.bind (sh98 q0) fun x9 => Option.bind (getI x9 q1) fun x16 => Option.bind (iter (sh40_1 x16) (0, ([] : List Int))) fun b1 => (some (b1, 0)))
def T40 (r : List Int × Int) (v : Value) (rs : List Own) : Prop := ∃ (a0 : Option Addr) (n0 c0 : Nat), r.1.length = n0 ∧ v = rets [.slice a0 n0 c0, .int .i64 r.2] ∧ rs = [rowT 2 eI64 a0 n0 c0 r.1]
set_option maxRecDepth 100000 in
theorem c40 {w : World} {q0 : SPanel} {a_0_2 : Option Addr} {n_0_2 c_0_2 : Nat} (g_0_2 : Rd w a_0_2 (eI64.fl q0.Breaks)) (l_0_2 : q0.Breaks.length = n_0_2) (k_0_2 : n_0_2 ≤ c_0_2) {q1 : Int} {r : List Int × Int} (hres : sh40 q0 q1 = some r) : Calls Go.Proofs.Try.prog 40 [.agg #[.int .i64 q0.W, .int .i64 q0.H, .slice a_0_2 n_0_2 c_0_2], .int .i64 q1].toArray w (Ret w (T40 r)) := by
  subst l_0_2
  unfold sh40 at hres
  refine calls_of (n := 36) (M := []) (es := []) Go.Proofs.Try.func40 rfl rfl rfl (Sep.nil _ _ _) ?_
  refine JX.seq ?_
  refine JX.region ?_
  refine JL.eff (ef_box rfl rfl) rfl ?_
  rintro _ _ ⟨g1, rfl, rfl⟩
  refine JL.val (yl_assign rfl) rfl ?_
  refine JL.val (yl_assign rfl) rfl ?_
  refine JL.nil ?_
  refine JE.code ?_
  refine JX.seq ?_
  refine JX.seq ?_
  refine JX.region ?_
  refine JL.val (yl_loadn Go.Proofs.Try.underlying28 rfl i28 rfl (fun w hC => rd_box hC 0 rfl) rfl (i28s).symm i28p) rfl ?_
  refine JL.val (yl_move rfl) rfl ?_
  refine JL.eff (ef_buildSlice (E := 2) (k := eI64.k) (us := eI64.fl [q1]) rfl (fun w => bsl22_1 q1 w) rfl (by decide)) rfl ?_
  rintro _ _ ⟨a3, rfl, rfl⟩
  obtain ⟨x5, hx5, hres⟩ := bind_some hres
  refine JL.eff (ef_call (vs := [.agg #[.int .i64 q0.W, .int .i64 q0.H, .slice a_0_2 q0.Breaks.length c_0_2], .slice a3 1 1]) (T := T102 x5) Go.Proofs.Try.func102 rfl (by kernel_rfl) rfl (fun w hC => c102 (q0 := q0) (rd_arg g_0_2 hC) rfl k_0_2 (rd_row hC 1 rfl) rfl (Nat.le_refl _) hx5)) rfl ?_
  rintro _ _ ⟨_, ⟨rfl, rfl⟩, rfl⟩
  refine JL.val (yl_assign rfl) rfl ?_
  refine JL.nil ?_
  refine JE.weak (env' := [(1, .int .i64 q1), (2, ptrAt (some ⟨g1, 0, none⟩) 0), (6, .int .i64 x5)]) (es' := [boxO 28 g1 [.int .i64 q0.W, .int .i64 q0.H, .slice a_0_2 q0.Breaks.length c_0_2]]) [0] ?_ ⟨rfl, rfl, rfl, trivial⟩ (by decide) rfl
  refine JE.code ?_
  refine JX.seq ?_
  refine JX.region ?_
  refine JL.val (yl_move rfl) rfl ?_
  refine JL.val (yl_neq rfl rfl) rfl ?_
  refine JL.nil ?_
  refine JE.code ?_
  rcases cond_some hres with ⟨hb, hres⟩ | ⟨hb, hres⟩
  · refine JX.condT rfl hb ?_
    refine JX.seq ?_
    refine JX.region ?_
    refine JL.val (yl_move rfl) rfl ?_
    refine JL.val (yl_assign rfl) rfl ?_
    refine JL.val (yl_assign rfl) rfl ?_
    refine JL.nil ?_
    refine JE.weak (env' := [(4, .slice none 0 0), (5, .int .i64 x5)]) (es' := []) [] ?_ ⟨rfl, rfl, trivial⟩ (by decide) rfl
    refine JE.code ?_
    refine JX.ret ?_
    refine JE.nilrow 2 eI64 ?_
    obtain rfl := Option.some.inj hres
    refine JE.ret (rs := [.tmp 4, .tmp 5]) (vs := [.slice none 0 0, .int .i64 x5]) rfl ⟨rfl, rfl, trivial⟩ ?_
    exact fun w' hb hs => ⟨_, _, ⟨none, 0, 0, rfl, rfl, rfl⟩, rfl, hb, hs.sel [0] _ (by decide) rfl⟩
  · refine JX.condF rfl hb ?_
    refine JX.skip ?_
    refine JE.code ?_
    refine JX.seq ?_
    refine JX.region ?_
    refine JL.eff (ef_buildSlice (E := 2) (k := eI64.k) (us := eI64.fl ([] : List Int)) rfl (fun w => bsl22_0  w) rfl (by decide)) rfl ?_
    rintro _ _ ⟨a7, rfl, rfl⟩
    refine JL.val (yl_assign rfl) rfl ?_
    refine JL.nil ?_
    refine JE.code ?_
    refine JX.seq ?_
    refine JX.seq ?_
    refine JX.region ?_
    refine JL.val (yl_loadn Go.Proofs.Try.underlying28 rfl i28 rfl (fun w hC => rd_box hC 0 rfl) rfl (i28s).symm i28p) rfl ?_
    obtain ⟨x9, hx9, hres⟩ := bind_some hres
    refine JL.eff (ef_call (vs := [.agg #[.int .i64 q0.W, .int .i64 q0.H, .slice a_0_2 q0.Breaks.length c_0_2]]) (T := T98 x9) Go.Proofs.Try.func98 rfl (by kernel_rfl) rfl (fun w hC => c98 (q0 := q0) (rd_arg g_0_2 hC) rfl k_0_2 hx9)) rfl ?_
    rintro _ _ ⟨_, ⟨a10, _, cp11, hs13, rfl, hi14, rfl, rfl⟩, rfl⟩
    refine JL.val (yl_move rfl) rfl ?_
    obtain ⟨x16, hx16, hres⟩ := bind_some hres
    obtain ⟨ha17, hc18, hhx16⟩ := Inn.sub hi14 hx16
    refine JL.val (yl_idxT Go.Proofs.Try.underlying99 i104 i104s rfl rfl hhx16 (Inn.len hi14) (fun w hC => rd_row hC 2 rfl)) rfl ?_
    refine JL.val (yl_loadT0 (z := ⟨ha17, x16.length, hc18⟩) Go.Proofs.Try.underlying104 rfl rfl hhx16 (fun w hC => rd_row hC 2 rfl) rfl) rfl ?_
    refine JL.val (yl_len_slice Go.Proofs.Try.underlying104 rfl) rfl ?_
    refine JL.val (yl_move rfl) rfl ?_
    refine JL.nil ?_
    refine JE.weak (env' := [(7, .slice a7 0 0), (22, .slice ha17 x16.length hc18), (23, .int .i64 (x16.length : Int)), (24, .int .i64 0)]) (es' := [rowT 2 eI64 a7 0 0 ([] : List Int), rowT 104 eHd a10 x9.length cp11 hs13, innO 4 eBool none hs13 x9]) [1, 2, 3] ?_ ⟨rfl, rfl, rfl, rfl, trivial⟩ (by decide) rfl
    refine JE.code ?_
    refine JX.block ?_
    obtain ⟨y1, hy1, hresO1⟩ := bind_some hres
    refine JX.loop (I := fun (s1 : Int × List Int) aa ww => ∃ (a20 : Option Addr) (cp21 : Nat), St w [] 36 [(7, .slice a20 s1.2.length cp21), (22, .slice ha17 x16.length hc18), (23, .int .i64 (x16.length : Int)), (24, .int .i64 s1.1)] [rowT 2 eI64 a20 s1.2.length cp21 s1.2, rowT 104 eHd a10 x9.length cp11 hs13, innO 4 eBool none hs13 x9] aa ww) (sh40_1 x16) hy1 (fun a w h => ⟨a7, 0, h.weak ⟨rfl, rfl, rfl, rfl, trivial⟩ [0, 1, 2] (by decide) rfl⟩) ?_
    rintro ⟨x22, x23⟩ o1 hres hox1 aa ww ⟨a24, cp25, hS⟩
    refine (?_ : JX Go.Proofs.Try.prog w [] 36 _ _ [(7, .slice a24 x23.length cp25), (22, .slice ha17 x16.length hc18), (23, .int .i64 (x16.length : Int)), (24, .int .i64 x22)] [rowT 2 eI64 a24 x23.length cp25 x23, rowT 104 eHd a10 x9.length cp11 hs13, innO 4 eBool none hs13 x9] _) aa ww hS
    clear hS
    simp only [sh40_1] at hres
    refine JX.seq ?_
    refine JX.region ?_
    refine JL.val (yl_lss rfl rfl) rfl ?_
    refine JL.nil ?_
    refine JE.code ?_
    refine JX.seq ?_
    rcases cond_some hres with ⟨hb, hres⟩ | ⟨hb, hres⟩
    · refine JX.condT rfl hb ?_
      refine JX.skip ?_
      refine JE.code ?_
      refine JX.seq ?_
      refine JX.block ?_
      refine JX.seq ?_
      refine JX.region ?_
      refine JL.val (yl_move rfl) rfl ?_
      obtain ⟨x26, hx26, hres⟩ := bind_some hres
      refine JL.val (yl_idxT Go.Proofs.Try.underlying104 i4 i4s rfl rfl hx26 rfl (fun w hC => (RdI.sub (rd_inn hC 2 rfl) hx16 hhx16))) rfl ?_
      refine JL.val (yl_loadT0 Go.Proofs.Try.underlying4 rfl rfl hx26 (fun w hC => (RdI.sub (rd_inn hC 2 rfl) hx16 hhx16)) rfl) rfl ?_
      refine JL.val (yl_assign rfl) rfl ?_
      refine JL.val (yl_assign rfl) rfl ?_
      refine JL.nil ?_
      refine JE.weak (env' := [(7, .slice a24 x23.length cp25), (8, .int .i64 x22), (9, .bool x26), (22, .slice ha17 x16.length hc18), (23, .int .i64 (x16.length : Int)), (24, .int .i64 x22)]) (es' := [rowT 2 eI64 a24 x23.length cp25 x23, rowT 104 eHd a10 x9.length cp11 hs13, innO 4 eBool none hs13 x9]) [0, 1, 2] ?_ ⟨rfl, rfl, rfl, rfl, rfl, rfl, trivial⟩ (by decide) rfl
      refine JE.code ?_
      refine JX.seq ?_
      refine JX.region ?_
      refine JL.val (yl_move rfl) rfl ?_
      refine JL.nil ?_
      refine JE.code ?_
      obtain ⟨j27, hj27, hresj27⟩ := bind_some hres
      refine JX.cut (K := fun J => ∀ (a28 : Option Addr) (cp29 : Nat), J [(7, .slice a28 j27.length cp29), (22, .slice ha17 x16.length hc18), (23, .int .i64 (x16.length : Int)), (24, .int .i64 x22)] [rowT 2 eI64 a28 j27.length cp29 j27, rowT 104 eHd a10 x9.length cp11 hs13, innO 4 eBool none hs13 x9]) ?_ ?_
      · intro a28 cp29
        have hres := hresj27
        refine JE.code ?_
        refine JX.region ?_
        refine JL.val (yl_add rfl rfl) rfl ?_
        refine JL.val (yl_move rfl) rfl ?_
        refine JL.nil ?_
        refine JE.cont hres ?_
        exact fun a w h => ⟨a28, cp29, h.weak ⟨rfl, rfl, rfl, rfl, trivial⟩ [0, 1, 2] (by decide) rfl⟩
      · intro K
        rcases cond_some hj27 with ⟨hb, hres⟩ | ⟨hb, hres⟩
        · refine JX.condT rfl hb ?_
          refine JX.region ?_
          refine JL.val (yl_move rfl) rfl ?_
          refine JL.val (yl_move rfl) rfl ?_
          refine JL.eff (ef_buildSlice (E := 2) (k := eI64.k) (us := eI64.fl [x22]) rfl (fun w => bsl22_1 x22 w) rfl (by decide)) rfl ?_
          rintro _ _ ⟨a30, rfl, rfl⟩
          obtain ⟨x32, hx32, hres⟩ := bind_some hres
          refine JL.eff (ef_appendT (ix := 0) Go.Proofs.Try.underlying22 i2 i2z i2s rfl i2b0 i2b1 rfl rfl rfl rfl rfl (fun w hC => rd_row hC 3 rfl) hx32) rfl ?_
          rintro _ _ ⟨a33, cp34, rfl, rfl⟩
          refine JL.val (yl_assign rfl) rfl ?_
          refine JL.nil ?_
          refine JE.weak (env' := [(7, .slice a33 x32.length cp34), (22, .slice ha17 x16.length hc18), (23, .int .i64 (x16.length : Int)), (24, .int .i64 x22)]) (es' := [rowT 2 eI64 a33 x32.length cp34 x32, rowT 104 eHd a10 x9.length cp11 hs13, innO 4 eBool none hs13 x9]) [0, 1, 2] ?_ ⟨rfl, rfl, rfl, rfl, trivial⟩ (by decide) rfl
          have hj := Option.some.inj hres
          exact JE.weak [0, 1, 2] (K a33 cp34) ⟨(by subst hj; rfl), (by subst hj; rfl), (by subst hj; rfl), (by subst hj; rfl), trivial⟩ (by decide) (by subst hj; rfl)
        · refine JX.condF rfl hb ?_
          refine JX.skip ?_
          have hj := Option.some.inj hres
          exact JE.weak [0, 1, 2] (K a24 cp25) ⟨(by subst hj; rfl), (by subst hj; rfl), (by subst hj; rfl), (by subst hj; rfl), trivial⟩ (by decide) (by subst hj; rfl)
    · refine JX.condF rfl hb ?_
      refine JX.exit ?_
      refine JE.qb rfl ?_
      obtain ⟨b1, hb1⟩ : ∃ b : List Int, b = x23 := ⟨_, rfl⟩
      have hy1 : b1 = y1 := by rw [hb1]; exact hox1 _ (Option.some.inj hres).symm
      have hres := hresO1
      rw [← hy1] at hres
      refine JE.weak (env' := [(7, .slice a24 b1.length cp25)]) (es' := [rowT 2 eI64 a24 b1.length cp25 b1]) [0] ?_ ⟨(by subst hb1; rfl), trivial⟩ (by decide) (by subst hb1; rfl)
      refine JE.code ?_
      refine JX.seq ?_
      refine JX.region ?_
      refine JL.val (yl_move rfl) rfl ?_
      refine JL.val (yl_assign rfl) rfl ?_
      refine JL.val (yl_assign rfl) rfl ?_
      refine JL.nil ?_
      refine JE.code ?_
      refine JX.ret ?_
      obtain rfl := Option.some.inj hres
      refine JE.ret (rs := [.tmp 4, .tmp 5]) (vs := [.slice a24 b1.length cp25, .int .i64 0]) rfl ⟨rfl, rfl, trivial⟩ ?_
      exact fun w' hb hs => ⟨_, _, ⟨a24, b1.length, cp25, rfl, rfl, rfl⟩, rfl, hb, hs.sel [0] _ (by decide) rfl⟩

/- spec.l00Max -/
def sh129 (q0 : Int) (q1 : Int) : Option (Int) := bif decide (q1 < q0) then (some q0) else (some q1)
def T129 (r : Int) (v : Value) (rs : List Own) : Prop := v = rets [.int .i64 r] ∧ rs = []
set_option maxRecDepth 100000 in
theorem c129 {w : World} {q0 : Int} {q1 : Int} {r : Int} (hres : sh129 q0 q1 = some r) : Calls Go.Proofs.Try.prog 129 [.int .i64 q0, .int .i64 q1].toArray w (Ret w (T129 r)) := by
  unfold sh129 at hres
  refine calls_of (n := 10) (M := []) (es := []) Go.Proofs.Try.func129 rfl rfl rfl (Sep.nil _ _ _) ?_
  refine JX.seq ?_
  refine JX.region ?_
  refine JL.val (yl_assign rfl) rfl ?_
  refine JL.nil ?_
  refine JE.code ?_
  refine JX.seq ?_
  refine JX.seq ?_
  refine JX.region ?_
  refine JL.val (yl_move rfl) rfl ?_
  refine JL.val (yl_move rfl) rfl ?_
  refine JL.val (yl_gtr rfl rfl) rfl ?_
  refine JL.nil ?_
  refine JE.code ?_
  rcases cond_some hres with ⟨hb, hres⟩ | ⟨hb, hres⟩
  · refine JX.condT rfl hb ?_
    refine JX.seq ?_
    refine JX.region ?_
    refine JL.val (yl_move rfl) rfl ?_
    refine JL.val (yl_assign rfl) rfl ?_
    refine JL.nil ?_
    refine JE.code ?_
    refine JX.ret ?_
    obtain rfl := Option.some.inj hres
    refine JE.ret (rs := [.tmp 4]) (vs := [.int .i64 q0]) rfl ⟨rfl, trivial⟩ ?_
    exact fun w' hb hs => ⟨_, _, ⟨rfl, rfl⟩, rfl, hb, hs.sel [] _ (by decide) rfl⟩
  · refine JX.condF rfl hb ?_
    refine JX.skip ?_
    refine JE.code ?_
    refine JX.seq ?_
    refine JX.region ?_
    refine JL.val (yl_move rfl) rfl ?_
    refine JL.val (yl_assign rfl) rfl ?_
    refine JL.nil ?_
    refine JE.code ?_
    refine JX.ret ?_
    obtain rfl := Option.some.inj hres
    refine JE.ret (rs := [.tmp 4]) (vs := [.int .i64 q1]) rfl ⟨rfl, trivial⟩ ?_
    exact fun w' hb hs => ⟨_, _, ⟨rfl, rfl⟩, rfl, hb, hs.sel [] _ (by decide) rfl⟩

/- spec.l00Own -/
def sh158 (q0 : List Int) : Option (List Int) := Option.bind (appL ([] : List Int) q0) fun x3 => some x3
def T158 (r : List Int) (v : Value) (rs : List Own) : Prop := ∃ (a0 : Option Addr) (n0 c0 : Nat), r.length = n0 ∧ v = rets [.slice a0 n0 c0] ∧ rs = [rowT 2 eI64 a0 n0 c0 r]
set_option maxRecDepth 100000 in
theorem c158 {w : World} {q0 : List Int} {a_0 : Option Addr} {n_0 c_0 : Nat} (g_0 : Rd w a_0 (eI64.fl q0)) (l_0 : q0.length = n_0) (k_0 : n_0 ≤ c_0) {r : List Int} (hres : sh158 q0 = some r) : Calls Go.Proofs.Try.prog 158 [.slice a_0 n_0 c_0].toArray w (Ret w (T158 r)) := by
  subst l_0
  unfold sh158 at hres
  refine calls_of (n := 6) (M := []) (es := []) Go.Proofs.Try.func158 rfl rfl rfl (Sep.nil _ _ _) ?_
  refine JX.seq ?_
  refine JX.region ?_
  refine JL.val (yl_assign rfl) rfl ?_
  refine JL.nil ?_
  refine JE.code ?_
  refine JX.seq ?_
  refine JX.region ?_
  refine JL.eff (ef_buildSlice (E := 2) (k := eI64.k) (us := eI64.fl ([] : List Int)) rfl (fun w => bsl22_0  w) rfl (by decide)) rfl ?_
  rintro _ _ ⟨a1, rfl, rfl⟩
  refine JL.val (yl_move rfl) rfl ?_
  obtain ⟨x3, hx3, hres⟩ := bind_some hres
  refine JL.eff (ef_appendT (ix := 0) Go.Proofs.Try.underlying22 i2 i2z i2s rfl i2b0 i2b1 rfl rfl rfl rfl rfl (fun w hC => rd_arg g_0 hC) hx3) rfl ?_
  rintro _ _ ⟨a4, cp5, rfl, rfl⟩
  refine JL.val (yl_assign rfl) rfl ?_
  refine JL.nil ?_
  refine JE.weak (env' := [(2, .slice a4 x3.length cp5)]) (es' := [rowT 2 eI64 a4 x3.length cp5 x3]) [0] ?_ ⟨rfl, trivial⟩ (by decide) rfl
  refine JE.code ?_
  refine JX.ret ?_
  obtain rfl := Option.some.inj hres
  refine JE.ret (rs := [.tmp 2]) (vs := [.slice a4 x3.length cp5]) rfl ⟨rfl, trivial⟩ ?_
  exact fun w' hb hs => ⟨_, _, ⟨a4, x3.length, cp5, rfl, rfl, rfl⟩, rfl, hb, hs.sel [0] _ (by decide) rfl⟩

/- spec.l21Can -/
def sh103_2 (q0 : List (List Bool)) (q1 : List Int) (x1 : Int) : (Bool × Int) → Option ((Bool × Int) ⊕ (Bool))
  | (x2, x3) => bif decide (x3 < (q1.length : Int)) then (Option.bind (bif x2 then (Option.bind (getI q0 (q1.length : Int)) fun x5 => Option.bind (getI x5 x3) fun x9 => Option.bind (bif x9 then (Option.bind (getI q1 x3) fun x11 => some (x11 == x1)) else (some false)) fun cb10 => (some !cb10)) else (some false)) fun cb4 => (some (.inl (cb4, w64 (x3 + 1))))) else (some (.inr x2))
def sh103_1 (q0 : List (List Bool)) (q1 : List Int) (q2 : Int) (q3 : Int) (rc : (List (List Bool)) → (List Int) → Int → Int → Option (Bool)) : Int → Option (Int ⊕ (Unit ⊕ Bool))
  | x1 => bif (decide (x1 < q2)) && (decide (x1 ≤ q3)) then (Option.bind (iter (sh103_2 q0 q1 x1) (true, 0)) fun b2 => (Option.bind (bif b2 then (Option.bind (sh158 q1) fun x13 => Option.bind (appL x13 [x1]) fun x19 => Option.bind (sh129 q3 (w64 (x1 + 1))) fun x22 => Option.bind (rc q0 x19 q2 x22) fun x23 => some x23) else (some false)) fun cb12 => (bif cb12 then (some (.inr (.inr true))) else (some (.inl (w64 (x1 + 1))))))) else (some (.inr (.inl ())))
def sh103B (rc : (List (List Bool)) → (List Int) → Int → Int → Option (Bool)) (q0 : List (List Bool)) (q1 : List Int) (q2 : Int) (q3 : Int) : Option (Bool) := bif (q1.length : Int) == ((q0.length : Nat) : Int) then (some true) else (Option.bind (iter (sh103_1 q0 q1 q2 q3 rc) 0) fun y1 => elimS y1 (fun r => some r) fun b1 => (some false))
def T103 (r : Bool) (v : Value) (rs : List Own) : Prop := v = rets [.bool r] ∧ rs = []
def sh103F : Nat → (List (List Bool)) → (List Int) → Int → Int → Option (Bool)
  | 0 => fun _ _ _ _ => none
  | fu + 1 => sh103B (sh103F fu)
def sh103 (q0 : List (List Bool)) (q1 : List Int) (q2 : Int) (q3 : Int) : Option (Bool) := sh103F 2000 q0 q1 q2 q3
set_option maxRecDepth 100000 in
set_option maxHeartbeats 1000000 in
theorem c103S (rc : (List (List Bool)) → (List Int) → Int → Int → Option (Bool)) (ih : ∀ {w : World} {q0 : List (List Bool)} {a_0 : Option Addr} {n_0 c_0 : Nat} {h_0 : List Hd} (g_0 : Rd w a_0 (eHd.fl h_0)) (r_0 : RdI w eBool h_0 q0) (i_0 : Inn h_0 q0) (l_0 : q0.length = n_0) (k_0 : n_0 ≤ c_0) {q1 : List Int} {a_1 : Option Addr} {n_1 c_1 : Nat} (g_1 : Rd w a_1 (eI64.fl q1)) (l_1 : q1.length = n_1) (k_1 : n_1 ≤ c_1) {q2 : Int} {q3 : Int} {r : Bool} (hres : rc q0 q1 q2 q3 = some r), Calls Go.Proofs.Try.prog 103 [.slice a_0 n_0 c_0, .slice a_1 n_1 c_1, .int .i64 q2, .int .i64 q3].toArray w (Ret w (T103 r))) {w : World} {q0 : List (List Bool)} {a_0 : Option Addr} {n_0 c_0 : Nat} {h_0 : List Hd} (g_0 : Rd w a_0 (eHd.fl h_0)) (r_0 : RdI w eBool h_0 q0) (i_0 : Inn h_0 q0) (l_0 : q0.length = n_0) (k_0 : n_0 ≤ c_0) {q1 : List Int} {a_1 : Option Addr} {n_1 c_1 : Nat} (g_1 : Rd w a_1 (eI64.fl q1)) (l_1 : q1.length = n_1) (k_1 : n_1 ≤ c_1) {q2 : Int} {q3 : Int} {r : Bool} (hres : sh103B rc q0 q1 q2 q3 = some r) : Calls Go.Proofs.Try.prog 103 [.slice a_0 n_0 c_0, .slice a_1 n_1 c_1, .int .i64 q2, .int .i64 q3].toArray w (Ret w (T103 r)) := by
  subst l_0
  subst l_1
  unfold sh103B at hres
  refine calls_of (n := 68) (M := []) (es := []) Go.Proofs.Try.func103 rfl rfl rfl (Sep.nil _ _ _) ?_
  refine JX.seq ?_
  refine JX.region ?_
  refine JL.val (yl_assign rfl) rfl ?_
  refine JL.nil ?_
  refine JE.code ?_
  refine JX.seq ?_
  refine JX.region ?_
  refine JL.val (yl_move rfl) rfl ?_
  refine JL.val (yl_len_slice Go.Proofs.Try.underlying22 rfl) rfl ?_
  refine JL.val (yl_assign rfl) rfl ?_
  refine JL.nil ?_
  refine JE.code ?_
  refine JX.seq ?_
  refine JX.seq ?_
  refine JX.region ?_
  refine JL.val (yl_move rfl) rfl ?_
  refine JL.val (yl_move rfl) rfl ?_
  refine JL.val (yl_len_slice Go.Proofs.Try.underlying99 rfl) rfl ?_
  refine JL.val (yl_eql rfl rfl) rfl ?_
  refine JL.nil ?_
  refine JE.weak (env' := [(0, .slice a_0 q0.length c_0), (1, .slice a_1 q1.length c_1), (2, .int .i64 q2), (3, .int .i64 q3), (9, .int .i64 (q1.length : Int)), (18, .bool ((q1.length : Int) == ((q0.length : Nat) : Int)))]) (es' := []) [] ?_ ⟨rfl, rfl, rfl, rfl, rfl, rfl, trivial⟩ (by decide) rfl
  refine JE.code ?_
  rcases cond_some hres with ⟨hb, hres⟩ | ⟨hb, hres⟩
  · refine JX.condT rfl hb ?_
    refine JX.seq ?_
    refine JX.region ?_
    refine JL.val (yl_assign rfl) rfl ?_
    refine JL.nil ?_
    refine JE.code ?_
    refine JX.ret ?_
    obtain rfl := Option.some.inj hres
    refine JE.ret (rs := [.tmp 8]) (vs := [.bool true]) rfl ⟨rfl, trivial⟩ ?_
    exact fun w' hb hs => ⟨_, _, ⟨rfl, rfl⟩, rfl, hb, hs.sel [] _ (by decide) rfl⟩
  · refine JX.condF rfl hb ?_
    refine JX.skip ?_
    refine JE.code ?_
    refine JX.seq ?_
    refine JX.seq ?_
    refine JX.region ?_
    refine JL.val (yl_assign rfl) rfl ?_
    refine JL.nil ?_
    refine JE.code ?_
    refine JX.block ?_
    obtain ⟨y1, hy1, hresO1⟩ := bind_some hres
    refine JX.loop (I := fun (s1 : Int) aa ww => St w [] 68 [(0, .slice a_0 q0.length c_0), (1, .slice a_1 q1.length c_1), (2, .int .i64 q2), (3, .int .i64 q3), (9, .int .i64 (q1.length : Int)), (10, .int .i64 s1)] [] aa ww) (sh103_1 q0 q1 q2 q3 rc) hy1 (fun a w h => h.weak ⟨rfl, rfl, rfl, rfl, rfl, rfl, trivial⟩ [] (by decide) rfl) ?_
    rintro x1 o1 hres hox1 aa ww hS
    refine (?_ : JX Go.Proofs.Try.prog w [] 68 _ _ [(0, .slice a_0 q0.length c_0), (1, .slice a_1 q1.length c_1), (2, .int .i64 q2), (3, .int .i64 q3), (9, .int .i64 (q1.length : Int)), (10, .int .i64 x1)] [] _) aa ww hS
    clear hS
    unfold sh103_1 at hres
    refine JX.seq ?_
    refine JX.seq ?_
    refine JX.region ?_
    refine JL.val (yl_move rfl) rfl ?_
    refine JL.val (yl_move rfl) rfl ?_
    refine JL.val (yl_lss rfl rfl) rfl ?_
    refine JL.val (yl_move rfl) rfl ?_
    refine JL.cut (K := fun J => J [(0, .slice a_0 q0.length c_0), (1, .slice a_1 q1.length c_1), (2, .int .i64 q2), (3, .int .i64 q3), (9, .int .i64 (q1.length : Int)), (10, .int .i64 x1), (26, .bool ((decide (x1 < q2)) && (decide (x1 ≤ q3))))] []) 4 ?_ ?_
    · refine JL.nil ?_
      refine JE.weak (env' := [(0, .slice a_0 q0.length c_0), (1, .slice a_1 q1.length c_1), (2, .int .i64 q2), (3, .int .i64 q3), (9, .int .i64 (q1.length : Int)), (10, .int .i64 x1), (26, .bool ((decide (x1 < q2)) && (decide (x1 ≤ q3))))]) (es' := []) [] ?_ ⟨rfl, rfl, rfl, rfl, rfl, rfl, rfl, trivial⟩ (by decide) rfl
      refine JE.code ?_
      rcases cond_some hres with ⟨hb, hres⟩ | ⟨hb, hres⟩
      · refine JX.condT rfl hb ?_
        refine JX.skip ?_
        refine JE.code ?_
        refine JX.seq ?_
        refine JX.block ?_
        refine JX.seq ?_
        refine JX.region ?_
        refine JL.val (yl_assign rfl) rfl ?_
        refine JL.nil ?_
        refine JE.code ?_
        refine JX.seq ?_
        refine JX.seq ?_
        refine JX.region ?_
        refine JL.val (yl_assign rfl) rfl ?_
        refine JL.nil ?_
        refine JE.code ?_
        refine JX.block ?_
        obtain ⟨y2, hy2, hresO2⟩ := bind_some hres
        refine JX.loop (I := fun (s2 : Bool × Int) aa ww => St w [] 68 [(0, .slice a_0 q0.length c_0), (1, .slice a_1 q1.length c_1), (2, .int .i64 q2), (3, .int .i64 q3), (9, .int .i64 (q1.length : Int)), (10, .int .i64 x1), (11, .bool s2.1), (12, .int .i64 s2.2)] [] aa ww) (sh103_2 q0 q1 x1) hy2 (fun a w h => h.weak ⟨rfl, rfl, rfl, rfl, rfl, rfl, rfl, rfl, trivial⟩ [] (by decide) rfl) ?_
        rintro ⟨x2, x3⟩ o2 hres hox2 aa ww hS
        refine (?_ : JX Go.Proofs.Try.prog w [] 68 _ _ [(0, .slice a_0 q0.length c_0), (1, .slice a_1 q1.length c_1), (2, .int .i64 q2), (3, .int .i64 q3), (9, .int .i64 (q1.length : Int)), (10, .int .i64 x1), (11, .bool x2), (12, .int .i64 x3)] [] _) aa ww hS
        clear hS
        simp only [sh103_2] at hres
        refine JX.seq ?_
        refine JX.seq ?_
        refine JX.region ?_
        refine JL.val (yl_move rfl) rfl ?_
        refine JL.val (yl_move rfl) rfl ?_
        refine JL.val (yl_lss rfl rfl) rfl ?_
        refine JL.nil ?_
        refine JE.code ?_
        rcases cond_some hres with ⟨hb, hres⟩ | ⟨hb, hres⟩
        · refine JX.condT rfl hb ?_
          refine JX.skip ?_
          refine JE.code ?_
          refine JX.seq ?_
          refine JX.block ?_
          refine JX.region ?_
          refine JL.val (yl_move rfl) rfl ?_
          refine JL.val (yl_move rfl) rfl ?_
          obtain ⟨cb4, hcb4, hres⟩ := bind_some hres
          refine JL.cut (K := fun J => J [(0, .slice a_0 q0.length c_0), (1, .slice a_1 q1.length c_1), (2, .int .i64 q2), (3, .int .i64 q3), (9, .int .i64 (q1.length : Int)), (10, .int .i64 x1), (12, .int .i64 x3), (52, .bool cb4)] []) 17 ?_ ?_
          · refine JL.val (yl_assign rfl) rfl ?_
            refine JL.nil ?_
            refine JE.weak (env' := [(0, .slice a_0 q0.length c_0), (1, .slice a_1 q1.length c_1), (2, .int .i64 q2), (3, .int .i64 q3), (9, .int .i64 (q1.length : Int)), (10, .int .i64 x1), (11, .bool cb4), (12, .int .i64 x3)]) (es' := []) [] ?_ ⟨rfl, rfl, rfl, rfl, rfl, rfl, rfl, rfl, trivial⟩ (by decide) rfl
            refine JE.code ?_
            refine JX.region ?_
            refine JL.val (yl_move rfl) rfl ?_
            refine JL.val (yl_add rfl rfl) rfl ?_
            refine JL.val (yl_assign rfl) rfl ?_
            refine JL.nil ?_
            refine JE.cont hres ?_
            exact fun a w h => h.weak ⟨rfl, rfl, rfl, rfl, rfl, rfl, rfl, rfl, trivial⟩ [] (by decide) rfl
          · intro K
            rcases cond_some hcb4 with ⟨hb, hres⟩ | ⟨hb, hres⟩
            · refine JL.set (d := 35) (v := .bool true) (congrArg (fun b => some (Value.bool b)) hb) ?_
              refine JL.gval rfl rfl (yl_move rfl) rfl ?_
              refine JL.gval rfl rfl (yl_move rfl) rfl ?_
              obtain ⟨x5, hx5, hres⟩ := bind_some hres
              obtain ⟨ha6, hc7, hhx5⟩ := Inn.sub i_0 hx5
              refine JL.gval rfl rfl (yl_idxT Go.Proofs.Try.underlying99 i104 i104s rfl rfl hhx5 (Inn.len i_0) (fun w hC => rd_arg g_0 hC)) rfl ?_
              refine JL.gval rfl rfl (yl_loadT0 (z := ⟨ha6, x5.length, hc7⟩) Go.Proofs.Try.underlying104 rfl rfl hhx5 (fun w hC => rd_arg g_0 hC) rfl) rfl ?_
              refine JL.gval rfl rfl (yl_move rfl) rfl ?_
              obtain ⟨x9, hx9, hres⟩ := bind_some hres
              refine JL.gval rfl rfl (yl_idxT Go.Proofs.Try.underlying104 i4 i4s rfl rfl hx9 rfl (fun w hC => rd_arg (RdI.sub r_0 hx5 hhx5) hC)) rfl ?_
              refine JL.gval rfl rfl (yl_loadT0 Go.Proofs.Try.underlying4 rfl rfl hx9 (fun w hC => rd_arg (RdI.sub r_0 hx5 hhx5) hC) rfl) rfl ?_
              refine JL.gval rfl rfl (yl_move rfl) rfl ?_
              obtain ⟨cb10, hcb10, hres⟩ := bind_some hres
              refine JL.cut (K := fun J => J [(0, .slice a_0 q0.length c_0), (1, .slice a_1 q1.length c_1), (2, .int .i64 q2), (3, .int .i64 q3), (9, .int .i64 (q1.length : Int)), (10, .int .i64 x1), (12, .int .i64 x3), (35, .bool true), (50, .bool cb10)] []) 7 ?_ ?_
              · refine JL.gval rfl rfl (yl_not rfl) rfl ?_
                refine JL.val (yl_pick_true rfl rfl) rfl ?_
                have he := Option.some.inj hres
                exact JL.weak [] K ⟨rfl, rfl, rfl, rfl, rfl, rfl, rfl, (by rw [← he]; rfl), trivial⟩ (by decide) rfl
              · intro K
                rcases cond_some hcb10 with ⟨hb, hres⟩ | ⟨hb, hres⟩
                · refine JL.set (d := 43) (v := .bool true) (congrArg (fun b => some (Value.bool b)) hb) ?_
                  refine JL.gval rfl rfl (yl_move rfl) rfl ?_
                  refine JL.gval rfl rfl (yl_move rfl) rfl ?_
                  obtain ⟨x11, hx11, hres⟩ := bind_some hres
                  refine JL.gval rfl rfl (yl_idxT Go.Proofs.Try.underlying22 i2 i2s rfl rfl hx11 rfl (fun w hC => rd_arg g_1 hC)) rfl ?_
                  refine JL.gval rfl rfl (yl_loadT0 Go.Proofs.Try.underlying2 rfl rfl hx11 (fun w hC => rd_arg g_1 hC) rfl) rfl ?_
                  refine JL.gval rfl rfl (yl_move rfl) rfl ?_
                  refine JL.gval rfl rfl (yl_eql rfl rfl) rfl ?_
                  refine JL.gval rfl rfl (yl_pick_true rfl rfl) rfl ?_
                  have he := Option.some.inj hres
                  exact JL.weak [] K ⟨rfl, rfl, rfl, rfl, rfl, rfl, rfl, rfl, (by rw [← he]; rfl), trivial⟩ (by decide) rfl
                · refine JL.set (d := 43) (v := .bool false) (congrArg (fun b => some (Value.bool b)) hb) ?_
                  refine JL.gskip rfl rfl rfl rfl ?_
                  refine JL.gskip rfl rfl rfl rfl ?_
                  refine JL.gskip rfl rfl rfl rfl ?_
                  refine JL.gskip rfl rfl rfl rfl ?_
                  refine JL.gskip rfl rfl rfl rfl ?_
                  refine JL.gskip rfl rfl rfl rfl ?_
                  refine JL.gval rfl rfl (yl_pick_false rfl rfl) rfl ?_
                  have he := Option.some.inj hres
                  exact JL.weak [] K ⟨rfl, rfl, rfl, rfl, rfl, rfl, rfl, rfl, (by rw [← he]; rfl), trivial⟩ (by decide) rfl
            · refine JL.set (d := 35) (v := .bool false) (congrArg (fun b => some (Value.bool b)) hb) ?_
              refine JL.gskip rfl rfl rfl rfl ?_
              refine JL.gskip rfl rfl rfl rfl ?_
              refine JL.gskip rfl rfl rfl rfl ?_
              refine JL.gskip rfl rfl rfl rfl ?_
              refine JL.gskip rfl rfl rfl rfl ?_
              refine JL.gskip rfl rfl rfl rfl ?_
              refine JL.gskip rfl rfl rfl rfl ?_
              refine JL.gskip rfl rfl rfl rfl ?_
              refine JL.gnone rfl rfl rfl ?_
              refine JL.gnone rfl rfl rfl ?_
              refine JL.gnone rfl rfl rfl ?_
              refine JL.gnone rfl rfl rfl ?_
              refine JL.gnone rfl rfl rfl ?_
              refine JL.gnone rfl rfl rfl ?_
              refine JL.gskip rfl rfl rfl rfl ?_
              refine JL.gskip rfl rfl rfl rfl ?_
              refine JL.val (yl_pick_false rfl rfl) rfl ?_
              have he := Option.some.inj hres
              exact JL.weak [] K ⟨rfl, rfl, rfl, rfl, rfl, rfl, rfl, (by rw [← he]; rfl), trivial⟩ (by decide) rfl
        · refine JX.condF rfl hb ?_
          refine JX.exit ?_
          refine JE.qb rfl ?_
          obtain ⟨b2, hb2⟩ : ∃ b : Bool, b = x2 := ⟨_, rfl⟩
          have hy2 : b2 = y2 := by rw [hb2]; exact hox2 _ (Option.some.inj hres).symm
          have hres := hresO2
          rw [← hy2] at hres
          refine JE.weak (env' := [(0, .slice a_0 q0.length c_0), (1, .slice a_1 q1.length c_1), (2, .int .i64 q2), (3, .int .i64 q3), (9, .int .i64 (q1.length : Int)), (10, .int .i64 x1), (11, .bool b2)]) (es' := []) [] ?_ ⟨(by subst hb2; rfl), (by subst hb2; rfl), (by subst hb2; rfl), (by subst hb2; rfl), (by subst hb2; rfl), (by subst hb2; rfl), (by subst hb2; rfl), trivial⟩ (by decide) (by subst hb2; rfl)
          refine JE.code ?_
          refine JX.seq ?_
          refine JX.region ?_
          refine JL.val (yl_move rfl) rfl ?_
          refine JL.val (yl_move rfl) rfl ?_
          obtain ⟨cb12, hcb12, hres⟩ := bind_some hres
          refine JL.cut (K := fun J => J [(0, .slice a_0 q0.length c_0), (1, .slice a_1 q1.length c_1), (2, .int .i64 q2), (3, .int .i64 q3), (9, .int .i64 (q1.length : Int)), (10, .int .i64 x1), (67, .bool cb12)] []) 13 ?_ ?_
          · refine JL.nil ?_
            refine JE.weak (env' := [(0, .slice a_0 q0.length c_0), (1, .slice a_1 q1.length c_1), (2, .int .i64 q2), (3, .int .i64 q3), (9, .int .i64 (q1.length : Int)), (10, .int .i64 x1), (67, .bool cb12)]) (es' := []) [] ?_ ⟨rfl, rfl, rfl, rfl, rfl, rfl, rfl, trivial⟩ (by decide) rfl
            refine JE.code ?_
            rcases cond_some hres with ⟨hb, hres⟩ | ⟨hb, hres⟩
            · refine JX.condT rfl hb ?_
              refine JX.seq ?_
              refine JX.region ?_
              refine JL.val (yl_assign rfl) rfl ?_
              refine JL.nil ?_
              refine JE.code ?_
              refine JX.ret ?_
              refine JE.qbr ?_
              refine JE.qbr ?_
              have hres := elimS_inr hresO1 (hox1 _ (Option.some.inj hres).symm)
              obtain rfl := Option.some.inj hres
              refine JE.ret (rs := [.tmp 8]) (vs := [.bool true]) rfl ⟨rfl, trivial⟩ ?_
              exact fun w' hb hs => ⟨_, _, ⟨rfl, rfl⟩, rfl, hb, hs.sel [] _ (by decide) rfl⟩
            · refine JX.condF rfl hb ?_
              refine JX.skip ?_
              refine JE.code ?_
              refine JX.region ?_
              refine JL.val (yl_move rfl) rfl ?_
              refine JL.val (yl_add rfl rfl) rfl ?_
              refine JL.val (yl_assign rfl) rfl ?_
              refine JL.nil ?_
              refine JE.cont hres ?_
              exact fun a w h => h.weak ⟨rfl, rfl, rfl, rfl, rfl, rfl, trivial⟩ [] (by decide) rfl
          · intro K
            rcases cond_some hcb12 with ⟨hb, hres⟩ | ⟨hb, hres⟩
            · refine JL.set (d := 54) (v := .bool true) (congrArg (fun b => some (Value.bool b)) hb) ?_
              refine JL.gval rfl rfl (yl_move rfl) rfl ?_
              refine JL.gval rfl rfl (yl_move rfl) rfl ?_
              obtain ⟨x13, hx13, hres⟩ := bind_some hres
              refine JL.geff rfl rfl (ef_call (T := T158 x13) Go.Proofs.Try.func158 rfl (by kernel_rfl) rfl (fun w hC => c158 (rd_arg g_1 hC) rfl k_1 hx13)) rfl ?_
              rintro _ _ ⟨_, ⟨a14, _, cp15, rfl, rfl, rfl⟩, rfl⟩
              refine JL.gval rfl rfl (yl_move rfl) rfl ?_
              refine JL.geff rfl rfl (ef_buildSlice (E := 2) (k := eI64.k) (us := eI64.fl [x1]) rfl (fun w => bsl22_1 x1 w) rfl (by decide)) rfl ?_
              rintro _ _ ⟨a17, rfl, rfl⟩
              obtain ⟨x19, hx19, hres⟩ := bind_some hres
              refine JL.geff rfl rfl (ef_appendT (ix := 0) Go.Proofs.Try.underlying22 i2 i2z i2s rfl i2b0 i2b1 rfl rfl rfl rfl rfl (fun w hC => rd_row hC 1 rfl) hx19) rfl ?_
              rintro _ _ ⟨a20, cp21, rfl, rfl⟩
              refine JL.gval rfl rfl (yl_move rfl) rfl ?_
              refine JL.gval rfl rfl (yl_move rfl) rfl ?_
              refine JL.gval rfl rfl (yl_move rfl) rfl ?_
              refine JL.gval rfl rfl (yl_add rfl rfl) rfl ?_
              obtain ⟨x22, hx22, hres⟩ := bind_some hres
              refine JL.geff rfl rfl (ef_call (T := T129 x22) Go.Proofs.Try.func129 rfl (by kernel_rfl) rfl (fun w hC => c129  hx22)) rfl ?_
              rintro _ _ ⟨_, ⟨rfl, rfl⟩, rfl⟩
              obtain ⟨x23, hx23, hres⟩ := bind_some hres
              refine JL.geff rfl rfl (ef_call (T := T103 x23) Go.Proofs.Try.func103 rfl (by kernel_rfl) rfl (fun w hC => ih (rd_arg g_0 hC) (rdI_arg r_0 hC) i_0 rfl k_0 (rd_row hC 0 rfl) rfl (ln_row hC 0 rfl) hx23)) rfl ?_
              rintro _ _ ⟨_, ⟨rfl, rfl⟩, rfl⟩
              refine JL.val (yl_pick_true rfl rfl) rfl ?_
              have he := Option.some.inj hres
              exact JL.weak [] K ⟨rfl, rfl, rfl, rfl, rfl, rfl, (by rw [← he]; rfl), trivial⟩ (by decide) rfl
            · refine JL.set (d := 54) (v := .bool false) (congrArg (fun b => some (Value.bool b)) hb) ?_
              refine JL.gskip rfl rfl rfl rfl ?_
              refine JL.gskip rfl rfl rfl rfl ?_
              refine JL.gskip rfl rfl rfl rfl ?_
              refine JL.gskip rfl rfl rfl rfl ?_
              refine JL.gskip rfl rfl rfl rfl ?_
              refine JL.gskip rfl rfl rfl rfl ?_
              refine JL.gskip rfl rfl rfl rfl ?_
              refine JL.gskip rfl rfl rfl rfl ?_
              refine JL.gskip rfl rfl rfl rfl ?_
              refine JL.gskip rfl rfl rfl rfl ?_
              refine JL.gskip rfl rfl rfl rfl ?_
              refine JL.gskip rfl rfl rfl rfl ?_
              refine JL.val (yl_pick_false rfl rfl) rfl ?_
              have he := Option.some.inj hres
              exact JL.weak [] K ⟨rfl, rfl, rfl, rfl, rfl, rfl, (by rw [← he]; rfl), trivial⟩ (by decide) rfl
      · refine JX.condF rfl hb ?_
        refine JX.exit ?_
        refine JE.qb rfl ?_
        obtain ⟨b1, hb1⟩ : ∃ b : Unit, b = () := ⟨_, rfl⟩
        have hy1 : Sum.inl b1 = y1 := by rw [hb1]; exact hox1 _ (Option.some.inj hres).symm
        have hres := elimS_inl hresO1 hy1
        refine JE.weak (env' := []) (es' := []) [] ?_ trivial (by decide) (by subst hb1; rfl)
        refine JE.code ?_
        refine JX.seq ?_
        refine JX.region ?_
        refine JL.val (yl_assign rfl) rfl ?_
        refine JL.nil ?_
        refine JE.code ?_
        refine JX.ret ?_
        obtain rfl := Option.some.inj hres
        refine JE.ret (rs := [.tmp 8]) (vs := [.bool false]) rfl ⟨rfl, trivial⟩ ?_
        exact fun w' hb hs => ⟨_, _, ⟨rfl, rfl⟩, rfl, hb, hs.sel [] _ (by decide) rfl⟩
    · intro K
      rcases Bool.eq_false_or_eq_true (decide (x1 < q2)) with hb | hb
      · refine JL.set (d := 22) (v := .bool true) (congrArg (fun b => some (Value.bool b)) hb) ?_
        refine JL.gval rfl rfl (yl_move rfl) rfl ?_
        refine JL.gval rfl rfl (yl_move rfl) rfl ?_
        refine JL.gval rfl rfl (yl_leq rfl rfl) rfl ?_
        refine JL.val (yl_pick_true rfl rfl) rfl ?_
        exact JL.weak [] K ⟨rfl, rfl, rfl, rfl, rfl, rfl, (by rw [hb]; rfl), trivial⟩ (by decide) rfl
      · refine JL.set (d := 22) (v := .bool false) (congrArg (fun b => some (Value.bool b)) hb) ?_
        refine JL.gskip rfl rfl rfl rfl ?_
        refine JL.gskip rfl rfl rfl rfl ?_
        refine JL.gskip rfl rfl rfl rfl ?_
        refine JL.val (yl_pick_false rfl rfl) rfl ?_
        exact JL.weak [] K ⟨rfl, rfl, rfl, rfl, rfl, rfl, (by rw [hb]; rfl), trivial⟩ (by decide) rfl
theorem c103F : ∀ (fu : Nat) {w : World} {q0 : List (List Bool)} {a_0 : Option Addr} {n_0 c_0 : Nat} {h_0 : List Hd} (g_0 : Rd w a_0 (eHd.fl h_0)) (r_0 : RdI w eBool h_0 q0) (i_0 : Inn h_0 q0) (l_0 : q0.length = n_0) (k_0 : n_0 ≤ c_0) {q1 : List Int} {a_1 : Option Addr} {n_1 c_1 : Nat} (g_1 : Rd w a_1 (eI64.fl q1)) (l_1 : q1.length = n_1) (k_1 : n_1 ≤ c_1) {q2 : Int} {q3 : Int} {r : Bool} (hres : sh103F fu q0 q1 q2 q3 = some r), Calls Go.Proofs.Try.prog 103 [.slice a_0 n_0 c_0, .slice a_1 n_1 c_1, .int .i64 q2, .int .i64 q3].toArray w (Ret w (T103 r))
  | 0 => by
    intros; rename_i hres
    exact absurd (show (none : Option _) = some _ from hres) (by simp)
  | fu + 1 => by
    intros
    apply c103S (sh103F fu) (@c103F fu) <;> assumption
theorem c103 {w : World} {q0 : List (List Bool)} {a_0 : Option Addr} {n_0 c_0 : Nat} {h_0 : List Hd} (g_0 : Rd w a_0 (eHd.fl h_0)) (r_0 : RdI w eBool h_0 q0) (i_0 : Inn h_0 q0) (l_0 : q0.length = n_0) (k_0 : n_0 ≤ c_0) {q1 : List Int} {a_1 : Option Addr} {n_1 c_1 : Nat} (g_1 : Rd w a_1 (eI64.fl q1)) (l_1 : q1.length = n_1) (k_1 : n_1 ≤ c_1) {q2 : Int} {q3 : Int} {r : Bool} (hres : sh103 q0 q1 q2 q3 = some r) : Calls Go.Proofs.Try.prog 103 [.slice a_0 n_0 c_0, .slice a_1 n_1 c_1, .int .i64 q2, .int .i64 q3].toArray w (Ret w (T103 r)) := by
  apply c103F 2000 <;> first | assumption | exact hres

/- spec.FewestColours -/
def sh41_1 (x4 : List (List Bool)) : Int → Option (Int ⊕ (Int))
  | x11 => Option.bind (sh103 x4 ([] : List Int) x11 0) fun x14 => bif !x14 then (some (.inl (w64 (x11 + 1)))) else (some (.inr x11))
def sh41 (q0 : SPanel) : Option (Int × Int) := Option.bind (sh82 q0) fun x3 => bif !x3 then (some (0, 1)) else (Option.bind (sh94 q0) fun x4 => bif decide (10 < ((x4.length : Nat) : Int)) then (some (0, 5)) else (Option.bind (iter (sh41_1 x4) 1) fun b1 => (some (b1, 0))))
def T41 (r : Int × Int) (v : Value) (rs : List Own) : Prop := v = rets [.int .i64 r.1, .int .i64 r.2] ∧ rs = []
set_option maxRecDepth 100000 in
theorem c41 {w : World} {q0 : SPanel} {a_0_2 : Option Addr} {n_0_2 c_0_2 : Nat} (g_0_2 : Rd w a_0_2 (eI64.fl q0.Breaks)) (l_0_2 : q0.Breaks.length = n_0_2) (k_0_2 : n_0_2 ≤ c_0_2) {r : Int × Int} (hres : sh41 q0 = some r) : Calls Go.Proofs.Try.prog 41 [.agg #[.int .i64 q0.W, .int .i64 q0.H, .slice a_0_2 n_0_2 c_0_2]].toArray w (Ret w (T41 r)) := by
  subst l_0_2
  unfold sh41 at hres
  refine calls_of (n := 20) (M := []) (es := []) Go.Proofs.Try.func41 rfl rfl rfl (Sep.nil _ _ _) ?_
  refine JX.seq ?_
  refine JX.region ?_
  refine JL.eff (ef_box rfl rfl) rfl ?_
  rintro _ _ ⟨g1, rfl, rfl⟩
  refine JL.val (yl_assign rfl) rfl ?_
  refine JL.val (yl_assign rfl) rfl ?_
  refine JL.nil ?_
  refine JE.code ?_
  refine JX.seq ?_
  refine JX.seq ?_
  refine JX.region ?_
  obtain ⟨x3, hx3, hres⟩ := bind_some hres
  refine JL.eff (ef_call (T := T82 x3) Go.Proofs.Try.func82 rfl (by kernel_rfl) rfl (fun w hC => c82 (RdAt.of0 (rd_box hC 0 rfl)) (rd_arg g_0_2 hC) rfl k_0_2 hx3)) rfl ?_
  rintro _ _ ⟨_, ⟨rfl, rfl⟩, rfl⟩
  refine JL.val (yl_not rfl) rfl ?_
  refine JL.nil ?_
  refine JE.code ?_
  rcases cond_some hres with ⟨hb, hres⟩ | ⟨hb, hres⟩
  · refine JX.condT rfl hb ?_
    refine JX.seq ?_
    refine JX.region ?_
    refine JL.val (yl_assign rfl) rfl ?_
    refine JL.val (yl_assign rfl) rfl ?_
    refine JL.nil ?_
    refine JE.weak (env' := [(2, .int .i64 0), (3, .int .i64 1)]) (es' := []) [] ?_ ⟨rfl, rfl, trivial⟩ (by decide) rfl
    refine JE.code ?_
    refine JX.ret ?_
    obtain rfl := Option.some.inj hres
    refine JE.ret (rs := [.tmp 2, .tmp 3]) (vs := [.int .i64 0, .int .i64 1]) rfl ⟨rfl, rfl, trivial⟩ ?_
    exact fun w' hb hs => ⟨_, _, ⟨rfl, rfl⟩, rfl, hb, hs.sel [] _ (by decide) rfl⟩
  · refine JX.condF rfl hb ?_
    refine JX.skip ?_
    refine JE.code ?_
    refine JX.seq ?_
    refine JX.region ?_
    obtain ⟨x4, hx4, hres⟩ := bind_some hres
    refine JL.eff (ef_call (T := T94 x4) Go.Proofs.Try.func94 rfl (by kernel_rfl) rfl (fun w hC => c94 (RdAt.of0 (rd_box hC 0 rfl)) (rd_arg g_0_2 hC) rfl k_0_2 hx4)) rfl ?_
    rintro _ _ ⟨_, ⟨a5, _, cp6, hs8, rfl, hi9, rfl, rfl⟩, rfl⟩
    refine JL.val (yl_assign rfl) rfl ?_
    refine JL.nil ?_
    refine JE.weak (env' := [(4, .slice a5 x4.length cp6)]) (es' := [rowT 104 eHd a5 x4.length cp6 hs8, innO 4 eBool none hs8 x4]) [1, 2] ?_ ⟨rfl, trivial⟩ (by decide) rfl
    refine JE.code ?_
    refine JX.seq ?_
    refine JX.seq ?_
    refine JX.region ?_
    refine JL.val (yl_move rfl) rfl ?_
    refine JL.val (yl_len_slice Go.Proofs.Try.underlying99 rfl) rfl ?_
    refine JL.val (yl_gtr rfl rfl) rfl ?_
    refine JL.nil ?_
    refine JE.code ?_
    rcases cond_some hres with ⟨hb, hres⟩ | ⟨hb, hres⟩
    · refine JX.condT rfl hb ?_
      refine JX.seq ?_
      refine JX.region ?_
      refine JL.val (yl_assign rfl) rfl ?_
      refine JL.val (yl_assign rfl) rfl ?_
      refine JL.nil ?_
      refine JE.weak (env' := [(2, .int .i64 0), (3, .int .i64 5)]) (es' := []) [] ?_ ⟨rfl, rfl, trivial⟩ (by decide) rfl
      refine JE.code ?_
      refine JX.ret ?_
      obtain rfl := Option.some.inj hres
      refine JE.ret (rs := [.tmp 2, .tmp 3]) (vs := [.int .i64 0, .int .i64 5]) rfl ⟨rfl, rfl, trivial⟩ ?_
      exact fun w' hb hs => ⟨_, _, ⟨rfl, rfl⟩, rfl, hb, hs.sel [] _ (by decide) rfl⟩
    · refine JX.condF rfl hb ?_
      refine JX.skip ?_
      refine JE.code ?_
      refine JX.seq ?_
      refine JX.region ?_
      refine JL.val (yl_assign rfl) rfl ?_
      refine JL.nil ?_
      refine JE.code ?_
      refine JX.seq ?_
      refine JX.block ?_
      obtain ⟨y1, hy1, hresO1⟩ := bind_some hres
      refine JX.loop (I := fun (s1 : Int) aa ww => St w [] 20 [(4, .slice a5 x4.length cp6), (5, .int .i64 s1)] [rowT 104 eHd a5 x4.length cp6 hs8, innO 4 eBool none hs8 x4] aa ww) (sh41_1 x4) hy1 (fun a w h => h.weak ⟨rfl, rfl, trivial⟩ [0, 1] (by decide) rfl) ?_
      rintro x11 o1 hres hox1 aa ww hS
      refine (?_ : JX Go.Proofs.Try.prog w [] 20 _ _ [(4, .slice a5 x4.length cp6), (5, .int .i64 x11)] [rowT 104 eHd a5 x4.length cp6 hs8, innO 4 eBool none hs8 x4] _) aa ww hS
      clear hS
      unfold sh41_1 at hres
      refine JX.seq ?_
      refine JX.seq ?_
      refine JX.region ?_
      refine JL.val (yl_move rfl) rfl ?_
      refine JL.eff (ef_buildSlice (E := 2) (k := eI64.k) (us := eI64.fl ([] : List Int)) rfl (fun w => bsl22_0  w) rfl (by decide)) rfl ?_
      rintro _ _ ⟨a12, rfl, rfl⟩
      refine JL.val (yl_move rfl) rfl ?_
      obtain ⟨x14, hx14, hres⟩ := bind_some hres
      refine JL.eff (ef_call (T := T103 x14) Go.Proofs.Try.func103 rfl (by kernel_rfl) rfl (fun w hC => c103 (rd_row hC 0 rfl) (rd_inn hC 1 rfl) hi9 rfl (ln_row hC 0 rfl) (rd_row hC 2 rfl) rfl (Nat.le_refl _) hx14)) rfl ?_
      rintro _ _ ⟨_, ⟨rfl, rfl⟩, rfl⟩
      refine JL.val (yl_not rfl) rfl ?_
      refine JL.nil ?_
      refine JE.weak (env' := [(4, .slice a5 x4.length cp6), (5, .int .i64 x11), (16, .bool !x14)]) (es' := [rowT 104 eHd a5 x4.length cp6 hs8, innO 4 eBool none hs8 x4]) [0, 1] ?_ ⟨rfl, rfl, rfl, trivial⟩ (by decide) rfl
      refine JE.code ?_
      rcases cond_some hres with ⟨hb, hres⟩ | ⟨hb, hres⟩
      · refine JX.condT rfl hb ?_
        refine JX.skip ?_
        refine JE.code ?_
        refine JX.block ?_
        refine JX.region ?_
        refine JL.val (yl_move rfl) rfl ?_
        refine JL.val (yl_add rfl rfl) rfl ?_
        refine JL.val (yl_assign rfl) rfl ?_
        refine JL.nil ?_
        refine JE.cont hres ?_
        exact fun a w h => h.weak ⟨rfl, rfl, trivial⟩ [0, 1] (by decide) rfl
      · refine JX.condF rfl hb ?_
        refine JX.exit ?_
        refine JE.qb rfl ?_
        obtain ⟨b1, hb1⟩ : ∃ b : Int, b = x11 := ⟨_, rfl⟩
        have hy1 : b1 = y1 := by rw [hb1]; exact hox1 _ (Option.some.inj hres).symm
        have hres := hresO1
        rw [← hy1] at hres
        refine JE.weak (env' := [(5, .int .i64 b1)]) (es' := []) [] ?_ ⟨(by subst hb1; rfl), trivial⟩ (by decide) (by subst hb1; rfl)
        refine JE.code ?_
        refine JX.seq ?_
        refine JX.region ?_
        refine JL.val (yl_move rfl) rfl ?_
        refine JL.val (yl_assign rfl) rfl ?_
        refine JL.val (yl_assign rfl) rfl ?_
        refine JL.nil ?_
        refine JE.code ?_
        refine JX.ret ?_
        obtain rfl := Option.some.inj hres
        refine JE.ret (rs := [.tmp 2, .tmp 3]) (vs := [.int .i64 b1, .int .i64 0]) rfl ⟨rfl, rfl, trivial⟩ ?_
        exact fun w' hb hs => ⟨_, _, ⟨rfl, rfl⟩, rfl, hb, hs.sel [] _ (by decide) rfl⟩

/- slices.Clone[[]int64,int64] -/
def sh159 (q0 : List Int) : Option (List Int) := Option.bind (appL ([] : List Int) q0) fun x4 => some x4
def T159 (r : List Int) (v : Value) (rs : List Own) : Prop := ∃ (a0 : Option Addr) (n0 c0 : Nat), r.length = n0 ∧ v = rets [.slice a0 n0 c0] ∧ rs = [rowT 2 eI64 a0 n0 c0 r]
set_option maxRecDepth 100000 in
theorem c159 {w : World} {q0 : List Int} {a_0 : Option Addr} {n_0 c_0 : Nat} (g_0 : Rd w a_0 (eI64.fl q0)) (l_0 : q0.length = n_0) (k_0 : n_0 ≤ c_0) {r : List Int} (hres : sh159 q0 = some r) : Calls Go.Proofs.Try.prog 159 [.slice a_0 n_0 c_0].toArray w (Ret w (T159 r)) := by
  subst l_0
  unfold sh159 at hres
  refine calls_of (n := 8) (M := []) (es := []) Go.Proofs.Try.func159 rfl rfl rfl (Sep.nil _ _ _) ?_
  refine JX.seq ?_
  refine JX.region ?_
  refine JL.val (yl_assign rfl) rfl ?_
  refine JL.nil ?_
  refine JE.code ?_
  refine JX.seq ?_
  refine JX.seq ?_
  refine JX.region ?_
  refine JL.val (yl_move rfl) rfl ?_
  refine JL.val (yl_nilQ Go.Proofs.Try.underlying22 rfl rfl) rfl ?_
  refine JL.nil ?_
  refine JE.code ?_
  rcases nilQ g_0 with ⟨hb, hx⟩ | hb
  · replace hres : some ([] : List Int) = some r := by rw [hx] at hres; simpa [appL] using hres
    refine JX.condT rfl hb ?_
    refine JX.seq ?_
    refine JX.region ?_
    refine JL.val (yl_assign rfl) rfl ?_
    refine JL.nil ?_
    refine JE.code ?_
    refine JX.ret ?_
    refine JE.nilrow 2 eI64 ?_
    obtain rfl := Option.some.inj hres
    refine JE.ret (rs := [.tmp 2]) (vs := [.slice none 0 0]) rfl ⟨rfl, trivial⟩ ?_
    exact fun w' hb hs => ⟨_, _, ⟨none, 0, 0, rfl, rfl, rfl⟩, rfl, hb, hs.sel [0] _ (by decide) rfl⟩
  · refine JX.condF rfl hb ?_
    refine JX.skip ?_
    refine JE.code ?_
    refine JX.seq ?_
    refine JX.region ?_
    refine JL.eff (ef_buildSlice (E := 2) (k := eI64.k) (us := eI64.fl ([] : List Int)) rfl (fun w => bsl22_0  w) rfl (by decide)) rfl ?_
    rintro _ _ ⟨a2, rfl, rfl⟩
    refine JL.val (yl_move rfl) rfl ?_
    obtain ⟨x4, hx4, hres⟩ := bind_some hres
    refine JL.eff (ef_appendT (ix := 0) Go.Proofs.Try.underlying22 i2 i2z i2s rfl i2b0 i2b1 rfl rfl rfl rfl rfl (fun w hC => rd_arg g_0 hC) hx4) rfl ?_
    rintro _ _ ⟨a5, cp6, rfl, rfl⟩
    refine JL.val (yl_assign rfl) rfl ?_
    refine JL.nil ?_
    refine JE.weak (env' := [(2, .slice a5 x4.length cp6)]) (es' := [rowT 2 eI64 a5 x4.length cp6 x4]) [0] ?_ ⟨rfl, trivial⟩ (by decide) rfl
    refine JE.code ?_
    refine JX.ret ?_
    obtain rfl := Option.some.inj hres
    refine JE.ret (rs := [.tmp 2]) (vs := [.slice a5 x4.length cp6]) rfl ⟨rfl, trivial⟩ ?_
    exact fun w' hb hs => ⟨_, _, ⟨a5, x4.length, cp6, rfl, rfl, rfl⟩, rfl, hb, hs.sel [0] _ (by decide) rfl⟩

/- impl.canColour -/
def sh104_3 (q0 : List (List Bool)) (q1 : List Int) (x4 : Int) : (Bool × Int) → Option ((Bool × Int) ⊕ (Bool))
  | (x5, x6) => bif decide (x6 < (q1.length : Int)) then (Option.bind (getI q1 x6) fun x7 => Option.bind (bif x5 then (Option.bind (getI q0 (q1.length : Int)) fun x9 => Option.bind (getI x9 x6) fun x13 => some (!(x13 && (x7 == x4)))) else (some false)) fun cb8 => (some (.inl (cb8, w64 (x6 + 1))))) else (some (.inr x5))
def sh104_2 (q0 : List (List Bool)) (q1 : List Int) (q2 : Int) (rc : (List (List Bool)) → (List Int) → Int → Option (Bool)) (b1 : Int) : Int → Option (Int ⊕ (Unit ⊕ Bool))
  | x4 => bif decide (x4 < (if (w64 (b1 + 1)) < q2 then (w64 (b1 + 1)) else q2)) then (Option.bind (iter (sh104_3 q0 q1 x4) (true, 0)) fun b3 => (Option.bind (bif b3 then (Option.bind (sh159 q1) fun x15 => Option.bind (appL x15 [x4]) fun x21 => Option.bind (rc q0 x21 q2) fun x24 => some x24) else (some false)) fun cb14 => (bif cb14 then (some (.inr (.inr true))) else (some (.inl (w64 (x4 + 1))))))) else (some (.inr (.inl ())))
def sh104_1 (q1 : List Int) : (Int × Int) → Option ((Int × Int) ⊕ (Int))
  | (x1, x2) => bif decide (x2 < (q1.length : Int)) then (Option.bind (getI q1 x2) fun x3 => some (.inl (if x1 < (w64 (x3 + 1)) then (w64 (x3 + 1)) else x1, w64 (x2 + 1)))) else (some (.inr x1))
def sh104B (rc : (List (List Bool)) → (List Int) → Int → Option (Bool)) (q0 : List (List Bool)) (q1 : List Int) (q2 : Int) : Option (Bool) := bif (q1.length : Int) == ((q0.length : Nat) : Int) then (some true) else (Option.bind (iter (sh104_1 q1) (0, 0)) fun b1 => (Option.bind (iter (sh104_2 q0 q1 q2 rc b1) 0) fun y2 => elimS y2 (fun r => some r) fun b2 => (some false)))
def T104 (r : Bool) (v : Value) (rs : List Own) : Prop := v = rets [.bool r] ∧ rs = []
def sh104F : Nat → (List (List Bool)) → (List Int) → Int → Option (Bool)
  | 0 => fun _ _ _ => none
  | fu + 1 => sh104B (sh104F fu)
def sh104 (q0 : List (List Bool)) (q1 : List Int) (q2 : Int) : Option (Bool) := sh104F 2000 q0 q1 q2
set_option maxRecDepth 100000 in
set_option maxHeartbeats 1000000 in
theorem c104S (rc : (List (List Bool)) → (List Int) → Int → Option (Bool)) (ih : ∀ {w : World} {q0 : List (List Bool)} {a_0 : Option Addr} {n_0 c_0 : Nat} {h_0 : List Hd} (g_0 : Rd w a_0 (eHd.fl h_0)) (r_0 : RdI w eBool h_0 q0) (i_0 : Inn h_0 q0) (l_0 : q0.length = n_0) (k_0 : n_0 ≤ c_0) {q1 : List Int} {a_1 : Option Addr} {n_1 c_1 : Nat} (g_1 : Rd w a_1 (eI64.fl q1)) (l_1 : q1.length = n_1) (k_1 : n_1 ≤ c_1) {q2 : Int} {r : Bool} (hres : rc q0 q1 q2 = some r), Calls Go.Proofs.Try.prog 104 [.slice a_0 n_0 c_0, .slice a_1 n_1 c_1, .int .i64 q2].toArray w (Ret w (T104 r))) {w : World} {q0 : List (List Bool)} {a_0 : Option Addr} {n_0 c_0 : Nat} {h_0 : List Hd} (g_0 : Rd w a_0 (eHd.fl h_0)) (r_0 : RdI w eBool h_0 q0) (i_0 : Inn h_0 q0) (l_0 : q0.length = n_0) (k_0 : n_0 ≤ c_0) {q1 : List Int} {a_1 : Option Addr} {n_1 c_1 : Nat} (g_1 : Rd w a_1 (eI64.fl q1)) (l_1 : q1.length = n_1) (k_1 : n_1 ≤ c_1) {q2 : Int} {r : Bool} (hres : sh104B rc q0 q1 q2 = some r) : Calls Go.Proofs.Try.prog 104 [.slice a_0 n_0 c_0, .slice a_1 n_1 c_1, .int .i64 q2].toArray w (Ret w (T104 r)) := by
  subst l_0
  subst l_1
  unfold sh104B at hres
  refine calls_of (n := 75) (M := []) (es := []) Go.Proofs.Try.func104 rfl rfl rfl (Sep.nil _ _ _) ?_
  refine JX.seq ?_
  refine JX.region ?_
  refine JL.val (yl_assign rfl) rfl ?_
  refine JL.nil ?_
  refine JE.code ?_
  refine JX.seq ?_
  refine JX.region ?_
  refine JL.val (yl_move rfl) rfl ?_
  refine JL.val (yl_len_slice Go.Proofs.Try.underlying22 rfl) rfl ?_
  refine JL.val (yl_assign rfl) rfl ?_
  refine JL.nil ?_
  refine JE.code ?_
  refine JX.seq ?_
  refine JX.seq ?_
  refine JX.region ?_
  refine JL.val (yl_move rfl) rfl ?_
  refine JL.val (yl_move rfl) rfl ?_
  refine JL.val (yl_len_slice Go.Proofs.Try.underlying99 rfl) rfl ?_
  refine JL.val (yl_eql rfl rfl) rfl ?_
  refine JL.nil ?_
  refine JE.weak (env' := [(0, .slice a_0 q0.length c_0), (1, .slice a_1 q1.length c_1), (2, .int .i64 q2), (7, .int .i64 (q1.length : Int)), (20, .bool ((q1.length : Int) == ((q0.length : Nat) : Int)))]) (es' := []) [] ?_ ⟨rfl, rfl, rfl, rfl, rfl, trivial⟩ (by decide) rfl
  refine JE.code ?_
  rcases cond_some hres with ⟨hb, hres⟩ | ⟨hb, hres⟩
  · refine JX.condT rfl hb ?_
    refine JX.seq ?_
    refine JX.region ?_
    refine JL.val (yl_assign rfl) rfl ?_
    refine JL.nil ?_
    refine JE.code ?_
    refine JX.ret ?_
    obtain rfl := Option.some.inj hres
    refine JE.ret (rs := [.tmp 6]) (vs := [.bool true]) rfl ⟨rfl, trivial⟩ ?_
    exact fun w' hb hs => ⟨_, _, ⟨rfl, rfl⟩, rfl, hb, hs.sel [] _ (by decide) rfl⟩
  · refine JX.condF rfl hb ?_
    refine JX.skip ?_
    refine JE.code ?_
    refine JX.seq ?_
    refine JX.region ?_
    refine JL.val (yl_assign rfl) rfl ?_
    refine JL.nil ?_
    refine JE.code ?_
    refine JX.seq ?_
    refine JX.seq ?_
    refine JX.region ?_
    refine JL.val (yl_move rfl) rfl ?_
    refine JL.val (yl_len_slice Go.Proofs.Try.underlying22 rfl) rfl ?_
    refine JL.val (yl_move rfl) rfl ?_
    refine JL.nil ?_
    refine JE.code ?_
    refine JX.block ?_
    obtain ⟨y1, hy1, hresO1⟩ := bind_some hres
    refine JX.loop (I := fun (s1 : Int × Int) aa ww => St w [] 75 [(0, .slice a_0 q0.length c_0), (1, .slice a_1 q1.length c_1), (2, .int .i64 q2), (7, .int .i64 (q1.length : Int)), (8, .int .i64 s1.1), (21, .slice a_1 q1.length c_1), (22, .int .i64 (q1.length : Int)), (23, .int .i64 s1.2)] [] aa ww) (sh104_1 q1) hy1 (fun a w h => h.weak ⟨rfl, rfl, rfl, rfl, rfl, rfl, rfl, rfl, trivial⟩ [] (by decide) rfl) ?_
    rintro ⟨x1, x2⟩ o1 hres hox1 aa ww hS
    refine (?_ : JX Go.Proofs.Try.prog w [] 75 _ _ [(0, .slice a_0 q0.length c_0), (1, .slice a_1 q1.length c_1), (2, .int .i64 q2), (7, .int .i64 (q1.length : Int)), (8, .int .i64 x1), (21, .slice a_1 q1.length c_1), (22, .int .i64 (q1.length : Int)), (23, .int .i64 x2)] [] _) aa ww hS
    clear hS
    simp only [sh104_1] at hres
    refine JX.seq ?_
    refine JX.region ?_
    refine JL.val (yl_lss rfl rfl) rfl ?_
    refine JL.nil ?_
    refine JE.code ?_
    refine JX.seq ?_
    rcases cond_some hres with ⟨hb, hres⟩ | ⟨hb, hres⟩
    · refine JX.condT rfl hb ?_
      refine JX.skip ?_
      refine JE.code ?_
      refine JX.seq ?_
      refine JX.block ?_
      refine JX.seq ?_
      refine JX.region ?_
      obtain ⟨x3, hx3, hres⟩ := bind_some hres
      refine JL.val (yl_idxT Go.Proofs.Try.underlying22 i2 i2s rfl rfl hx3 rfl (fun w hC => rd_arg g_1 hC)) rfl ?_
      refine JL.val (yl_loadT0 Go.Proofs.Try.underlying2 rfl rfl hx3 (fun w hC => rd_arg g_1 hC) rfl) rfl ?_
      refine JL.val (yl_assign rfl) rfl ?_
      refine JL.nil ?_
      refine JE.code ?_
      refine JX.region ?_
      refine JL.val (yl_move rfl) rfl ?_
      refine JL.val (yl_move rfl) rfl ?_
      refine JL.val (yl_add rfl rfl) rfl ?_
      refine JL.val (yl_max rfl rfl) rfl ?_
      refine JL.val (yl_assign rfl) rfl ?_
      refine JL.nil ?_
      refine JE.weak (env' := [(0, .slice a_0 q0.length c_0), (1, .slice a_1 q1.length c_1), (2, .int .i64 q2), (7, .int .i64 (q1.length : Int)), (8, .int .i64 (if x1 < (w64 (x3 + 1)) then (w64 (x3 + 1)) else x1)), (21, .slice a_1 q1.length c_1), (22, .int .i64 (q1.length : Int)), (23, .int .i64 x2)]) (es' := []) [] ?_ ⟨rfl, rfl, rfl, rfl, rfl, rfl, rfl, rfl, trivial⟩ (by decide) rfl
      refine JE.code ?_
      refine JX.region ?_
      refine JL.val (yl_add rfl rfl) rfl ?_
      refine JL.val (yl_move rfl) rfl ?_
      refine JL.nil ?_
      refine JE.cont hres ?_
      exact fun a w h => h.weak ⟨rfl, rfl, rfl, rfl, rfl, rfl, rfl, rfl, trivial⟩ [] (by decide) rfl
    · refine JX.condF rfl hb ?_
      refine JX.exit ?_
      refine JE.qb rfl ?_
      obtain ⟨b1, hb1⟩ : ∃ b : Int, b = x1 := ⟨_, rfl⟩
      have hy1 : b1 = y1 := by rw [hb1]; exact hox1 _ (Option.some.inj hres).symm
      have hres := hresO1
      rw [← hy1] at hres
      refine JE.weak (env' := [(0, .slice a_0 q0.length c_0), (1, .slice a_1 q1.length c_1), (2, .int .i64 q2), (7, .int .i64 (q1.length : Int)), (8, .int .i64 b1)]) (es' := []) [] ?_ ⟨(by subst hb1; rfl), (by subst hb1; rfl), (by subst hb1; rfl), (by subst hb1; rfl), (by subst hb1; rfl), trivial⟩ (by decide) (by subst hb1; rfl)
      refine JE.code ?_
      refine JX.seq ?_
      refine JX.seq ?_
      refine JX.region ?_
      refine JL.val (yl_move rfl) rfl ?_
      refine JL.val (yl_move rfl) rfl ?_
      refine JL.val (yl_add rfl rfl) rfl ?_
      refine JL.val (yl_min rfl rfl) rfl ?_
      refine JL.val (yl_move rfl) rfl ?_
      refine JL.nil ?_
      refine JE.weak (env' := [(0, .slice a_0 q0.length c_0), (1, .slice a_1 q1.length c_1), (2, .int .i64 q2), (7, .int .i64 (q1.length : Int)), (35, .int .i64 (if (w64 (b1 + 1)) < q2 then (w64 (b1 + 1)) else q2)), (36, .int .i64 0)]) (es' := []) [] ?_ ⟨rfl, rfl, rfl, rfl, rfl, rfl, trivial⟩ (by decide) rfl
      refine JE.code ?_
      refine JX.block ?_
      obtain ⟨y2, hy2, hresO2⟩ := bind_some hres
      refine JX.loop (I := fun (s2 : Int) aa ww => St w [] 75 [(0, .slice a_0 q0.length c_0), (1, .slice a_1 q1.length c_1), (2, .int .i64 q2), (7, .int .i64 (q1.length : Int)), (35, .int .i64 (if (w64 (b1 + 1)) < q2 then (w64 (b1 + 1)) else q2)), (36, .int .i64 s2)] [] aa ww) (sh104_2 q0 q1 q2 rc b1) hy2 (fun a w h => h.weak ⟨rfl, rfl, rfl, rfl, rfl, rfl, trivial⟩ [] (by decide) rfl) ?_
      rintro x4 o2 hres hox2 aa ww hS
      refine (?_ : JX Go.Proofs.Try.prog w [] 75 _ _ [(0, .slice a_0 q0.length c_0), (1, .slice a_1 q1.length c_1), (2, .int .i64 q2), (7, .int .i64 (q1.length : Int)), (35, .int .i64 (if (w64 (b1 + 1)) < q2 then (w64 (b1 + 1)) else q2)), (36, .int .i64 x4)] [] _) aa ww hS
      clear hS
      unfold sh104_2 at hres
      refine JX.seq ?_
      refine JX.region ?_
      refine JL.val (yl_lss rfl rfl) rfl ?_
      refine JL.nil ?_
      refine JE.code ?_
      refine JX.seq ?_
      rcases cond_some hres with ⟨hb, hres⟩ | ⟨hb, hres⟩
      · refine JX.condT rfl hb ?_
        refine JX.skip ?_
        refine JE.code ?_
        refine JX.seq ?_
        refine JX.block ?_
        refine JX.seq ?_
        refine JX.region ?_
        refine JL.val (yl_move rfl) rfl ?_
        refine JL.val (yl_assign rfl) rfl ?_
        refine JL.nil ?_
        refine JE.code ?_
        refine JX.seq ?_
        refine JX.region ?_
        refine JL.val (yl_assign rfl) rfl ?_
        refine JL.nil ?_
        refine JE.code ?_
        refine JX.seq ?_
        refine JX.seq ?_
        refine JX.region ?_
        refine JL.val (yl_move rfl) rfl ?_
        refine JL.val (yl_len_slice Go.Proofs.Try.underlying22 rfl) rfl ?_
        refine JL.val (yl_move rfl) rfl ?_
        refine JL.nil ?_
        refine JE.code ?_
        refine JX.block ?_
        obtain ⟨y3, hy3, hresO3⟩ := bind_some hres
        refine JX.loop (I := fun (s3 : Bool × Int) aa ww => St w [] 75 [(0, .slice a_0 q0.length c_0), (1, .slice a_1 q1.length c_1), (2, .int .i64 q2), (7, .int .i64 (q1.length : Int)), (11, .int .i64 x4), (12, .bool s3.1), (35, .int .i64 (if (w64 (b1 + 1)) < q2 then (w64 (b1 + 1)) else q2)), (36, .int .i64 x4), (39, .slice a_1 q1.length c_1), (40, .int .i64 (q1.length : Int)), (41, .int .i64 s3.2)] [] aa ww) (sh104_3 q0 q1 x4) hy3 (fun a w h => h.weak ⟨rfl, rfl, rfl, rfl, rfl, rfl, rfl, rfl, rfl, rfl, rfl, trivial⟩ [] (by decide) rfl) ?_
        rintro ⟨x5, x6⟩ o3 hres hox3 aa ww hS
        refine (?_ : JX Go.Proofs.Try.prog w [] 75 _ _ [(0, .slice a_0 q0.length c_0), (1, .slice a_1 q1.length c_1), (2, .int .i64 q2), (7, .int .i64 (q1.length : Int)), (11, .int .i64 x4), (12, .bool x5), (35, .int .i64 (if (w64 (b1 + 1)) < q2 then (w64 (b1 + 1)) else q2)), (36, .int .i64 x4), (39, .slice a_1 q1.length c_1), (40, .int .i64 (q1.length : Int)), (41, .int .i64 x6)] [] _) aa ww hS
        clear hS
        simp only [sh104_3] at hres
        refine JX.seq ?_
        refine JX.region ?_
        refine JL.val (yl_lss rfl rfl) rfl ?_
        refine JL.nil ?_
        refine JE.code ?_
        refine JX.seq ?_
        rcases cond_some hres with ⟨hb, hres⟩ | ⟨hb, hres⟩
        · refine JX.condT rfl hb ?_
          refine JX.skip ?_
          refine JE.code ?_
          refine JX.seq ?_
          refine JX.block ?_
          refine JX.seq ?_
          refine JX.region ?_
          refine JL.val (yl_move rfl) rfl ?_
          obtain ⟨x7, hx7, hres⟩ := bind_some hres
          refine JL.val (yl_idxT Go.Proofs.Try.underlying22 i2 i2s rfl rfl hx7 rfl (fun w hC => rd_arg g_1 hC)) rfl ?_
          refine JL.val (yl_loadT0 Go.Proofs.Try.underlying2 rfl rfl hx7 (fun w hC => rd_arg g_1 hC) rfl) rfl ?_
          refine JL.val (yl_assign rfl) rfl ?_
          refine JL.val (yl_assign rfl) rfl ?_
          refine JL.nil ?_
          refine JE.weak (env' := [(0, .slice a_0 q0.length c_0), (1, .slice a_1 q1.length c_1), (2, .int .i64 q2), (7, .int .i64 (q1.length : Int)), (11, .int .i64 x4), (12, .bool x5), (13, .int .i64 x6), (14, .int .i64 x7), (35, .int .i64 (if (w64 (b1 + 1)) < q2 then (w64 (b1 + 1)) else q2)), (36, .int .i64 x4), (39, .slice a_1 q1.length c_1), (40, .int .i64 (q1.length : Int)), (41, .int .i64 x6)]) (es' := []) [] ?_ ⟨rfl, rfl, rfl, rfl, rfl, rfl, rfl, rfl, rfl, rfl, rfl, rfl, rfl, trivial⟩ (by decide) rfl
          refine JE.code ?_
          refine JX.region ?_
          refine JL.val (yl_move rfl) rfl ?_
          refine JL.val (yl_move rfl) rfl ?_
          obtain ⟨cb8, hcb8, hres⟩ := bind_some hres
          refine JL.cut (K := fun J => J [(0, .slice a_0 q0.length c_0), (1, .slice a_1 q1.length c_1), (2, .int .i64 q2), (7, .int .i64 (q1.length : Int)), (11, .int .i64 x4), (35, .int .i64 (if (w64 (b1 + 1)) < q2 then (w64 (b1 + 1)) else q2)), (36, .int .i64 x4), (39, .slice a_1 q1.length c_1), (40, .int .i64 (q1.length : Int)), (41, .int .i64 x6), (61, .bool cb8)] []) 14 ?_ ?_
          · refine JL.val (yl_assign rfl) rfl ?_
            refine JL.nil ?_
            refine JE.weak (env' := [(0, .slice a_0 q0.length c_0), (1, .slice a_1 q1.length c_1), (2, .int .i64 q2), (7, .int .i64 (q1.length : Int)), (11, .int .i64 x4), (12, .bool cb8), (35, .int .i64 (if (w64 (b1 + 1)) < q2 then (w64 (b1 + 1)) else q2)), (36, .int .i64 x4), (39, .slice a_1 q1.length c_1), (40, .int .i64 (q1.length : Int)), (41, .int .i64 x6)]) (es' := []) [] ?_ ⟨rfl, rfl, rfl, rfl, rfl, rfl, rfl, rfl, rfl, rfl, rfl, trivial⟩ (by decide) rfl
            refine JE.code ?_
            refine JX.region ?_
            refine JL.val (yl_add rfl rfl) rfl ?_
            refine JL.val (yl_move rfl) rfl ?_
            refine JL.nil ?_
            refine JE.cont hres ?_
            exact fun a w h => h.weak ⟨rfl, rfl, rfl, rfl, rfl, rfl, rfl, rfl, rfl, rfl, rfl, trivial⟩ [] (by decide) rfl
          · intro K
            rcases cond_some hcb8 with ⟨hb, hres⟩ | ⟨hb, hres⟩
            · refine JL.set (d := 47) (v := .bool true) (congrArg (fun b => some (Value.bool b)) hb) ?_
              refine JL.gval rfl rfl (yl_move rfl) rfl ?_
              refine JL.gval rfl rfl (yl_move rfl) rfl ?_
              obtain ⟨x9, hx9, hres⟩ := bind_some hres
              obtain ⟨ha10, hc11, hhx9⟩ := Inn.sub i_0 hx9
              refine JL.gval rfl rfl (yl_idxT Go.Proofs.Try.underlying99 i104 i104s rfl rfl hhx9 (Inn.len i_0) (fun w hC => rd_arg g_0 hC)) rfl ?_
              refine JL.gval rfl rfl (yl_loadT0 (z := ⟨ha10, x9.length, hc11⟩) Go.Proofs.Try.underlying104 rfl rfl hhx9 (fun w hC => rd_arg g_0 hC) rfl) rfl ?_
              refine JL.gval rfl rfl (yl_move rfl) rfl ?_
              obtain ⟨x13, hx13, hres⟩ := bind_some hres
              refine JL.gval rfl rfl (yl_idxT Go.Proofs.Try.underlying104 i4 i4s rfl rfl hx13 rfl (fun w hC => rd_arg (RdI.sub r_0 hx9 hhx9) hC)) rfl ?_
              refine JL.gval rfl rfl (yl_loadT0 Go.Proofs.Try.underlying4 rfl rfl hx13 (fun w hC => rd_arg (RdI.sub r_0 hx9 hhx9) hC) rfl) rfl ?_
              refine JL.gval rfl rfl (yl_move rfl) rfl ?_
              refine JL.cut (K := fun J => J [(0, .slice a_0 q0.length c_0), (1, .slice a_1 q1.length c_1), (2, .int .i64 q2), (7, .int .i64 (q1.length : Int)), (11, .int .i64 x4), (35, .int .i64 (if (w64 (b1 + 1)) < q2 then (w64 (b1 + 1)) else q2)), (36, .int .i64 x4), (39, .slice a_1 q1.length c_1), (40, .int .i64 (q1.length : Int)), (41, .int .i64 x6), (47, .bool true), (59, .bool (x13 && (x7 == x4)))] []) 4 ?_ ?_
              · refine JL.gval rfl rfl (yl_not rfl) rfl ?_
                refine JL.val (yl_pick_true rfl rfl) rfl ?_
                have he := Option.some.inj hres
                exact JL.weak [] K ⟨rfl, rfl, rfl, rfl, rfl, rfl, rfl, rfl, rfl, rfl, (by rw [← he]; rfl), trivial⟩ (by decide) rfl
              · intro K
                rcases Bool.eq_false_or_eq_true (x13) with hb | hb
                · refine JL.set (d := 55) (v := .bool true) (congrArg (fun b => some (Value.bool b)) hb) ?_
                  refine JL.gval rfl rfl (yl_move rfl) rfl ?_
                  refine JL.gval rfl rfl (yl_move rfl) rfl ?_
                  refine JL.gval rfl rfl (yl_eql rfl rfl) rfl ?_
                  refine JL.gval rfl rfl (yl_pick_true rfl rfl) rfl ?_
                  exact JL.weak [] K ⟨rfl, rfl, rfl, rfl, rfl, rfl, rfl, rfl, rfl, rfl, rfl, (by rw [hb]; rfl), trivial⟩ (by decide) rfl
                · refine JL.set (d := 55) (v := .bool false) (congrArg (fun b => some (Value.bool b)) hb) ?_
                  refine JL.gskip rfl rfl rfl rfl ?_
                  refine JL.gskip rfl rfl rfl rfl ?_
                  refine JL.gskip rfl rfl rfl rfl ?_
                  refine JL.gval rfl rfl (yl_pick_false rfl rfl) rfl ?_
                  exact JL.weak [] K ⟨rfl, rfl, rfl, rfl, rfl, rfl, rfl, rfl, rfl, rfl, rfl, (by rw [hb]; rfl), trivial⟩ (by decide) rfl
            · refine JL.set (d := 47) (v := .bool false) (congrArg (fun b => some (Value.bool b)) hb) ?_
              refine JL.gskip rfl rfl rfl rfl ?_
              refine JL.gskip rfl rfl rfl rfl ?_
              refine JL.gskip rfl rfl rfl rfl ?_
              refine JL.gskip rfl rfl rfl rfl ?_
              refine JL.gskip rfl rfl rfl rfl ?_
              refine JL.gskip rfl rfl rfl rfl ?_
              refine JL.gskip rfl rfl rfl rfl ?_
              refine JL.gskip rfl rfl rfl rfl ?_
              refine JL.gnone rfl rfl rfl ?_
              refine JL.gnone rfl rfl rfl ?_
              refine JL.gnone rfl rfl rfl ?_
              refine JL.gskip rfl rfl rfl rfl ?_
              refine JL.gskip rfl rfl rfl rfl ?_
              refine JL.val (yl_pick_false rfl rfl) rfl ?_
              have he := Option.some.inj hres
              exact JL.weak [] K ⟨rfl, rfl, rfl, rfl, rfl, rfl, rfl, rfl, rfl, rfl, (by rw [← he]; rfl), trivial⟩ (by decide) rfl
        · refine JX.condF rfl hb ?_
          refine JX.exit ?_
          refine JE.qb rfl ?_
          obtain ⟨b3, hb3⟩ : ∃ b : Bool, b = x5 := ⟨_, rfl⟩
          have hy3 : b3 = y3 := by rw [hb3]; exact hox3 _ (Option.some.inj hres).symm
          have hres := hresO3
          rw [← hy3] at hres
          refine JE.weak (env' := [(0, .slice a_0 q0.length c_0), (1, .slice a_1 q1.length c_1), (2, .int .i64 q2), (7, .int .i64 (q1.length : Int)), (11, .int .i64 x4), (12, .bool b3), (35, .int .i64 (if (w64 (b1 + 1)) < q2 then (w64 (b1 + 1)) else q2)), (36, .int .i64 x4)]) (es' := []) [] ?_ ⟨(by subst hb3; rfl), (by subst hb3; rfl), (by subst hb3; rfl), (by subst hb3; rfl), (by subst hb3; rfl), (by subst hb3; rfl), (by subst hb3; rfl), (by subst hb3; rfl), trivial⟩ (by decide) (by subst hb3; rfl)
          refine JE.code ?_
          refine JX.seq ?_
          refine JX.region ?_
          refine JL.val (yl_move rfl) rfl ?_
          refine JL.val (yl_move rfl) rfl ?_
          obtain ⟨cb14, hcb14, hres⟩ := bind_some hres
          refine JL.cut (K := fun J => J [(0, .slice a_0 q0.length c_0), (1, .slice a_1 q1.length c_1), (2, .int .i64 q2), (7, .int .i64 (q1.length : Int)), (35, .int .i64 (if (w64 (b1 + 1)) < q2 then (w64 (b1 + 1)) else q2)), (36, .int .i64 x4), (73, .bool cb14)] []) 9 ?_ ?_
          · refine JL.nil ?_
            refine JE.weak (env' := [(0, .slice a_0 q0.length c_0), (1, .slice a_1 q1.length c_1), (2, .int .i64 q2), (7, .int .i64 (q1.length : Int)), (35, .int .i64 (if (w64 (b1 + 1)) < q2 then (w64 (b1 + 1)) else q2)), (36, .int .i64 x4), (73, .bool cb14)]) (es' := []) [] ?_ ⟨rfl, rfl, rfl, rfl, rfl, rfl, rfl, trivial⟩ (by decide) rfl
            refine JE.code ?_
            rcases cond_some hres with ⟨hb, hres⟩ | ⟨hb, hres⟩
            · refine JX.condT rfl hb ?_
              refine JX.seq ?_
              refine JX.region ?_
              refine JL.val (yl_assign rfl) rfl ?_
              refine JL.nil ?_
              refine JE.code ?_
              refine JX.ret ?_
              refine JE.qbr ?_
              refine JE.qbr ?_
              have hres := elimS_inr hresO2 (hox2 _ (Option.some.inj hres).symm)
              obtain rfl := Option.some.inj hres
              refine JE.ret (rs := [.tmp 6]) (vs := [.bool true]) rfl ⟨rfl, trivial⟩ ?_
              exact fun w' hb hs => ⟨_, _, ⟨rfl, rfl⟩, rfl, hb, hs.sel [] _ (by decide) rfl⟩
            · refine JX.condF rfl hb ?_
              refine JX.skip ?_
              refine JE.code ?_
              refine JX.region ?_
              refine JL.val (yl_add rfl rfl) rfl ?_
              refine JL.val (yl_move rfl) rfl ?_
              refine JL.nil ?_
              refine JE.cont hres ?_
              exact fun a w h => h.weak ⟨rfl, rfl, rfl, rfl, rfl, rfl, trivial⟩ [] (by decide) rfl
          · intro K
            rcases cond_some hcb14 with ⟨hb, hres⟩ | ⟨hb, hres⟩
            · refine JL.set (d := 64) (v := .bool true) (congrArg (fun b => some (Value.bool b)) hb) ?_
              refine JL.gval rfl rfl (yl_move rfl) rfl ?_
              refine JL.gval rfl rfl (yl_move rfl) rfl ?_
              obtain ⟨x15, hx15, hres⟩ := bind_some hres
              refine JL.geff rfl rfl (ef_call (T := T159 x15) Go.Proofs.Try.func159 rfl (by kernel_rfl) rfl (fun w hC => c159 (rd_arg g_1 hC) rfl k_1 hx15)) rfl ?_
              rintro _ _ ⟨_, ⟨a16, _, cp17, rfl, rfl, rfl⟩, rfl⟩
              refine JL.gval rfl rfl (yl_move rfl) rfl ?_
              refine JL.geff rfl rfl (ef_buildSlice (E := 2) (k := eI64.k) (us := eI64.fl [x4]) rfl (fun w => bsl22_1 x4 w) rfl (by decide)) rfl ?_
              rintro _ _ ⟨a19, rfl, rfl⟩
              obtain ⟨x21, hx21, hres⟩ := bind_some hres
              refine JL.geff rfl rfl (ef_appendT (ix := 0) Go.Proofs.Try.underlying22 i2 i2z i2s rfl i2b0 i2b1 rfl rfl rfl rfl rfl (fun w hC => rd_row hC 1 rfl) hx21) rfl ?_
              rintro _ _ ⟨a22, cp23, rfl, rfl⟩
              refine JL.gval rfl rfl (yl_move rfl) rfl ?_
              obtain ⟨x24, hx24, hres⟩ := bind_some hres
              refine JL.geff rfl rfl (ef_call (T := T104 x24) Go.Proofs.Try.func104 rfl (by kernel_rfl) rfl (fun w hC => ih (rd_arg g_0 hC) (rdI_arg r_0 hC) i_0 rfl k_0 (rd_row hC 0 rfl) rfl (ln_row hC 0 rfl) hx24)) rfl ?_
              rintro _ _ ⟨_, ⟨rfl, rfl⟩, rfl⟩
              refine JL.val (yl_pick_true rfl rfl) rfl ?_
              have he := Option.some.inj hres
              exact JL.weak [] K ⟨rfl, rfl, rfl, rfl, rfl, rfl, (by rw [← he]; rfl), trivial⟩ (by decide) rfl
            · refine JL.set (d := 64) (v := .bool false) (congrArg (fun b => some (Value.bool b)) hb) ?_
              refine JL.gskip rfl rfl rfl rfl ?_
              refine JL.gskip rfl rfl rfl rfl ?_
              refine JL.gskip rfl rfl rfl rfl ?_
              refine JL.gskip rfl rfl rfl rfl ?_
              refine JL.gskip rfl rfl rfl rfl ?_
              refine JL.gskip rfl rfl rfl rfl ?_
              refine JL.gskip rfl rfl rfl rfl ?_
              refine JL.gskip rfl rfl rfl rfl ?_
              refine JL.val (yl_pick_false rfl rfl) rfl ?_
              have he := Option.some.inj hres
              exact JL.weak [] K ⟨rfl, rfl, rfl, rfl, rfl, rfl, (by rw [← he]; rfl), trivial⟩ (by decide) rfl
      · refine JX.condF rfl hb ?_
        refine JX.exit ?_
        refine JE.qb rfl ?_
        obtain ⟨b2, hb2⟩ : ∃ b : Unit, b = () := ⟨_, rfl⟩
        have hy2 : Sum.inl b2 = y2 := by rw [hb2]; exact hox2 _ (Option.some.inj hres).symm
        have hres := elimS_inl hresO2 hy2
        refine JE.weak (env' := []) (es' := []) [] ?_ trivial (by decide) (by subst hb2; rfl)
        refine JE.code ?_
        refine JX.seq ?_
        refine JX.region ?_
        refine JL.val (yl_assign rfl) rfl ?_
        refine JL.nil ?_
        refine JE.code ?_
        refine JX.ret ?_
        obtain rfl := Option.some.inj hres
        refine JE.ret (rs := [.tmp 6]) (vs := [.bool false]) rfl ⟨rfl, trivial⟩ ?_
        exact fun w' hb hs => ⟨_, _, ⟨rfl, rfl⟩, rfl, hb, hs.sel [] _ (by decide) rfl⟩
theorem c104F : ∀ (fu : Nat) {w : World} {q0 : List (List Bool)} {a_0 : Option Addr} {n_0 c_0 : Nat} {h_0 : List Hd} (g_0 : Rd w a_0 (eHd.fl h_0)) (r_0 : RdI w eBool h_0 q0) (i_0 : Inn h_0 q0) (l_0 : q0.length = n_0) (k_0 : n_0 ≤ c_0) {q1 : List Int} {a_1 : Option Addr} {n_1 c_1 : Nat} (g_1 : Rd w a_1 (eI64.fl q1)) (l_1 : q1.length = n_1) (k_1 : n_1 ≤ c_1) {q2 : Int} {r : Bool} (hres : sh104F fu q0 q1 q2 = some r), Calls Go.Proofs.Try.prog 104 [.slice a_0 n_0 c_0, .slice a_1 n_1 c_1, .int .i64 q2].toArray w (Ret w (T104 r))
  | 0 => by
    intros; rename_i hres
    exact absurd (show (none : Option _) = some _ from hres) (by simp)
  | fu + 1 => by
    intros
    apply c104S (sh104F fu) (@c104F fu) <;> assumption
theorem c104 {w : World} {q0 : List (List Bool)} {a_0 : Option Addr} {n_0 c_0 : Nat} {h_0 : List Hd} (g_0 : Rd w a_0 (eHd.fl h_0)) (r_0 : RdI w eBool h_0 q0) (i_0 : Inn h_0 q0) (l_0 : q0.length = n_0) (k_0 : n_0 ≤ c_0) {q1 : List Int} {a_1 : Option Addr} {n_1 c_1 : Nat} (g_1 : Rd w a_1 (eI64.fl q1)) (l_1 : q1.length = n_1) (k_1 : n_1 ≤ c_1) {q2 : Int} {r : Bool} (hres : sh104 q0 q1 q2 = some r) : Calls Go.Proofs.Try.prog 104 [.slice a_0 n_0 c_0, .slice a_1 n_1 c_1, .int .i64 q2].toArray w (Ret w (T104 r)) := by
  apply c104F 2000 <;> first | assumption | exact hres

/- impl.FewestColours -/
def sh42_1 (x4 : List (List Bool)) : Int → Option (Int ⊕ (Int))
  | x11 => Option.bind (sh104 x4 ([] : List Int) x11) fun x12 => bif !x12 then (some (.inl (w64 (x11 + 1)))) else (some (.inr x11))
def sh42 (q0 : SPanel) : Option (Int × Int) := Option.bind (sh86 q0) fun x3 => bif !x3 then (some (0, 1)) else (Option.bind (sh98 q0) fun x4 => bif decide (10 < ((x4.length : Nat) : Int)) then (some (0, 5)) else (Option.bind (iter (sh42_1 x4) 1) fun b1 => (some (b1, 0))))
def T42 (r : Int × Int) (v : Value) (rs : List Own) : Prop := v = rets [.int .i64 r.1, .int .i64 r.2] ∧ rs = []
set_option maxRecDepth 100000 in
theorem c42 {w : World} {q0 : SPanel} {a_0_2 : Option Addr} {n_0_2 c_0_2 : Nat} (g_0_2 : Rd w a_0_2 (eI64.fl q0.Breaks)) (l_0_2 : q0.Breaks.length = n_0_2) (k_0_2 : n_0_2 ≤ c_0_2) {r : Int × Int} (hres : sh42 q0 = some r) : Calls Go.Proofs.Try.prog 42 [.agg #[.int .i64 q0.W, .int .i64 q0.H, .slice a_0_2 n_0_2 c_0_2]].toArray w (Ret w (T42 r)) := by
  subst l_0_2
  unfold sh42 at hres
  refine calls_of (n := 21) (M := []) (es := []) Go.Proofs.Try.func42 rfl rfl rfl (Sep.nil _ _ _) ?_
  refine JX.seq ?_
  refine JX.region ?_
  refine JL.eff (ef_box rfl rfl) rfl ?_
  rintro _ _ ⟨g1, rfl, rfl⟩
  refine JL.val (yl_assign rfl) rfl ?_
  refine JL.val (yl_assign rfl) rfl ?_
  refine JL.nil ?_
  refine JE.code ?_
  refine JX.seq ?_
  refine JX.seq ?_
  refine JX.region ?_
  refine JL.val (yl_loadn Go.Proofs.Try.underlying28 rfl i28 rfl (fun w hC => rd_box hC 0 rfl) rfl (i28s).symm i28p) rfl ?_
  obtain ⟨x3, hx3, hres⟩ := bind_some hres
  refine JL.eff (ef_call (vs := [.agg #[.int .i64 q0.W, .int .i64 q0.H, .slice a_0_2 q0.Breaks.length c_0_2]]) (T := T86 x3) Go.Proofs.Try.func86 rfl (by kernel_rfl) rfl (fun w hC => c86 (q0 := q0) (rd_arg g_0_2 hC) rfl k_0_2 hx3)) rfl ?_
  rintro _ _ ⟨_, ⟨rfl, rfl⟩, rfl⟩
  refine JL.val (yl_not rfl) rfl ?_
  refine JL.nil ?_
  refine JE.code ?_
  rcases cond_some hres with ⟨hb, hres⟩ | ⟨hb, hres⟩
  · refine JX.condT rfl hb ?_
    refine JX.seq ?_
    refine JX.region ?_
    refine JL.val (yl_assign rfl) rfl ?_
    refine JL.val (yl_assign rfl) rfl ?_
    refine JL.nil ?_
    refine JE.weak (env' := [(2, .int .i64 0), (3, .int .i64 1)]) (es' := []) [] ?_ ⟨rfl, rfl, trivial⟩ (by decide) rfl
    refine JE.code ?_
    refine JX.ret ?_
    obtain rfl := Option.some.inj hres
    refine JE.ret (rs := [.tmp 2, .tmp 3]) (vs := [.int .i64 0, .int .i64 1]) rfl ⟨rfl, rfl, trivial⟩ ?_
    exact fun w' hb hs => ⟨_, _, ⟨rfl, rfl⟩, rfl, hb, hs.sel [] _ (by decide) rfl⟩
  · refine JX.condF rfl hb ?_
    refine JX.skip ?_
    refine JE.code ?_
    refine JX.seq ?_
    refine JX.region ?_
    refine JL.val (yl_loadn Go.Proofs.Try.underlying28 rfl i28 rfl (fun w hC => rd_box hC 0 rfl) rfl (i28s).symm i28p) rfl ?_
    obtain ⟨x4, hx4, hres⟩ := bind_some hres
    refine JL.eff (ef_call (vs := [.agg #[.int .i64 q0.W, .int .i64 q0.H, .slice a_0_2 q0.Breaks.length c_0_2]]) (T := T98 x4) Go.Proofs.Try.func98 rfl (by kernel_rfl) rfl (fun w hC => c98 (q0 := q0) (rd_arg g_0_2 hC) rfl k_0_2 hx4)) rfl ?_
    rintro _ _ ⟨_, ⟨a5, _, cp6, hs8, rfl, hi9, rfl, rfl⟩, rfl⟩
    refine JL.val (yl_assign rfl) rfl ?_
    refine JL.nil ?_
    refine JE.weak (env' := [(4, .slice a5 x4.length cp6)]) (es' := [rowT 104 eHd a5 x4.length cp6 hs8, innO 4 eBool none hs8 x4]) [1, 2] ?_ ⟨rfl, trivial⟩ (by decide) rfl
    refine JE.code ?_
    refine JX.seq ?_
    refine JX.seq ?_
    refine JX.region ?_
    refine JL.val (yl_move rfl) rfl ?_
    refine JL.val (yl_len_slice Go.Proofs.Try.underlying99 rfl) rfl ?_
    refine JL.val (yl_gtr rfl rfl) rfl ?_
    refine JL.nil ?_
    refine JE.code ?_
    rcases cond_some hres with ⟨hb, hres⟩ | ⟨hb, hres⟩
    · refine JX.condT rfl hb ?_
      refine JX.seq ?_
      refine JX.region ?_
      refine JL.val (yl_assign rfl) rfl ?_
      refine JL.val (yl_assign rfl) rfl ?_
      refine JL.nil ?_
      refine JE.weak (env' := [(2, .int .i64 0), (3, .int .i64 5)]) (es' := []) [] ?_ ⟨rfl, rfl, trivial⟩ (by decide) rfl
      refine JE.code ?_
      refine JX.ret ?_
      obtain rfl := Option.some.inj hres
      refine JE.ret (rs := [.tmp 2, .tmp 3]) (vs := [.int .i64 0, .int .i64 5]) rfl ⟨rfl, rfl, trivial⟩ ?_
      exact fun w' hb hs => ⟨_, _, ⟨rfl, rfl⟩, rfl, hb, hs.sel [] _ (by decide) rfl⟩
    · refine JX.condF rfl hb ?_
      refine JX.skip ?_
      refine JE.code ?_
      refine JX.seq ?_
      refine JX.region ?_
      refine JL.val (yl_assign rfl) rfl ?_
      refine JL.nil ?_
      refine JE.code ?_
      refine JX.seq ?_
      refine JX.block ?_
      obtain ⟨y1, hy1, hresO1⟩ := bind_some hres
      refine JX.loop (I := fun (s1 : Int) aa ww => St w [] 21 [(4, .slice a5 x4.length cp6), (5, .int .i64 s1)] [rowT 104 eHd a5 x4.length cp6 hs8, innO 4 eBool none hs8 x4] aa ww) (sh42_1 x4) hy1 (fun a w h => h.weak ⟨rfl, rfl, trivial⟩ [0, 1] (by decide) rfl) ?_
      rintro x11 o1 hres hox1 aa ww hS
      refine (?_ : JX Go.Proofs.Try.prog w [] 21 _ _ [(4, .slice a5 x4.length cp6), (5, .int .i64 x11)] [rowT 104 eHd a5 x4.length cp6 hs8, innO 4 eBool none hs8 x4] _) aa ww hS
      clear hS
      unfold sh42_1 at hres
      refine JX.seq ?_
      refine JX.seq ?_
      refine JX.region ?_
      refine JL.val (yl_move rfl) rfl ?_
      refine JL.val (yl_move rfl) rfl ?_
      obtain ⟨x12, hx12, hres⟩ := bind_some hres
      refine JL.eff (ef_call (T := T104 x12) Go.Proofs.Try.func104 rfl (by kernel_rfl) rfl (fun w hC => c104 (rd_row hC 0 rfl) (rd_inn hC 1 rfl) hi9 rfl (ln_row hC 0 rfl) (rd_nil _ eI64) rfl (Nat.le_refl 0) hx12)) rfl ?_
      rintro _ _ ⟨_, ⟨rfl, rfl⟩, rfl⟩
      refine JL.val (yl_not rfl) rfl ?_
      refine JL.nil ?_
      refine JE.weak (env' := [(4, .slice a5 x4.length cp6), (5, .int .i64 x11), (17, .bool !x12)]) (es' := [rowT 104 eHd a5 x4.length cp6 hs8, innO 4 eBool none hs8 x4]) [0, 1] ?_ ⟨rfl, rfl, rfl, trivial⟩ (by decide) rfl
      refine JE.code ?_
      rcases cond_some hres with ⟨hb, hres⟩ | ⟨hb, hres⟩
      · refine JX.condT rfl hb ?_
        refine JX.skip ?_
        refine JE.code ?_
        refine JX.block ?_
        refine JX.region ?_
        refine JL.val (yl_move rfl) rfl ?_
        refine JL.val (yl_add rfl rfl) rfl ?_
        refine JL.val (yl_assign rfl) rfl ?_
        refine JL.nil ?_
        refine JE.cont hres ?_
        exact fun a w h => h.weak ⟨rfl, rfl, trivial⟩ [0, 1] (by decide) rfl
      · refine JX.condF rfl hb ?_
        refine JX.exit ?_
        refine JE.qb rfl ?_
        obtain ⟨b1, hb1⟩ : ∃ b : Int, b = x11 := ⟨_, rfl⟩
        have hy1 : b1 = y1 := by rw [hb1]; exact hox1 _ (Option.some.inj hres).symm
        have hres := hresO1
        rw [← hy1] at hres
        refine JE.weak (env' := [(5, .int .i64 b1)]) (es' := []) [] ?_ ⟨(by subst hb1; rfl), trivial⟩ (by decide) (by subst hb1; rfl)
        refine JE.code ?_
        refine JX.seq ?_
        refine JX.region ?_
        refine JL.val (yl_move rfl) rfl ?_
        refine JL.val (yl_assign rfl) rfl ?_
        refine JL.val (yl_assign rfl) rfl ?_
        refine JL.nil ?_
        refine JE.code ?_
        refine JX.ret ?_
        obtain rfl := Option.some.inj hres
        refine JE.ret (rs := [.tmp 2, .tmp 3]) (vs := [.int .i64 b1, .int .i64 0]) rfl ⟨rfl, rfl, trivial⟩ ?_
        exact fun w' hb hs => ⟨_, _, ⟨rfl, rfl⟩, rfl, hb, hs.sel [] _ (by decide) rfl⟩

/- laws.f6big -/
def sh45 (q0 : List Int) : Option (Bool) := some (decide (4096 < (q0.length : Int)))
def T45 (r : Bool) (v : Value) (rs : List Own) : Prop := v = rets [.bool r] ∧ rs = []
set_option maxRecDepth 100000 in
theorem c45 {w : World} {q0 : List Int} {a_0 : Option Addr} {n_0 c_0 : Nat} (g_0 : Rd w a_0 (eU8.fl q0)) (l_0 : q0.length = n_0) (k_0 : n_0 ≤ c_0) {r : Bool} (hres : sh45 q0 = some r) : Calls Go.Proofs.Try.prog 45 [.slice a_0 n_0 c_0].toArray w (Ret w (T45 r)) := by
  subst l_0
  unfold sh45 at hres
  refine calls_of (n := 6) (M := []) (es := []) Go.Proofs.Try.func45 rfl rfl rfl (Sep.nil _ _ _) ?_
  refine JX.seq ?_
  refine JX.region ?_
  refine JL.val (yl_assign rfl) rfl ?_
  refine JL.nil ?_
  refine JE.code ?_
  refine JX.seq ?_
  refine JX.region ?_
  refine JL.val (yl_move rfl) rfl ?_
  refine JL.val (yl_len_slice Go.Proofs.Try.underlying54 rfl) rfl ?_
  refine JL.val (yl_gtr rfl rfl) rfl ?_
  refine JL.val (yl_assign rfl) rfl ?_
  refine JL.nil ?_
  refine JE.weak (env' := [(2, .bool (decide (4096 < (q0.length : Int))))]) (es' := []) [] ?_ ⟨rfl, trivial⟩ (by decide) rfl
  refine JE.code ?_
  refine JX.ret ?_
  obtain rfl := Option.some.inj hres
  refine JE.ret (rs := [.tmp 2]) (vs := [.bool (decide (4096 < (q0.length : Int)))]) rfl ⟨rfl, trivial⟩ ?_
  exact fun w' hb hs => ⟨_, _, ⟨rfl, rfl⟩, rfl, hb, hs.sel [] _ (by decide) rfl⟩

/- laws.f6ints -/
def sh51_1 (q0 : List Int) (q1 : List Int) : Int → Option (Int ⊕ (Unit ⊕ Bool))
  | x1 => bif decide (x1 < (q0.length : Int)) then (Option.bind (getI q0 x1) fun x3 => Option.bind (getI q1 x1) fun x4 => bif x3 != x4 then (some (.inr (.inr false))) else (some (.inl (w64 (x1 + 1))))) else (some (.inr (.inl ())))
def sh51 (q0 : List Int) (q1 : List Int) : Option (Bool) := bif (q0.length : Int) != (q1.length : Int) then (some false) else (Option.bind (iter (sh51_1 q0 q1) 0) fun y1 => elimS y1 (fun r => some r) fun b1 => (some true))
def T51 (r : Bool) (v : Value) (rs : List Own) : Prop := v = rets [.bool r] ∧ rs = []
set_option maxRecDepth 100000 in
theorem c51 {w : World} {q0 : List Int} {a_0 : Option Addr} {n_0 c_0 : Nat} (g_0 : Rd w a_0 (eI64.fl q0)) (l_0 : q0.length = n_0) (k_0 : n_0 ≤ c_0) {q1 : List Int} {a_1 : Option Addr} {n_1 c_1 : Nat} (g_1 : Rd w a_1 (eI64.fl q1)) (l_1 : q1.length = n_1) (k_1 : n_1 ≤ c_1) {r : Bool} (hres : sh51 q0 q1 = some r) : Calls Go.Proofs.Try.prog 51 [.slice a_0 n_0 c_0, .slice a_1 n_1 c_1].toArray w (Ret w (T51 r)) := by
  subst l_0
  subst l_1
  unfold sh51 at hres
  refine calls_of (n := 26) (M := []) (es := []) Go.Proofs.Try.func51 rfl rfl rfl (Sep.nil _ _ _) ?_
  refine JX.seq ?_
  refine JX.region ?_
  refine JL.val (yl_assign rfl) rfl ?_
  refine JL.nil ?_
  refine JE.code ?_
  refine JX.seq ?_
  refine JX.seq ?_
  refine JX.region ?_
  refine JL.val (yl_move rfl) rfl ?_
  refine JL.val (yl_len_slice Go.Proofs.Try.underlying22 rfl) rfl ?_
  refine JL.val (yl_move rfl) rfl ?_
  refine JL.val (yl_len_slice Go.Proofs.Try.underlying22 rfl) rfl ?_
  refine JL.val (yl_neq rfl rfl) rfl ?_
  refine JL.nil ?_
  refine JE.weak (env' := [(0, .slice a_0 q0.length c_0), (1, .slice a_1 q1.length c_1), (10, .bool ((q0.length : Int) != (q1.length : Int)))]) (es' := []) [] ?_ ⟨rfl, rfl, rfl, trivial⟩ (by decide) rfl
  refine JE.code ?_
  rcases cond_some hres with ⟨hb, hres⟩ | ⟨hb, hres⟩
  · refine JX.condT rfl hb ?_
    refine JX.seq ?_
    refine JX.region ?_
    refine JL.val (yl_assign rfl) rfl ?_
    refine JL.nil ?_
    refine JE.code ?_
    refine JX.ret ?_
    obtain rfl := Option.some.inj hres
    refine JE.ret (rs := [.tmp 4]) (vs := [.bool false]) rfl ⟨rfl, trivial⟩ ?_
    exact fun w' hb hs => ⟨_, _, ⟨rfl, rfl⟩, rfl, hb, hs.sel [] _ (by decide) rfl⟩
  · refine JX.condF rfl hb ?_
    refine JX.skip ?_
    refine JE.code ?_
    refine JX.seq ?_
    refine JX.seq ?_
    refine JX.region ?_
    refine JL.val (yl_assign rfl) rfl ?_
    refine JL.nil ?_
    refine JE.code ?_
    refine JX.block ?_
    obtain ⟨y1, hy1, hresO1⟩ := bind_some hres
    refine JX.loop (I := fun (s1 : Int) aa ww => St w [] 26 [(0, .slice a_0 q0.length c_0), (1, .slice a_1 q1.length c_1), (5, .int .i64 s1)] [] aa ww) (sh51_1 q0 q1) hy1 (fun a w h => h.weak ⟨rfl, rfl, rfl, trivial⟩ [] (by decide) rfl) ?_
    rintro x1 o1 hres hox1 aa ww hS
    refine (?_ : JX Go.Proofs.Try.prog w [] 26 _ _ [(0, .slice a_0 q0.length c_0), (1, .slice a_1 q1.length c_1), (5, .int .i64 x1)] [] _) aa ww hS
    clear hS
    unfold sh51_1 at hres
    refine JX.seq ?_
    refine JX.seq ?_
    refine JX.region ?_
    refine JL.val (yl_move rfl) rfl ?_
    refine JL.val (yl_move rfl) rfl ?_
    refine JL.val (yl_len_slice Go.Proofs.Try.underlying22 rfl) rfl ?_
    refine JL.val (yl_lss rfl rfl) rfl ?_
    refine JL.nil ?_
    refine JE.weak (env' := [(0, .slice a_0 q0.length c_0), (1, .slice a_1 q1.length c_1), (5, .int .i64 x1), (14, .bool (decide (x1 < (q0.length : Int))))]) (es' := []) [] ?_ ⟨rfl, rfl, rfl, rfl, trivial⟩ (by decide) rfl
    refine JE.code ?_
    rcases cond_some hres with ⟨hb, hres⟩ | ⟨hb, hres⟩
    · refine JX.condT rfl hb ?_
      refine JX.skip ?_
      refine JE.code ?_
      refine JX.seq ?_
      refine JX.block ?_
      refine JX.seq ?_
      refine JX.drawH [(0, .pure), (1, .pure), (2, .pure), (3, .read), (4, .pure), (5, .pure), (6, .pure), (7, .read), (8, .pure)] [] [] [] [] [] mixedP (by kernel_rfl) (by kernel_rfl) (by decide) rfl rfl ?_
      intro wrr2 Nr2 hFr2
      refine JH.pure rfl (yl_move rfl) rfl ?_
      refine JH.pure rfl (yl_move rfl) rfl ?_
      obtain ⟨x3, hx3, hres⟩ := bind_some hres
      refine JH.pure rfl (yl_idxQ Go.Proofs.Try.underlying22 i2 i2s rfl rfl hx3 rfl (rd_arg g_0 hFr2.cl) rfl) rfl ?_
      refine JH.read rfl (yl_loadT0 Go.Proofs.Try.underlying2 rfl rfl hx3 (fun w hw => hFr2.arg g_0 hw) rfl) rfl ?_
      refine JH.pure rfl (yl_move rfl) rfl ?_
      refine JH.pure rfl (yl_move rfl) rfl ?_
      obtain ⟨x4, hx4, hres⟩ := bind_some hres
      refine JH.pure rfl (yl_idxQ Go.Proofs.Try.underlying22 i2 i2s rfl rfl hx4 rfl (rd_arg g_1 hFr2.cl) rfl) rfl ?_
      refine JH.read rfl (yl_loadT0 Go.Proofs.Try.underlying2 rfl rfl hx4 (fun w hw => hFr2.arg g_1 hw) rfl) rfl ?_
      refine JH.pure rfl (yl_neq rfl rfl) rfl ?_
      refine JH.nil ?_
      refine JE.weak (env' := [(0, .slice a_0 q0.length c_0), (1, .slice a_1 q1.length c_1), (5, .int .i64 x1), (25, .bool (x3 != x4))]) (es' := []) [] ?_ ⟨rfl, rfl, rfl, rfl, trivial⟩ (by decide) rfl
      refine JE.code ?_
      rcases cond_some hres with ⟨hb, hres⟩ | ⟨hb, hres⟩
      · refine JX.condT rfl hb ?_
        refine JX.seq ?_
        refine JX.region ?_
        refine JL.val (yl_assign rfl) rfl ?_
        refine JL.nil ?_
        refine JE.code ?_
        refine JX.ret ?_
        refine JE.qbr ?_
        refine JE.qbr ?_
        have hres := elimS_inr hresO1 (hox1 _ (Option.some.inj hres).symm)
        obtain rfl := Option.some.inj hres
        refine JE.ret (rs := [.tmp 4]) (vs := [.bool false]) rfl ⟨rfl, trivial⟩ ?_
        exact fun w' hb hs => ⟨_, _, ⟨rfl, rfl⟩, rfl, hb, hs.sel [] _ (by decide) rfl⟩
      · refine JX.condF rfl hb ?_
        refine JX.skip ?_
        refine JE.code ?_
        refine JX.region ?_
        refine JL.val (yl_move rfl) rfl ?_
        refine JL.val (yl_add rfl rfl) rfl ?_
        refine JL.val (yl_assign rfl) rfl ?_
        refine JL.nil ?_
        refine JE.cont hres ?_
        exact fun a w h => h.weak ⟨rfl, rfl, rfl, trivial⟩ [] (by decide) rfl
    · refine JX.condF rfl hb ?_
      refine JX.exit ?_
      refine JE.qb rfl ?_
      obtain ⟨b1, hb1⟩ : ∃ b : Unit, b = () := ⟨_, rfl⟩
      have hy1 : Sum.inl b1 = y1 := by rw [hb1]; exact hox1 _ (Option.some.inj hres).symm
      have hres := elimS_inl hresO1 hy1
      refine JE.weak (env' := []) (es' := []) [] ?_ trivial (by decide) (by subst hb1; rfl)
      refine JE.code ?_
      refine JX.seq ?_
      refine JX.region ?_
      refine JL.val (yl_assign rfl) rfl ?_
      refine JL.nil ?_
      refine JE.code ?_
      refine JX.ret ?_
      obtain rfl := Option.some.inj hres
      refine JE.ret (rs := [.tmp 4]) (vs := [.bool true]) rfl ⟨rfl, trivial⟩ ?_
      exact fun w' hb hs => ⟨_, _, ⟨rfl, rfl⟩, rfl, hb, hs.sel [] _ (by decide) rfl⟩

/- (*spec.l00Src).next -/
def sh165 (q0 : Sl00Src) : Option (Int × Int × Int) := Option.bind (bif decide (q0.at_ < (q0.code.length : Int)) then (Option.bind (getI q0.code q0.at_) fun x5 => some (w64 (x5))) else (some 0)) fun j2 => (bif decide ((w64 (q0.at_ + 1)) ≤ (q0.code.length : Int)) then (some (j2, w64 (q0.at_ + 1), IntKind.u64.wrap ((IntKind.u64.wrap ((IntKind.u64.wrap (q0.seed * 6364136223846793005)) + (IntKind.u64.wrap (j2)))) + 1442695040888963407))) else (some (w64 (andI .u64 ((IntKind.u64.wrap ((IntKind.u64.wrap ((IntKind.u64.wrap (q0.seed * 6364136223846793005)) + (IntKind.u64.wrap (j2)))) + 1442695040888963407)) / 2 ^ 40) 255), w64 (q0.at_ + 1), IntKind.u64.wrap ((IntKind.u64.wrap ((IntKind.u64.wrap (q0.seed * 6364136223846793005)) + (IntKind.u64.wrap (j2)))) + 1442695040888963407))))
def T165 (gb_0 : Nat) (a_0_0 : Option Addr) (n_0_0 c_0_0 : Nat) (r : Int × Int × Int) (v : Value) (es' rs : List Own) : Prop := es' = [boxO 162 gb_0 [.slice a_0_0 n_0_0 c_0_0, .int .i64 r.2.1, .int .u64 r.2.2]] ∧ v = rets [.int .i64 r.1] ∧ rs = []
set_option maxRecDepth 100000 in
theorem c165 {w : World} {M : List Nat} {q0 : Sl00Src} {gb_0 : Nat} {a_0_0 : Option Addr} {n_0_0 c_0_0 : Nat} (g_0_0 : RdS M w a_0_0 (eU8.fl q0.code)) (l_0_0 : q0.code.length = n_0_0) (k_0_0 : n_0_0 ≤ c_0_0) (gs : Sep w.heap.size M w [boxO 162 gb_0 [.slice a_0_0 n_0_0 c_0_0, .int .i64 q0.at_, .int .u64 q0.seed]]) {r : Int × Int × Int} (hres : sh165 q0 = some r) : Calls Go.Proofs.Try.prog 165 [ptrAt (some ⟨gb_0, 0, none⟩) 0].toArray w (RetMs w M (T165 gb_0 a_0_0 n_0_0 c_0_0 r)) := by
  subst l_0_0
  unfold sh165 at hres
  refine calls_of (n := 62) (M := M) (es := [boxO 162 gb_0 [.slice a_0_0 q0.code.length c_0_0, .int .i64 q0.at_, .int .u64 q0.seed]]) Go.Proofs.Try.func165 rfl rfl rfl gs ?_
  refine JX.seq ?_
  refine JX.region ?_
  refine JL.val (yl_assign rfl) rfl ?_
  refine JL.nil ?_
  refine JE.code ?_
  refine JX.seq ?_
  refine JX.region ?_
  refine JL.val (yl_assign rfl) rfl ?_
  refine JL.nil ?_
  refine JE.code ?_
  refine JX.seq ?_
  refine JX.seq ?_
  refine JX.drawH [(0, .pure), (1, .pure), (2, .pure), (3, .read), (4, .pure), (5, .pure), (6, .pure), (7, .read), (8, .pure), (9, .pure)] [] [] [0] [] [boxO 162 gb_0 [.slice a_0_0 q0.code.length c_0_0, .int .i64 q0.at_, .int .u64 q0.seed]] mixedP (by kernel_rfl) (by kernel_rfl) (by decide) rfl rfl ?_
  intro wrr1 Nr1 hFr1
  refine JH.pure rfl (yl_move rfl) rfl ?_
  refine JH.pure rfl (yl_nilCheckAt (a := some _) rfl rfl) rfl ?_
  refine JH.pure rfl (yl_fieldAt (a := some _) Go.Proofs.Try.underlying162 rfl i3 i3n rfl rfl) rfl ?_
  refine JH.read rfl (yl_load1 Go.Proofs.Try.underlying3 rfl rfl (fun w hw => hFr1.box 0 rfl rfl hw) rfl) rfl ?_
  refine JH.pure rfl (yl_move rfl) rfl ?_
  refine JH.pure rfl (yl_nilCheckAt (a := some _) rfl rfl) rfl ?_
  refine JH.pure rfl (yl_fieldAt (a := some _) Go.Proofs.Try.underlying162 rfl i54 i54n rfl rfl) rfl ?_
  refine JH.read rfl (yl_load1 Go.Proofs.Try.underlying54 rfl rfl (fun w hw => hFr1.box 0 rfl rfl hw) rfl) rfl ?_
  refine JH.pure rfl (yl_len_slice Go.Proofs.Try.underlying54 rfl) rfl ?_
  refine JH.pure rfl (yl_lss rfl rfl) rfl ?_
  refine JH.nil ?_
  refine JE.weak (env' := [(0, ptrAt (some ⟨gb_0, 0, none⟩) 0), (3, .int .i64 0), (13, .bool (decide (q0.at_ < (q0.code.length : Int))))]) (es' := [boxO 162 gb_0 [.slice a_0_0 q0.code.length c_0_0, .int .i64 q0.at_, .int .u64 q0.seed]]) [0] ?_ ⟨rfl, rfl, rfl, trivial⟩ (by decide) rfl
  refine JE.code ?_
  obtain ⟨j2, hj2, hresj2⟩ := bind_some hres
  refine JX.cut (K := fun J => J [(0, ptrAt (some ⟨gb_0, 0, none⟩) 0), (3, .int .i64 j2)] [boxO 162 gb_0 [.slice a_0_0 q0.code.length c_0_0, .int .i64 q0.at_, .int .u64 q0.seed]]) ?_ ?_
  · have hres := hresj2
    refine JE.code ?_
    refine JX.seq ?_
    refine JX.region ?_
    refine JL.val (yl_move rfl) rfl ?_
    refine JL.val (yl_nilCheckAt (a := some _) rfl rfl) rfl ?_
    refine JL.val (yl_fieldAt (a := some _) Go.Proofs.Try.underlying162 rfl i3 i3n rfl rfl) rfl ?_
    refine JL.val (yl_load1 Go.Proofs.Try.underlying3 rfl rfl (fun w hC => rd_box hC 0 rfl) rfl) rfl ?_
    refine JL.val (yl_add rfl rfl) rfl ?_
    refine JL.val (yl_nilCheckAt (a := some _) rfl rfl) rfl ?_
    refine JL.val (yl_fieldAt (a := some _) Go.Proofs.Try.underlying162 rfl i3 i3n rfl rfl) rfl ?_
    refine JL.eff (ef_store_box (i := 0) (v := .int .i64 (w64 (q0.at_ + 1))) i3 rfl rfl rfl (i3s).symm (Nat.le_of_ble_eq_true rfl) (by simp [Value.cells, Value.oneCell'])) rfl ?_
    rintro _ _ rfl
    refine JL.nil ?_
    refine JE.weak (env' := [(0, ptrAt (some ⟨gb_0, 0, none⟩) 0), (3, .int .i64 j2)]) (es' := [boxO 162 gb_0 [.slice a_0_0 q0.code.length c_0_0, .int .i64 (w64 (q0.at_ + 1)), .int .u64 q0.seed]]) [0] ?_ ⟨rfl, rfl, trivial⟩ (by decide) rfl
    refine JE.code ?_
    refine JX.seq ?_
    refine JX.region ?_
    refine JL.val (yl_move rfl) rfl ?_
    refine JL.val (yl_move rfl) rfl ?_
    refine JL.val (yl_nilCheckAt (a := some _) rfl rfl) rfl ?_
    refine JL.val (yl_fieldAt (a := some _) Go.Proofs.Try.underlying162 rfl i160 i160n rfl rfl) rfl ?_
    refine JL.val (yl_load1 Go.Proofs.Try.underlying160 rfl rfl (fun w hC => rd_box hC 0 rfl) rfl) rfl ?_
    refine JL.val (yl_mul rfl rfl) rfl ?_
    refine JL.val (yl_move rfl) rfl ?_
    refine JL.val (yl_conv Go.Proofs.Try.underlying3 Go.Proofs.Try.underlying160 rfl) rfl ?_
    refine JL.val (yl_add rfl rfl) rfl ?_
    refine JL.val (yl_add rfl rfl) rfl ?_
    refine JL.val (yl_nilCheckAt (a := some _) rfl rfl) rfl ?_
    refine JL.val (yl_fieldAt (a := some _) Go.Proofs.Try.underlying162 rfl i160 i160n rfl rfl) rfl ?_
    refine JL.eff (ef_store_box (i := 0) (v := .int .u64 (IntKind.u64.wrap ((IntKind.u64.wrap ((IntKind.u64.wrap (q0.seed * 6364136223846793005)) + (IntKind.u64.wrap (j2)))) + 1442695040888963407))) i160 rfl rfl rfl (i160s).symm (Nat.le_of_ble_eq_true rfl) (by simp [Value.cells, Value.oneCell'])) rfl ?_
    rintro _ _ rfl
    refine JL.nil ?_
    refine JE.weak (env' := [(0, ptrAt (some ⟨gb_0, 0, none⟩) 0), (3, .int .i64 j2)]) (es' := [boxO 162 gb_0 [.slice a_0_0 q0.code.length c_0_0, .int .i64 (w64 (q0.at_ + 1)), .int .u64 (IntKind.u64.wrap ((IntKind.u64.wrap ((IntKind.u64.wrap (q0.seed * 6364136223846793005)) + (IntKind.u64.wrap (j2)))) + 1442695040888963407))]]) [0] ?_ ⟨rfl, rfl, trivial⟩ (by decide) rfl
    refine JE.code ?_
    refine JX.seq ?_
    refine JX.seq ?_
    refine JX.drawH [(0, .pure), (1, .pure), (2, .pure), (3, .read), (4, .pure), (5, .pure), (6, .pure), (7, .read), (8, .pure), (9, .pure)] [] [] [0] [] [boxO 162 gb_0 [.slice a_0_0 q0.code.length c_0_0, .int .i64 (w64 (q0.at_ + 1)), .int .u64 (IntKind.u64.wrap ((IntKind.u64.wrap ((IntKind.u64.wrap (q0.seed * 6364136223846793005)) + (IntKind.u64.wrap (j2)))) + 1442695040888963407))]] mixedP (by kernel_rfl) (by kernel_rfl) (by decide) rfl rfl ?_
    intro wrr3 Nr3 hFr3
    refine JH.pure rfl (yl_move rfl) rfl ?_
    refine JH.pure rfl (yl_nilCheckAt (a := some _) rfl rfl) rfl ?_
    refine JH.pure rfl (yl_fieldAt (a := some _) Go.Proofs.Try.underlying162 rfl i3 i3n rfl rfl) rfl ?_
    refine JH.read rfl (yl_load1 Go.Proofs.Try.underlying3 rfl rfl (fun w hw => hFr3.box 0 rfl rfl hw) rfl) rfl ?_
    refine JH.pure rfl (yl_move rfl) rfl ?_
    refine JH.pure rfl (yl_nilCheckAt (a := some _) rfl rfl) rfl ?_
    refine JH.pure rfl (yl_fieldAt (a := some _) Go.Proofs.Try.underlying162 rfl i54 i54n rfl rfl) rfl ?_
    refine JH.read rfl (yl_load1 Go.Proofs.Try.underlying54 rfl rfl (fun w hw => hFr3.box 0 rfl rfl hw) rfl) rfl ?_
    refine JH.pure rfl (yl_len_slice Go.Proofs.Try.underlying54 rfl) rfl ?_
    refine JH.pure rfl (yl_leq rfl rfl) rfl ?_
    refine JH.nil ?_
    refine JE.weak (env' := [(0, ptrAt (some ⟨gb_0, 0, none⟩) 0), (3, .int .i64 j2), (53, .bool (decide ((w64 (q0.at_ + 1)) ≤ (q0.code.length : Int))))]) (es' := [boxO 162 gb_0 [.slice a_0_0 q0.code.length c_0_0, .int .i64 (w64 (q0.at_ + 1)), .int .u64 (IntKind.u64.wrap ((IntKind.u64.wrap ((IntKind.u64.wrap (q0.seed * 6364136223846793005)) + (IntKind.u64.wrap (j2)))) + 1442695040888963407))]]) [0] ?_ ⟨rfl, rfl, rfl, trivial⟩ (by decide) rfl
    refine JE.code ?_
    rcases cond_some hres with ⟨hb, hres⟩ | ⟨hb, hres⟩
    · refine JX.condT rfl hb ?_
      refine JX.seq ?_
      refine JX.region ?_
      refine JL.val (yl_move rfl) rfl ?_
      refine JL.val (yl_assign rfl) rfl ?_
      refine JL.nil ?_
      refine JE.code ?_
      refine JX.ret ?_
      obtain rfl := Option.some.inj hres
      refine JE.ret (rs := [.tmp 2]) (vs := [.int .i64 j2]) rfl ⟨rfl, trivial⟩ ?_
      exact fun w' hb hs => ⟨_, _, _, ⟨rfl, rfl, rfl⟩, rfl, hb, hs.sel [0] _ (by decide) rfl⟩
    · refine JX.condF rfl hb ?_
      refine JX.skip ?_
      refine JE.code ?_
      refine JX.seq ?_
      refine JX.region ?_
      refine JL.val (yl_move rfl) rfl ?_
      refine JL.val (yl_nilCheckAt (a := some _) rfl rfl) rfl ?_
      refine JL.val (yl_fieldAt (a := some _) Go.Proofs.Try.underlying162 rfl i160 i160n rfl rfl) rfl ?_
      refine JL.val (yl_load1 Go.Proofs.Try.underlying160 rfl rfl (fun w hC => rd_box hC 0 rfl) rfl) rfl ?_
      refine JL.val (yl_shr rfl rfl (by decide) (by decide)) rfl ?_
      refine JL.val (yl_and rfl rfl) rfl ?_
      refine JL.val (yl_conv Go.Proofs.Try.underlying160 Go.Proofs.Try.underlying2 rfl) rfl ?_
      refine JL.val (yl_assign rfl) rfl ?_
      refine JL.nil ?_
      refine JE.weak (env' := [(2, .int .i64 (w64 (andI .u64 ((IntKind.u64.wrap ((IntKind.u64.wrap ((IntKind.u64.wrap (q0.seed * 6364136223846793005)) + (IntKind.u64.wrap (j2)))) + 1442695040888963407)) / 2 ^ 40) 255)))]) (es' := [boxO 162 gb_0 [.slice a_0_0 q0.code.length c_0_0, .int .i64 (w64 (q0.at_ + 1)), .int .u64 (IntKind.u64.wrap ((IntKind.u64.wrap ((IntKind.u64.wrap (q0.seed * 6364136223846793005)) + (IntKind.u64.wrap (j2)))) + 1442695040888963407))]]) [0] ?_ ⟨rfl, trivial⟩ (by decide) rfl
      refine JE.code ?_
      refine JX.ret ?_
      obtain rfl := Option.some.inj hres
      refine JE.ret (rs := [.tmp 2]) (vs := [.int .i64 (w64 (andI .u64 ((IntKind.u64.wrap ((IntKind.u64.wrap ((IntKind.u64.wrap (q0.seed * 6364136223846793005)) + (IntKind.u64.wrap (j2)))) + 1442695040888963407)) / 2 ^ 40) 255))]) rfl ⟨rfl, trivial⟩ ?_
      exact fun w' hb hs => ⟨_, _, _, ⟨rfl, rfl, rfl⟩, rfl, hb, hs.sel [0] _ (by decide) rfl⟩
  · intro K
    rcases cond_some hj2 with ⟨hb, hres⟩ | ⟨hb, hres⟩
    · refine JX.condT rfl hb ?_
      refine JX.drawH [(0, .pure), (1, .pure), (2, .pure), (3, .read), (4, .pure), (5, .pure), (6, .pure), (7, .read), (8, .pure), (9, .read), (10, .pure), (11, .pure)] [] [] [0] [] [boxO 162 gb_0 [.slice a_0_0 q0.code.length c_0_0, .int .i64 q0.at_, .int .u64 q0.seed]] mixedP (by kernel_rfl) (by kernel_rfl) (by decide) rfl rfl ?_
      intro wrr4 Nr4 hFr4
      refine JH.pure rfl (yl_move rfl) rfl ?_
      refine JH.pure rfl (yl_nilCheckAt (a := some _) rfl rfl) rfl ?_
      refine JH.pure rfl (yl_fieldAt (a := some _) Go.Proofs.Try.underlying162 rfl i54 i54n rfl rfl) rfl ?_
      refine JH.read rfl (yl_load1 Go.Proofs.Try.underlying54 rfl rfl (fun w hw => hFr4.box 0 rfl rfl hw) rfl) rfl ?_
      refine JH.pure rfl (yl_move rfl) rfl ?_
      refine JH.pure rfl (yl_nilCheckAt (a := some _) rfl rfl) rfl ?_
      refine JH.pure rfl (yl_fieldAt (a := some _) Go.Proofs.Try.underlying162 rfl i3 i3n rfl rfl) rfl ?_
      refine JH.read rfl (yl_load1 Go.Proofs.Try.underlying3 rfl rfl (fun w hw => hFr4.box 0 rfl rfl hw) rfl) rfl ?_
      obtain ⟨x5, hx5, hres⟩ := bind_some hres
      refine JH.pure rfl (yl_idxQ Go.Proofs.Try.underlying54 i5 i5s rfl rfl hx5 rfl (rd_argS g_0_0 hFr4.cl) rfl) rfl ?_
      refine JH.read rfl (yl_loadT0 Go.Proofs.Try.underlying5 rfl rfl hx5 (fun w hw => hFr4.argS g_0_0 hw) rfl) rfl ?_
      refine JH.pure rfl (yl_conv Go.Proofs.Try.underlying5 Go.Proofs.Try.underlying3 rfl) rfl ?_
      refine JH.pure rfl (yl_assign rfl) rfl ?_
      refine JH.nil ?_
      refine JE.weak (env' := [(0, ptrAt (some ⟨gb_0, 0, none⟩) 0), (3, .int .i64 (w64 (x5)))]) (es' := [boxO 162 gb_0 [.slice a_0_0 q0.code.length c_0_0, .int .i64 q0.at_, .int .u64 q0.seed]]) [0] ?_ ⟨rfl, rfl, trivial⟩ (by decide) rfl
      have hj := Option.some.inj hres
      exact JE.weak [0] (K) ⟨(by subst hj; rfl), (by subst hj; rfl), trivial⟩ (by decide) (by subst hj; rfl)
    · refine JX.condF rfl hb ?_
      refine JX.skip ?_
      have hj := Option.some.inj hres
      exact JE.weak [0] (K) ⟨(by subst hj; rfl), (by subst hj; rfl), trivial⟩ (by decide) (by subst hj; rfl)

/- (*spec.l00Src).pick -/
def sh113 (q0 : Sl00Src) (q1 : Int) : Option (Int × Int × Int) := bif decide (q1 ≤ 1) then (some (0, q0.at_, q0.seed)) else (Option.bind (sh165 q0) fun x1 => Option.bind (bif decide (200 < q1) then (Option.bind (sh165 (Sl00Src.mk q0.code x1.2.1 x1.2.2)) fun x4 => some (w64 ((w64 (x1.1 * 256)) + x4.1), (x4.2.1, x4.2.2))) else (some (x1.1, (x1.2.1, x1.2.2)))) fun j2 => (Option.bind (nzI q1) fun x3 => some (j2.1.tmod q1, j2.2.1, j2.2.2)))
def T113 (gb_0 : Nat) (a_0_0 : Option Addr) (n_0_0 c_0_0 : Nat) (r : Int × Int × Int) (v : Value) (es' rs : List Own) : Prop := es' = [boxO 162 gb_0 [.slice a_0_0 n_0_0 c_0_0, .int .i64 r.2.1, .int .u64 r.2.2]] ∧ v = rets [.int .i64 r.1] ∧ rs = []
set_option maxRecDepth 100000 in
theorem c113 {w : World} {M : List Nat} {q0 : Sl00Src} {gb_0 : Nat} {a_0_0 : Option Addr} {n_0_0 c_0_0 : Nat} (g_0_0 : RdS M w a_0_0 (eU8.fl q0.code)) (l_0_0 : q0.code.length = n_0_0) (k_0_0 : n_0_0 ≤ c_0_0) {q1 : Int} (gs : Sep w.heap.size M w [boxO 162 gb_0 [.slice a_0_0 n_0_0 c_0_0, .int .i64 q0.at_, .int .u64 q0.seed]]) {r : Int × Int × Int} (hres : sh113 q0 q1 = some r) : Calls Go.Proofs.Try.prog 113 [ptrAt (some ⟨gb_0, 0, none⟩) 0, .int .i64 q1].toArray w (RetMs w M (T113 gb_0 a_0_0 n_0_0 c_0_0 r)) := by
  subst l_0_0
  unfold sh113 at hres
  refine calls_of (n := 20) (M := M) (es := [boxO 162 gb_0 [.slice a_0_0 q0.code.length c_0_0, .int .i64 q0.at_, .int .u64 q0.seed]]) Go.Proofs.Try.func113 rfl rfl rfl gs ?_
  refine JX.seq ?_
  refine JX.region ?_
  refine JL.val (yl_assign rfl) rfl ?_
  refine JL.nil ?_
  refine JE.code ?_
  refine JX.seq ?_
  refine JX.seq ?_
  refine JX.region ?_
  refine JL.val (yl_move rfl) rfl ?_
  refine JL.val (yl_leq rfl rfl) rfl ?_
  refine JL.nil ?_
  refine JE.code ?_
  rcases cond_some hres with ⟨hb, hres⟩ | ⟨hb, hres⟩
  · refine JX.condT rfl hb ?_
    refine JX.seq ?_
    refine JX.region ?_
    refine JL.val (yl_assign rfl) rfl ?_
    refine JL.nil ?_
    refine JE.code ?_
    refine JX.ret ?_
    obtain rfl := Option.some.inj hres
    refine JE.ret (rs := [.tmp 4]) (vs := [.int .i64 0]) rfl ⟨rfl, trivial⟩ ?_
    exact fun w' hb hs => ⟨_, _, _, ⟨rfl, rfl, rfl⟩, rfl, hb, hs.sel [0] _ (by decide) rfl⟩
  · refine JX.condF rfl hb ?_
    refine JX.skip ?_
    refine JE.code ?_
    refine JX.seq ?_
    refine JX.region ?_
    refine JL.val (yl_move rfl) rfl ?_
    obtain ⟨x1, hx1, hres⟩ := bind_some hres
    refine JL.eff (ef_callms (caps := []) (vs := [ptrAt (some ⟨gb_0, 0, none⟩) 0]) (T := T165 gb_0 a_0_0 q0.code.length c_0_0 x1) [0] [] [boxO 162 gb_0 [.slice a_0_0 q0.code.length c_0_0, .int .i64 q0.at_, .int .u64 q0.seed]] [] rfl Go.Proofs.Try.func165 rfl (by kernel_rfl) rfl (by decide) rfl rfl (fun w N hF hS => c165 (q0 := q0) (RdS.pass hF g_0_0) rfl k_0_0 hS hx1)) rfl ?_
    rintro _ _ ⟨_, _, ⟨rfl, rfl, rfl⟩, rfl⟩
    refine JL.val (yl_assign rfl) rfl ?_
    refine JL.nil ?_
    refine JE.code ?_
    refine JX.seq ?_
    refine JX.seq ?_
    refine JX.region ?_
    refine JL.val (yl_move rfl) rfl ?_
    refine JL.val (yl_gtr rfl rfl) rfl ?_
    refine JL.nil ?_
    refine JE.code ?_
    obtain ⟨j2, hj2, hresj2⟩ := bind_some hres
    refine JX.cut (K := fun J => J [(1, .int .i64 q1), (5, .int .i64 j2.1)] [boxO 162 gb_0 [.slice a_0_0 q0.code.length c_0_0, .int .i64 j2.2.1, .int .u64 j2.2.2]]) ?_ ?_
    · have hres := hresj2
      refine JE.code ?_
      refine JX.seq ?_
      refine JX.region ?_
      refine JL.val (yl_move rfl) rfl ?_
      refine JL.val (yl_move rfl) rfl ?_
      obtain ⟨x3, hx3, hres⟩ := bind_some hres
      refine JL.val (yl_rem rfl rfl (nzI_some hx3)) rfl ?_
      refine JL.val (yl_assign rfl) rfl ?_
      refine JL.nil ?_
      refine JE.weak (env' := [(4, .int .i64 (j2.1.tmod q1))]) (es' := [boxO 162 gb_0 [.slice a_0_0 q0.code.length c_0_0, .int .i64 j2.2.1, .int .u64 j2.2.2]]) [0] ?_ ⟨rfl, trivial⟩ (by decide) rfl
      refine JE.code ?_
      refine JX.ret ?_
      obtain rfl := Option.some.inj hres
      refine JE.ret (rs := [.tmp 4]) (vs := [.int .i64 (j2.1.tmod q1)]) rfl ⟨rfl, trivial⟩ ?_
      exact fun w' hb hs => ⟨_, _, _, ⟨rfl, rfl, rfl⟩, rfl, hb, hs.sel [0] _ (by decide) rfl⟩
    · intro K
      rcases cond_some hj2 with ⟨hb, hres⟩ | ⟨hb, hres⟩
      · refine JX.condT rfl hb ?_
        refine JX.region ?_
        refine JL.val (yl_move rfl) rfl ?_
        refine JL.val (yl_mul rfl rfl) rfl ?_
        refine JL.val (yl_move rfl) rfl ?_
        obtain ⟨x4, hx4, hres⟩ := bind_some hres
        refine JL.eff (ef_callms (caps := []) (vs := [ptrAt (some ⟨gb_0, 0, none⟩) 0]) (T := T165 gb_0 a_0_0 q0.code.length c_0_0 x4) [0] [] [boxO 162 gb_0 [.slice a_0_0 q0.code.length c_0_0, .int .i64 x1.2.1, .int .u64 x1.2.2]] [] rfl Go.Proofs.Try.func165 rfl (by kernel_rfl) rfl (by decide) rfl rfl (fun w N hF hS => c165 (q0 := Sl00Src.mk q0.code x1.2.1 x1.2.2) (RdS.pass hF g_0_0) rfl k_0_0 hS hx4)) rfl ?_
        rintro _ _ ⟨_, _, ⟨rfl, rfl, rfl⟩, rfl⟩
        refine JL.val (yl_add rfl rfl) rfl ?_
        refine JL.val (yl_assign rfl) rfl ?_
        refine JL.nil ?_
        refine JE.weak (env' := [(1, .int .i64 q1), (5, .int .i64 (w64 ((w64 (x1.1 * 256)) + x4.1)))]) (es' := [boxO 162 gb_0 [.slice a_0_0 q0.code.length c_0_0, .int .i64 x4.2.1, .int .u64 x4.2.2]]) [0] ?_ ⟨rfl, rfl, trivial⟩ (by decide) rfl
        have hj := Option.some.inj hres
        exact JE.weak [0] (K) ⟨(by subst hj; rfl), (by subst hj; rfl), trivial⟩ (by decide) (by subst hj; rfl)
      · refine JX.condF rfl hb ?_
        refine JX.skip ?_
        have hj := Option.some.inj hres
        exact JE.weak [0] (K) ⟨(by subst hj; rfl), (by subst hj; rfl), trivial⟩ (by decide) (by subst hj; rfl)

/- (*spec.l00Src).among -/
def sh124 (q0 : Sl00Src) (q1 : List Int) : Option (Int × Int × Int) := Option.bind (sh113 q0 (q1.length : Int)) fun x1 => Option.bind (getI q1 x1.1) fun x2 => some (x2, x1.2.1, x1.2.2)
def T124 (gb_0 : Nat) (a_0_0 : Option Addr) (n_0_0 c_0_0 : Nat) (r : Int × Int × Int) (v : Value) (es' rs : List Own) : Prop := es' = [boxO 162 gb_0 [.slice a_0_0 n_0_0 c_0_0, .int .i64 r.2.1, .int .u64 r.2.2]] ∧ v = rets [.int .i64 r.1] ∧ rs = []
set_option maxRecDepth 100000 in
theorem c124 {w : World} {M : List Nat} {q0 : Sl00Src} {gb_0 : Nat} {a_0_0 : Option Addr} {n_0_0 c_0_0 : Nat} (g_0_0 : RdS M w a_0_0 (eU8.fl q0.code)) (l_0_0 : q0.code.length = n_0_0) (k_0_0 : n_0_0 ≤ c_0_0) {q1 : List Int} {a_1 : Option Addr} {n_1 c_1 : Nat} (g_1 : RdS M w a_1 (eI64.fl q1)) (l_1 : q1.length = n_1) (k_1 : n_1 ≤ c_1) (gs : Sep w.heap.size M w [boxO 162 gb_0 [.slice a_0_0 n_0_0 c_0_0, .int .i64 q0.at_, .int .u64 q0.seed]]) {r : Int × Int × Int} (hres : sh124 q0 q1 = some r) : Calls Go.Proofs.Try.prog 124 [ptrAt (some ⟨gb_0, 0, none⟩) 0, .slice a_1 n_1 c_1].toArray w (RetMs w M (T124 gb_0 a_0_0 n_0_0 c_0_0 r)) := by
  subst l_0_0
  subst l_1
  unfold sh124 at hres
  refine calls_of (n := 12) (M := M) (es := [boxO 162 gb_0 [.slice a_0_0 q0.code.length c_0_0, .int .i64 q0.at_, .int .u64 q0.seed]]) Go.Proofs.Try.func124 rfl rfl rfl gs ?_
  refine JX.seq ?_
  refine JX.region ?_
  refine JL.val (yl_assign rfl) rfl ?_
  refine JL.nil ?_
  refine JE.code ?_
  refine JX.seq ?_
  refine JX.region ?_
  refine JL.val (yl_move rfl) rfl ?_
  refine JL.val (yl_move rfl) rfl ?_
  refine JL.val (yl_move rfl) rfl ?_
  refine JL.val (yl_len_slice Go.Proofs.Try.underlying22 rfl) rfl ?_
  obtain ⟨x1, hx1, hres⟩ := bind_some hres
  refine JL.eff (ef_callms (caps := []) (vs := [ptrAt (some ⟨gb_0, 0, none⟩) 0, .int .i64 (q1.length : Int)]) (T := T113 gb_0 a_0_0 q0.code.length c_0_0 x1) [0] [] [boxO 162 gb_0 [.slice a_0_0 q0.code.length c_0_0, .int .i64 q0.at_, .int .u64 q0.seed]] [] rfl Go.Proofs.Try.func113 rfl (by kernel_rfl) rfl (by decide) rfl rfl (fun w N hF hS => c113 (q0 := q0) (RdS.pass hF g_0_0) rfl k_0_0 hS hx1)) rfl ?_
  rintro _ _ ⟨_, _, ⟨rfl, rfl, rfl⟩, rfl⟩
  obtain ⟨x2, hx2, hres⟩ := bind_some hres
  refine JL.val (yl_idxT Go.Proofs.Try.underlying22 i2 i2s rfl rfl hx2 rfl (fun w hC => rd_argS g_1 hC)) rfl ?_
  refine JL.val (yl_loadT0 Go.Proofs.Try.underlying2 rfl rfl hx2 (fun w hC => rd_argS g_1 hC) rfl) rfl ?_
  refine JL.val (yl_assign rfl) rfl ?_
  refine JL.nil ?_
  refine JE.weak (env' := [(4, .int .i64 x2)]) (es' := [boxO 162 gb_0 [.slice a_0_0 q0.code.length c_0_0, .int .i64 x1.2.1, .int .u64 x1.2.2]]) [0] ?_ ⟨rfl, trivial⟩ (by decide) rfl
  refine JE.code ?_
  refine JX.ret ?_
  obtain rfl := Option.some.inj hres
  refine JE.ret (rs := [.tmp 4]) (vs := [.int .i64 x2]) rfl ⟨rfl, trivial⟩ ?_
  exact fun w' hb hs => ⟨_, _, _, ⟨rfl, rfl, rfl⟩, rfl, hb, hs.sel [0] _ (by decide) rfl⟩

/- spec.l02New -/
def sh163 (q0 : Int) (q1 : Int) : Option (SPanel) := Option.bind (sh144 q0 q1) fun x3 => Option.bind (mkL x3 0) fun x4 => some (SPanel.mk q0 q1 x4)
def T163 (r : SPanel) (v : Value) (rs : List Own) : Prop := ∃ (a0_2 : Option Addr) (n0_2 c0_2 : Nat), r.Breaks.length = n0_2 ∧ v = rets [.agg #[.int .i64 r.W, .int .i64 r.H, .slice a0_2 n0_2 c0_2]] ∧ rs = [rowT 2 eI64 a0_2 n0_2 c0_2 r.Breaks]
set_option maxRecDepth 100000 in
theorem c163 {w : World} {q0 : Int} {q1 : Int} {r : SPanel} (hres : sh163 q0 q1 = some r) : Calls Go.Proofs.Try.prog 163 [.int .i64 q0, .int .i64 q1].toArray w (Ret w (T163 r)) := by
  unfold sh163 at hres
  refine calls_of (n := 12) (M := []) (es := []) Go.Proofs.Try.func163 rfl rfl rfl (Sep.nil _ _ _) ?_
  refine JX.seq ?_
  refine JX.region ?_
  refine JL.eff (ef_alloc i28 i28z rfl) rfl ?_
  rintro _ _ ⟨g1, rfl, rfl⟩
  refine JL.nil ?_
  refine JE.code ?_
  refine JX.seq ?_
  refine JX.region ?_
  refine JL.val (yl_move rfl) rfl ?_
  refine JL.val (yl_move rfl) rfl ?_
  refine JL.val (yl_move rfl) rfl ?_
  refine JL.val (yl_move rfl) rfl ?_
  obtain ⟨x3, hx3, hres⟩ := bind_some hres
  refine JL.eff (ef_call (T := T144 x3) Go.Proofs.Try.func144 rfl (by kernel_rfl) rfl (fun w hC => c144  hx3)) rfl ?_
  rintro _ _ ⟨_, ⟨rfl, rfl⟩, rfl⟩
  obtain ⟨x4, hx4, hres⟩ := bind_some hres
  refine JL.eff (ef_makeS (e := eI64) Go.Proofs.Try.underlying22 i2 i2s i2z rfl i2b1 rfl rfl hx4) rfl ?_
  rintro _ _ ⟨a5, rfl, rfl⟩
  refine JL.val (yl_build rfl (fun w => bld28_0_1_2 q0 q1 a5 x4.length x4.length w)) rfl ?_
  refine JL.eff (ef_store_box (i := 0) (v := .agg #[.int .i64 q0, .int .i64 q1, .slice a5 x4.length x4.length]) i28 rfl rfl rfl (i28s).symm (Nat.le_of_ble_eq_true rfl) (by simp [Value.cells, Value.oneCell'])) rfl ?_
  rintro _ _ rfl
  refine JL.nil ?_
  refine JE.weak (env' := [(4, ptrAt (some ⟨g1, 0, none⟩) 0)]) (es' := [boxO 28 g1 [.int .i64 q0, .int .i64 q1, .slice a5 x4.length x4.length], rowT 2 eI64 a5 x4.length x4.length x4]) [0, 1] ?_ ⟨rfl, trivial⟩ (by decide) rfl
  refine JE.code ?_
  refine JX.ret ?_
  obtain rfl := Option.some.inj hres
  refine JE.ret (rs := [.cell 4 28]) (vs := [.agg #[.int .i64 q0, .int .i64 q1, .slice a5 x4.length x4.length]]) rfl ⟨rv_box 0 rfl rfl Go.Proofs.Try.underlying28 rfl i28 (i28s).symm, trivial⟩ ?_
  exact fun w' hb hs => ⟨_, _, ⟨a5, x4.length, x4.length, rfl, rfl, rfl⟩, rfl, hb, hs.sel [1] _ (by decide) rfl⟩

/- spec.l02Draw -/
def sh162_1 (q0 : Sl00Src) (x5 : SPanel) (x11 : Int × Int × Int) : (Int × (Int × Int) × List Int) → Option ((Int × (Int × Int) × List Int) ⊕ ((Int × Int) × List Int))
  | (x13, x14, x15) => bif decide (x13 < ((x5.Breaks.length : Nat) : Int)) then (Option.bind (sh113 (Sl00Src.mk q0.code x14.1 x14.2) 4) fun x17 => Option.bind (bif decide (x17.1 < x11.1) then (Option.bind (sh113 (Sl00Src.mk q0.code x17.2.1 x17.2.2) 2) fun x21 => Option.bind (getI x15 x13) fun x22 => some ((x21.2.1, x21.2.2), x15.set (x13).toNat (w64 (1 + x21.1)))) else (some ((x17.2.1, x17.2.2), x15))) fun j18 => (some (.inl (w64 (x13 + 1), (j18.1.1, j18.1.2), j18.2)))) else (some (.inr ((x14.1, x14.2), x15)))
def sh162 (q0 : Sl00Src) (q1 : Int) : Option (SPanel × Int × Int) := Option.bind (sh113 q0 q1) fun x3 => Option.bind (sh113 (Sl00Src.mk q0.code x3.2.1 x3.2.2) q1) fun x4 => Option.bind (sh163 (w64 (1 + x3.1)) (w64 (1 + x4.1))) fun x5 => Option.bind (sh113 (Sl00Src.mk q0.code x4.2.1 x4.2.2) 4) fun x11 => Option.bind (iter (sh162_1 q0 x5 x11) (0, (x11.2.1, x11.2.2), x5.Breaks)) fun b1 => (some (SPanel.mk x5.W x5.H b1.2, b1.1.1, b1.1.2))
def T162 (gb_0 : Nat) (a_0_0 : Option Addr) (n_0_0 c_0_0 : Nat) (r : SPanel × Int × Int) (v : Value) (es' rs : List Own) : Prop := es' = [boxO 162 gb_0 [.slice a_0_0 n_0_0 c_0_0, .int .i64 r.2.1, .int .u64 r.2.2]] ∧ ∃ (a0_2 : Option Addr) (n0_2 c0_2 : Nat), r.1.Breaks.length = n0_2 ∧ v = rets [.agg #[.int .i64 r.1.W, .int .i64 r.1.H, .slice a0_2 n0_2 c0_2]] ∧ rs = [rowT 2 eI64 a0_2 n0_2 c0_2 r.1.Breaks]
set_option maxRecDepth 100000 in
theorem c162 {w : World} {M : List Nat} {q0 : Sl00Src} {gb_0 : Nat} {a_0_0 : Option Addr} {n_0_0 c_0_0 : Nat} (g_0_0 : RdS M w a_0_0 (eU8.fl q0.code)) (l_0_0 : q0.code.length = n_0_0) (k_0_0 : n_0_0 ≤ c_0_0) {q1 : Int} (gs : Sep w.heap.size M w [boxO 162 gb_0 [.slice a_0_0 n_0_0 c_0_0, .int .i64 q0.at_, .int .u64 q0.seed]]) {r : SPanel × Int × Int} (hres : sh162 q0 q1 = some r) : Calls Go.Proofs.Try.prog 162 [ptrAt (some ⟨gb_0, 0, none⟩) 0, .int .i64 q1].toArray w (RetMs w M (T162 gb_0 a_0_0 n_0_0 c_0_0 r)) := by
  subst l_0_0
  unfold sh162 at hres
  refine calls_of (n := 40) (M := M) (es := [boxO 162 gb_0 [.slice a_0_0 q0.code.length c_0_0, .int .i64 q0.at_, .int .u64 q0.seed]]) Go.Proofs.Try.func162 rfl rfl rfl gs ?_
  refine JX.seq ?_
  refine JX.region ?_
  refine JL.eff (ef_alloc i28 i28z rfl) rfl ?_
  rintro _ _ ⟨g1, rfl, rfl⟩
  refine JL.nil ?_
  refine JE.code ?_
  refine JX.seq ?_
  refine JX.region ?_
  refine JL.val (yl_move rfl) rfl ?_
  refine JL.val (yl_move rfl) rfl ?_
  obtain ⟨x3, hx3, hres⟩ := bind_some hres
  refine JL.eff (ef_callms (caps := []) (vs := [ptrAt (some ⟨gb_0, 0, none⟩) 0, .int .i64 q1]) (T := T113 gb_0 a_0_0 q0.code.length c_0_0 x3) [0] [1] [boxO 162 gb_0 [.slice a_0_0 q0.code.length c_0_0, .int .i64 q0.at_, .int .u64 q0.seed]] [boxO 28 g1 [.int .i64 0, .int .i64 0, .slice none 0 0]] rfl Go.Proofs.Try.func113 rfl (by kernel_rfl) rfl (by decide) rfl rfl (fun w N hF hS => c113 (q0 := q0) (RdS.pass hF g_0_0) rfl k_0_0 hS hx3)) rfl ?_
  rintro _ _ ⟨_, _, ⟨rfl, rfl, rfl⟩, rfl⟩
  refine JL.val (yl_add rfl rfl) rfl ?_
  refine JL.val (yl_assign rfl) rfl ?_
  refine JL.nil ?_
  refine JE.weak (env' := [(0, ptrAt (some ⟨gb_0, 0, none⟩) 0), (1, .int .i64 q1), (4, ptrAt (some ⟨g1, 0, none⟩) 0), (5, .int .i64 (w64 (1 + x3.1)))]) (es' := [boxO 162 gb_0 [.slice a_0_0 q0.code.length c_0_0, .int .i64 x3.2.1, .int .u64 x3.2.2], boxO 28 g1 [.int .i64 0, .int .i64 0, .slice none 0 0]]) [1, 0] ?_ ⟨rfl, rfl, rfl, rfl, trivial⟩ (by decide) rfl
  refine JE.code ?_
  refine JX.seq ?_
  refine JX.region ?_
  refine JL.val (yl_move rfl) rfl ?_
  refine JL.val (yl_move rfl) rfl ?_
  refine JL.val (yl_move rfl) rfl ?_
  obtain ⟨x4, hx4, hres⟩ := bind_some hres
  refine JL.eff (ef_callms (caps := []) (vs := [ptrAt (some ⟨gb_0, 0, none⟩) 0, .int .i64 q1]) (T := T113 gb_0 a_0_0 q0.code.length c_0_0 x4) [0] [1] [boxO 162 gb_0 [.slice a_0_0 q0.code.length c_0_0, .int .i64 x3.2.1, .int .u64 x3.2.2]] [boxO 28 g1 [.int .i64 0, .int .i64 0, .slice none 0 0]] rfl Go.Proofs.Try.func113 rfl (by kernel_rfl) rfl (by decide) rfl rfl (fun w N hF hS => c113 (q0 := Sl00Src.mk q0.code x3.2.1 x3.2.2) (RdS.pass hF g_0_0) rfl k_0_0 hS hx4)) rfl ?_
  rintro _ _ ⟨_, _, ⟨rfl, rfl, rfl⟩, rfl⟩
  refine JL.val (yl_add rfl rfl) rfl ?_
  obtain ⟨x5, hx5, hres⟩ := bind_some hres
  refine JL.eff (ef_call (T := T163 x5) Go.Proofs.Try.func163 rfl (by kernel_rfl) rfl (fun w hC => c163  hx5)) rfl ?_
  rintro _ _ ⟨_, ⟨a6, _, cp7, rfl, rfl, rfl⟩, rfl⟩
  refine JL.eff (ef_alloc i28 i28z rfl) rfl ?_
  rintro _ _ ⟨g9, rfl, rfl⟩
  refine JL.eff (ef_store_box (i := 3) (v := .agg #[.int .i64 x5.W, .int .i64 x5.H, .slice a6 x5.Breaks.length cp7]) i28 rfl rfl rfl (i28s).symm (Nat.le_of_ble_eq_true rfl) (by simp [Value.cells, Value.oneCell'])) rfl ?_
  rintro _ _ rfl
  refine JL.nil ?_
  refine JE.weak (env' := [(0, ptrAt (some ⟨gb_0, 0, none⟩) 0), (4, ptrAt (some ⟨g1, 0, none⟩) 0), (6, ptrAt (some ⟨g9, 0, none⟩) 0)]) (es' := [boxO 162 gb_0 [.slice a_0_0 q0.code.length c_0_0, .int .i64 x4.2.1, .int .u64 x4.2.2], boxO 28 g1 [.int .i64 0, .int .i64 0, .slice none 0 0], boxO 28 g9 [.int .i64 x5.W, .int .i64 x5.H, .slice a6 x5.Breaks.length cp7], rowT 2 eI64 a6 x5.Breaks.length cp7 x5.Breaks]) [1, 0, 3, 2] ?_ ⟨rfl, rfl, rfl, trivial⟩ (by decide) rfl
  refine JE.code ?_
  refine JX.seq ?_
  refine JX.region ?_
  refine JL.val (yl_move rfl) rfl ?_
  obtain ⟨x11, hx11, hres⟩ := bind_some hres
  refine JL.eff (ef_callms (caps := []) (vs := [ptrAt (some ⟨gb_0, 0, none⟩) 0, .int .i64 4]) (T := T113 gb_0 a_0_0 q0.code.length c_0_0 x11) [0] [1, 2, 3] [boxO 162 gb_0 [.slice a_0_0 q0.code.length c_0_0, .int .i64 x4.2.1, .int .u64 x4.2.2]] [boxO 28 g1 [.int .i64 0, .int .i64 0, .slice none 0 0], boxO 28 g9 [.int .i64 x5.W, .int .i64 x5.H, .slice a6 x5.Breaks.length cp7], rowT 2 eI64 a6 x5.Breaks.length cp7 x5.Breaks] rfl Go.Proofs.Try.func113 rfl (by kernel_rfl) rfl (by decide) rfl rfl (fun w N hF hS => c113 (q0 := Sl00Src.mk q0.code x4.2.1 x4.2.2) (RdS.pass hF g_0_0) rfl k_0_0 hS hx11)) rfl ?_
  rintro _ _ ⟨_, _, ⟨rfl, rfl, rfl⟩, rfl⟩
  refine JL.val (yl_assign rfl) rfl ?_
  refine JL.nil ?_
  refine JE.code ?_
  refine JX.seq ?_
  refine JX.seq ?_
  refine JX.region ?_
  refine JL.val (yl_assign rfl) rfl ?_
  refine JL.nil ?_
  refine JE.code ?_
  refine JX.block ?_
  obtain ⟨y1, hy1, hresO1⟩ := bind_some hres
  refine JX.loop (I := fun (s1 : Int × (Int × Int) × List Int) aa ww => ∃ (l12 : s1.2.2.length = x5.Breaks.length), St w M 40 [(0, ptrAt (some ⟨gb_0, 0, none⟩) 0), (4, ptrAt (some ⟨g1, 0, none⟩) 0), (6, ptrAt (some ⟨g9, 0, none⟩) 0), (7, .int .i64 x11.1), (8, .int .i64 s1.1)] [boxO 162 gb_0 [.slice a_0_0 q0.code.length c_0_0, .int .i64 s1.2.1.1, .int .u64 s1.2.1.2], boxO 28 g1 [.int .i64 0, .int .i64 0, .slice none 0 0], boxO 28 g9 [.int .i64 x5.W, .int .i64 x5.H, .slice a6 x5.Breaks.length cp7], rowT 2 eI64 a6 x5.Breaks.length cp7 s1.2.2] aa ww) (sh162_1 q0 x5 x11) hy1 (fun a w h => ⟨rfl, h.weak ⟨rfl, rfl, rfl, rfl, rfl, trivial⟩ [3, 0, 1, 2] (by decide) rfl⟩) ?_
  rintro ⟨x13, x14, x15⟩ o1 hres hox1 aa ww ⟨l16, hS⟩
  refine (?_ : JX Go.Proofs.Try.prog w M 40 _ _ [(0, ptrAt (some ⟨gb_0, 0, none⟩) 0), (4, ptrAt (some ⟨g1, 0, none⟩) 0), (6, ptrAt (some ⟨g9, 0, none⟩) 0), (7, .int .i64 x11.1), (8, .int .i64 x13)] [boxO 162 gb_0 [.slice a_0_0 q0.code.length c_0_0, .int .i64 x14.1, .int .u64 x14.2], boxO 28 g1 [.int .i64 0, .int .i64 0, .slice none 0 0], boxO 28 g9 [.int .i64 x5.W, .int .i64 x5.H, .slice a6 x5.Breaks.length cp7], rowT 2 eI64 a6 x5.Breaks.length cp7 x15] _) aa ww hS
  clear hS
  simp only [sh162_1] at hres
  refine JX.seq ?_
  refine JX.seq ?_
  refine JX.region ?_
  refine JL.val (yl_move rfl) rfl ?_
  refine JL.val (yl_fieldAt (a := some _) Go.Proofs.Try.underlying28 rfl i22 i22n rfl rfl) rfl ?_
  refine JL.val (yl_load1 Go.Proofs.Try.underlying22 rfl rfl (fun w hC => rd_box hC 2 rfl) rfl) rfl ?_
  refine JL.val (yl_len_slice Go.Proofs.Try.underlying22 rfl) rfl ?_
  refine JL.val (yl_lss rfl rfl) rfl ?_
  refine JL.nil ?_
  refine JE.weak (env' := [(0, ptrAt (some ⟨gb_0, 0, none⟩) 0), (4, ptrAt (some ⟨g1, 0, none⟩) 0), (6, ptrAt (some ⟨g9, 0, none⟩) 0), (7, .int .i64 x11.1), (8, .int .i64 x13), (25, .bool (decide (x13 < ((x5.Breaks.length : Nat) : Int))))]) (es' := [boxO 162 gb_0 [.slice a_0_0 q0.code.length c_0_0, .int .i64 x14.1, .int .u64 x14.2], boxO 28 g1 [.int .i64 0, .int .i64 0, .slice none 0 0], boxO 28 g9 [.int .i64 x5.W, .int .i64 x5.H, .slice a6 x5.Breaks.length cp7], rowT 2 eI64 a6 x5.Breaks.length cp7 x15]) [0, 1, 2, 3] ?_ ⟨rfl, rfl, rfl, rfl, rfl, rfl, trivial⟩ (by decide) rfl
  refine JE.code ?_
  rcases cond_some hres with ⟨hb, hres⟩ | ⟨hb, hres⟩
  · refine JX.condT rfl hb ?_
    refine JX.skip ?_
    refine JE.code ?_
    refine JX.seq ?_
    refine JX.block ?_
    refine JX.seq ?_
    refine JX.region ?_
    refine JL.val (yl_move rfl) rfl ?_
    obtain ⟨x17, hx17, hres⟩ := bind_some hres
    refine JL.eff (ef_callms (caps := []) (vs := [ptrAt (some ⟨gb_0, 0, none⟩) 0, .int .i64 4]) (T := T113 gb_0 a_0_0 q0.code.length c_0_0 x17) [0] [1, 2, 3] [boxO 162 gb_0 [.slice a_0_0 q0.code.length c_0_0, .int .i64 x14.1, .int .u64 x14.2]] [boxO 28 g1 [.int .i64 0, .int .i64 0, .slice none 0 0], boxO 28 g9 [.int .i64 x5.W, .int .i64 x5.H, .slice a6 x5.Breaks.length cp7], rowT 2 eI64 a6 x5.Breaks.length cp7 x15] rfl Go.Proofs.Try.func113 rfl (by kernel_rfl) rfl (by decide) rfl rfl (fun w N hF hS => c113 (q0 := Sl00Src.mk q0.code x14.1 x14.2) (RdS.pass hF g_0_0) rfl k_0_0 hS hx17)) rfl ?_
    rintro _ _ ⟨_, _, ⟨rfl, rfl, rfl⟩, rfl⟩
    refine JL.val (yl_move rfl) rfl ?_
    refine JL.val (yl_lss rfl rfl) rfl ?_
    refine JL.nil ?_
    refine JE.weak (env' := [(0, ptrAt (some ⟨gb_0, 0, none⟩) 0), (4, ptrAt (some ⟨g1, 0, none⟩) 0), (6, ptrAt (some ⟨g9, 0, none⟩) 0), (7, .int .i64 x11.1), (8, .int .i64 x13), (31, .bool (decide (x17.1 < x11.1)))]) (es' := [boxO 162 gb_0 [.slice a_0_0 q0.code.length c_0_0, .int .i64 x17.2.1, .int .u64 x17.2.2], boxO 28 g1 [.int .i64 0, .int .i64 0, .slice none 0 0], boxO 28 g9 [.int .i64 x5.W, .int .i64 x5.H, .slice a6 x5.Breaks.length cp7], rowT 2 eI64 a6 x5.Breaks.length cp7 x15]) [3, 0, 1, 2] ?_ ⟨rfl, rfl, rfl, rfl, rfl, rfl, trivial⟩ (by decide) rfl
    refine JE.code ?_
    obtain ⟨j18, hj18, hresj18⟩ := bind_some hres
    refine JX.cut (K := fun J => ∀ (l19 : j18.2.length = x5.Breaks.length), J [(0, ptrAt (some ⟨gb_0, 0, none⟩) 0), (4, ptrAt (some ⟨g1, 0, none⟩) 0), (6, ptrAt (some ⟨g9, 0, none⟩) 0), (7, .int .i64 x11.1), (8, .int .i64 x13)] [boxO 162 gb_0 [.slice a_0_0 q0.code.length c_0_0, .int .i64 j18.1.1, .int .u64 j18.1.2], boxO 28 g1 [.int .i64 0, .int .i64 0, .slice none 0 0], boxO 28 g9 [.int .i64 x5.W, .int .i64 x5.H, .slice a6 x5.Breaks.length cp7], rowT 2 eI64 a6 x5.Breaks.length cp7 j18.2]) ?_ ?_
    · intro l19
      have hres := hresj18
      refine JE.code ?_
      refine JX.region ?_
      refine JL.val (yl_move rfl) rfl ?_
      refine JL.val (yl_add rfl rfl) rfl ?_
      refine JL.val (yl_assign rfl) rfl ?_
      refine JL.nil ?_
      refine JE.cont hres ?_
      exact fun a w h => ⟨l19, h.weak ⟨rfl, rfl, rfl, rfl, rfl, trivial⟩ [0, 1, 2, 3] (by decide) rfl⟩
    · intro K
      rcases cond_some hj18 with ⟨hb, hres⟩ | ⟨hb, hres⟩
      · refine JX.condT rfl hb ?_
        refine JX.drawH [(0, .pure), (1, .read), (2, .pure), (3, .pure), (4, .must), (5, .pure), (6, .must), (7, .must)] [4, 7] [0, 3] [1, 2] [boxO 162 gb_0 [.slice a_0_0 q0.code.length c_0_0, .int .i64 x17.2.1, .int .u64 x17.2.2], rowT 2 eI64 a6 x5.Breaks.length cp7 x15] [boxO 28 g1 [.int .i64 0, .int .i64 0, .slice none 0 0], boxO 28 g9 [.int .i64 x5.W, .int .i64 x5.H, .slice a6 x5.Breaks.length cp7]] mixedP (by kernel_rfl) (by kernel_rfl) (by decide) rfl rfl ?_
        intro wrr20 Nr20 hFr20
        refine JH.pure rfl (yl_fieldAt (a := some _) Go.Proofs.Try.underlying28 rfl i22 i22n rfl rfl) rfl ?_
        refine JH.read rfl (yl_load1 Go.Proofs.Try.underlying22 rfl rfl (fun w hw => hFr20.box 2 rfl rfl hw) rfl) rfl ?_
        refine JH.pure rfl (yl_move rfl) rfl ?_
        refine JH.pure rfl (yl_move rfl) rfl ?_
        obtain ⟨x21, hx21, hres⟩ := bind_some hres
        refine JH.must rfl (ef_callms (caps := []) (vs := [ptrAt (some ⟨gb_0, 0, none⟩) 0, .int .i64 2]) (T := T113 gb_0 a_0_0 q0.code.length c_0_0 x21) [0] [1] [boxO 162 gb_0 [.slice a_0_0 q0.code.length c_0_0, .int .i64 x17.2.1, .int .u64 x17.2.2]] [rowT 2 eI64 a6 x5.Breaks.length cp7 x15] rfl Go.Proofs.Try.func113 rfl (by kernel_rfl) rfl (by decide) rfl rfl (fun w N hF hS => c113 (q0 := Sl00Src.mk q0.code x17.2.1 x17.2.2) (RdS.pass hF (RdS.pass hFr20 g_0_0)) rfl k_0_0 hS hx21)) rfl rfl ?_
        rintro _ _ ⟨_, _, ⟨rfl, rfl, rfl⟩, rfl⟩
        refine JH.pure rfl (yl_add rfl rfl) rfl ?_
        obtain ⟨x22, hx22, hres⟩ := bind_some hres
        refine JH.mval rfl (yl_idxQ Go.Proofs.Try.underlying22 i2 i2s rfl rfl hx22 l16 (rd_row hFr20.cl 3 rfl) l16) rfl ?_
        refine JH.must rfl (ef_storeT (ix := 0) (u := w64 (1 + x21.1)) i2 i2s rfl rfl rfl hx22 rfl) rfl rfl ?_
        rintro _ _ rfl
        refine JH.nil ?_
        refine JE.weak (env' := [(0, ptrAt (some ⟨gb_0, 0, none⟩) 0), (4, ptrAt (some ⟨g1, 0, none⟩) 0), (6, ptrAt (some ⟨g9, 0, none⟩) 0), (7, .int .i64 x11.1), (8, .int .i64 x13)]) (es' := [boxO 162 gb_0 [.slice a_0_0 q0.code.length c_0_0, .int .i64 x21.2.1, .int .u64 x21.2.2], boxO 28 g1 [.int .i64 0, .int .i64 0, .slice none 0 0], boxO 28 g9 [.int .i64 x5.W, .int .i64 x5.H, .slice a6 x5.Breaks.length cp7], rowT 2 eI64 a6 x5.Breaks.length cp7 (x15.set (x13).toNat (w64 (1 + x21.1)))]) [3, 0, 1, 2] ?_ ⟨rfl, rfl, rfl, rfl, rfl, trivial⟩ (by decide) rfl
        have hj := Option.some.inj hres
        exact JE.weak [0, 1, 2, 3] (K (by subst hj; exact (List.length_set.trans l16))) ⟨(by subst hj; rfl), (by subst hj; rfl), (by subst hj; rfl), (by subst hj; rfl), (by subst hj; rfl), trivial⟩ (by decide) (by subst hj; rfl)
      · refine JX.condF rfl hb ?_
        refine JX.skip ?_
        have hj := Option.some.inj hres
        exact JE.weak [0, 1, 2, 3] (K (by subst hj; exact l16)) ⟨(by subst hj; rfl), (by subst hj; rfl), (by subst hj; rfl), (by subst hj; rfl), (by subst hj; rfl), trivial⟩ (by decide) (by subst hj; rfl)
  · refine JX.condF rfl hb ?_
    refine JX.exit ?_
    refine JE.qb rfl ?_
    obtain ⟨b1, hb1⟩ : ∃ b : (Int × Int) × List Int, b = ((x14.1, x14.2), x15) := ⟨_, rfl⟩
    have hy1 : b1 = y1 := by rw [hb1]; exact hox1 _ (Option.some.inj hres).symm
    have hres := hresO1
    rw [← hy1] at hres
    have l23 : b1.2.length = x5.Breaks.length := by subst hb1; exact l16
    refine JE.weak (env' := [(4, ptrAt (some ⟨g1, 0, none⟩) 0), (6, ptrAt (some ⟨g9, 0, none⟩) 0)]) (es' := [boxO 162 gb_0 [.slice a_0_0 q0.code.length c_0_0, .int .i64 b1.1.1, .int .u64 b1.1.2], boxO 28 g1 [.int .i64 0, .int .i64 0, .slice none 0 0], boxO 28 g9 [.int .i64 x5.W, .int .i64 x5.H, .slice a6 x5.Breaks.length cp7], rowT 2 eI64 a6 x5.Breaks.length cp7 b1.2]) [0, 1, 2, 3] ?_ ⟨(by subst hb1; rfl), (by subst hb1; rfl), trivial⟩ (by decide) (by subst hb1; rfl)
    refine JE.code ?_
    refine JX.seq ?_
    refine JX.region ?_
    refine JL.val (yl_loadn Go.Proofs.Try.underlying28 rfl i28 rfl (fun w hC => rd_box hC 2 rfl) rfl (i28s).symm i28p) rfl ?_
    refine JL.eff (ef_store_box (i := 1) (v := .agg #[.int .i64 x5.W, .int .i64 x5.H, .slice a6 x5.Breaks.length cp7]) i28 rfl rfl rfl (i28s).symm (Nat.le_of_ble_eq_true rfl) (by simp [Value.cells, Value.oneCell'])) rfl ?_
    rintro _ _ rfl
    refine JL.nil ?_
    refine JE.weak (env' := [(4, ptrAt (some ⟨g1, 0, none⟩) 0)]) (es' := [boxO 162 gb_0 [.slice a_0_0 q0.code.length c_0_0, .int .i64 b1.1.1, .int .u64 b1.1.2], boxO 28 g1 [.int .i64 x5.W, .int .i64 x5.H, .slice a6 x5.Breaks.length cp7], rowT 2 eI64 a6 x5.Breaks.length cp7 b1.2]) [0, 1, 3] ?_ ⟨rfl, trivial⟩ (by decide) rfl
    refine JE.code ?_
    refine JX.ret ?_
    obtain rfl := Option.some.inj hres
    refine JE.ret (rs := [.cell 4 28]) (vs := [.agg #[.int .i64 x5.W, .int .i64 x5.H, .slice a6 x5.Breaks.length cp7]]) rfl ⟨rv_box 1 rfl rfl Go.Proofs.Try.underlying28 rfl i28 (i28s).symm, trivial⟩ ?_
    exact fun w' hb hs => ⟨_, _, _, ⟨rfl, a6, x5.Breaks.length, cp7, l23, rfl, rfl⟩, rfl, hb, hs.sel [0, 2] _ (by decide) rfl⟩

end Go.Sh
