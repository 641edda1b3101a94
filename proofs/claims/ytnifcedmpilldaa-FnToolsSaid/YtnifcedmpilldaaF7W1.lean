/- Walks through functions that the law reaches, printed by program. -/
import Derived.Test.YtnifcedmpilldaaF7W0
set_option linter.unusedVariables false
set_option linter.unusedSimpArgs false
namespace Go.Sh
open Go Go.RowKit
/- spec.l22Code -/
def sh146 (q0 : SPanel) (q1 : Int) (q2 : Int) (q3 : Int) (q4 : Int) : Option (List SPoint × Int) := Option.bind (sh99 q0 q1 q2) fun x1 => Option.bind (bif x1.2 == 0 then (Option.bind (sh100 q3 1 500) fun x6 => Option.bind (bif !x6 then (some true) else (Option.bind (sh100 q4 1 500) fun x8 => some !x8)) fun cb7 => (some cb7)) else (some false)) fun cb5 => (Option.bind (bif cb5 then (some 2) else (some x1.2)) fun j9 => (some (x1.1, j9)))
def T146 (r : List SPoint × Int) (v : Value) (rs : List Own) : Prop := ∃ (a0 : Option Addr) (n0 c0 : Nat), r.1.length = n0 ∧ v = rets [.slice a0 n0 c0, .int .i64 r.2] ∧ rs = [rowT 42 eSPoint a0 n0 c0 r.1]
set_option maxRecDepth 100000 in
theorem c146 {w : World} {q0 : SPanel} {a_0 : Option Addr} {n_0 : Nat} {a_0_2 : Option Addr} {n_0_2 c_0_2 : Nat} (g_0 : RdAt w a_0 n_0 [.int .i64 q0.W, .int .i64 q0.H, .slice a_0_2 n_0_2 c_0_2]) (g_0_2 : Rd w a_0_2 (eI64.fl q0.Breaks)) (l_0_2 : q0.Breaks.length = n_0_2) (k_0_2 : n_0_2 ≤ c_0_2) {q1 : Int} {q2 : Int} {q3 : Int} {q4 : Int} {r : List SPoint × Int} (hres : sh146 q0 q1 q2 q3 q4 = some r) : Calls Go.Proofs.Try.prog 146 [ptrAt a_0 n_0, .int .i64 q1, .int .i64 q2, .int .i64 q3, .int .i64 q4].toArray w (Ret w (T146 r)) := by
  subst l_0_2
  obtain ⟨b_0, e_0, g_0⟩ := g_0.norm0
  rw [e_0]
  unfold sh146 at hres
  refine calls_of (n := 35) (M := []) (es := []) Go.Proofs.Try.func146 rfl rfl rfl (Sep.nil _ _ _) ?_
  refine JX.seq ?_
  refine JX.region ?_
  refine JL.val (yl_assign rfl) rfl ?_
  refine JL.val (yl_assign rfl) rfl ?_
  refine JL.nil ?_
  refine JE.code ?_
  refine JX.seq ?_
  refine JX.region ?_
  refine JL.val (yl_move rfl) rfl ?_
  refine JL.val (yl_move rfl) rfl ?_
  refine JL.val (yl_move rfl) rfl ?_
  obtain ⟨x1, hx1, hres⟩ := bind_some hres
  refine JL.eff (ef_call (T := T99 x1) Go.Proofs.Try.func99 rfl (by kernel_rfl) rfl (fun w hC => c99 (RdAt.of0 (rd_arg g_0 hC)) (rd_arg g_0_2 hC) rfl k_0_2 hx1)) rfl ?_
  rintro _ _ ⟨_, ⟨a2, _, cp3, rfl, rfl, rfl⟩, rfl⟩
  refine JL.val (yl_move rfl) rfl ?_
  refine JL.val (yl_extract rfl rfl) rfl ?_
  refine JL.val (yl_extract rfl rfl) rfl ?_
  refine JL.val (yl_assign rfl) rfl ?_
  refine JL.val (yl_assign rfl) rfl ?_
  refine JL.nil ?_
  refine JE.weak (env' := [(3, .int .i64 q3), (4, .int .i64 q4), (12, .slice a2 x1.1.length cp3), (13, .int .i64 x1.2)]) (es' := [rowT 42 eSPoint a2 x1.1.length cp3 x1.1]) [0] ?_ ⟨rfl, rfl, rfl, rfl, trivial⟩ (by decide) rfl
  refine JE.code ?_
  refine JX.seq ?_
  refine JX.seq ?_
  refine JX.region ?_
  refine JL.val (yl_move rfl) rfl ?_
  refine JL.val (yl_eql rfl rfl) rfl ?_
  refine JL.val (yl_move rfl) rfl ?_
  obtain ⟨cb5, hcb5, hres⟩ := bind_some hres
  refine JL.cut (K := fun J => J [(12, .slice a2 x1.1.length cp3), (13, .int .i64 x1.2), (32, .bool cb5)] [rowT 42 eSPoint a2 x1.1.length cp3 x1.1]) 9 ?_ ?_
  · refine JL.nil ?_
    refine JE.weak (env' := [(12, .slice a2 x1.1.length cp3), (13, .int .i64 x1.2), (32, .bool cb5)]) (es' := [rowT 42 eSPoint a2 x1.1.length cp3 x1.1]) [0] ?_ ⟨rfl, rfl, rfl, trivial⟩ (by decide) rfl
    refine JE.code ?_
    obtain ⟨j9, hj9, hresj9⟩ := bind_some hres
    refine JX.cut (K := fun J => J [(12, .slice a2 x1.1.length cp3), (13, .int .i64 j9)] [rowT 42 eSPoint a2 x1.1.length cp3 x1.1]) ?_ ?_
    · have hres := hresj9
      refine JE.code ?_
      refine JX.seq ?_
      refine JX.region ?_
      refine JL.val (yl_move rfl) rfl ?_
      refine JL.val (yl_move rfl) rfl ?_
      refine JL.val (yl_assign rfl) rfl ?_
      refine JL.val (yl_assign rfl) rfl ?_
      refine JL.nil ?_
      refine JE.weak (env' := [(10, .slice a2 x1.1.length cp3), (11, .int .i64 j9)]) (es' := [rowT 42 eSPoint a2 x1.1.length cp3 x1.1]) [0] ?_ ⟨rfl, rfl, trivial⟩ (by decide) rfl
      refine JE.code ?_
      refine JX.ret ?_
      obtain rfl := Option.some.inj hres
      refine JE.ret (rs := [.tmp 10, .tmp 11]) (vs := [.slice a2 x1.1.length cp3, .int .i64 j9]) rfl ⟨rfl, rfl, trivial⟩ ?_
      exact fun w' hb hs => ⟨_, _, ⟨a2, x1.1.length, cp3, rfl, rfl, rfl⟩, rfl, hb, hs.sel [0] _ (by decide) rfl⟩
    · intro K
      rcases cond_some hj9 with ⟨hb, hres⟩ | ⟨hb, hres⟩
      · refine JX.condT rfl hb ?_
        refine JX.region ?_
        refine JL.val (yl_assign rfl) rfl ?_
        refine JL.nil ?_
        have hj := Option.some.inj hres
        exact JE.weak [0] (K) ⟨(by subst hj; rfl), (by subst hj; rfl), trivial⟩ (by decide) (by subst hj; rfl)
      · refine JX.condF rfl hb ?_
        refine JX.skip ?_
        have hj := Option.some.inj hres
        exact JE.weak [0] (K) ⟨(by subst hj; rfl), (by subst hj; rfl), trivial⟩ (by decide) (by subst hj; rfl)
  · intro K
    rcases cond_some hcb5 with ⟨hb, hres⟩ | ⟨hb, hres⟩
    · refine JL.set (d := 23) (v := .bool true) (congrArg (fun b => some (Value.bool b)) hb) ?_
      refine JL.gval rfl rfl (yl_move rfl) rfl ?_
      obtain ⟨x6, hx6, hres⟩ := bind_some hres
      refine JL.geff rfl rfl (ef_call (T := T100 x6) Go.Proofs.Try.func100 rfl (by kernel_rfl) rfl (fun w hC => c100  hx6)) rfl ?_
      rintro _ _ ⟨_, ⟨rfl, rfl⟩, rfl⟩
      refine JL.gval rfl rfl (yl_not rfl) rfl ?_
      refine JL.gval rfl rfl (yl_move rfl) rfl ?_
      obtain ⟨cb7, hcb7, hres⟩ := bind_some hres
      refine JL.cut (K := fun J => J [(12, .slice a2 x1.1.length cp3), (13, .int .i64 x1.2), (23, .bool true), (31, .bool cb7)] [rowT 42 eSPoint a2 x1.1.length cp3 x1.1]) 4 ?_ ?_
      · refine JL.val (yl_pick_true rfl rfl) rfl ?_
        have he := Option.some.inj hres
        exact JL.weak [0] K ⟨rfl, rfl, (by rw [← he]; rfl), trivial⟩ (by decide) rfl
      · intro K
        rcases cond_some hcb7 with ⟨hb, hres⟩ | ⟨hb, hres⟩
        · refine JL.set (d := 27) (v := .bool true) (congrArg (fun b => some (Value.bool b)) hb) ?_
          refine JL.gskip rfl rfl rfl rfl ?_
          refine JL.gskip rfl rfl rfl rfl ?_
          refine JL.gskip rfl rfl rfl rfl ?_
          refine JL.gval rfl rfl (yl_pick_true rfl rfl) rfl ?_
          have he := Option.some.inj hres
          exact JL.weak [0] K ⟨rfl, rfl, rfl, (by rw [← he]; rfl), trivial⟩ (by decide) rfl
        · refine JL.set (d := 27) (v := .bool false) (congrArg (fun b => some (Value.bool b)) hb) ?_
          refine JL.gval rfl rfl (yl_move rfl) rfl ?_
          obtain ⟨x8, hx8, hres⟩ := bind_some hres
          refine JL.geff rfl rfl (ef_call (T := T100 x8) Go.Proofs.Try.func100 rfl (by kernel_rfl) rfl (fun w hC => c100  hx8)) rfl ?_
          rintro _ _ ⟨_, ⟨rfl, rfl⟩, rfl⟩
          refine JL.gval rfl rfl (yl_not rfl) rfl ?_
          refine JL.gval rfl rfl (yl_pick_false rfl rfl) rfl ?_
          have he := Option.some.inj hres
          exact JL.weak [0] K ⟨rfl, rfl, rfl, (by rw [← he]; rfl), trivial⟩ (by decide) rfl
    · refine JL.set (d := 23) (v := .bool false) (congrArg (fun b => some (Value.bool b)) hb) ?_
      refine JL.gskip rfl rfl rfl rfl ?_
      refine JL.gskip rfl rfl rfl rfl ?_
      refine JL.gskip rfl rfl rfl rfl ?_
      refine JL.gskip rfl rfl rfl rfl ?_
      refine JL.gnone rfl rfl rfl ?_
      refine JL.gnone rfl rfl rfl ?_
      refine JL.gnone rfl rfl rfl ?_
      refine JL.gskip rfl rfl rfl rfl ?_
      refine JL.val (yl_pick_false rfl rfl) rfl ?_
      have he := Option.some.inj hres
      exact JL.weak [0] K ⟨rfl, rfl, (by rw [← he]; rfl), trivial⟩ (by decide) rfl

/- spec.l00Max -/
def sh182 (q0 : Int) (q1 : Int) : Option (Int) := bif decide (q1 < q0) then (some q0) else (some q1)
def T182 (r : Int) (v : Value) (rs : List Own) : Prop := v = rets [.int .i64 r] ∧ rs = []
set_option maxRecDepth 100000 in
theorem c182 {w : World} {q0 : Int} {q1 : Int} {r : Int} (hres : sh182 q0 q1 = some r) : Calls Go.Proofs.Try.prog 182 [.int .i64 q0, .int .i64 q1].toArray w (Ret w (T182 r)) := by
  unfold sh182 at hres
  refine calls_of (n := 10) (M := []) (es := []) Go.Proofs.Try.func182 rfl rfl rfl (Sep.nil _ _ _) ?_
  refine JX.seq ?_
  refine JX.region ?_
  refine JL.val (yl_assign rfl) rfl ?_
  refine JL.nil ?_
  refine JE.code ?_
  refine JX.seq ?_
  refine JX.seq ?_
  refine JX.region ?_
  refine JL.val (yl_move rfl) rfl ?_
  refine JL.val (yl_move rfl) rfl ?_
  refine JL.val (yl_gtr rfl rfl) rfl ?_
  refine JL.nil ?_
  refine JE.code ?_
  rcases cond_some hres with ⟨hb, hres⟩ | ⟨hb, hres⟩
  · refine JX.condT rfl hb ?_
    refine JX.seq ?_
    refine JX.region ?_
    refine JL.val (yl_move rfl) rfl ?_
    refine JL.val (yl_assign rfl) rfl ?_
    refine JL.nil ?_
    refine JE.code ?_
    refine JX.ret ?_
    obtain rfl := Option.some.inj hres
    refine JE.ret (rs := [.tmp 4]) (vs := [.int .i64 q0]) rfl ⟨rfl, trivial⟩ ?_
    exact fun w' hb hs => ⟨_, _, ⟨rfl, rfl⟩, rfl, hb, hs.sel [] _ (by decide) rfl⟩
  · refine JX.condF rfl hb ?_
    refine JX.skip ?_
    refine JE.code ?_
    refine JX.seq ?_
    refine JX.region ?_
    refine JL.val (yl_move rfl) rfl ?_
    refine JL.val (yl_assign rfl) rfl ?_
    refine JL.nil ?_
    refine JE.code ?_
    refine JX.ret ?_
    obtain rfl := Option.some.inj hres
    refine JE.ret (rs := [.tmp 4]) (vs := [.int .i64 q1]) rfl ⟨rfl, trivial⟩ ?_
    exact fun w' hb hs => ⟨_, _, ⟨rfl, rfl⟩, rfl, hb, hs.sel [] _ (by decide) rfl⟩

/- spec.l10Away -/
def sh114 (q0 : Int) (q1 : Int) : Option (Int) := Option.bind (sh182 (w64 (q0 - q1)) (w64 (q1 - q0))) fun x1 => some x1
def T114 (r : Int) (v : Value) (rs : List Own) : Prop := v = rets [.int .i64 r] ∧ rs = []
set_option maxRecDepth 100000 in
theorem c114 {w : World} {q0 : Int} {q1 : Int} {r : Int} (hres : sh114 q0 q1 = some r) : Calls Go.Proofs.Try.prog 114 [.int .i64 q0, .int .i64 q1].toArray w (Ret w (T114 r)) := by
  unfold sh114 at hres
  refine calls_of (n := 12) (M := []) (es := []) Go.Proofs.Try.func114 rfl rfl rfl (Sep.nil _ _ _) ?_
  refine JX.seq ?_
  refine JX.region ?_
  refine JL.val (yl_assign rfl) rfl ?_
  refine JL.nil ?_
  refine JE.code ?_
  refine JX.seq ?_
  refine JX.region ?_
  refine JL.val (yl_move rfl) rfl ?_
  refine JL.val (yl_move rfl) rfl ?_
  refine JL.val (yl_sub rfl rfl) rfl ?_
  refine JL.val (yl_move rfl) rfl ?_
  refine JL.val (yl_move rfl) rfl ?_
  refine JL.val (yl_sub rfl rfl) rfl ?_
  obtain ⟨x1, hx1, hres⟩ := bind_some hres
  refine JL.eff (ef_call (T := T182 x1) Go.Proofs.Try.func182 rfl (by kernel_rfl) rfl (fun w hC => c182  hx1)) rfl ?_
  rintro _ _ ⟨_, ⟨rfl, rfl⟩, rfl⟩
  refine JL.val (yl_assign rfl) rfl ?_
  refine JL.nil ?_
  refine JE.weak (env' := [(4, .int .i64 x1)]) (es' := []) [] ?_ ⟨rfl, trivial⟩ (by decide) rfl
  refine JE.code ?_
  refine JX.ret ?_
  obtain rfl := Option.some.inj hres
  refine JE.ret (rs := [.tmp 4]) (vs := [.int .i64 x1]) rfl ⟨rfl, trivial⟩ ?_
  exact fun w' hb hs => ⟨_, _, ⟨rfl, rfl⟩, rfl, hb, hs.sel [] _ (by decide) rfl⟩

/- spec.l22Order -/
def sh148_2 (q0 : List (List SPoint)) (x13 : SPoint) (x12 : List Bool) : (Int × Int × Int) → Option ((Int × Int × Int) ⊕ (Int))
  | (x17, x18, x19) => bif decide (x19 < ((q0.length : Nat) : Int)) then (Option.bind (getI q0 x19) fun x20 => Option.bind (getI x20 (0 : Int)) fun x24 => Option.bind (sh114 x24.X x13.X) fun x28 => Option.bind (sh114 x24.Y x13.Y) fun x29 => Option.bind (getI x12 x19) fun x30 => Option.bind (bif !x30 && ((decide (x17 < 0)) || (decide ((w64 (x28 + x29)) < x18))) then (some (x19, w64 (x28 + x29))) else (some (x17, x18))) fun j31 => (some (.inl (j31.1, j31.2, w64 (x19 + 1))))) else (some (.inr x17))
def sh148_1 (q0 : List (List SPoint)) : (List Int × List Bool × SPoint) → Option ((List Int × List Bool × SPoint) ⊕ (List Int))
  | (x11, x12, x13) => bif decide ((x11.length : Int) < ((q0.length : Nat) : Int)) then (Option.bind (iter (sh148_2 q0 x13 x12) ((-1), 0, 0)) fun b2 => (Option.bind (getI x12 b2) fun x32 => Option.bind (getI q0 b2) fun x33 => Option.bind (getI x33 (0 : Int)) fun x37 => Option.bind (appL x11 [b2]) fun x40 => some (.inl (x40, x12.set (b2).toNat true, x37)))) else (some (.inr x11))
def sh148 (q0 : List (List SPoint)) : Option (List Int) := Option.bind (mkL ((q0.length : Nat) : Int) false) fun x3 => Option.bind (iter (sh148_1 q0) (([] : List Int), x3, SPoint.mk 0 0)) fun b1 => (some b1)
def T148 (r : List Int) (v : Value) (rs : List Own) : Prop := ∃ (a0 : Option Addr) (n0 c0 : Nat), r.length = n0 ∧ v = rets [.slice a0 n0 c0] ∧ rs = [rowT 2 eI64 a0 n0 c0 r]
set_option maxRecDepth 100000 in
set_option maxHeartbeats 1000000 in
theorem c148 {w : World} {q0 : List (List SPoint)} {a_0 : Option Addr} {n_0 c_0 : Nat} {h_0 : List Hd} (g_0 : Rd w a_0 (eHd.fl h_0)) (r_0 : RdI w eSPoint h_0 q0) (i_0 : Inn h_0 q0) (l_0 : q0.length = n_0) (k_0 : n_0 ≤ c_0) {r : List Int} (hres : sh148 q0 = some r) : Calls Go.Proofs.Try.prog 148 [.slice a_0 n_0 c_0].toArray w (Ret w (T148 r)) := by
  subst l_0
  unfold sh148 at hres
  refine calls_of (n := 74) (M := []) (es := []) Go.Proofs.Try.func148 rfl rfl rfl (Sep.nil _ _ _) ?_
  refine JX.seq ?_
  refine JX.region ?_
  refine JL.val (yl_assign rfl) rfl ?_
  refine JL.nil ?_
  refine JE.code ?_
  refine JX.seq ?_
  refine JX.region ?_
  refine JL.eff (ef_buildSlice (E := 2) (k := eI64.k) (us := eI64.fl ([] : List Int)) rfl (fun w => bsl24_0  w) rfl (by decide)) rfl ?_
  rintro _ _ ⟨a1, rfl, rfl⟩
  refine JL.val (yl_assign rfl) rfl ?_
  refine JL.nil ?_
  refine JE.code ?_
  refine JX.seq ?_
  refine JX.region ?_
  refine JL.val (yl_move rfl) rfl ?_
  refine JL.val (yl_len_slice Go.Proofs.Try.underlying29 rfl) rfl ?_
  obtain ⟨x3, hx3, hres⟩ := bind_some hres
  refine JL.eff (ef_makeS (e := eBool) Go.Proofs.Try.underlying182 i4 i4s i4z rfl i4b1 rfl rfl hx3) rfl ?_
  rintro _ _ ⟨a4, rfl, rfl⟩
  refine JL.val (yl_assign rfl) rfl ?_
  refine JL.nil ?_
  refine JE.weak (env' := [(0, .slice a_0 q0.length c_0), (3, .slice a1 0 0), (4, .slice a4 x3.length x3.length)]) (es' := [rowT 2 eI64 a1 0 0 ([] : List Int), rowT 4 eBool a4 x3.length x3.length x3]) [0, 1] ?_ ⟨rfl, rfl, rfl, trivial⟩ (by decide) rfl
  refine JE.code ?_
  refine JX.seq ?_
  refine JX.region ?_
  refine JL.val (yl_build rfl (fun w => bld42_  w)) rfl ?_
  refine JL.eff (ef_alloc i42 i42z rfl) rfl ?_
  rintro _ _ ⟨g6, rfl, rfl⟩
  refine JL.eff (ef_store_box (i := 2) (v := .agg #[.int .i64 0, .int .i64 0]) i42 rfl rfl rfl (i42s).symm (Nat.le_of_ble_eq_true rfl) (by simp [Value.cells, Value.oneCell'])) rfl ?_
  rintro _ _ rfl
  refine JL.nil ?_
  refine JE.code ?_
  refine JX.seq ?_
  refine JX.block ?_
  obtain ⟨y1, hy1, hresO1⟩ := bind_some hres
  refine JX.loop (I := fun (s1 : List Int × List Bool × SPoint) aa ww => ∃ (a8 : Option Addr) (cp9 : Nat) (l10 : s1.2.1.length = x3.length), St w [] 74 [(0, .slice a_0 q0.length c_0), (3, .slice a8 s1.1.length cp9), (4, .slice a4 x3.length x3.length), (5, ptrAt (some ⟨g6, 0, none⟩) 0)] [rowT 2 eI64 a8 s1.1.length cp9 s1.1, rowT 4 eBool a4 x3.length x3.length s1.2.1, boxO 42 g6 [.int .i64 s1.2.2.X, .int .i64 s1.2.2.Y]] aa ww) (sh148_1 q0) hy1 (fun a w h => ⟨a1, 0, rfl, h.weak ⟨rfl, rfl, rfl, rfl, trivial⟩ [0, 1, 2] (by decide) rfl⟩) ?_
  rintro ⟨x11, x12, x13⟩ o1 hres hox1 aa ww ⟨a14, cp15, l16, hS⟩
  refine (?_ : JX Go.Proofs.Try.prog w [] 74 _ _ [(0, .slice a_0 q0.length c_0), (3, .slice a14 x11.length cp15), (4, .slice a4 x3.length x3.length), (5, ptrAt (some ⟨g6, 0, none⟩) 0)] [rowT 2 eI64 a14 x11.length cp15 x11, rowT 4 eBool a4 x3.length x3.length x12, boxO 42 g6 [.int .i64 x13.X, .int .i64 x13.Y]] _) aa ww hS
  clear hS
  simp only [sh148_1] at hres
  refine JX.seq ?_
  refine JX.seq ?_
  refine JX.region ?_
  refine JL.val (yl_move rfl) rfl ?_
  refine JL.val (yl_len_slice Go.Proofs.Try.underlying24 rfl) rfl ?_
  refine JL.val (yl_move rfl) rfl ?_
  refine JL.val (yl_len_slice Go.Proofs.Try.underlying29 rfl) rfl ?_
  refine JL.val (yl_lss rfl rfl) rfl ?_
  refine JL.nil ?_
  refine JE.weak (env' := [(0, .slice a_0 q0.length c_0), (3, .slice a14 x11.length cp15), (4, .slice a4 x3.length x3.length), (5, ptrAt (some ⟨g6, 0, none⟩) 0), (20, .bool (decide ((x11.length : Int) < ((q0.length : Nat) : Int))))]) (es' := [rowT 2 eI64 a14 x11.length cp15 x11, rowT 4 eBool a4 x3.length x3.length x12, boxO 42 g6 [.int .i64 x13.X, .int .i64 x13.Y]]) [0, 1, 2] ?_ ⟨rfl, rfl, rfl, rfl, rfl, trivial⟩ (by decide) rfl
  refine JE.code ?_
  rcases cond_some hres with ⟨hb, hres⟩ | ⟨hb, hres⟩
  · refine JX.condT rfl hb ?_
    refine JX.skip ?_
    refine JE.code ?_
    refine JX.block ?_
    refine JX.seq ?_
    refine JX.region ?_
    refine JL.val (yl_assign rfl) rfl ?_
    refine JL.nil ?_
    refine JE.code ?_
    refine JX.seq ?_
    refine JX.region ?_
    refine JL.val (yl_assign rfl) rfl ?_
    refine JL.nil ?_
    refine JE.code ?_
    refine JX.seq ?_
    refine JX.seq ?_
    refine JX.region ?_
    refine JL.val (yl_assign rfl) rfl ?_
    refine JL.nil ?_
    refine JE.code ?_
    refine JX.block ?_
    obtain ⟨y2, hy2, hresO2⟩ := bind_some hres
    refine JX.loop (I := fun (s2 : Int × Int × Int) aa ww => St w [] 74 [(0, .slice a_0 q0.length c_0), (3, .slice a14 x11.length cp15), (4, .slice a4 x3.length x3.length), (5, ptrAt (some ⟨g6, 0, none⟩) 0), (6, .int .i64 s2.1), (7, .int .i64 s2.2.1), (8, .int .i64 s2.2.2)] [rowT 2 eI64 a14 x11.length cp15 x11, rowT 4 eBool a4 x3.length x3.length x12, boxO 42 g6 [.int .i64 x13.X, .int .i64 x13.Y]] aa ww) (sh148_2 q0 x13 x12) hy2 (fun a w h => h.weak ⟨rfl, rfl, rfl, rfl, rfl, rfl, rfl, trivial⟩ [0, 1, 2] (by decide) rfl) ?_
    rintro ⟨x17, x18, x19⟩ o2 hres hox2 aa ww hS
    refine (?_ : JX Go.Proofs.Try.prog w [] 74 _ _ [(0, .slice a_0 q0.length c_0), (3, .slice a14 x11.length cp15), (4, .slice a4 x3.length x3.length), (5, ptrAt (some ⟨g6, 0, none⟩) 0), (6, .int .i64 x17), (7, .int .i64 x18), (8, .int .i64 x19)] [rowT 2 eI64 a14 x11.length cp15 x11, rowT 4 eBool a4 x3.length x3.length x12, boxO 42 g6 [.int .i64 x13.X, .int .i64 x13.Y]] _) aa ww hS
    clear hS
    simp only [sh148_2] at hres
    refine JX.seq ?_
    refine JX.seq ?_
    refine JX.region ?_
    refine JL.val (yl_move rfl) rfl ?_
    refine JL.val (yl_move rfl) rfl ?_
    refine JL.val (yl_len_slice Go.Proofs.Try.underlying29 rfl) rfl ?_
    refine JL.val (yl_lss rfl rfl) rfl ?_
    refine JL.nil ?_
    refine JE.weak (env' := [(0, .slice a_0 q0.length c_0), (3, .slice a14 x11.length cp15), (4, .slice a4 x3.length x3.length), (5, ptrAt (some ⟨g6, 0, none⟩) 0), (6, .int .i64 x17), (7, .int .i64 x18), (8, .int .i64 x19), (24, .bool (decide (x19 < ((q0.length : Nat) : Int))))]) (es' := [rowT 2 eI64 a14 x11.length cp15 x11, rowT 4 eBool a4 x3.length x3.length x12, boxO 42 g6 [.int .i64 x13.X, .int .i64 x13.Y]]) [0, 1, 2] ?_ ⟨rfl, rfl, rfl, rfl, rfl, rfl, rfl, rfl, trivial⟩ (by decide) rfl
    refine JE.code ?_
    rcases cond_some hres with ⟨hb, hres⟩ | ⟨hb, hres⟩
    · refine JX.condT rfl hb ?_
      refine JX.skip ?_
      refine JE.code ?_
      refine JX.seq ?_
      refine JX.block ?_
      refine JX.seq ?_
      refine JX.region ?_
      refine JL.val (yl_move rfl) rfl ?_
      refine JL.val (yl_move rfl) rfl ?_
      obtain ⟨x20, hx20, hres⟩ := bind_some hres
      obtain ⟨ha21, hc22, hhx20⟩ := Inn.sub i_0 hx20
      refine JL.val (yl_idxT Go.Proofs.Try.underlying29 i34 i34s rfl rfl hhx20 (Inn.len i_0) (fun w hC => rd_arg g_0 hC)) rfl ?_
      refine JL.val (yl_loadT0 (z := ⟨ha21, x20.length, hc22⟩) Go.Proofs.Try.underlying34 rfl rfl hhx20 (fun w hC => rd_arg g_0 hC) rfl) rfl ?_
      obtain ⟨x24, hx24, hres⟩ := bind_some hres
      refine JL.val (yl_idxT Go.Proofs.Try.underlying34 i42 i42s rfl rfl hx24 rfl (fun w hC => rd_arg (RdI.sub r_0 hx20 hhx20) hC)) rfl ?_
      refine JL.val (yl_loadTn Go.Proofs.Try.underlying42 rfl i42 i42s rfl hx24 (fun w hC => rd_arg (RdI.sub r_0 hx20 hhx20) hC)) rfl ?_
      refine JL.eff (ef_alloc i42 i42z rfl) rfl ?_
      rintro _ _ ⟨g25, rfl, rfl⟩
      refine JL.eff (ef_store_box (i := 3) (v := .agg #[.int .i64 x24.X, .int .i64 x24.Y]) i42 rfl rfl rfl (i42s).symm (Nat.le_of_ble_eq_true rfl) (by simp [Value.cells, Value.oneCell'])) rfl ?_
      rintro _ _ rfl
      refine JL.nil ?_
      refine JE.weak (env' := [(0, .slice a_0 q0.length c_0), (3, .slice a14 x11.length cp15), (4, .slice a4 x3.length x3.length), (5, ptrAt (some ⟨g6, 0, none⟩) 0), (6, .int .i64 x17), (7, .int .i64 x18), (8, .int .i64 x19), (9, ptrAt (some ⟨g25, 0, none⟩) 0)]) (es' := [rowT 2 eI64 a14 x11.length cp15 x11, rowT 4 eBool a4 x3.length x3.length x12, boxO 42 g6 [.int .i64 x13.X, .int .i64 x13.Y], boxO 42 g25 [.int .i64 x24.X, .int .i64 x24.Y]]) [0, 1, 2, 3] ?_ ⟨rfl, rfl, rfl, rfl, rfl, rfl, rfl, rfl, trivial⟩ (by decide) rfl
      refine JE.code ?_
      refine JX.seq ?_
      refine JX.drawH [(0, .pure), (1, .read), (2, .pure), (3, .read), (5, .pure), (6, .read), (7, .pure), (8, .read), (4, .must), (9, .must), (10, .pure), (11, .pure)] [] [] [0, 1, 2, 3] [] [rowT 2 eI64 a14 x11.length cp15 x11, rowT 4 eBool a4 x3.length x3.length x12, boxO 42 g6 [.int .i64 x13.X, .int .i64 x13.Y], boxO 42 g25 [.int .i64 x24.X, .int .i64 x24.Y]] mixedP (by kernel_rfl) (by kernel_rfl) (by decide) rfl rfl ?_
      intro wrr27 Nr27 hFr27
      refine JH.pure rfl (yl_fieldAt (a := some _) Go.Proofs.Try.underlying42 rfl i2 i2n rfl rfl) rfl ?_
      refine JH.read rfl (yl_load1 Go.Proofs.Try.underlying2 rfl rfl (fun w hw => hFr27.box 3 rfl rfl hw) rfl) rfl ?_
      refine JH.pure rfl (yl_fieldAt (a := some _) Go.Proofs.Try.underlying42 rfl i2 i2n rfl rfl) rfl ?_
      refine JH.read rfl (yl_load1 Go.Proofs.Try.underlying2 rfl rfl (fun w hw => hFr27.box 2 rfl rfl hw) rfl) rfl ?_
      refine JH.pure rfl (yl_fieldAt (a := some _) Go.Proofs.Try.underlying42 rfl i2 i2n rfl rfl) rfl ?_
      refine JH.read rfl (yl_load1 Go.Proofs.Try.underlying2 rfl rfl (fun w hw => hFr27.box 3 rfl rfl hw) rfl) rfl ?_
      refine JH.pure rfl (yl_fieldAt (a := some _) Go.Proofs.Try.underlying42 rfl i2 i2n rfl rfl) rfl ?_
      refine JH.read rfl (yl_load1 Go.Proofs.Try.underlying2 rfl rfl (fun w hw => hFr27.box 2 rfl rfl hw) rfl) rfl ?_
      obtain ⟨x28, hx28, hres⟩ := bind_some hres
      refine JH.must rfl (ef_call (T := T114 x28) Go.Proofs.Try.func114 rfl (by kernel_rfl) rfl (fun w hC => c114  hx28)) rfl rfl ?_
      rintro _ _ ⟨_, ⟨rfl, rfl⟩, rfl⟩
      obtain ⟨x29, hx29, hres⟩ := bind_some hres
      refine JH.must rfl (ef_call (T := T114 x29) Go.Proofs.Try.func114 rfl (by kernel_rfl) rfl (fun w hC => c114  hx29)) rfl rfl ?_
      rintro _ _ ⟨_, ⟨rfl, rfl⟩, rfl⟩
      refine JH.pure rfl (yl_add rfl rfl) rfl ?_
      refine JH.pure rfl (yl_assign rfl) rfl ?_
      refine JH.nil ?_
      refine JE.weak (env' := [(0, .slice a_0 q0.length c_0), (3, .slice a14 x11.length cp15), (4, .slice a4 x3.length x3.length), (5, ptrAt (some ⟨g6, 0, none⟩) 0), (6, .int .i64 x17), (7, .int .i64 x18), (8, .int .i64 x19), (10, .int .i64 (w64 (x28 + x29)))]) (es' := [rowT 2 eI64 a14 x11.length cp15 x11, rowT 4 eBool a4 x3.length x3.length x12, boxO 42 g6 [.int .i64 x13.X, .int .i64 x13.Y]]) [0, 1, 2] ?_ ⟨rfl, rfl, rfl, rfl, rfl, rfl, rfl, rfl, trivial⟩ (by decide) rfl
      refine JE.code ?_
      refine JX.seq ?_
      refine JX.region ?_
      refine JL.val (yl_move rfl) rfl ?_
      refine JL.val (yl_move rfl) rfl ?_
      obtain ⟨x30, hx30, hres⟩ := bind_some hres
      refine JL.val (yl_idxT Go.Proofs.Try.underlying182 i4 i4s rfl rfl hx30 l16 (fun w hC => rd_row hC 1 rfl)) rfl ?_
      refine JL.val (yl_loadT0 Go.Proofs.Try.underlying4 rfl rfl hx30 (fun w hC => rd_row hC 1 rfl) rfl) rfl ?_
      refine JL.val (yl_not rfl) rfl ?_
      refine JL.val (yl_move rfl) rfl ?_
      refine JL.cut (K := fun J => J [(0, .slice a_0 q0.length c_0), (3, .slice a14 x11.length cp15), (4, .slice a4 x3.length x3.length), (5, ptrAt (some ⟨g6, 0, none⟩) 0), (6, .int .i64 x17), (7, .int .i64 x18), (8, .int .i64 x19), (10, .int .i64 (w64 (x28 + x29))), (57, .bool (!x30 && ((decide (x17 < 0)) || (decide ((w64 (x28 + x29)) < x18)))))] [rowT 2 eI64 a14 x11.length cp15 x11, rowT 4 eBool a4 x3.length x3.length x12, boxO 42 g6 [.int .i64 x13.X, .int .i64 x13.Y]]) 8 ?_ ?_
      · refine JL.nil ?_
        refine JE.weak (env' := [(0, .slice a_0 q0.length c_0), (3, .slice a14 x11.length cp15), (4, .slice a4 x3.length x3.length), (5, ptrAt (some ⟨g6, 0, none⟩) 0), (6, .int .i64 x17), (7, .int .i64 x18), (8, .int .i64 x19), (10, .int .i64 (w64 (x28 + x29))), (57, .bool (!x30 && ((decide (x17 < 0)) || (decide ((w64 (x28 + x29)) < x18)))))]) (es' := [rowT 2 eI64 a14 x11.length cp15 x11, rowT 4 eBool a4 x3.length x3.length x12, boxO 42 g6 [.int .i64 x13.X, .int .i64 x13.Y]]) [0, 1, 2] ?_ ⟨rfl, rfl, rfl, rfl, rfl, rfl, rfl, rfl, rfl, trivial⟩ (by decide) rfl
        refine JE.code ?_
        obtain ⟨j31, hj31, hresj31⟩ := bind_some hres
        refine JX.cut (K := fun J => J [(0, .slice a_0 q0.length c_0), (3, .slice a14 x11.length cp15), (4, .slice a4 x3.length x3.length), (5, ptrAt (some ⟨g6, 0, none⟩) 0), (6, .int .i64 j31.1), (7, .int .i64 j31.2), (8, .int .i64 x19)] [rowT 2 eI64 a14 x11.length cp15 x11, rowT 4 eBool a4 x3.length x3.length x12, boxO 42 g6 [.int .i64 x13.X, .int .i64 x13.Y]]) ?_ ?_
        · have hres := hresj31
          refine JE.code ?_
          refine JX.region ?_
          refine JL.val (yl_move rfl) rfl ?_
          refine JL.val (yl_add rfl rfl) rfl ?_
          refine JL.val (yl_assign rfl) rfl ?_
          refine JL.nil ?_
          refine JE.cont hres ?_
          exact fun a w h => h.weak ⟨rfl, rfl, rfl, rfl, rfl, rfl, rfl, trivial⟩ [0, 1, 2] (by decide) rfl
        · intro K
          rcases cond_some hj31 with ⟨hb, hres⟩ | ⟨hb, hres⟩
          · refine JX.condT rfl hb ?_
            refine JX.seq ?_
            refine JX.region ?_
            refine JL.val (yl_move rfl) rfl ?_
            refine JL.val (yl_assign rfl) rfl ?_
            refine JL.nil ?_
            refine JE.code ?_
            refine JX.region ?_
            refine JL.val (yl_move rfl) rfl ?_
            refine JL.val (yl_assign rfl) rfl ?_
            refine JL.nil ?_
            have hj := Option.some.inj hres
            exact JE.weak [0, 1, 2] (K) ⟨(by subst hj; rfl), (by subst hj; rfl), (by subst hj; rfl), (by subst hj; rfl), (by subst hj; rfl), (by subst hj; rfl), (by subst hj; rfl), trivial⟩ (by decide) (by subst hj; rfl)
          · refine JX.condF rfl hb ?_
            refine JX.skip ?_
            have hj := Option.some.inj hres
            exact JE.weak [0, 1, 2] (K) ⟨(by subst hj; rfl), (by subst hj; rfl), (by subst hj; rfl), (by subst hj; rfl), (by subst hj; rfl), (by subst hj; rfl), (by subst hj; rfl), trivial⟩ (by decide) (by subst hj; rfl)
      · intro K
        rcases Bool.eq_false_or_eq_true (!x30) with hb | hb
        · refine JL.set (d := 49) (v := .bool true) (congrArg (fun b => some (Value.bool b)) hb) ?_
          refine JL.gval rfl rfl (yl_move rfl) rfl ?_
          refine JL.gval rfl rfl (yl_lss rfl rfl) rfl ?_
          refine JL.gval rfl rfl (yl_move rfl) rfl ?_
          refine JL.cut (K := fun J => J [(0, .slice a_0 q0.length c_0), (3, .slice a14 x11.length cp15), (4, .slice a4 x3.length x3.length), (5, ptrAt (some ⟨g6, 0, none⟩) 0), (6, .int .i64 x17), (7, .int .i64 x18), (8, .int .i64 x19), (10, .int .i64 (w64 (x28 + x29))), (49, .bool true), (56, .bool ((decide (x17 < 0)) || (decide ((w64 (x28 + x29)) < x18))))] [rowT 2 eI64 a14 x11.length cp15 x11, rowT 4 eBool a4 x3.length x3.length x12, boxO 42 g6 [.int .i64 x13.X, .int .i64 x13.Y]]) 4 ?_ ?_
          · refine JL.val (yl_pick_true rfl rfl) rfl ?_
            exact JL.weak [0, 1, 2] K ⟨rfl, rfl, rfl, rfl, rfl, rfl, rfl, rfl, (by rw [hb]; rfl), trivial⟩ (by decide) rfl
          · intro K
            rcases Bool.eq_false_or_eq_true (decide (x17 < 0)) with hb | hb
            · refine JL.set (d := 52) (v := .bool true) (congrArg (fun b => some (Value.bool b)) hb) ?_
              refine JL.gskip rfl rfl rfl rfl ?_
              refine JL.gskip rfl rfl rfl rfl ?_
              refine JL.gskip rfl rfl rfl rfl ?_
              refine JL.gval rfl rfl (yl_pick_true rfl rfl) rfl ?_
              exact JL.weak [0, 1, 2] K ⟨rfl, rfl, rfl, rfl, rfl, rfl, rfl, rfl, rfl, (by rw [hb]; rfl), trivial⟩ (by decide) rfl
            · refine JL.set (d := 52) (v := .bool false) (congrArg (fun b => some (Value.bool b)) hb) ?_
              refine JL.gval rfl rfl (yl_move rfl) rfl ?_
              refine JL.gval rfl rfl (yl_move rfl) rfl ?_
              refine JL.gval rfl rfl (yl_lss rfl rfl) rfl ?_
              refine JL.gval rfl rfl (yl_pick_false rfl rfl) rfl ?_
              exact JL.weak [0, 1, 2] K ⟨rfl, rfl, rfl, rfl, rfl, rfl, rfl, rfl, rfl, (by rw [hb]; rfl), trivial⟩ (by decide) rfl
        · refine JL.set (d := 49) (v := .bool false) (congrArg (fun b => some (Value.bool b)) hb) ?_
          refine JL.gskip rfl rfl rfl rfl ?_
          refine JL.gskip rfl rfl rfl rfl ?_
          refine JL.gskip rfl rfl rfl rfl ?_
          refine JL.gnone rfl rfl rfl ?_
          refine JL.gnone rfl rfl rfl ?_
          refine JL.gnone rfl rfl rfl ?_
          refine JL.gskip rfl rfl rfl rfl ?_
          refine JL.val (yl_pick_false rfl rfl) rfl ?_
          exact JL.weak [0, 1, 2] K ⟨rfl, rfl, rfl, rfl, rfl, rfl, rfl, rfl, (by rw [hb]; rfl), trivial⟩ (by decide) rfl
    · refine JX.condF rfl hb ?_
      refine JX.exit ?_
      refine JE.qb rfl ?_
      obtain ⟨b2, hb2⟩ : ∃ b : Int, b = x17 := ⟨_, rfl⟩
      have hy2 : b2 = y2 := by rw [hb2]; exact hox2 _ (Option.some.inj hres).symm
      have hres := hresO2
      rw [← hy2] at hres
      refine JE.weak (env' := [(0, .slice a_0 q0.length c_0), (3, .slice a14 x11.length cp15), (4, .slice a4 x3.length x3.length), (5, ptrAt (some ⟨g6, 0, none⟩) 0), (6, .int .i64 b2)]) (es' := [rowT 2 eI64 a14 x11.length cp15 x11, rowT 4 eBool a4 x3.length x3.length x12, boxO 42 g6 [.int .i64 x13.X, .int .i64 x13.Y]]) [0, 1, 2] ?_ ⟨(by subst hb2; rfl), (by subst hb2; rfl), (by subst hb2; rfl), (by subst hb2; rfl), (by subst hb2; rfl), trivial⟩ (by decide) (by subst hb2; rfl)
      refine JE.code ?_
      refine JX.seq ?_
      refine JX.region ?_
      refine JL.val (yl_move rfl) rfl ?_
      refine JL.val (yl_move rfl) rfl ?_
      obtain ⟨x32, hx32, hres⟩ := bind_some hres
      refine JL.val (yl_idxT Go.Proofs.Try.underlying182 i4 i4s rfl rfl hx32 l16 (fun w hC => rd_row hC 1 rfl)) rfl ?_
      refine JL.eff (ef_storeT (ix := 1) (u := true) i4 i4s rfl rfl rfl hx32 rfl) rfl ?_
      rintro _ _ rfl
      refine JL.nil ?_
      refine JE.weak (env' := [(0, .slice a_0 q0.length c_0), (3, .slice a14 x11.length cp15), (4, .slice a4 x3.length x3.length), (5, ptrAt (some ⟨g6, 0, none⟩) 0), (6, .int .i64 b2)]) (es' := [rowT 2 eI64 a14 x11.length cp15 x11, rowT 4 eBool a4 x3.length x3.length (x12.set (b2).toNat true), boxO 42 g6 [.int .i64 x13.X, .int .i64 x13.Y]]) [0, 1, 2] ?_ ⟨rfl, rfl, rfl, rfl, rfl, trivial⟩ (by decide) rfl
      refine JE.code ?_
      refine JX.seq ?_
      refine JX.region ?_
      refine JL.val (yl_move rfl) rfl ?_
      refine JL.val (yl_move rfl) rfl ?_
      obtain ⟨x33, hx33, hres⟩ := bind_some hres
      obtain ⟨ha34, hc35, hhx33⟩ := Inn.sub i_0 hx33
      refine JL.val (yl_idxT Go.Proofs.Try.underlying29 i34 i34s rfl rfl hhx33 (Inn.len i_0) (fun w hC => rd_arg g_0 hC)) rfl ?_
      refine JL.val (yl_loadT0 (z := ⟨ha34, x33.length, hc35⟩) Go.Proofs.Try.underlying34 rfl rfl hhx33 (fun w hC => rd_arg g_0 hC) rfl) rfl ?_
      obtain ⟨x37, hx37, hres⟩ := bind_some hres
      refine JL.val (yl_idxT Go.Proofs.Try.underlying34 i42 i42s rfl rfl hx37 rfl (fun w hC => rd_arg (RdI.sub r_0 hx33 hhx33) hC)) rfl ?_
      refine JL.val (yl_loadTn Go.Proofs.Try.underlying42 rfl i42 i42s rfl hx37 (fun w hC => rd_arg (RdI.sub r_0 hx33 hhx33) hC)) rfl ?_
      refine JL.eff (ef_store_box (i := 2) (v := .agg #[.int .i64 x37.X, .int .i64 x37.Y]) i42 rfl rfl rfl (i42s).symm (Nat.le_of_ble_eq_true rfl) (by simp [Value.cells, Value.oneCell'])) rfl ?_
      rintro _ _ rfl
      refine JL.nil ?_
      refine JE.weak (env' := [(0, .slice a_0 q0.length c_0), (3, .slice a14 x11.length cp15), (4, .slice a4 x3.length x3.length), (5, ptrAt (some ⟨g6, 0, none⟩) 0), (6, .int .i64 b2)]) (es' := [rowT 2 eI64 a14 x11.length cp15 x11, rowT 4 eBool a4 x3.length x3.length (x12.set (b2).toNat true), boxO 42 g6 [.int .i64 x37.X, .int .i64 x37.Y]]) [0, 1, 2] ?_ ⟨rfl, rfl, rfl, rfl, rfl, trivial⟩ (by decide) rfl
      refine JE.code ?_
      refine JX.region ?_
      refine JL.val (yl_move rfl) rfl ?_
      refine JL.val (yl_move rfl) rfl ?_
      refine JL.eff (ef_buildSlice (E := 2) (k := eI64.k) (us := eI64.fl [b2]) rfl (fun w => bsl24_1 b2 w) rfl (by decide)) rfl ?_
      rintro _ _ ⟨a38, rfl, rfl⟩
      obtain ⟨x40, hx40, hres⟩ := bind_some hres
      refine JL.eff (ef_appendT (ix := 0) Go.Proofs.Try.underlying24 i2 i2z i2s rfl i2b0 i2b1 rfl rfl rfl rfl rfl (fun w hC => rd_row hC 3 rfl) hx40) rfl ?_
      rintro _ _ ⟨a41, cp42, rfl, rfl⟩
      refine JL.val (yl_assign rfl) rfl ?_
      refine JL.nil ?_
      refine JE.weak (env' := [(0, .slice a_0 q0.length c_0), (3, .slice a41 x40.length cp42), (4, .slice a4 x3.length x3.length), (5, ptrAt (some ⟨g6, 0, none⟩) 0)]) (es' := [rowT 2 eI64 a41 x40.length cp42 x40, rowT 4 eBool a4 x3.length x3.length (x12.set (b2).toNat true), boxO 42 g6 [.int .i64 x37.X, .int .i64 x37.Y]]) [0, 1, 2] ?_ ⟨rfl, rfl, rfl, rfl, trivial⟩ (by decide) rfl
      refine JE.cont hres ?_
      exact fun a w h => ⟨a41, cp42, (List.length_set.trans l16), h.weak ⟨rfl, rfl, rfl, rfl, trivial⟩ [0, 1, 2] (by decide) rfl⟩
  · refine JX.condF rfl hb ?_
    refine JX.exit ?_
    refine JE.qb rfl ?_
    obtain ⟨b1, hb1⟩ : ∃ b : List Int, b = x11 := ⟨_, rfl⟩
    have hy1 : b1 = y1 := by rw [hb1]; exact hox1 _ (Option.some.inj hres).symm
    have hres := hresO1
    rw [← hy1] at hres
    refine JE.weak (env' := [(3, .slice a14 b1.length cp15)]) (es' := [rowT 2 eI64 a14 b1.length cp15 b1]) [0] ?_ ⟨(by subst hb1; rfl), trivial⟩ (by decide) (by subst hb1; rfl)
    refine JE.code ?_
    refine JX.seq ?_
    refine JX.region ?_
    refine JL.val (yl_move rfl) rfl ?_
    refine JL.val (yl_assign rfl) rfl ?_
    refine JL.nil ?_
    refine JE.code ?_
    refine JX.ret ?_
    obtain rfl := Option.some.inj hres
    refine JE.ret (rs := [.tmp 2]) (vs := [.slice a14 b1.length cp15]) rfl ⟨rfl, trivial⟩ ?_
    exact fun w' hb hs => ⟨_, _, ⟨a14, b1.length, cp15, rfl, rfl, rfl⟩, rfl, hb, hs.sel [0] _ (by decide) rfl⟩

/- spec.l22Curve -/
def sh149_1 (q0 : List SPoint) (q1 : Int) (q2 : Int) : (Int × List SToolMove) → Option ((Int × List SToolMove) ⊕ (List SToolMove))
  | (x13, x14) => bif decide (x13 ≤ (q0.length : Int)) then (Option.bind (nzI (q0.length : Int)) fun x17 => Option.bind (getI q0 (x13.tmod (q0.length : Int))) fun x18 => Option.bind (appL x14 [SToolMove.mk (w64 (x18.X * q1)) (w64 (x18.Y * q1)) (w64 (0 - q2))]) fun x23 => some (.inl (w64 (x13 + 1), x23))) else (some (.inr x14))
def sh149 (q0 : List SPoint) (q1 : Int) (q2 : Int) (q3 : Int) : Option (List SToolMove) := Option.bind (getI q0 (0 : Int)) fun x4 => Option.bind (getI q0 (0 : Int)) fun x5 => Option.bind (appL ([] : List SToolMove) [SToolMove.mk (w64 (x4.X * q1)) (w64 (x5.Y * q1)) q3]) fun x8 => Option.bind (iter (sh149_1 q0 q1 q2) (0, x8)) fun b1 => (Option.bind (getI q0 (0 : Int)) fun x29 => Option.bind (getI q0 (0 : Int)) fun x30 => Option.bind (appL b1 [SToolMove.mk (w64 (x29.X * q1)) (w64 (x30.Y * q1)) q3]) fun x33 => some x33)
def T149 (r : List SToolMove) (v : Value) (rs : List Own) : Prop := ∃ (a0 : Option Addr) (n0 c0 : Nat), r.length = n0 ∧ v = rets [.slice a0 n0 c0] ∧ rs = [rowT 88 eSToolMove a0 n0 c0 r]
set_option maxRecDepth 100000 in
theorem c149 {w : World} {q0 : List SPoint} {a_0 : Option Addr} {n_0 c_0 : Nat} (g_0 : Rd w a_0 (eSPoint.fl q0)) (l_0 : q0.length = n_0) (k_0 : n_0 ≤ c_0) {q1 : Int} {q2 : Int} {q3 : Int} {r : List SToolMove} (hres : sh149 q0 q1 q2 q3 = some r) : Calls Go.Proofs.Try.prog 149 [.slice a_0 n_0 c_0, .int .i64 q1, .int .i64 q2, .int .i64 q3].toArray w (Ret w (T149 r)) := by
  subst l_0
  unfold sh149 at hres
  refine calls_of (n := 75) (M := []) (es := []) Go.Proofs.Try.func149 rfl rfl rfl (Sep.nil _ _ _) ?_
  refine JX.seq ?_
  refine JX.region ?_
  refine JL.val (yl_assign rfl) rfl ?_
  refine JL.nil ?_
  refine JE.code ?_
  refine JX.seq ?_
  refine JX.region ?_
  refine JL.eff (ef_buildSlice (E := 88) (k := eSToolMove.k) (us := eSToolMove.fl ([] : List SToolMove)) rfl (fun w => bsl65_0  w) rfl (by decide)) rfl ?_
  rintro _ _ ⟨a1, rfl, rfl⟩
  refine JL.val (yl_assign rfl) rfl ?_
  refine JL.nil ?_
  refine JE.code ?_
  refine JX.seq ?_
  refine JX.region ?_
  refine JL.val (yl_move rfl) rfl ?_
  refine JL.val (yl_len_slice Go.Proofs.Try.underlying34 rfl) rfl ?_
  refine JL.val (yl_assign rfl) rfl ?_
  refine JL.nil ?_
  refine JE.code ?_
  refine JX.seq ?_
  refine JX.drawH [(0, .pure), (1, .pure), (2, .pure), (3, .pure), (4, .read), (5, .pure), (6, .pure), (7, .pure), (8, .pure), (9, .pure), (10, .read), (11, .pure), (12, .pure), (13, .pure), (14, .pure), (15, .must), (16, .must), (17, .pure)] [16] [0] [] [rowT 88 eSToolMove a1 0 0 ([] : List SToolMove)] [] mixedP (by kernel_rfl) (by kernel_rfl) (by decide) rfl rfl ?_
  intro wrr3 Nr3 hFr3
  refine JH.pure rfl (yl_move rfl) rfl ?_
  refine JH.pure rfl (yl_move rfl) rfl ?_
  obtain ⟨x4, hx4, hres⟩ := bind_some hres
  refine JH.pure rfl (yl_idxQ Go.Proofs.Try.underlying34 i42 i42s rfl rfl hx4 rfl (rd_arg g_0 hFr3.cl) rfl) rfl ?_
  refine JH.pure rfl (yl_fieldAt Go.Proofs.Try.underlying42 rfl i2 i2n rfl (RdT.someQ (rd_arg g_0 hFr3.cl) hx4 rfl rfl)) rfl ?_
  refine JH.read rfl (yl_loadT1 Go.Proofs.Try.underlying2 rfl rfl hx4 (fun w hw => hFr3.arg g_0 hw) rfl) rfl ?_
  refine JH.pure rfl (yl_move rfl) rfl ?_
  refine JH.pure rfl (yl_mul rfl rfl) rfl ?_
  refine JH.pure rfl (yl_move rfl) rfl ?_
  obtain ⟨x5, hx5, hres⟩ := bind_some hres
  refine JH.pure rfl (yl_idxQ Go.Proofs.Try.underlying34 i42 i42s rfl rfl hx5 rfl (rd_arg g_0 hFr3.cl) rfl) rfl ?_
  refine JH.pure rfl (yl_fieldAt Go.Proofs.Try.underlying42 rfl i2 i2n rfl (RdT.someQ (rd_arg g_0 hFr3.cl) hx5 rfl rfl)) rfl ?_
  refine JH.read rfl (yl_loadT1 Go.Proofs.Try.underlying2 rfl rfl hx5 (fun w hw => hFr3.arg g_0 hw) rfl) rfl ?_
  refine JH.pure rfl (yl_move rfl) rfl ?_
  refine JH.pure rfl (yl_mul rfl rfl) rfl ?_
  refine JH.pure rfl (yl_move rfl) rfl ?_
  refine JH.pure rfl (yl_build rfl (fun w => bld88_0_1_2 (w64 (x4.X * q1)) (w64 (x5.Y * q1)) q3 w)) rfl ?_
  refine JH.must rfl (ef_buildSlice (E := 88) (k := eSToolMove.k) (us := eSToolMove.fl [SToolMove.mk (w64 (x4.X * q1)) (w64 (x5.Y * q1)) q3]) rfl (fun w => bsl65_1 (w64 (x4.X * q1)) (w64 (x5.Y * q1)) q3 w) rfl (by decide)) rfl rfl ?_
  rintro _ _ ⟨a6, rfl, rfl⟩
  obtain ⟨x8, hx8, hres⟩ := bind_some hres
  refine JH.must rfl (ef_appendT (ix := 0) Go.Proofs.Try.underlying65 i88 i88z i88s rfl i88b0 i88b1 rfl rfl rfl rfl rfl (fun w hC => rd_row hC 1 rfl) hx8) rfl rfl ?_
  rintro _ _ ⟨a9, cp10, rfl, rfl⟩
  refine JH.pure rfl (yl_assign rfl) rfl ?_
  refine JH.nil ?_
  refine JE.weak (env' := [(0, .slice a_0 q0.length c_0), (1, .int .i64 q1), (2, .int .i64 q2), (3, .int .i64 q3), (9, .slice a9 x8.length cp10), (10, .int .i64 (q0.length : Int))]) (es' := [rowT 88 eSToolMove a9 x8.length cp10 x8]) [0] ?_ ⟨rfl, rfl, rfl, rfl, rfl, rfl, trivial⟩ (by decide) rfl
  refine JE.code ?_
  refine JX.seq ?_
  refine JX.seq ?_
  refine JX.region ?_
  refine JL.val (yl_assign rfl) rfl ?_
  refine JL.nil ?_
  refine JE.code ?_
  refine JX.block ?_
  obtain ⟨y1, hy1, hresO1⟩ := bind_some hres
  refine JX.loop (I := fun (s1 : Int × List SToolMove) aa ww => ∃ (a11 : Option Addr) (cp12 : Nat), St w [] 75 [(0, .slice a_0 q0.length c_0), (1, .int .i64 q1), (2, .int .i64 q2), (3, .int .i64 q3), (9, .slice a11 s1.2.length cp12), (10, .int .i64 (q0.length : Int)), (11, .int .i64 s1.1)] [rowT 88 eSToolMove a11 s1.2.length cp12 s1.2] aa ww) (sh149_1 q0 q1 q2) hy1 (fun a w h => ⟨a9, cp10, h.weak ⟨rfl, rfl, rfl, rfl, rfl, rfl, rfl, trivial⟩ [0] (by decide) rfl⟩) ?_
  rintro ⟨x13, x14⟩ o1 hres hox1 aa ww ⟨a15, cp16, hS⟩
  refine (?_ : JX Go.Proofs.Try.prog w [] 75 _ _ [(0, .slice a_0 q0.length c_0), (1, .int .i64 q1), (2, .int .i64 q2), (3, .int .i64 q3), (9, .slice a15 x14.length cp16), (10, .int .i64 (q0.length : Int)), (11, .int .i64 x13)] [rowT 88 eSToolMove a15 x14.length cp16 x14] _) aa ww hS
  clear hS
  simp only [sh149_1] at hres
  refine JX.seq ?_
  refine JX.seq ?_
  refine JX.region ?_
  refine JL.val (yl_move rfl) rfl ?_
  refine JL.val (yl_move rfl) rfl ?_
  refine JL.val (yl_leq rfl rfl) rfl ?_
  refine JL.nil ?_
  refine JE.code ?_
  rcases cond_some hres with ⟨hb, hres⟩ | ⟨hb, hres⟩
  · refine JX.condT rfl hb ?_
    refine JX.skip ?_
    refine JE.code ?_
    refine JX.seq ?_
    refine JX.block ?_
    refine JX.seq ?_
    refine JX.region ?_
    refine JL.val (yl_move rfl) rfl ?_
    refine JL.val (yl_move rfl) rfl ?_
    refine JL.val (yl_move rfl) rfl ?_
    obtain ⟨x17, hx17, hres⟩ := bind_some hres
    refine JL.val (yl_rem rfl rfl (nzI_some hx17)) rfl ?_
    obtain ⟨x18, hx18, hres⟩ := bind_some hres
    refine JL.val (yl_idxT Go.Proofs.Try.underlying34 i42 i42s rfl rfl hx18 rfl (fun w hC => rd_arg g_0 hC)) rfl ?_
    refine JL.val (yl_loadTn Go.Proofs.Try.underlying42 rfl i42 i42s rfl hx18 (fun w hC => rd_arg g_0 hC)) rfl ?_
    refine JL.eff (ef_alloc i42 i42z rfl) rfl ?_
    rintro _ _ ⟨g19, rfl, rfl⟩
    refine JL.eff (ef_store_box (i := 1) (v := .agg #[.int .i64 x18.X, .int .i64 x18.Y]) i42 rfl rfl rfl (i42s).symm (Nat.le_of_ble_eq_true rfl) (by simp [Value.cells, Value.oneCell'])) rfl ?_
    rintro _ _ rfl
    refine JL.nil ?_
    refine JE.weak (env' := [(0, .slice a_0 q0.length c_0), (1, .int .i64 q1), (2, .int .i64 q2), (3, .int .i64 q3), (9, .slice a15 x14.length cp16), (10, .int .i64 (q0.length : Int)), (11, .int .i64 x13), (12, ptrAt (some ⟨g19, 0, none⟩) 0)]) (es' := [rowT 88 eSToolMove a15 x14.length cp16 x14, boxO 42 g19 [.int .i64 x18.X, .int .i64 x18.Y]]) [0, 1] ?_ ⟨rfl, rfl, rfl, rfl, rfl, rfl, rfl, rfl, trivial⟩ (by decide) rfl
    refine JE.code ?_
    refine JX.region ?_
    refine JL.val (yl_move rfl) rfl ?_
    refine JL.val (yl_fieldAt (a := some _) Go.Proofs.Try.underlying42 rfl i2 i2n rfl rfl) rfl ?_
    refine JL.val (yl_load1 Go.Proofs.Try.underlying2 rfl rfl (fun w hC => rd_box hC 1 rfl) rfl) rfl ?_
    refine JL.val (yl_move rfl) rfl ?_
    refine JL.val (yl_mul rfl rfl) rfl ?_
    refine JL.val (yl_fieldAt (a := some _) Go.Proofs.Try.underlying42 rfl i2 i2n rfl rfl) rfl ?_
    refine JL.val (yl_load1 Go.Proofs.Try.underlying2 rfl rfl (fun w hC => rd_box hC 1 rfl) rfl) rfl ?_
    refine JL.val (yl_move rfl) rfl ?_
    refine JL.val (yl_mul rfl rfl) rfl ?_
    refine JL.val (yl_move rfl) rfl ?_
    refine JL.val (yl_neg rfl) rfl ?_
    refine JL.val (yl_build rfl (fun w => bld88_0_1_2 (w64 (x18.X * q1)) (w64 (x18.Y * q1)) (w64 (0 - q2)) w)) rfl ?_
    refine JL.eff (ef_buildSlice (E := 88) (k := eSToolMove.k) (us := eSToolMove.fl [SToolMove.mk (w64 (x18.X * q1)) (w64 (x18.Y * q1)) (w64 (0 - q2))]) rfl (fun w => bsl65_1 (w64 (x18.X * q1)) (w64 (x18.Y * q1)) (w64 (0 - q2)) w) rfl (by decide)) rfl ?_
    rintro _ _ ⟨a21, rfl, rfl⟩
    obtain ⟨x23, hx23, hres⟩ := bind_some hres
    refine JL.eff (ef_appendT (ix := 0) Go.Proofs.Try.underlying65 i88 i88z i88s rfl i88b0 i88b1 rfl rfl rfl rfl rfl (fun w hC => rd_row hC 2 rfl) hx23) rfl ?_
    rintro _ _ ⟨a24, cp25, rfl, rfl⟩
    refine JL.val (yl_assign rfl) rfl ?_
    refine JL.nil ?_
    refine JE.weak (env' := [(0, .slice a_0 q0.length c_0), (1, .int .i64 q1), (2, .int .i64 q2), (3, .int .i64 q3), (9, .slice a24 x23.length cp25), (10, .int .i64 (q0.length : Int)), (11, .int .i64 x13)]) (es' := [rowT 88 eSToolMove a24 x23.length cp25 x23]) [0] ?_ ⟨rfl, rfl, rfl, rfl, rfl, rfl, rfl, trivial⟩ (by decide) rfl
    refine JE.code ?_
    refine JX.region ?_
    refine JL.val (yl_move rfl) rfl ?_
    refine JL.val (yl_add rfl rfl) rfl ?_
    refine JL.val (yl_assign rfl) rfl ?_
    refine JL.nil ?_
    refine JE.cont hres ?_
    exact fun a w h => ⟨a24, cp25, h.weak ⟨rfl, rfl, rfl, rfl, rfl, rfl, rfl, trivial⟩ [0] (by decide) rfl⟩
  · refine JX.condF rfl hb ?_
    refine JX.exit ?_
    refine JE.qb rfl ?_
    obtain ⟨b1, hb1⟩ : ∃ b : List SToolMove, b = x14 := ⟨_, rfl⟩
    have hy1 : b1 = y1 := by rw [hb1]; exact hox1 _ (Option.some.inj hres).symm
    have hres := hresO1
    rw [← hy1] at hres
    refine JE.weak (env' := [(0, .slice a_0 q0.length c_0), (1, .int .i64 q1), (3, .int .i64 q3), (9, .slice a15 b1.length cp16)]) (es' := [rowT 88 eSToolMove a15 b1.length cp16 b1]) [0] ?_ ⟨(by subst hb1; rfl), (by subst hb1; rfl), (by subst hb1; rfl), (by subst hb1; rfl), trivial⟩ (by decide) (by subst hb1; rfl)
    refine JE.code ?_
    refine JX.seq ?_
    refine JX.drawH [(0, .pure), (1, .pure), (2, .pure), (3, .pure), (4, .read), (5, .pure), (6, .pure), (7, .pure), (8, .pure), (9, .pure), (10, .read), (11, .pure), (12, .pure), (13, .pure), (14, .pure), (15, .must), (16, .must), (17, .pure)] [16] [0] [] [rowT 88 eSToolMove a15 b1.length cp16 b1] [] mixedP (by kernel_rfl) (by kernel_rfl) (by decide) rfl rfl ?_
    intro wrr28 Nr28 hFr28
    refine JH.pure rfl (yl_move rfl) rfl ?_
    refine JH.pure rfl (yl_move rfl) rfl ?_
    obtain ⟨x29, hx29, hres⟩ := bind_some hres
    refine JH.pure rfl (yl_idxQ Go.Proofs.Try.underlying34 i42 i42s rfl rfl hx29 rfl (rd_arg g_0 hFr28.cl) rfl) rfl ?_
    refine JH.pure rfl (yl_fieldAt Go.Proofs.Try.underlying42 rfl i2 i2n rfl (RdT.someQ (rd_arg g_0 hFr28.cl) hx29 rfl rfl)) rfl ?_
    refine JH.read rfl (yl_loadT1 Go.Proofs.Try.underlying2 rfl rfl hx29 (fun w hw => hFr28.arg g_0 hw) rfl) rfl ?_
    refine JH.pure rfl (yl_move rfl) rfl ?_
    refine JH.pure rfl (yl_mul rfl rfl) rfl ?_
    refine JH.pure rfl (yl_move rfl) rfl ?_
    obtain ⟨x30, hx30, hres⟩ := bind_some hres
    refine JH.pure rfl (yl_idxQ Go.Proofs.Try.underlying34 i42 i42s rfl rfl hx30 rfl (rd_arg g_0 hFr28.cl) rfl) rfl ?_
    refine JH.pure rfl (yl_fieldAt Go.Proofs.Try.underlying42 rfl i2 i2n rfl (RdT.someQ (rd_arg g_0 hFr28.cl) hx30 rfl rfl)) rfl ?_
    refine JH.read rfl (yl_loadT1 Go.Proofs.Try.underlying2 rfl rfl hx30 (fun w hw => hFr28.arg g_0 hw) rfl) rfl ?_
    refine JH.pure rfl (yl_move rfl) rfl ?_
    refine JH.pure rfl (yl_mul rfl rfl) rfl ?_
    refine JH.pure rfl (yl_move rfl) rfl ?_
    refine JH.pure rfl (yl_build rfl (fun w => bld88_0_1_2 (w64 (x29.X * q1)) (w64 (x30.Y * q1)) q3 w)) rfl ?_
    refine JH.must rfl (ef_buildSlice (E := 88) (k := eSToolMove.k) (us := eSToolMove.fl [SToolMove.mk (w64 (x29.X * q1)) (w64 (x30.Y * q1)) q3]) rfl (fun w => bsl65_1 (w64 (x29.X * q1)) (w64 (x30.Y * q1)) q3 w) rfl (by decide)) rfl rfl ?_
    rintro _ _ ⟨a31, rfl, rfl⟩
    obtain ⟨x33, hx33, hres⟩ := bind_some hres
    refine JH.must rfl (ef_appendT (ix := 0) Go.Proofs.Try.underlying65 i88 i88z i88s rfl i88b0 i88b1 rfl rfl rfl rfl rfl (fun w hC => rd_row hC 1 rfl) hx33) rfl rfl ?_
    rintro _ _ ⟨a34, cp35, rfl, rfl⟩
    refine JH.pure rfl (yl_assign rfl) rfl ?_
    refine JH.nil ?_
    refine JE.weak (env' := [(8, .slice a34 x33.length cp35)]) (es' := [rowT 88 eSToolMove a34 x33.length cp35 x33]) [0] ?_ ⟨rfl, trivial⟩ (by decide) rfl
    refine JE.code ?_
    refine JX.ret ?_
    obtain rfl := Option.some.inj hres
    refine JE.ret (rs := [.tmp 8]) (vs := [.slice a34 x33.length cp35]) rfl ⟨rfl, trivial⟩ ?_
    exact fun w' hb hs => ⟨_, _, ⟨a34, x33.length, cp35, rfl, rfl, rfl⟩, rfl, hb, hs.sel [0] _ (by decide) rfl⟩

/- spec.CarvePanel -/
def sh51_1 (q1 : Int) (q2 : Int) (q3 : Int) (x8 : List (List SPoint) × List Int) (x18 : List Int) : (Int × List SToolMove) → Option ((Int × List SToolMove) ⊕ (List SToolMove))
  | (x26, x27) => bif decide (x26 < (x18.length : Int)) then (Option.bind (getI x18 x26) fun x30 => Option.bind (getI x8.1 x30) fun x31 => Option.bind (sh149 x31 q1 q2 q3) fun x35 => Option.bind (appL x27 x35) fun x39 => some (.inl (w64 (x26 + 1), x39))) else (some (.inr x27))
def sh51 (q0 : SPanel) (q1 : Int) (q2 : Int) (q3 : Int) : Option (List SToolMove × Int) := Option.bind (sh146 q0 0 q1 q2 q3) fun x3 => bif x3.2 != 0 then (some (([] : List SToolMove), x3.2)) else (Option.bind (sh147 q0) fun x8 => Option.bind (sh148 x8.1) fun x18 => Option.bind (iter (sh51_1 q1 q2 q3 x8 x18) (0, ([] : List SToolMove))) fun b1 => (some (b1, 0)))
def T51 (r : List SToolMove × Int) (v : Value) (rs : List Own) : Prop := ∃ (a0 : Option Addr) (n0 c0 : Nat), r.1.length = n0 ∧ v = rets [.slice a0 n0 c0, .int .i64 r.2] ∧ rs = [rowT 88 eSToolMove a0 n0 c0 r.1]
set_option maxRecDepth 100000 in
theorem c51 {w : World} {q0 : SPanel} {a_0_2 : Option Addr} {n_0_2 c_0_2 : Nat} (g_0_2 : Rd w a_0_2 (eI64.fl q0.Breaks)) (l_0_2 : q0.Breaks.length = n_0_2) (k_0_2 : n_0_2 ≤ c_0_2) {q1 : Int} {q2 : Int} {q3 : Int} {r : List SToolMove × Int} (hres : sh51 q0 q1 q2 q3 = some r) : Calls Go.Proofs.Try.prog 51 [.agg #[.int .i64 q0.W, .int .i64 q0.H, .slice a_0_2 n_0_2 c_0_2], .int .i64 q1, .int .i64 q2, .int .i64 q3].toArray w (Ret w (T51 r)) := by
  subst l_0_2
  unfold sh51 at hres
  refine calls_of (n := 54) (M := []) (es := []) Go.Proofs.Try.func51 rfl rfl rfl (Sep.nil _ _ _) ?_
  refine JX.seq ?_
  refine JX.region ?_
  refine JL.eff (ef_box rfl rfl) rfl ?_
  rintro _ _ ⟨g1, rfl, rfl⟩
  refine JL.val (yl_assign rfl) rfl ?_
  refine JL.val (yl_assign rfl) rfl ?_
  refine JL.nil ?_
  refine JE.code ?_
  refine JX.seq ?_
  refine JX.region ?_
  refine JL.val (yl_move rfl) rfl ?_
  refine JL.val (yl_move rfl) rfl ?_
  refine JL.val (yl_move rfl) rfl ?_
  obtain ⟨x3, hx3, hres⟩ := bind_some hres
  refine JL.eff (ef_call (T := T146 x3) Go.Proofs.Try.func146 rfl (by kernel_rfl) rfl (fun w hC => c146 (RdAt.of0 (rd_box hC 0 rfl)) (rd_arg g_0_2 hC) rfl k_0_2 hx3)) rfl ?_
  rintro _ _ ⟨_, ⟨a4, _, cp5, rfl, rfl, rfl⟩, rfl⟩
  refine JL.val (yl_move rfl) rfl ?_
  refine JL.val (yl_extract rfl rfl) rfl ?_
  refine JL.val (yl_extract rfl rfl) rfl ?_
  refine JL.val (yl_assign rfl) rfl ?_
  refine JL.val (yl_assign rfl) rfl ?_
  refine JL.nil ?_
  refine JE.weak (env' := [(1, .int .i64 q1), (2, .int .i64 q2), (3, .int .i64 q3), (4, ptrAt (some ⟨g1, 0, none⟩) 0), (11, .int .i64 x3.2)]) (es' := [boxO 26 g1 [.int .i64 q0.W, .int .i64 q0.H, .slice a_0_2 q0.Breaks.length c_0_2]]) [0] ?_ ⟨rfl, rfl, rfl, rfl, rfl, trivial⟩ (by decide) rfl
  refine JE.code ?_
  refine JX.seq ?_
  refine JX.seq ?_
  refine JX.region ?_
  refine JL.val (yl_move rfl) rfl ?_
  refine JL.val (yl_neq rfl rfl) rfl ?_
  refine JL.nil ?_
  refine JE.code ?_
  rcases cond_some hres with ⟨hb, hres⟩ | ⟨hb, hres⟩
  · refine JX.condT rfl hb ?_
    refine JX.seq ?_
    refine JX.region ?_
    refine JL.val (yl_move rfl) rfl ?_
    refine JL.val (yl_assign rfl) rfl ?_
    refine JL.val (yl_assign rfl) rfl ?_
    refine JL.nil ?_
    refine JE.weak (env' := [(8, .slice none 0 0), (9, .int .i64 x3.2)]) (es' := []) [] ?_ ⟨rfl, rfl, trivial⟩ (by decide) rfl
    refine JE.code ?_
    refine JX.ret ?_
    refine JE.nilrow 88 eSToolMove ?_
    obtain rfl := Option.some.inj hres
    refine JE.ret (rs := [.tmp 8, .tmp 9]) (vs := [.slice none 0 0, .int .i64 x3.2]) rfl ⟨rfl, rfl, trivial⟩ ?_
    exact fun w' hb hs => ⟨_, _, ⟨none, 0, 0, rfl, rfl, rfl⟩, rfl, hb, hs.sel [0] _ (by decide) rfl⟩
  · refine JX.condF rfl hb ?_
    refine JX.skip ?_
    refine JE.code ?_
    refine JX.seq ?_
    refine JX.region ?_
    obtain ⟨x8, hx8, hres⟩ := bind_some hres
    refine JL.eff (ef_call (T := T147 x8) Go.Proofs.Try.func147 rfl (by kernel_rfl) rfl (fun w hC => c147 (RdAt.of0 (rd_box hC 0 rfl)) (rd_arg g_0_2 hC) rfl k_0_2 hx8)) rfl ?_
    rintro _ _ ⟨_, ⟨a9, _, cp10, hs12, rfl, hi13, a15, _, cp16, rfl, rfl, rfl⟩, rfl⟩
    refine JL.val (yl_move rfl) rfl ?_
    refine JL.val (yl_extract rfl rfl) rfl ?_
    refine JL.val (yl_extract rfl rfl) rfl ?_
    refine JL.val (yl_assign rfl) rfl ?_
    refine JL.val (yl_assign rfl) rfl ?_
    refine JL.nil ?_
    refine JE.weak (env' := [(1, .int .i64 q1), (2, .int .i64 q2), (3, .int .i64 q3), (12, .slice a9 x8.1.length cp10)]) (es' := [rowT 34 eHd a9 x8.1.length cp10 hs12, innO 42 eSPoint none hs12 x8.1]) [1, 2] ?_ ⟨rfl, rfl, rfl, rfl, trivial⟩ (by decide) rfl
    refine JE.code ?_
    refine JX.seq ?_
    refine JX.region ?_
    refine JL.val (yl_move rfl) rfl ?_
    obtain ⟨x18, hx18, hres⟩ := bind_some hres
    refine JL.eff (ef_call (T := T148 x18) Go.Proofs.Try.func148 rfl (by kernel_rfl) rfl (fun w hC => c148 (rd_row hC 0 rfl) (rd_inn hC 1 rfl) hi13 rfl (ln_row hC 0 rfl) hx18)) rfl ?_
    rintro _ _ ⟨_, ⟨a19, _, cp20, rfl, rfl, rfl⟩, rfl⟩
    refine JL.val (yl_assign rfl) rfl ?_
    refine JL.nil ?_
    refine JE.code ?_
    refine JX.seq ?_
    refine JX.region ?_
    refine JL.eff (ef_buildSlice (E := 88) (k := eSToolMove.k) (us := eSToolMove.fl ([] : List SToolMove)) rfl (fun w => bsl65_0  w) rfl (by decide)) rfl ?_
    rintro _ _ ⟨a22, rfl, rfl⟩
    refine JL.val (yl_assign rfl) rfl ?_
    refine JL.nil ?_
    refine JE.code ?_
    refine JX.seq ?_
    refine JX.seq ?_
    refine JX.region ?_
    refine JL.val (yl_assign rfl) rfl ?_
    refine JL.nil ?_
    refine JE.code ?_
    refine JX.block ?_
    obtain ⟨y1, hy1, hresO1⟩ := bind_some hres
    refine JX.loop (I := fun (s1 : Int × List SToolMove) aa ww => ∃ (a24 : Option Addr) (cp25 : Nat), St w [] 54 [(1, .int .i64 q1), (2, .int .i64 q2), (3, .int .i64 q3), (12, .slice a9 x8.1.length cp10), (14, .slice a19 x18.length cp20), (15, .slice a24 s1.2.length cp25), (16, .int .i64 s1.1)] [rowT 34 eHd a9 x8.1.length cp10 hs12, innO 42 eSPoint none hs12 x8.1, rowT 2 eI64 a19 x18.length cp20 x18, rowT 88 eSToolMove a24 s1.2.length cp25 s1.2] aa ww) (sh51_1 q1 q2 q3 x8 x18) hy1 (fun a w h => ⟨a22, 0, h.weak ⟨rfl, rfl, rfl, rfl, rfl, rfl, rfl, trivial⟩ [0, 1, 2, 3] (by decide) rfl⟩) ?_
    rintro ⟨x26, x27⟩ o1 hres hox1 aa ww ⟨a28, cp29, hS⟩
    refine (?_ : JX Go.Proofs.Try.prog w [] 54 _ _ [(1, .int .i64 q1), (2, .int .i64 q2), (3, .int .i64 q3), (12, .slice a9 x8.1.length cp10), (14, .slice a19 x18.length cp20), (15, .slice a28 x27.length cp29), (16, .int .i64 x26)] [rowT 34 eHd a9 x8.1.length cp10 hs12, innO 42 eSPoint none hs12 x8.1, rowT 2 eI64 a19 x18.length cp20 x18, rowT 88 eSToolMove a28 x27.length cp29 x27] _) aa ww hS
    clear hS
    simp only [sh51_1] at hres
    refine JX.seq ?_
    refine JX.seq ?_
    refine JX.region ?_
    refine JL.val (yl_move rfl) rfl ?_
    refine JL.val (yl_move rfl) rfl ?_
    refine JL.val (yl_len_slice Go.Proofs.Try.underlying24 rfl) rfl ?_
    refine JL.val (yl_lss rfl rfl) rfl ?_
    refine JL.nil ?_
    refine JE.weak (env' := [(1, .int .i64 q1), (2, .int .i64 q2), (3, .int .i64 q3), (12, .slice a9 x8.1.length cp10), (14, .slice a19 x18.length cp20), (15, .slice a28 x27.length cp29), (16, .int .i64 x26), (37, .bool (decide (x26 < (x18.length : Int))))]) (es' := [rowT 34 eHd a9 x8.1.length cp10 hs12, innO 42 eSPoint none hs12 x8.1, rowT 2 eI64 a19 x18.length cp20 x18, rowT 88 eSToolMove a28 x27.length cp29 x27]) [0, 1, 2, 3] ?_ ⟨rfl, rfl, rfl, rfl, rfl, rfl, rfl, rfl, trivial⟩ (by decide) rfl
    refine JE.code ?_
    rcases cond_some hres with ⟨hb, hres⟩ | ⟨hb, hres⟩
    · refine JX.condT rfl hb ?_
      refine JX.skip ?_
      refine JE.code ?_
      refine JX.seq ?_
      refine JX.block ?_
      refine JX.region ?_
      refine JL.val (yl_move rfl) rfl ?_
      refine JL.val (yl_move rfl) rfl ?_
      refine JL.val (yl_move rfl) rfl ?_
      refine JL.val (yl_move rfl) rfl ?_
      obtain ⟨x30, hx30, hres⟩ := bind_some hres
      refine JL.val (yl_idxT Go.Proofs.Try.underlying24 i2 i2s rfl rfl hx30 rfl (fun w hC => rd_row hC 2 rfl)) rfl ?_
      refine JL.val (yl_loadT0 Go.Proofs.Try.underlying2 rfl rfl hx30 (fun w hC => rd_row hC 2 rfl) rfl) rfl ?_
      obtain ⟨x31, hx31, hres⟩ := bind_some hres
      obtain ⟨ha32, hc33, hhx31⟩ := Inn.sub hi13 hx31
      refine JL.val (yl_idxT Go.Proofs.Try.underlying29 i34 i34s rfl rfl hhx31 (Inn.len hi13) (fun w hC => rd_row hC 0 rfl)) rfl ?_
      refine JL.val (yl_loadT0 (z := ⟨ha32, x31.length, hc33⟩) Go.Proofs.Try.underlying34 rfl rfl hhx31 (fun w hC => rd_row hC 0 rfl) rfl) rfl ?_
      refine JL.val (yl_move rfl) rfl ?_
      refine JL.val (yl_move rfl) rfl ?_
      refine JL.val (yl_move rfl) rfl ?_
      obtain ⟨x35, hx35, hres⟩ := bind_some hres
      refine JL.eff (ef_call (T := T149 x35) Go.Proofs.Try.func149 rfl (by kernel_rfl) rfl (fun w hC => c149 ((RdI.sub (rd_inn hC 1 rfl) hx31 hhx31)) rfl (RdI.ln (rd_inn hC 1 rfl) hx31 hhx31) hx35)) rfl ?_
      rintro _ _ ⟨_, ⟨a36, _, cp37, rfl, rfl, rfl⟩, rfl⟩
      obtain ⟨x39, hx39, hres⟩ := bind_some hres
      refine JL.eff (ef_appendT (ix := 3) Go.Proofs.Try.underlying65 i88 i88z i88s rfl i88b0 i88b1 rfl rfl rfl rfl rfl (fun w hC => rd_row hC 4 rfl) hx39) rfl ?_
      rintro _ _ ⟨a40, cp41, rfl, rfl⟩
      refine JL.val (yl_assign rfl) rfl ?_
      refine JL.nil ?_
      refine JE.weak (env' := [(1, .int .i64 q1), (2, .int .i64 q2), (3, .int .i64 q3), (12, .slice a9 x8.1.length cp10), (14, .slice a19 x18.length cp20), (15, .slice a40 x39.length cp41), (16, .int .i64 x26)]) (es' := [rowT 34 eHd a9 x8.1.length cp10 hs12, innO 42 eSPoint none hs12 x8.1, rowT 2 eI64 a19 x18.length cp20 x18, rowT 88 eSToolMove a40 x39.length cp41 x39]) [0, 1, 2, 3] ?_ ⟨rfl, rfl, rfl, rfl, rfl, rfl, rfl, trivial⟩ (by decide) rfl
      refine JE.code ?_
      refine JX.region ?_
      refine JL.val (yl_move rfl) rfl ?_
      refine JL.val (yl_add rfl rfl) rfl ?_
      refine JL.val (yl_assign rfl) rfl ?_
      refine JL.nil ?_
      refine JE.cont hres ?_
      exact fun a w h => ⟨a40, cp41, h.weak ⟨rfl, rfl, rfl, rfl, rfl, rfl, rfl, trivial⟩ [0, 1, 2, 3] (by decide) rfl⟩
    · refine JX.condF rfl hb ?_
      refine JX.exit ?_
      refine JE.qb rfl ?_
      obtain ⟨b1, hb1⟩ : ∃ b : List SToolMove, b = x27 := ⟨_, rfl⟩
      have hy1 : b1 = y1 := by rw [hb1]; exact hox1 _ (Option.some.inj hres).symm
      have hres := hresO1
      rw [← hy1] at hres
      refine JE.weak (env' := [(15, .slice a28 b1.length cp29)]) (es' := [rowT 88 eSToolMove a28 b1.length cp29 b1]) [3] ?_ ⟨(by subst hb1; rfl), trivial⟩ (by decide) (by subst hb1; rfl)
      refine JE.code ?_
      refine JX.seq ?_
      refine JX.region ?_
      refine JL.val (yl_move rfl) rfl ?_
      refine JL.val (yl_assign rfl) rfl ?_
      refine JL.val (yl_assign rfl) rfl ?_
      refine JL.nil ?_
      refine JE.code ?_
      refine JX.ret ?_
      obtain rfl := Option.some.inj hres
      refine JE.ret (rs := [.tmp 8, .tmp 9]) (vs := [.slice a28 b1.length cp29, .int .i64 0]) rfl ⟨rfl, rfl, trivial⟩ ?_
      exact fun w' hb hs => ⟨_, _, ⟨a28, b1.length, cp29, rfl, rfl, rfl⟩, rfl, hb, hs.sel [0] _ (by decide) rfl⟩

/- spec.l02New -/
def sh184 (q0 : Int) (q1 : Int) : Option (SPanel) := Option.bind (sh202 q0 q1) fun x3 => Option.bind (mkL x3 0) fun x4 => some (SPanel.mk q0 q1 x4)
def T184 (r : SPanel) (v : Value) (rs : List Own) : Prop := ∃ (a0_2 : Option Addr) (n0_2 c0_2 : Nat), r.Breaks.length = n0_2 ∧ v = rets [.agg #[.int .i64 r.W, .int .i64 r.H, .slice a0_2 n0_2 c0_2]] ∧ rs = [rowT 2 eI64 a0_2 n0_2 c0_2 r.Breaks]
set_option maxRecDepth 100000 in
theorem c184 {w : World} {q0 : Int} {q1 : Int} {r : SPanel} (hres : sh184 q0 q1 = some r) : Calls Go.Proofs.Try.prog 184 [.int .i64 q0, .int .i64 q1].toArray w (Ret w (T184 r)) := by
  unfold sh184 at hres
  refine calls_of (n := 12) (M := []) (es := []) Go.Proofs.Try.func184 rfl rfl rfl (Sep.nil _ _ _) ?_
  refine JX.seq ?_
  refine JX.region ?_
  refine JL.eff (ef_alloc i26 i26z rfl) rfl ?_
  rintro _ _ ⟨g1, rfl, rfl⟩
  refine JL.nil ?_
  refine JE.code ?_
  refine JX.seq ?_
  refine JX.region ?_
  refine JL.val (yl_move rfl) rfl ?_
  refine JL.val (yl_move rfl) rfl ?_
  refine JL.val (yl_move rfl) rfl ?_
  refine JL.val (yl_move rfl) rfl ?_
  obtain ⟨x3, hx3, hres⟩ := bind_some hres
  refine JL.eff (ef_call (T := T202 x3) Go.Proofs.Try.func202 rfl (by kernel_rfl) rfl (fun w hC => c202  hx3)) rfl ?_
  rintro _ _ ⟨_, ⟨rfl, rfl⟩, rfl⟩
  obtain ⟨x4, hx4, hres⟩ := bind_some hres
  refine JL.eff (ef_makeS (e := eI64) Go.Proofs.Try.underlying24 i2 i2s i2z rfl i2b1 rfl rfl hx4) rfl ?_
  rintro _ _ ⟨a5, rfl, rfl⟩
  refine JL.val (yl_build rfl (fun w => bld26_0_1_2 q0 q1 a5 x4.length x4.length w)) rfl ?_
  refine JL.eff (ef_store_box (i := 0) (v := .agg #[.int .i64 q0, .int .i64 q1, .slice a5 x4.length x4.length]) i26 rfl rfl rfl (i26s).symm (Nat.le_of_ble_eq_true rfl) (by simp [Value.cells, Value.oneCell'])) rfl ?_
  rintro _ _ rfl
  refine JL.nil ?_
  refine JE.weak (env' := [(4, ptrAt (some ⟨g1, 0, none⟩) 0)]) (es' := [boxO 26 g1 [.int .i64 q0, .int .i64 q1, .slice a5 x4.length x4.length], rowT 2 eI64 a5 x4.length x4.length x4]) [0, 1] ?_ ⟨rfl, trivial⟩ (by decide) rfl
  refine JE.code ?_
  refine JX.ret ?_
  obtain rfl := Option.some.inj hres
  refine JE.ret (rs := [.cell 4 26]) (vs := [.agg #[.int .i64 q0, .int .i64 q1, .slice a5 x4.length x4.length]]) rfl ⟨rv_box 0 rfl rfl Go.Proofs.Try.underlying26 rfl i26 (i26s).symm, trivial⟩ ?_
  exact fun w' hb hs => ⟨_, _, ⟨a5, x4.length, x4.length, rfl, rfl, rfl⟩, rfl, hb, hs.sel [1] _ (by decide) rfl⟩

/- spec.l02Draw -/
def sh183_1 (q0 : Sl00Src) (x5 : SPanel) (x11 : Int × Int × Int) : (Int × (Int × Int) × List Int) → Option ((Int × (Int × Int) × List Int) ⊕ ((Int × Int) × List Int))
  | (x13, x14, x15) => bif decide (x13 < ((x5.Breaks.length : Nat) : Int)) then (Option.bind (sh92 (Sl00Src.mk q0.code x14.1 x14.2) 4) fun x17 => Option.bind (bif decide (x17.1 < x11.1) then (Option.bind (sh92 (Sl00Src.mk q0.code x17.2.1 x17.2.2) 2) fun x21 => Option.bind (getI x15 x13) fun x22 => some ((x21.2.1, x21.2.2), x15.set (x13).toNat (w64 (1 + x21.1)))) else (some ((x17.2.1, x17.2.2), x15))) fun j18 => (some (.inl (w64 (x13 + 1), (j18.1.1, j18.1.2), j18.2)))) else (some (.inr ((x14.1, x14.2), x15)))
def sh183 (q0 : Sl00Src) (q1 : Int) : Option (SPanel × Int × Int) := Option.bind (sh92 q0 q1) fun x3 => Option.bind (sh92 (Sl00Src.mk q0.code x3.2.1 x3.2.2) q1) fun x4 => Option.bind (sh184 (w64 (1 + x3.1)) (w64 (1 + x4.1))) fun x5 => Option.bind (sh92 (Sl00Src.mk q0.code x4.2.1 x4.2.2) 4) fun x11 => Option.bind (iter (sh183_1 q0 x5 x11) (0, (x11.2.1, x11.2.2), x5.Breaks)) fun b1 => (some (SPanel.mk x5.W x5.H b1.2, b1.1.1, b1.1.2))
def T183 (gb_0 : Nat) (a_0_0 : Option Addr) (n_0_0 c_0_0 : Nat) (r : SPanel × Int × Int) (v : Value) (es' rs : List Own) : Prop := es' = [boxO 163 gb_0 [.slice a_0_0 n_0_0 c_0_0, .int .i64 r.2.1, .int .u64 r.2.2]] ∧ ∃ (a0_2 : Option Addr) (n0_2 c0_2 : Nat), r.1.Breaks.length = n0_2 ∧ v = rets [.agg #[.int .i64 r.1.W, .int .i64 r.1.H, .slice a0_2 n0_2 c0_2]] ∧ rs = [rowT 2 eI64 a0_2 n0_2 c0_2 r.1.Breaks]
set_option maxRecDepth 100000 in
theorem c183 {w : World} {M : List Nat} {q0 : Sl00Src} {gb_0 : Nat} {a_0_0 : Option Addr} {n_0_0 c_0_0 : Nat} (g_0_0 : RdS M w a_0_0 (eU8.fl q0.code)) (l_0_0 : q0.code.length = n_0_0) (k_0_0 : n_0_0 ≤ c_0_0) {q1 : Int} (gs : Sep w.heap.size M w [boxO 163 gb_0 [.slice a_0_0 n_0_0 c_0_0, .int .i64 q0.at_, .int .u64 q0.seed]]) {r : SPanel × Int × Int} (hres : sh183 q0 q1 = some r) : Calls Go.Proofs.Try.prog 183 [ptrAt (some ⟨gb_0, 0, none⟩) 0, .int .i64 q1].toArray w (RetMs w M (T183 gb_0 a_0_0 n_0_0 c_0_0 r)) := by
  subst l_0_0
  unfold sh183 at hres
  refine calls_of (n := 40) (M := M) (es := [boxO 163 gb_0 [.slice a_0_0 q0.code.length c_0_0, .int .i64 q0.at_, .int .u64 q0.seed]]) Go.Proofs.Try.func183 rfl rfl rfl gs ?_
  refine JX.seq ?_
  refine JX.region ?_
  refine JL.eff (ef_alloc i26 i26z rfl) rfl ?_
  rintro _ _ ⟨g1, rfl, rfl⟩
  refine JL.nil ?_
  refine JE.code ?_
  refine JX.seq ?_
  refine JX.region ?_
  refine JL.val (yl_move rfl) rfl ?_
  refine JL.val (yl_move rfl) rfl ?_
  obtain ⟨x3, hx3, hres⟩ := bind_some hres
  refine JL.eff (ef_callms (caps := []) (vs := [ptrAt (some ⟨gb_0, 0, none⟩) 0, .int .i64 q1]) (T := T92 gb_0 a_0_0 q0.code.length c_0_0 x3) [0] [1] [boxO 163 gb_0 [.slice a_0_0 q0.code.length c_0_0, .int .i64 q0.at_, .int .u64 q0.seed]] [boxO 26 g1 [.int .i64 0, .int .i64 0, .slice none 0 0]] rfl Go.Proofs.Try.func92 rfl (by kernel_rfl) rfl (by decide) rfl rfl (fun w N hF hS => c92 (q0 := q0) (RdS.pass hF g_0_0) rfl k_0_0 hS hx3)) rfl ?_
  rintro _ _ ⟨_, _, ⟨rfl, rfl, rfl⟩, rfl⟩
  refine JL.val (yl_add rfl rfl) rfl ?_
  refine JL.val (yl_assign rfl) rfl ?_
  refine JL.nil ?_
  refine JE.weak (env' := [(0, ptrAt (some ⟨gb_0, 0, none⟩) 0), (1, .int .i64 q1), (4, ptrAt (some ⟨g1, 0, none⟩) 0), (5, .int .i64 (w64 (1 + x3.1)))]) (es' := [boxO 163 gb_0 [.slice a_0_0 q0.code.length c_0_0, .int .i64 x3.2.1, .int .u64 x3.2.2], boxO 26 g1 [.int .i64 0, .int .i64 0, .slice none 0 0]]) [1, 0] ?_ ⟨rfl, rfl, rfl, rfl, trivial⟩ (by decide) rfl
  refine JE.code ?_
  refine JX.seq ?_
  refine JX.region ?_
  refine JL.val (yl_move rfl) rfl ?_
  refine JL.val (yl_move rfl) rfl ?_
  refine JL.val (yl_move rfl) rfl ?_
  obtain ⟨x4, hx4, hres⟩ := bind_some hres
  refine JL.eff (ef_callms (caps := []) (vs := [ptrAt (some ⟨gb_0, 0, none⟩) 0, .int .i64 q1]) (T := T92 gb_0 a_0_0 q0.code.length c_0_0 x4) [0] [1] [boxO 163 gb_0 [.slice a_0_0 q0.code.length c_0_0, .int .i64 x3.2.1, .int .u64 x3.2.2]] [boxO 26 g1 [.int .i64 0, .int .i64 0, .slice none 0 0]] rfl Go.Proofs.Try.func92 rfl (by kernel_rfl) rfl (by decide) rfl rfl (fun w N hF hS => c92 (q0 := Sl00Src.mk q0.code x3.2.1 x3.2.2) (RdS.pass hF g_0_0) rfl k_0_0 hS hx4)) rfl ?_
  rintro _ _ ⟨_, _, ⟨rfl, rfl, rfl⟩, rfl⟩
  refine JL.val (yl_add rfl rfl) rfl ?_
  obtain ⟨x5, hx5, hres⟩ := bind_some hres
  refine JL.eff (ef_call (T := T184 x5) Go.Proofs.Try.func184 rfl (by kernel_rfl) rfl (fun w hC => c184  hx5)) rfl ?_
  rintro _ _ ⟨_, ⟨a6, _, cp7, rfl, rfl, rfl⟩, rfl⟩
  refine JL.eff (ef_alloc i26 i26z rfl) rfl ?_
  rintro _ _ ⟨g9, rfl, rfl⟩
  refine JL.eff (ef_store_box (i := 3) (v := .agg #[.int .i64 x5.W, .int .i64 x5.H, .slice a6 x5.Breaks.length cp7]) i26 rfl rfl rfl (i26s).symm (Nat.le_of_ble_eq_true rfl) (by simp [Value.cells, Value.oneCell'])) rfl ?_
  rintro _ _ rfl
  refine JL.nil ?_
  refine JE.weak (env' := [(0, ptrAt (some ⟨gb_0, 0, none⟩) 0), (4, ptrAt (some ⟨g1, 0, none⟩) 0), (6, ptrAt (some ⟨g9, 0, none⟩) 0)]) (es' := [boxO 163 gb_0 [.slice a_0_0 q0.code.length c_0_0, .int .i64 x4.2.1, .int .u64 x4.2.2], boxO 26 g1 [.int .i64 0, .int .i64 0, .slice none 0 0], boxO 26 g9 [.int .i64 x5.W, .int .i64 x5.H, .slice a6 x5.Breaks.length cp7], rowT 2 eI64 a6 x5.Breaks.length cp7 x5.Breaks]) [1, 0, 3, 2] ?_ ⟨rfl, rfl, rfl, trivial⟩ (by decide) rfl
  refine JE.code ?_
  refine JX.seq ?_
  refine JX.region ?_
  refine JL.val (yl_move rfl) rfl ?_
  obtain ⟨x11, hx11, hres⟩ := bind_some hres
  refine JL.eff (ef_callms (caps := []) (vs := [ptrAt (some ⟨gb_0, 0, none⟩) 0, .int .i64 4]) (T := T92 gb_0 a_0_0 q0.code.length c_0_0 x11) [0] [1, 2, 3] [boxO 163 gb_0 [.slice a_0_0 q0.code.length c_0_0, .int .i64 x4.2.1, .int .u64 x4.2.2]] [boxO 26 g1 [.int .i64 0, .int .i64 0, .slice none 0 0], boxO 26 g9 [.int .i64 x5.W, .int .i64 x5.H, .slice a6 x5.Breaks.length cp7], rowT 2 eI64 a6 x5.Breaks.length cp7 x5.Breaks] rfl Go.Proofs.Try.func92 rfl (by kernel_rfl) rfl (by decide) rfl rfl (fun w N hF hS => c92 (q0 := Sl00Src.mk q0.code x4.2.1 x4.2.2) (RdS.pass hF g_0_0) rfl k_0_0 hS hx11)) rfl ?_
  rintro _ _ ⟨_, _, ⟨rfl, rfl, rfl⟩, rfl⟩
  refine JL.val (yl_assign rfl) rfl ?_
  refine JL.nil ?_
  refine JE.code ?_
  refine JX.seq ?_
  refine JX.seq ?_
  refine JX.region ?_
  refine JL.val (yl_assign rfl) rfl ?_
  refine JL.nil ?_
  refine JE.code ?_
  refine JX.block ?_
  obtain ⟨y1, hy1, hresO1⟩ := bind_some hres
  refine JX.loop (I := fun (s1 : Int × (Int × Int) × List Int) aa ww => ∃ (l12 : s1.2.2.length = x5.Breaks.length), St w M 40 [(0, ptrAt (some ⟨gb_0, 0, none⟩) 0), (4, ptrAt (some ⟨g1, 0, none⟩) 0), (6, ptrAt (some ⟨g9, 0, none⟩) 0), (7, .int .i64 x11.1), (8, .int .i64 s1.1)] [boxO 163 gb_0 [.slice a_0_0 q0.code.length c_0_0, .int .i64 s1.2.1.1, .int .u64 s1.2.1.2], boxO 26 g1 [.int .i64 0, .int .i64 0, .slice none 0 0], boxO 26 g9 [.int .i64 x5.W, .int .i64 x5.H, .slice a6 x5.Breaks.length cp7], rowT 2 eI64 a6 x5.Breaks.length cp7 s1.2.2] aa ww) (sh183_1 q0 x5 x11) hy1 (fun a w h => ⟨rfl, h.weak ⟨rfl, rfl, rfl, rfl, rfl, trivial⟩ [3, 0, 1, 2] (by decide) rfl⟩) ?_
  rintro ⟨x13, x14, x15⟩ o1 hres hox1 aa ww ⟨l16, hS⟩
  refine (?_ : JX Go.Proofs.Try.prog w M 40 _ _ [(0, ptrAt (some ⟨gb_0, 0, none⟩) 0), (4, ptrAt (some ⟨g1, 0, none⟩) 0), (6, ptrAt (some ⟨g9, 0, none⟩) 0), (7, .int .i64 x11.1), (8, .int .i64 x13)] [boxO 163 gb_0 [.slice a_0_0 q0.code.length c_0_0, .int .i64 x14.1, .int .u64 x14.2], boxO 26 g1 [.int .i64 0, .int .i64 0, .slice none 0 0], boxO 26 g9 [.int .i64 x5.W, .int .i64 x5.H, .slice a6 x5.Breaks.length cp7], rowT 2 eI64 a6 x5.Breaks.length cp7 x15] _) aa ww hS
  clear hS
  simp only [sh183_1] at hres
  refine JX.seq ?_
  refine JX.seq ?_
  refine JX.region ?_
  refine JL.val (yl_move rfl) rfl ?_
  refine JL.val (yl_fieldAt (a := some _) Go.Proofs.Try.underlying26 rfl i24 i24n rfl rfl) rfl ?_
  refine JL.val (yl_load1 Go.Proofs.Try.underlying24 rfl rfl (fun w hC => rd_box hC 2 rfl) rfl) rfl ?_
  refine JL.val (yl_len_slice Go.Proofs.Try.underlying24 rfl) rfl ?_
  refine JL.val (yl_lss rfl rfl) rfl ?_
  refine JL.nil ?_
  refine JE.weak (env' := [(0, ptrAt (some ⟨gb_0, 0, none⟩) 0), (4, ptrAt (some ⟨g1, 0, none⟩) 0), (6, ptrAt (some ⟨g9, 0, none⟩) 0), (7, .int .i64 x11.1), (8, .int .i64 x13), (25, .bool (decide (x13 < ((x5.Breaks.length : Nat) : Int))))]) (es' := [boxO 163 gb_0 [.slice a_0_0 q0.code.length c_0_0, .int .i64 x14.1, .int .u64 x14.2], boxO 26 g1 [.int .i64 0, .int .i64 0, .slice none 0 0], boxO 26 g9 [.int .i64 x5.W, .int .i64 x5.H, .slice a6 x5.Breaks.length cp7], rowT 2 eI64 a6 x5.Breaks.length cp7 x15]) [0, 1, 2, 3] ?_ ⟨rfl, rfl, rfl, rfl, rfl, rfl, trivial⟩ (by decide) rfl
  refine JE.code ?_
  rcases cond_some hres with ⟨hb, hres⟩ | ⟨hb, hres⟩
  · refine JX.condT rfl hb ?_
    refine JX.skip ?_
    refine JE.code ?_
    refine JX.seq ?_
    refine JX.block ?_
    refine JX.seq ?_
    refine JX.region ?_
    refine JL.val (yl_move rfl) rfl ?_
    obtain ⟨x17, hx17, hres⟩ := bind_some hres
    refine JL.eff (ef_callms (caps := []) (vs := [ptrAt (some ⟨gb_0, 0, none⟩) 0, .int .i64 4]) (T := T92 gb_0 a_0_0 q0.code.length c_0_0 x17) [0] [1, 2, 3] [boxO 163 gb_0 [.slice a_0_0 q0.code.length c_0_0, .int .i64 x14.1, .int .u64 x14.2]] [boxO 26 g1 [.int .i64 0, .int .i64 0, .slice none 0 0], boxO 26 g9 [.int .i64 x5.W, .int .i64 x5.H, .slice a6 x5.Breaks.length cp7], rowT 2 eI64 a6 x5.Breaks.length cp7 x15] rfl Go.Proofs.Try.func92 rfl (by kernel_rfl) rfl (by decide) rfl rfl (fun w N hF hS => c92 (q0 := Sl00Src.mk q0.code x14.1 x14.2) (RdS.pass hF g_0_0) rfl k_0_0 hS hx17)) rfl ?_
    rintro _ _ ⟨_, _, ⟨rfl, rfl, rfl⟩, rfl⟩
    refine JL.val (yl_move rfl) rfl ?_
    refine JL.val (yl_lss rfl rfl) rfl ?_
    refine JL.nil ?_
    refine JE.weak (env' := [(0, ptrAt (some ⟨gb_0, 0, none⟩) 0), (4, ptrAt (some ⟨g1, 0, none⟩) 0), (6, ptrAt (some ⟨g9, 0, none⟩) 0), (7, .int .i64 x11.1), (8, .int .i64 x13), (31, .bool (decide (x17.1 < x11.1)))]) (es' := [boxO 163 gb_0 [.slice a_0_0 q0.code.length c_0_0, .int .i64 x17.2.1, .int .u64 x17.2.2], boxO 26 g1 [.int .i64 0, .int .i64 0, .slice none 0 0], boxO 26 g9 [.int .i64 x5.W, .int .i64 x5.H, .slice a6 x5.Breaks.length cp7], rowT 2 eI64 a6 x5.Breaks.length cp7 x15]) [3, 0, 1, 2] ?_ ⟨rfl, rfl, rfl, rfl, rfl, rfl, trivial⟩ (by decide) rfl
    refine JE.code ?_
    obtain ⟨j18, hj18, hresj18⟩ := bind_some hres
    refine JX.cut (K := fun J => ∀ (l19 : j18.2.length = x5.Breaks.length), J [(0, ptrAt (some ⟨gb_0, 0, none⟩) 0), (4, ptrAt (some ⟨g1, 0, none⟩) 0), (6, ptrAt (some ⟨g9, 0, none⟩) 0), (7, .int .i64 x11.1), (8, .int .i64 x13)] [boxO 163 gb_0 [.slice a_0_0 q0.code.length c_0_0, .int .i64 j18.1.1, .int .u64 j18.1.2], boxO 26 g1 [.int .i64 0, .int .i64 0, .slice none 0 0], boxO 26 g9 [.int .i64 x5.W, .int .i64 x5.H, .slice a6 x5.Breaks.length cp7], rowT 2 eI64 a6 x5.Breaks.length cp7 j18.2]) ?_ ?_
    · intro l19
      have hres := hresj18
      refine JE.code ?_
      refine JX.region ?_
      refine JL.val (yl_move rfl) rfl ?_
      refine JL.val (yl_add rfl rfl) rfl ?_
      refine JL.val (yl_assign rfl) rfl ?_
      refine JL.nil ?_
      refine JE.cont hres ?_
      exact fun a w h => ⟨l19, h.weak ⟨rfl, rfl, rfl, rfl, rfl, trivial⟩ [0, 1, 2, 3] (by decide) rfl⟩
    · intro K
      rcases cond_some hj18 with ⟨hb, hres⟩ | ⟨hb, hres⟩
      · refine JX.condT rfl hb ?_
        refine JX.drawH [(0, .pure), (1, .read), (2, .pure), (3, .pure), (4, .must), (5, .pure), (6, .pure), (7, .must)] [4, 7] [0, 3] [1, 2] [boxO 163 gb_0 [.slice a_0_0 q0.code.length c_0_0, .int .i64 x17.2.1, .int .u64 x17.2.2], rowT 2 eI64 a6 x5.Breaks.length cp7 x15] [boxO 26 g1 [.int .i64 0, .int .i64 0, .slice none 0 0], boxO 26 g9 [.int .i64 x5.W, .int .i64 x5.H, .slice a6 x5.Breaks.length cp7]] mixedP (by kernel_rfl) (by kernel_rfl) (by decide) rfl rfl ?_
        intro wrr20 Nr20 hFr20
        refine JH.pure rfl (yl_fieldAt (a := some _) Go.Proofs.Try.underlying26 rfl i24 i24n rfl rfl) rfl ?_
        refine JH.read rfl (yl_load1 Go.Proofs.Try.underlying24 rfl rfl (fun w hw => hFr20.box 2 rfl rfl hw) rfl) rfl ?_
        refine JH.pure rfl (yl_move rfl) rfl ?_
        refine JH.pure rfl (yl_move rfl) rfl ?_
        obtain ⟨x21, hx21, hres⟩ := bind_some hres
        refine JH.must rfl (ef_callms (caps := []) (vs := [ptrAt (some ⟨gb_0, 0, none⟩) 0, .int .i64 2]) (T := T92 gb_0 a_0_0 q0.code.length c_0_0 x21) [0] [1] [boxO 163 gb_0 [.slice a_0_0 q0.code.length c_0_0, .int .i64 x17.2.1, .int .u64 x17.2.2]] [rowT 2 eI64 a6 x5.Breaks.length cp7 x15] rfl Go.Proofs.Try.func92 rfl (by kernel_rfl) rfl (by decide) rfl rfl (fun w N hF hS => c92 (q0 := Sl00Src.mk q0.code x17.2.1 x17.2.2) (RdS.pass hF (RdS.pass hFr20 g_0_0)) rfl k_0_0 hS hx21)) rfl rfl ?_
        rintro _ _ ⟨_, _, ⟨rfl, rfl, rfl⟩, rfl⟩
        refine JH.pure rfl (yl_add rfl rfl) rfl ?_
        obtain ⟨x22, hx22, hres⟩ := bind_some hres
        refine JH.pure rfl (yl_idxQ Go.Proofs.Try.underlying24 i2 i2s rfl rfl hx22 l16 (rd_row hFr20.cl 3 rfl) l16) rfl ?_
        refine JH.must rfl (ef_storeT (ix := 0) (u := w64 (1 + x21.1)) i2 i2s rfl rfl rfl hx22 rfl) rfl rfl ?_
        rintro _ _ rfl
        refine JH.nil ?_
        refine JE.weak (env' := [(0, ptrAt (some ⟨gb_0, 0, none⟩) 0), (4, ptrAt (some ⟨g1, 0, none⟩) 0), (6, ptrAt (some ⟨g9, 0, none⟩) 0), (7, .int .i64 x11.1), (8, .int .i64 x13)]) (es' := [boxO 163 gb_0 [.slice a_0_0 q0.code.length c_0_0, .int .i64 x21.2.1, .int .u64 x21.2.2], boxO 26 g1 [.int .i64 0, .int .i64 0, .slice none 0 0], boxO 26 g9 [.int .i64 x5.W, .int .i64 x5.H, .slice a6 x5.Breaks.length cp7], rowT 2 eI64 a6 x5.Breaks.length cp7 (x15.set (x13).toNat (w64 (1 + x21.1)))]) [3, 0, 1, 2] ?_ ⟨rfl, rfl, rfl, rfl, rfl, trivial⟩ (by decide) rfl
        have hj := Option.some.inj hres
        exact JE.weak [0, 1, 2, 3] (K (by subst hj; exact (List.length_set.trans l16))) ⟨(by subst hj; rfl), (by subst hj; rfl), (by subst hj; rfl), (by subst hj; rfl), (by subst hj; rfl), trivial⟩ (by decide) (by subst hj; rfl)
      · refine JX.condF rfl hb ?_
        refine JX.skip ?_
        have hj := Option.some.inj hres
        exact JE.weak [0, 1, 2, 3] (K (by subst hj; exact l16)) ⟨(by subst hj; rfl), (by subst hj; rfl), (by subst hj; rfl), (by subst hj; rfl), (by subst hj; rfl), trivial⟩ (by decide) (by subst hj; rfl)
  · refine JX.condF rfl hb ?_
    refine JX.exit ?_
    refine JE.qb rfl ?_
    obtain ⟨b1, hb1⟩ : ∃ b : (Int × Int) × List Int, b = ((x14.1, x14.2), x15) := ⟨_, rfl⟩
    have hy1 : b1 = y1 := by rw [hb1]; exact hox1 _ (Option.some.inj hres).symm
    have hres := hresO1
    rw [← hy1] at hres
    have l23 : b1.2.length = x5.Breaks.length := by subst hb1; exact l16
    refine JE.weak (env' := [(4, ptrAt (some ⟨g1, 0, none⟩) 0), (6, ptrAt (some ⟨g9, 0, none⟩) 0)]) (es' := [boxO 163 gb_0 [.slice a_0_0 q0.code.length c_0_0, .int .i64 b1.1.1, .int .u64 b1.1.2], boxO 26 g1 [.int .i64 0, .int .i64 0, .slice none 0 0], boxO 26 g9 [.int .i64 x5.W, .int .i64 x5.H, .slice a6 x5.Breaks.length cp7], rowT 2 eI64 a6 x5.Breaks.length cp7 b1.2]) [0, 1, 2, 3] ?_ ⟨(by subst hb1; rfl), (by subst hb1; rfl), trivial⟩ (by decide) (by subst hb1; rfl)
    refine JE.code ?_
    refine JX.seq ?_
    refine JX.region ?_
    refine JL.val (yl_loadn Go.Proofs.Try.underlying26 rfl i26 rfl (fun w hC => rd_box hC 2 rfl) rfl (i26s).symm i26p) rfl ?_
    refine JL.eff (ef_store_box (i := 1) (v := .agg #[.int .i64 x5.W, .int .i64 x5.H, .slice a6 x5.Breaks.length cp7]) i26 rfl rfl rfl (i26s).symm (Nat.le_of_ble_eq_true rfl) (by simp [Value.cells, Value.oneCell'])) rfl ?_
    rintro _ _ rfl
    refine JL.nil ?_
    refine JE.weak (env' := [(4, ptrAt (some ⟨g1, 0, none⟩) 0)]) (es' := [boxO 163 gb_0 [.slice a_0_0 q0.code.length c_0_0, .int .i64 b1.1.1, .int .u64 b1.1.2], boxO 26 g1 [.int .i64 x5.W, .int .i64 x5.H, .slice a6 x5.Breaks.length cp7], rowT 2 eI64 a6 x5.Breaks.length cp7 b1.2]) [0, 1, 3] ?_ ⟨rfl, trivial⟩ (by decide) rfl
    refine JE.code ?_
    refine JX.ret ?_
    obtain rfl := Option.some.inj hres
    refine JE.ret (rs := [.cell 4 26]) (vs := [.agg #[.int .i64 x5.W, .int .i64 x5.H, .slice a6 x5.Breaks.length cp7]]) rfl ⟨rv_box 1 rfl rfl Go.Proofs.Try.underlying26 rfl i26 (i26s).symm, trivial⟩ ?_
    exact fun w' hb hs => ⟨_, _, _, ⟨rfl, a6, x5.Breaks.length, cp7, l23, rfl, rfl⟩, rfl, hb, hs.sel [0, 2] _ (by decide) rfl⟩

/- spec.l22Draw -/
def sh161 (q0 : Sl00Src) : Option (List SToolMove × Int × Int) := Option.bind (sh183 q0 3) fun x1 => Option.bind (sh92 (Sl00Src.mk q0.code x1.2.1 x1.2.2) 9) fun x8 => Option.bind (sh92 (Sl00Src.mk q0.code x8.2.1 x8.2.2) 20) fun x9 => Option.bind (sh92 (Sl00Src.mk q0.code x9.2.1 x9.2.2) 9) fun x10 => Option.bind (sh51 x1.1 (w64 (1 + x8.1)) (w64 (1 + x9.1)) (w64 (1 + x10.1))) fun x11 => Option.bind (bif decide (40 < (x11.1.length : Int)) then (Option.bind (sh92 (Sl00Src.mk q0.code x10.2.1 x10.2.2) 30) fun x18 => Option.bind (takeL x11.1 (w64 (10 + x18.1))) fun x19 => some ((x18.2.1, x18.2.2), x19)) else (some ((x10.2.1, x10.2.2), x11.1))) fun j15 => (some (j15.2, j15.1.1, j15.1.2))
def T161 (gb_0 : Nat) (a_0_0 : Option Addr) (n_0_0 c_0_0 : Nat) (r : List SToolMove × Int × Int) (v : Value) (es' rs : List Own) : Prop := es' = [boxO 163 gb_0 [.slice a_0_0 n_0_0 c_0_0, .int .i64 r.2.1, .int .u64 r.2.2]] ∧ ∃ (a0 : Option Addr) (n0 c0 : Nat), r.1.length = n0 ∧ v = rets [.slice a0 n0 c0] ∧ rs = [rowT 88 eSToolMove a0 n0 c0 r.1]
set_option maxRecDepth 100000 in
theorem c161 {w : World} {M : List Nat} {q0 : Sl00Src} {gb_0 : Nat} {a_0_0 : Option Addr} {n_0_0 c_0_0 : Nat} (g_0_0 : RdS M w a_0_0 (eU8.fl q0.code)) (l_0_0 : q0.code.length = n_0_0) (k_0_0 : n_0_0 ≤ c_0_0) (gs : Sep w.heap.size M w [boxO 163 gb_0 [.slice a_0_0 n_0_0 c_0_0, .int .i64 q0.at_, .int .u64 q0.seed]]) {r : List SToolMove × Int × Int} (hres : sh161 q0 = some r) : Calls Go.Proofs.Try.prog 161 [ptrAt (some ⟨gb_0, 0, none⟩) 0].toArray w (RetMs w M (T161 gb_0 a_0_0 n_0_0 c_0_0 r)) := by
  subst l_0_0
  unfold sh161 at hres
  refine calls_of (n := 31) (M := M) (es := [boxO 163 gb_0 [.slice a_0_0 q0.code.length c_0_0, .int .i64 q0.at_, .int .u64 q0.seed]]) Go.Proofs.Try.func161 rfl rfl rfl gs ?_
  refine JX.seq ?_
  refine JX.region ?_
  refine JL.val (yl_assign rfl) rfl ?_
  refine JL.nil ?_
  refine JE.code ?_
  refine JX.seq ?_
  refine JX.region ?_
  refine JL.val (yl_move rfl) rfl ?_
  obtain ⟨x1, hx1, hres⟩ := bind_some hres
  refine JL.eff (ef_callms (caps := []) (vs := [ptrAt (some ⟨gb_0, 0, none⟩) 0, .int .i64 3]) (T := T183 gb_0 a_0_0 q0.code.length c_0_0 x1) [0] [] [boxO 163 gb_0 [.slice a_0_0 q0.code.length c_0_0, .int .i64 q0.at_, .int .u64 q0.seed]] [] rfl Go.Proofs.Try.func183 rfl (by kernel_rfl) rfl (by decide) rfl rfl (fun w N hF hS => c183 (q0 := q0) (RdS.pass hF g_0_0) rfl k_0_0 hS hx1)) rfl ?_
  rintro _ _ ⟨_, _, ⟨rfl, a2, _, cp3, rfl, rfl, rfl⟩, rfl⟩
  refine JL.eff (ef_alloc i26 i26z rfl) rfl ?_
  rintro _ _ ⟨g5, rfl, rfl⟩
  refine JL.eff (ef_store_box (i := 2) (v := .agg #[.int .i64 x1.1.W, .int .i64 x1.1.H, .slice a2 x1.1.Breaks.length cp3]) i26 rfl rfl rfl (i26s).symm (Nat.le_of_ble_eq_true rfl) (by simp [Value.cells, Value.oneCell'])) rfl ?_
  rintro _ _ rfl
  refine JL.nil ?_
  refine JE.weak (env' := [(0, ptrAt (some ⟨gb_0, 0, none⟩) 0), (3, ptrAt (some ⟨g5, 0, none⟩) 0)]) (es' := [boxO 163 gb_0 [.slice a_0_0 q0.code.length c_0_0, .int .i64 x1.2.1, .int .u64 x1.2.2], boxO 26 g5 [.int .i64 x1.1.W, .int .i64 x1.1.H, .slice a2 x1.1.Breaks.length cp3], rowT 2 eI64 a2 x1.1.Breaks.length cp3 x1.1.Breaks]) [0, 2, 1] ?_ ⟨rfl, rfl, trivial⟩ (by decide) rfl
  refine JE.code ?_
  refine JX.seq ?_
  refine JX.drawH [(0, .read), (1, .pure), (4, .pure), (7, .pure), (2, .must), (3, .pure), (5, .must), (6, .pure), (8, .must), (9, .pure), (10, .must), (11, .pure), (12, .pure), (13, .pure), (14, .pure), (15, .pure)] [2, 5, 8] [0] [1, 2] [boxO 163 gb_0 [.slice a_0_0 q0.code.length c_0_0, .int .i64 x1.2.1, .int .u64 x1.2.2]] [boxO 26 g5 [.int .i64 x1.1.W, .int .i64 x1.1.H, .slice a2 x1.1.Breaks.length cp3], rowT 2 eI64 a2 x1.1.Breaks.length cp3 x1.1.Breaks] mixedP (by kernel_rfl) (by kernel_rfl) (by decide) rfl rfl ?_
  intro wrr7 Nr7 hFr7
  refine JH.read rfl (yl_loadn Go.Proofs.Try.underlying26 rfl i26 rfl (fun w hw => hFr7.box 1 rfl rfl hw) rfl (i26s).symm i26p) rfl ?_
  refine JH.pure rfl (yl_move rfl) rfl ?_
  refine JH.pure rfl (yl_move rfl) rfl ?_
  refine JH.pure rfl (yl_move rfl) rfl ?_
  obtain ⟨x8, hx8, hres⟩ := bind_some hres
  refine JH.must rfl (ef_callms (caps := []) (vs := [ptrAt (some ⟨gb_0, 0, none⟩) 0, .int .i64 9]) (T := T92 gb_0 a_0_0 q0.code.length c_0_0 x8) [0] [] [boxO 163 gb_0 [.slice a_0_0 q0.code.length c_0_0, .int .i64 x1.2.1, .int .u64 x1.2.2]] [] rfl Go.Proofs.Try.func92 rfl (by kernel_rfl) rfl (by decide) rfl rfl (fun w N hF hS => c92 (q0 := Sl00Src.mk q0.code x1.2.1 x1.2.2) (RdS.pass hF (RdS.pass hFr7 g_0_0)) rfl k_0_0 hS hx8)) rfl rfl ?_
  rintro _ _ ⟨_, _, ⟨rfl, rfl, rfl⟩, rfl⟩
  refine JH.pure rfl (yl_add rfl rfl) rfl ?_
  obtain ⟨x9, hx9, hres⟩ := bind_some hres
  refine JH.must rfl (ef_callms (caps := []) (vs := [ptrAt (some ⟨gb_0, 0, none⟩) 0, .int .i64 20]) (T := T92 gb_0 a_0_0 q0.code.length c_0_0 x9) [0] [] [boxO 163 gb_0 [.slice a_0_0 q0.code.length c_0_0, .int .i64 x8.2.1, .int .u64 x8.2.2]] [] rfl Go.Proofs.Try.func92 rfl (by kernel_rfl) rfl (by decide) rfl rfl (fun w N hF hS => c92 (q0 := Sl00Src.mk q0.code x8.2.1 x8.2.2) (RdS.pass hF (RdS.pass hFr7 g_0_0)) rfl k_0_0 hS hx9)) rfl rfl ?_
  rintro _ _ ⟨_, _, ⟨rfl, rfl, rfl⟩, rfl⟩
  refine JH.pure rfl (yl_add rfl rfl) rfl ?_
  obtain ⟨x10, hx10, hres⟩ := bind_some hres
  refine JH.must rfl (ef_callms (caps := []) (vs := [ptrAt (some ⟨gb_0, 0, none⟩) 0, .int .i64 9]) (T := T92 gb_0 a_0_0 q0.code.length c_0_0 x10) [0] [] [boxO 163 gb_0 [.slice a_0_0 q0.code.length c_0_0, .int .i64 x9.2.1, .int .u64 x9.2.2]] [] rfl Go.Proofs.Try.func92 rfl (by kernel_rfl) rfl (by decide) rfl rfl (fun w N hF hS => c92 (q0 := Sl00Src.mk q0.code x9.2.1 x9.2.2) (RdS.pass hF (RdS.pass hFr7 g_0_0)) rfl k_0_0 hS hx10)) rfl rfl ?_
  rintro _ _ ⟨_, _, ⟨rfl, rfl, rfl⟩, rfl⟩
  refine JH.pure rfl (yl_add rfl rfl) rfl ?_
  obtain ⟨x11, hx11, hres⟩ := bind_some hres
  refine JH.must rfl (ef_call (vs := [.agg #[.int .i64 x1.1.W, .int .i64 x1.1.H, .slice a2 x1.1.Breaks.length cp3], .int .i64 (w64 (1 + x8.1)), .int .i64 (w64 (1 + x9.1)), .int .i64 (w64 (1 + x10.1))]) (T := T51 x11) Go.Proofs.Try.func51 rfl (by kernel_rfl) rfl (fun w hC => c51 (q0 := x1.1) (hFr7.row 2 rfl rfl hC.1) rfl (ln_row hFr7.cl 2 rfl) hx11)) rfl rfl ?_
  rintro _ _ ⟨_, ⟨a12, _, cp13, rfl, rfl, rfl⟩, rfl⟩
  refine JH.pure rfl (yl_move rfl) rfl ?_
  refine JH.pure rfl (yl_extract rfl rfl) rfl ?_
  refine JH.pure rfl (yl_extract rfl rfl) rfl ?_
  refine JH.pure rfl (yl_assign rfl) rfl ?_
  refine JH.pure rfl (yl_assign rfl) rfl ?_
  refine JH.nil ?_
  refine JE.weak (env' := [(0, ptrAt (some ⟨gb_0, 0, none⟩) 0), (4, .slice a12 x11.1.length cp13)]) (es' := [boxO 163 gb_0 [.slice a_0_0 q0.code.length c_0_0, .int .i64 x10.2.1, .int .u64 x10.2.2], rowT 88 eSToolMove a12 x11.1.length cp13 x11.1]) [2, 3] ?_ ⟨rfl, rfl, trivial⟩ (by decide) rfl
  refine JE.code ?_
  refine JX.seq ?_
  refine JX.seq ?_
  refine JX.region ?_
  refine JL.val (yl_move rfl) rfl ?_
  refine JL.val (yl_len_slice Go.Proofs.Try.underlying65 rfl) rfl ?_
  refine JL.val (yl_gtr rfl rfl) rfl ?_
  refine JL.nil ?_
  refine JE.code ?_
  obtain ⟨j15, hj15, hresj15⟩ := bind_some hres
  refine JX.cut (K := fun J => ∀ (a16 : Option Addr) (cp17 : Nat), J [(4, .slice a16 j15.2.length cp17)] [boxO 163 gb_0 [.slice a_0_0 q0.code.length c_0_0, .int .i64 j15.1.1, .int .u64 j15.1.2], rowT 88 eSToolMove a16 j15.2.length cp17 j15.2]) ?_ ?_
  · intro a16 cp17
    have hres := hresj15
    refine JE.code ?_
    refine JX.seq ?_
    refine JX.region ?_
    refine JL.val (yl_move rfl) rfl ?_
    refine JL.val (yl_assign rfl) rfl ?_
    refine JL.nil ?_
    refine JE.code ?_
    refine JX.ret ?_
    obtain rfl := Option.some.inj hres
    refine JE.ret (rs := [.tmp 2]) (vs := [.slice a16 j15.2.length cp17]) rfl ⟨rfl, trivial⟩ ?_
    exact fun w' hb hs => ⟨_, _, _, ⟨rfl, a16, j15.2.length, cp17, rfl, rfl, rfl⟩, rfl, hb, hs.sel [0, 1] _ (by decide) rfl⟩
  · intro K
    rcases cond_some hj15 with ⟨hb, hres⟩ | ⟨hb, hres⟩
    · refine JX.condT rfl hb ?_
      refine JX.region ?_
      refine JL.val (yl_move rfl) rfl ?_
      refine JL.val (yl_move rfl) rfl ?_
      obtain ⟨x18, hx18, hres⟩ := bind_some hres
      refine JL.eff (ef_callms (caps := []) (vs := [ptrAt (some ⟨gb_0, 0, none⟩) 0, .int .i64 30]) (T := T92 gb_0 a_0_0 q0.code.length c_0_0 x18) [0] [1] [boxO 163 gb_0 [.slice a_0_0 q0.code.length c_0_0, .int .i64 x10.2.1, .int .u64 x10.2.2]] [rowT 88 eSToolMove a12 x11.1.length cp13 x11.1] rfl Go.Proofs.Try.func92 rfl (by kernel_rfl) rfl (by decide) rfl rfl (fun w N hF hS => c92 (q0 := Sl00Src.mk q0.code x10.2.1 x10.2.2) (RdS.pass hF g_0_0) rfl k_0_0 hS hx18)) rfl ?_
      rintro _ _ ⟨_, _, ⟨rfl, rfl, rfl⟩, rfl⟩
      refine JL.val (yl_add rfl rfl) rfl ?_
      obtain ⟨x19, hx19, hres⟩ := bind_some hres
      refine JL.val (yl_takeT Go.Proofs.Try.underlying65 i88 rfl rfl hx19 rfl (fun w hC => ln_row hC 0 rfl)) rfl ?_
      refine JL.takeT 0 hx19 rfl ?_
      refine JL.val (yl_assign rfl) rfl ?_
      refine JL.nil ?_
      refine JE.weak (env' := [(4, .slice a12 x19.length cp13)]) (es' := [boxO 163 gb_0 [.slice a_0_0 q0.code.length c_0_0, .int .i64 x18.2.1, .int .u64 x18.2.2], rowT 88 eSToolMove a12 x19.length cp13 x19]) [1, 0] ?_ ⟨rfl, trivial⟩ (by decide) rfl
      have hj := Option.some.inj hres
      exact JE.weak [0, 1] (K a12 cp13) ⟨(by subst hj; rfl), trivial⟩ (by decide) (by subst hj; rfl)
    · refine JX.condF rfl hb ?_
      refine JX.skip ?_
      have hj := Option.some.inj hres
      exact JE.weak [0, 1] (K a12 cp13) ⟨(by subst hj; rfl), trivial⟩ (by decide) (by subst hj; rfl)

/- spec.l22Bent -/
def sh150 (q0 : Sl00Src) : Option (List SToolMove × Int × Int) := Option.bind (sh161 q0) fun x1 => bif (x1.1.length : Int) == 0 then (some (x1.1, x1.2.1, x1.2.2)) else (Option.bind (sh92 (Sl00Src.mk q0.code x1.2.1 x1.2.2) (x1.1.length : Int)) fun x5 => Option.bind (sh92 (Sl00Src.mk q0.code x5.2.1 x5.2.2) 16) fun x6 => bif x6.1 == 0 then (Option.bind (sh94 (Sl00Src.mk q0.code x6.2.1 x6.2.2) [(-100001), (-100000), 100000, 100001]) fun x9 => Option.bind (getI x1.1 x5.1) fun x10 => some (x1.1.set (x5.1).toNat (SToolMove.mk x9.1 x10.Y x10.Z), x9.2.1, x9.2.2)) else (bif x6.1 == 1 then (Option.bind (sh94 (Sl00Src.mk q0.code x6.2.1 x6.2.2) [(-501), (-500), 500, 501]) fun x13 => Option.bind (getI x1.1 x5.1) fun x14 => some (x1.1.set (x5.1).toNat (SToolMove.mk x14.X x14.Y x13.1), x13.2.1, x13.2.2)) else (bif x6.1 == 2 then (Option.bind (sh92 (Sl00Src.mk q0.code x6.2.1 x6.2.2) 2) fun x15 => Option.bind (mkL (w64 (700 + x15.1)) (SToolMove.mk 0 0 0)) fun x16 => some (x16, x15.2.1, x15.2.2)) else (Option.bind (bif x6.1 == 3 then (Option.bind (getI x1.1 x5.1) fun x21 => Option.bind (getI x1.1 x5.1) fun x22 => some (x1.1.set (x5.1).toNat (SToolMove.mk x22.X x22.Y (w64 (0 - x21.Z))))) else (some x1.1)) fun j19 => (some (j19, x6.2.1, x6.2.2))))))
def T150 (gb_0 : Nat) (a_0_0 : Option Addr) (n_0_0 c_0_0 : Nat) (r : List SToolMove × Int × Int) (v : Value) (es' rs : List Own) : Prop := es' = [boxO 163 gb_0 [.slice a_0_0 n_0_0 c_0_0, .int .i64 r.2.1, .int .u64 r.2.2]] ∧ ∃ (a0 : Option Addr) (n0 c0 : Nat), r.1.length = n0 ∧ v = rets [.slice a0 n0 c0] ∧ rs = [rowT 88 eSToolMove a0 n0 c0 r.1]
set_option maxRecDepth 100000 in
theorem c150 {w : World} {M : List Nat} {q0 : Sl00Src} {gb_0 : Nat} {a_0_0 : Option Addr} {n_0_0 c_0_0 : Nat} (g_0_0 : RdS M w a_0_0 (eU8.fl q0.code)) (l_0_0 : q0.code.length = n_0_0) (k_0_0 : n_0_0 ≤ c_0_0) (gs : Sep w.heap.size M w [boxO 163 gb_0 [.slice a_0_0 n_0_0 c_0_0, .int .i64 q0.at_, .int .u64 q0.seed]]) {r : List SToolMove × Int × Int} (hres : sh150 q0 = some r) : Calls Go.Proofs.Try.prog 150 [ptrAt (some ⟨gb_0, 0, none⟩) 0].toArray w (RetMs w M (T150 gb_0 a_0_0 n_0_0 c_0_0 r)) := by
  subst l_0_0
  unfold sh150 at hres
  refine calls_of (n := 54) (M := M) (es := [boxO 163 gb_0 [.slice a_0_0 q0.code.length c_0_0, .int .i64 q0.at_, .int .u64 q0.seed]]) Go.Proofs.Try.func150 rfl rfl rfl gs ?_
  refine JX.seq ?_
  refine JX.region ?_
  refine JL.val (yl_assign rfl) rfl ?_
  refine JL.nil ?_
  refine JE.code ?_
  refine JX.seq ?_
  refine JX.region ?_
  refine JL.val (yl_move rfl) rfl ?_
  obtain ⟨x1, hx1, hres⟩ := bind_some hres
  refine JL.eff (ef_callms (caps := []) (vs := [ptrAt (some ⟨gb_0, 0, none⟩) 0]) (T := T161 gb_0 a_0_0 q0.code.length c_0_0 x1) [0] [] [boxO 163 gb_0 [.slice a_0_0 q0.code.length c_0_0, .int .i64 q0.at_, .int .u64 q0.seed]] [] rfl Go.Proofs.Try.func161 rfl (by kernel_rfl) rfl (by decide) rfl rfl (fun w N hF hS => c161 (q0 := q0) (RdS.pass hF g_0_0) rfl k_0_0 hS hx1)) rfl ?_
  rintro _ _ ⟨_, _, ⟨rfl, a2, _, cp3, rfl, rfl, rfl⟩, rfl⟩
  refine JL.val (yl_assign rfl) rfl ?_
  refine JL.nil ?_
  refine JE.code ?_
  refine JX.seq ?_
  refine JX.seq ?_
  refine JX.region ?_
  refine JL.val (yl_move rfl) rfl ?_
  refine JL.val (yl_len_slice Go.Proofs.Try.underlying65 rfl) rfl ?_
  refine JL.val (yl_eql rfl rfl) rfl ?_
  refine JL.nil ?_
  refine JE.code ?_
  rcases cond_some hres with ⟨hb, hres⟩ | ⟨hb, hres⟩
  · refine JX.condT rfl hb ?_
    refine JX.seq ?_
    refine JX.region ?_
    refine JL.val (yl_move rfl) rfl ?_
    refine JL.val (yl_assign rfl) rfl ?_
    refine JL.nil ?_
    refine JE.code ?_
    refine JX.ret ?_
    obtain rfl := Option.some.inj hres
    refine JE.ret (rs := [.tmp 2]) (vs := [.slice a2 x1.1.length cp3]) rfl ⟨rfl, trivial⟩ ?_
    exact fun w' hb hs => ⟨_, _, _, ⟨rfl, a2, x1.1.length, cp3, rfl, rfl, rfl⟩, rfl, hb, hs.sel [0, 1] _ (by decide) rfl⟩
  · refine JX.condF rfl hb ?_
    refine JX.skip ?_
    refine JE.code ?_
    refine JX.seq ?_
    refine JX.region ?_
    refine JL.val (yl_move rfl) rfl ?_
    refine JL.val (yl_move rfl) rfl ?_
    refine JL.val (yl_len_slice Go.Proofs.Try.underlying65 rfl) rfl ?_
    obtain ⟨x5, hx5, hres⟩ := bind_some hres
    refine JL.eff (ef_callms (caps := []) (vs := [ptrAt (some ⟨gb_0, 0, none⟩) 0, .int .i64 (x1.1.length : Int)]) (T := T92 gb_0 a_0_0 q0.code.length c_0_0 x5) [0] [1] [boxO 163 gb_0 [.slice a_0_0 q0.code.length c_0_0, .int .i64 x1.2.1, .int .u64 x1.2.2]] [rowT 88 eSToolMove a2 x1.1.length cp3 x1.1] rfl Go.Proofs.Try.func92 rfl (by kernel_rfl) rfl (by decide) rfl rfl (fun w N hF hS => c92 (q0 := Sl00Src.mk q0.code x1.2.1 x1.2.2) (RdS.pass hF g_0_0) rfl k_0_0 hS hx5)) rfl ?_
    rintro _ _ ⟨_, _, ⟨rfl, rfl, rfl⟩, rfl⟩
    refine JL.val (yl_assign rfl) rfl ?_
    refine JL.nil ?_
    refine JE.weak (env' := [(0, ptrAt (some ⟨gb_0, 0, none⟩) 0), (3, .slice a2 x1.1.length cp3), (4, .int .i64 x5.1)]) (es' := [boxO 163 gb_0 [.slice a_0_0 q0.code.length c_0_0, .int .i64 x5.2.1, .int .u64 x5.2.2], rowT 88 eSToolMove a2 x1.1.length cp3 x1.1]) [1, 0] ?_ ⟨rfl, rfl, rfl, trivial⟩ (by decide) rfl
    refine JE.code ?_
    refine JX.seq ?_
    refine JX.seq ?_
    refine JX.region ?_
    refine JL.val (yl_move rfl) rfl ?_
    obtain ⟨x6, hx6, hres⟩ := bind_some hres
    refine JL.eff (ef_callms (caps := []) (vs := [ptrAt (some ⟨gb_0, 0, none⟩) 0, .int .i64 16]) (T := T92 gb_0 a_0_0 q0.code.length c_0_0 x6) [0] [1] [boxO 163 gb_0 [.slice a_0_0 q0.code.length c_0_0, .int .i64 x5.2.1, .int .u64 x5.2.2]] [rowT 88 eSToolMove a2 x1.1.length cp3 x1.1] rfl Go.Proofs.Try.func92 rfl (by kernel_rfl) rfl (by decide) rfl rfl (fun w N hF hS => c92 (q0 := Sl00Src.mk q0.code x5.2.1 x5.2.2) (RdS.pass hF g_0_0) rfl k_0_0 hS hx6)) rfl ?_
    rintro _ _ ⟨_, _, ⟨rfl, rfl, rfl⟩, rfl⟩
    refine JL.nil ?_
    refine JE.code ?_
    refine JX.block ?_
    refine JX.seq ?_
    refine JX.region ?_
    refine JL.val (yl_eql rfl rfl) rfl ?_
    refine JL.val (yl_assign rfl) rfl ?_
    refine JL.nil ?_
    refine JE.code ?_
    rcases cond_some hres with ⟨hb, hres⟩ | ⟨hb, hres⟩
    · refine JX.condT rfl hb ?_
      refine JX.region ?_
      refine JL.val (yl_move rfl) rfl ?_
      refine JL.val (yl_move rfl) rfl ?_
      refine JL.val (yl_move rfl) rfl ?_
      refine JL.eff (ef_buildSlice (E := 2) (k := eI64.k) (us := eI64.fl [(-100001), (-100000), 100000, 100001]) rfl (fun w => bsl24_4 (-100001) (-100000) 100000 100001 w) rfl (by decide)) rfl ?_
      rintro _ _ ⟨a7, rfl, rfl⟩
      obtain ⟨x9, hx9, hres⟩ := bind_some hres
      refine JL.eff (ef_callms (caps := []) (vs := [ptrAt (some ⟨gb_0, 0, none⟩) 0, .slice a7 4 4]) (T := T94 gb_0 a_0_0 q0.code.length c_0_0 x9) [1] [0, 2] [boxO 163 gb_0 [.slice a_0_0 q0.code.length c_0_0, .int .i64 x6.2.1, .int .u64 x6.2.2]] [rowT 88 eSToolMove a2 x1.1.length cp3 x1.1, rowT 2 eI64 a7 4 4 [(-100001), (-100000), 100000, 100001]] rfl Go.Proofs.Try.func94 rfl (by kernel_rfl) rfl (by decide) rfl rfl (fun w N hF hS => c94 (q0 := Sl00Src.mk q0.code x6.2.1 x6.2.2) (RdS.pass hF g_0_0) rfl k_0_0 (RdS.row hF 2 rfl rfl) rfl (ln_row hF.cl 2 rfl) hS hx9)) rfl ?_
      rintro _ _ ⟨_, _, ⟨rfl, rfl, rfl⟩, rfl⟩
      obtain ⟨x10, hx10, hres⟩ := bind_some hres
      refine JL.val (yl_idxT Go.Proofs.Try.underlying65 i88 i88s rfl rfl hx10 rfl (fun w hC => rd_row hC 0 rfl)) rfl ?_
      refine JL.val (yl_fieldAtT Go.Proofs.Try.underlying88 rfl i2 i2n rfl hx10 (fun w hC => rd_row hC 0 rfl)) rfl ?_
      refine JL.eff (ef_storeF (ix := 0) (u := SToolMove.mk x9.1 x10.Y x10.Z) i2 i2s rfl rfl rfl hx10 (by decide) rfl rfl rfl) rfl ?_
      rintro _ _ rfl
      refine JL.nil ?_
      refine JE.weak (env' := [(3, .slice a2 x1.1.length cp3)]) (es' := [boxO 163 gb_0 [.slice a_0_0 q0.code.length c_0_0, .int .i64 x9.2.1, .int .u64 x9.2.2], rowT 88 eSToolMove a2 x1.1.length cp3 (x1.1.set (x5.1).toNat (SToolMove.mk x9.1 x10.Y x10.Z))]) [2, 0] ?_ ⟨rfl, trivial⟩ (by decide) rfl
      refine JE.code ?_
      refine JX.seq ?_
      refine JX.region ?_
      refine JL.val (yl_move rfl) rfl ?_
      refine JL.val (yl_assign rfl) rfl ?_
      refine JL.nil ?_
      refine JE.code ?_
      refine JX.ret ?_
      obtain rfl := Option.some.inj hres
      refine JE.ret (rs := [.tmp 2]) (vs := [.slice a2 x1.1.length cp3]) rfl ⟨rfl, trivial⟩ ?_
      exact fun w' hb hs => ⟨_, _, _, ⟨rfl, a2, x1.1.length, cp3, List.length_set, rfl, rfl⟩, rfl, hb, hs.sel [0, 1] _ (by decide) rfl⟩
    · refine JX.condF rfl hb ?_
      refine JX.seq ?_
      refine JX.region ?_
      refine JL.val (yl_eql rfl rfl) rfl ?_
      refine JL.val (yl_assign rfl) rfl ?_
      refine JL.nil ?_
      refine JE.code ?_
      rcases cond_some hres with ⟨hb, hres⟩ | ⟨hb, hres⟩
      · refine JX.condT rfl hb ?_
        refine JX.region ?_
        refine JL.val (yl_move rfl) rfl ?_
        refine JL.val (yl_move rfl) rfl ?_
        refine JL.val (yl_move rfl) rfl ?_
        refine JL.eff (ef_buildSlice (E := 2) (k := eI64.k) (us := eI64.fl [(-501), (-500), 500, 501]) rfl (fun w => bsl24_4 (-501) (-500) 500 501 w) rfl (by decide)) rfl ?_
        rintro _ _ ⟨a11, rfl, rfl⟩
        obtain ⟨x13, hx13, hres⟩ := bind_some hres
        refine JL.eff (ef_callms (caps := []) (vs := [ptrAt (some ⟨gb_0, 0, none⟩) 0, .slice a11 4 4]) (T := T94 gb_0 a_0_0 q0.code.length c_0_0 x13) [1] [0, 2] [boxO 163 gb_0 [.slice a_0_0 q0.code.length c_0_0, .int .i64 x6.2.1, .int .u64 x6.2.2]] [rowT 88 eSToolMove a2 x1.1.length cp3 x1.1, rowT 2 eI64 a11 4 4 [(-501), (-500), 500, 501]] rfl Go.Proofs.Try.func94 rfl (by kernel_rfl) rfl (by decide) rfl rfl (fun w N hF hS => c94 (q0 := Sl00Src.mk q0.code x6.2.1 x6.2.2) (RdS.pass hF g_0_0) rfl k_0_0 (RdS.row hF 2 rfl rfl) rfl (ln_row hF.cl 2 rfl) hS hx13)) rfl ?_
        rintro _ _ ⟨_, _, ⟨rfl, rfl, rfl⟩, rfl⟩
        obtain ⟨x14, hx14, hres⟩ := bind_some hres
        refine JL.val (yl_idxT Go.Proofs.Try.underlying65 i88 i88s rfl rfl hx14 rfl (fun w hC => rd_row hC 0 rfl)) rfl ?_
        refine JL.val (yl_fieldAtT Go.Proofs.Try.underlying88 rfl i2 i2n rfl hx14 (fun w hC => rd_row hC 0 rfl)) rfl ?_
        refine JL.eff (ef_storeF (ix := 0) (u := SToolMove.mk x14.X x14.Y x13.1) i2 i2s rfl rfl rfl hx14 (by decide) rfl rfl rfl) rfl ?_
        rintro _ _ rfl
        refine JL.nil ?_
        refine JE.weak (env' := [(3, .slice a2 x1.1.length cp3)]) (es' := [boxO 163 gb_0 [.slice a_0_0 q0.code.length c_0_0, .int .i64 x13.2.1, .int .u64 x13.2.2], rowT 88 eSToolMove a2 x1.1.length cp3 (x1.1.set (x5.1).toNat (SToolMove.mk x14.X x14.Y x13.1))]) [2, 0] ?_ ⟨rfl, trivial⟩ (by decide) rfl
        refine JE.code ?_
        refine JX.seq ?_
        refine JX.region ?_
        refine JL.val (yl_move rfl) rfl ?_
        refine JL.val (yl_assign rfl) rfl ?_
        refine JL.nil ?_
        refine JE.code ?_
        refine JX.ret ?_
        obtain rfl := Option.some.inj hres
        refine JE.ret (rs := [.tmp 2]) (vs := [.slice a2 x1.1.length cp3]) rfl ⟨rfl, trivial⟩ ?_
        exact fun w' hb hs => ⟨_, _, _, ⟨rfl, a2, x1.1.length, cp3, List.length_set, rfl, rfl⟩, rfl, hb, hs.sel [0, 1] _ (by decide) rfl⟩
      · refine JX.condF rfl hb ?_
        refine JX.seq ?_
        refine JX.region ?_
        refine JL.val (yl_eql rfl rfl) rfl ?_
        refine JL.val (yl_assign rfl) rfl ?_
        refine JL.nil ?_
        refine JE.code ?_
        rcases cond_some hres with ⟨hb, hres⟩ | ⟨hb, hres⟩
        · refine JX.condT rfl hb ?_
          refine JX.seq ?_
          refine JX.region ?_
          refine JL.val (yl_move rfl) rfl ?_
          obtain ⟨x15, hx15, hres⟩ := bind_some hres
          refine JL.eff (ef_callms (caps := []) (vs := [ptrAt (some ⟨gb_0, 0, none⟩) 0, .int .i64 2]) (T := T92 gb_0 a_0_0 q0.code.length c_0_0 x15) [1] [0] [boxO 163 gb_0 [.slice a_0_0 q0.code.length c_0_0, .int .i64 x6.2.1, .int .u64 x6.2.2]] [rowT 88 eSToolMove a2 x1.1.length cp3 x1.1] rfl Go.Proofs.Try.func92 rfl (by kernel_rfl) rfl (by decide) rfl rfl (fun w N hF hS => c92 (q0 := Sl00Src.mk q0.code x6.2.1 x6.2.2) (RdS.pass hF g_0_0) rfl k_0_0 hS hx15)) rfl ?_
          rintro _ _ ⟨_, _, ⟨rfl, rfl, rfl⟩, rfl⟩
          refine JL.val (yl_add rfl rfl) rfl ?_
          obtain ⟨x16, hx16, hres⟩ := bind_some hres
          refine JL.eff (ef_makeS (e := eSToolMove) Go.Proofs.Try.underlying65 i88 i88s i88z rfl i88b1 rfl rfl hx16) rfl ?_
          rintro _ _ ⟨a17, rfl, rfl⟩
          refine JL.val (yl_assign rfl) rfl ?_
          refine JL.nil ?_
          refine JE.weak (env' := [(2, .slice a17 x16.length x16.length)]) (es' := [boxO 163 gb_0 [.slice a_0_0 q0.code.length c_0_0, .int .i64 x15.2.1, .int .u64 x15.2.2], rowT 88 eSToolMove a17 x16.length x16.length x16]) [1, 2] ?_ ⟨rfl, trivial⟩ (by decide) rfl
          refine JE.code ?_
          refine JX.ret ?_
          refine JE.qbr ?_
          obtain rfl := Option.some.inj hres
          refine JE.ret (rs := [.tmp 2]) (vs := [.slice a17 x16.length x16.length]) rfl ⟨rfl, trivial⟩ ?_
          exact fun w' hb hs => ⟨_, _, _, ⟨rfl, a17, x16.length, x16.length, rfl, rfl, rfl⟩, rfl, hb, hs.sel [0, 1] _ (by decide) rfl⟩
        · refine JX.condF rfl hb ?_
          refine JX.seq ?_
          refine JX.region ?_
          refine JL.val (yl_eql rfl rfl) rfl ?_
          refine JL.val (yl_assign rfl) rfl ?_
          refine JL.nil ?_
          refine JE.code ?_
          obtain ⟨j19, hj19, hresj19⟩ := bind_some hres
          refine JX.cut (K := fun J => ∀ (l20 : j19.length = x1.1.length), J [(3, .slice a2 x1.1.length cp3)] [boxO 163 gb_0 [.slice a_0_0 q0.code.length c_0_0, .int .i64 x6.2.1, .int .u64 x6.2.2], rowT 88 eSToolMove a2 x1.1.length cp3 j19]) ?_ ?_
          · intro l20
            have hres := hresj19
            refine JE.code ?_
            refine JX.seq ?_
            refine JX.region ?_
            refine JL.val (yl_move rfl) rfl ?_
            refine JL.val (yl_assign rfl) rfl ?_
            refine JL.nil ?_
            refine JE.code ?_
            refine JX.ret ?_
            obtain rfl := Option.some.inj hres
            refine JE.ret (rs := [.tmp 2]) (vs := [.slice a2 x1.1.length cp3]) rfl ⟨rfl, trivial⟩ ?_
            exact fun w' hb hs => ⟨_, _, _, ⟨rfl, a2, x1.1.length, cp3, l20, rfl, rfl⟩, rfl, hb, hs.sel [0, 1] _ (by decide) rfl⟩
          · intro K
            rcases cond_some hj19 with ⟨hb, hres⟩ | ⟨hb, hres⟩
            · refine JX.condT rfl hb ?_
              refine JX.region ?_
              refine JL.val (yl_move rfl) rfl ?_
              refine JL.val (yl_move rfl) rfl ?_
              refine JL.val (yl_move rfl) rfl ?_
              refine JL.val (yl_move rfl) rfl ?_
              obtain ⟨x21, hx21, hres⟩ := bind_some hres
              refine JL.val (yl_idxT Go.Proofs.Try.underlying65 i88 i88s rfl rfl hx21 rfl (fun w hC => rd_row hC 0 rfl)) rfl ?_
              refine JL.val (yl_fieldAtT Go.Proofs.Try.underlying88 rfl i2 i2n rfl hx21 (fun w hC => rd_row hC 0 rfl)) rfl ?_
              refine JL.val (yl_loadT1 Go.Proofs.Try.underlying2 rfl rfl hx21 (fun w hC => rd_row hC 0 rfl) rfl) rfl ?_
              refine JL.val (yl_neg rfl) rfl ?_
              obtain ⟨x22, hx22, hres⟩ := bind_some hres
              refine JL.val (yl_idxT Go.Proofs.Try.underlying65 i88 i88s rfl rfl hx22 rfl (fun w hC => rd_row hC 0 rfl)) rfl ?_
              refine JL.val (yl_fieldAtT Go.Proofs.Try.underlying88 rfl i2 i2n rfl hx22 (fun w hC => rd_row hC 0 rfl)) rfl ?_
              refine JL.eff (ef_storeF (ix := 0) (u := SToolMove.mk x22.X x22.Y (w64 (0 - x21.Z))) i2 i2s rfl rfl rfl hx22 (by decide) rfl rfl rfl) rfl ?_
              rintro _ _ rfl
              refine JL.nil ?_
              refine JE.weak (env' := [(3, .slice a2 x1.1.length cp3)]) (es' := [boxO 163 gb_0 [.slice a_0_0 q0.code.length c_0_0, .int .i64 x6.2.1, .int .u64 x6.2.2], rowT 88 eSToolMove a2 x1.1.length cp3 (x1.1.set (x5.1).toNat (SToolMove.mk x22.X x22.Y (w64 (0 - x21.Z))))]) [1, 0] ?_ ⟨rfl, trivial⟩ (by decide) rfl
              have hj := Option.some.inj hres
              exact JE.weak [0, 1] (K (by subst hj; exact List.length_set)) ⟨(by subst hj; rfl), trivial⟩ (by decide) (by subst hj; rfl)
            · refine JX.condF rfl hb ?_
              refine JX.skip ?_
              have hj := Option.some.inj hres
              exact JE.weak [1, 0] (K (by subst hj; exact rfl)) ⟨(by subst hj; rfl), trivial⟩ (by decide) (by subst hj; rfl)

/- spec.DrawLayersOf -/
def sh64 (q0 : List Int) : Option (List SToolMove × Int) := Option.bind (sh90 q0) fun x1 => Option.bind (sh150 (Sl00Src.mk q0 x1.at_ x1.seed)) fun x4 => Option.bind (sh92 (Sl00Src.mk q0 x4.2.1 x4.2.2) 6) fun x8 => Option.bind (sh93 (Sl00Src.mk q0 x8.2.1 x8.2.2) 10) fun x9 => Option.bind (bif x9.1 then (Option.bind (sh94 (Sl00Src.mk q0 x9.2.1 x9.2.2) [0, 1, 20, 21]) fun x13 => some x13.1) else (some (w64 (1 + x8.1)))) fun j10 => (some (x4.1, j10))
def T64 (r : List SToolMove × Int) (v : Value) (rs : List Own) : Prop := ∃ (a0 : Option Addr) (n0 c0 : Nat), r.1.length = n0 ∧ v = rets [.slice a0 n0 c0, .int .i64 r.2] ∧ rs = [rowT 88 eSToolMove a0 n0 c0 r.1]
set_option maxRecDepth 100000 in
theorem c64 {w : World} {q0 : List Int} {a_0 : Option Addr} {n_0 c_0 : Nat} (g_0 : Rd w a_0 (eU8.fl q0)) (l_0 : q0.length = n_0) (k_0 : n_0 ≤ c_0) {r : List SToolMove × Int} (hres : sh64 q0 = some r) : Calls Go.Proofs.Try.prog 64 [.slice a_0 n_0 c_0].toArray w (Ret w (T64 r)) := by
  subst l_0
  unfold sh64 at hres
  refine calls_of (n := 21) (M := []) (es := []) Go.Proofs.Try.func64 rfl rfl rfl (Sep.nil _ _ _) ?_
  refine JX.seq ?_
  refine JX.region ?_
  refine JL.val (yl_assign rfl) rfl ?_
  refine JL.val (yl_assign rfl) rfl ?_
  refine JL.nil ?_
  refine JE.code ?_
  refine JX.seq ?_
  refine JX.region ?_
  refine JL.val (yl_move rfl) rfl ?_
  obtain ⟨x1, hx1, hres⟩ := bind_some hres
  refine JL.eff (ef_call (T := T90 a_0 q0.length c_0 x1) Go.Proofs.Try.func90 rfl (by kernel_rfl) rfl (fun w hC => c90 (rd_arg g_0 hC) rfl k_0 hx1)) rfl ?_
  rintro _ _ ⟨_, ⟨g2, rfl, rfl⟩, rfl⟩
  refine JL.val (yl_assign rfl) rfl ?_
  refine JL.nil ?_
  refine JE.code ?_
  refine JX.seq ?_
  refine JX.region ?_
  refine JL.val (yl_move rfl) rfl ?_
  obtain ⟨x4, hx4, hres⟩ := bind_some hres
  refine JL.eff (ef_callms (caps := []) (vs := [ptrAt (some ⟨g2, 0, none⟩) 0]) (T := T150 g2 a_0 q0.length c_0 x4) [0] [] [boxO 163 g2 [.slice a_0 q0.length c_0, .int .i64 x1.at_, .int .u64 x1.seed]] [] rfl Go.Proofs.Try.func150 rfl (by kernel_rfl) rfl (by decide) rfl rfl (fun w N hF hS => c150 (q0 := Sl00Src.mk q0 x1.at_ x1.seed) (RdS.pass0 hF g_0) rfl k_0 hS hx4)) rfl ?_
  rintro _ _ ⟨_, _, ⟨rfl, a5, _, cp6, rfl, rfl, rfl⟩, rfl⟩
  refine JL.val (yl_assign rfl) rfl ?_
  refine JL.nil ?_
  refine JE.code ?_
  refine JX.seq ?_
  refine JX.region ?_
  refine JL.val (yl_move rfl) rfl ?_
  obtain ⟨x8, hx8, hres⟩ := bind_some hres
  refine JL.eff (ef_callms (caps := []) (vs := [ptrAt (some ⟨g2, 0, none⟩) 0, .int .i64 6]) (T := T92 g2 a_0 q0.length c_0 x8) [0] [1] [boxO 163 g2 [.slice a_0 q0.length c_0, .int .i64 x4.2.1, .int .u64 x4.2.2]] [rowT 88 eSToolMove a5 x4.1.length cp6 x4.1] rfl Go.Proofs.Try.func92 rfl (by kernel_rfl) rfl (by decide) rfl rfl (fun w N hF hS => c92 (q0 := Sl00Src.mk q0 x4.2.1 x4.2.2) (RdS.pass0 hF g_0) rfl k_0 hS hx8)) rfl ?_
  rintro _ _ ⟨_, _, ⟨rfl, rfl, rfl⟩, rfl⟩
  refine JL.val (yl_add rfl rfl) rfl ?_
  refine JL.val (yl_assign rfl) rfl ?_
  refine JL.nil ?_
  refine JE.weak (env' := [(4, ptrAt (some ⟨g2, 0, none⟩) 0), (5, .slice a5 x4.1.length cp6), (6, .int .i64 (w64 (1 + x8.1)))]) (es' := [boxO 163 g2 [.slice a_0 q0.length c_0, .int .i64 x8.2.1, .int .u64 x8.2.2], rowT 88 eSToolMove a5 x4.1.length cp6 x4.1]) [1, 0] ?_ ⟨rfl, rfl, rfl, trivial⟩ (by decide) rfl
  refine JE.code ?_
  refine JX.seq ?_
  refine JX.seq ?_
  refine JX.region ?_
  refine JL.val (yl_move rfl) rfl ?_
  obtain ⟨x9, hx9, hres⟩ := bind_some hres
  refine JL.eff (ef_callms (caps := []) (vs := [ptrAt (some ⟨g2, 0, none⟩) 0, .int .i64 10]) (T := T93 g2 a_0 q0.length c_0 x9) [0] [1] [boxO 163 g2 [.slice a_0 q0.length c_0, .int .i64 x8.2.1, .int .u64 x8.2.2]] [rowT 88 eSToolMove a5 x4.1.length cp6 x4.1] rfl Go.Proofs.Try.func93 rfl (by kernel_rfl) rfl (by decide) rfl rfl (fun w N hF hS => c93 (q0 := Sl00Src.mk q0 x8.2.1 x8.2.2) (RdS.pass0 hF g_0) rfl k_0 hS hx9)) rfl ?_
  rintro _ _ ⟨_, _, ⟨rfl, rfl, rfl⟩, rfl⟩
  refine JL.nil ?_
  refine JE.code ?_
  obtain ⟨j10, hj10, hresj10⟩ := bind_some hres
  refine JX.cut (K := fun J => J [(5, .slice a5 x4.1.length cp6), (6, .int .i64 j10)] [rowT 88 eSToolMove a5 x4.1.length cp6 x4.1]) ?_ ?_
  · have hres := hresj10
    refine JE.code ?_
    refine JX.seq ?_
    refine JX.region ?_
    refine JL.val (yl_move rfl) rfl ?_
    refine JL.val (yl_move rfl) rfl ?_
    refine JL.val (yl_assign rfl) rfl ?_
    refine JL.val (yl_assign rfl) rfl ?_
    refine JL.nil ?_
    refine JE.weak (env' := [(2, .slice a5 x4.1.length cp6), (3, .int .i64 j10)]) (es' := [rowT 88 eSToolMove a5 x4.1.length cp6 x4.1]) [0] ?_ ⟨rfl, rfl, trivial⟩ (by decide) rfl
    refine JE.code ?_
    refine JX.ret ?_
    obtain rfl := Option.some.inj hres
    refine JE.ret (rs := [.tmp 2, .tmp 3]) (vs := [.slice a5 x4.1.length cp6, .int .i64 j10]) rfl ⟨rfl, rfl, trivial⟩ ?_
    exact fun w' hb hs => ⟨_, _, ⟨a5, x4.1.length, cp6, rfl, rfl, rfl⟩, rfl, hb, hs.sel [0] _ (by decide) rfl⟩
  · intro K
    rcases cond_some hj10 with ⟨hb, hres⟩ | ⟨hb, hres⟩
    · refine JX.condT rfl hb ?_
      refine JX.region ?_
      refine JL.val (yl_move rfl) rfl ?_
      refine JL.eff (ef_buildSlice (E := 2) (k := eI64.k) (us := eI64.fl [0, 1, 20, 21]) rfl (fun w => bsl24_4 0 1 20 21 w) rfl (by decide)) rfl ?_
      rintro _ _ ⟨a11, rfl, rfl⟩
      obtain ⟨x13, hx13, hres⟩ := bind_some hres
      refine JL.eff (ef_callms (caps := []) (vs := [ptrAt (some ⟨g2, 0, none⟩) 0, .slice a11 4 4]) (T := T94 g2 a_0 q0.length c_0 x13) [1] [0, 2] [boxO 163 g2 [.slice a_0 q0.length c_0, .int .i64 x9.2.1, .int .u64 x9.2.2]] [rowT 88 eSToolMove a5 x4.1.length cp6 x4.1, rowT 2 eI64 a11 4 4 [0, 1, 20, 21]] rfl Go.Proofs.Try.func94 rfl (by kernel_rfl) rfl (by decide) rfl rfl (fun w N hF hS => c94 (q0 := Sl00Src.mk q0 x9.2.1 x9.2.2) (RdS.pass0 hF g_0) rfl k_0 (RdS.row hF 2 rfl rfl) rfl (ln_row hF.cl 2 rfl) hS hx13)) rfl ?_
      rintro _ _ ⟨_, _, ⟨rfl, rfl, rfl⟩, rfl⟩
      refine JL.val (yl_assign rfl) rfl ?_
      refine JL.nil ?_
      refine JE.weak (env' := [(5, .slice a5 x4.1.length cp6), (6, .int .i64 x13.1)]) (es' := [rowT 88 eSToolMove a5 x4.1.length cp6 x4.1]) [0] ?_ ⟨rfl, rfl, trivial⟩ (by decide) rfl
      have hj := Option.some.inj hres
      exact JE.weak [0] (K) ⟨(by subst hj; rfl), (by subst hj; rfl), trivial⟩ (by decide) (by subst hj; rfl)
    · refine JX.condF rfl hb ?_
      refine JX.skip ?_
      have hj := Option.some.inj hres
      exact JE.weak [0] (K) ⟨(by subst hj; rfl), (by subst hj; rfl), trivial⟩ (by decide) (by subst hj; rfl)

/- impl.LayersOf -/
def sh65_2 (q0 : List SToolMove) (q1 : Int) (x10 : Int) : (Int × List SToolMove) → Option ((Int × List SToolMove) ⊕ (List SToolMove))
  | (x16, x17) => bif decide (x16 < (q0.length : Int)) then (Option.bind (getI q0 x16) fun x20 => Option.bind (bif decide (x20.Z < 0) then (Option.bind (nzI q1) fun x29 => some (SToolMove.mk x20.X x20.Y (w64 ((w64 (x20.Z * x10)).tdiv q1)))) else (some x20)) fun j23 => (Option.bind (appL x17 [j23]) fun x26 => some (.inl (w64 (x16 + 1), x26)))) else (some (.inr x17))
def sh65_1 (q0 : List SToolMove) (q1 : Int) : (Int × List SToolMove) → Option ((Int × List SToolMove) ⊕ (List SToolMove))
  | (x10, x11) => bif decide (x10 ≤ q1) then (Option.bind (iter (sh65_2 q0 q1 x10) (0, x11)) fun b2 => (some (.inl (w64 (x10 + 1), b2)))) else (some (.inr x11))
def sh65 (q0 : List SToolMove) (q1 : Int) : Option (List SToolMove × Int) := Option.bind (sh151 q0) fun x1 => bif !x1 then (some (([] : List SToolMove), 1)) else (Option.bind (sh107 q1 1 20) fun x3 => bif !x3 then (some (([] : List SToolMove), 2)) else (bif decide (700 < (w64 (q1 * (q0.length : Int)))) then (some (([] : List SToolMove), 5)) else (Option.bind (iter (sh65_1 q0 q1) (1, ([] : List SToolMove))) fun b1 => (some (b1, 0)))))
def T65 (r : List SToolMove × Int) (v : Value) (rs : List Own) : Prop := ∃ (a0 : Option Addr) (n0 c0 : Nat), r.1.length = n0 ∧ v = rets [.slice a0 n0 c0, .int .i64 r.2] ∧ rs = [rowT 88 eSToolMove a0 n0 c0 r.1]
set_option maxRecDepth 100000 in
theorem c65 {w : World} {q0 : List SToolMove} {a_0 : Option Addr} {n_0 c_0 : Nat} (g_0 : Rd w a_0 (eSToolMove.fl q0)) (l_0 : q0.length = n_0) (k_0 : n_0 ≤ c_0) {q1 : Int} {r : List SToolMove × Int} (hres : sh65 q0 q1 = some r) : Calls Go.Proofs.Try.prog 65 [.slice a_0 n_0 c_0, .int .i64 q1].toArray w (Ret w (T65 r)) := by
  subst l_0
  unfold sh65 at hres
  refine calls_of (n := 49) (M := []) (es := []) Go.Proofs.Try.func65 rfl rfl rfl (Sep.nil _ _ _) ?_
  refine JX.seq ?_
  refine JX.region ?_
  refine JL.val (yl_assign rfl) rfl ?_
  refine JL.val (yl_assign rfl) rfl ?_
  refine JL.nil ?_
  refine JE.code ?_
  refine JX.seq ?_
  refine JX.seq ?_
  refine JX.region ?_
  refine JL.val (yl_move rfl) rfl ?_
  obtain ⟨x1, hx1, hres⟩ := bind_some hres
  refine JL.eff (ef_call (T := T151 x1) Go.Proofs.Try.func151 rfl (by kernel_rfl) rfl (fun w hC => c151 (rd_arg g_0 hC) rfl k_0 hx1)) rfl ?_
  rintro _ _ ⟨_, ⟨rfl, rfl⟩, rfl⟩
  refine JL.val (yl_not rfl) rfl ?_
  refine JL.nil ?_
  refine JE.code ?_
  rcases cond_some hres with ⟨hb, hres⟩ | ⟨hb, hres⟩
  · refine JX.condT rfl hb ?_
    refine JX.seq ?_
    refine JX.region ?_
    refine JL.val (yl_assign rfl) rfl ?_
    refine JL.val (yl_assign rfl) rfl ?_
    refine JL.nil ?_
    refine JE.code ?_
    refine JX.ret ?_
    refine JE.nilrow 88 eSToolMove ?_
    obtain rfl := Option.some.inj hres
    refine JE.ret (rs := [.tmp 4, .tmp 5]) (vs := [.slice none 0 0, .int .i64 1]) rfl ⟨rfl, rfl, trivial⟩ ?_
    exact fun w' hb hs => ⟨_, _, ⟨none, 0, 0, rfl, rfl, rfl⟩, rfl, hb, hs.sel [0] _ (by decide) rfl⟩
  · refine JX.condF rfl hb ?_
    refine JX.skip ?_
    refine JE.code ?_
    refine JX.seq ?_
    refine JX.seq ?_
    refine JX.region ?_
    refine JL.val (yl_move rfl) rfl ?_
    obtain ⟨x3, hx3, hres⟩ := bind_some hres
    refine JL.eff (ef_call (T := T107 x3) Go.Proofs.Try.func107 rfl (by kernel_rfl) rfl (fun w hC => c107  hx3)) rfl ?_
    rintro _ _ ⟨_, ⟨rfl, rfl⟩, rfl⟩
    refine JL.val (yl_not rfl) rfl ?_
    refine JL.nil ?_
    refine JE.code ?_
    rcases cond_some hres with ⟨hb, hres⟩ | ⟨hb, hres⟩
    · refine JX.condT rfl hb ?_
      refine JX.seq ?_
      refine JX.region ?_
      refine JL.val (yl_assign rfl) rfl ?_
      refine JL.val (yl_assign rfl) rfl ?_
      refine JL.nil ?_
      refine JE.code ?_
      refine JX.ret ?_
      refine JE.nilrow 88 eSToolMove ?_
      obtain rfl := Option.some.inj hres
      refine JE.ret (rs := [.tmp 4, .tmp 5]) (vs := [.slice none 0 0, .int .i64 2]) rfl ⟨rfl, rfl, trivial⟩ ?_
      exact fun w' hb hs => ⟨_, _, ⟨none, 0, 0, rfl, rfl, rfl⟩, rfl, hb, hs.sel [0] _ (by decide) rfl⟩
    · refine JX.condF rfl hb ?_
      refine JX.skip ?_
      refine JE.code ?_
      refine JX.seq ?_
      refine JX.seq ?_
      refine JX.region ?_
      refine JL.val (yl_move rfl) rfl ?_
      refine JL.val (yl_move rfl) rfl ?_
      refine JL.val (yl_len_slice Go.Proofs.Try.underlying65 rfl) rfl ?_
      refine JL.val (yl_mul rfl rfl) rfl ?_
      refine JL.val (yl_gtr rfl rfl) rfl ?_
      refine JL.nil ?_
      refine JE.weak (env' := [(0, .slice a_0 q0.length c_0), (1, .int .i64 q1), (20, .bool (decide (700 < (w64 (q1 * (q0.length : Int))))))]) (es' := []) [] ?_ ⟨rfl, rfl, rfl, trivial⟩ (by decide) rfl
      refine JE.code ?_
      rcases cond_some hres with ⟨hb, hres⟩ | ⟨hb, hres⟩
      · refine JX.condT rfl hb ?_
        refine JX.seq ?_
        refine JX.region ?_
        refine JL.val (yl_assign rfl) rfl ?_
        refine JL.val (yl_assign rfl) rfl ?_
        refine JL.nil ?_
        refine JE.code ?_
        refine JX.ret ?_
        refine JE.nilrow 88 eSToolMove ?_
        obtain rfl := Option.some.inj hres
        refine JE.ret (rs := [.tmp 4, .tmp 5]) (vs := [.slice none 0 0, .int .i64 5]) rfl ⟨rfl, rfl, trivial⟩ ?_
        exact fun w' hb hs => ⟨_, _, ⟨none, 0, 0, rfl, rfl, rfl⟩, rfl, hb, hs.sel [0] _ (by decide) rfl⟩
      · refine JX.condF rfl hb ?_
        refine JX.skip ?_
        refine JE.code ?_
        refine JX.seq ?_
        refine JX.region ?_
        refine JL.eff (ef_buildSlice (E := 88) (k := eSToolMove.k) (us := eSToolMove.fl ([] : List SToolMove)) rfl (fun w => bsl65_0  w) rfl (by decide)) rfl ?_
        rintro _ _ ⟨a6, rfl, rfl⟩
        refine JL.val (yl_assign rfl) rfl ?_
        refine JL.nil ?_
        refine JE.code ?_
        refine JX.seq ?_
        refine JX.seq ?_
        refine JX.region ?_
        refine JL.val (yl_assign rfl) rfl ?_
        refine JL.nil ?_
        refine JE.code ?_
        refine JX.block ?_
        obtain ⟨y1, hy1, hresO1⟩ := bind_some hres
        refine JX.loop (I := fun (s1 : Int × List SToolMove) aa ww => ∃ (a8 : Option Addr) (cp9 : Nat), St w [] 49 [(0, .slice a_0 q0.length c_0), (1, .int .i64 q1), (6, .slice a8 s1.2.length cp9), (7, .int .i64 s1.1)] [rowT 88 eSToolMove a8 s1.2.length cp9 s1.2] aa ww) (sh65_1 q0 q1) hy1 (fun a w h => ⟨a6, 0, h.weak ⟨rfl, rfl, rfl, rfl, trivial⟩ [0] (by decide) rfl⟩) ?_
        rintro ⟨x10, x11⟩ o1 hres hox1 aa ww ⟨a12, cp13, hS⟩
        refine (?_ : JX Go.Proofs.Try.prog w [] 49 _ _ [(0, .slice a_0 q0.length c_0), (1, .int .i64 q1), (6, .slice a12 x11.length cp13), (7, .int .i64 x10)] [rowT 88 eSToolMove a12 x11.length cp13 x11] _) aa ww hS
        clear hS
        simp only [sh65_1] at hres
        refine JX.seq ?_
        refine JX.seq ?_
        refine JX.region ?_
        refine JL.val (yl_move rfl) rfl ?_
        refine JL.val (yl_move rfl) rfl ?_
        refine JL.val (yl_leq rfl rfl) rfl ?_
        refine JL.nil ?_
        refine JE.code ?_
        rcases cond_some hres with ⟨hb, hres⟩ | ⟨hb, hres⟩
        · refine JX.condT rfl hb ?_
          refine JX.skip ?_
          refine JE.code ?_
          refine JX.seq ?_
          refine JX.block ?_
          refine JX.seq ?_
          refine JX.region ?_
          refine JL.val (yl_move rfl) rfl ?_
          refine JL.val (yl_len_slice Go.Proofs.Try.underlying65 rfl) rfl ?_
          refine JL.val (yl_move rfl) rfl ?_
          refine JL.nil ?_
          refine JE.code ?_
          refine JX.block ?_
          obtain ⟨y2, hy2, hresO2⟩ := bind_some hres
          refine JX.loop (I := fun (s2 : Int × List SToolMove) aa ww => ∃ (a14 : Option Addr) (cp15 : Nat), St w [] 49 [(0, .slice a_0 q0.length c_0), (1, .int .i64 q1), (6, .slice a14 s2.2.length cp15), (7, .int .i64 x10), (27, .slice a_0 q0.length c_0), (28, .int .i64 (q0.length : Int)), (29, .int .i64 s2.1)] [rowT 88 eSToolMove a14 s2.2.length cp15 s2.2] aa ww) (sh65_2 q0 q1 x10) hy2 (fun a w h => ⟨a12, cp13, h.weak ⟨rfl, rfl, rfl, rfl, rfl, rfl, rfl, trivial⟩ [0] (by decide) rfl⟩) ?_
          rintro ⟨x16, x17⟩ o2 hres hox2 aa ww ⟨a18, cp19, hS⟩
          refine (?_ : JX Go.Proofs.Try.prog w [] 49 _ _ [(0, .slice a_0 q0.length c_0), (1, .int .i64 q1), (6, .slice a18 x17.length cp19), (7, .int .i64 x10), (27, .slice a_0 q0.length c_0), (28, .int .i64 (q0.length : Int)), (29, .int .i64 x16)] [rowT 88 eSToolMove a18 x17.length cp19 x17] _) aa ww hS
          clear hS
          simp only [sh65_2] at hres
          refine JX.seq ?_
          refine JX.region ?_
          refine JL.val (yl_lss rfl rfl) rfl ?_
          refine JL.nil ?_
          refine JE.code ?_
          refine JX.seq ?_
          rcases cond_some hres with ⟨hb, hres⟩ | ⟨hb, hres⟩
          · refine JX.condT rfl hb ?_
            refine JX.skip ?_
            refine JE.code ?_
            refine JX.seq ?_
            refine JX.block ?_
            refine JX.seq ?_
            refine JX.region ?_
            obtain ⟨x20, hx20, hres⟩ := bind_some hres
            refine JL.val (yl_idxT Go.Proofs.Try.underlying65 i88 i88s rfl rfl hx20 rfl (fun w hC => rd_arg g_0 hC)) rfl ?_
            refine JL.val (yl_loadTn Go.Proofs.Try.underlying88 rfl i88 i88s rfl hx20 (fun w hC => rd_arg g_0 hC)) rfl ?_
            refine JL.eff (ef_alloc i88 i88z rfl) rfl ?_
            rintro _ _ ⟨g21, rfl, rfl⟩
            refine JL.eff (ef_store_box (i := 1) (v := .agg #[.int .i64 x20.X, .int .i64 x20.Y, .int .i64 x20.Z]) i88 rfl rfl rfl (i88s).symm (Nat.le_of_ble_eq_true rfl) (by simp [Value.cells, Value.oneCell'])) rfl ?_
            rintro _ _ rfl
            refine JL.nil ?_
            refine JE.weak (env' := [(0, .slice a_0 q0.length c_0), (1, .int .i64 q1), (6, .slice a18 x17.length cp19), (7, .int .i64 x10), (9, ptrAt (some ⟨g21, 0, none⟩) 0), (27, .slice a_0 q0.length c_0), (28, .int .i64 (q0.length : Int)), (29, .int .i64 x16)]) (es' := [rowT 88 eSToolMove a18 x17.length cp19 x17, boxO 88 g21 [.int .i64 x20.X, .int .i64 x20.Y, .int .i64 x20.Z]]) [0, 1] ?_ ⟨rfl, rfl, rfl, rfl, rfl, rfl, rfl, rfl, trivial⟩ (by decide) rfl
            refine JE.code ?_
            refine JX.seq ?_
            refine JX.seq ?_
            refine JX.region ?_
            refine JL.val (yl_fieldAt (a := some _) Go.Proofs.Try.underlying88 rfl i2 i2n rfl rfl) rfl ?_
            refine JL.val (yl_load1 Go.Proofs.Try.underlying2 rfl rfl (fun w hC => rd_box hC 1 rfl) rfl) rfl ?_
            refine JL.val (yl_lss rfl rfl) rfl ?_
            refine JL.nil ?_
            refine JE.code ?_
            obtain ⟨j23, hj23, hresj23⟩ := bind_some hres
            refine JX.cut (K := fun J => J [(0, .slice a_0 q0.length c_0), (1, .int .i64 q1), (6, .slice a18 x17.length cp19), (7, .int .i64 x10), (9, ptrAt (some ⟨g21, 0, none⟩) 0), (27, .slice a_0 q0.length c_0), (28, .int .i64 (q0.length : Int)), (29, .int .i64 x16)] [rowT 88 eSToolMove a18 x17.length cp19 x17, boxO 88 g21 [.int .i64 j23.X, .int .i64 j23.Y, .int .i64 j23.Z]]) ?_ ?_
            · have hres := hresj23
              refine JE.code ?_
              refine JX.region ?_
              refine JL.val (yl_move rfl) rfl ?_
              refine JL.val (yl_loadn Go.Proofs.Try.underlying88 rfl i88 rfl (fun w hC => rd_box hC 1 rfl) rfl (i88s).symm i88p) rfl ?_
              refine JL.eff (ef_buildSlice (E := 88) (k := eSToolMove.k) (us := eSToolMove.fl [j23]) rfl (fun w => bsl65_1 j23.X j23.Y j23.Z w) rfl (by decide)) rfl ?_
              rintro _ _ ⟨a24, rfl, rfl⟩
              obtain ⟨x26, hx26, hres⟩ := bind_some hres
              refine JL.eff (ef_appendT (ix := 0) Go.Proofs.Try.underlying65 i88 i88z i88s rfl i88b0 i88b1 rfl rfl rfl rfl rfl (fun w hC => rd_row hC 2 rfl) hx26) rfl ?_
              rintro _ _ ⟨a27, cp28, rfl, rfl⟩
              refine JL.val (yl_assign rfl) rfl ?_
              refine JL.nil ?_
              refine JE.weak (env' := [(0, .slice a_0 q0.length c_0), (1, .int .i64 q1), (6, .slice a27 x26.length cp28), (7, .int .i64 x10), (27, .slice a_0 q0.length c_0), (28, .int .i64 (q0.length : Int)), (29, .int .i64 x16)]) (es' := [rowT 88 eSToolMove a27 x26.length cp28 x26]) [0] ?_ ⟨rfl, rfl, rfl, rfl, rfl, rfl, rfl, trivial⟩ (by decide) rfl
              refine JE.code ?_
              refine JX.region ?_
              refine JL.val (yl_add rfl rfl) rfl ?_
              refine JL.val (yl_move rfl) rfl ?_
              refine JL.nil ?_
              refine JE.cont hres ?_
              exact fun a w h => ⟨a27, cp28, h.weak ⟨rfl, rfl, rfl, rfl, rfl, rfl, rfl, trivial⟩ [0] (by decide) rfl⟩
            · intro K
              rcases cond_some hj23 with ⟨hb, hres⟩ | ⟨hb, hres⟩
              · refine JX.condT rfl hb ?_
                refine JX.region ?_
                refine JL.val (yl_fieldAt (a := some _) Go.Proofs.Try.underlying88 rfl i2 i2n rfl rfl) rfl ?_
                refine JL.val (yl_load1 Go.Proofs.Try.underlying2 rfl rfl (fun w hC => rd_box hC 1 rfl) rfl) rfl ?_
                refine JL.val (yl_move rfl) rfl ?_
                refine JL.val (yl_mul rfl rfl) rfl ?_
                refine JL.val (yl_move rfl) rfl ?_
                obtain ⟨x29, hx29, hres⟩ := bind_some hres
                refine JL.val (yl_quo rfl rfl (nzI_some hx29)) rfl ?_
                refine JL.val (yl_fieldAt (a := some _) Go.Proofs.Try.underlying88 rfl i2 i2n rfl rfl) rfl ?_
                refine JL.eff (ef_store_box (i := 1) (v := .int .i64 (w64 ((w64 (x20.Z * x10)).tdiv q1))) i2 rfl rfl rfl (i2s).symm (Nat.le_of_ble_eq_true rfl) (by simp [Value.cells, Value.oneCell'])) rfl ?_
                rintro _ _ rfl
                refine JL.nil ?_
                refine JE.weak (env' := [(0, .slice a_0 q0.length c_0), (1, .int .i64 q1), (6, .slice a18 x17.length cp19), (7, .int .i64 x10), (9, ptrAt (some ⟨g21, 0, none⟩) 0), (27, .slice a_0 q0.length c_0), (28, .int .i64 (q0.length : Int)), (29, .int .i64 x16)]) (es' := [rowT 88 eSToolMove a18 x17.length cp19 x17, boxO 88 g21 [.int .i64 x20.X, .int .i64 x20.Y, .int .i64 (w64 ((w64 (x20.Z * x10)).tdiv q1))]]) [0, 1] ?_ ⟨rfl, rfl, rfl, rfl, rfl, rfl, rfl, rfl, trivial⟩ (by decide) rfl
                have hj := Option.some.inj hres
                exact JE.weak [0, 1] (K) ⟨(by subst hj; rfl), (by subst hj; rfl), (by subst hj; rfl), (by subst hj; rfl), (by subst hj; rfl), (by subst hj; rfl), (by subst hj; rfl), (by subst hj; rfl), trivial⟩ (by decide) (by subst hj; rfl)
              · refine JX.condF rfl hb ?_
                refine JX.skip ?_
                have hj := Option.some.inj hres
                exact JE.weak [0, 1] (K) ⟨(by subst hj; rfl), (by subst hj; rfl), (by subst hj; rfl), (by subst hj; rfl), (by subst hj; rfl), (by subst hj; rfl), (by subst hj; rfl), (by subst hj; rfl), trivial⟩ (by decide) (by subst hj; rfl)
          · refine JX.condF rfl hb ?_
            refine JX.exit ?_
            refine JE.qb rfl ?_
            obtain ⟨b2, hb2⟩ : ∃ b : List SToolMove, b = x17 := ⟨_, rfl⟩
            have hy2 : b2 = y2 := by rw [hb2]; exact hox2 _ (Option.some.inj hres).symm
            have hres := hresO2
            rw [← hy2] at hres
            refine JE.weak (env' := [(0, .slice a_0 q0.length c_0), (1, .int .i64 q1), (6, .slice a18 b2.length cp19), (7, .int .i64 x10)]) (es' := [rowT 88 eSToolMove a18 b2.length cp19 b2]) [0] ?_ ⟨(by subst hb2; rfl), (by subst hb2; rfl), (by subst hb2; rfl), (by subst hb2; rfl), trivial⟩ (by decide) (by subst hb2; rfl)
            refine JE.code ?_
            refine JX.region ?_
            refine JL.val (yl_move rfl) rfl ?_
            refine JL.val (yl_add rfl rfl) rfl ?_
            refine JL.val (yl_assign rfl) rfl ?_
            refine JL.nil ?_
            refine JE.cont hres ?_
            exact fun a w h => ⟨a18, cp19, h.weak ⟨rfl, rfl, rfl, rfl, trivial⟩ [0] (by decide) rfl⟩
        · refine JX.condF rfl hb ?_
          refine JX.exit ?_
          refine JE.qb rfl ?_
          obtain ⟨b1, hb1⟩ : ∃ b : List SToolMove, b = x11 := ⟨_, rfl⟩
          have hy1 : b1 = y1 := by rw [hb1]; exact hox1 _ (Option.some.inj hres).symm
          have hres := hresO1
          rw [← hy1] at hres
          refine JE.weak (env' := [(6, .slice a12 b1.length cp13)]) (es' := [rowT 88 eSToolMove a12 b1.length cp13 b1]) [0] ?_ ⟨(by subst hb1; rfl), trivial⟩ (by decide) (by subst hb1; rfl)
          refine JE.code ?_
          refine JX.seq ?_
          refine JX.region ?_
          refine JL.val (yl_move rfl) rfl ?_
          refine JL.val (yl_assign rfl) rfl ?_
          refine JL.val (yl_assign rfl) rfl ?_
          refine JL.nil ?_
          refine JE.code ?_
          refine JX.ret ?_
          obtain rfl := Option.some.inj hres
          refine JE.ret (rs := [.tmp 4, .tmp 5]) (vs := [.slice a12 b1.length cp13, .int .i64 0]) rfl ⟨rfl, rfl, trivial⟩ ?_
          exact fun w' hb hs => ⟨_, _, ⟨a12, b1.length, cp13, rfl, rfl, rfl⟩, rfl, hb, hs.sel [0] _ (by decide) rfl⟩

/- spec.l22Ok -/
def sh152_1 (q0 : List SToolMove) : Int → Option (Int ⊕ (Unit ⊕ Bool))
  | x1 => bif decide (x1 < (q0.length : Int)) then (Option.bind (getI q0 x1) fun x2 => Option.bind (sh100 x2.X (-100000) 100000) fun x3 => Option.bind (bif !x3 then (some true) else (Option.bind (sh100 x2.Y (-100000) 100000) fun x5 => some !x5)) fun cb4 => (Option.bind (bif cb4 then (some true) else (Option.bind (sh100 x2.Z (-500) 500) fun x7 => some !x7)) fun cb6 => (bif cb6 then (some (.inr (.inr false))) else (some (.inl (w64 (x1 + 1))))))) else (some (.inr (.inl ())))
def sh152 (q0 : List SToolMove) : Option (Bool) := Option.bind (iter (sh152_1 q0) 0) fun y1 => elimS y1 (fun r => some r) fun b1 => (some (decide ((q0.length : Int) ≤ 700)))
def T152 (r : Bool) (v : Value) (rs : List Own) : Prop := v = rets [.bool r] ∧ rs = []
set_option maxRecDepth 100000 in
theorem c152 {w : World} {q0 : List SToolMove} {a_0 : Option Addr} {n_0 c_0 : Nat} (g_0 : Rd w a_0 (eSToolMove.fl q0)) (l_0 : q0.length = n_0) (k_0 : n_0 ≤ c_0) {r : Bool} (hres : sh152 q0 = some r) : Calls Go.Proofs.Try.prog 152 [.slice a_0 n_0 c_0].toArray w (Ret w (T152 r)) := by
  subst l_0
  unfold sh152 at hres
  refine calls_of (n := 39) (M := []) (es := []) Go.Proofs.Try.func152 rfl rfl rfl (Sep.nil _ _ _) ?_
  refine JX.seq ?_
  refine JX.region ?_
  refine JL.val (yl_assign rfl) rfl ?_
  refine JL.nil ?_
  refine JE.code ?_
  refine JX.seq ?_
  refine JX.seq ?_
  refine JX.region ?_
  refine JL.val (yl_assign rfl) rfl ?_
  refine JL.nil ?_
  refine JE.code ?_
  refine JX.block ?_
  obtain ⟨y1, hy1, hresO1⟩ := bind_some hres
  refine JX.loop (I := fun (s1 : Int) aa ww => St w [] 39 [(0, .slice a_0 q0.length c_0), (3, .int .i64 s1)] [] aa ww) (sh152_1 q0) hy1 (fun a w h => h.weak ⟨rfl, rfl, trivial⟩ [] (by decide) rfl) ?_
  rintro x1 o1 hres hox1 aa ww hS
  refine (?_ : JX Go.Proofs.Try.prog w [] 39 _ _ [(0, .slice a_0 q0.length c_0), (3, .int .i64 x1)] [] _) aa ww hS
  clear hS
  unfold sh152_1 at hres
  refine JX.seq ?_
  refine JX.seq ?_
  refine JX.region ?_
  refine JL.val (yl_move rfl) rfl ?_
  refine JL.val (yl_move rfl) rfl ?_
  refine JL.val (yl_len_slice Go.Proofs.Try.underlying65 rfl) rfl ?_
  refine JL.val (yl_lss rfl rfl) rfl ?_
  refine JL.nil ?_
  refine JE.weak (env' := [(0, .slice a_0 q0.length c_0), (3, .int .i64 x1), (8, .bool (decide (x1 < (q0.length : Int))))]) (es' := []) [] ?_ ⟨rfl, rfl, rfl, trivial⟩ (by decide) rfl
  refine JE.code ?_
  rcases cond_some hres with ⟨hb, hres⟩ | ⟨hb, hres⟩
  · refine JX.condT rfl hb ?_
    refine JX.skip ?_
    refine JE.code ?_
    refine JX.seq ?_
    refine JX.block ?_
    refine JX.seq ?_
    refine JX.region ?_
    refine JL.val (yl_move rfl) rfl ?_
    refine JL.val (yl_move rfl) rfl ?_
    obtain ⟨x2, hx2, hres⟩ := bind_some hres
    refine JL.val (yl_idxT Go.Proofs.Try.underlying65 i88 i88s rfl rfl hx2 rfl (fun w hC => rd_arg g_0 hC)) rfl ?_
    refine JL.val (yl_assign rfl) rfl ?_
    refine JL.nil ?_
    refine JE.weak (env' := [(0, .slice a_0 q0.length c_0), (3, .int .i64 x1), (4, ptrAt a_0 ((x1).toNat * eSToolMove.k))]) (es' := []) [] ?_ ⟨rfl, rfl, rfl, trivial⟩ (by decide) rfl
    refine JE.code ?_
    refine JX.seq ?_
    refine JX.region ?_
    refine JL.val (yl_move rfl) rfl ?_
    refine JL.val (yl_nilCheckT rfl hx2 (fun w hC => rd_arg g_0 hC)) rfl ?_
    refine JL.val (yl_fieldAtT Go.Proofs.Try.underlying88 rfl i2 i2n rfl hx2 (fun w hC => rd_arg g_0 hC)) rfl ?_
    refine JL.val (yl_loadT1 Go.Proofs.Try.underlying2 rfl rfl hx2 (fun w hC => rd_arg g_0 hC) rfl) rfl ?_
    obtain ⟨x3, hx3, hres⟩ := bind_some hres
    refine JL.eff (ef_call (T := T100 x3) Go.Proofs.Try.func100 rfl (by kernel_rfl) rfl (fun w hC => c100  hx3)) rfl ?_
    rintro _ _ ⟨_, ⟨rfl, rfl⟩, rfl⟩
    refine JL.val (yl_not rfl) rfl ?_
    refine JL.val (yl_move rfl) rfl ?_
    obtain ⟨cb4, hcb4, hres⟩ := bind_some hres
    refine JL.cut (K := fun J => J [(0, .slice a_0 q0.length c_0), (3, .int .i64 x1), (4, ptrAt a_0 ((x1).toNat * eSToolMove.k)), (27, .bool cb4)] []) 7 ?_ ?_
    · refine JL.val (yl_move rfl) rfl ?_
      obtain ⟨cb6, hcb6, hres⟩ := bind_some hres
      refine JL.cut (K := fun J => J [(0, .slice a_0 q0.length c_0), (3, .int .i64 x1), (35, .bool cb6)] []) 7 ?_ ?_
      · refine JL.nil ?_
        refine JE.weak (env' := [(0, .slice a_0 q0.length c_0), (3, .int .i64 x1), (35, .bool cb6)]) (es' := []) [] ?_ ⟨rfl, rfl, rfl, trivial⟩ (by decide) rfl
        refine JE.code ?_
        rcases cond_some hres with ⟨hb, hres⟩ | ⟨hb, hres⟩
        · refine JX.condT rfl hb ?_
          refine JX.seq ?_
          refine JX.region ?_
          refine JL.val (yl_assign rfl) rfl ?_
          refine JL.nil ?_
          refine JE.code ?_
          refine JX.ret ?_
          refine JE.qbr ?_
          refine JE.qbr ?_
          have hres := elimS_inr hresO1 (hox1 _ (Option.some.inj hres).symm)
          obtain rfl := Option.some.inj hres
          refine JE.ret (rs := [.tmp 2]) (vs := [.bool false]) rfl ⟨rfl, trivial⟩ ?_
          exact fun w' hb hs => ⟨_, _, ⟨rfl, rfl⟩, rfl, hb, hs.sel [] _ (by decide) rfl⟩
        · refine JX.condF rfl hb ?_
          refine JX.skip ?_
          refine JE.code ?_
          refine JX.region ?_
          refine JL.val (yl_move rfl) rfl ?_
          refine JL.val (yl_add rfl rfl) rfl ?_
          refine JL.val (yl_assign rfl) rfl ?_
          refine JL.nil ?_
          refine JE.cont hres ?_
          exact fun a w h => h.weak ⟨rfl, rfl, trivial⟩ [] (by decide) rfl
      · intro K
        rcases cond_some hcb6 with ⟨hb, hres⟩ | ⟨hb, hres⟩
        · refine JL.set (d := 28) (v := .bool true) (congrArg (fun b => some (Value.bool b)) hb) ?_
          refine JL.gskip rfl rfl rfl rfl ?_
          refine JL.gskip rfl rfl rfl rfl ?_
          refine JL.gskip rfl rfl rfl rfl ?_
          refine JL.gskip rfl rfl rfl rfl ?_
          refine JL.gskip rfl rfl rfl rfl ?_
          refine JL.gskip rfl rfl rfl rfl ?_
          refine JL.val (yl_pick_true rfl rfl) rfl ?_
          have he := Option.some.inj hres
          exact JL.weak [] K ⟨rfl, rfl, (by rw [← he]; rfl), trivial⟩ (by decide) rfl
        · refine JL.set (d := 28) (v := .bool false) (congrArg (fun b => some (Value.bool b)) hb) ?_
          refine JL.gval rfl rfl (yl_move rfl) rfl ?_
          refine JL.gval rfl rfl (yl_nilCheckT rfl hx2 (fun w hC => rd_arg g_0 hC)) rfl ?_
          refine JL.gval rfl rfl (yl_fieldAtT Go.Proofs.Try.underlying88 rfl i2 i2n rfl hx2 (fun w hC => rd_arg g_0 hC)) rfl ?_
          refine JL.gval rfl rfl (yl_loadT1 Go.Proofs.Try.underlying2 rfl rfl hx2 (fun w hC => rd_arg g_0 hC) rfl) rfl ?_
          obtain ⟨x7, hx7, hres⟩ := bind_some hres
          refine JL.geff rfl rfl (ef_call (T := T100 x7) Go.Proofs.Try.func100 rfl (by kernel_rfl) rfl (fun w hC => c100  hx7)) rfl ?_
          rintro _ _ ⟨_, ⟨rfl, rfl⟩, rfl⟩
          refine JL.gval rfl rfl (yl_not rfl) rfl ?_
          refine JL.val (yl_pick_false rfl rfl) rfl ?_
          have he := Option.some.inj hres
          exact JL.weak [] K ⟨rfl, rfl, (by rw [← he]; rfl), trivial⟩ (by decide) rfl
    · intro K
      rcases cond_some hcb4 with ⟨hb, hres⟩ | ⟨hb, hres⟩
      · refine JL.set (d := 20) (v := .bool true) (congrArg (fun b => some (Value.bool b)) hb) ?_
        refine JL.gskip rfl rfl rfl rfl ?_
        refine JL.gskip rfl rfl rfl rfl ?_
        refine JL.gskip rfl rfl rfl rfl ?_
        refine JL.gskip rfl rfl rfl rfl ?_
        refine JL.gskip rfl rfl rfl rfl ?_
        refine JL.gskip rfl rfl rfl rfl ?_
        refine JL.val (yl_pick_true rfl rfl) rfl ?_
        have he := Option.some.inj hres
        exact JL.weak [] K ⟨rfl, rfl, rfl, (by rw [← he]; rfl), trivial⟩ (by decide) rfl
      · refine JL.set (d := 20) (v := .bool false) (congrArg (fun b => some (Value.bool b)) hb) ?_
        refine JL.gval rfl rfl (yl_move rfl) rfl ?_
        refine JL.gval rfl rfl (yl_nilCheckT rfl hx2 (fun w hC => rd_arg g_0 hC)) rfl ?_
        refine JL.gval rfl rfl (yl_fieldAtT Go.Proofs.Try.underlying88 rfl i2 i2n rfl hx2 (fun w hC => rd_arg g_0 hC)) rfl ?_
        refine JL.gval rfl rfl (yl_loadT1 Go.Proofs.Try.underlying2 rfl rfl hx2 (fun w hC => rd_arg g_0 hC) rfl) rfl ?_
        obtain ⟨x5, hx5, hres⟩ := bind_some hres
        refine JL.geff rfl rfl (ef_call (T := T100 x5) Go.Proofs.Try.func100 rfl (by kernel_rfl) rfl (fun w hC => c100  hx5)) rfl ?_
        rintro _ _ ⟨_, ⟨rfl, rfl⟩, rfl⟩
        refine JL.gval rfl rfl (yl_not rfl) rfl ?_
        refine JL.val (yl_pick_false rfl rfl) rfl ?_
        have he := Option.some.inj hres
        exact JL.weak [] K ⟨rfl, rfl, rfl, (by rw [← he]; rfl), trivial⟩ (by decide) rfl
  · refine JX.condF rfl hb ?_
    refine JX.exit ?_
    refine JE.qb rfl ?_
    obtain ⟨b1, hb1⟩ : ∃ b : Unit, b = () := ⟨_, rfl⟩
    have hy1 : Sum.inl b1 = y1 := by rw [hb1]; exact hox1 _ (Option.some.inj hres).symm
    have hres := elimS_inl hresO1 hy1
    refine JE.weak (env' := [(0, .slice a_0 q0.length c_0)]) (es' := []) [] ?_ ⟨(by subst hb1; rfl), trivial⟩ (by decide) (by subst hb1; rfl)
    refine JE.code ?_
    refine JX.seq ?_
    refine JX.region ?_
    refine JL.val (yl_move rfl) rfl ?_
    refine JL.val (yl_len_slice Go.Proofs.Try.underlying65 rfl) rfl ?_
    refine JL.val (yl_leq rfl rfl) rfl ?_
    refine JL.val (yl_assign rfl) rfl ?_
    refine JL.nil ?_
    refine JE.weak (env' := [(2, .bool (decide ((q0.length : Int) ≤ 700)))]) (es' := []) [] ?_ ⟨rfl, trivial⟩ (by decide) rfl
    refine JE.code ?_
    refine JX.ret ?_
    obtain rfl := Option.some.inj hres
    refine JE.ret (rs := [.tmp 2]) (vs := [.bool (decide ((q0.length : Int) ≤ 700))]) rfl ⟨rfl, trivial⟩ ?_
    exact fun w' hb hs => ⟨_, _, ⟨rfl, rfl⟩, rfl, hb, hs.sel [] _ (by decide) rfl⟩

/- spec.LayersOf -/
def sh66_2 (q0 : List SToolMove) (q1 : Int) (x10 : Int) : (Int × List SToolMove) → Option ((Int × List SToolMove) ⊕ (List SToolMove))
  | (x16, x17) => bif decide (x16 < (q0.length : Int)) then (Option.bind (getI q0 x16) fun x20 => Option.bind (bif decide (x20.Z < 0) then (Option.bind (nzI q1) fun x29 => some (SToolMove.mk x20.X x20.Y (w64 ((w64 (x20.Z * x10)).tdiv q1)))) else (some x20)) fun j23 => (Option.bind (appL x17 [j23]) fun x26 => some (.inl (w64 (x16 + 1), x26)))) else (some (.inr x17))
def sh66_1 (q0 : List SToolMove) (q1 : Int) : (Int × List SToolMove) → Option ((Int × List SToolMove) ⊕ (List SToolMove))
  | (x10, x11) => bif decide (x10 ≤ q1) then (Option.bind (iter (sh66_2 q0 q1 x10) (0, x11)) fun b2 => (some (.inl (w64 (x10 + 1), b2)))) else (some (.inr x11))
def sh66 (q0 : List SToolMove) (q1 : Int) : Option (List SToolMove × Int) := Option.bind (sh152 q0) fun x1 => bif !x1 then (some (([] : List SToolMove), 1)) else (Option.bind (sh100 q1 1 20) fun x3 => bif !x3 then (some (([] : List SToolMove), 2)) else (bif decide (700 < (w64 (q1 * (q0.length : Int)))) then (some (([] : List SToolMove), 5)) else (Option.bind (iter (sh66_1 q0 q1) (1, ([] : List SToolMove))) fun b1 => (some (b1, 0)))))
def T66 (r : List SToolMove × Int) (v : Value) (rs : List Own) : Prop := ∃ (a0 : Option Addr) (n0 c0 : Nat), r.1.length = n0 ∧ v = rets [.slice a0 n0 c0, .int .i64 r.2] ∧ rs = [rowT 88 eSToolMove a0 n0 c0 r.1]
set_option maxRecDepth 100000 in
theorem c66 {w : World} {q0 : List SToolMove} {a_0 : Option Addr} {n_0 c_0 : Nat} (g_0 : Rd w a_0 (eSToolMove.fl q0)) (l_0 : q0.length = n_0) (k_0 : n_0 ≤ c_0) {q1 : Int} {r : List SToolMove × Int} (hres : sh66 q0 q1 = some r) : Calls Go.Proofs.Try.prog 66 [.slice a_0 n_0 c_0, .int .i64 q1].toArray w (Ret w (T66 r)) := by
  subst l_0
  unfold sh66 at hres
  refine calls_of (n := 52) (M := []) (es := []) Go.Proofs.Try.func66 rfl rfl rfl (Sep.nil _ _ _) ?_
  refine JX.seq ?_
  refine JX.region ?_
  refine JL.val (yl_assign rfl) rfl ?_
  refine JL.val (yl_assign rfl) rfl ?_
  refine JL.nil ?_
  refine JE.code ?_
  refine JX.seq ?_
  refine JX.seq ?_
  refine JX.region ?_
  refine JL.val (yl_move rfl) rfl ?_
  obtain ⟨x1, hx1, hres⟩ := bind_some hres
  refine JL.eff (ef_call (T := T152 x1) Go.Proofs.Try.func152 rfl (by kernel_rfl) rfl (fun w hC => c152 (rd_arg g_0 hC) rfl k_0 hx1)) rfl ?_
  rintro _ _ ⟨_, ⟨rfl, rfl⟩, rfl⟩
  refine JL.val (yl_not rfl) rfl ?_
  refine JL.nil ?_
  refine JE.code ?_
  rcases cond_some hres with ⟨hb, hres⟩ | ⟨hb, hres⟩
  · refine JX.condT rfl hb ?_
    refine JX.seq ?_
    refine JX.region ?_
    refine JL.val (yl_assign rfl) rfl ?_
    refine JL.val (yl_assign rfl) rfl ?_
    refine JL.nil ?_
    refine JE.code ?_
    refine JX.ret ?_
    refine JE.nilrow 88 eSToolMove ?_
    obtain rfl := Option.some.inj hres
    refine JE.ret (rs := [.tmp 4, .tmp 5]) (vs := [.slice none 0 0, .int .i64 1]) rfl ⟨rfl, rfl, trivial⟩ ?_
    exact fun w' hb hs => ⟨_, _, ⟨none, 0, 0, rfl, rfl, rfl⟩, rfl, hb, hs.sel [0] _ (by decide) rfl⟩
  · refine JX.condF rfl hb ?_
    refine JX.skip ?_
    refine JE.code ?_
    refine JX.seq ?_
    refine JX.seq ?_
    refine JX.region ?_
    refine JL.val (yl_move rfl) rfl ?_
    obtain ⟨x3, hx3, hres⟩ := bind_some hres
    refine JL.eff (ef_call (T := T100 x3) Go.Proofs.Try.func100 rfl (by kernel_rfl) rfl (fun w hC => c100  hx3)) rfl ?_
    rintro _ _ ⟨_, ⟨rfl, rfl⟩, rfl⟩
    refine JL.val (yl_not rfl) rfl ?_
    refine JL.nil ?_
    refine JE.code ?_
    rcases cond_some hres with ⟨hb, hres⟩ | ⟨hb, hres⟩
    · refine JX.condT rfl hb ?_
      refine JX.seq ?_
      refine JX.region ?_
      refine JL.val (yl_assign rfl) rfl ?_
      refine JL.val (yl_assign rfl) rfl ?_
      refine JL.nil ?_
      refine JE.code ?_
      refine JX.ret ?_
      refine JE.nilrow 88 eSToolMove ?_
      obtain rfl := Option.some.inj hres
      refine JE.ret (rs := [.tmp 4, .tmp 5]) (vs := [.slice none 0 0, .int .i64 2]) rfl ⟨rfl, rfl, trivial⟩ ?_
      exact fun w' hb hs => ⟨_, _, ⟨none, 0, 0, rfl, rfl, rfl⟩, rfl, hb, hs.sel [0] _ (by decide) rfl⟩
    · refine JX.condF rfl hb ?_
      refine JX.skip ?_
      refine JE.code ?_
      refine JX.seq ?_
      refine JX.seq ?_
      refine JX.region ?_
      refine JL.val (yl_move rfl) rfl ?_
      refine JL.val (yl_move rfl) rfl ?_
      refine JL.val (yl_len_slice Go.Proofs.Try.underlying65 rfl) rfl ?_
      refine JL.val (yl_mul rfl rfl) rfl ?_
      refine JL.val (yl_gtr rfl rfl) rfl ?_
      refine JL.nil ?_
      refine JE.weak (env' := [(0, .slice a_0 q0.length c_0), (1, .int .i64 q1), (20, .bool (decide (700 < (w64 (q1 * (q0.length : Int))))))]) (es' := []) [] ?_ ⟨rfl, rfl, rfl, trivial⟩ (by decide) rfl
      refine JE.code ?_
      rcases cond_some hres with ⟨hb, hres⟩ | ⟨hb, hres⟩
      · refine JX.condT rfl hb ?_
        refine JX.seq ?_
        refine JX.region ?_
        refine JL.val (yl_assign rfl) rfl ?_
        refine JL.val (yl_assign rfl) rfl ?_
        refine JL.nil ?_
        refine JE.code ?_
        refine JX.ret ?_
        refine JE.nilrow 88 eSToolMove ?_
        obtain rfl := Option.some.inj hres
        refine JE.ret (rs := [.tmp 4, .tmp 5]) (vs := [.slice none 0 0, .int .i64 5]) rfl ⟨rfl, rfl, trivial⟩ ?_
        exact fun w' hb hs => ⟨_, _, ⟨none, 0, 0, rfl, rfl, rfl⟩, rfl, hb, hs.sel [0] _ (by decide) rfl⟩
      · refine JX.condF rfl hb ?_
        refine JX.skip ?_
        refine JE.code ?_
        refine JX.seq ?_
        refine JX.region ?_
        refine JL.eff (ef_buildSlice (E := 88) (k := eSToolMove.k) (us := eSToolMove.fl ([] : List SToolMove)) rfl (fun w => bsl65_0  w) rfl (by decide)) rfl ?_
        rintro _ _ ⟨a6, rfl, rfl⟩
        refine JL.val (yl_assign rfl) rfl ?_
        refine JL.nil ?_
        refine JE.code ?_
        refine JX.seq ?_
        refine JX.seq ?_
        refine JX.region ?_
        refine JL.val (yl_assign rfl) rfl ?_
        refine JL.nil ?_
        refine JE.code ?_
        refine JX.block ?_
        obtain ⟨y1, hy1, hresO1⟩ := bind_some hres
        refine JX.loop (I := fun (s1 : Int × List SToolMove) aa ww => ∃ (a8 : Option Addr) (cp9 : Nat), St w [] 52 [(0, .slice a_0 q0.length c_0), (1, .int .i64 q1), (6, .slice a8 s1.2.length cp9), (7, .int .i64 s1.1)] [rowT 88 eSToolMove a8 s1.2.length cp9 s1.2] aa ww) (sh66_1 q0 q1) hy1 (fun a w h => ⟨a6, 0, h.weak ⟨rfl, rfl, rfl, rfl, trivial⟩ [0] (by decide) rfl⟩) ?_
        rintro ⟨x10, x11⟩ o1 hres hox1 aa ww ⟨a12, cp13, hS⟩
        refine (?_ : JX Go.Proofs.Try.prog w [] 52 _ _ [(0, .slice a_0 q0.length c_0), (1, .int .i64 q1), (6, .slice a12 x11.length cp13), (7, .int .i64 x10)] [rowT 88 eSToolMove a12 x11.length cp13 x11] _) aa ww hS
        clear hS
        simp only [sh66_1] at hres
        refine JX.seq ?_
        refine JX.seq ?_
        refine JX.region ?_
        refine JL.val (yl_move rfl) rfl ?_
        refine JL.val (yl_move rfl) rfl ?_
        refine JL.val (yl_leq rfl rfl) rfl ?_
        refine JL.nil ?_
        refine JE.code ?_
        rcases cond_some hres with ⟨hb, hres⟩ | ⟨hb, hres⟩
        · refine JX.condT rfl hb ?_
          refine JX.skip ?_
          refine JE.code ?_
          refine JX.seq ?_
          refine JX.block ?_
          refine JX.seq ?_
          refine JX.region ?_
          refine JL.val (yl_assign rfl) rfl ?_
          refine JL.nil ?_
          refine JE.code ?_
          refine JX.block ?_
          obtain ⟨y2, hy2, hresO2⟩ := bind_some hres
          refine JX.loop (I := fun (s2 : Int × List SToolMove) aa ww => ∃ (a14 : Option Addr) (cp15 : Nat), St w [] 52 [(0, .slice a_0 q0.length c_0), (1, .int .i64 q1), (6, .slice a14 s2.2.length cp15), (7, .int .i64 x10), (8, .int .i64 s2.1)] [rowT 88 eSToolMove a14 s2.2.length cp15 s2.2] aa ww) (sh66_2 q0 q1 x10) hy2 (fun a w h => ⟨a12, cp13, h.weak ⟨rfl, rfl, rfl, rfl, rfl, trivial⟩ [0] (by decide) rfl⟩) ?_
          rintro ⟨x16, x17⟩ o2 hres hox2 aa ww ⟨a18, cp19, hS⟩
          refine (?_ : JX Go.Proofs.Try.prog w [] 52 _ _ [(0, .slice a_0 q0.length c_0), (1, .int .i64 q1), (6, .slice a18 x17.length cp19), (7, .int .i64 x10), (8, .int .i64 x16)] [rowT 88 eSToolMove a18 x17.length cp19 x17] _) aa ww hS
          clear hS
          simp only [sh66_2] at hres
          refine JX.seq ?_
          refine JX.seq ?_
          refine JX.region ?_
          refine JL.val (yl_move rfl) rfl ?_
          refine JL.val (yl_move rfl) rfl ?_
          refine JL.val (yl_len_slice Go.Proofs.Try.underlying65 rfl) rfl ?_
          refine JL.val (yl_lss rfl rfl) rfl ?_
          refine JL.nil ?_
          refine JE.weak (env' := [(0, .slice a_0 q0.length c_0), (1, .int .i64 q1), (6, .slice a18 x17.length cp19), (7, .int .i64 x10), (8, .int .i64 x16), (30, .bool (decide (x16 < (q0.length : Int))))]) (es' := [rowT 88 eSToolMove a18 x17.length cp19 x17]) [0] ?_ ⟨rfl, rfl, rfl, rfl, rfl, rfl, trivial⟩ (by decide) rfl
          refine JE.code ?_
          rcases cond_some hres with ⟨hb, hres⟩ | ⟨hb, hres⟩
          · refine JX.condT rfl hb ?_
            refine JX.skip ?_
            refine JE.code ?_
            refine JX.seq ?_
            refine JX.block ?_
            refine JX.seq ?_
            refine JX.region ?_
            refine JL.val (yl_move rfl) rfl ?_
            refine JL.val (yl_move rfl) rfl ?_
            obtain ⟨x20, hx20, hres⟩ := bind_some hres
            refine JL.val (yl_idxT Go.Proofs.Try.underlying65 i88 i88s rfl rfl hx20 rfl (fun w hC => rd_arg g_0 hC)) rfl ?_
            refine JL.val (yl_loadTn Go.Proofs.Try.underlying88 rfl i88 i88s rfl hx20 (fun w hC => rd_arg g_0 hC)) rfl ?_
            refine JL.eff (ef_alloc i88 i88z rfl) rfl ?_
            rintro _ _ ⟨g21, rfl, rfl⟩
            refine JL.eff (ef_store_box (i := 1) (v := .agg #[.int .i64 x20.X, .int .i64 x20.Y, .int .i64 x20.Z]) i88 rfl rfl rfl (i88s).symm (Nat.le_of_ble_eq_true rfl) (by simp [Value.cells, Value.oneCell'])) rfl ?_
            rintro _ _ rfl
            refine JL.nil ?_
            refine JE.weak (env' := [(0, .slice a_0 q0.length c_0), (1, .int .i64 q1), (6, .slice a18 x17.length cp19), (7, .int .i64 x10), (8, .int .i64 x16), (9, ptrAt (some ⟨g21, 0, none⟩) 0)]) (es' := [rowT 88 eSToolMove a18 x17.length cp19 x17, boxO 88 g21 [.int .i64 x20.X, .int .i64 x20.Y, .int .i64 x20.Z]]) [0, 1] ?_ ⟨rfl, rfl, rfl, rfl, rfl, rfl, trivial⟩ (by decide) rfl
            refine JE.code ?_
            refine JX.seq ?_
            refine JX.seq ?_
            refine JX.region ?_
            refine JL.val (yl_fieldAt (a := some _) Go.Proofs.Try.underlying88 rfl i2 i2n rfl rfl) rfl ?_
            refine JL.val (yl_load1 Go.Proofs.Try.underlying2 rfl rfl (fun w hC => rd_box hC 1 rfl) rfl) rfl ?_
            refine JL.val (yl_lss rfl rfl) rfl ?_
            refine JL.nil ?_
            refine JE.code ?_
            obtain ⟨j23, hj23, hresj23⟩ := bind_some hres
            refine JX.cut (K := fun J => J [(0, .slice a_0 q0.length c_0), (1, .int .i64 q1), (6, .slice a18 x17.length cp19), (7, .int .i64 x10), (8, .int .i64 x16), (9, ptrAt (some ⟨g21, 0, none⟩) 0)] [rowT 88 eSToolMove a18 x17.length cp19 x17, boxO 88 g21 [.int .i64 j23.X, .int .i64 j23.Y, .int .i64 j23.Z]]) ?_ ?_
            · have hres := hresj23
              refine JE.code ?_
              refine JX.region ?_
              refine JL.val (yl_move rfl) rfl ?_
              refine JL.val (yl_loadn Go.Proofs.Try.underlying88 rfl i88 rfl (fun w hC => rd_box hC 1 rfl) rfl (i88s).symm i88p) rfl ?_
              refine JL.eff (ef_buildSlice (E := 88) (k := eSToolMove.k) (us := eSToolMove.fl [j23]) rfl (fun w => bsl65_1 j23.X j23.Y j23.Z w) rfl (by decide)) rfl ?_
              rintro _ _ ⟨a24, rfl, rfl⟩
              obtain ⟨x26, hx26, hres⟩ := bind_some hres
              refine JL.eff (ef_appendT (ix := 0) Go.Proofs.Try.underlying65 i88 i88z i88s rfl i88b0 i88b1 rfl rfl rfl rfl rfl (fun w hC => rd_row hC 2 rfl) hx26) rfl ?_
              rintro _ _ ⟨a27, cp28, rfl, rfl⟩
              refine JL.val (yl_assign rfl) rfl ?_
              refine JL.nil ?_
              refine JE.weak (env' := [(0, .slice a_0 q0.length c_0), (1, .int .i64 q1), (6, .slice a27 x26.length cp28), (7, .int .i64 x10), (8, .int .i64 x16)]) (es' := [rowT 88 eSToolMove a27 x26.length cp28 x26]) [0] ?_ ⟨rfl, rfl, rfl, rfl, rfl, trivial⟩ (by decide) rfl
              refine JE.code ?_
              refine JX.region ?_
              refine JL.val (yl_move rfl) rfl ?_
              refine JL.val (yl_add rfl rfl) rfl ?_
              refine JL.val (yl_assign rfl) rfl ?_
              refine JL.nil ?_
              refine JE.cont hres ?_
              exact fun a w h => ⟨a27, cp28, h.weak ⟨rfl, rfl, rfl, rfl, rfl, trivial⟩ [0] (by decide) rfl⟩
            · intro K
              rcases cond_some hj23 with ⟨hb, hres⟩ | ⟨hb, hres⟩
              · refine JX.condT rfl hb ?_
                refine JX.region ?_
                refine JL.val (yl_fieldAt (a := some _) Go.Proofs.Try.underlying88 rfl i2 i2n rfl rfl) rfl ?_
                refine JL.val (yl_load1 Go.Proofs.Try.underlying2 rfl rfl (fun w hC => rd_box hC 1 rfl) rfl) rfl ?_
                refine JL.val (yl_move rfl) rfl ?_
                refine JL.val (yl_mul rfl rfl) rfl ?_
                refine JL.val (yl_move rfl) rfl ?_
                obtain ⟨x29, hx29, hres⟩ := bind_some hres
                refine JL.val (yl_quo rfl rfl (nzI_some hx29)) rfl ?_
                refine JL.val (yl_fieldAt (a := some _) Go.Proofs.Try.underlying88 rfl i2 i2n rfl rfl) rfl ?_
                refine JL.eff (ef_store_box (i := 1) (v := .int .i64 (w64 ((w64 (x20.Z * x10)).tdiv q1))) i2 rfl rfl rfl (i2s).symm (Nat.le_of_ble_eq_true rfl) (by simp [Value.cells, Value.oneCell'])) rfl ?_
                rintro _ _ rfl
                refine JL.nil ?_
                refine JE.weak (env' := [(0, .slice a_0 q0.length c_0), (1, .int .i64 q1), (6, .slice a18 x17.length cp19), (7, .int .i64 x10), (8, .int .i64 x16), (9, ptrAt (some ⟨g21, 0, none⟩) 0)]) (es' := [rowT 88 eSToolMove a18 x17.length cp19 x17, boxO 88 g21 [.int .i64 x20.X, .int .i64 x20.Y, .int .i64 (w64 ((w64 (x20.Z * x10)).tdiv q1))]]) [0, 1] ?_ ⟨rfl, rfl, rfl, rfl, rfl, rfl, trivial⟩ (by decide) rfl
                have hj := Option.some.inj hres
                exact JE.weak [0, 1] (K) ⟨(by subst hj; rfl), (by subst hj; rfl), (by subst hj; rfl), (by subst hj; rfl), (by subst hj; rfl), (by subst hj; rfl), trivial⟩ (by decide) (by subst hj; rfl)
              · refine JX.condF rfl hb ?_
                refine JX.skip ?_
                have hj := Option.some.inj hres
                exact JE.weak [0, 1] (K) ⟨(by subst hj; rfl), (by subst hj; rfl), (by subst hj; rfl), (by subst hj; rfl), (by subst hj; rfl), (by subst hj; rfl), trivial⟩ (by decide) (by subst hj; rfl)
          · refine JX.condF rfl hb ?_
            refine JX.exit ?_
            refine JE.qb rfl ?_
            obtain ⟨b2, hb2⟩ : ∃ b : List SToolMove, b = x17 := ⟨_, rfl⟩
            have hy2 : b2 = y2 := by rw [hb2]; exact hox2 _ (Option.some.inj hres).symm
            have hres := hresO2
            rw [← hy2] at hres
            refine JE.weak (env' := [(0, .slice a_0 q0.length c_0), (1, .int .i64 q1), (6, .slice a18 b2.length cp19), (7, .int .i64 x10)]) (es' := [rowT 88 eSToolMove a18 b2.length cp19 b2]) [0] ?_ ⟨(by subst hb2; rfl), (by subst hb2; rfl), (by subst hb2; rfl), (by subst hb2; rfl), trivial⟩ (by decide) (by subst hb2; rfl)
            refine JE.code ?_
            refine JX.region ?_
            refine JL.val (yl_move rfl) rfl ?_
            refine JL.val (yl_add rfl rfl) rfl ?_
            refine JL.val (yl_assign rfl) rfl ?_
            refine JL.nil ?_
            refine JE.cont hres ?_
            exact fun a w h => ⟨a18, cp19, h.weak ⟨rfl, rfl, rfl, rfl, trivial⟩ [0] (by decide) rfl⟩
        · refine JX.condF rfl hb ?_
          refine JX.exit ?_
          refine JE.qb rfl ?_
          obtain ⟨b1, hb1⟩ : ∃ b : List SToolMove, b = x11 := ⟨_, rfl⟩
          have hy1 : b1 = y1 := by rw [hb1]; exact hox1 _ (Option.some.inj hres).symm
          have hres := hresO1
          rw [← hy1] at hres
          refine JE.weak (env' := [(6, .slice a12 b1.length cp13)]) (es' := [rowT 88 eSToolMove a12 b1.length cp13 b1]) [0] ?_ ⟨(by subst hb1; rfl), trivial⟩ (by decide) (by subst hb1; rfl)
          refine JE.code ?_
          refine JX.seq ?_
          refine JX.region ?_
          refine JL.val (yl_move rfl) rfl ?_
          refine JL.val (yl_assign rfl) rfl ?_
          refine JL.val (yl_assign rfl) rfl ?_
          refine JL.nil ?_
          refine JE.code ?_
          refine JX.ret ?_
          obtain rfl := Option.some.inj hres
          refine JE.ret (rs := [.tmp 4, .tmp 5]) (vs := [.slice a12 b1.length cp13, .int .i64 0]) rfl ⟨rfl, rfl, trivial⟩ ?_
          exact fun w' hb hs => ⟨_, _, ⟨a12, b1.length, cp13, rfl, rfl, rfl⟩, rfl, hb, hs.sel [0] _ (by decide) rfl⟩

/- spec.DrawCutLength -/
def sh67 (q0 : List Int) : Option (List SToolMove) := Option.bind (sh90 q0) fun x1 => Option.bind (sh150 (Sl00Src.mk q0 x1.at_ x1.seed)) fun x4 => some x4.1
def T67 (r : List SToolMove) (v : Value) (rs : List Own) : Prop := ∃ (a0 : Option Addr) (n0 c0 : Nat), r.length = n0 ∧ v = rets [.slice a0 n0 c0] ∧ rs = [rowT 88 eSToolMove a0 n0 c0 r]
set_option maxRecDepth 100000 in
theorem c67 {w : World} {q0 : List Int} {a_0 : Option Addr} {n_0 c_0 : Nat} (g_0 : Rd w a_0 (eU8.fl q0)) (l_0 : q0.length = n_0) (k_0 : n_0 ≤ c_0) {r : List SToolMove} (hres : sh67 q0 = some r) : Calls Go.Proofs.Try.prog 67 [.slice a_0 n_0 c_0].toArray w (Ret w (T67 r)) := by
  subst l_0
  unfold sh67 at hres
  refine calls_of (n := 6) (M := []) (es := []) Go.Proofs.Try.func67 rfl rfl rfl (Sep.nil _ _ _) ?_
  refine JX.seq ?_
  refine JX.region ?_
  refine JL.val (yl_assign rfl) rfl ?_
  refine JL.nil ?_
  refine JE.code ?_
  refine JX.seq ?_
  refine JX.region ?_
  refine JL.val (yl_move rfl) rfl ?_
  obtain ⟨x1, hx1, hres⟩ := bind_some hres
  refine JL.eff (ef_call (T := T90 a_0 q0.length c_0 x1) Go.Proofs.Try.func90 rfl (by kernel_rfl) rfl (fun w hC => c90 (rd_arg g_0 hC) rfl k_0 hx1)) rfl ?_
  rintro _ _ ⟨_, ⟨g2, rfl, rfl⟩, rfl⟩
  obtain ⟨x4, hx4, hres⟩ := bind_some hres
  refine JL.eff (ef_callms (caps := []) (vs := [ptrAt (some ⟨g2, 0, none⟩) 0]) (T := T150 g2 a_0 q0.length c_0 x4) [0] [] [boxO 163 g2 [.slice a_0 q0.length c_0, .int .i64 x1.at_, .int .u64 x1.seed]] [] rfl Go.Proofs.Try.func150 rfl (by kernel_rfl) rfl (by decide) rfl rfl (fun w N hF hS => c150 (q0 := Sl00Src.mk q0 x1.at_ x1.seed) (RdS.pass0 hF g_0) rfl k_0 hS hx4)) rfl ?_
  rintro _ _ ⟨_, _, ⟨rfl, a5, _, cp6, rfl, rfl, rfl⟩, rfl⟩
  refine JL.val (yl_assign rfl) rfl ?_
  refine JL.nil ?_
  refine JE.weak (env' := [(2, .slice a5 x4.1.length cp6)]) (es' := [rowT 88 eSToolMove a5 x4.1.length cp6 x4.1]) [1] ?_ ⟨rfl, trivial⟩ (by decide) rfl
  refine JE.code ?_
  refine JX.ret ?_
  obtain rfl := Option.some.inj hres
  refine JE.ret (rs := [.tmp 2]) (vs := [.slice a5 x4.1.length cp6]) rfl ⟨rfl, trivial⟩ ?_
  exact fun w' hb hs => ⟨_, _, ⟨a5, x4.1.length, cp6, rfl, rfl, rfl⟩, rfl, hb, hs.sel [0] _ (by decide) rfl⟩

/- spec.l22Away -/
def sh207 (q0 : SToolMove) (q1 : SToolMove) : Option (Int) := Option.bind (sh114 q0.X q1.X) fun x2 => Option.bind (sh114 q0.Y q1.Y) fun x3 => Option.bind (sh114 q0.Z q1.Z) fun x4 => Option.bind (sh182 x3 x4) fun x5 => Option.bind (sh182 x2 x5) fun x6 => some x6
def T207 (r : Int) (v : Value) (rs : List Own) : Prop := v = rets [.int .i64 r] ∧ rs = []
set_option maxRecDepth 100000 in
theorem c207 {w : World} {q0 : SToolMove} {a_0 : Option Addr} {n_0 : Nat} (g_0 : RdAt w a_0 n_0 (eSToolMove.fl [q0])) {q1 : SToolMove} {a_1 : Option Addr} {n_1 : Nat} (g_1 : RdAt w a_1 n_1 (eSToolMove.fl [q1])) {r : Int} (hres : sh207 q0 q1 = some r) : Calls Go.Proofs.Try.prog 207 [ptrAt a_0 n_0, ptrAt a_1 n_1].toArray w (Ret w (T207 r)) := by
  obtain ⟨b_0, e_0, g_0⟩ := g_0.norm eSToolMove
  rw [e_0]
  obtain ⟨b_1, e_1, g_1⟩ := g_1.norm eSToolMove
  rw [e_1]
  unfold sh207 at hres
  refine calls_of (n := 34) (M := []) (es := []) Go.Proofs.Try.func207 rfl rfl rfl (Sep.nil _ _ _) ?_
  refine JX.seq ?_
  refine JX.region ?_
  refine JL.val (yl_assign rfl) rfl ?_
  refine JL.nil ?_
  refine JE.code ?_
  refine JX.seq ?_
  refine JX.drawH [(0, .pure), (1, .pure), (2, .pure), (3, .read), (4, .pure), (5, .pure), (6, .pure), (7, .read), (9, .pure), (10, .pure), (11, .pure), (12, .read), (13, .pure), (14, .pure), (15, .pure), (16, .read), (18, .pure), (19, .pure), (20, .pure), (21, .read), (22, .pure), (23, .pure), (24, .pure), (25, .read), (8, .must), (17, .must), (26, .must), (27, .must), (28, .must), (29, .pure)] [] [] [] [] [] mixedP (by kernel_rfl) (by kernel_rfl) (by decide) rfl rfl ?_
  intro wrr1 Nr1 hFr1
  refine JH.pure rfl (yl_move rfl) rfl ?_
  refine JH.pure rfl (yl_nilCheckAt rfl (RdT.someQ (rd_arg g_0 hFr1.cl) (rfl : getI [q0] 0 = some q0) rfl rfl)) rfl ?_
  refine JH.pure rfl (yl_fieldAt Go.Proofs.Try.underlying88 rfl i2 i2n rfl (RdT.someQ (rd_arg g_0 hFr1.cl) (rfl : getI [q0] 0 = some q0) rfl rfl)) rfl ?_
  refine JH.read rfl (yl_loadT1 Go.Proofs.Try.underlying2 rfl rfl (rfl : getI [q0] 0 = some q0) (fun w hw => hFr1.arg g_0 hw) rfl) rfl ?_
  refine JH.pure rfl (yl_move rfl) rfl ?_
  refine JH.pure rfl (yl_nilCheckAt rfl (RdT.someQ (rd_arg g_1 hFr1.cl) (rfl : getI [q1] 0 = some q1) rfl rfl)) rfl ?_
  refine JH.pure rfl (yl_fieldAt Go.Proofs.Try.underlying88 rfl i2 i2n rfl (RdT.someQ (rd_arg g_1 hFr1.cl) (rfl : getI [q1] 0 = some q1) rfl rfl)) rfl ?_
  refine JH.read rfl (yl_loadT1 Go.Proofs.Try.underlying2 rfl rfl (rfl : getI [q1] 0 = some q1) (fun w hw => hFr1.arg g_1 hw) rfl) rfl ?_
  refine JH.pure rfl (yl_move rfl) rfl ?_
  refine JH.pure rfl (yl_nilCheckAt rfl (RdT.someQ (rd_arg g_0 hFr1.cl) (rfl : getI [q0] 0 = some q0) rfl rfl)) rfl ?_
  refine JH.pure rfl (yl_fieldAt Go.Proofs.Try.underlying88 rfl i2 i2n rfl (RdT.someQ (rd_arg g_0 hFr1.cl) (rfl : getI [q0] 0 = some q0) rfl rfl)) rfl ?_
  refine JH.read rfl (yl_loadT1 Go.Proofs.Try.underlying2 rfl rfl (rfl : getI [q0] 0 = some q0) (fun w hw => hFr1.arg g_0 hw) rfl) rfl ?_
  refine JH.pure rfl (yl_move rfl) rfl ?_
  refine JH.pure rfl (yl_nilCheckAt rfl (RdT.someQ (rd_arg g_1 hFr1.cl) (rfl : getI [q1] 0 = some q1) rfl rfl)) rfl ?_
  refine JH.pure rfl (yl_fieldAt Go.Proofs.Try.underlying88 rfl i2 i2n rfl (RdT.someQ (rd_arg g_1 hFr1.cl) (rfl : getI [q1] 0 = some q1) rfl rfl)) rfl ?_
  refine JH.read rfl (yl_loadT1 Go.Proofs.Try.underlying2 rfl rfl (rfl : getI [q1] 0 = some q1) (fun w hw => hFr1.arg g_1 hw) rfl) rfl ?_
  refine JH.pure rfl (yl_move rfl) rfl ?_
  refine JH.pure rfl (yl_nilCheckAt rfl (RdT.someQ (rd_arg g_0 hFr1.cl) (rfl : getI [q0] 0 = some q0) rfl rfl)) rfl ?_
  refine JH.pure rfl (yl_fieldAt Go.Proofs.Try.underlying88 rfl i2 i2n rfl (RdT.someQ (rd_arg g_0 hFr1.cl) (rfl : getI [q0] 0 = some q0) rfl rfl)) rfl ?_
  refine JH.read rfl (yl_loadT1 Go.Proofs.Try.underlying2 rfl rfl (rfl : getI [q0] 0 = some q0) (fun w hw => hFr1.arg g_0 hw) rfl) rfl ?_
  refine JH.pure rfl (yl_move rfl) rfl ?_
  refine JH.pure rfl (yl_nilCheckAt rfl (RdT.someQ (rd_arg g_1 hFr1.cl) (rfl : getI [q1] 0 = some q1) rfl rfl)) rfl ?_
  refine JH.pure rfl (yl_fieldAt Go.Proofs.Try.underlying88 rfl i2 i2n rfl (RdT.someQ (rd_arg g_1 hFr1.cl) (rfl : getI [q1] 0 = some q1) rfl rfl)) rfl ?_
  refine JH.read rfl (yl_loadT1 Go.Proofs.Try.underlying2 rfl rfl (rfl : getI [q1] 0 = some q1) (fun w hw => hFr1.arg g_1 hw) rfl) rfl ?_
  obtain ⟨x2, hx2, hres⟩ := bind_some hres
  refine JH.must rfl (ef_call (T := T114 x2) Go.Proofs.Try.func114 rfl (by kernel_rfl) rfl (fun w hC => c114  hx2)) rfl rfl ?_
  rintro _ _ ⟨_, ⟨rfl, rfl⟩, rfl⟩
  obtain ⟨x3, hx3, hres⟩ := bind_some hres
  refine JH.must rfl (ef_call (T := T114 x3) Go.Proofs.Try.func114 rfl (by kernel_rfl) rfl (fun w hC => c114  hx3)) rfl rfl ?_
  rintro _ _ ⟨_, ⟨rfl, rfl⟩, rfl⟩
  obtain ⟨x4, hx4, hres⟩ := bind_some hres
  refine JH.must rfl (ef_call (T := T114 x4) Go.Proofs.Try.func114 rfl (by kernel_rfl) rfl (fun w hC => c114  hx4)) rfl rfl ?_
  rintro _ _ ⟨_, ⟨rfl, rfl⟩, rfl⟩
  obtain ⟨x5, hx5, hres⟩ := bind_some hres
  refine JH.must rfl (ef_call (T := T182 x5) Go.Proofs.Try.func182 rfl (by kernel_rfl) rfl (fun w hC => c182  hx5)) rfl rfl ?_
  rintro _ _ ⟨_, ⟨rfl, rfl⟩, rfl⟩
  obtain ⟨x6, hx6, hres⟩ := bind_some hres
  refine JH.must rfl (ef_call (T := T182 x6) Go.Proofs.Try.func182 rfl (by kernel_rfl) rfl (fun w hC => c182  hx6)) rfl rfl ?_
  rintro _ _ ⟨_, ⟨rfl, rfl⟩, rfl⟩
  refine JH.pure rfl (yl_assign rfl) rfl ?_
  refine JH.nil ?_
  refine JE.weak (env' := [(4, .int .i64 x6)]) (es' := []) [] ?_ ⟨rfl, trivial⟩ (by decide) rfl
  refine JE.code ?_
  refine JX.ret ?_
  obtain rfl := Option.some.inj hres
  refine JE.ret (rs := [.tmp 4]) (vs := [.int .i64 x6]) rfl ⟨rfl, trivial⟩ ?_
  exact fun w' hb hs => ⟨_, _, ⟨rfl, rfl⟩, rfl, hb, hs.sel [] _ (by decide) rfl⟩

/- spec.l22Length -/
def sh155_1 (q0 : List SToolMove) (q1 : Bool) : (Int × Int) → Option ((Int × Int) ⊕ (Int))
  | (x1, x2) => bif decide (x2 < (q0.length : Int)) then (Option.bind (getI q0 (w64 (x2 - 1))) fun x3 => Option.bind (bif decide (x3.Z < 0) then (some true) else (Option.bind (getI q0 x2) fun x5 => some (decide (x5.Z < 0)))) fun cb4 => (Option.bind (bif cb4 == q1 then (Option.bind (getI q0 (w64 (x2 - 1))) fun x8 => Option.bind (getI q0 x2) fun x9 => Option.bind (sh207 x8 x9) fun x10 => some (w64 (x1 + x10))) else (some x1)) fun j6 => (some (.inl (j6, w64 (x2 + 1)))))) else (some (.inr x1))
def sh155 (q0 : List SToolMove) (q1 : Bool) : Option (Int) := Option.bind (iter (sh155_1 q0 q1) (0, 1)) fun b1 => (some b1)
def T155 (r : Int) (v : Value) (rs : List Own) : Prop := v = rets [.int .i64 r] ∧ rs = []
set_option maxRecDepth 100000 in
theorem c155 {w : World} {q0 : List SToolMove} {a_0 : Option Addr} {n_0 c_0 : Nat} (g_0 : Rd w a_0 (eSToolMove.fl q0)) (l_0 : q0.length = n_0) (k_0 : n_0 ≤ c_0) {q1 : Bool} {r : Int} (hres : sh155 q0 q1 = some r) : Calls Go.Proofs.Try.prog 155 [.slice a_0 n_0 c_0, .bool q1].toArray w (Ret w (T155 r)) := by
  subst l_0
  unfold sh155 at hres
  refine calls_of (n := 43) (M := []) (es := []) Go.Proofs.Try.func155 rfl rfl rfl (Sep.nil _ _ _) ?_
  refine JX.seq ?_
  refine JX.region ?_
  refine JL.val (yl_assign rfl) rfl ?_
  refine JL.nil ?_
  refine JE.code ?_
  refine JX.seq ?_
  refine JX.region ?_
  refine JL.val (yl_assign rfl) rfl ?_
  refine JL.nil ?_
  refine JE.code ?_
  refine JX.seq ?_
  refine JX.seq ?_
  refine JX.region ?_
  refine JL.val (yl_assign rfl) rfl ?_
  refine JL.nil ?_
  refine JE.code ?_
  refine JX.block ?_
  obtain ⟨y1, hy1, hresO1⟩ := bind_some hres
  refine JX.loop (I := fun (s1 : Int × Int) aa ww => St w [] 43 [(0, .slice a_0 q0.length c_0), (1, .bool q1), (5, .int .i64 s1.1), (6, .int .i64 s1.2)] [] aa ww) (sh155_1 q0 q1) hy1 (fun a w h => h.weak ⟨rfl, rfl, rfl, rfl, trivial⟩ [] (by decide) rfl) ?_
  rintro ⟨x1, x2⟩ o1 hres hox1 aa ww hS
  refine (?_ : JX Go.Proofs.Try.prog w [] 43 _ _ [(0, .slice a_0 q0.length c_0), (1, .bool q1), (5, .int .i64 x1), (6, .int .i64 x2)] [] _) aa ww hS
  clear hS
  simp only [sh155_1] at hres
  refine JX.seq ?_
  refine JX.seq ?_
  refine JX.region ?_
  refine JL.val (yl_move rfl) rfl ?_
  refine JL.val (yl_move rfl) rfl ?_
  refine JL.val (yl_len_slice Go.Proofs.Try.underlying65 rfl) rfl ?_
  refine JL.val (yl_lss rfl rfl) rfl ?_
  refine JL.nil ?_
  refine JE.weak (env' := [(0, .slice a_0 q0.length c_0), (1, .bool q1), (5, .int .i64 x1), (6, .int .i64 x2), (11, .bool (decide (x2 < (q0.length : Int))))]) (es' := []) [] ?_ ⟨rfl, rfl, rfl, rfl, rfl, trivial⟩ (by decide) rfl
  refine JE.code ?_
  rcases cond_some hres with ⟨hb, hres⟩ | ⟨hb, hres⟩
  · refine JX.condT rfl hb ?_
    refine JX.skip ?_
    refine JE.code ?_
    refine JX.seq ?_
    refine JX.block ?_
    refine JX.seq ?_
    refine JX.region ?_
    refine JL.val (yl_move rfl) rfl ?_
    refine JL.val (yl_move rfl) rfl ?_
    refine JL.val (yl_sub rfl rfl) rfl ?_
    obtain ⟨x3, hx3, hres⟩ := bind_some hres
    refine JL.val (yl_idxT Go.Proofs.Try.underlying65 i88 i88s rfl rfl hx3 rfl (fun w hC => rd_arg g_0 hC)) rfl ?_
    refine JL.val (yl_fieldAtT Go.Proofs.Try.underlying88 rfl i2 i2n rfl hx3 (fun w hC => rd_arg g_0 hC)) rfl ?_
    refine JL.val (yl_loadT1 Go.Proofs.Try.underlying2 rfl rfl hx3 (fun w hC => rd_arg g_0 hC) rfl) rfl ?_
    refine JL.val (yl_lss rfl rfl) rfl ?_
    refine JL.val (yl_move rfl) rfl ?_
    obtain ⟨cb4, hcb4, hres⟩ := bind_some hres
    refine JL.cut (K := fun J => J [(0, .slice a_0 q0.length c_0), (1, .bool q1), (5, .int .i64 x1), (6, .int .i64 x2), (28, .bool cb4)] []) 7 ?_ ?_
    · refine JL.val (yl_assign rfl) rfl ?_
      refine JL.nil ?_
      refine JE.weak (env' := [(0, .slice a_0 q0.length c_0), (1, .bool q1), (5, .int .i64 x1), (6, .int .i64 x2), (7, .bool cb4)]) (es' := []) [] ?_ ⟨rfl, rfl, rfl, rfl, rfl, trivial⟩ (by decide) rfl
      refine JE.code ?_
      refine JX.seq ?_
      refine JX.region ?_
      refine JL.val (yl_move rfl) rfl ?_
      refine JL.val (yl_move rfl) rfl ?_
      refine JL.val (yl_beql Go.Proofs.Try.underlying4 rfl rfl) rfl ?_
      refine JL.nil ?_
      refine JE.code ?_
      obtain ⟨j6, hj6, hresj6⟩ := bind_some hres
      refine JX.cut (K := fun J => J [(0, .slice a_0 q0.length c_0), (1, .bool q1), (5, .int .i64 j6), (6, .int .i64 x2)] []) ?_ ?_
      · have hres := hresj6
        refine JE.code ?_
        refine JX.region ?_
        refine JL.val (yl_move rfl) rfl ?_
        refine JL.val (yl_add rfl rfl) rfl ?_
        refine JL.val (yl_assign rfl) rfl ?_
        refine JL.nil ?_
        refine JE.cont hres ?_
        exact fun a w h => h.weak ⟨rfl, rfl, rfl, rfl, trivial⟩ [] (by decide) rfl
      · intro K
        rcases cond_some hj6 with ⟨hb, hres⟩ | ⟨hb, hres⟩
        · refine JX.condT rfl hb ?_
          refine JX.drawH [(0, .pure), (1, .pure), (2, .pure), (3, .pure), (4, .pure), (5, .pure), (6, .pure), (7, .pure), (8, .must), (9, .pure), (10, .pure)] [] [] [] [] [] mixedP (by kernel_rfl) (by kernel_rfl) (by decide) rfl rfl ?_
          intro wrr7 Nr7 hFr7
          refine JH.pure rfl (yl_move rfl) rfl ?_
          refine JH.pure rfl (yl_move rfl) rfl ?_
          refine JH.pure rfl (yl_move rfl) rfl ?_
          refine JH.pure rfl (yl_sub rfl rfl) rfl ?_
          obtain ⟨x8, hx8, hres⟩ := bind_some hres
          refine JH.pure rfl (yl_idxQ Go.Proofs.Try.underlying65 i88 i88s rfl rfl hx8 rfl (rd_arg g_0 hFr7.cl) rfl) rfl ?_
          refine JH.pure rfl (yl_move rfl) rfl ?_
          refine JH.pure rfl (yl_move rfl) rfl ?_
          obtain ⟨x9, hx9, hres⟩ := bind_some hres
          refine JH.pure rfl (yl_idxQ Go.Proofs.Try.underlying65 i88 i88s rfl rfl hx9 rfl (rd_arg g_0 hFr7.cl) rfl) rfl ?_
          obtain ⟨x10, hx10, hres⟩ := bind_some hres
          refine JH.must rfl (ef_call (T := T207 x10) Go.Proofs.Try.func207 rfl (by kernel_rfl) rfl (fun w hC => c207 (RdAt.of (hFr7.arg g_0 hC.1) (hx8)) (RdAt.of (hFr7.arg g_0 hC.1) (hx9)) hx10)) rfl rfl ?_
          rintro _ _ ⟨_, ⟨rfl, rfl⟩, rfl⟩
          refine JH.pure rfl (yl_add rfl rfl) rfl ?_
          refine JH.pure rfl (yl_assign rfl) rfl ?_
          refine JH.nil ?_
          refine JE.weak (env' := [(0, .slice a_0 q0.length c_0), (1, .bool q1), (5, .int .i64 (w64 (x1 + x10))), (6, .int .i64 x2)]) (es' := []) [] ?_ ⟨rfl, rfl, rfl, rfl, trivial⟩ (by decide) rfl
          have hj := Option.some.inj hres
          exact JE.weak [] (K) ⟨(by subst hj; rfl), (by subst hj; rfl), (by subst hj; rfl), (by subst hj; rfl), trivial⟩ (by decide) (by subst hj; rfl)
        · refine JX.condF rfl hb ?_
          refine JX.skip ?_
          have hj := Option.some.inj hres
          exact JE.weak [] (K) ⟨(by subst hj; rfl), (by subst hj; rfl), (by subst hj; rfl), (by subst hj; rfl), trivial⟩ (by decide) (by subst hj; rfl)
    · intro K
      rcases cond_some hcb4 with ⟨hb, hres⟩ | ⟨hb, hres⟩
      · refine JL.set (d := 21) (v := .bool true) (congrArg (fun b => some (Value.bool b)) hb) ?_
        refine JL.gskip rfl rfl rfl rfl ?_
        refine JL.gskip rfl rfl rfl rfl ?_
        refine JL.gskip rfl rfl rfl rfl ?_
        refine JL.gskip rfl rfl rfl rfl ?_
        refine JL.gskip rfl rfl rfl rfl ?_
        refine JL.gskip rfl rfl rfl rfl ?_
        refine JL.val (yl_pick_true rfl rfl) rfl ?_
        have he := Option.some.inj hres
        exact JL.weak [] K ⟨rfl, rfl, rfl, rfl, (by rw [← he]; rfl), trivial⟩ (by decide) rfl
      · refine JL.set (d := 21) (v := .bool false) (congrArg (fun b => some (Value.bool b)) hb) ?_
        refine JL.gval rfl rfl (yl_move rfl) rfl ?_
        refine JL.gval rfl rfl (yl_move rfl) rfl ?_
        obtain ⟨x5, hx5, hres⟩ := bind_some hres
        refine JL.gval rfl rfl (yl_idxT Go.Proofs.Try.underlying65 i88 i88s rfl rfl hx5 rfl (fun w hC => rd_arg g_0 hC)) rfl ?_
        refine JL.gval rfl rfl (yl_fieldAtT Go.Proofs.Try.underlying88 rfl i2 i2n rfl hx5 (fun w hC => rd_arg g_0 hC)) rfl ?_
        refine JL.gval rfl rfl (yl_loadT1 Go.Proofs.Try.underlying2 rfl rfl hx5 (fun w hC => rd_arg g_0 hC) rfl) rfl ?_
        refine JL.gval rfl rfl (yl_lss rfl rfl) rfl ?_
        refine JL.val (yl_pick_false rfl rfl) rfl ?_
        have he := Option.some.inj hres
        exact JL.weak [] K ⟨rfl, rfl, rfl, rfl, (by rw [← he]; rfl), trivial⟩ (by decide) rfl
  · refine JX.condF rfl hb ?_
    refine JX.exit ?_
    refine JE.qb rfl ?_
    obtain ⟨b1, hb1⟩ : ∃ b : Int, b = x1 := ⟨_, rfl⟩
    have hy1 : b1 = y1 := by rw [hb1]; exact hox1 _ (Option.some.inj hres).symm
    have hres := hresO1
    rw [← hy1] at hres
    refine JE.weak (env' := [(5, .int .i64 b1)]) (es' := []) [] ?_ ⟨(by subst hb1; rfl), trivial⟩ (by decide) (by subst hb1; rfl)
    refine JE.code ?_
    refine JX.seq ?_
    refine JX.region ?_
    refine JL.val (yl_move rfl) rfl ?_
    refine JL.val (yl_assign rfl) rfl ?_
    refine JL.nil ?_
    refine JE.code ?_
    refine JX.ret ?_
    obtain rfl := Option.some.inj hres
    refine JE.ret (rs := [.tmp 4]) (vs := [.int .i64 b1]) rfl ⟨rfl, trivial⟩ ?_
    exact fun w' hb hs => ⟨_, _, ⟨rfl, rfl⟩, rfl, hb, hs.sel [] _ (by decide) rfl⟩

/- spec.CutLength -/
def sh68 (q0 : List SToolMove) : Option (Int × Int) := Option.bind (sh152 q0) fun x1 => bif !x1 then (some (0, 1)) else (Option.bind (sh155 q0 true) fun x2 => some (x2, 0))
def T68 (r : Int × Int) (v : Value) (rs : List Own) : Prop := v = rets [.int .i64 r.1, .int .i64 r.2] ∧ rs = []
set_option maxRecDepth 100000 in
theorem c68 {w : World} {q0 : List SToolMove} {a_0 : Option Addr} {n_0 c_0 : Nat} (g_0 : Rd w a_0 (eSToolMove.fl q0)) (l_0 : q0.length = n_0) (k_0 : n_0 ≤ c_0) {r : Int × Int} (hres : sh68 q0 = some r) : Calls Go.Proofs.Try.prog 68 [.slice a_0 n_0 c_0].toArray w (Ret w (T68 r)) := by
  subst l_0
  unfold sh68 at hres
  refine calls_of (n := 9) (M := []) (es := []) Go.Proofs.Try.func68 rfl rfl rfl (Sep.nil _ _ _) ?_
  refine JX.seq ?_
  refine JX.region ?_
  refine JL.val (yl_assign rfl) rfl ?_
  refine JL.val (yl_assign rfl) rfl ?_
  refine JL.nil ?_
  refine JE.code ?_
  refine JX.seq ?_
  refine JX.seq ?_
  refine JX.region ?_
  refine JL.val (yl_move rfl) rfl ?_
  obtain ⟨x1, hx1, hres⟩ := bind_some hres
  refine JL.eff (ef_call (T := T152 x1) Go.Proofs.Try.func152 rfl (by kernel_rfl) rfl (fun w hC => c152 (rd_arg g_0 hC) rfl k_0 hx1)) rfl ?_
  rintro _ _ ⟨_, ⟨rfl, rfl⟩, rfl⟩
  refine JL.val (yl_not rfl) rfl ?_
  refine JL.nil ?_
  refine JE.code ?_
  rcases cond_some hres with ⟨hb, hres⟩ | ⟨hb, hres⟩
  · refine JX.condT rfl hb ?_
    refine JX.seq ?_
    refine JX.region ?_
    refine JL.val (yl_assign rfl) rfl ?_
    refine JL.val (yl_assign rfl) rfl ?_
    refine JL.nil ?_
    refine JE.code ?_
    refine JX.ret ?_
    obtain rfl := Option.some.inj hres
    refine JE.ret (rs := [.tmp 2, .tmp 3]) (vs := [.int .i64 0, .int .i64 1]) rfl ⟨rfl, rfl, trivial⟩ ?_
    exact fun w' hb hs => ⟨_, _, ⟨rfl, rfl⟩, rfl, hb, hs.sel [] _ (by decide) rfl⟩
  · refine JX.condF rfl hb ?_
    refine JX.skip ?_
    refine JE.code ?_
    refine JX.seq ?_
    refine JX.region ?_
    refine JL.val (yl_move rfl) rfl ?_
    obtain ⟨x2, hx2, hres⟩ := bind_some hres
    refine JL.eff (ef_call (T := T155 x2) Go.Proofs.Try.func155 rfl (by kernel_rfl) rfl (fun w hC => c155 (rd_arg g_0 hC) rfl k_0 hx2)) rfl ?_
    rintro _ _ ⟨_, ⟨rfl, rfl⟩, rfl⟩
    refine JL.val (yl_assign rfl) rfl ?_
    refine JL.val (yl_assign rfl) rfl ?_
    refine JL.nil ?_
    refine JE.weak (env' := [(2, .int .i64 x2), (3, .int .i64 0)]) (es' := []) [] ?_ ⟨rfl, rfl, trivial⟩ (by decide) rfl
    refine JE.code ?_
    refine JX.ret ?_
    obtain rfl := Option.some.inj hres
    refine JE.ret (rs := [.tmp 2, .tmp 3]) (vs := [.int .i64 x2, .int .i64 0]) rfl ⟨rfl, rfl, trivial⟩ ?_
    exact fun w' hb hs => ⟨_, _, ⟨rfl, rfl⟩, rfl, hb, hs.sel [] _ (by decide) rfl⟩

/- spec.DrawTravelLength -/
def sh69 (q0 : List Int) : Option (List SToolMove) := Option.bind (sh90 q0) fun x1 => Option.bind (sh150 (Sl00Src.mk q0 x1.at_ x1.seed)) fun x4 => some x4.1
def T69 (r : List SToolMove) (v : Value) (rs : List Own) : Prop := ∃ (a0 : Option Addr) (n0 c0 : Nat), r.length = n0 ∧ v = rets [.slice a0 n0 c0] ∧ rs = [rowT 88 eSToolMove a0 n0 c0 r]
set_option maxRecDepth 100000 in
theorem c69 {w : World} {q0 : List Int} {a_0 : Option Addr} {n_0 c_0 : Nat} (g_0 : Rd w a_0 (eU8.fl q0)) (l_0 : q0.length = n_0) (k_0 : n_0 ≤ c_0) {r : List SToolMove} (hres : sh69 q0 = some r) : Calls Go.Proofs.Try.prog 69 [.slice a_0 n_0 c_0].toArray w (Ret w (T69 r)) := by
  subst l_0
  unfold sh69 at hres
  refine calls_of (n := 6) (M := []) (es := []) Go.Proofs.Try.func69 rfl rfl rfl (Sep.nil _ _ _) ?_
  refine JX.seq ?_
  refine JX.region ?_
  refine JL.val (yl_assign rfl) rfl ?_
  refine JL.nil ?_
  refine JE.code ?_
  refine JX.seq ?_
  refine JX.region ?_
  refine JL.val (yl_move rfl) rfl ?_
  obtain ⟨x1, hx1, hres⟩ := bind_some hres
  refine JL.eff (ef_call (T := T90 a_0 q0.length c_0 x1) Go.Proofs.Try.func90 rfl (by kernel_rfl) rfl (fun w hC => c90 (rd_arg g_0 hC) rfl k_0 hx1)) rfl ?_
  rintro _ _ ⟨_, ⟨g2, rfl, rfl⟩, rfl⟩
  obtain ⟨x4, hx4, hres⟩ := bind_some hres
  refine JL.eff (ef_callms (caps := []) (vs := [ptrAt (some ⟨g2, 0, none⟩) 0]) (T := T150 g2 a_0 q0.length c_0 x4) [0] [] [boxO 163 g2 [.slice a_0 q0.length c_0, .int .i64 x1.at_, .int .u64 x1.seed]] [] rfl Go.Proofs.Try.func150 rfl (by kernel_rfl) rfl (by decide) rfl rfl (fun w N hF hS => c150 (q0 := Sl00Src.mk q0 x1.at_ x1.seed) (RdS.pass0 hF g_0) rfl k_0 hS hx4)) rfl ?_
  rintro _ _ ⟨_, _, ⟨rfl, a5, _, cp6, rfl, rfl, rfl⟩, rfl⟩
  refine JL.val (yl_assign rfl) rfl ?_
  refine JL.nil ?_
  refine JE.weak (env' := [(2, .slice a5 x4.1.length cp6)]) (es' := [rowT 88 eSToolMove a5 x4.1.length cp6 x4.1]) [1] ?_ ⟨rfl, trivial⟩ (by decide) rfl
  refine JE.code ?_
  refine JX.ret ?_
  obtain rfl := Option.some.inj hres
  refine JE.ret (rs := [.tmp 2]) (vs := [.slice a5 x4.1.length cp6]) rfl ⟨rfl, trivial⟩ ?_
  exact fun w' hb hs => ⟨_, _, ⟨a5, x4.1.length, cp6, rfl, rfl, rfl⟩, rfl, hb, hs.sel [0] _ (by decide) rfl⟩

/- impl.TravelLength -/
def sh70 (q0 : List SToolMove) : Option (Int × Int) := Option.bind (sh154 q0 false) fun x1 => some (x1.1, x1.2)
def T70 (r : Int × Int) (v : Value) (rs : List Own) : Prop := v = rets [.int .i64 r.1, .int .i64 r.2] ∧ rs = []
set_option maxRecDepth 100000 in
theorem c70 {w : World} {q0 : List SToolMove} {a_0 : Option Addr} {n_0 c_0 : Nat} (g_0 : Rd w a_0 (eSToolMove.fl q0)) (l_0 : q0.length = n_0) (k_0 : n_0 ≤ c_0) {r : Int × Int} (hres : sh70 q0 = some r) : Calls Go.Proofs.Try.prog 70 [.slice a_0 n_0 c_0].toArray w (Ret w (T70 r)) := by
  subst l_0
  unfold sh70 at hres
  refine calls_of (n := 8) (M := []) (es := []) Go.Proofs.Try.func70 rfl rfl rfl (Sep.nil _ _ _) ?_
  refine JX.seq ?_
  refine JX.region ?_
  refine JL.val (yl_assign rfl) rfl ?_
  refine JL.val (yl_assign rfl) rfl ?_
  refine JL.nil ?_
  refine JE.code ?_
  refine JX.seq ?_
  refine JX.region ?_
  refine JL.val (yl_move rfl) rfl ?_
  obtain ⟨x1, hx1, hres⟩ := bind_some hres
  refine JL.eff (ef_call (T := T154 x1) Go.Proofs.Try.func154 rfl (by kernel_rfl) rfl (fun w hC => c154 (rd_arg g_0 hC) rfl k_0 hx1)) rfl ?_
  rintro _ _ ⟨_, ⟨rfl, rfl⟩, rfl⟩
  refine JL.val (yl_extract rfl rfl) rfl ?_
  refine JL.val (yl_extract rfl rfl) rfl ?_
  refine JL.val (yl_assign rfl) rfl ?_
  refine JL.val (yl_assign rfl) rfl ?_
  refine JL.nil ?_
  refine JE.weak (env' := [(2, .int .i64 x1.1), (3, .int .i64 x1.2)]) (es' := []) [] ?_ ⟨rfl, rfl, trivial⟩ (by decide) rfl
  refine JE.code ?_
  refine JX.ret ?_
  obtain rfl := Option.some.inj hres
  refine JE.ret (rs := [.tmp 2, .tmp 3]) (vs := [.int .i64 x1.1, .int .i64 x1.2]) rfl ⟨rfl, rfl, trivial⟩ ?_
  exact fun w' hb hs => ⟨_, _, ⟨rfl, rfl⟩, rfl, hb, hs.sel [] _ (by decide) rfl⟩

/- spec.TravelLength -/
def sh71 (q0 : List SToolMove) : Option (Int × Int) := Option.bind (sh152 q0) fun x1 => bif !x1 then (some (0, 1)) else (Option.bind (sh155 q0 false) fun x2 => some (x2, 0))
def T71 (r : Int × Int) (v : Value) (rs : List Own) : Prop := v = rets [.int .i64 r.1, .int .i64 r.2] ∧ rs = []
set_option maxRecDepth 100000 in
theorem c71 {w : World} {q0 : List SToolMove} {a_0 : Option Addr} {n_0 c_0 : Nat} (g_0 : Rd w a_0 (eSToolMove.fl q0)) (l_0 : q0.length = n_0) (k_0 : n_0 ≤ c_0) {r : Int × Int} (hres : sh71 q0 = some r) : Calls Go.Proofs.Try.prog 71 [.slice a_0 n_0 c_0].toArray w (Ret w (T71 r)) := by
  subst l_0
  unfold sh71 at hres
  refine calls_of (n := 9) (M := []) (es := []) Go.Proofs.Try.func71 rfl rfl rfl (Sep.nil _ _ _) ?_
  refine JX.seq ?_
  refine JX.region ?_
  refine JL.val (yl_assign rfl) rfl ?_
  refine JL.val (yl_assign rfl) rfl ?_
  refine JL.nil ?_
  refine JE.code ?_
  refine JX.seq ?_
  refine JX.seq ?_
  refine JX.region ?_
  refine JL.val (yl_move rfl) rfl ?_
  obtain ⟨x1, hx1, hres⟩ := bind_some hres
  refine JL.eff (ef_call (T := T152 x1) Go.Proofs.Try.func152 rfl (by kernel_rfl) rfl (fun w hC => c152 (rd_arg g_0 hC) rfl k_0 hx1)) rfl ?_
  rintro _ _ ⟨_, ⟨rfl, rfl⟩, rfl⟩
  refine JL.val (yl_not rfl) rfl ?_
  refine JL.nil ?_
  refine JE.code ?_
  rcases cond_some hres with ⟨hb, hres⟩ | ⟨hb, hres⟩
  · refine JX.condT rfl hb ?_
    refine JX.seq ?_
    refine JX.region ?_
    refine JL.val (yl_assign rfl) rfl ?_
    refine JL.val (yl_assign rfl) rfl ?_
    refine JL.nil ?_
    refine JE.code ?_
    refine JX.ret ?_
    obtain rfl := Option.some.inj hres
    refine JE.ret (rs := [.tmp 2, .tmp 3]) (vs := [.int .i64 0, .int .i64 1]) rfl ⟨rfl, rfl, trivial⟩ ?_
    exact fun w' hb hs => ⟨_, _, ⟨rfl, rfl⟩, rfl, hb, hs.sel [] _ (by decide) rfl⟩
  · refine JX.condF rfl hb ?_
    refine JX.skip ?_
    refine JE.code ?_
    refine JX.seq ?_
    refine JX.region ?_
    refine JL.val (yl_move rfl) rfl ?_
    obtain ⟨x2, hx2, hres⟩ := bind_some hres
    refine JL.eff (ef_call (T := T155 x2) Go.Proofs.Try.func155 rfl (by kernel_rfl) rfl (fun w hC => c155 (rd_arg g_0 hC) rfl k_0 hx2)) rfl ?_
    rintro _ _ ⟨_, ⟨rfl, rfl⟩, rfl⟩
    refine JL.val (yl_assign rfl) rfl ?_
    refine JL.val (yl_assign rfl) rfl ?_
    refine JL.nil ?_
    refine JE.weak (env' := [(2, .int .i64 x2), (3, .int .i64 0)]) (es' := []) [] ?_ ⟨rfl, rfl, trivial⟩ (by decide) rfl
    refine JE.code ?_
    refine JX.ret ?_
    obtain rfl := Option.some.inj hres
    refine JE.ret (rs := [.tmp 2, .tmp 3]) (vs := [.int .i64 x2, .int .i64 0]) rfl ⟨rfl, rfl, trivial⟩ ?_
    exact fun w' hb hs => ⟨_, _, ⟨rfl, rfl⟩, rfl, hb, hs.sel [] _ (by decide) rfl⟩

/- spec.DrawToolText -/
def sh72 (q0 : List Int) : Option (List SToolMove) := Option.bind (sh90 q0) fun x1 => Option.bind (sh150 (Sl00Src.mk q0 x1.at_ x1.seed)) fun x4 => some x4.1
def T72 (r : List SToolMove) (v : Value) (rs : List Own) : Prop := ∃ (a0 : Option Addr) (n0 c0 : Nat), r.length = n0 ∧ v = rets [.slice a0 n0 c0] ∧ rs = [rowT 88 eSToolMove a0 n0 c0 r]
set_option maxRecDepth 100000 in
theorem c72 {w : World} {q0 : List Int} {a_0 : Option Addr} {n_0 c_0 : Nat} (g_0 : Rd w a_0 (eU8.fl q0)) (l_0 : q0.length = n_0) (k_0 : n_0 ≤ c_0) {r : List SToolMove} (hres : sh72 q0 = some r) : Calls Go.Proofs.Try.prog 72 [.slice a_0 n_0 c_0].toArray w (Ret w (T72 r)) := by
  subst l_0
  unfold sh72 at hres
  refine calls_of (n := 6) (M := []) (es := []) Go.Proofs.Try.func72 rfl rfl rfl (Sep.nil _ _ _) ?_
  refine JX.seq ?_
  refine JX.region ?_
  refine JL.val (yl_assign rfl) rfl ?_
  refine JL.nil ?_
  refine JE.code ?_
  refine JX.seq ?_
  refine JX.region ?_
  refine JL.val (yl_move rfl) rfl ?_
  obtain ⟨x1, hx1, hres⟩ := bind_some hres
  refine JL.eff (ef_call (T := T90 a_0 q0.length c_0 x1) Go.Proofs.Try.func90 rfl (by kernel_rfl) rfl (fun w hC => c90 (rd_arg g_0 hC) rfl k_0 hx1)) rfl ?_
  rintro _ _ ⟨_, ⟨g2, rfl, rfl⟩, rfl⟩
  obtain ⟨x4, hx4, hres⟩ := bind_some hres
  refine JL.eff (ef_callms (caps := []) (vs := [ptrAt (some ⟨g2, 0, none⟩) 0]) (T := T150 g2 a_0 q0.length c_0 x4) [0] [] [boxO 163 g2 [.slice a_0 q0.length c_0, .int .i64 x1.at_, .int .u64 x1.seed]] [] rfl Go.Proofs.Try.func150 rfl (by kernel_rfl) rfl (by decide) rfl rfl (fun w N hF hS => c150 (q0 := Sl00Src.mk q0 x1.at_ x1.seed) (RdS.pass0 hF g_0) rfl k_0 hS hx4)) rfl ?_
  rintro _ _ ⟨_, _, ⟨rfl, a5, _, cp6, rfl, rfl, rfl⟩, rfl⟩
  refine JL.val (yl_assign rfl) rfl ?_
  refine JL.nil ?_
  refine JE.weak (env' := [(2, .slice a5 x4.1.length cp6)]) (es' := [rowT 88 eSToolMove a5 x4.1.length cp6 x4.1]) [1] ?_ ⟨rfl, trivial⟩ (by decide) rfl
  refine JE.code ?_
  refine JX.ret ?_
  obtain rfl := Option.some.inj hres
  refine JE.ret (rs := [.tmp 2]) (vs := [.slice a5 x4.1.length cp6]) rfl ⟨rfl, trivial⟩ ?_
  exact fun w' hb hs => ⟨_, _, ⟨a5, x4.1.length, cp6, rfl, rfl, rfl⟩, rfl, hb, hs.sel [0] _ (by decide) rfl⟩

/- impl.Decimal -/
def sh165_1 : (Int × Int × List Int) → Option ((Int × Int × List Int) ⊕ (Int × List Int))
  | (x5, x6, x7) => bif decide (0 < x6) then (Option.bind (getI x7 (w64 (x5 - 1))) fun x9 => some (.inl (w64 (x5 - 1), IntKind.u64.wrap (x6.tdiv 10), x7.set (w64 (x5 - 1)).toNat (IntKind.u8.wrap (IntKind.u64.wrap (48 + (x6.tmod 10))))))) else (some (.inr (x5, x7)))
def sh165 (q0 : Int) : Option (ByteArray) := bif q0 == 0 then (some (ByteArray.mk #[48])) else (Option.bind (bif decide (q0 < 0) then (some (IntKind.u64.wrap (0 - (IntKind.u64.wrap (q0))))) else (some (IntKind.u64.wrap (q0)))) fun j3 => (Option.bind (iter (sh165_1) (20, j3, List.replicate 20 (0 : Int))) fun b1 => (Option.bind (bif decide (q0 < 0) then (Option.bind (getI b1.2 (w64 (b1.1 - 1))) fun x15 => some (w64 (b1.1 - 1), b1.2.set (w64 (b1.1 - 1)).toNat 45)) else (some (b1.1, b1.2))) fun j11 => (Option.bind (dropL j11.2 j11.1) fun x13 => some (bytesS x13)))))
def T165 (r : ByteArray) (v : Value) (rs : List Own) : Prop := v = rets [.string r] ∧ rs = []
set_option maxRecDepth 100000 in
theorem c165 {w : World} {q0 : Int} {r : ByteArray} (hres : sh165 q0 = some r) : Calls Go.Proofs.Try.prog 165 [.int .i64 q0].toArray w (Ret w (T165 r)) := by
  unfold sh165 at hres
  refine calls_of (n := 36) (M := []) (es := []) Go.Proofs.Try.func165 rfl rfl rfl (Sep.nil _ _ _) ?_
  refine JX.seq ?_
  refine JX.region ?_
  refine JL.val (yl_assign rfl) rfl ?_
  refine JL.nil ?_
  refine JE.code ?_
  refine JX.seq ?_
  refine JX.seq ?_
  refine JX.region ?_
  refine JL.val (yl_move rfl) rfl ?_
  refine JL.val (yl_eql rfl rfl) rfl ?_
  refine JL.nil ?_
  refine JE.code ?_
  rcases cond_some hres with ⟨hb, hres⟩ | ⟨hb, hres⟩
  · refine JX.condT rfl hb ?_
    refine JX.seq ?_
    refine JX.region ?_
    refine JL.val (yl_assign rfl) rfl ?_
    refine JL.nil ?_
    refine JE.code ?_
    refine JX.ret ?_
    obtain rfl := Option.some.inj hres
    refine JE.ret (rs := [.tmp 2]) (vs := [.string (ByteArray.mk #[48])]) rfl ⟨rfl, trivial⟩ ?_
    exact fun w' hb hs => ⟨_, _, ⟨rfl, rfl⟩, rfl, hb, hs.sel [] _ (by decide) rfl⟩
  · refine JX.condF rfl hb ?_
    refine JX.skip ?_
    refine JE.code ?_
    refine JX.seq ?_
    refine JX.region ?_
    refine JL.val (yl_build rfl (fun w => bld188_  w)) rfl ?_
    refine JL.eff (ef_alloc i188 i188z rfl) rfl ?_
    rintro _ _ ⟨g1, rfl, rfl⟩
    refine JL.boxrow eU8 0 (m := 20) (List.replicate 20 (0 : Int)) rfl rfl (Nat.le_of_ble_eq_true rfl) rfl ?_
    refine JL.eff (ef_storeArr (ix := 0) (ys := List.replicate 20 (0 : Int)) i188 rfl rfl rfl rfl (i188s.trans rfl) i188p rfl) rfl ?_
    rintro _ _ rfl
    refine JL.nil ?_
    refine JE.code ?_
    refine JX.seq ?_
    refine JX.region ?_
    refine JL.val (yl_assign rfl) rfl ?_
    refine JL.nil ?_
    refine JE.code ?_
    refine JX.seq ?_
    refine JX.region ?_
    refine JL.val (yl_move rfl) rfl ?_
    refine JL.val (yl_conv Go.Proofs.Try.underlying2 Go.Proofs.Try.underlying161 rfl) rfl ?_
    refine JL.val (yl_assign rfl) rfl ?_
    refine JL.nil ?_
    refine JE.code ?_
    refine JX.seq ?_
    refine JX.seq ?_
    refine JX.region ?_
    refine JL.val (yl_move rfl) rfl ?_
    refine JL.val (yl_lss rfl rfl) rfl ?_
    refine JL.nil ?_
    refine JE.code ?_
    obtain ⟨j3, hj3, hresj3⟩ := bind_some hres
    refine JX.cut (K := fun J => J [(0, .int .i64 q0), (3, ptrAt (some ⟨g1, 0, none⟩) 0), (4, .int .i64 20), (5, .int .u64 j3)] [rowT 188 eU8 (some ⟨g1, 0, none⟩) 20 20 (List.replicate 20 (0 : Int))]) ?_ ?_
    · have hres := hresj3
      refine JE.code ?_
      refine JX.seq ?_
      refine JX.block ?_
      obtain ⟨y1, hy1, hresO1⟩ := bind_some hres
      refine JX.loop (I := fun (s1 : Int × Int × List Int) aa ww => ∃ (l4 : s1.2.2.length = 20), St w [] 36 [(0, .int .i64 q0), (3, ptrAt (some ⟨g1, 0, none⟩) 0), (4, .int .i64 s1.1), (5, .int .u64 s1.2.1)] [rowT 188 eU8 (some ⟨g1, 0, none⟩) 20 20 s1.2.2] aa ww) (sh165_1) hy1 (fun a w h => ⟨(rfl : (List.replicate 20 (0 : Int)).length = 20), h.weak ⟨rfl, rfl, rfl, rfl, trivial⟩ [0] (by decide) rfl⟩) ?_
      rintro ⟨x5, x6, x7⟩ o1 hres hox1 aa ww ⟨l8, hS⟩
      refine (?_ : JX Go.Proofs.Try.prog w [] 36 _ _ [(0, .int .i64 q0), (3, ptrAt (some ⟨g1, 0, none⟩) 0), (4, .int .i64 x5), (5, .int .u64 x6)] [rowT 188 eU8 (some ⟨g1, 0, none⟩) 20 20 x7] _) aa ww hS
      clear hS
      simp only [sh165_1] at hres
      refine JX.seq ?_
      refine JX.seq ?_
      refine JX.region ?_
      refine JL.val (yl_move rfl) rfl ?_
      refine JL.val (yl_gtr rfl rfl) rfl ?_
      refine JL.nil ?_
      refine JE.code ?_
      rcases cond_some hres with ⟨hb, hres⟩ | ⟨hb, hres⟩
      · refine JX.condT rfl hb ?_
        refine JX.skip ?_
        refine JE.code ?_
        refine JX.block ?_
        refine JX.seq ?_
        refine JX.region ?_
        refine JL.val (yl_move rfl) rfl ?_
        refine JL.val (yl_sub rfl rfl) rfl ?_
        refine JL.val (yl_assign rfl) rfl ?_
        refine JL.nil ?_
        refine JE.code ?_
        refine JX.seq ?_
        refine JX.region ?_
        refine JL.val (yl_move rfl) rfl ?_
        refine JL.val (yl_move rfl) rfl ?_
        refine JL.val (yl_rem rfl rfl (by decide)) rfl ?_
        refine JL.val (yl_add rfl rfl) rfl ?_
        refine JL.val (yl_conv Go.Proofs.Try.underlying161 Go.Proofs.Try.underlying5 rfl) rfl ?_
        obtain ⟨x9, hx9, hres⟩ := bind_some hres
        refine JL.val (yl_idxArr (e := eU8) Go.Proofs.Try.underlying188 i5 i5s rfl rfl hx9 l8) rfl ?_
        refine JL.eff (ef_storeT (ix := 0) (u := IntKind.u8.wrap (IntKind.u64.wrap (48 + (x6.tmod 10)))) i5 i5s rfl rfl rfl hx9 rfl) rfl ?_
        rintro _ _ rfl
        refine JL.nil ?_
        refine JE.weak (env' := [(0, .int .i64 q0), (3, ptrAt (some ⟨g1, 0, none⟩) 0), (4, .int .i64 (w64 (x5 - 1))), (5, .int .u64 x6)]) (es' := [rowT 188 eU8 (some ⟨g1, 0, none⟩) 20 20 (x7.set (w64 (x5 - 1)).toNat (IntKind.u8.wrap (IntKind.u64.wrap (48 + (x6.tmod 10)))))]) [0] ?_ ⟨rfl, rfl, rfl, rfl, trivial⟩ (by decide) rfl
        refine JE.code ?_
        refine JX.region ?_
        refine JL.val (yl_move rfl) rfl ?_
        refine JL.val (yl_quo rfl rfl (by decide)) rfl ?_
        refine JL.val (yl_assign rfl) rfl ?_
        refine JL.nil ?_
        refine JE.cont hres ?_
        exact fun a w h => ⟨(List.length_set.trans l8), h.weak ⟨rfl, rfl, rfl, rfl, trivial⟩ [0] (by decide) rfl⟩
      · refine JX.condF rfl hb ?_
        refine JX.exit ?_
        refine JE.qb rfl ?_
        obtain ⟨b1, hb1⟩ : ∃ b : Int × List Int, b = (x5, x7) := ⟨_, rfl⟩
        have hy1 : b1 = y1 := by rw [hb1]; exact hox1 _ (Option.some.inj hres).symm
        have hres := hresO1
        rw [← hy1] at hres
        have l10 : b1.2.length = 20 := by subst hb1; exact l8
        refine JE.weak (env' := [(0, .int .i64 q0), (3, ptrAt (some ⟨g1, 0, none⟩) 0), (4, .int .i64 b1.1)]) (es' := [rowT 188 eU8 (some ⟨g1, 0, none⟩) 20 20 b1.2]) [0] ?_ ⟨(by subst hb1; rfl), (by subst hb1; rfl), (by subst hb1; rfl), trivial⟩ (by decide) (by subst hb1; rfl)
        refine JE.code ?_
        refine JX.seq ?_
        refine JX.seq ?_
        refine JX.region ?_
        refine JL.val (yl_move rfl) rfl ?_
        refine JL.val (yl_lss rfl rfl) rfl ?_
        refine JL.nil ?_
        refine JE.code ?_
        obtain ⟨j11, hj11, hresj11⟩ := bind_some hres
        refine JX.cut (K := fun J => ∀ (l12 : j11.2.length = 20), J [(3, ptrAt (some ⟨g1, 0, none⟩) 0), (4, .int .i64 j11.1)] [rowT 188 eU8 (some ⟨g1, 0, none⟩) 20 20 j11.2]) ?_ ?_
        · intro l12
          have hres := hresj11
          refine JE.code ?_
          refine JX.seq ?_
          refine JX.region ?_
          refine JL.val (yl_move rfl) rfl ?_
          obtain ⟨x13, hx13, hres⟩ := bind_some hres
          refine JL.val (yl_dropArr (e := eU8) Go.Proofs.Try.underlying188 i5 i5s rfl rfl hx13 l12) rfl ?_
          refine JL.val (yl_bytesT Go.Proofs.Try.underlying22 Go.Proofs.Try.underlying9 Go.Proofs.Try.underlying5 rfl (dropL_len hx13 l12) (fun w hC => Rd.dropT (rd_row hC 0 rfl) hx13 l12 (Nat.le_refl _))) rfl ?_
          refine JL.val (yl_assign rfl) rfl ?_
          refine JL.nil ?_
          refine JE.weak (env' := [(2, .string (bytesS x13))]) (es' := []) [] ?_ ⟨rfl, trivial⟩ (by decide) rfl
          refine JE.code ?_
          refine JX.ret ?_
          obtain rfl := Option.some.inj hres
          refine JE.ret (rs := [.tmp 2]) (vs := [.string (bytesS x13)]) rfl ⟨rfl, trivial⟩ ?_
          exact fun w' hb hs => ⟨_, _, ⟨rfl, rfl⟩, rfl, hb, hs.sel [] _ (by decide) rfl⟩
        · intro K
          rcases cond_some hj11 with ⟨hb, hres⟩ | ⟨hb, hres⟩
          · refine JX.condT rfl hb ?_
            refine JX.seq ?_
            refine JX.region ?_
            refine JL.val (yl_move rfl) rfl ?_
            refine JL.val (yl_sub rfl rfl) rfl ?_
            refine JL.val (yl_assign rfl) rfl ?_
            refine JL.nil ?_
            refine JE.code ?_
            refine JX.region ?_
            refine JL.val (yl_move rfl) rfl ?_
            obtain ⟨x15, hx15, hres⟩ := bind_some hres
            refine JL.val (yl_idxArr (e := eU8) Go.Proofs.Try.underlying188 i5 i5s rfl rfl hx15 l10) rfl ?_
            refine JL.eff (ef_storeT (ix := 0) (u := 45) i5 i5s rfl rfl rfl hx15 rfl) rfl ?_
            rintro _ _ rfl
            refine JL.nil ?_
            have hj := Option.some.inj hres
            exact JE.weak [0] (K (by subst hj; exact (List.length_set.trans l10))) ⟨(by subst hj; rfl), (by subst hj; rfl), trivial⟩ (by decide) (by subst hj; rfl)
          · refine JX.condF rfl hb ?_
            refine JX.skip ?_
            have hj := Option.some.inj hres
            exact JE.weak [0] (K (by subst hj; exact l10)) ⟨(by subst hj; rfl), (by subst hj; rfl), trivial⟩ (by decide) (by subst hj; rfl)
    · intro K
      rcases cond_some hj3 with ⟨hb, hres⟩ | ⟨hb, hres⟩
      · refine JX.condT rfl hb ?_
        refine JX.region ?_
        refine JL.val (yl_move rfl) rfl ?_
        refine JL.val (yl_neg rfl) rfl ?_
        refine JL.val (yl_assign rfl) rfl ?_
        refine JL.nil ?_
        have hj := Option.some.inj hres
        exact JE.weak [0] (K) ⟨(by subst hj; rfl), (by subst hj; rfl), (by subst hj; rfl), (by subst hj; rfl), trivial⟩ (by decide) (by subst hj; rfl)
      · refine JX.condF rfl hb ?_
        refine JX.skip ?_
        have hj := Option.some.inj hres
        exact JE.weak [0] (K) ⟨(by subst hj; rfl), (by subst hj; rfl), (by subst hj; rfl), (by subst hj; rfl), trivial⟩ (by decide) (by subst hj; rfl)

end Go.Sh
