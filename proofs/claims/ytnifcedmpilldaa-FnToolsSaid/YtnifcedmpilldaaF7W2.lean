/- Walks through functions that the law reaches, printed by program. -/
import Derived.Test.YtnifcedmpilldaaF7W1
set_option linter.unusedVariables false
set_option linter.unusedSimpArgs false
namespace Go.Sh
open Go Go.RowKit
/- impl.joined -/
def sh166_1 (q0 : List ByteArray) (q1 : ByteArray) : (ByteArray × Int) → Option ((ByteArray × Int) ⊕ (ByteArray))
  | (x1, x2) => bif decide (x2 < (q0.length : Int)) then (Option.bind (getI q0 x2) fun x3 => Option.bind (bif decide (0 < x2) then (Option.bind (catS x1 q1) fun x6 => some x6) else (some x1)) fun j4 => (Option.bind (catS j4 x3) fun x5 => some (.inl (x5, w64 (x2 + 1))))) else (some (.inr x1))
def sh166 (q0 : List ByteArray) (q1 : ByteArray) : Option (ByteArray) := Option.bind (iter (sh166_1 q0 q1) (ByteArray.mk #[], 0)) fun b1 => (some b1)
def T166 (r : ByteArray) (v : Value) (rs : List Own) : Prop := v = rets [.string r] ∧ rs = []
set_option maxRecDepth 100000 in
theorem c166 {w : World} {q0 : List ByteArray} {a_0 : Option Addr} {n_0 c_0 : Nat} (g_0 : Rd w a_0 (eStr.fl q0)) (l_0 : q0.length = n_0) (k_0 : n_0 ≤ c_0) {q1 : ByteArray} {r : ByteArray} (hres : sh166 q0 q1 = some r) : Calls Go.Proofs.Try.prog 166 [.slice a_0 n_0 c_0, .string q1].toArray w (Ret w (T166 r)) := by
  subst l_0
  unfold sh166 at hres
  refine calls_of (n := 25) (M := []) (es := []) Go.Proofs.Try.func166 rfl rfl rfl (Sep.nil _ _ _) ?_
  refine JX.seq ?_
  refine JX.region ?_
  refine JL.val (yl_assign rfl) rfl ?_
  refine JL.nil ?_
  refine JE.code ?_
  refine JX.seq ?_
  refine JX.region ?_
  refine JL.val (yl_assign rfl) rfl ?_
  refine JL.nil ?_
  refine JE.code ?_
  refine JX.seq ?_
  refine JX.seq ?_
  refine JX.region ?_
  refine JL.val (yl_move rfl) rfl ?_
  refine JL.val (yl_len_slice Go.Proofs.Try.underlying150 rfl) rfl ?_
  refine JL.val (yl_move rfl) rfl ?_
  refine JL.nil ?_
  refine JE.code ?_
  refine JX.block ?_
  obtain ⟨y1, hy1, hresO1⟩ := bind_some hres
  refine JX.loop (I := fun (s1 : ByteArray × Int) aa ww => St w [] 25 [(1, .string q1), (5, .string s1.1), (8, .slice a_0 q0.length c_0), (9, .int .i64 (q0.length : Int)), (10, .int .i64 s1.2)] [] aa ww) (sh166_1 q0 q1) hy1 (fun a w h => h.weak ⟨rfl, rfl, rfl, rfl, rfl, trivial⟩ [] (by decide) rfl) ?_
  rintro ⟨x1, x2⟩ o1 hres hox1 aa ww hS
  refine (?_ : JX Go.Proofs.Try.prog w [] 25 _ _ [(1, .string q1), (5, .string x1), (8, .slice a_0 q0.length c_0), (9, .int .i64 (q0.length : Int)), (10, .int .i64 x2)] [] _) aa ww hS
  clear hS
  simp only [sh166_1] at hres
  refine JX.seq ?_
  refine JX.region ?_
  refine JL.val (yl_lss rfl rfl) rfl ?_
  refine JL.nil ?_
  refine JE.code ?_
  refine JX.seq ?_
  rcases cond_some hres with ⟨hb, hres⟩ | ⟨hb, hres⟩
  · refine JX.condT rfl hb ?_
    refine JX.skip ?_
    refine JE.code ?_
    refine JX.seq ?_
    refine JX.block ?_
    refine JX.seq ?_
    refine JX.region ?_
    refine JL.val (yl_move rfl) rfl ?_
    obtain ⟨x3, hx3, hres⟩ := bind_some hres
    refine JL.val (yl_idxT Go.Proofs.Try.underlying150 i9 i9s rfl rfl hx3 rfl (fun w hC => rd_arg g_0 hC)) rfl ?_
    refine JL.val (yl_loadT0 Go.Proofs.Try.underlying9 rfl rfl hx3 (fun w hC => rd_arg g_0 hC) rfl) rfl ?_
    refine JL.val (yl_assign rfl) rfl ?_
    refine JL.val (yl_assign rfl) rfl ?_
    refine JL.nil ?_
    refine JE.weak (env' := [(1, .string q1), (5, .string x1), (6, .int .i64 x2), (7, .string x3), (8, .slice a_0 q0.length c_0), (9, .int .i64 (q0.length : Int)), (10, .int .i64 x2)]) (es' := []) [] ?_ ⟨rfl, rfl, rfl, rfl, rfl, rfl, rfl, trivial⟩ (by decide) rfl
    refine JE.code ?_
    refine JX.seq ?_
    refine JX.seq ?_
    refine JX.region ?_
    refine JL.val (yl_move rfl) rfl ?_
    refine JL.val (yl_gtr rfl rfl) rfl ?_
    refine JL.nil ?_
    refine JE.code ?_
    obtain ⟨j4, hj4, hresj4⟩ := bind_some hres
    refine JX.cut (K := fun J => J [(1, .string q1), (5, .string j4), (7, .string x3), (8, .slice a_0 q0.length c_0), (9, .int .i64 (q0.length : Int)), (10, .int .i64 x2)] []) ?_ ?_
    · have hres := hresj4
      refine JE.code ?_
      refine JX.region ?_
      refine JL.val (yl_move rfl) rfl ?_
      refine JL.val (yl_move rfl) rfl ?_
      obtain ⟨x5, hx5, hres⟩ := bind_some hres
      refine JL.val (yl_catS rfl rfl hx5) rfl ?_
      refine JL.val (yl_assign rfl) rfl ?_
      refine JL.nil ?_
      refine JE.weak (env' := [(1, .string q1), (5, .string x5), (8, .slice a_0 q0.length c_0), (9, .int .i64 (q0.length : Int)), (10, .int .i64 x2)]) (es' := []) [] ?_ ⟨rfl, rfl, rfl, rfl, rfl, trivial⟩ (by decide) rfl
      refine JE.code ?_
      refine JX.region ?_
      refine JL.val (yl_add rfl rfl) rfl ?_
      refine JL.val (yl_move rfl) rfl ?_
      refine JL.nil ?_
      refine JE.cont hres ?_
      exact fun a w h => h.weak ⟨rfl, rfl, rfl, rfl, rfl, trivial⟩ [] (by decide) rfl
    · intro K
      rcases cond_some hj4 with ⟨hb, hres⟩ | ⟨hb, hres⟩
      · refine JX.condT rfl hb ?_
        refine JX.region ?_
        refine JL.val (yl_move rfl) rfl ?_
        refine JL.val (yl_move rfl) rfl ?_
        obtain ⟨x6, hx6, hres⟩ := bind_some hres
        refine JL.val (yl_catS rfl rfl hx6) rfl ?_
        refine JL.val (yl_assign rfl) rfl ?_
        refine JL.nil ?_
        refine JE.weak (env' := [(1, .string q1), (5, .string x6), (7, .string x3), (8, .slice a_0 q0.length c_0), (9, .int .i64 (q0.length : Int)), (10, .int .i64 x2)]) (es' := []) [] ?_ ⟨rfl, rfl, rfl, rfl, rfl, rfl, trivial⟩ (by decide) rfl
        have hj := Option.some.inj hres
        exact JE.weak [] (K) ⟨(by subst hj; rfl), (by subst hj; rfl), (by subst hj; rfl), (by subst hj; rfl), (by subst hj; rfl), (by subst hj; rfl), trivial⟩ (by decide) (by subst hj; rfl)
      · refine JX.condF rfl hb ?_
        refine JX.skip ?_
        have hj := Option.some.inj hres
        exact JE.weak [] (K) ⟨(by subst hj; rfl), (by subst hj; rfl), (by subst hj; rfl), (by subst hj; rfl), (by subst hj; rfl), (by subst hj; rfl), trivial⟩ (by decide) (by subst hj; rfl)
  · refine JX.condF rfl hb ?_
    refine JX.exit ?_
    refine JE.qb rfl ?_
    obtain ⟨b1, hb1⟩ : ∃ b : ByteArray, b = x1 := ⟨_, rfl⟩
    have hy1 : b1 = y1 := by rw [hb1]; exact hox1 _ (Option.some.inj hres).symm
    have hres := hresO1
    rw [← hy1] at hres
    refine JE.weak (env' := [(5, .string b1)]) (es' := []) [] ?_ ⟨(by subst hb1; rfl), trivial⟩ (by decide) (by subst hb1; rfl)
    refine JE.code ?_
    refine JX.seq ?_
    refine JX.region ?_
    refine JL.val (yl_move rfl) rfl ?_
    refine JL.val (yl_assign rfl) rfl ?_
    refine JL.nil ?_
    refine JE.code ?_
    refine JX.ret ?_
    obtain rfl := Option.some.inj hres
    refine JE.ret (rs := [.tmp 4]) (vs := [.string b1]) rfl ⟨rfl, trivial⟩ ?_
    exact fun w' hb hs => ⟨_, _, ⟨rfl, rfl⟩, rfl, hb, hs.sel [] _ (by decide) rfl⟩

/- impl.decimals -/
def sh156_1 (q0 : List Int) : (Int × List ByteArray) → Option ((Int × List ByteArray) ⊕ (List ByteArray))
  | (x5, x6) => bif decide (x5 < (q0.length : Int)) then (Option.bind (getI q0 x5) fun x9 => Option.bind (sh165 x9) fun x10 => Option.bind (appL x6 [x10]) fun x13 => some (.inl (w64 (x5 + 1), x13))) else (some (.inr x6))
def sh156 (q0 : List Int) (q1 : ByteArray) : Option (ByteArray) := Option.bind (iter (sh156_1 q0) (0, ([] : List ByteArray))) fun b1 => (Option.bind (sh166 b1 q1) fun x18 => some x18)
def T156 (r : ByteArray) (v : Value) (rs : List Own) : Prop := v = rets [.string r] ∧ rs = []
set_option maxRecDepth 100000 in
theorem c156 {w : World} {q0 : List Int} {a_0 : Option Addr} {n_0 c_0 : Nat} (g_0 : Rd w a_0 (eI64.fl q0)) (l_0 : q0.length = n_0) (k_0 : n_0 ≤ c_0) {q1 : ByteArray} {r : ByteArray} (hres : sh156 q0 q1 = some r) : Calls Go.Proofs.Try.prog 156 [.slice a_0 n_0 c_0, .string q1].toArray w (Ret w (T156 r)) := by
  subst l_0
  unfold sh156 at hres
  refine calls_of (n := 24) (M := []) (es := []) Go.Proofs.Try.func156 rfl rfl rfl (Sep.nil _ _ _) ?_
  refine JX.seq ?_
  refine JX.region ?_
  refine JL.val (yl_assign rfl) rfl ?_
  refine JL.nil ?_
  refine JE.code ?_
  refine JX.seq ?_
  refine JX.region ?_
  refine JL.eff (ef_buildSlice (E := 9) (k := eStr.k) (us := eStr.fl ([] : List ByteArray)) rfl (fun w => bsl150_0  w) rfl (by decide)) rfl ?_
  rintro _ _ ⟨a1, rfl, rfl⟩
  refine JL.val (yl_assign rfl) rfl ?_
  refine JL.nil ?_
  refine JE.code ?_
  refine JX.seq ?_
  refine JX.seq ?_
  refine JX.region ?_
  refine JL.val (yl_move rfl) rfl ?_
  refine JL.val (yl_len_slice Go.Proofs.Try.underlying24 rfl) rfl ?_
  refine JL.val (yl_move rfl) rfl ?_
  refine JL.nil ?_
  refine JE.code ?_
  refine JX.block ?_
  obtain ⟨y1, hy1, hresO1⟩ := bind_some hres
  refine JX.loop (I := fun (s1 : Int × List ByteArray) aa ww => ∃ (a3 : Option Addr) (cp4 : Nat), St w [] 24 [(1, .string q1), (5, .slice a3 s1.2.length cp4), (9, .slice a_0 q0.length c_0), (10, .int .i64 (q0.length : Int)), (11, .int .i64 s1.1)] [rowT 9 eStr a3 s1.2.length cp4 s1.2] aa ww) (sh156_1 q0) hy1 (fun a w h => ⟨a1, 0, h.weak ⟨rfl, rfl, rfl, rfl, rfl, trivial⟩ [0] (by decide) rfl⟩) ?_
  rintro ⟨x5, x6⟩ o1 hres hox1 aa ww ⟨a7, cp8, hS⟩
  refine (?_ : JX Go.Proofs.Try.prog w [] 24 _ _ [(1, .string q1), (5, .slice a7 x6.length cp8), (9, .slice a_0 q0.length c_0), (10, .int .i64 (q0.length : Int)), (11, .int .i64 x5)] [rowT 9 eStr a7 x6.length cp8 x6] _) aa ww hS
  clear hS
  simp only [sh156_1] at hres
  refine JX.seq ?_
  refine JX.region ?_
  refine JL.val (yl_lss rfl rfl) rfl ?_
  refine JL.nil ?_
  refine JE.code ?_
  refine JX.seq ?_
  rcases cond_some hres with ⟨hb, hres⟩ | ⟨hb, hres⟩
  · refine JX.condT rfl hb ?_
    refine JX.skip ?_
    refine JE.code ?_
    refine JX.seq ?_
    refine JX.block ?_
    refine JX.seq ?_
    refine JX.region ?_
    obtain ⟨x9, hx9, hres⟩ := bind_some hres
    refine JL.val (yl_idxT Go.Proofs.Try.underlying24 i2 i2s rfl rfl hx9 rfl (fun w hC => rd_arg g_0 hC)) rfl ?_
    refine JL.val (yl_loadT0 Go.Proofs.Try.underlying2 rfl rfl hx9 (fun w hC => rd_arg g_0 hC) rfl) rfl ?_
    refine JL.val (yl_assign rfl) rfl ?_
    refine JL.nil ?_
    refine JE.code ?_
    refine JX.region ?_
    refine JL.val (yl_move rfl) rfl ?_
    refine JL.val (yl_move rfl) rfl ?_
    obtain ⟨x10, hx10, hres⟩ := bind_some hres
    refine JL.eff (ef_call (T := T165 x10) Go.Proofs.Try.func165 rfl (by kernel_rfl) rfl (fun w hC => c165  hx10)) rfl ?_
    rintro _ _ ⟨_, ⟨rfl, rfl⟩, rfl⟩
    refine JL.eff (ef_buildSlice (E := 9) (k := eStr.k) (us := eStr.fl [x10]) rfl (fun w => bsl150_1 x10 w) rfl (by decide)) rfl ?_
    rintro _ _ ⟨a11, rfl, rfl⟩
    obtain ⟨x13, hx13, hres⟩ := bind_some hres
    refine JL.eff (ef_appendT (ix := 0) Go.Proofs.Try.underlying150 i9 i9z i9s rfl i9b0 i9b1 rfl rfl rfl rfl rfl (fun w hC => rd_row hC 1 rfl) hx13) rfl ?_
    rintro _ _ ⟨a14, cp15, rfl, rfl⟩
    refine JL.val (yl_assign rfl) rfl ?_
    refine JL.nil ?_
    refine JE.weak (env' := [(1, .string q1), (5, .slice a14 x13.length cp15), (9, .slice a_0 q0.length c_0), (10, .int .i64 (q0.length : Int)), (11, .int .i64 x5)]) (es' := [rowT 9 eStr a14 x13.length cp15 x13]) [0] ?_ ⟨rfl, rfl, rfl, rfl, rfl, trivial⟩ (by decide) rfl
    refine JE.code ?_
    refine JX.region ?_
    refine JL.val (yl_add rfl rfl) rfl ?_
    refine JL.val (yl_move rfl) rfl ?_
    refine JL.nil ?_
    refine JE.cont hres ?_
    exact fun a w h => ⟨a14, cp15, h.weak ⟨rfl, rfl, rfl, rfl, rfl, trivial⟩ [0] (by decide) rfl⟩
  · refine JX.condF rfl hb ?_
    refine JX.exit ?_
    refine JE.qb rfl ?_
    obtain ⟨b1, hb1⟩ : ∃ b : List ByteArray, b = x6 := ⟨_, rfl⟩
    have hy1 : b1 = y1 := by rw [hb1]; exact hox1 _ (Option.some.inj hres).symm
    have hres := hresO1
    rw [← hy1] at hres
    refine JE.weak (env' := [(1, .string q1), (5, .slice a7 b1.length cp8)]) (es' := [rowT 9 eStr a7 b1.length cp8 b1]) [0] ?_ ⟨(by subst hb1; rfl), (by subst hb1; rfl), trivial⟩ (by decide) (by subst hb1; rfl)
    refine JE.code ?_
    refine JX.seq ?_
    refine JX.region ?_
    refine JL.val (yl_move rfl) rfl ?_
    refine JL.val (yl_move rfl) rfl ?_
    obtain ⟨x18, hx18, hres⟩ := bind_some hres
    refine JL.eff (ef_call (T := T166 x18) Go.Proofs.Try.func166 rfl (by kernel_rfl) rfl (fun w hC => c166 (rd_row hC 0 rfl) rfl (ln_row hC 0 rfl) hx18)) rfl ?_
    rintro _ _ ⟨_, ⟨rfl, rfl⟩, rfl⟩
    refine JL.val (yl_assign rfl) rfl ?_
    refine JL.nil ?_
    refine JE.weak (env' := [(4, .string x18)]) (es' := []) [] ?_ ⟨rfl, trivial⟩ (by decide) rfl
    refine JE.code ?_
    refine JX.ret ?_
    obtain rfl := Option.some.inj hres
    refine JE.ret (rs := [.tmp 4]) (vs := [.string x18]) rfl ⟨rfl, trivial⟩ ?_
    exact fun w' hb hs => ⟨_, _, ⟨rfl, rfl⟩, rfl, hb, hs.sel [] _ (by decide) rfl⟩

/- impl.ToolText -/
def sh73_1 (q0 : List SToolMove) : (ByteArray × Int) → Option ((ByteArray × Int) ⊕ (ByteArray))
  | (x2, x3) => bif decide (x3 < (q0.length : Int)) then (Option.bind (getI q0 x3) fun x4 => Option.bind (sh156 [x4.X, x4.Y, x4.Z] (ByteArray.mk #[32])) fun x9 => Option.bind (catS x9 (ByteArray.mk #[10])) fun x10 => Option.bind (catS x2 x10) fun x11 => some (.inl (x11, w64 (x3 + 1)))) else (some (.inr x2))
def sh73 (q0 : List SToolMove) : Option (ByteArray) := Option.bind (sh151 q0) fun x1 => bif !x1 then (some (ByteArray.mk #[])) else (Option.bind (iter (sh73_1 q0) (ByteArray.mk #[], 0)) fun b1 => (some b1))
def T73 (r : ByteArray) (v : Value) (rs : List Own) : Prop := v = rets [.string r] ∧ rs = []
set_option maxRecDepth 100000 in
theorem c73 {w : World} {q0 : List SToolMove} {a_0 : Option Addr} {n_0 c_0 : Nat} (g_0 : Rd w a_0 (eSToolMove.fl q0)) (l_0 : q0.length = n_0) (k_0 : n_0 ≤ c_0) {r : ByteArray} (hres : sh73 q0 = some r) : Calls Go.Proofs.Try.prog 73 [.slice a_0 n_0 c_0].toArray w (Ret w (T73 r)) := by
  subst l_0
  unfold sh73 at hres
  refine calls_of (n := 28) (M := []) (es := []) Go.Proofs.Try.func73 rfl rfl rfl (Sep.nil _ _ _) ?_
  refine JX.seq ?_
  refine JX.region ?_
  refine JL.val (yl_assign rfl) rfl ?_
  refine JL.nil ?_
  refine JE.code ?_
  refine JX.seq ?_
  refine JX.seq ?_
  refine JX.region ?_
  refine JL.val (yl_move rfl) rfl ?_
  obtain ⟨x1, hx1, hres⟩ := bind_some hres
  refine JL.eff (ef_call (T := T151 x1) Go.Proofs.Try.func151 rfl (by kernel_rfl) rfl (fun w hC => c151 (rd_arg g_0 hC) rfl k_0 hx1)) rfl ?_
  rintro _ _ ⟨_, ⟨rfl, rfl⟩, rfl⟩
  refine JL.val (yl_not rfl) rfl ?_
  refine JL.nil ?_
  refine JE.code ?_
  rcases cond_some hres with ⟨hb, hres⟩ | ⟨hb, hres⟩
  · refine JX.condT rfl hb ?_
    refine JX.seq ?_
    refine JX.region ?_
    refine JL.val (yl_assign rfl) rfl ?_
    refine JL.nil ?_
    refine JE.code ?_
    refine JX.ret ?_
    obtain rfl := Option.some.inj hres
    refine JE.ret (rs := [.tmp 2]) (vs := [.string (ByteArray.mk #[])]) rfl ⟨rfl, trivial⟩ ?_
    exact fun w' hb hs => ⟨_, _, ⟨rfl, rfl⟩, rfl, hb, hs.sel [] _ (by decide) rfl⟩
  · refine JX.condF rfl hb ?_
    refine JX.skip ?_
    refine JE.code ?_
    refine JX.seq ?_
    refine JX.region ?_
    refine JL.val (yl_assign rfl) rfl ?_
    refine JL.nil ?_
    refine JE.code ?_
    refine JX.seq ?_
    refine JX.seq ?_
    refine JX.region ?_
    refine JL.val (yl_move rfl) rfl ?_
    refine JL.val (yl_len_slice Go.Proofs.Try.underlying65 rfl) rfl ?_
    refine JL.val (yl_move rfl) rfl ?_
    refine JL.nil ?_
    refine JE.code ?_
    refine JX.block ?_
    obtain ⟨y1, hy1, hresO1⟩ := bind_some hres
    refine JX.loop (I := fun (s1 : ByteArray × Int) aa ww => St w [] 28 [(3, .string s1.1), (9, .slice a_0 q0.length c_0), (10, .int .i64 (q0.length : Int)), (11, .int .i64 s1.2)] [] aa ww) (sh73_1 q0) hy1 (fun a w h => h.weak ⟨rfl, rfl, rfl, rfl, trivial⟩ [] (by decide) rfl) ?_
    rintro ⟨x2, x3⟩ o1 hres hox1 aa ww hS
    refine (?_ : JX Go.Proofs.Try.prog w [] 28 _ _ [(3, .string x2), (9, .slice a_0 q0.length c_0), (10, .int .i64 (q0.length : Int)), (11, .int .i64 x3)] [] _) aa ww hS
    clear hS
    simp only [sh73_1] at hres
    refine JX.seq ?_
    refine JX.region ?_
    refine JL.val (yl_lss rfl rfl) rfl ?_
    refine JL.nil ?_
    refine JE.code ?_
    refine JX.seq ?_
    rcases cond_some hres with ⟨hb, hres⟩ | ⟨hb, hres⟩
    · refine JX.condT rfl hb ?_
      refine JX.skip ?_
      refine JE.code ?_
      refine JX.seq ?_
      refine JX.block ?_
      refine JX.seq ?_
      refine JX.region ?_
      obtain ⟨x4, hx4, hres⟩ := bind_some hres
      refine JL.val (yl_idxT Go.Proofs.Try.underlying65 i88 i88s rfl rfl hx4 rfl (fun w hC => rd_arg g_0 hC)) rfl ?_
      refine JL.val (yl_loadTn Go.Proofs.Try.underlying88 rfl i88 i88s rfl hx4 (fun w hC => rd_arg g_0 hC)) rfl ?_
      refine JL.eff (ef_alloc i88 i88z rfl) rfl ?_
      rintro _ _ ⟨g5, rfl, rfl⟩
      refine JL.eff (ef_store_box (i := 0) (v := .agg #[.int .i64 x4.X, .int .i64 x4.Y, .int .i64 x4.Z]) i88 rfl rfl rfl (i88s).symm (Nat.le_of_ble_eq_true rfl) (by simp [Value.cells, Value.oneCell'])) rfl ?_
      rintro _ _ rfl
      refine JL.nil ?_
      refine JE.weak (env' := [(3, .string x2), (5, ptrAt (some ⟨g5, 0, none⟩) 0), (9, .slice a_0 q0.length c_0), (10, .int .i64 (q0.length : Int)), (11, .int .i64 x3)]) (es' := [boxO 88 g5 [.int .i64 x4.X, .int .i64 x4.Y, .int .i64 x4.Z]]) [0] ?_ ⟨rfl, rfl, rfl, rfl, rfl, trivial⟩ (by decide) rfl
      refine JE.code ?_
      refine JX.region ?_
      refine JL.val (yl_move rfl) rfl ?_
      refine JL.val (yl_fieldAt (a := some _) Go.Proofs.Try.underlying88 rfl i2 i2n rfl rfl) rfl ?_
      refine JL.val (yl_load1 Go.Proofs.Try.underlying2 rfl rfl (fun w hC => rd_box hC 0 rfl) rfl) rfl ?_
      refine JL.val (yl_fieldAt (a := some _) Go.Proofs.Try.underlying88 rfl i2 i2n rfl rfl) rfl ?_
      refine JL.val (yl_load1 Go.Proofs.Try.underlying2 rfl rfl (fun w hC => rd_box hC 0 rfl) rfl) rfl ?_
      refine JL.val (yl_fieldAt (a := some _) Go.Proofs.Try.underlying88 rfl i2 i2n rfl rfl) rfl ?_
      refine JL.val (yl_load1 Go.Proofs.Try.underlying2 rfl rfl (fun w hC => rd_box hC 0 rfl) rfl) rfl ?_
      refine JL.eff (ef_buildSlice (E := 2) (k := eI64.k) (us := eI64.fl [x4.X, x4.Y, x4.Z]) rfl (fun w => bsl24_3 x4.X x4.Y x4.Z w) rfl (by decide)) rfl ?_
      rintro _ _ ⟨a7, rfl, rfl⟩
      obtain ⟨x9, hx9, hres⟩ := bind_some hres
      refine JL.eff (ef_call (T := T156 x9) Go.Proofs.Try.func156 rfl (by kernel_rfl) rfl (fun w hC => c156 (rd_row hC 1 rfl) rfl (Nat.le_refl _) hx9)) rfl ?_
      rintro _ _ ⟨_, ⟨rfl, rfl⟩, rfl⟩
      obtain ⟨x10, hx10, hres⟩ := bind_some hres
      refine JL.val (yl_catS rfl rfl hx10) rfl ?_
      obtain ⟨x11, hx11, hres⟩ := bind_some hres
      refine JL.val (yl_catS rfl rfl hx11) rfl ?_
      refine JL.val (yl_assign rfl) rfl ?_
      refine JL.nil ?_
      refine JE.weak (env' := [(3, .string x11), (9, .slice a_0 q0.length c_0), (10, .int .i64 (q0.length : Int)), (11, .int .i64 x3)]) (es' := []) [] ?_ ⟨rfl, rfl, rfl, rfl, trivial⟩ (by decide) rfl
      refine JE.code ?_
      refine JX.region ?_
      refine JL.val (yl_add rfl rfl) rfl ?_
      refine JL.val (yl_move rfl) rfl ?_
      refine JL.nil ?_
      refine JE.cont hres ?_
      exact fun a w h => h.weak ⟨rfl, rfl, rfl, rfl, trivial⟩ [] (by decide) rfl
    · refine JX.condF rfl hb ?_
      refine JX.exit ?_
      refine JE.qb rfl ?_
      obtain ⟨b1, hb1⟩ : ∃ b : ByteArray, b = x2 := ⟨_, rfl⟩
      have hy1 : b1 = y1 := by rw [hb1]; exact hox1 _ (Option.some.inj hres).symm
      have hres := hresO1
      rw [← hy1] at hres
      refine JE.weak (env' := [(3, .string b1)]) (es' := []) [] ?_ ⟨(by subst hb1; rfl), trivial⟩ (by decide) (by subst hb1; rfl)
      refine JE.code ?_
      refine JX.seq ?_
      refine JX.region ?_
      refine JL.val (yl_move rfl) rfl ?_
      refine JL.val (yl_assign rfl) rfl ?_
      refine JL.nil ?_
      refine JE.code ?_
      refine JX.ret ?_
      obtain rfl := Option.some.inj hres
      refine JE.ret (rs := [.tmp 2]) (vs := [.string b1]) rfl ⟨rfl, trivial⟩ ?_
      exact fun w' hb hs => ⟨_, _, ⟨rfl, rfl⟩, rfl, hb, hs.sel [] _ (by decide) rfl⟩

/- impl.splitAt -/
def sh158_1 (q0 : ByteArray) (q1 : Int) : (Int × Int × List ByteArray) → Option ((Int × Int × List ByteArray) ⊕ (Int × List ByteArray))
  | (x5, x6, x7) => bif decide (x6 < (q0.size : Int)) then (Option.bind (getS q0 x6) fun x10 => Option.bind (bif x10 == q1 then (Option.bind (subS q0 x5 x6) fun x14 => Option.bind (appL x7 [x14]) fun x17 => some (w64 (x6 + 1), x17)) else (some (x5, x7))) fun j11 => (some (.inl (j11.1, w64 (x6 + 1), j11.2)))) else (some (.inr (x5, x7)))
def sh158 (q0 : ByteArray) (q1 : Int) : Option (List ByteArray) := Option.bind (iter (sh158_1 q0 q1) (0, 0, ([] : List ByteArray))) fun b1 => (Option.bind (subS q0 b1.1 (q0.size : Int)) fun x22 => Option.bind (appL b1.2 [x22]) fun x25 => some x25)
def T158 (r : List ByteArray) (v : Value) (rs : List Own) : Prop := ∃ (a0 : Option Addr) (n0 c0 : Nat), r.length = n0 ∧ v = rets [.slice a0 n0 c0] ∧ rs = [rowT 9 eStr a0 n0 c0 r]
set_option maxRecDepth 100000 in
theorem c158 {w : World} {q0 : ByteArray} {q1 : Int} {r : List ByteArray} (hres : sh158 q0 q1 = some r) : Calls Go.Proofs.Try.prog 158 [.string q0, .int .u8 q1].toArray w (Ret w (T158 r)) := by
  unfold sh158 at hres
  refine calls_of (n := 35) (M := []) (es := []) Go.Proofs.Try.func158 rfl rfl rfl (Sep.nil _ _ _) ?_
  refine JX.seq ?_
  refine JX.region ?_
  refine JL.val (yl_assign rfl) rfl ?_
  refine JL.nil ?_
  refine JE.code ?_
  refine JX.seq ?_
  refine JX.region ?_
  refine JL.eff (ef_buildSlice (E := 9) (k := eStr.k) (us := eStr.fl ([] : List ByteArray)) rfl (fun w => bsl150_0  w) rfl (by decide)) rfl ?_
  rintro _ _ ⟨a1, rfl, rfl⟩
  refine JL.val (yl_assign rfl) rfl ?_
  refine JL.nil ?_
  refine JE.code ?_
  refine JX.seq ?_
  refine JX.region ?_
  refine JL.val (yl_assign rfl) rfl ?_
  refine JL.nil ?_
  refine JE.code ?_
  refine JX.seq ?_
  refine JX.seq ?_
  refine JX.region ?_
  refine JL.val (yl_move rfl) rfl ?_
  refine JL.val (yl_len_string Go.Proofs.Try.underlying9 rfl) rfl ?_
  refine JL.val (yl_move rfl) rfl ?_
  refine JL.nil ?_
  refine JE.code ?_
  refine JX.block ?_
  obtain ⟨y1, hy1, hresO1⟩ := bind_some hres
  refine JX.loop (I := fun (s1 : Int × Int × List ByteArray) aa ww => ∃ (a3 : Option Addr) (cp4 : Nat), St w [] 35 [(0, .string q0), (1, .int .u8 q1), (5, .slice a3 s1.2.2.length cp4), (6, .int .i64 s1.1), (10, .int .i64 (q0.size : Int)), (11, .int .i64 s1.2.1)] [rowT 9 eStr a3 s1.2.2.length cp4 s1.2.2] aa ww) (sh158_1 q0 q1) hy1 (fun a w h => ⟨a1, 0, h.weak ⟨rfl, rfl, rfl, rfl, rfl, rfl, trivial⟩ [0] (by decide) rfl⟩) ?_
  rintro ⟨x5, x6, x7⟩ o1 hres hox1 aa ww ⟨a8, cp9, hS⟩
  refine (?_ : JX Go.Proofs.Try.prog w [] 35 _ _ [(0, .string q0), (1, .int .u8 q1), (5, .slice a8 x7.length cp9), (6, .int .i64 x5), (10, .int .i64 (q0.size : Int)), (11, .int .i64 x6)] [rowT 9 eStr a8 x7.length cp9 x7] _) aa ww hS
  clear hS
  simp only [sh158_1] at hres
  refine JX.seq ?_
  refine JX.region ?_
  refine JL.val (yl_lss rfl rfl) rfl ?_
  refine JL.nil ?_
  refine JE.code ?_
  refine JX.seq ?_
  rcases cond_some hres with ⟨hb, hres⟩ | ⟨hb, hres⟩
  · refine JX.condT rfl hb ?_
    refine JX.skip ?_
    refine JE.code ?_
    refine JX.seq ?_
    refine JX.block ?_
    refine JX.seq ?_
    refine JX.region ?_
    refine JL.val (yl_move rfl) rfl ?_
    refine JL.val (yl_assign rfl) rfl ?_
    refine JL.nil ?_
    refine JE.code ?_
    refine JX.seq ?_
    refine JX.region ?_
    refine JL.val (yl_move rfl) rfl ?_
    refine JL.val (yl_move rfl) rfl ?_
    obtain ⟨x10, hx10, hres⟩ := bind_some hres
    refine JL.val (yl_getS Go.Proofs.Try.underlying9 rfl rfl hx10) rfl ?_
    refine JL.val (yl_move rfl) rfl ?_
    refine JL.val (yl_eql rfl rfl) rfl ?_
    refine JL.nil ?_
    refine JE.weak (env' := [(0, .string q0), (1, .int .u8 q1), (5, .slice a8 x7.length cp9), (6, .int .i64 x5), (7, .int .i64 x6), (10, .int .i64 (q0.size : Int)), (11, .int .i64 x6), (18, .bool (x10 == q1))]) (es' := [rowT 9 eStr a8 x7.length cp9 x7]) [0] ?_ ⟨rfl, rfl, rfl, rfl, rfl, rfl, rfl, rfl, trivial⟩ (by decide) rfl
    refine JE.code ?_
    obtain ⟨j11, hj11, hresj11⟩ := bind_some hres
    refine JX.cut (K := fun J => ∀ (a12 : Option Addr) (cp13 : Nat), J [(0, .string q0), (1, .int .u8 q1), (5, .slice a12 j11.2.length cp13), (6, .int .i64 j11.1), (10, .int .i64 (q0.size : Int)), (11, .int .i64 x6)] [rowT 9 eStr a12 j11.2.length cp13 j11.2]) ?_ ?_
    · intro a12 cp13
      have hres := hresj11
      refine JE.code ?_
      refine JX.region ?_
      refine JL.val (yl_add rfl rfl) rfl ?_
      refine JL.val (yl_move rfl) rfl ?_
      refine JL.nil ?_
      refine JE.cont hres ?_
      exact fun a w h => ⟨a12, cp13, h.weak ⟨rfl, rfl, rfl, rfl, rfl, rfl, trivial⟩ [0] (by decide) rfl⟩
    · intro K
      rcases cond_some hj11 with ⟨hb, hres⟩ | ⟨hb, hres⟩
      · refine JX.condT rfl hb ?_
        refine JX.seq ?_
        refine JX.region ?_
        refine JL.val (yl_move rfl) rfl ?_
        refine JL.val (yl_move rfl) rfl ?_
        refine JL.val (yl_move rfl) rfl ?_
        refine JL.val (yl_move rfl) rfl ?_
        obtain ⟨x14, hx14, hres⟩ := bind_some hres
        refine JL.val (yl_subSlh Go.Proofs.Try.underlying9 rfl rfl rfl hx14) rfl ?_
        refine JL.eff (ef_buildSlice (E := 9) (k := eStr.k) (us := eStr.fl [x14]) rfl (fun w => bsl150_1 x14 w) rfl (by decide)) rfl ?_
        rintro _ _ ⟨a15, rfl, rfl⟩
        obtain ⟨x17, hx17, hres⟩ := bind_some hres
        refine JL.eff (ef_appendT (ix := 0) Go.Proofs.Try.underlying150 i9 i9z i9s rfl i9b0 i9b1 rfl rfl rfl rfl rfl (fun w hC => rd_row hC 1 rfl) hx17) rfl ?_
        rintro _ _ ⟨a18, cp19, rfl, rfl⟩
        refine JL.val (yl_assign rfl) rfl ?_
        refine JL.nil ?_
        refine JE.weak (env' := [(0, .string q0), (1, .int .u8 q1), (5, .slice a18 x17.length cp19), (7, .int .i64 x6), (10, .int .i64 (q0.size : Int)), (11, .int .i64 x6)]) (es' := [rowT 9 eStr a18 x17.length cp19 x17]) [0] ?_ ⟨rfl, rfl, rfl, rfl, rfl, rfl, trivial⟩ (by decide) rfl
        refine JE.code ?_
        refine JX.region ?_
        refine JL.val (yl_move rfl) rfl ?_
        refine JL.val (yl_add rfl rfl) rfl ?_
        refine JL.val (yl_assign rfl) rfl ?_
        refine JL.nil ?_
        have hj := Option.some.inj hres
        exact JE.weak [0] (K a18 cp19) ⟨(by subst hj; rfl), (by subst hj; rfl), (by subst hj; rfl), (by subst hj; rfl), (by subst hj; rfl), (by subst hj; rfl), trivial⟩ (by decide) (by subst hj; rfl)
      · refine JX.condF rfl hb ?_
        refine JX.skip ?_
        have hj := Option.some.inj hres
        exact JE.weak [0] (K a8 cp9) ⟨(by subst hj; rfl), (by subst hj; rfl), (by subst hj; rfl), (by subst hj; rfl), (by subst hj; rfl), (by subst hj; rfl), trivial⟩ (by decide) (by subst hj; rfl)
  · refine JX.condF rfl hb ?_
    refine JX.exit ?_
    refine JE.qb rfl ?_
    obtain ⟨b1, hb1⟩ : ∃ b : Int × List ByteArray, b = (x5, x7) := ⟨_, rfl⟩
    have hy1 : b1 = y1 := by rw [hb1]; exact hox1 _ (Option.some.inj hres).symm
    have hres := hresO1
    rw [← hy1] at hres
    refine JE.weak (env' := [(0, .string q0), (5, .slice a8 b1.2.length cp9), (6, .int .i64 b1.1)]) (es' := [rowT 9 eStr a8 b1.2.length cp9 b1.2]) [0] ?_ ⟨(by subst hb1; rfl), (by subst hb1; rfl), (by subst hb1; rfl), trivial⟩ (by decide) (by subst hb1; rfl)
    refine JE.code ?_
    refine JX.seq ?_
    refine JX.region ?_
    refine JL.val (yl_move rfl) rfl ?_
    refine JL.val (yl_move rfl) rfl ?_
    refine JL.val (yl_move rfl) rfl ?_
    obtain ⟨x22, hx22, hres⟩ := bind_some hres
    refine JL.val (yl_subSl Go.Proofs.Try.underlying9 rfl rfl hx22) rfl ?_
    refine JL.eff (ef_buildSlice (E := 9) (k := eStr.k) (us := eStr.fl [x22]) rfl (fun w => bsl150_1 x22 w) rfl (by decide)) rfl ?_
    rintro _ _ ⟨a23, rfl, rfl⟩
    obtain ⟨x25, hx25, hres⟩ := bind_some hres
    refine JL.eff (ef_appendT (ix := 0) Go.Proofs.Try.underlying150 i9 i9z i9s rfl i9b0 i9b1 rfl rfl rfl rfl rfl (fun w hC => rd_row hC 1 rfl) hx25) rfl ?_
    rintro _ _ ⟨a26, cp27, rfl, rfl⟩
    refine JL.val (yl_assign rfl) rfl ?_
    refine JL.nil ?_
    refine JE.weak (env' := [(4, .slice a26 x25.length cp27)]) (es' := [rowT 9 eStr a26 x25.length cp27 x25]) [0] ?_ ⟨rfl, trivial⟩ (by decide) rfl
    refine JE.code ?_
    refine JX.ret ?_
    obtain rfl := Option.some.inj hres
    refine JE.ret (rs := [.tmp 4]) (vs := [.slice a26 x25.length cp27]) rfl ⟨rfl, trivial⟩ ?_
    exact fun w' hb hs => ⟨_, _, ⟨a26, x25.length, cp27, rfl, rfl, rfl⟩, rfl, hb, hs.sel [0] _ (by decide) rfl⟩

/- impl.linesIn -/
def sh157 (q0 : ByteArray) : Option (List ByteArray × Bool) := bif q0.toList == (ByteArray.mk #[]).toList then (some (([] : List ByteArray), true)) else (Option.bind (getS q0 (w64 ((q0.size : Int) - 1))) fun x2 => bif x2 != 10 then (some (([] : List ByteArray), false)) else (Option.bind (subS q0 0 (w64 ((q0.size : Int) - 1))) fun x4 => Option.bind (sh158 x4 10) fun x5 => some (x5, true)))
def T157 (r : List ByteArray × Bool) (v : Value) (rs : List Own) : Prop := ∃ (a0 : Option Addr) (n0 c0 : Nat), r.1.length = n0 ∧ v = rets [.slice a0 n0 c0, .bool r.2] ∧ rs = [rowT 9 eStr a0 n0 c0 r.1]
set_option maxRecDepth 100000 in
theorem c157 {w : World} {q0 : ByteArray} {r : List ByteArray × Bool} (hres : sh157 q0 = some r) : Calls Go.Proofs.Try.prog 157 [.string q0].toArray w (Ret w (T157 r)) := by
  unfold sh157 at hres
  refine calls_of (n := 18) (M := []) (es := []) Go.Proofs.Try.func157 rfl rfl rfl (Sep.nil _ _ _) ?_
  refine JX.seq ?_
  refine JX.region ?_
  refine JL.val (yl_assign rfl) rfl ?_
  refine JL.val (yl_assign rfl) rfl ?_
  refine JL.nil ?_
  refine JE.code ?_
  refine JX.seq ?_
  refine JX.seq ?_
  refine JX.region ?_
  refine JL.val (yl_move rfl) rfl ?_
  refine JL.val (yl_seql rfl rfl) rfl ?_
  refine JL.nil ?_
  refine JE.code ?_
  rcases cond_some hres with ⟨hb, hres⟩ | ⟨hb, hres⟩
  · refine JX.condT rfl hb ?_
    refine JX.seq ?_
    refine JX.region ?_
    refine JL.val (yl_assign rfl) rfl ?_
    refine JL.val (yl_assign rfl) rfl ?_
    refine JL.nil ?_
    refine JE.code ?_
    refine JX.ret ?_
    refine JE.nilrow 9 eStr ?_
    obtain rfl := Option.some.inj hres
    refine JE.ret (rs := [.tmp 2, .tmp 3]) (vs := [.slice none 0 0, .bool true]) rfl ⟨rfl, rfl, trivial⟩ ?_
    exact fun w' hb hs => ⟨_, _, ⟨none, 0, 0, rfl, rfl, rfl⟩, rfl, hb, hs.sel [0] _ (by decide) rfl⟩
  · refine JX.condF rfl hb ?_
    refine JX.skip ?_
    refine JE.code ?_
    refine JX.seq ?_
    refine JX.seq ?_
    refine JX.region ?_
    refine JL.val (yl_move rfl) rfl ?_
    refine JL.val (yl_move rfl) rfl ?_
    refine JL.val (yl_len_string Go.Proofs.Try.underlying9 rfl) rfl ?_
    refine JL.val (yl_sub rfl rfl) rfl ?_
    obtain ⟨x2, hx2, hres⟩ := bind_some hres
    refine JL.val (yl_getS Go.Proofs.Try.underlying9 rfl rfl hx2) rfl ?_
    refine JL.val (yl_neq rfl rfl) rfl ?_
    refine JL.nil ?_
    refine JE.weak (env' := [(0, .string q0), (11, .bool (x2 != 10))]) (es' := []) [] ?_ ⟨rfl, rfl, trivial⟩ (by decide) rfl
    refine JE.code ?_
    rcases cond_some hres with ⟨hb, hres⟩ | ⟨hb, hres⟩
    · refine JX.condT rfl hb ?_
      refine JX.seq ?_
      refine JX.region ?_
      refine JL.val (yl_assign rfl) rfl ?_
      refine JL.val (yl_assign rfl) rfl ?_
      refine JL.nil ?_
      refine JE.code ?_
      refine JX.ret ?_
      refine JE.nilrow 9 eStr ?_
      obtain rfl := Option.some.inj hres
      refine JE.ret (rs := [.tmp 2, .tmp 3]) (vs := [.slice none 0 0, .bool false]) rfl ⟨rfl, rfl, trivial⟩ ?_
      exact fun w' hb hs => ⟨_, _, ⟨none, 0, 0, rfl, rfl, rfl⟩, rfl, hb, hs.sel [0] _ (by decide) rfl⟩
    · refine JX.condF rfl hb ?_
      refine JX.skip ?_
      refine JE.code ?_
      refine JX.seq ?_
      refine JX.region ?_
      refine JL.val (yl_move rfl) rfl ?_
      refine JL.val (yl_move rfl) rfl ?_
      refine JL.val (yl_len_string Go.Proofs.Try.underlying9 rfl) rfl ?_
      refine JL.val (yl_sub rfl rfl) rfl ?_
      obtain ⟨x4, hx4, hres⟩ := bind_some hres
      refine JL.val (yl_subSh Go.Proofs.Try.underlying9 rfl rfl hx4) rfl ?_
      obtain ⟨x5, hx5, hres⟩ := bind_some hres
      refine JL.eff (ef_call (T := T158 x5) Go.Proofs.Try.func158 rfl (by kernel_rfl) rfl (fun w hC => c158  hx5)) rfl ?_
      rintro _ _ ⟨_, ⟨a6, _, cp7, rfl, rfl, rfl⟩, rfl⟩
      refine JL.val (yl_assign rfl) rfl ?_
      refine JL.val (yl_assign rfl) rfl ?_
      refine JL.nil ?_
      refine JE.weak (env' := [(2, .slice a6 x5.length cp7), (3, .bool true)]) (es' := [rowT 9 eStr a6 x5.length cp7 x5]) [0] ?_ ⟨rfl, rfl, trivial⟩ (by decide) rfl
      refine JE.code ?_
      refine JX.ret ?_
      obtain rfl := Option.some.inj hres
      refine JE.ret (rs := [.tmp 2, .tmp 3]) (vs := [.slice a6 x5.length cp7, .bool true]) rfl ⟨rfl, rfl, trivial⟩ ?_
      exact fun w' hb hs => ⟨_, _, ⟨a6, x5.length, cp7, rfl, rfl, rfl⟩, rfl, hb, hs.sel [0] _ (by decide) rfl⟩

/- impl.ReadDecimal -/
def sh159_1 (j3 : ByteArray) : (Int × Int) → Option ((Int × Int) ⊕ (Int ⊕ (Int × Bool)))
  | (x4, x5) => bif decide (x5 < (j3.size : Int)) then (Option.bind (getS j3 x5) fun x6 => Option.bind (bif decide (x6 < 48) then (some true) else (Option.bind (getS j3 x5) fun x8 => some (decide (57 < x8)))) fun cb7 => (bif cb7 then (some (.inr (.inr (0, false)))) else (Option.bind (getS j3 x5) fun x9 => some (.inl (w64 ((w64 (10 * x4)) + (w64 (IntKind.u8.wrap (x9 - 48)))), w64 (x5 + 1)))))) else (some (.inr (.inl x4)))
def sh159 (q0 : ByteArray) : Option (Int × Bool) := Option.bind (bif decide (0 < (q0.size : Int)) then (Option.bind (getS q0 0) fun x2 => some (x2 == 45)) else (some false)) fun cb1 => (Option.bind (bif cb1 then (Option.bind (subS q0 (1 : Int) (q0.size : Int)) fun x12 => some x12) else (some q0)) fun j3 => (bif (decide ((j3.size : Int) < 1)) || (decide (18 < (j3.size : Int))) then (some (0, false)) else (Option.bind (iter (sh159_1 j3) (0, 0)) fun y1 => elimS y1 (fun r => some r) fun b1 => (Option.bind (bif decide ((j3.size : Int) < (q0.size : Int)) then (some (w64 (0 - b1))) else (some b1)) fun j10 => (Option.bind (sh165 j10) fun x11 => bif !(x11.toList == q0.toList) then (some (0, false)) else (some (j10, true)))))))
def T159 (r : Int × Bool) (v : Value) (rs : List Own) : Prop := v = rets [.int .i64 r.1, .bool r.2] ∧ rs = []
set_option maxRecDepth 100000 in
set_option maxHeartbeats 1000000 in
theorem c159 {w : World} {q0 : ByteArray} {r : Int × Bool} (hres : sh159 q0 = some r) : Calls Go.Proofs.Try.prog 159 [.string q0].toArray w (Ret w (T159 r)) := by
  unfold sh159 at hres
  refine calls_of (n := 62) (M := []) (es := []) Go.Proofs.Try.func159 rfl rfl rfl (Sep.nil _ _ _) ?_
  refine JX.seq ?_
  refine JX.region ?_
  refine JL.val (yl_assign rfl) rfl ?_
  refine JL.val (yl_assign rfl) rfl ?_
  refine JL.nil ?_
  refine JE.code ?_
  refine JX.seq ?_
  refine JX.region ?_
  refine JL.val (yl_move rfl) rfl ?_
  refine JL.val (yl_assign rfl) rfl ?_
  refine JL.nil ?_
  refine JE.code ?_
  refine JX.seq ?_
  refine JX.seq ?_
  refine JX.region ?_
  refine JL.val (yl_move rfl) rfl ?_
  refine JL.val (yl_len_string Go.Proofs.Try.underlying9 rfl) rfl ?_
  refine JL.val (yl_gtr rfl rfl) rfl ?_
  refine JL.val (yl_move rfl) rfl ?_
  obtain ⟨cb1, hcb1, hres⟩ := bind_some hres
  refine JL.cut (K := fun J => J [(0, .string q0), (4, .string q0), (15, .bool cb1)] []) 4 ?_ ?_
  · refine JL.nil ?_
    refine JE.weak (env' := [(0, .string q0), (4, .string q0), (15, .bool cb1)]) (es' := []) [] ?_ ⟨rfl, rfl, rfl, trivial⟩ (by decide) rfl
    refine JE.code ?_
    obtain ⟨j3, hj3, hresj3⟩ := bind_some hres
    refine JX.cut (K := fun J => J [(0, .string q0), (4, .string j3)] []) ?_ ?_
    · have hres := hresj3
      refine JE.code ?_
      refine JX.seq ?_
      refine JX.seq ?_
      refine JX.region ?_
      refine JL.val (yl_move rfl) rfl ?_
      refine JL.val (yl_len_string Go.Proofs.Try.underlying9 rfl) rfl ?_
      refine JL.val (yl_lss rfl rfl) rfl ?_
      refine JL.val (yl_move rfl) rfl ?_
      refine JL.cut (K := fun J => J [(0, .string q0), (4, .string j3), (25, .bool ((decide ((j3.size : Int) < 1)) || (decide (18 < (j3.size : Int)))))] []) 4 ?_ ?_
      · refine JL.nil ?_
        refine JE.weak (env' := [(0, .string q0), (4, .string j3), (25, .bool ((decide ((j3.size : Int) < 1)) || (decide (18 < (j3.size : Int)))))]) (es' := []) [] ?_ ⟨rfl, rfl, rfl, trivial⟩ (by decide) rfl
        refine JE.code ?_
        rcases cond_some hres with ⟨hb, hres⟩ | ⟨hb, hres⟩
        · refine JX.condT rfl hb ?_
          refine JX.seq ?_
          refine JX.region ?_
          refine JL.val (yl_assign rfl) rfl ?_
          refine JL.val (yl_assign rfl) rfl ?_
          refine JL.nil ?_
          refine JE.code ?_
          refine JX.ret ?_
          obtain rfl := Option.some.inj hres
          refine JE.ret (rs := [.tmp 2, .tmp 3]) (vs := [.int .i64 0, .bool false]) rfl ⟨rfl, rfl, trivial⟩ ?_
          exact fun w' hb hs => ⟨_, _, ⟨rfl, rfl⟩, rfl, hb, hs.sel [] _ (by decide) rfl⟩
        · refine JX.condF rfl hb ?_
          refine JX.skip ?_
          refine JE.code ?_
          refine JX.seq ?_
          refine JX.region ?_
          refine JL.val (yl_assign rfl) rfl ?_
          refine JL.nil ?_
          refine JE.code ?_
          refine JX.seq ?_
          refine JX.seq ?_
          refine JX.region ?_
          refine JL.val (yl_move rfl) rfl ?_
          refine JL.val (yl_len_string Go.Proofs.Try.underlying9 rfl) rfl ?_
          refine JL.val (yl_move rfl) rfl ?_
          refine JL.nil ?_
          refine JE.code ?_
          refine JX.block ?_
          obtain ⟨y1, hy1, hresO1⟩ := bind_some hres
          refine JX.loop (I := fun (s1 : Int × Int) aa ww => St w [] 62 [(0, .string q0), (4, .string j3), (5, .int .i64 s1.1), (27, .int .i64 (j3.size : Int)), (28, .int .i64 s1.2)] [] aa ww) (sh159_1 j3) hy1 (fun a w h => h.weak ⟨rfl, rfl, rfl, rfl, rfl, trivial⟩ [] (by decide) rfl) ?_
          rintro ⟨x4, x5⟩ o1 hres hox1 aa ww hS
          refine (?_ : JX Go.Proofs.Try.prog w [] 62 _ _ [(0, .string q0), (4, .string j3), (5, .int .i64 x4), (27, .int .i64 (j3.size : Int)), (28, .int .i64 x5)] [] _) aa ww hS
          clear hS
          simp only [sh159_1] at hres
          refine JX.seq ?_
          refine JX.region ?_
          refine JL.val (yl_lss rfl rfl) rfl ?_
          refine JL.nil ?_
          refine JE.code ?_
          refine JX.seq ?_
          rcases cond_some hres with ⟨hb, hres⟩ | ⟨hb, hres⟩
          · refine JX.condT rfl hb ?_
            refine JX.skip ?_
            refine JE.code ?_
            refine JX.seq ?_
            refine JX.block ?_
            refine JX.seq ?_
            refine JX.region ?_
            refine JL.val (yl_move rfl) rfl ?_
            refine JL.val (yl_assign rfl) rfl ?_
            refine JL.nil ?_
            refine JE.code ?_
            refine JX.seq ?_
            refine JX.seq ?_
            refine JX.region ?_
            refine JL.val (yl_move rfl) rfl ?_
            refine JL.val (yl_move rfl) rfl ?_
            obtain ⟨x6, hx6, hres⟩ := bind_some hres
            refine JL.val (yl_getS Go.Proofs.Try.underlying9 rfl rfl hx6) rfl ?_
            refine JL.val (yl_lss rfl rfl) rfl ?_
            refine JL.val (yl_move rfl) rfl ?_
            obtain ⟨cb7, hcb7, hres⟩ := bind_some hres
            refine JL.cut (K := fun J => J [(0, .string q0), (4, .string j3), (5, .int .i64 x4), (6, .int .i64 x5), (27, .int .i64 (j3.size : Int)), (28, .int .i64 x5), (40, .bool cb7)] []) 5 ?_ ?_
            · refine JL.nil ?_
              refine JE.weak (env' := [(0, .string q0), (4, .string j3), (5, .int .i64 x4), (6, .int .i64 x5), (27, .int .i64 (j3.size : Int)), (28, .int .i64 x5), (40, .bool cb7)]) (es' := []) [] ?_ ⟨rfl, rfl, rfl, rfl, rfl, rfl, rfl, trivial⟩ (by decide) rfl
              refine JE.code ?_
              rcases cond_some hres with ⟨hb, hres⟩ | ⟨hb, hres⟩
              · refine JX.condT rfl hb ?_
                refine JX.seq ?_
                refine JX.region ?_
                refine JL.val (yl_assign rfl) rfl ?_
                refine JL.val (yl_assign rfl) rfl ?_
                refine JL.nil ?_
                refine JE.code ?_
                refine JX.ret ?_
                refine JE.qbr ?_
                refine JE.qbr ?_
                have hres := elimS_inr hresO1 (hox1 _ (Option.some.inj hres).symm)
                obtain rfl := Option.some.inj hres
                refine JE.ret (rs := [.tmp 2, .tmp 3]) (vs := [.int .i64 0, .bool false]) rfl ⟨rfl, rfl, trivial⟩ ?_
                exact fun w' hb hs => ⟨_, _, ⟨rfl, rfl⟩, rfl, hb, hs.sel [] _ (by decide) rfl⟩
              · refine JX.condF rfl hb ?_
                refine JX.skip ?_
                refine JE.code ?_
                refine JX.region ?_
                refine JL.val (yl_move rfl) rfl ?_
                refine JL.val (yl_mul rfl rfl) rfl ?_
                refine JL.val (yl_move rfl) rfl ?_
                refine JL.val (yl_move rfl) rfl ?_
                obtain ⟨x9, hx9, hres⟩ := bind_some hres
                refine JL.val (yl_getS Go.Proofs.Try.underlying9 rfl rfl hx9) rfl ?_
                refine JL.val (yl_sub rfl rfl) rfl ?_
                refine JL.val (yl_conv Go.Proofs.Try.underlying5 Go.Proofs.Try.underlying2 rfl) rfl ?_
                refine JL.val (yl_add rfl rfl) rfl ?_
                refine JL.val (yl_assign rfl) rfl ?_
                refine JL.nil ?_
                refine JE.weak (env' := [(0, .string q0), (4, .string j3), (5, .int .i64 (w64 ((w64 (10 * x4)) + (w64 (IntKind.u8.wrap (x9 - 48)))))), (27, .int .i64 (j3.size : Int)), (28, .int .i64 x5)]) (es' := []) [] ?_ ⟨rfl, rfl, rfl, rfl, rfl, trivial⟩ (by decide) rfl
                refine JE.code ?_
                refine JX.region ?_
                refine JL.val (yl_add rfl rfl) rfl ?_
                refine JL.val (yl_move rfl) rfl ?_
                refine JL.nil ?_
                refine JE.cont hres ?_
                exact fun a w h => h.weak ⟨rfl, rfl, rfl, rfl, rfl, trivial⟩ [] (by decide) rfl
            · intro K
              rcases cond_some hcb7 with ⟨hb, hres⟩ | ⟨hb, hres⟩
              · refine JL.set (d := 35) (v := .bool true) (congrArg (fun b => some (Value.bool b)) hb) ?_
                refine JL.gskip rfl rfl rfl rfl ?_
                refine JL.gskip rfl rfl rfl rfl ?_
                refine JL.gskip rfl rfl rfl rfl ?_
                refine JL.gskip rfl rfl rfl rfl ?_
                refine JL.val (yl_pick_true rfl rfl) rfl ?_
                have he := Option.some.inj hres
                exact JL.weak [] K ⟨rfl, rfl, rfl, rfl, rfl, rfl, (by rw [← he]; rfl), trivial⟩ (by decide) rfl
              · refine JL.set (d := 35) (v := .bool false) (congrArg (fun b => some (Value.bool b)) hb) ?_
                refine JL.gval rfl rfl (yl_move rfl) rfl ?_
                refine JL.gval rfl rfl (yl_move rfl) rfl ?_
                obtain ⟨x8, hx8, hres⟩ := bind_some hres
                refine JL.gval rfl rfl (yl_getS Go.Proofs.Try.underlying9 rfl rfl hx8) rfl ?_
                refine JL.gval rfl rfl (yl_gtr rfl rfl) rfl ?_
                refine JL.val (yl_pick_false rfl rfl) rfl ?_
                have he := Option.some.inj hres
                exact JL.weak [] K ⟨rfl, rfl, rfl, rfl, rfl, rfl, (by rw [← he]; rfl), trivial⟩ (by decide) rfl
          · refine JX.condF rfl hb ?_
            refine JX.exit ?_
            refine JE.qb rfl ?_
            obtain ⟨b1, hb1⟩ : ∃ b : Int, b = x4 := ⟨_, rfl⟩
            have hy1 : Sum.inl b1 = y1 := by rw [hb1]; exact hox1 _ (Option.some.inj hres).symm
            have hres := elimS_inl hresO1 hy1
            refine JE.weak (env' := [(0, .string q0), (4, .string j3), (5, .int .i64 b1)]) (es' := []) [] ?_ ⟨(by subst hb1; rfl), (by subst hb1; rfl), (by subst hb1; rfl), trivial⟩ (by decide) (by subst hb1; rfl)
            refine JE.code ?_
            refine JX.seq ?_
            refine JX.seq ?_
            refine JX.region ?_
            refine JL.val (yl_move rfl) rfl ?_
            refine JL.val (yl_len_string Go.Proofs.Try.underlying9 rfl) rfl ?_
            refine JL.val (yl_move rfl) rfl ?_
            refine JL.val (yl_len_string Go.Proofs.Try.underlying9 rfl) rfl ?_
            refine JL.val (yl_lss rfl rfl) rfl ?_
            refine JL.nil ?_
            refine JE.weak (env' := [(0, .string q0), (5, .int .i64 b1), (54, .bool (decide ((j3.size : Int) < (q0.size : Int))))]) (es' := []) [] ?_ ⟨rfl, rfl, rfl, trivial⟩ (by decide) rfl
            refine JE.code ?_
            obtain ⟨j10, hj10, hresj10⟩ := bind_some hres
            refine JX.cut (K := fun J => J [(0, .string q0), (5, .int .i64 j10)] []) ?_ ?_
            · have hres := hresj10
              refine JE.code ?_
              refine JX.seq ?_
              refine JX.seq ?_
              refine JX.region ?_
              refine JL.val (yl_move rfl) rfl ?_
              obtain ⟨x11, hx11, hres⟩ := bind_some hres
              refine JL.eff (ef_call (T := T165 x11) Go.Proofs.Try.func165 rfl (by kernel_rfl) rfl (fun w hC => c165  hx11)) rfl ?_
              rintro _ _ ⟨_, ⟨rfl, rfl⟩, rfl⟩
              refine JL.val (yl_move rfl) rfl ?_
              refine JL.val (yl_sneq rfl rfl) rfl ?_
              refine JL.nil ?_
              refine JE.weak (env' := [(5, .int .i64 j10), (60, .bool (!(x11.toList == q0.toList)))]) (es' := []) [] ?_ ⟨rfl, rfl, trivial⟩ (by decide) rfl
              refine JE.code ?_
              rcases cond_some hres with ⟨hb, hres⟩ | ⟨hb, hres⟩
              · refine JX.condT rfl hb ?_
                refine JX.seq ?_
                refine JX.region ?_
                refine JL.val (yl_assign rfl) rfl ?_
                refine JL.val (yl_assign rfl) rfl ?_
                refine JL.nil ?_
                refine JE.code ?_
                refine JX.ret ?_
                obtain rfl := Option.some.inj hres
                refine JE.ret (rs := [.tmp 2, .tmp 3]) (vs := [.int .i64 0, .bool false]) rfl ⟨rfl, rfl, trivial⟩ ?_
                exact fun w' hb hs => ⟨_, _, ⟨rfl, rfl⟩, rfl, hb, hs.sel [] _ (by decide) rfl⟩
              · refine JX.condF rfl hb ?_
                refine JX.skip ?_
                refine JE.code ?_
                refine JX.seq ?_
                refine JX.region ?_
                refine JL.val (yl_move rfl) rfl ?_
                refine JL.val (yl_assign rfl) rfl ?_
                refine JL.val (yl_assign rfl) rfl ?_
                refine JL.nil ?_
                refine JE.code ?_
                refine JX.ret ?_
                obtain rfl := Option.some.inj hres
                refine JE.ret (rs := [.tmp 2, .tmp 3]) (vs := [.int .i64 j10, .bool true]) rfl ⟨rfl, rfl, trivial⟩ ?_
                exact fun w' hb hs => ⟨_, _, ⟨rfl, rfl⟩, rfl, hb, hs.sel [] _ (by decide) rfl⟩
            · intro K
              rcases cond_some hj10 with ⟨hb, hres⟩ | ⟨hb, hres⟩
              · refine JX.condT rfl hb ?_
                refine JX.region ?_
                refine JL.val (yl_move rfl) rfl ?_
                refine JL.val (yl_neg rfl) rfl ?_
                refine JL.val (yl_assign rfl) rfl ?_
                refine JL.nil ?_
                have hj := Option.some.inj hres
                exact JE.weak [] (K) ⟨(by subst hj; rfl), (by subst hj; rfl), trivial⟩ (by decide) (by subst hj; rfl)
              · refine JX.condF rfl hb ?_
                refine JX.skip ?_
                have hj := Option.some.inj hres
                exact JE.weak [] (K) ⟨(by subst hj; rfl), (by subst hj; rfl), trivial⟩ (by decide) (by subst hj; rfl)
      · intro K
        rcases Bool.eq_false_or_eq_true (decide ((j3.size : Int) < 1)) with hb | hb
        · refine JL.set (d := 21) (v := .bool true) (congrArg (fun b => some (Value.bool b)) hb) ?_
          refine JL.gskip rfl rfl rfl rfl ?_
          refine JL.gskip rfl rfl rfl rfl ?_
          refine JL.gskip rfl rfl rfl rfl ?_
          refine JL.val (yl_pick_true rfl rfl) rfl ?_
          exact JL.weak [] K ⟨rfl, rfl, (by rw [hb]; rfl), trivial⟩ (by decide) rfl
        · refine JL.set (d := 21) (v := .bool false) (congrArg (fun b => some (Value.bool b)) hb) ?_
          refine JL.gval rfl rfl (yl_move rfl) rfl ?_
          refine JL.gval rfl rfl (yl_len_string Go.Proofs.Try.underlying9 rfl) rfl ?_
          refine JL.gval rfl rfl (yl_gtr rfl rfl) rfl ?_
          refine JL.val (yl_pick_false rfl rfl) rfl ?_
          exact JL.weak [] K ⟨rfl, rfl, (by rw [hb]; rfl), trivial⟩ (by decide) rfl
    · intro K
      rcases cond_some hj3 with ⟨hb, hres⟩ | ⟨hb, hres⟩
      · refine JX.condT rfl hb ?_
        refine JX.region ?_
        refine JL.val (yl_move rfl) rfl ?_
        obtain ⟨x12, hx12, hres⟩ := bind_some hres
        refine JL.val (yl_subSl Go.Proofs.Try.underlying9 rfl rfl hx12) rfl ?_
        refine JL.val (yl_assign rfl) rfl ?_
        refine JL.nil ?_
        have hj := Option.some.inj hres
        exact JE.weak [] (K) ⟨(by subst hj; rfl), (by subst hj; rfl), trivial⟩ (by decide) (by subst hj; rfl)
      · refine JX.condF rfl hb ?_
        refine JX.skip ?_
        have hj := Option.some.inj hres
        exact JE.weak [] (K) ⟨(by subst hj; rfl), (by subst hj; rfl), trivial⟩ (by decide) (by subst hj; rfl)
  · intro K
    rcases cond_some hcb1 with ⟨hb, hres⟩ | ⟨hb, hres⟩
    · refine JL.set (d := 11) (v := .bool true) (congrArg (fun b => some (Value.bool b)) hb) ?_
      refine JL.gval rfl rfl (yl_move rfl) rfl ?_
      obtain ⟨x2, hx2, hres⟩ := bind_some hres
      refine JL.gval rfl rfl (yl_getS Go.Proofs.Try.underlying9 rfl rfl hx2) rfl ?_
      refine JL.gval rfl rfl (yl_eql rfl rfl) rfl ?_
      refine JL.val (yl_pick_true rfl rfl) rfl ?_
      have he := Option.some.inj hres
      exact JL.weak [] K ⟨rfl, rfl, (by rw [← he]; rfl), trivial⟩ (by decide) rfl
    · refine JL.set (d := 11) (v := .bool false) (congrArg (fun b => some (Value.bool b)) hb) ?_
      refine JL.gskip rfl rfl rfl rfl ?_
      refine JL.gskip rfl rfl rfl rfl ?_
      refine JL.gskip rfl rfl rfl rfl ?_
      refine JL.val (yl_pick_false rfl rfl) rfl ?_
      have he := Option.some.inj hres
      exact JL.weak [] K ⟨rfl, rfl, (by rw [← he]; rfl), trivial⟩ (by decide) rfl

/- impl.ReadTool -/
def sh74_2 (x15 : List ByteArray) : (Int × List Int) → Option ((Int × List Int) ⊕ ((List Int) ⊕ (List SToolMove × Bool)))
  | (x23, x24) => bif decide (x23 < (x15.length : Int)) then (Option.bind (getI x15 x23) fun x26 => Option.bind (sh159 x26) fun x27 => bif !x27.2 then (some (.inr (.inr (([] : List SToolMove), false)))) else (Option.bind (getI x24 x23) fun x29 => some (.inl (w64 (x23 + 1), x24.set (x23).toNat x27.1)))) else (some (.inr (.inl x24)))
def sh74_1 (x1 : List ByteArray × Bool) : (Int × List SToolMove) → Option ((Int × List SToolMove) ⊕ ((List SToolMove) ⊕ (List SToolMove × Bool)))
  | (x10, x11) => bif decide (x10 < (x1.1.length : Int)) then (Option.bind (getI x1.1 x10) fun x14 => Option.bind (sh158 x14 32) fun x15 => bif (x15.length : Int) != 3 then (some (.inr (.inr (([] : List SToolMove), false)))) else (Option.bind (iter (sh74_2 x15) (0, List.replicate 3 (0 : Int))) fun y2 => elimS y2 (fun r => some (.inr (.inr r))) fun b2 => (Option.bind (getI b2 (0 : Int)) fun x31 => Option.bind (getI b2 (1 : Int)) fun x32 => Option.bind (getI b2 (2 : Int)) fun x33 => Option.bind (appL x11 [SToolMove.mk x31 x32 x33]) fun x36 => some (.inl (w64 (x10 + 1), x36))))) else (some (.inr (.inl x11)))
def sh74 (q0 : ByteArray) : Option (List SToolMove × Bool) := Option.bind (sh157 q0) fun x1 => bif !x1.2 || (decide (700 < (x1.1.length : Int))) then (some (([] : List SToolMove), false)) else (Option.bind (iter (sh74_1 x1) (0, ([] : List SToolMove))) fun y1 => elimS y1 (fun r => some r) fun b1 => (Option.bind (sh151 b1) fun x41 => bif !x41 then (some (([] : List SToolMove), false)) else (some (b1, true))))
def T74 (r : List SToolMove × Bool) (v : Value) (rs : List Own) : Prop := ∃ (a0 : Option Addr) (n0 c0 : Nat), r.1.length = n0 ∧ v = rets [.slice a0 n0 c0, .bool r.2] ∧ rs = [rowT 88 eSToolMove a0 n0 c0 r.1]
set_option maxRecDepth 100000 in
set_option maxHeartbeats 1000000 in
theorem c74 {w : World} {q0 : ByteArray} {r : List SToolMove × Bool} (hres : sh74 q0 = some r) : Calls Go.Proofs.Try.prog 74 [.string q0].toArray w (Ret w (T74 r)) := by
  unfold sh74 at hres
  refine calls_of (n := 73) (M := []) (es := []) Go.Proofs.Try.func74 rfl rfl rfl (Sep.nil _ _ _) ?_
  refine JX.seq ?_
  refine JX.region ?_
  refine JL.val (yl_assign rfl) rfl ?_
  refine JL.val (yl_assign rfl) rfl ?_
  refine JL.nil ?_
  refine JE.code ?_
  refine JX.seq ?_
  refine JX.region ?_
  refine JL.val (yl_move rfl) rfl ?_
  obtain ⟨x1, hx1, hres⟩ := bind_some hres
  refine JL.eff (ef_call (T := T157 x1) Go.Proofs.Try.func157 rfl (by kernel_rfl) rfl (fun w hC => c157  hx1)) rfl ?_
  rintro _ _ ⟨_, ⟨a2, _, cp3, rfl, rfl, rfl⟩, rfl⟩
  refine JL.val (yl_move rfl) rfl ?_
  refine JL.val (yl_extract rfl rfl) rfl ?_
  refine JL.val (yl_extract rfl rfl) rfl ?_
  refine JL.val (yl_assign rfl) rfl ?_
  refine JL.val (yl_assign rfl) rfl ?_
  refine JL.nil ?_
  refine JE.weak (env' := [(4, .slice a2 x1.1.length cp3), (5, .bool x1.2)]) (es' := [rowT 9 eStr a2 x1.1.length cp3 x1.1]) [0] ?_ ⟨rfl, rfl, trivial⟩ (by decide) rfl
  refine JE.code ?_
  refine JX.seq ?_
  refine JX.seq ?_
  refine JX.region ?_
  refine JL.val (yl_move rfl) rfl ?_
  refine JL.val (yl_not rfl) rfl ?_
  refine JL.val (yl_move rfl) rfl ?_
  refine JL.cut (K := fun J => J [(4, .slice a2 x1.1.length cp3), (26, .bool (!x1.2 || (decide (700 < (x1.1.length : Int)))))] [rowT 9 eStr a2 x1.1.length cp3 x1.1]) 4 ?_ ?_
  · refine JL.nil ?_
    refine JE.weak (env' := [(4, .slice a2 x1.1.length cp3), (26, .bool (!x1.2 || (decide (700 < (x1.1.length : Int)))))]) (es' := [rowT 9 eStr a2 x1.1.length cp3 x1.1]) [0] ?_ ⟨rfl, rfl, trivial⟩ (by decide) rfl
    refine JE.code ?_
    rcases cond_some hres with ⟨hb, hres⟩ | ⟨hb, hres⟩
    · refine JX.condT rfl hb ?_
      refine JX.seq ?_
      refine JX.region ?_
      refine JL.val (yl_assign rfl) rfl ?_
      refine JL.val (yl_assign rfl) rfl ?_
      refine JL.nil ?_
      refine JE.weak (env' := [(2, .slice none 0 0), (3, .bool false)]) (es' := []) [] ?_ ⟨rfl, rfl, trivial⟩ (by decide) rfl
      refine JE.code ?_
      refine JX.ret ?_
      refine JE.nilrow 88 eSToolMove ?_
      obtain rfl := Option.some.inj hres
      refine JE.ret (rs := [.tmp 2, .tmp 3]) (vs := [.slice none 0 0, .bool false]) rfl ⟨rfl, rfl, trivial⟩ ?_
      exact fun w' hb hs => ⟨_, _, ⟨none, 0, 0, rfl, rfl, rfl⟩, rfl, hb, hs.sel [0] _ (by decide) rfl⟩
    · refine JX.condF rfl hb ?_
      refine JX.skip ?_
      refine JE.code ?_
      refine JX.seq ?_
      refine JX.region ?_
      refine JL.eff (ef_buildSlice (E := 88) (k := eSToolMove.k) (us := eSToolMove.fl ([] : List SToolMove)) rfl (fun w => bsl65_0  w) rfl (by decide)) rfl ?_
      rintro _ _ ⟨a6, rfl, rfl⟩
      refine JL.val (yl_assign rfl) rfl ?_
      refine JL.nil ?_
      refine JE.code ?_
      refine JX.seq ?_
      refine JX.seq ?_
      refine JX.region ?_
      refine JL.val (yl_move rfl) rfl ?_
      refine JL.val (yl_len_slice Go.Proofs.Try.underlying150 rfl) rfl ?_
      refine JL.val (yl_move rfl) rfl ?_
      refine JL.nil ?_
      refine JE.code ?_
      refine JX.block ?_
      obtain ⟨y1, hy1, hresO1⟩ := bind_some hres
      refine JX.loop (I := fun (s1 : Int × List SToolMove) aa ww => ∃ (a8 : Option Addr) (cp9 : Nat), St w [] 73 [(6, .slice a8 s1.2.length cp9), (28, .slice a2 x1.1.length cp3), (29, .int .i64 (x1.1.length : Int)), (30, .int .i64 s1.1)] [rowT 88 eSToolMove a8 s1.2.length cp9 s1.2, rowT 9 eStr a2 x1.1.length cp3 x1.1] aa ww) (sh74_1 x1) hy1 (fun a w h => ⟨a6, 0, h.weak ⟨rfl, rfl, rfl, rfl, trivial⟩ [1, 0] (by decide) rfl⟩) ?_
      rintro ⟨x10, x11⟩ o1 hres hox1 aa ww ⟨a12, cp13, hS⟩
      refine (?_ : JX Go.Proofs.Try.prog w [] 73 _ _ [(6, .slice a12 x11.length cp13), (28, .slice a2 x1.1.length cp3), (29, .int .i64 (x1.1.length : Int)), (30, .int .i64 x10)] [rowT 88 eSToolMove a12 x11.length cp13 x11, rowT 9 eStr a2 x1.1.length cp3 x1.1] _) aa ww hS
      clear hS
      simp only [sh74_1] at hres
      refine JX.seq ?_
      refine JX.region ?_
      refine JL.val (yl_lss rfl rfl) rfl ?_
      refine JL.nil ?_
      refine JE.code ?_
      refine JX.seq ?_
      rcases cond_some hres with ⟨hb, hres⟩ | ⟨hb, hres⟩
      · refine JX.condT rfl hb ?_
        refine JX.skip ?_
        refine JE.code ?_
        refine JX.seq ?_
        refine JX.block ?_
        refine JX.seq ?_
        refine JX.region ?_
        obtain ⟨x14, hx14, hres⟩ := bind_some hres
        refine JL.val (yl_idxT Go.Proofs.Try.underlying150 i9 i9s rfl rfl hx14 rfl (fun w hC => rd_row hC 1 rfl)) rfl ?_
        refine JL.val (yl_loadT0 Go.Proofs.Try.underlying9 rfl rfl hx14 (fun w hC => rd_row hC 1 rfl) rfl) rfl ?_
        refine JL.val (yl_assign rfl) rfl ?_
        refine JL.nil ?_
        refine JE.code ?_
        refine JX.seq ?_
        refine JX.region ?_
        refine JL.val (yl_move rfl) rfl ?_
        obtain ⟨x15, hx15, hres⟩ := bind_some hres
        refine JL.eff (ef_call (T := T158 x15) Go.Proofs.Try.func158 rfl (by kernel_rfl) rfl (fun w hC => c158  hx15)) rfl ?_
        rintro _ _ ⟨_, ⟨a16, _, cp17, rfl, rfl, rfl⟩, rfl⟩
        refine JL.val (yl_assign rfl) rfl ?_
        refine JL.nil ?_
        refine JE.code ?_
        refine JX.seq ?_
        refine JX.seq ?_
        refine JX.region ?_
        refine JL.val (yl_move rfl) rfl ?_
        refine JL.val (yl_len_slice Go.Proofs.Try.underlying150 rfl) rfl ?_
        refine JL.val (yl_neq rfl rfl) rfl ?_
        refine JL.nil ?_
        refine JE.code ?_
        rcases cond_some hres with ⟨hb, hres⟩ | ⟨hb, hres⟩
        · refine JX.condT rfl hb ?_
          refine JX.seq ?_
          refine JX.region ?_
          refine JL.val (yl_assign rfl) rfl ?_
          refine JL.val (yl_assign rfl) rfl ?_
          refine JL.nil ?_
          refine JE.weak (env' := [(2, .slice none 0 0), (3, .bool false)]) (es' := []) [] ?_ ⟨rfl, rfl, trivial⟩ (by decide) rfl
          refine JE.code ?_
          refine JX.ret ?_
          refine JE.qbr ?_
          refine JE.qbr ?_
          refine JE.nilrow 88 eSToolMove ?_
          have hres := elimS_inr hresO1 (hox1 _ (Option.some.inj hres).symm)
          obtain rfl := Option.some.inj hres
          refine JE.ret (rs := [.tmp 2, .tmp 3]) (vs := [.slice none 0 0, .bool false]) rfl ⟨rfl, rfl, trivial⟩ ?_
          exact fun w' hb hs => ⟨_, _, ⟨none, 0, 0, rfl, rfl, rfl⟩, rfl, hb, hs.sel [0] _ (by decide) rfl⟩
        · refine JX.condF rfl hb ?_
          refine JX.skip ?_
          refine JE.code ?_
          refine JX.seq ?_
          refine JX.region ?_
          refine JL.val (yl_build rfl (fun w => bld154_  w)) rfl ?_
          refine JL.eff (ef_alloc i154 i154z rfl) rfl ?_
          rintro _ _ ⟨g20, rfl, rfl⟩
          refine JL.boxrow eI64 3 (m := 3) (List.replicate 3 (0 : Int)) rfl rfl (Nat.le_of_ble_eq_true rfl) rfl ?_
          refine JL.eff (ef_storeArr (ix := 3) (ys := List.replicate 3 (0 : Int)) i154 rfl rfl rfl rfl (i154s.trans rfl) i154p rfl) rfl ?_
          rintro _ _ rfl
          refine JL.nil ?_
          refine JE.code ?_
          refine JX.seq ?_
          refine JX.seq ?_
          refine JX.region ?_
          refine JL.val (yl_move rfl) rfl ?_
          refine JL.val (yl_len_slice Go.Proofs.Try.underlying150 rfl) rfl ?_
          refine JL.val (yl_move rfl) rfl ?_
          refine JL.nil ?_
          refine JE.code ?_
          refine JX.block ?_
          obtain ⟨y2, hy2, hresO2⟩ := bind_some hres
          refine JX.loop (I := fun (s2 : Int × List Int) aa ww => ∃ (l22 : s2.2.length = 3), St w [] 73 [(6, .slice a12 x11.length cp13), (10, ptrAt (some ⟨g20, 0, none⟩) 0), (28, .slice a2 x1.1.length cp3), (29, .int .i64 (x1.1.length : Int)), (30, .int .i64 x10), (40, .slice a16 x15.length cp17), (41, .int .i64 (x15.length : Int)), (42, .int .i64 s2.1)] [rowT 88 eSToolMove a12 x11.length cp13 x11, rowT 154 eI64 (some ⟨g20, 0, none⟩) 3 3 s2.2, rowT 9 eStr a2 x1.1.length cp3 x1.1, rowT 9 eStr a16 x15.length cp17 x15] aa ww) (sh74_2 x15) hy2 (fun a w h => ⟨(rfl : (List.replicate 3 (0 : Int)).length = 3), h.weak ⟨rfl, rfl, rfl, rfl, rfl, rfl, rfl, rfl, trivial⟩ [0, 3, 1, 2] (by decide) rfl⟩) ?_
          rintro ⟨x23, x24⟩ o2 hres hox2 aa ww ⟨l25, hS⟩
          refine (?_ : JX Go.Proofs.Try.prog w [] 73 _ _ [(6, .slice a12 x11.length cp13), (10, ptrAt (some ⟨g20, 0, none⟩) 0), (28, .slice a2 x1.1.length cp3), (29, .int .i64 (x1.1.length : Int)), (30, .int .i64 x10), (40, .slice a16 x15.length cp17), (41, .int .i64 (x15.length : Int)), (42, .int .i64 x23)] [rowT 88 eSToolMove a12 x11.length cp13 x11, rowT 154 eI64 (some ⟨g20, 0, none⟩) 3 3 x24, rowT 9 eStr a2 x1.1.length cp3 x1.1, rowT 9 eStr a16 x15.length cp17 x15] _) aa ww hS
          clear hS
          simp only [sh74_2] at hres
          refine JX.seq ?_
          refine JX.region ?_
          refine JL.val (yl_lss rfl rfl) rfl ?_
          refine JL.nil ?_
          refine JE.code ?_
          refine JX.seq ?_
          rcases cond_some hres with ⟨hb, hres⟩ | ⟨hb, hres⟩
          · refine JX.condT rfl hb ?_
            refine JX.skip ?_
            refine JE.code ?_
            refine JX.seq ?_
            refine JX.block ?_
            refine JX.seq ?_
            refine JX.region ?_
            refine JL.val (yl_move rfl) rfl ?_
            obtain ⟨x26, hx26, hres⟩ := bind_some hres
            refine JL.val (yl_idxT Go.Proofs.Try.underlying150 i9 i9s rfl rfl hx26 rfl (fun w hC => rd_row hC 3 rfl)) rfl ?_
            refine JL.val (yl_loadT0 Go.Proofs.Try.underlying9 rfl rfl hx26 (fun w hC => rd_row hC 3 rfl) rfl) rfl ?_
            refine JL.val (yl_assign rfl) rfl ?_
            refine JL.val (yl_assign rfl) rfl ?_
            refine JL.nil ?_
            refine JE.weak (env' := [(6, .slice a12 x11.length cp13), (10, ptrAt (some ⟨g20, 0, none⟩) 0), (11, .int .i64 x23), (12, .string x26), (28, .slice a2 x1.1.length cp3), (29, .int .i64 (x1.1.length : Int)), (30, .int .i64 x10), (40, .slice a16 x15.length cp17), (41, .int .i64 (x15.length : Int)), (42, .int .i64 x23)]) (es' := [rowT 88 eSToolMove a12 x11.length cp13 x11, rowT 154 eI64 (some ⟨g20, 0, none⟩) 3 3 x24, rowT 9 eStr a2 x1.1.length cp3 x1.1, rowT 9 eStr a16 x15.length cp17 x15]) [0, 1, 2, 3] ?_ ⟨rfl, rfl, rfl, rfl, rfl, rfl, rfl, rfl, rfl, rfl, trivial⟩ (by decide) rfl
            refine JE.code ?_
            refine JX.seq ?_
            refine JX.region ?_
            refine JL.val (yl_move rfl) rfl ?_
            obtain ⟨x27, hx27, hres⟩ := bind_some hres
            refine JL.eff (ef_call (T := T159 x27) Go.Proofs.Try.func159 rfl (by kernel_rfl) rfl (fun w hC => c159  hx27)) rfl ?_
            rintro _ _ ⟨_, ⟨rfl, rfl⟩, rfl⟩
            refine JL.val (yl_move rfl) rfl ?_
            refine JL.val (yl_extract rfl rfl) rfl ?_
            refine JL.val (yl_extract rfl rfl) rfl ?_
            refine JL.val (yl_assign rfl) rfl ?_
            refine JL.val (yl_assign rfl) rfl ?_
            refine JL.nil ?_
            refine JE.weak (env' := [(6, .slice a12 x11.length cp13), (10, ptrAt (some ⟨g20, 0, none⟩) 0), (11, .int .i64 x23), (13, .int .i64 x27.1), (14, .bool x27.2), (28, .slice a2 x1.1.length cp3), (29, .int .i64 (x1.1.length : Int)), (30, .int .i64 x10), (40, .slice a16 x15.length cp17), (41, .int .i64 (x15.length : Int)), (42, .int .i64 x23)]) (es' := [rowT 88 eSToolMove a12 x11.length cp13 x11, rowT 154 eI64 (some ⟨g20, 0, none⟩) 3 3 x24, rowT 9 eStr a2 x1.1.length cp3 x1.1, rowT 9 eStr a16 x15.length cp17 x15]) [0, 1, 2, 3] ?_ ⟨rfl, rfl, rfl, rfl, rfl, rfl, rfl, rfl, rfl, rfl, rfl, trivial⟩ (by decide) rfl
            refine JE.code ?_
            refine JX.seq ?_
            refine JX.seq ?_
            refine JX.region ?_
            refine JL.val (yl_move rfl) rfl ?_
            refine JL.val (yl_not rfl) rfl ?_
            refine JL.nil ?_
            refine JE.code ?_
            rcases cond_some hres with ⟨hb, hres⟩ | ⟨hb, hres⟩
            · refine JX.condT rfl hb ?_
              refine JX.seq ?_
              refine JX.region ?_
              refine JL.val (yl_assign rfl) rfl ?_
              refine JL.val (yl_assign rfl) rfl ?_
              refine JL.nil ?_
              refine JE.weak (env' := [(2, .slice none 0 0), (3, .bool false)]) (es' := []) [] ?_ ⟨rfl, rfl, trivial⟩ (by decide) rfl
              refine JE.code ?_
              refine JX.ret ?_
              refine JE.qbr ?_
              refine JE.qbr ?_
              refine JE.qbr ?_
              refine JE.qbr ?_
              refine JE.nilrow 88 eSToolMove ?_
              have hres := elimS_inr hresO2 (hox2 _ (Option.some.inj hres).symm)
              have hres := elimS_inr hresO1 (hox1 _ (Option.some.inj hres).symm)
              obtain rfl := Option.some.inj hres
              refine JE.ret (rs := [.tmp 2, .tmp 3]) (vs := [.slice none 0 0, .bool false]) rfl ⟨rfl, rfl, trivial⟩ ?_
              exact fun w' hb hs => ⟨_, _, ⟨none, 0, 0, rfl, rfl, rfl⟩, rfl, hb, hs.sel [0] _ (by decide) rfl⟩
            · refine JX.condF rfl hb ?_
              refine JX.skip ?_
              refine JE.code ?_
              refine JX.region ?_
              refine JL.val (yl_move rfl) rfl ?_
              refine JL.val (yl_move rfl) rfl ?_
              obtain ⟨x29, hx29, hres⟩ := bind_some hres
              refine JL.val (yl_idxArr (e := eI64) Go.Proofs.Try.underlying154 i2 i2s rfl rfl hx29 l25) rfl ?_
              refine JL.eff (ef_storeT (ix := 1) (u := x27.1) i2 i2s rfl rfl rfl hx29 rfl) rfl ?_
              rintro _ _ rfl
              refine JL.nil ?_
              refine JE.weak (env' := [(6, .slice a12 x11.length cp13), (10, ptrAt (some ⟨g20, 0, none⟩) 0), (28, .slice a2 x1.1.length cp3), (29, .int .i64 (x1.1.length : Int)), (30, .int .i64 x10), (40, .slice a16 x15.length cp17), (41, .int .i64 (x15.length : Int)), (42, .int .i64 x23)]) (es' := [rowT 88 eSToolMove a12 x11.length cp13 x11, rowT 154 eI64 (some ⟨g20, 0, none⟩) 3 3 (x24.set (x23).toNat x27.1), rowT 9 eStr a2 x1.1.length cp3 x1.1, rowT 9 eStr a16 x15.length cp17 x15]) [0, 1, 2, 3] ?_ ⟨rfl, rfl, rfl, rfl, rfl, rfl, rfl, rfl, trivial⟩ (by decide) rfl
              refine JE.code ?_
              refine JX.region ?_
              refine JL.val (yl_add rfl rfl) rfl ?_
              refine JL.val (yl_move rfl) rfl ?_
              refine JL.nil ?_
              refine JE.cont hres ?_
              exact fun a w h => ⟨(List.length_set.trans l25), h.weak ⟨rfl, rfl, rfl, rfl, rfl, rfl, rfl, rfl, trivial⟩ [0, 1, 2, 3] (by decide) rfl⟩
          · refine JX.condF rfl hb ?_
            refine JX.exit ?_
            refine JE.qb rfl ?_
            obtain ⟨b2, hb2⟩ : ∃ b : List Int, b = x24 := ⟨_, rfl⟩
            have hy2 : Sum.inl b2 = y2 := by rw [hb2]; exact hox2 _ (Option.some.inj hres).symm
            have hres := elimS_inl hresO2 hy2
            have l30 : b2.length = 3 := by subst hb2; exact l25
            refine JE.weak (env' := [(6, .slice a12 x11.length cp13), (10, ptrAt (some ⟨g20, 0, none⟩) 0), (28, .slice a2 x1.1.length cp3), (29, .int .i64 (x1.1.length : Int)), (30, .int .i64 x10)]) (es' := [rowT 88 eSToolMove a12 x11.length cp13 x11, rowT 154 eI64 (some ⟨g20, 0, none⟩) 3 3 b2, rowT 9 eStr a2 x1.1.length cp3 x1.1]) [0, 1, 2] ?_ ⟨(by subst hb2; rfl), (by subst hb2; rfl), (by subst hb2; rfl), (by subst hb2; rfl), (by subst hb2; rfl), trivial⟩ (by decide) (by subst hb2; rfl)
            refine JE.code ?_
            refine JX.region ?_
            refine JL.val (yl_move rfl) rfl ?_
            obtain ⟨x31, hx31, hres⟩ := bind_some hres
            refine JL.val (yl_idxArr (e := eI64) Go.Proofs.Try.underlying154 i2 i2s rfl rfl hx31 l30) rfl ?_
            refine JL.val (yl_loadT0 Go.Proofs.Try.underlying2 rfl rfl hx31 (fun w hC => rd_row hC 1 rfl) rfl) rfl ?_
            obtain ⟨x32, hx32, hres⟩ := bind_some hres
            refine JL.val (yl_idxArr (e := eI64) Go.Proofs.Try.underlying154 i2 i2s rfl rfl hx32 l30) rfl ?_
            refine JL.val (yl_loadT0 Go.Proofs.Try.underlying2 rfl rfl hx32 (fun w hC => rd_row hC 1 rfl) rfl) rfl ?_
            obtain ⟨x33, hx33, hres⟩ := bind_some hres
            refine JL.val (yl_idxArr (e := eI64) Go.Proofs.Try.underlying154 i2 i2s rfl rfl hx33 l30) rfl ?_
            refine JL.val (yl_loadT0 Go.Proofs.Try.underlying2 rfl rfl hx33 (fun w hC => rd_row hC 1 rfl) rfl) rfl ?_
            refine JL.val (yl_build rfl (fun w => bld88_0_1_2 x31 x32 x33 w)) rfl ?_
            refine JL.eff (ef_buildSlice (E := 88) (k := eSToolMove.k) (us := eSToolMove.fl [SToolMove.mk x31 x32 x33]) rfl (fun w => bsl65_1 x31 x32 x33 w) rfl (by decide)) rfl ?_
            rintro _ _ ⟨a34, rfl, rfl⟩
            obtain ⟨x36, hx36, hres⟩ := bind_some hres
            refine JL.eff (ef_appendT (ix := 0) Go.Proofs.Try.underlying65 i88 i88z i88s rfl i88b0 i88b1 rfl rfl rfl rfl rfl (fun w hC => rd_row hC 3 rfl) hx36) rfl ?_
            rintro _ _ ⟨a37, cp38, rfl, rfl⟩
            refine JL.val (yl_assign rfl) rfl ?_
            refine JL.nil ?_
            refine JE.weak (env' := [(6, .slice a37 x36.length cp38), (28, .slice a2 x1.1.length cp3), (29, .int .i64 (x1.1.length : Int)), (30, .int .i64 x10)]) (es' := [rowT 88 eSToolMove a37 x36.length cp38 x36, rowT 9 eStr a2 x1.1.length cp3 x1.1]) [0, 2] ?_ ⟨rfl, rfl, rfl, rfl, trivial⟩ (by decide) rfl
            refine JE.code ?_
            refine JX.region ?_
            refine JL.val (yl_add rfl rfl) rfl ?_
            refine JL.val (yl_move rfl) rfl ?_
            refine JL.nil ?_
            refine JE.cont hres ?_
            exact fun a w h => ⟨a37, cp38, h.weak ⟨rfl, rfl, rfl, rfl, trivial⟩ [0, 1] (by decide) rfl⟩
      · refine JX.condF rfl hb ?_
        refine JX.exit ?_
        refine JE.qb rfl ?_
        obtain ⟨b1, hb1⟩ : ∃ b : List SToolMove, b = x11 := ⟨_, rfl⟩
        have hy1 : Sum.inl b1 = y1 := by rw [hb1]; exact hox1 _ (Option.some.inj hres).symm
        have hres := elimS_inl hresO1 hy1
        refine JE.weak (env' := [(6, .slice a12 b1.length cp13)]) (es' := [rowT 88 eSToolMove a12 b1.length cp13 b1]) [0] ?_ ⟨(by subst hb1; rfl), trivial⟩ (by decide) (by subst hb1; rfl)
        refine JE.code ?_
        refine JX.seq ?_
        refine JX.seq ?_
        refine JX.region ?_
        refine JL.val (yl_move rfl) rfl ?_
        obtain ⟨x41, hx41, hres⟩ := bind_some hres
        refine JL.eff (ef_call (T := T151 x41) Go.Proofs.Try.func151 rfl (by kernel_rfl) rfl (fun w hC => c151 (rd_row hC 0 rfl) rfl (ln_row hC 0 rfl) hx41)) rfl ?_
        rintro _ _ ⟨_, ⟨rfl, rfl⟩, rfl⟩
        refine JL.val (yl_not rfl) rfl ?_
        refine JL.nil ?_
        refine JE.code ?_
        rcases cond_some hres with ⟨hb, hres⟩ | ⟨hb, hres⟩
        · refine JX.condT rfl hb ?_
          refine JX.seq ?_
          refine JX.region ?_
          refine JL.val (yl_assign rfl) rfl ?_
          refine JL.val (yl_assign rfl) rfl ?_
          refine JL.nil ?_
          refine JE.weak (env' := [(2, .slice none 0 0), (3, .bool false)]) (es' := []) [] ?_ ⟨rfl, rfl, trivial⟩ (by decide) rfl
          refine JE.code ?_
          refine JX.ret ?_
          refine JE.nilrow 88 eSToolMove ?_
          obtain rfl := Option.some.inj hres
          refine JE.ret (rs := [.tmp 2, .tmp 3]) (vs := [.slice none 0 0, .bool false]) rfl ⟨rfl, rfl, trivial⟩ ?_
          exact fun w' hb hs => ⟨_, _, ⟨none, 0, 0, rfl, rfl, rfl⟩, rfl, hb, hs.sel [0] _ (by decide) rfl⟩
        · refine JX.condF rfl hb ?_
          refine JX.skip ?_
          refine JE.code ?_
          refine JX.seq ?_
          refine JX.region ?_
          refine JL.val (yl_move rfl) rfl ?_
          refine JL.val (yl_assign rfl) rfl ?_
          refine JL.val (yl_assign rfl) rfl ?_
          refine JL.nil ?_
          refine JE.code ?_
          refine JX.ret ?_
          obtain rfl := Option.some.inj hres
          refine JE.ret (rs := [.tmp 2, .tmp 3]) (vs := [.slice a12 b1.length cp13, .bool true]) rfl ⟨rfl, rfl, trivial⟩ ?_
          exact fun w' hb hs => ⟨_, _, ⟨a12, b1.length, cp13, rfl, rfl, rfl⟩, rfl, hb, hs.sel [0] _ (by decide) rfl⟩
  · intro K
    rcases Bool.eq_false_or_eq_true (!x1.2) with hb | hb
    · refine JL.set (d := 22) (v := .bool true) (congrArg (fun b => some (Value.bool b)) hb) ?_
      refine JL.gskip rfl rfl rfl rfl ?_
      refine JL.gskip rfl rfl rfl rfl ?_
      refine JL.gskip rfl rfl rfl rfl ?_
      refine JL.val (yl_pick_true rfl rfl) rfl ?_
      exact JL.weak [0] K ⟨rfl, (by rw [hb]; rfl), trivial⟩ (by decide) rfl
    · refine JL.set (d := 22) (v := .bool false) (congrArg (fun b => some (Value.bool b)) hb) ?_
      refine JL.gval rfl rfl (yl_move rfl) rfl ?_
      refine JL.gval rfl rfl (yl_len_slice Go.Proofs.Try.underlying150 rfl) rfl ?_
      refine JL.gval rfl rfl (yl_gtr rfl rfl) rfl ?_
      refine JL.val (yl_pick_false rfl rfl) rfl ?_
      exact JL.weak [0] K ⟨rfl, (by rw [hb]; rfl), trivial⟩ (by decide) rfl

/- spec.l01Dec -/
def sh208_1 : (Int × List Int) → Option ((Int × List Int) ⊕ (List Int))
  | (x5, x6) => bif x5 != 0 then (Option.bind (bif decide ((x5.tmod 10) < 0) then (some (w64 (0 - (x5.tmod 10)))) else (some (x5.tmod 10))) fun j9 => (Option.bind (appL [IntKind.u8.wrap (w64 (48 + j9))] x6) fun x12 => some (.inl (w64 (x5.tdiv 10), x12)))) else (some (.inr x6))
def sh208 (q0 : Int) : Option (ByteArray) := Option.bind (iter (sh208_1) (q0, ([] : List Int))) fun b1 => (bif (b1.length : Int) == 0 then (some (ByteArray.mk #[48])) else (bif decide (q0 < 0) then (Option.bind (catS (ByteArray.mk #[45]) (bytesS b1)) fun x17 => some x17) else (some (bytesS b1))))
def T208 (r : ByteArray) (v : Value) (rs : List Own) : Prop := v = rets [.string r] ∧ rs = []
set_option maxRecDepth 100000 in
theorem c208 {w : World} {q0 : Int} {r : ByteArray} (hres : sh208 q0 = some r) : Calls Go.Proofs.Try.prog 208 [.int .i64 q0].toArray w (Ret w (T208 r)) := by
  unfold sh208 at hres
  refine calls_of (n := 34) (M := []) (es := []) Go.Proofs.Try.func208 rfl rfl rfl (Sep.nil _ _ _) ?_
  refine JX.seq ?_
  refine JX.region ?_
  refine JL.val (yl_assign rfl) rfl ?_
  refine JL.nil ?_
  refine JE.code ?_
  refine JX.seq ?_
  refine JX.region ?_
  refine JL.eff (ef_buildSlice (E := 5) (k := eU8.k) (us := eU8.fl ([] : List Int)) rfl (fun w => bsl22_0  w) rfl (by decide)) rfl ?_
  rintro _ _ ⟨a1, rfl, rfl⟩
  refine JL.val (yl_assign rfl) rfl ?_
  refine JL.nil ?_
  refine JE.code ?_
  refine JX.seq ?_
  refine JX.seq ?_
  refine JX.region ?_
  refine JL.val (yl_move rfl) rfl ?_
  refine JL.val (yl_assign rfl) rfl ?_
  refine JL.nil ?_
  refine JE.code ?_
  refine JX.block ?_
  obtain ⟨y1, hy1, hresO1⟩ := bind_some hres
  refine JX.loop (I := fun (s1 : Int × List Int) aa ww => ∃ (a3 : Option Addr) (cp4 : Nat), St w [] 34 [(0, .int .i64 q0), (3, .slice a3 s1.2.length cp4), (4, .int .i64 s1.1)] [rowT 5 eU8 a3 s1.2.length cp4 s1.2] aa ww) (sh208_1) hy1 (fun a w h => ⟨a1, 0, h.weak ⟨rfl, rfl, rfl, trivial⟩ [0] (by decide) rfl⟩) ?_
  rintro ⟨x5, x6⟩ o1 hres hox1 aa ww ⟨a7, cp8, hS⟩
  refine (?_ : JX Go.Proofs.Try.prog w [] 34 _ _ [(0, .int .i64 q0), (3, .slice a7 x6.length cp8), (4, .int .i64 x5)] [rowT 5 eU8 a7 x6.length cp8 x6] _) aa ww hS
  clear hS
  simp only [sh208_1] at hres
  refine JX.seq ?_
  refine JX.seq ?_
  refine JX.region ?_
  refine JL.val (yl_move rfl) rfl ?_
  refine JL.val (yl_neq rfl rfl) rfl ?_
  refine JL.nil ?_
  refine JE.code ?_
  rcases cond_some hres with ⟨hb, hres⟩ | ⟨hb, hres⟩
  · refine JX.condT rfl hb ?_
    refine JX.skip ?_
    refine JE.code ?_
    refine JX.seq ?_
    refine JX.block ?_
    refine JX.seq ?_
    refine JX.region ?_
    refine JL.val (yl_move rfl) rfl ?_
    refine JL.val (yl_rem rfl rfl (by decide)) rfl ?_
    refine JL.val (yl_assign rfl) rfl ?_
    refine JL.nil ?_
    refine JE.code ?_
    refine JX.seq ?_
    refine JX.seq ?_
    refine JX.region ?_
    refine JL.val (yl_move rfl) rfl ?_
    refine JL.val (yl_lss rfl rfl) rfl ?_
    refine JL.nil ?_
    refine JE.code ?_
    obtain ⟨j9, hj9, hresj9⟩ := bind_some hres
    refine JX.cut (K := fun J => J [(0, .int .i64 q0), (3, .slice a7 x6.length cp8), (4, .int .i64 x5), (5, .int .i64 j9)] [rowT 5 eU8 a7 x6.length cp8 x6]) ?_ ?_
    · have hres := hresj9
      refine JE.code ?_
      refine JX.region ?_
      refine JL.val (yl_move rfl) rfl ?_
      refine JL.val (yl_add rfl rfl) rfl ?_
      refine JL.val (yl_conv Go.Proofs.Try.underlying2 Go.Proofs.Try.underlying5 rfl) rfl ?_
      refine JL.eff (ef_buildSlice (E := 5) (k := eU8.k) (us := eU8.fl [IntKind.u8.wrap (w64 (48 + j9))]) rfl (fun w => bsl22_1 (IntKind.u8.wrap (w64 (48 + j9))) w) rfl (by decide)) rfl ?_
      rintro _ _ ⟨a10, rfl, rfl⟩
      refine JL.val (yl_move rfl) rfl ?_
      obtain ⟨x12, hx12, hres⟩ := bind_some hres
      refine JL.eff (ef_appendT (ix := 1) Go.Proofs.Try.underlying22 i5 i5z i5s rfl i5b0 i5b1 rfl rfl rfl rfl rfl (fun w hC => rd_row hC 0 rfl) hx12) rfl ?_
      rintro _ _ ⟨a13, cp14, rfl, rfl⟩
      refine JL.val (yl_assign rfl) rfl ?_
      refine JL.nil ?_
      refine JE.weak (env' := [(0, .int .i64 q0), (3, .slice a13 x12.length cp14), (4, .int .i64 x5)]) (es' := [rowT 5 eU8 a13 x12.length cp14 x12]) [1] ?_ ⟨rfl, rfl, rfl, trivial⟩ (by decide) rfl
      refine JE.code ?_
      refine JX.region ?_
      refine JL.val (yl_move rfl) rfl ?_
      refine JL.val (yl_quo rfl rfl (by decide)) rfl ?_
      refine JL.val (yl_assign rfl) rfl ?_
      refine JL.nil ?_
      refine JE.cont hres ?_
      exact fun a w h => ⟨a13, cp14, h.weak ⟨rfl, rfl, rfl, trivial⟩ [0] (by decide) rfl⟩
    · intro K
      rcases cond_some hj9 with ⟨hb, hres⟩ | ⟨hb, hres⟩
      · refine JX.condT rfl hb ?_
        refine JX.region ?_
        refine JL.val (yl_move rfl) rfl ?_
        refine JL.val (yl_neg rfl) rfl ?_
        refine JL.val (yl_assign rfl) rfl ?_
        refine JL.nil ?_
        have hj := Option.some.inj hres
        exact JE.weak [0] (K) ⟨(by subst hj; rfl), (by subst hj; rfl), (by subst hj; rfl), (by subst hj; rfl), trivial⟩ (by decide) (by subst hj; rfl)
      · refine JX.condF rfl hb ?_
        refine JX.skip ?_
        have hj := Option.some.inj hres
        exact JE.weak [0] (K) ⟨(by subst hj; rfl), (by subst hj; rfl), (by subst hj; rfl), (by subst hj; rfl), trivial⟩ (by decide) (by subst hj; rfl)
  · refine JX.condF rfl hb ?_
    refine JX.exit ?_
    refine JE.qb rfl ?_
    obtain ⟨b1, hb1⟩ : ∃ b : List Int, b = x6 := ⟨_, rfl⟩
    have hy1 : b1 = y1 := by rw [hb1]; exact hox1 _ (Option.some.inj hres).symm
    have hres := hresO1
    rw [← hy1] at hres
    refine JE.weak (env' := [(0, .int .i64 q0), (3, .slice a7 b1.length cp8)]) (es' := [rowT 5 eU8 a7 b1.length cp8 b1]) [0] ?_ ⟨(by subst hb1; rfl), (by subst hb1; rfl), trivial⟩ (by decide) (by subst hb1; rfl)
    refine JE.code ?_
    refine JX.seq ?_
    refine JX.seq ?_
    refine JX.region ?_
    refine JL.val (yl_move rfl) rfl ?_
    refine JL.val (yl_len_slice Go.Proofs.Try.underlying22 rfl) rfl ?_
    refine JL.val (yl_eql rfl rfl) rfl ?_
    refine JL.nil ?_
    refine JE.code ?_
    rcases cond_some hres with ⟨hb, hres⟩ | ⟨hb, hres⟩
    · refine JX.condT rfl hb ?_
      refine JX.seq ?_
      refine JX.region ?_
      refine JL.val (yl_assign rfl) rfl ?_
      refine JL.nil ?_
      refine JE.weak (env' := [(2, .string (ByteArray.mk #[48]))]) (es' := []) [] ?_ ⟨rfl, trivial⟩ (by decide) rfl
      refine JE.code ?_
      refine JX.ret ?_
      obtain rfl := Option.some.inj hres
      refine JE.ret (rs := [.tmp 2]) (vs := [.string (ByteArray.mk #[48])]) rfl ⟨rfl, trivial⟩ ?_
      exact fun w' hb hs => ⟨_, _, ⟨rfl, rfl⟩, rfl, hb, hs.sel [] _ (by decide) rfl⟩
    · refine JX.condF rfl hb ?_
      refine JX.skip ?_
      refine JE.code ?_
      refine JX.seq ?_
      refine JX.seq ?_
      refine JX.region ?_
      refine JL.val (yl_move rfl) rfl ?_
      refine JL.val (yl_lss rfl rfl) rfl ?_
      refine JL.nil ?_
      refine JE.code ?_
      rcases cond_some hres with ⟨hb, hres⟩ | ⟨hb, hres⟩
      · refine JX.condT rfl hb ?_
        refine JX.seq ?_
        refine JX.region ?_
        refine JL.val (yl_move rfl) rfl ?_
        refine JL.val (yl_bytesT Go.Proofs.Try.underlying22 Go.Proofs.Try.underlying9 Go.Proofs.Try.underlying5 rfl rfl (fun w hC => rd_row hC 0 rfl)) rfl ?_
        obtain ⟨x17, hx17, hres⟩ := bind_some hres
        refine JL.val (yl_catS rfl rfl hx17) rfl ?_
        refine JL.val (yl_assign rfl) rfl ?_
        refine JL.nil ?_
        refine JE.weak (env' := [(2, .string x17)]) (es' := []) [] ?_ ⟨rfl, trivial⟩ (by decide) rfl
        refine JE.code ?_
        refine JX.ret ?_
        obtain rfl := Option.some.inj hres
        refine JE.ret (rs := [.tmp 2]) (vs := [.string x17]) rfl ⟨rfl, trivial⟩ ?_
        exact fun w' hb hs => ⟨_, _, ⟨rfl, rfl⟩, rfl, hb, hs.sel [] _ (by decide) rfl⟩
      · refine JX.condF rfl hb ?_
        refine JX.skip ?_
        refine JE.code ?_
        refine JX.seq ?_
        refine JX.region ?_
        refine JL.val (yl_move rfl) rfl ?_
        refine JL.val (yl_bytesT Go.Proofs.Try.underlying22 Go.Proofs.Try.underlying9 Go.Proofs.Try.underlying5 rfl rfl (fun w hC => rd_row hC 0 rfl)) rfl ?_
        refine JL.val (yl_assign rfl) rfl ?_
        refine JL.nil ?_
        refine JE.weak (env' := [(2, .string (bytesS b1))]) (es' := []) [] ?_ ⟨rfl, trivial⟩ (by decide) rfl
        refine JE.code ?_
        refine JX.ret ?_
        obtain rfl := Option.some.inj hres
        refine JE.ret (rs := [.tmp 2]) (vs := [.string (bytesS b1)]) rfl ⟨rfl, trivial⟩ ?_
        exact fun w' hb hs => ⟨_, _, ⟨rfl, rfl⟩, rfl, hb, hs.sel [] _ (by decide) rfl⟩

/- spec.l22Text -/
def sh160_1 (q0 : List SToolMove) : (Int × List Int) → Option ((Int × List Int) ⊕ (List Int))
  | (x5, x6) => bif decide (x5 < (q0.length : Int)) then (Option.bind (getI q0 x5) fun x9 => Option.bind (sh208 x9.X) fun x11 => Option.bind (catS x11 (ByteArray.mk #[32])) fun x12 => Option.bind (sh208 x9.Y) fun x13 => Option.bind (catS x12 x13) fun x14 => Option.bind (catS x14 (ByteArray.mk #[32])) fun x15 => Option.bind (sh208 x9.Z) fun x16 => Option.bind (catS x15 x16) fun x17 => Option.bind (catS x17 (ByteArray.mk #[10])) fun x18 => Option.bind (appL x6 (strI x18)) fun x19 => some (.inl (w64 (x5 + 1), x19))) else (some (.inr x6))
def sh160 (q0 : List SToolMove) : Option (ByteArray) := Option.bind (iter (sh160_1 q0) (0, ([] : List Int))) fun b1 => (some (bytesS b1))
def T160 (r : ByteArray) (v : Value) (rs : List Own) : Prop := v = rets [.string r] ∧ rs = []
set_option maxRecDepth 100000 in
theorem c160 {w : World} {q0 : List SToolMove} {a_0 : Option Addr} {n_0 c_0 : Nat} (g_0 : Rd w a_0 (eSToolMove.fl q0)) (l_0 : q0.length = n_0) (k_0 : n_0 ≤ c_0) {r : ByteArray} (hres : sh160 q0 = some r) : Calls Go.Proofs.Try.prog 160 [.slice a_0 n_0 c_0].toArray w (Ret w (T160 r)) := by
  subst l_0
  unfold sh160 at hres
  refine calls_of (n := 40) (M := []) (es := []) Go.Proofs.Try.func160 rfl rfl rfl (Sep.nil _ _ _) ?_
  refine JX.seq ?_
  refine JX.region ?_
  refine JL.val (yl_assign rfl) rfl ?_
  refine JL.nil ?_
  refine JE.code ?_
  refine JX.seq ?_
  refine JX.region ?_
  refine JL.eff (ef_buildSlice (E := 5) (k := eU8.k) (us := eU8.fl ([] : List Int)) rfl (fun w => bsl22_0  w) rfl (by decide)) rfl ?_
  rintro _ _ ⟨a1, rfl, rfl⟩
  refine JL.val (yl_assign rfl) rfl ?_
  refine JL.nil ?_
  refine JE.code ?_
  refine JX.seq ?_
  refine JX.seq ?_
  refine JX.region ?_
  refine JL.val (yl_assign rfl) rfl ?_
  refine JL.nil ?_
  refine JE.code ?_
  refine JX.block ?_
  obtain ⟨y1, hy1, hresO1⟩ := bind_some hres
  refine JX.loop (I := fun (s1 : Int × List Int) aa ww => ∃ (a3 : Option Addr) (cp4 : Nat), St w [] 40 [(0, .slice a_0 q0.length c_0), (3, .slice a3 s1.2.length cp4), (4, .int .i64 s1.1)] [rowT 5 eU8 a3 s1.2.length cp4 s1.2] aa ww) (sh160_1 q0) hy1 (fun a w h => ⟨a1, 0, h.weak ⟨rfl, rfl, rfl, trivial⟩ [0] (by decide) rfl⟩) ?_
  rintro ⟨x5, x6⟩ o1 hres hox1 aa ww ⟨a7, cp8, hS⟩
  refine (?_ : JX Go.Proofs.Try.prog w [] 40 _ _ [(0, .slice a_0 q0.length c_0), (3, .slice a7 x6.length cp8), (4, .int .i64 x5)] [rowT 5 eU8 a7 x6.length cp8 x6] _) aa ww hS
  clear hS
  simp only [sh160_1] at hres
  refine JX.seq ?_
  refine JX.seq ?_
  refine JX.region ?_
  refine JL.val (yl_move rfl) rfl ?_
  refine JL.val (yl_move rfl) rfl ?_
  refine JL.val (yl_len_slice Go.Proofs.Try.underlying65 rfl) rfl ?_
  refine JL.val (yl_lss rfl rfl) rfl ?_
  refine JL.nil ?_
  refine JE.weak (env' := [(0, .slice a_0 q0.length c_0), (3, .slice a7 x6.length cp8), (4, .int .i64 x5), (10, .bool (decide (x5 < (q0.length : Int))))]) (es' := [rowT 5 eU8 a7 x6.length cp8 x6]) [0] ?_ ⟨rfl, rfl, rfl, rfl, trivial⟩ (by decide) rfl
  refine JE.code ?_
  rcases cond_some hres with ⟨hb, hres⟩ | ⟨hb, hres⟩
  · refine JX.condT rfl hb ?_
    refine JX.skip ?_
    refine JE.code ?_
    refine JX.seq ?_
    refine JX.block ?_
    refine JX.seq ?_
    refine JX.region ?_
    refine JL.val (yl_move rfl) rfl ?_
    refine JL.val (yl_move rfl) rfl ?_
    obtain ⟨x9, hx9, hres⟩ := bind_some hres
    refine JL.val (yl_idxT Go.Proofs.Try.underlying65 i88 i88s rfl rfl hx9 rfl (fun w hC => rd_arg g_0 hC)) rfl ?_
    refine JL.val (yl_assign rfl) rfl ?_
    refine JL.nil ?_
    refine JE.weak (env' := [(0, .slice a_0 q0.length c_0), (3, .slice a7 x6.length cp8), (4, .int .i64 x5), (5, ptrAt a_0 ((x5).toNat * eSToolMove.k))]) (es' := [rowT 5 eU8 a7 x6.length cp8 x6]) [0] ?_ ⟨rfl, rfl, rfl, rfl, trivial⟩ (by decide) rfl
    refine JE.code ?_
    refine JX.drawH [(0, .pure), (1, .pure), (2, .pure), (3, .pure), (4, .read), (7, .pure), (8, .pure), (9, .pure), (10, .read), (14, .pure), (15, .pure), (16, .pure), (17, .read), (5, .must), (6, .pure), (11, .must), (12, .pure), (13, .pure), (18, .must), (19, .pure), (20, .pure), (21, .must), (22, .pure)] [21] [0] [] [rowT 5 eU8 a7 x6.length cp8 x6] [] mixedP (by kernel_rfl) (by kernel_rfl) (by decide) rfl rfl ?_
    intro wrr10 Nr10 hFr10
    refine JH.pure rfl (yl_move rfl) rfl ?_
    refine JH.pure rfl (yl_move rfl) rfl ?_
    refine JH.pure rfl (yl_nilCheckAt rfl (RdT.someQ (rd_arg g_0 hFr10.cl) hx9 rfl rfl)) rfl ?_
    refine JH.pure rfl (yl_fieldAt Go.Proofs.Try.underlying88 rfl i2 i2n rfl (RdT.someQ (rd_arg g_0 hFr10.cl) hx9 rfl rfl)) rfl ?_
    refine JH.read rfl (yl_loadT1 Go.Proofs.Try.underlying2 rfl rfl hx9 (fun w hw => hFr10.arg g_0 hw) rfl) rfl ?_
    refine JH.pure rfl (yl_move rfl) rfl ?_
    refine JH.pure rfl (yl_nilCheckAt rfl (RdT.someQ (rd_arg g_0 hFr10.cl) hx9 rfl rfl)) rfl ?_
    refine JH.pure rfl (yl_fieldAt Go.Proofs.Try.underlying88 rfl i2 i2n rfl (RdT.someQ (rd_arg g_0 hFr10.cl) hx9 rfl rfl)) rfl ?_
    refine JH.read rfl (yl_loadT1 Go.Proofs.Try.underlying2 rfl rfl hx9 (fun w hw => hFr10.arg g_0 hw) rfl) rfl ?_
    refine JH.pure rfl (yl_move rfl) rfl ?_
    refine JH.pure rfl (yl_nilCheckAt rfl (RdT.someQ (rd_arg g_0 hFr10.cl) hx9 rfl rfl)) rfl ?_
    refine JH.pure rfl (yl_fieldAt Go.Proofs.Try.underlying88 rfl i2 i2n rfl (RdT.someQ (rd_arg g_0 hFr10.cl) hx9 rfl rfl)) rfl ?_
    refine JH.read rfl (yl_loadT1 Go.Proofs.Try.underlying2 rfl rfl hx9 (fun w hw => hFr10.arg g_0 hw) rfl) rfl ?_
    obtain ⟨x11, hx11, hres⟩ := bind_some hres
    refine JH.must rfl (ef_call (T := T208 x11) Go.Proofs.Try.func208 rfl (by kernel_rfl) rfl (fun w hC => c208  hx11)) rfl rfl ?_
    rintro _ _ ⟨_, ⟨rfl, rfl⟩, rfl⟩
    obtain ⟨x12, hx12, hres⟩ := bind_some hres
    refine JH.pure rfl (yl_catS rfl rfl hx12) rfl ?_
    obtain ⟨x13, hx13, hres⟩ := bind_some hres
    refine JH.must rfl (ef_call (T := T208 x13) Go.Proofs.Try.func208 rfl (by kernel_rfl) rfl (fun w hC => c208  hx13)) rfl rfl ?_
    rintro _ _ ⟨_, ⟨rfl, rfl⟩, rfl⟩
    obtain ⟨x14, hx14, hres⟩ := bind_some hres
    refine JH.pure rfl (yl_catS rfl rfl hx14) rfl ?_
    obtain ⟨x15, hx15, hres⟩ := bind_some hres
    refine JH.pure rfl (yl_catS rfl rfl hx15) rfl ?_
    obtain ⟨x16, hx16, hres⟩ := bind_some hres
    refine JH.must rfl (ef_call (T := T208 x16) Go.Proofs.Try.func208 rfl (by kernel_rfl) rfl (fun w hC => c208  hx16)) rfl rfl ?_
    rintro _ _ ⟨_, ⟨rfl, rfl⟩, rfl⟩
    obtain ⟨x17, hx17, hres⟩ := bind_some hres
    refine JH.pure rfl (yl_catS rfl rfl hx17) rfl ?_
    obtain ⟨x18, hx18, hres⟩ := bind_some hres
    refine JH.pure rfl (yl_catS rfl rfl hx18) rfl ?_
    obtain ⟨x19, hx19, hres⟩ := bind_some hres
    refine JH.must rfl (ef_appendS (ix := 0) Go.Proofs.Try.underlying22 Go.Proofs.Try.underlying9 i5 i5z i5s i5b rfl rfl rfl rfl hx19) rfl rfl ?_
    rintro _ _ ⟨a20, cp21, rfl, rfl⟩
    refine JH.pure rfl (yl_assign rfl) rfl ?_
    refine JH.nil ?_
    refine JE.weak (env' := [(0, .slice a_0 q0.length c_0), (3, .slice a20 x19.length cp21), (4, .int .i64 x5)]) (es' := [rowT 5 eU8 a20 x19.length cp21 x19]) [0] ?_ ⟨rfl, rfl, rfl, trivial⟩ (by decide) rfl
    refine JE.code ?_
    refine JX.region ?_
    refine JL.val (yl_move rfl) rfl ?_
    refine JL.val (yl_add rfl rfl) rfl ?_
    refine JL.val (yl_assign rfl) rfl ?_
    refine JL.nil ?_
    refine JE.cont hres ?_
    exact fun a w h => ⟨a20, cp21, h.weak ⟨rfl, rfl, rfl, trivial⟩ [0] (by decide) rfl⟩
  · refine JX.condF rfl hb ?_
    refine JX.exit ?_
    refine JE.qb rfl ?_
    obtain ⟨b1, hb1⟩ : ∃ b : List Int, b = x6 := ⟨_, rfl⟩
    have hy1 : b1 = y1 := by rw [hb1]; exact hox1 _ (Option.some.inj hres).symm
    have hres := hresO1
    rw [← hy1] at hres
    refine JE.weak (env' := [(3, .slice a7 b1.length cp8)]) (es' := [rowT 5 eU8 a7 b1.length cp8 b1]) [0] ?_ ⟨(by subst hb1; rfl), trivial⟩ (by decide) (by subst hb1; rfl)
    refine JE.code ?_
    refine JX.seq ?_
    refine JX.region ?_
    refine JL.val (yl_move rfl) rfl ?_
    refine JL.val (yl_bytesT Go.Proofs.Try.underlying22 Go.Proofs.Try.underlying9 Go.Proofs.Try.underlying5 rfl rfl (fun w hC => rd_row hC 0 rfl)) rfl ?_
    refine JL.val (yl_assign rfl) rfl ?_
    refine JL.nil ?_
    refine JE.weak (env' := [(2, .string (bytesS b1))]) (es' := []) [] ?_ ⟨rfl, trivial⟩ (by decide) rfl
    refine JE.code ?_
    refine JX.ret ?_
    obtain rfl := Option.some.inj hres
    refine JE.ret (rs := [.tmp 2]) (vs := [.string (bytesS b1)]) rfl ⟨rfl, trivial⟩ ?_
    exact fun w' hb hs => ⟨_, _, ⟨rfl, rfl⟩, rfl, hb, hs.sel [] _ (by decide) rfl⟩

/- (*spec.l00Src).text -/
def sh209 (q0 : Sl00Src) (q1 : List ByteArray) : Option (ByteArray × Int × Int) := Option.bind (sh92 q0 (q1.length : Int)) fun x1 => Option.bind (getI q1 x1.1) fun x2 => some (x2, x1.2.1, x1.2.2)
def T209 (gb_0 : Nat) (a_0_0 : Option Addr) (n_0_0 c_0_0 : Nat) (r : ByteArray × Int × Int) (v : Value) (es' rs : List Own) : Prop := es' = [boxO 163 gb_0 [.slice a_0_0 n_0_0 c_0_0, .int .i64 r.2.1, .int .u64 r.2.2]] ∧ v = rets [.string r.1] ∧ rs = []
set_option maxRecDepth 100000 in
theorem c209 {w : World} {M : List Nat} {q0 : Sl00Src} {gb_0 : Nat} {a_0_0 : Option Addr} {n_0_0 c_0_0 : Nat} (g_0_0 : RdS M w a_0_0 (eU8.fl q0.code)) (l_0_0 : q0.code.length = n_0_0) (k_0_0 : n_0_0 ≤ c_0_0) {q1 : List ByteArray} {a_1 : Option Addr} {n_1 c_1 : Nat} (g_1 : RdS M w a_1 (eStr.fl q1)) (l_1 : q1.length = n_1) (k_1 : n_1 ≤ c_1) (gs : Sep w.heap.size M w [boxO 163 gb_0 [.slice a_0_0 n_0_0 c_0_0, .int .i64 q0.at_, .int .u64 q0.seed]]) {r : ByteArray × Int × Int} (hres : sh209 q0 q1 = some r) : Calls Go.Proofs.Try.prog 209 [ptrAt (some ⟨gb_0, 0, none⟩) 0, .slice a_1 n_1 c_1].toArray w (RetMs w M (T209 gb_0 a_0_0 n_0_0 c_0_0 r)) := by
  subst l_0_0
  subst l_1
  unfold sh209 at hres
  refine calls_of (n := 12) (M := M) (es := [boxO 163 gb_0 [.slice a_0_0 q0.code.length c_0_0, .int .i64 q0.at_, .int .u64 q0.seed]]) Go.Proofs.Try.func209 rfl rfl rfl gs ?_
  refine JX.seq ?_
  refine JX.region ?_
  refine JL.val (yl_assign rfl) rfl ?_
  refine JL.nil ?_
  refine JE.code ?_
  refine JX.seq ?_
  refine JX.region ?_
  refine JL.val (yl_move rfl) rfl ?_
  refine JL.val (yl_move rfl) rfl ?_
  refine JL.val (yl_move rfl) rfl ?_
  refine JL.val (yl_len_slice Go.Proofs.Try.underlying150 rfl) rfl ?_
  obtain ⟨x1, hx1, hres⟩ := bind_some hres
  refine JL.eff (ef_callms (caps := []) (vs := [ptrAt (some ⟨gb_0, 0, none⟩) 0, .int .i64 (q1.length : Int)]) (T := T92 gb_0 a_0_0 q0.code.length c_0_0 x1) [0] [] [boxO 163 gb_0 [.slice a_0_0 q0.code.length c_0_0, .int .i64 q0.at_, .int .u64 q0.seed]] [] rfl Go.Proofs.Try.func92 rfl (by kernel_rfl) rfl (by decide) rfl rfl (fun w N hF hS => c92 (q0 := q0) (RdS.pass hF g_0_0) rfl k_0_0 hS hx1)) rfl ?_
  rintro _ _ ⟨_, _, ⟨rfl, rfl, rfl⟩, rfl⟩
  obtain ⟨x2, hx2, hres⟩ := bind_some hres
  refine JL.val (yl_idxT Go.Proofs.Try.underlying150 i9 i9s rfl rfl hx2 rfl (fun w hC => rd_argS g_1 hC)) rfl ?_
  refine JL.val (yl_loadT0 Go.Proofs.Try.underlying9 rfl rfl hx2 (fun w hC => rd_argS g_1 hC) rfl) rfl ?_
  refine JL.val (yl_assign rfl) rfl ?_
  refine JL.nil ?_
  refine JE.weak (env' := [(4, .string x2)]) (es' := [boxO 163 gb_0 [.slice a_0_0 q0.code.length c_0_0, .int .i64 x1.2.1, .int .u64 x1.2.2]]) [0] ?_ ⟨rfl, trivial⟩ (by decide) rfl
  refine JE.code ?_
  refine JX.ret ?_
  obtain rfl := Option.some.inj hres
  refine JE.ret (rs := [.tmp 4]) (vs := [.string x2]) rfl ⟨rfl, trivial⟩ ?_
  exact fun w' hb hs => ⟨_, _, _, ⟨rfl, rfl, rfl⟩, rfl, hb, hs.sel [0] _ (by decide) rfl⟩

/- spec.l01Spoil -/
def sh162 (q0 : Sl00Src) (q1 : ByteArray) : Option (ByteArray × Int × Int) := Option.bind (sh92 q0 5) fun x1 => Option.bind (bif x1.1 == 0 then (Option.bind (sh92 (Sl00Src.mk q0.code x1.2.1 x1.2.2) (w64 ((q1.size : Int) + 1))) fun x3 => Option.bind (subS q1 0 x3.1) fun x5 => Option.bind (subS q1 x3.1 (q1.size : Int)) fun x6 => Option.bind (sh209 (Sl00Src.mk q0.code x3.2.1 x3.2.2) ([ByteArray.mk #[32], ByteArray.mk #[48], ByteArray.mk #[45], ByteArray.mk #[120], ByteArray.mk #[49], ByteArray.mk #[57], ByteArray.mk #[46]])) fun x9 => Option.bind (catS x5 x9.1) fun x10 => Option.bind (catS x10 x6) fun x11 => some (x11, (x9.2.1, x9.2.2))) else (Option.bind (bif x1.1 == 1 then (Option.bind (bif !(q1.toList == (ByteArray.mk #[]).toList) then (Option.bind (sh92 (Sl00Src.mk q0.code x1.2.1 x1.2.2) (q1.size : Int)) fun x14 => Option.bind (subS q1 0 x14.1) fun x16 => Option.bind (subS q1 (w64 (x14.1 + 1)) (q1.size : Int)) fun x17 => Option.bind (catS x16 x17) fun x18 => some (x18, (x14.2.1, x14.2.2))) else (some (q1, (x1.2.1, x1.2.2)))) fun j13 => (some (j13.1, (j13.2.1, j13.2.2)))) else (some (q1, (x1.2.1, x1.2.2)))) fun j12 => (some (j12.1, (j12.2.1, j12.2.2))))) fun j2 => (some (j2.1, j2.2.1, j2.2.2))
def T162 (gb_0 : Nat) (a_0_0 : Option Addr) (n_0_0 c_0_0 : Nat) (r : ByteArray × Int × Int) (v : Value) (es' rs : List Own) : Prop := es' = [boxO 163 gb_0 [.slice a_0_0 n_0_0 c_0_0, .int .i64 r.2.1, .int .u64 r.2.2]] ∧ v = rets [.string r.1] ∧ rs = []
set_option maxRecDepth 100000 in
theorem c162 {w : World} {M : List Nat} {q0 : Sl00Src} {gb_0 : Nat} {a_0_0 : Option Addr} {n_0_0 c_0_0 : Nat} (g_0_0 : RdS M w a_0_0 (eU8.fl q0.code)) (l_0_0 : q0.code.length = n_0_0) (k_0_0 : n_0_0 ≤ c_0_0) {q1 : ByteArray} (gs : Sep w.heap.size M w [boxO 163 gb_0 [.slice a_0_0 n_0_0 c_0_0, .int .i64 q0.at_, .int .u64 q0.seed]]) {r : ByteArray × Int × Int} (hres : sh162 q0 q1 = some r) : Calls Go.Proofs.Try.prog 162 [ptrAt (some ⟨gb_0, 0, none⟩) 0, .string q1].toArray w (RetMs w M (T162 gb_0 a_0_0 n_0_0 c_0_0 r)) := by
  subst l_0_0
  unfold sh162 at hres
  refine calls_of (n := 44) (M := M) (es := [boxO 163 gb_0 [.slice a_0_0 q0.code.length c_0_0, .int .i64 q0.at_, .int .u64 q0.seed]]) Go.Proofs.Try.func162 rfl rfl rfl gs ?_
  refine JX.seq ?_
  refine JX.region ?_
  refine JL.val (yl_assign rfl) rfl ?_
  refine JL.nil ?_
  refine JE.code ?_
  refine JX.seq ?_
  refine JX.seq ?_
  refine JX.region ?_
  refine JL.val (yl_move rfl) rfl ?_
  obtain ⟨x1, hx1, hres⟩ := bind_some hres
  refine JL.eff (ef_callms (caps := []) (vs := [ptrAt (some ⟨gb_0, 0, none⟩) 0, .int .i64 5]) (T := T92 gb_0 a_0_0 q0.code.length c_0_0 x1) [0] [] [boxO 163 gb_0 [.slice a_0_0 q0.code.length c_0_0, .int .i64 q0.at_, .int .u64 q0.seed]] [] rfl Go.Proofs.Try.func92 rfl (by kernel_rfl) rfl (by decide) rfl rfl (fun w N hF hS => c92 (q0 := q0) (RdS.pass hF g_0_0) rfl k_0_0 hS hx1)) rfl ?_
  rintro _ _ ⟨_, _, ⟨rfl, rfl, rfl⟩, rfl⟩
  refine JL.nil ?_
  refine JE.code ?_
  refine JX.block ?_
  refine JX.seq ?_
  refine JX.region ?_
  refine JL.val (yl_eql rfl rfl) rfl ?_
  refine JL.val (yl_assign rfl) rfl ?_
  refine JL.nil ?_
  refine JE.code ?_
  obtain ⟨j2, hj2, hresj2⟩ := bind_some hres
  refine JX.cut (K := fun J => J [(1, .string j2.1)] [boxO 163 gb_0 [.slice a_0_0 q0.code.length c_0_0, .int .i64 j2.2.1, .int .u64 j2.2.2]]) ?_ ?_
  · have hres := hresj2
    refine JE.code ?_
    refine JX.seq ?_
    refine JX.region ?_
    refine JL.val (yl_move rfl) rfl ?_
    refine JL.val (yl_assign rfl) rfl ?_
    refine JL.nil ?_
    refine JE.code ?_
    refine JX.ret ?_
    obtain rfl := Option.some.inj hres
    refine JE.ret (rs := [.tmp 4]) (vs := [.string j2.1]) rfl ⟨rfl, trivial⟩ ?_
    exact fun w' hb hs => ⟨_, _, _, ⟨rfl, rfl, rfl⟩, rfl, hb, hs.sel [0] _ (by decide) rfl⟩
  · intro K
    rcases cond_some hj2 with ⟨hb, hres⟩ | ⟨hb, hres⟩
    · refine JX.condT rfl hb ?_
      refine JX.seq ?_
      refine JX.region ?_
      refine JL.val (yl_move rfl) rfl ?_
      refine JL.val (yl_move rfl) rfl ?_
      refine JL.val (yl_len_string Go.Proofs.Try.underlying9 rfl) rfl ?_
      refine JL.val (yl_add rfl rfl) rfl ?_
      obtain ⟨x3, hx3, hres⟩ := bind_some hres
      refine JL.eff (ef_callms (caps := []) (vs := [ptrAt (some ⟨gb_0, 0, none⟩) 0, .int .i64 (w64 ((q1.size : Int) + 1))]) (T := T92 gb_0 a_0_0 q0.code.length c_0_0 x3) [0] [] [boxO 163 gb_0 [.slice a_0_0 q0.code.length c_0_0, .int .i64 x1.2.1, .int .u64 x1.2.2]] [] rfl Go.Proofs.Try.func92 rfl (by kernel_rfl) rfl (by decide) rfl rfl (fun w N hF hS => c92 (q0 := Sl00Src.mk q0.code x1.2.1 x1.2.2) (RdS.pass hF g_0_0) rfl k_0_0 hS hx3)) rfl ?_
      rintro _ _ ⟨_, _, ⟨rfl, rfl, rfl⟩, rfl⟩
      refine JL.val (yl_assign rfl) rfl ?_
      refine JL.nil ?_
      refine JE.weak (env' := [(0, ptrAt (some ⟨gb_0, 0, none⟩) 0), (1, .string q1), (5, .int .i64 x3.1)]) (es' := [boxO 163 gb_0 [.slice a_0_0 q0.code.length c_0_0, .int .i64 x3.2.1, .int .u64 x3.2.2]]) [0] ?_ ⟨rfl, rfl, rfl, trivial⟩ (by decide) rfl
      refine JE.code ?_
      refine JX.drawH [(0, .pure), (1, .pure), (2, .pure), (3, .pure), (7, .pure), (8, .pure), (9, .pure), (4, .must), (5, .must), (6, .pure), (10, .pure), (11, .pure)] [5] [0] [] [boxO 163 gb_0 [.slice a_0_0 q0.code.length c_0_0, .int .i64 x3.2.1, .int .u64 x3.2.2]] [] mixedP (by kernel_rfl) (by kernel_rfl) (by decide) rfl rfl ?_
      intro wrr4 Nr4 hFr4
      refine JH.pure rfl (yl_move rfl) rfl ?_
      refine JH.pure rfl (yl_move rfl) rfl ?_
      obtain ⟨x5, hx5, hres⟩ := bind_some hres
      refine JH.pure rfl (yl_subSh Go.Proofs.Try.underlying9 rfl rfl hx5) rfl ?_
      refine JH.pure rfl (yl_move rfl) rfl ?_
      refine JH.pure rfl (yl_move rfl) rfl ?_
      refine JH.pure rfl (yl_move rfl) rfl ?_
      obtain ⟨x6, hx6, hres⟩ := bind_some hres
      refine JH.pure rfl (yl_subSl Go.Proofs.Try.underlying9 rfl rfl hx6) rfl ?_
      refine JH.must rfl (ef_buildSlice (E := 9) (k := eStr.k) (us := eStr.fl [ByteArray.mk #[32], ByteArray.mk #[48], ByteArray.mk #[45], ByteArray.mk #[120], ByteArray.mk #[49], ByteArray.mk #[57], ByteArray.mk #[46]]) rfl (fun w => bsl150_7 (ByteArray.mk #[32]) (ByteArray.mk #[48]) (ByteArray.mk #[45]) (ByteArray.mk #[120]) (ByteArray.mk #[49]) (ByteArray.mk #[57]) (ByteArray.mk #[46]) w) rfl (by decide)) rfl rfl ?_
      rintro _ _ ⟨a7, rfl, rfl⟩
      obtain ⟨x9, hx9, hres⟩ := bind_some hres
      refine JH.must rfl (ef_callms (caps := []) (vs := [ptrAt (some ⟨gb_0, 0, none⟩) 0, .slice a7 7 7]) (T := T209 gb_0 a_0_0 q0.code.length c_0_0 x9) [0] [1] [boxO 163 gb_0 [.slice a_0_0 q0.code.length c_0_0, .int .i64 x3.2.1, .int .u64 x3.2.2]] [rowT 9 eStr a7 7 7 ([ByteArray.mk #[32], ByteArray.mk #[48], ByteArray.mk #[45], ByteArray.mk #[120], ByteArray.mk #[49], ByteArray.mk #[57], ByteArray.mk #[46]])] rfl Go.Proofs.Try.func209 rfl (by kernel_rfl) rfl (by decide) rfl rfl (fun w N hF hS => c209 (q0 := Sl00Src.mk q0.code x3.2.1 x3.2.2) (RdS.pass hF (RdS.pass hFr4 g_0_0)) rfl k_0_0 (RdS.row hF 1 rfl rfl) rfl (ln_row hF.cl 1 rfl) hS hx9)) rfl rfl ?_
      rintro _ _ ⟨_, _, ⟨rfl, rfl, rfl⟩, rfl⟩
      obtain ⟨x10, hx10, hres⟩ := bind_some hres
      refine JH.pure rfl (yl_catS rfl rfl hx10) rfl ?_
      obtain ⟨x11, hx11, hres⟩ := bind_some hres
      refine JH.pure rfl (yl_catS rfl rfl hx11) rfl ?_
      refine JH.pure rfl (yl_assign rfl) rfl ?_
      refine JH.nil ?_
      refine JE.weak (env' := [(1, .string x11)]) (es' := [boxO 163 gb_0 [.slice a_0_0 q0.code.length c_0_0, .int .i64 x9.2.1, .int .u64 x9.2.2]]) [1] ?_ ⟨rfl, trivial⟩ (by decide) rfl
      have hj := Option.some.inj hres
      exact JE.weak [0] (K) ⟨(by subst hj; rfl), trivial⟩ (by decide) (by subst hj; rfl)
    · refine JX.condF rfl hb ?_
      refine JX.seq ?_
      refine JX.region ?_
      refine JL.val (yl_eql rfl rfl) rfl ?_
      refine JL.val (yl_assign rfl) rfl ?_
      refine JL.nil ?_
      refine JE.code ?_
      obtain ⟨j12, hj12, hresj12⟩ := bind_some hres
      refine JX.cut (K := fun J => J [(1, .string j12.1)] [boxO 163 gb_0 [.slice a_0_0 q0.code.length c_0_0, .int .i64 j12.2.1, .int .u64 j12.2.2]]) ?_ ?_
      · have hres := hresj12
        have hj := Option.some.inj hres
        exact JE.weak [0] (K) ⟨(by subst hj; rfl), trivial⟩ (by decide) (by subst hj; rfl)
      · intro K
        rcases cond_some hj12 with ⟨hb, hres⟩ | ⟨hb, hres⟩
        · refine JX.condT rfl hb ?_
          refine JX.seq ?_
          refine JX.region ?_
          refine JL.val (yl_move rfl) rfl ?_
          refine JL.val (yl_sneq rfl rfl) rfl ?_
          refine JL.nil ?_
          refine JE.code ?_
          obtain ⟨j13, hj13, hresj13⟩ := bind_some hres
          refine JX.cut (K := fun J => J [(1, .string j13.1)] [boxO 163 gb_0 [.slice a_0_0 q0.code.length c_0_0, .int .i64 j13.2.1, .int .u64 j13.2.2]]) ?_ ?_
          · have hres := hresj13
            have hj := Option.some.inj hres
            exact JE.weak [0] (K) ⟨(by subst hj; rfl), trivial⟩ (by decide) (by subst hj; rfl)
          · intro K
            rcases cond_some hj13 with ⟨hb, hres⟩ | ⟨hb, hres⟩
            · refine JX.condT rfl hb ?_
              refine JX.seq ?_
              refine JX.region ?_
              refine JL.val (yl_move rfl) rfl ?_
              refine JL.val (yl_move rfl) rfl ?_
              refine JL.val (yl_len_string Go.Proofs.Try.underlying9 rfl) rfl ?_
              obtain ⟨x14, hx14, hres⟩ := bind_some hres
              refine JL.eff (ef_callms (caps := []) (vs := [ptrAt (some ⟨gb_0, 0, none⟩) 0, .int .i64 (q1.size : Int)]) (T := T92 gb_0 a_0_0 q0.code.length c_0_0 x14) [0] [] [boxO 163 gb_0 [.slice a_0_0 q0.code.length c_0_0, .int .i64 x1.2.1, .int .u64 x1.2.2]] [] rfl Go.Proofs.Try.func92 rfl (by kernel_rfl) rfl (by decide) rfl rfl (fun w N hF hS => c92 (q0 := Sl00Src.mk q0.code x1.2.1 x1.2.2) (RdS.pass hF g_0_0) rfl k_0_0 hS hx14)) rfl ?_
              rintro _ _ ⟨_, _, ⟨rfl, rfl, rfl⟩, rfl⟩
              refine JL.val (yl_assign rfl) rfl ?_
              refine JL.nil ?_
              refine JE.weak (env' := [(1, .string q1), (6, .int .i64 x14.1)]) (es' := [boxO 163 gb_0 [.slice a_0_0 q0.code.length c_0_0, .int .i64 x14.2.1, .int .u64 x14.2.2]]) [0] ?_ ⟨rfl, rfl, trivial⟩ (by decide) rfl
              refine JE.code ?_
              refine JX.drawH [(0, .pure), (1, .pure), (2, .pure), (3, .pure), (4, .pure), (5, .pure), (6, .pure), (7, .pure), (8, .pure)] [] [] [0] [] [boxO 163 gb_0 [.slice a_0_0 q0.code.length c_0_0, .int .i64 x14.2.1, .int .u64 x14.2.2]] mixedP (by kernel_rfl) (by kernel_rfl) (by decide) rfl rfl ?_
              intro wrr15 Nr15 hFr15
              refine JH.pure rfl (yl_move rfl) rfl ?_
              refine JH.pure rfl (yl_move rfl) rfl ?_
              obtain ⟨x16, hx16, hres⟩ := bind_some hres
              refine JH.pure rfl (yl_subSh Go.Proofs.Try.underlying9 rfl rfl hx16) rfl ?_
              refine JH.pure rfl (yl_move rfl) rfl ?_
              refine JH.pure rfl (yl_move rfl) rfl ?_
              refine JH.pure rfl (yl_add rfl rfl) rfl ?_
              obtain ⟨x17, hx17, hres⟩ := bind_some hres
              refine JH.pure rfl (yl_subSl Go.Proofs.Try.underlying9 rfl rfl hx17) rfl ?_
              obtain ⟨x18, hx18, hres⟩ := bind_some hres
              refine JH.pure rfl (yl_catS rfl rfl hx18) rfl ?_
              refine JH.pure rfl (yl_assign rfl) rfl ?_
              refine JH.nil ?_
              refine JE.weak (env' := [(1, .string x18)]) (es' := [boxO 163 gb_0 [.slice a_0_0 q0.code.length c_0_0, .int .i64 x14.2.1, .int .u64 x14.2.2]]) [0] ?_ ⟨rfl, trivial⟩ (by decide) rfl
              have hj := Option.some.inj hres
              exact JE.weak [0] (K) ⟨(by subst hj; rfl), trivial⟩ (by decide) (by subst hj; rfl)
            · refine JX.condF rfl hb ?_
              refine JX.skip ?_
              have hj := Option.some.inj hres
              exact JE.weak [0] (K) ⟨(by subst hj; rfl), trivial⟩ (by decide) (by subst hj; rfl)
        · refine JX.condF rfl hb ?_
          refine JX.skip ?_
          have hj := Option.some.inj hres
          exact JE.weak [0] (K) ⟨(by subst hj; rfl), trivial⟩ (by decide) (by subst hj; rfl)

/- spec.DrawReadTool -/
def sh75 (q0 : List Int) : Option (ByteArray) := Option.bind (sh90 q0) fun x1 => Option.bind (sh161 (Sl00Src.mk q0 x1.at_ x1.seed)) fun x4 => Option.bind (sh160 x4.1) fun x8 => Option.bind (sh93 (Sl00Src.mk q0 x4.2.1 x4.2.2) 3) fun x9 => bif x9.1 then (Option.bind (sh162 (Sl00Src.mk q0 x9.2.1 x9.2.2) x8) fun x10 => some x10.1) else (some x8)
def T75 (r : ByteArray) (v : Value) (rs : List Own) : Prop := v = rets [.string r] ∧ rs = []
set_option maxRecDepth 100000 in
theorem c75 {w : World} {q0 : List Int} {a_0 : Option Addr} {n_0 c_0 : Nat} (g_0 : Rd w a_0 (eU8.fl q0)) (l_0 : q0.length = n_0) (k_0 : n_0 ≤ c_0) {r : ByteArray} (hres : sh75 q0 = some r) : Calls Go.Proofs.Try.prog 75 [.slice a_0 n_0 c_0].toArray w (Ret w (T75 r)) := by
  subst l_0
  unfold sh75 at hres
  refine calls_of (n := 16) (M := []) (es := []) Go.Proofs.Try.func75 rfl rfl rfl (Sep.nil _ _ _) ?_
  refine JX.seq ?_
  refine JX.region ?_
  refine JL.val (yl_assign rfl) rfl ?_
  refine JL.nil ?_
  refine JE.code ?_
  refine JX.seq ?_
  refine JX.region ?_
  refine JL.val (yl_move rfl) rfl ?_
  obtain ⟨x1, hx1, hres⟩ := bind_some hres
  refine JL.eff (ef_call (T := T90 a_0 q0.length c_0 x1) Go.Proofs.Try.func90 rfl (by kernel_rfl) rfl (fun w hC => c90 (rd_arg g_0 hC) rfl k_0 hx1)) rfl ?_
  rintro _ _ ⟨_, ⟨g2, rfl, rfl⟩, rfl⟩
  refine JL.val (yl_assign rfl) rfl ?_
  refine JL.nil ?_
  refine JE.code ?_
  refine JX.seq ?_
  refine JX.region ?_
  refine JL.val (yl_move rfl) rfl ?_
  obtain ⟨x4, hx4, hres⟩ := bind_some hres
  refine JL.eff (ef_callms (caps := []) (vs := [ptrAt (some ⟨g2, 0, none⟩) 0]) (T := T161 g2 a_0 q0.length c_0 x4) [0] [] [boxO 163 g2 [.slice a_0 q0.length c_0, .int .i64 x1.at_, .int .u64 x1.seed]] [] rfl Go.Proofs.Try.func161 rfl (by kernel_rfl) rfl (by decide) rfl rfl (fun w N hF hS => c161 (q0 := Sl00Src.mk q0 x1.at_ x1.seed) (RdS.pass0 hF g_0) rfl k_0 hS hx4)) rfl ?_
  rintro _ _ ⟨_, _, ⟨rfl, a5, _, cp6, rfl, rfl, rfl⟩, rfl⟩
  obtain ⟨x8, hx8, hres⟩ := bind_some hres
  refine JL.eff (ef_call (T := T160 x8) Go.Proofs.Try.func160 rfl (by kernel_rfl) rfl (fun w hC => c160 (rd_row hC 1 rfl) rfl (ln_row hC 1 rfl) hx8)) rfl ?_
  rintro _ _ ⟨_, ⟨rfl, rfl⟩, rfl⟩
  refine JL.val (yl_assign rfl) rfl ?_
  refine JL.nil ?_
  refine JE.weak (env' := [(3, ptrAt (some ⟨g2, 0, none⟩) 0), (4, .string x8)]) (es' := [boxO 163 g2 [.slice a_0 q0.length c_0, .int .i64 x4.2.1, .int .u64 x4.2.2]]) [0] ?_ ⟨rfl, rfl, trivial⟩ (by decide) rfl
  refine JE.code ?_
  refine JX.seq ?_
  refine JX.seq ?_
  refine JX.region ?_
  refine JL.val (yl_move rfl) rfl ?_
  obtain ⟨x9, hx9, hres⟩ := bind_some hres
  refine JL.eff (ef_callms (caps := []) (vs := [ptrAt (some ⟨g2, 0, none⟩) 0, .int .i64 3]) (T := T93 g2 a_0 q0.length c_0 x9) [0] [] [boxO 163 g2 [.slice a_0 q0.length c_0, .int .i64 x4.2.1, .int .u64 x4.2.2]] [] rfl Go.Proofs.Try.func93 rfl (by kernel_rfl) rfl (by decide) rfl rfl (fun w N hF hS => c93 (q0 := Sl00Src.mk q0 x4.2.1 x4.2.2) (RdS.pass0 hF g_0) rfl k_0 hS hx9)) rfl ?_
  rintro _ _ ⟨_, _, ⟨rfl, rfl, rfl⟩, rfl⟩
  refine JL.nil ?_
  refine JE.code ?_
  rcases cond_some hres with ⟨hb, hres⟩ | ⟨hb, hres⟩
  · refine JX.condT rfl hb ?_
    refine JX.seq ?_
    refine JX.region ?_
    refine JL.val (yl_move rfl) rfl ?_
    refine JL.val (yl_move rfl) rfl ?_
    obtain ⟨x10, hx10, hres⟩ := bind_some hres
    refine JL.eff (ef_callms (caps := []) (vs := [ptrAt (some ⟨g2, 0, none⟩) 0, .string x8]) (T := T162 g2 a_0 q0.length c_0 x10) [0] [] [boxO 163 g2 [.slice a_0 q0.length c_0, .int .i64 x9.2.1, .int .u64 x9.2.2]] [] rfl Go.Proofs.Try.func162 rfl (by kernel_rfl) rfl (by decide) rfl rfl (fun w N hF hS => c162 (q0 := Sl00Src.mk q0 x9.2.1 x9.2.2) (RdS.pass0 hF g_0) rfl k_0 hS hx10)) rfl ?_
    rintro _ _ ⟨_, _, ⟨rfl, rfl, rfl⟩, rfl⟩
    refine JL.val (yl_assign rfl) rfl ?_
    refine JL.nil ?_
    refine JE.weak (env' := [(2, .string x10.1)]) (es' := []) [] ?_ ⟨rfl, trivial⟩ (by decide) rfl
    refine JE.code ?_
    refine JX.ret ?_
    obtain rfl := Option.some.inj hres
    refine JE.ret (rs := [.tmp 2]) (vs := [.string x10.1]) rfl ⟨rfl, trivial⟩ ?_
    exact fun w' hb hs => ⟨_, _, ⟨rfl, rfl⟩, rfl, hb, hs.sel [] _ (by decide) rfl⟩
  · refine JX.condF rfl hb ?_
    refine JX.skip ?_
    refine JE.code ?_
    refine JX.seq ?_
    refine JX.region ?_
    refine JL.val (yl_move rfl) rfl ?_
    refine JL.val (yl_assign rfl) rfl ?_
    refine JL.nil ?_
    refine JE.weak (env' := [(2, .string x8)]) (es' := []) [] ?_ ⟨rfl, trivial⟩ (by decide) rfl
    refine JE.code ?_
    refine JX.ret ?_
    obtain rfl := Option.some.inj hres
    refine JE.ret (rs := [.tmp 2]) (vs := [.string x8]) rfl ⟨rfl, trivial⟩ ?_
    exact fun w' hb hs => ⟨_, _, ⟨rfl, rfl⟩, rfl, hb, hs.sel [] _ (by decide) rfl⟩

/- spec.l01Split -/
def sh163_1 (q0 : ByteArray) (q1 : Int) : (Int × Int × List ByteArray) → Option ((Int × Int × List ByteArray) ⊕ (Int × List ByteArray))
  | (x5, x6, x7) => bif decide (x6 < (q0.size : Int)) then (Option.bind (getS q0 x6) fun x10 => Option.bind (bif x10 == q1 then (Option.bind (subS q0 x5 x6) fun x14 => Option.bind (appL x7 [x14]) fun x17 => some (w64 (x6 + 1), x17)) else (some (x5, x7))) fun j11 => (some (.inl (j11.1, w64 (x6 + 1), j11.2)))) else (some (.inr (x5, x7)))
def sh163 (q0 : ByteArray) (q1 : Int) : Option (List ByteArray) := Option.bind (iter (sh163_1 q0 q1) (0, 0, ([] : List ByteArray))) fun b1 => (Option.bind (subS q0 b1.1 (q0.size : Int)) fun x22 => Option.bind (appL b1.2 [x22]) fun x25 => some x25)
def T163 (r : List ByteArray) (v : Value) (rs : List Own) : Prop := ∃ (a0 : Option Addr) (n0 c0 : Nat), r.length = n0 ∧ v = rets [.slice a0 n0 c0] ∧ rs = [rowT 9 eStr a0 n0 c0 r]
set_option maxRecDepth 100000 in
theorem c163 {w : World} {q0 : ByteArray} {q1 : Int} {r : List ByteArray} (hres : sh163 q0 q1 = some r) : Calls Go.Proofs.Try.prog 163 [.string q0, .int .u8 q1].toArray w (Ret w (T163 r)) := by
  unfold sh163 at hres
  refine calls_of (n := 35) (M := []) (es := []) Go.Proofs.Try.func163 rfl rfl rfl (Sep.nil _ _ _) ?_
  refine JX.seq ?_
  refine JX.region ?_
  refine JL.val (yl_assign rfl) rfl ?_
  refine JL.nil ?_
  refine JE.code ?_
  refine JX.seq ?_
  refine JX.region ?_
  refine JL.eff (ef_buildSlice (E := 9) (k := eStr.k) (us := eStr.fl ([] : List ByteArray)) rfl (fun w => bsl150_0  w) rfl (by decide)) rfl ?_
  rintro _ _ ⟨a1, rfl, rfl⟩
  refine JL.val (yl_assign rfl) rfl ?_
  refine JL.nil ?_
  refine JE.code ?_
  refine JX.seq ?_
  refine JX.region ?_
  refine JL.val (yl_assign rfl) rfl ?_
  refine JL.nil ?_
  refine JE.code ?_
  refine JX.seq ?_
  refine JX.seq ?_
  refine JX.region ?_
  refine JL.val (yl_assign rfl) rfl ?_
  refine JL.nil ?_
  refine JE.code ?_
  refine JX.block ?_
  obtain ⟨y1, hy1, hresO1⟩ := bind_some hres
  refine JX.loop (I := fun (s1 : Int × Int × List ByteArray) aa ww => ∃ (a3 : Option Addr) (cp4 : Nat), St w [] 35 [(0, .string q0), (1, .int .u8 q1), (5, .slice a3 s1.2.2.length cp4), (6, .int .i64 s1.1), (7, .int .i64 s1.2.1)] [rowT 9 eStr a3 s1.2.2.length cp4 s1.2.2] aa ww) (sh163_1 q0 q1) hy1 (fun a w h => ⟨a1, 0, h.weak ⟨rfl, rfl, rfl, rfl, rfl, trivial⟩ [0] (by decide) rfl⟩) ?_
  rintro ⟨x5, x6, x7⟩ o1 hres hox1 aa ww ⟨a8, cp9, hS⟩
  refine (?_ : JX Go.Proofs.Try.prog w [] 35 _ _ [(0, .string q0), (1, .int .u8 q1), (5, .slice a8 x7.length cp9), (6, .int .i64 x5), (7, .int .i64 x6)] [rowT 9 eStr a8 x7.length cp9 x7] _) aa ww hS
  clear hS
  simp only [sh163_1] at hres
  refine JX.seq ?_
  refine JX.seq ?_
  refine JX.region ?_
  refine JL.val (yl_move rfl) rfl ?_
  refine JL.val (yl_move rfl) rfl ?_
  refine JL.val (yl_len_string Go.Proofs.Try.underlying9 rfl) rfl ?_
  refine JL.val (yl_lss rfl rfl) rfl ?_
  refine JL.nil ?_
  refine JE.weak (env' := [(0, .string q0), (1, .int .u8 q1), (5, .slice a8 x7.length cp9), (6, .int .i64 x5), (7, .int .i64 x6), (12, .bool (decide (x6 < (q0.size : Int))))]) (es' := [rowT 9 eStr a8 x7.length cp9 x7]) [0] ?_ ⟨rfl, rfl, rfl, rfl, rfl, rfl, trivial⟩ (by decide) rfl
  refine JE.code ?_
  rcases cond_some hres with ⟨hb, hres⟩ | ⟨hb, hres⟩
  · refine JX.condT rfl hb ?_
    refine JX.skip ?_
    refine JE.code ?_
    refine JX.seq ?_
    refine JX.block ?_
    refine JX.seq ?_
    refine JX.region ?_
    refine JL.val (yl_move rfl) rfl ?_
    refine JL.val (yl_move rfl) rfl ?_
    obtain ⟨x10, hx10, hres⟩ := bind_some hres
    refine JL.val (yl_getS Go.Proofs.Try.underlying9 rfl rfl hx10) rfl ?_
    refine JL.val (yl_move rfl) rfl ?_
    refine JL.val (yl_eql rfl rfl) rfl ?_
    refine JL.nil ?_
    refine JE.weak (env' := [(0, .string q0), (1, .int .u8 q1), (5, .slice a8 x7.length cp9), (6, .int .i64 x5), (7, .int .i64 x6), (19, .bool (x10 == q1))]) (es' := [rowT 9 eStr a8 x7.length cp9 x7]) [0] ?_ ⟨rfl, rfl, rfl, rfl, rfl, rfl, trivial⟩ (by decide) rfl
    refine JE.code ?_
    obtain ⟨j11, hj11, hresj11⟩ := bind_some hres
    refine JX.cut (K := fun J => ∀ (a12 : Option Addr) (cp13 : Nat), J [(0, .string q0), (1, .int .u8 q1), (5, .slice a12 j11.2.length cp13), (6, .int .i64 j11.1), (7, .int .i64 x6)] [rowT 9 eStr a12 j11.2.length cp13 j11.2]) ?_ ?_
    · intro a12 cp13
      have hres := hresj11
      refine JE.code ?_
      refine JX.region ?_
      refine JL.val (yl_move rfl) rfl ?_
      refine JL.val (yl_add rfl rfl) rfl ?_
      refine JL.val (yl_assign rfl) rfl ?_
      refine JL.nil ?_
      refine JE.cont hres ?_
      exact fun a w h => ⟨a12, cp13, h.weak ⟨rfl, rfl, rfl, rfl, rfl, trivial⟩ [0] (by decide) rfl⟩
    · intro K
      rcases cond_some hj11 with ⟨hb, hres⟩ | ⟨hb, hres⟩
      · refine JX.condT rfl hb ?_
        refine JX.seq ?_
        refine JX.region ?_
        refine JL.val (yl_move rfl) rfl ?_
        refine JL.val (yl_move rfl) rfl ?_
        refine JL.val (yl_move rfl) rfl ?_
        refine JL.val (yl_move rfl) rfl ?_
        obtain ⟨x14, hx14, hres⟩ := bind_some hres
        refine JL.val (yl_subSlh Go.Proofs.Try.underlying9 rfl rfl rfl hx14) rfl ?_
        refine JL.eff (ef_buildSlice (E := 9) (k := eStr.k) (us := eStr.fl [x14]) rfl (fun w => bsl150_1 x14 w) rfl (by decide)) rfl ?_
        rintro _ _ ⟨a15, rfl, rfl⟩
        obtain ⟨x17, hx17, hres⟩ := bind_some hres
        refine JL.eff (ef_appendT (ix := 0) Go.Proofs.Try.underlying150 i9 i9z i9s rfl i9b0 i9b1 rfl rfl rfl rfl rfl (fun w hC => rd_row hC 1 rfl) hx17) rfl ?_
        rintro _ _ ⟨a18, cp19, rfl, rfl⟩
        refine JL.val (yl_assign rfl) rfl ?_
        refine JL.nil ?_
        refine JE.weak (env' := [(0, .string q0), (1, .int .u8 q1), (5, .slice a18 x17.length cp19), (7, .int .i64 x6)]) (es' := [rowT 9 eStr a18 x17.length cp19 x17]) [0] ?_ ⟨rfl, rfl, rfl, rfl, trivial⟩ (by decide) rfl
        refine JE.code ?_
        refine JX.region ?_
        refine JL.val (yl_move rfl) rfl ?_
        refine JL.val (yl_add rfl rfl) rfl ?_
        refine JL.val (yl_assign rfl) rfl ?_
        refine JL.nil ?_
        have hj := Option.some.inj hres
        exact JE.weak [0] (K a18 cp19) ⟨(by subst hj; rfl), (by subst hj; rfl), (by subst hj; rfl), (by subst hj; rfl), (by subst hj; rfl), trivial⟩ (by decide) (by subst hj; rfl)
      · refine JX.condF rfl hb ?_
        refine JX.skip ?_
        have hj := Option.some.inj hres
        exact JE.weak [0] (K a8 cp9) ⟨(by subst hj; rfl), (by subst hj; rfl), (by subst hj; rfl), (by subst hj; rfl), (by subst hj; rfl), trivial⟩ (by decide) (by subst hj; rfl)
  · refine JX.condF rfl hb ?_
    refine JX.exit ?_
    refine JE.qb rfl ?_
    obtain ⟨b1, hb1⟩ : ∃ b : Int × List ByteArray, b = (x5, x7) := ⟨_, rfl⟩
    have hy1 : b1 = y1 := by rw [hb1]; exact hox1 _ (Option.some.inj hres).symm
    have hres := hresO1
    rw [← hy1] at hres
    refine JE.weak (env' := [(0, .string q0), (5, .slice a8 b1.2.length cp9), (6, .int .i64 b1.1)]) (es' := [rowT 9 eStr a8 b1.2.length cp9 b1.2]) [0] ?_ ⟨(by subst hb1; rfl), (by subst hb1; rfl), (by subst hb1; rfl), trivial⟩ (by decide) (by subst hb1; rfl)
    refine JE.code ?_
    refine JX.seq ?_
    refine JX.region ?_
    refine JL.val (yl_move rfl) rfl ?_
    refine JL.val (yl_move rfl) rfl ?_
    refine JL.val (yl_move rfl) rfl ?_
    obtain ⟨x22, hx22, hres⟩ := bind_some hres
    refine JL.val (yl_subSl Go.Proofs.Try.underlying9 rfl rfl hx22) rfl ?_
    refine JL.eff (ef_buildSlice (E := 9) (k := eStr.k) (us := eStr.fl [x22]) rfl (fun w => bsl150_1 x22 w) rfl (by decide)) rfl ?_
    rintro _ _ ⟨a23, rfl, rfl⟩
    obtain ⟨x25, hx25, hres⟩ := bind_some hres
    refine JL.eff (ef_appendT (ix := 0) Go.Proofs.Try.underlying150 i9 i9z i9s rfl i9b0 i9b1 rfl rfl rfl rfl rfl (fun w hC => rd_row hC 1 rfl) hx25) rfl ?_
    rintro _ _ ⟨a26, cp27, rfl, rfl⟩
    refine JL.val (yl_assign rfl) rfl ?_
    refine JL.nil ?_
    refine JE.weak (env' := [(4, .slice a26 x25.length cp27)]) (es' := [rowT 9 eStr a26 x25.length cp27 x25]) [0] ?_ ⟨rfl, trivial⟩ (by decide) rfl
    refine JE.code ?_
    refine JX.ret ?_
    obtain rfl := Option.some.inj hres
    refine JE.ret (rs := [.tmp 4]) (vs := [.slice a26 x25.length cp27]) rfl ⟨rfl, trivial⟩ ?_
    exact fun w' hb hs => ⟨_, _, ⟨a26, x25.length, cp27, rfl, rfl, rfl⟩, rfl, hb, hs.sel [0] _ (by decide) rfl⟩

/- spec.l01Digit -/
def sh215 (q0 : Int) : Option (Bool) := some ((decide (48 ≤ q0)) && (decide (q0 ≤ 57)))
def T215 (r : Bool) (v : Value) (rs : List Own) : Prop := v = rets [.bool r] ∧ rs = []
set_option maxRecDepth 100000 in
theorem c215 {w : World} {q0 : Int} {r : Bool} (hres : sh215 q0 = some r) : Calls Go.Proofs.Try.prog 215 [.int .u8 q0].toArray w (Ret w (T215 r)) := by
  unfold sh215 at hres
  refine calls_of (n := 9) (M := []) (es := []) Go.Proofs.Try.func215 rfl rfl rfl (Sep.nil _ _ _) ?_
  refine JX.seq ?_
  refine JX.region ?_
  refine JL.val (yl_assign rfl) rfl ?_
  refine JL.nil ?_
  refine JE.code ?_
  refine JX.seq ?_
  refine JX.region ?_
  refine JL.val (yl_move rfl) rfl ?_
  refine JL.val (yl_geq rfl rfl) rfl ?_
  refine JL.val (yl_move rfl) rfl ?_
  refine JL.cut (K := fun J => J [(8, .bool ((decide (48 ≤ q0)) && (decide (q0 ≤ 57))))] []) 3 ?_ ?_
  · refine JL.val (yl_assign rfl) rfl ?_
    refine JL.nil ?_
    refine JE.weak (env' := [(2, .bool ((decide (48 ≤ q0)) && (decide (q0 ≤ 57))))]) (es' := []) [] ?_ ⟨rfl, trivial⟩ (by decide) rfl
    refine JE.code ?_
    refine JX.ret ?_
    obtain rfl := Option.some.inj hres
    refine JE.ret (rs := [.tmp 2]) (vs := [.bool ((decide (48 ≤ q0)) && (decide (q0 ≤ 57)))]) rfl ⟨rfl, trivial⟩ ?_
    exact fun w' hb hs => ⟨_, _, ⟨rfl, rfl⟩, rfl, hb, hs.sel [] _ (by decide) rfl⟩
  · intro K
    rcases Bool.eq_false_or_eq_true (decide (48 ≤ q0)) with hb | hb
    · refine JL.set (d := 5) (v := .bool true) (congrArg (fun b => some (Value.bool b)) hb) ?_
      refine JL.gval rfl rfl (yl_move rfl) rfl ?_
      refine JL.gval rfl rfl (yl_leq rfl rfl) rfl ?_
      refine JL.val (yl_pick_true rfl rfl) rfl ?_
      exact JL.weak [] K ⟨(by rw [hb]; rfl), trivial⟩ (by decide) rfl
    · refine JL.set (d := 5) (v := .bool false) (congrArg (fun b => some (Value.bool b)) hb) ?_
      refine JL.gskip rfl rfl rfl rfl ?_
      refine JL.gskip rfl rfl rfl rfl ?_
      refine JL.val (yl_pick_false rfl rfl) rfl ?_
      exact JL.weak [] K ⟨(by rw [hb]; rfl), trivial⟩ (by decide) rfl

/- spec.l01Number -/
def sh210_1 (j3 : ByteArray) : (Int × Int) → Option ((Int × Int) ⊕ (Int ⊕ (Int × Bool)))
  | (x4, x5) => bif decide (x5 < (j3.size : Int)) then (Option.bind (getS j3 x5) fun x6 => Option.bind (sh215 x6) fun x7 => bif !x7 then (some (.inr (.inr (0, false)))) else (Option.bind (getS j3 x5) fun x8 => some (.inl (w64 ((w64 (10 * x4)) + (w64 (IntKind.u8.wrap (x8 - 48)))), w64 (x5 + 1))))) else (some (.inr (.inl x4)))
def sh210 (q0 : ByteArray) : Option (Int × Bool) := Option.bind (bif !(q0.toList == (ByteArray.mk #[]).toList) then (Option.bind (getS q0 0) fun x2 => some (x2 == 45)) else (some false)) fun cb1 => (Option.bind (bif cb1 then (Option.bind (subS q0 (1 : Int) (q0.size : Int)) fun x11 => some x11) else (some q0)) fun j3 => (bif (decide ((j3.size : Int) < 1)) || (decide (18 < (j3.size : Int))) then (some (0, false)) else (Option.bind (iter (sh210_1 j3) (0, 0)) fun y1 => elimS y1 (fun r => some r) fun b1 => (Option.bind (bif decide ((j3.size : Int) < (q0.size : Int)) then (some (w64 (0 - b1))) else (some b1)) fun j9 => (Option.bind (sh208 j9) fun x10 => bif !(x10.toList == q0.toList) then (some (0, false)) else (some (j9, true)))))))
def T210 (r : Int × Bool) (v : Value) (rs : List Own) : Prop := v = rets [.int .i64 r.1, .bool r.2] ∧ rs = []
set_option maxRecDepth 100000 in
set_option maxHeartbeats 1000000 in
theorem c210 {w : World} {q0 : ByteArray} {r : Int × Bool} (hres : sh210 q0 = some r) : Calls Go.Proofs.Try.prog 210 [.string q0].toArray w (Ret w (T210 r)) := by
  unfold sh210 at hres
  refine calls_of (n := 56) (M := []) (es := []) Go.Proofs.Try.func210 rfl rfl rfl (Sep.nil _ _ _) ?_
  refine JX.seq ?_
  refine JX.region ?_
  refine JL.val (yl_assign rfl) rfl ?_
  refine JL.val (yl_assign rfl) rfl ?_
  refine JL.nil ?_
  refine JE.code ?_
  refine JX.seq ?_
  refine JX.region ?_
  refine JL.val (yl_move rfl) rfl ?_
  refine JL.val (yl_assign rfl) rfl ?_
  refine JL.nil ?_
  refine JE.code ?_
  refine JX.seq ?_
  refine JX.seq ?_
  refine JX.region ?_
  refine JL.val (yl_move rfl) rfl ?_
  refine JL.val (yl_sneq rfl rfl) rfl ?_
  refine JL.val (yl_move rfl) rfl ?_
  obtain ⟨cb1, hcb1, hres⟩ := bind_some hres
  refine JL.cut (K := fun J => J [(0, .string q0), (4, .string q0), (14, .bool cb1)] []) 4 ?_ ?_
  · refine JL.nil ?_
    refine JE.weak (env' := [(0, .string q0), (4, .string q0), (14, .bool cb1)]) (es' := []) [] ?_ ⟨rfl, rfl, rfl, trivial⟩ (by decide) rfl
    refine JE.code ?_
    obtain ⟨j3, hj3, hresj3⟩ := bind_some hres
    refine JX.cut (K := fun J => J [(0, .string q0), (4, .string j3)] []) ?_ ?_
    · have hres := hresj3
      refine JE.code ?_
      refine JX.seq ?_
      refine JX.seq ?_
      refine JX.region ?_
      refine JL.val (yl_move rfl) rfl ?_
      refine JL.val (yl_len_string Go.Proofs.Try.underlying9 rfl) rfl ?_
      refine JL.val (yl_lss rfl rfl) rfl ?_
      refine JL.val (yl_move rfl) rfl ?_
      refine JL.cut (K := fun J => J [(0, .string q0), (4, .string j3), (24, .bool ((decide ((j3.size : Int) < 1)) || (decide (18 < (j3.size : Int)))))] []) 4 ?_ ?_
      · refine JL.nil ?_
        refine JE.weak (env' := [(0, .string q0), (4, .string j3), (24, .bool ((decide ((j3.size : Int) < 1)) || (decide (18 < (j3.size : Int)))))]) (es' := []) [] ?_ ⟨rfl, rfl, rfl, trivial⟩ (by decide) rfl
        refine JE.code ?_
        rcases cond_some hres with ⟨hb, hres⟩ | ⟨hb, hres⟩
        · refine JX.condT rfl hb ?_
          refine JX.seq ?_
          refine JX.region ?_
          refine JL.val (yl_assign rfl) rfl ?_
          refine JL.val (yl_assign rfl) rfl ?_
          refine JL.nil ?_
          refine JE.code ?_
          refine JX.ret ?_
          obtain rfl := Option.some.inj hres
          refine JE.ret (rs := [.tmp 2, .tmp 3]) (vs := [.int .i64 0, .bool false]) rfl ⟨rfl, rfl, trivial⟩ ?_
          exact fun w' hb hs => ⟨_, _, ⟨rfl, rfl⟩, rfl, hb, hs.sel [] _ (by decide) rfl⟩
        · refine JX.condF rfl hb ?_
          refine JX.skip ?_
          refine JE.code ?_
          refine JX.seq ?_
          refine JX.region ?_
          refine JL.val (yl_assign rfl) rfl ?_
          refine JL.nil ?_
          refine JE.code ?_
          refine JX.seq ?_
          refine JX.seq ?_
          refine JX.region ?_
          refine JL.val (yl_assign rfl) rfl ?_
          refine JL.nil ?_
          refine JE.code ?_
          refine JX.block ?_
          obtain ⟨y1, hy1, hresO1⟩ := bind_some hres
          refine JX.loop (I := fun (s1 : Int × Int) aa ww => St w [] 56 [(0, .string q0), (4, .string j3), (5, .int .i64 s1.1), (6, .int .i64 s1.2)] [] aa ww) (sh210_1 j3) hy1 (fun a w h => h.weak ⟨rfl, rfl, rfl, rfl, trivial⟩ [] (by decide) rfl) ?_
          rintro ⟨x4, x5⟩ o1 hres hox1 aa ww hS
          refine (?_ : JX Go.Proofs.Try.prog w [] 56 _ _ [(0, .string q0), (4, .string j3), (5, .int .i64 x4), (6, .int .i64 x5)] [] _) aa ww hS
          clear hS
          simp only [sh210_1] at hres
          refine JX.seq ?_
          refine JX.seq ?_
          refine JX.region ?_
          refine JL.val (yl_move rfl) rfl ?_
          refine JL.val (yl_move rfl) rfl ?_
          refine JL.val (yl_len_string Go.Proofs.Try.underlying9 rfl) rfl ?_
          refine JL.val (yl_lss rfl rfl) rfl ?_
          refine JL.nil ?_
          refine JE.weak (env' := [(0, .string q0), (4, .string j3), (5, .int .i64 x4), (6, .int .i64 x5), (28, .bool (decide (x5 < (j3.size : Int))))]) (es' := []) [] ?_ ⟨rfl, rfl, rfl, rfl, rfl, trivial⟩ (by decide) rfl
          refine JE.code ?_
          rcases cond_some hres with ⟨hb, hres⟩ | ⟨hb, hres⟩
          · refine JX.condT rfl hb ?_
            refine JX.skip ?_
            refine JE.code ?_
            refine JX.seq ?_
            refine JX.block ?_
            refine JX.seq ?_
            refine JX.seq ?_
            refine JX.region ?_
            refine JL.val (yl_move rfl) rfl ?_
            refine JL.val (yl_move rfl) rfl ?_
            obtain ⟨x6, hx6, hres⟩ := bind_some hres
            refine JL.val (yl_getS Go.Proofs.Try.underlying9 rfl rfl hx6) rfl ?_
            obtain ⟨x7, hx7, hres⟩ := bind_some hres
            refine JL.eff (ef_call (T := T215 x7) Go.Proofs.Try.func215 rfl (by kernel_rfl) rfl (fun w hC => c215  hx7)) rfl ?_
            rintro _ _ ⟨_, ⟨rfl, rfl⟩, rfl⟩
            refine JL.val (yl_not rfl) rfl ?_
            refine JL.nil ?_
            refine JE.weak (env' := [(0, .string q0), (4, .string j3), (5, .int .i64 x4), (6, .int .i64 x5), (35, .bool !x7)]) (es' := []) [] ?_ ⟨rfl, rfl, rfl, rfl, rfl, trivial⟩ (by decide) rfl
            refine JE.code ?_
            rcases cond_some hres with ⟨hb, hres⟩ | ⟨hb, hres⟩
            · refine JX.condT rfl hb ?_
              refine JX.seq ?_
              refine JX.region ?_
              refine JL.val (yl_assign rfl) rfl ?_
              refine JL.val (yl_assign rfl) rfl ?_
              refine JL.nil ?_
              refine JE.code ?_
              refine JX.ret ?_
              refine JE.qbr ?_
              refine JE.qbr ?_
              have hres := elimS_inr hresO1 (hox1 _ (Option.some.inj hres).symm)
              obtain rfl := Option.some.inj hres
              refine JE.ret (rs := [.tmp 2, .tmp 3]) (vs := [.int .i64 0, .bool false]) rfl ⟨rfl, rfl, trivial⟩ ?_
              exact fun w' hb hs => ⟨_, _, ⟨rfl, rfl⟩, rfl, hb, hs.sel [] _ (by decide) rfl⟩
            · refine JX.condF rfl hb ?_
              refine JX.skip ?_
              refine JE.code ?_
              refine JX.region ?_
              refine JL.val (yl_move rfl) rfl ?_
              refine JL.val (yl_mul rfl rfl) rfl ?_
              refine JL.val (yl_move rfl) rfl ?_
              refine JL.val (yl_move rfl) rfl ?_
              obtain ⟨x8, hx8, hres⟩ := bind_some hres
              refine JL.val (yl_getS Go.Proofs.Try.underlying9 rfl rfl hx8) rfl ?_
              refine JL.val (yl_sub rfl rfl) rfl ?_
              refine JL.val (yl_conv Go.Proofs.Try.underlying5 Go.Proofs.Try.underlying2 rfl) rfl ?_
              refine JL.val (yl_add rfl rfl) rfl ?_
              refine JL.val (yl_assign rfl) rfl ?_
              refine JL.nil ?_
              refine JE.weak (env' := [(0, .string q0), (4, .string j3), (5, .int .i64 (w64 ((w64 (10 * x4)) + (w64 (IntKind.u8.wrap (x8 - 48)))))), (6, .int .i64 x5)]) (es' := []) [] ?_ ⟨rfl, rfl, rfl, rfl, trivial⟩ (by decide) rfl
              refine JE.code ?_
              refine JX.region ?_
              refine JL.val (yl_move rfl) rfl ?_
              refine JL.val (yl_add rfl rfl) rfl ?_
              refine JL.val (yl_assign rfl) rfl ?_
              refine JL.nil ?_
              refine JE.cont hres ?_
              exact fun a w h => h.weak ⟨rfl, rfl, rfl, rfl, trivial⟩ [] (by decide) rfl
          · refine JX.condF rfl hb ?_
            refine JX.exit ?_
            refine JE.qb rfl ?_
            obtain ⟨b1, hb1⟩ : ∃ b : Int, b = x4 := ⟨_, rfl⟩
            have hy1 : Sum.inl b1 = y1 := by rw [hb1]; exact hox1 _ (Option.some.inj hres).symm
            have hres := elimS_inl hresO1 hy1
            refine JE.weak (env' := [(0, .string q0), (4, .string j3), (5, .int .i64 b1)]) (es' := []) [] ?_ ⟨(by subst hb1; rfl), (by subst hb1; rfl), (by subst hb1; rfl), trivial⟩ (by decide) (by subst hb1; rfl)
            refine JE.code ?_
            refine JX.seq ?_
            refine JX.seq ?_
            refine JX.region ?_
            refine JL.val (yl_move rfl) rfl ?_
            refine JL.val (yl_len_string Go.Proofs.Try.underlying9 rfl) rfl ?_
            refine JL.val (yl_move rfl) rfl ?_
            refine JL.val (yl_len_string Go.Proofs.Try.underlying9 rfl) rfl ?_
            refine JL.val (yl_lss rfl rfl) rfl ?_
            refine JL.nil ?_
            refine JE.weak (env' := [(0, .string q0), (5, .int .i64 b1), (48, .bool (decide ((j3.size : Int) < (q0.size : Int))))]) (es' := []) [] ?_ ⟨rfl, rfl, rfl, trivial⟩ (by decide) rfl
            refine JE.code ?_
            obtain ⟨j9, hj9, hresj9⟩ := bind_some hres
            refine JX.cut (K := fun J => J [(0, .string q0), (5, .int .i64 j9)] []) ?_ ?_
            · have hres := hresj9
              refine JE.code ?_
              refine JX.seq ?_
              refine JX.seq ?_
              refine JX.region ?_
              refine JL.val (yl_move rfl) rfl ?_
              obtain ⟨x10, hx10, hres⟩ := bind_some hres
              refine JL.eff (ef_call (T := T208 x10) Go.Proofs.Try.func208 rfl (by kernel_rfl) rfl (fun w hC => c208  hx10)) rfl ?_
              rintro _ _ ⟨_, ⟨rfl, rfl⟩, rfl⟩
              refine JL.val (yl_move rfl) rfl ?_
              refine JL.val (yl_sneq rfl rfl) rfl ?_
              refine JL.nil ?_
              refine JE.weak (env' := [(5, .int .i64 j9), (54, .bool (!(x10.toList == q0.toList)))]) (es' := []) [] ?_ ⟨rfl, rfl, trivial⟩ (by decide) rfl
              refine JE.code ?_
              rcases cond_some hres with ⟨hb, hres⟩ | ⟨hb, hres⟩
              · refine JX.condT rfl hb ?_
                refine JX.seq ?_
                refine JX.region ?_
                refine JL.val (yl_assign rfl) rfl ?_
                refine JL.val (yl_assign rfl) rfl ?_
                refine JL.nil ?_
                refine JE.code ?_
                refine JX.ret ?_
                obtain rfl := Option.some.inj hres
                refine JE.ret (rs := [.tmp 2, .tmp 3]) (vs := [.int .i64 0, .bool false]) rfl ⟨rfl, rfl, trivial⟩ ?_
                exact fun w' hb hs => ⟨_, _, ⟨rfl, rfl⟩, rfl, hb, hs.sel [] _ (by decide) rfl⟩
              · refine JX.condF rfl hb ?_
                refine JX.skip ?_
                refine JE.code ?_
                refine JX.seq ?_
                refine JX.region ?_
                refine JL.val (yl_move rfl) rfl ?_
                refine JL.val (yl_assign rfl) rfl ?_
                refine JL.val (yl_assign rfl) rfl ?_
                refine JL.nil ?_
                refine JE.code ?_
                refine JX.ret ?_
                obtain rfl := Option.some.inj hres
                refine JE.ret (rs := [.tmp 2, .tmp 3]) (vs := [.int .i64 j9, .bool true]) rfl ⟨rfl, rfl, trivial⟩ ?_
                exact fun w' hb hs => ⟨_, _, ⟨rfl, rfl⟩, rfl, hb, hs.sel [] _ (by decide) rfl⟩
            · intro K
              rcases cond_some hj9 with ⟨hb, hres⟩ | ⟨hb, hres⟩
              · refine JX.condT rfl hb ?_
                refine JX.region ?_
                refine JL.val (yl_move rfl) rfl ?_
                refine JL.val (yl_neg rfl) rfl ?_
                refine JL.val (yl_assign rfl) rfl ?_
                refine JL.nil ?_
                have hj := Option.some.inj hres
                exact JE.weak [] (K) ⟨(by subst hj; rfl), (by subst hj; rfl), trivial⟩ (by decide) (by subst hj; rfl)
              · refine JX.condF rfl hb ?_
                refine JX.skip ?_
                have hj := Option.some.inj hres
                exact JE.weak [] (K) ⟨(by subst hj; rfl), (by subst hj; rfl), trivial⟩ (by decide) (by subst hj; rfl)
      · intro K
        rcases Bool.eq_false_or_eq_true (decide ((j3.size : Int) < 1)) with hb | hb
        · refine JL.set (d := 20) (v := .bool true) (congrArg (fun b => some (Value.bool b)) hb) ?_
          refine JL.gskip rfl rfl rfl rfl ?_
          refine JL.gskip rfl rfl rfl rfl ?_
          refine JL.gskip rfl rfl rfl rfl ?_
          refine JL.val (yl_pick_true rfl rfl) rfl ?_
          exact JL.weak [] K ⟨rfl, rfl, (by rw [hb]; rfl), trivial⟩ (by decide) rfl
        · refine JL.set (d := 20) (v := .bool false) (congrArg (fun b => some (Value.bool b)) hb) ?_
          refine JL.gval rfl rfl (yl_move rfl) rfl ?_
          refine JL.gval rfl rfl (yl_len_string Go.Proofs.Try.underlying9 rfl) rfl ?_
          refine JL.gval rfl rfl (yl_gtr rfl rfl) rfl ?_
          refine JL.val (yl_pick_false rfl rfl) rfl ?_
          exact JL.weak [] K ⟨rfl, rfl, (by rw [hb]; rfl), trivial⟩ (by decide) rfl
    · intro K
      rcases cond_some hj3 with ⟨hb, hres⟩ | ⟨hb, hres⟩
      · refine JX.condT rfl hb ?_
        refine JX.region ?_
        refine JL.val (yl_move rfl) rfl ?_
        obtain ⟨x11, hx11, hres⟩ := bind_some hres
        refine JL.val (yl_subSl Go.Proofs.Try.underlying9 rfl rfl hx11) rfl ?_
        refine JL.val (yl_assign rfl) rfl ?_
        refine JL.nil ?_
        have hj := Option.some.inj hres
        exact JE.weak [] (K) ⟨(by subst hj; rfl), (by subst hj; rfl), trivial⟩ (by decide) (by subst hj; rfl)
      · refine JX.condF rfl hb ?_
        refine JX.skip ?_
        have hj := Option.some.inj hres
        exact JE.weak [] (K) ⟨(by subst hj; rfl), (by subst hj; rfl), trivial⟩ (by decide) (by subst hj; rfl)
  · intro K
    rcases cond_some hcb1 with ⟨hb, hres⟩ | ⟨hb, hres⟩
    · refine JL.set (d := 10) (v := .bool true) (congrArg (fun b => some (Value.bool b)) hb) ?_
      refine JL.gval rfl rfl (yl_move rfl) rfl ?_
      obtain ⟨x2, hx2, hres⟩ := bind_some hres
      refine JL.gval rfl rfl (yl_getS Go.Proofs.Try.underlying9 rfl rfl hx2) rfl ?_
      refine JL.gval rfl rfl (yl_eql rfl rfl) rfl ?_
      refine JL.val (yl_pick_true rfl rfl) rfl ?_
      have he := Option.some.inj hres
      exact JL.weak [] K ⟨rfl, rfl, (by rw [← he]; rfl), trivial⟩ (by decide) rfl
    · refine JL.set (d := 10) (v := .bool false) (congrArg (fun b => some (Value.bool b)) hb) ?_
      refine JL.gskip rfl rfl rfl rfl ?_
      refine JL.gskip rfl rfl rfl rfl ?_
      refine JL.gskip rfl rfl rfl rfl ?_
      refine JL.val (yl_pick_false rfl rfl) rfl ?_
      have he := Option.some.inj hres
      exact JL.weak [] K ⟨rfl, rfl, (by rw [← he]; rfl), trivial⟩ (by decide) rfl

/- spec.l20Number -/
def sh164 (q0 : ByteArray) : Option (Int × Bool) := Option.bind (bif !(q0.toList == (ByteArray.mk #[]).toList) then (Option.bind (getS q0 0) fun x2 => some (x2 == 45)) else (some false)) fun cb1 => (bif cb1 then (Option.bind (subS q0 (1 : Int) (q0.size : Int)) fun x3 => Option.bind (sh210 x3) fun x4 => some (w64 (0 - x4.1), x4.2 && (decide (0 < x4.1)))) else (Option.bind (sh210 q0) fun x5 => some (x5.1, x5.2)))
def T164 (r : Int × Bool) (v : Value) (rs : List Own) : Prop := v = rets [.int .i64 r.1, .bool r.2] ∧ rs = []
set_option maxRecDepth 100000 in
theorem c164 {w : World} {q0 : ByteArray} {r : Int × Bool} (hres : sh164 q0 = some r) : Calls Go.Proofs.Try.prog 164 [.string q0].toArray w (Ret w (T164 r)) := by
  unfold sh164 at hres
  refine calls_of (n := 30) (M := []) (es := []) Go.Proofs.Try.func164 rfl rfl rfl (Sep.nil _ _ _) ?_
  refine JX.seq ?_
  refine JX.region ?_
  refine JL.val (yl_assign rfl) rfl ?_
  refine JL.val (yl_assign rfl) rfl ?_
  refine JL.nil ?_
  refine JE.code ?_
  refine JX.seq ?_
  refine JX.seq ?_
  refine JX.region ?_
  refine JL.val (yl_move rfl) rfl ?_
  refine JL.val (yl_sneq rfl rfl) rfl ?_
  refine JL.val (yl_move rfl) rfl ?_
  obtain ⟨cb1, hcb1, hres⟩ := bind_some hres
  refine JL.cut (K := fun J => J [(0, .string q0), (12, .bool cb1)] []) 4 ?_ ?_
  · refine JL.nil ?_
    refine JE.weak (env' := [(0, .string q0), (12, .bool cb1)]) (es' := []) [] ?_ ⟨rfl, rfl, trivial⟩ (by decide) rfl
    refine JE.code ?_
    rcases cond_some hres with ⟨hb, hres⟩ | ⟨hb, hres⟩
    · refine JX.condT rfl hb ?_
      refine JX.seq ?_
      refine JX.region ?_
      refine JL.val (yl_move rfl) rfl ?_
      obtain ⟨x3, hx3, hres⟩ := bind_some hres
      refine JL.val (yl_subSl Go.Proofs.Try.underlying9 rfl rfl hx3) rfl ?_
      obtain ⟨x4, hx4, hres⟩ := bind_some hres
      refine JL.eff (ef_call (T := T210 x4) Go.Proofs.Try.func210 rfl (by kernel_rfl) rfl (fun w hC => c210  hx4)) rfl ?_
      rintro _ _ ⟨_, ⟨rfl, rfl⟩, rfl⟩
      refine JL.val (yl_move rfl) rfl ?_
      refine JL.val (yl_extract rfl rfl) rfl ?_
      refine JL.val (yl_extract rfl rfl) rfl ?_
      refine JL.val (yl_assign rfl) rfl ?_
      refine JL.val (yl_assign rfl) rfl ?_
      refine JL.nil ?_
      refine JE.weak (env' := [(4, .int .i64 x4.1), (5, .bool x4.2)]) (es' := []) [] ?_ ⟨rfl, rfl, trivial⟩ (by decide) rfl
      refine JE.code ?_
      refine JX.seq ?_
      refine JX.region ?_
      refine JL.val (yl_move rfl) rfl ?_
      refine JL.val (yl_neg rfl) rfl ?_
      refine JL.val (yl_move rfl) rfl ?_
      refine JL.val (yl_move rfl) rfl ?_
      refine JL.cut (K := fun J => J [(20, .int .i64 (w64 (0 - x4.1))), (25, .bool (x4.2 && (decide (0 < x4.1))))] []) 3 ?_ ?_
      · refine JL.val (yl_assign rfl) rfl ?_
        refine JL.val (yl_assign rfl) rfl ?_
        refine JL.nil ?_
        refine JE.weak (env' := [(2, .int .i64 (w64 (0 - x4.1))), (3, .bool (x4.2 && (decide (0 < x4.1))))]) (es' := []) [] ?_ ⟨rfl, rfl, trivial⟩ (by decide) rfl
        refine JE.code ?_
        refine JX.ret ?_
        obtain rfl := Option.some.inj hres
        refine JE.ret (rs := [.tmp 2, .tmp 3]) (vs := [.int .i64 (w64 (0 - x4.1)), .bool (x4.2 && (decide (0 < x4.1)))]) rfl ⟨rfl, rfl, trivial⟩ ?_
        exact fun w' hb hs => ⟨_, _, ⟨rfl, rfl⟩, rfl, hb, hs.sel [] _ (by decide) rfl⟩
      · intro K
        rcases Bool.eq_false_or_eq_true (x4.2) with hb | hb
        · refine JL.set (d := 22) (v := .bool true) (congrArg (fun b => some (Value.bool b)) hb) ?_
          refine JL.gval rfl rfl (yl_move rfl) rfl ?_
          refine JL.gval rfl rfl (yl_gtr rfl rfl) rfl ?_
          refine JL.val (yl_pick_true rfl rfl) rfl ?_
          exact JL.weak [] K ⟨rfl, (by rw [hb]; rfl), trivial⟩ (by decide) rfl
        · refine JL.set (d := 22) (v := .bool false) (congrArg (fun b => some (Value.bool b)) hb) ?_
          refine JL.gskip rfl rfl rfl rfl ?_
          refine JL.gskip rfl rfl rfl rfl ?_
          refine JL.val (yl_pick_false rfl rfl) rfl ?_
          exact JL.weak [] K ⟨rfl, (by rw [hb]; rfl), trivial⟩ (by decide) rfl
    · refine JX.condF rfl hb ?_
      refine JX.skip ?_
      refine JE.code ?_
      refine JX.seq ?_
      refine JX.region ?_
      refine JL.val (yl_move rfl) rfl ?_
      obtain ⟨x5, hx5, hres⟩ := bind_some hres
      refine JL.eff (ef_call (T := T210 x5) Go.Proofs.Try.func210 rfl (by kernel_rfl) rfl (fun w hC => c210  hx5)) rfl ?_
      rintro _ _ ⟨_, ⟨rfl, rfl⟩, rfl⟩
      refine JL.val (yl_extract rfl rfl) rfl ?_
      refine JL.val (yl_extract rfl rfl) rfl ?_
      refine JL.val (yl_assign rfl) rfl ?_
      refine JL.val (yl_assign rfl) rfl ?_
      refine JL.nil ?_
      refine JE.weak (env' := [(2, .int .i64 x5.1), (3, .bool x5.2)]) (es' := []) [] ?_ ⟨rfl, rfl, trivial⟩ (by decide) rfl
      refine JE.code ?_
      refine JX.ret ?_
      obtain rfl := Option.some.inj hres
      refine JE.ret (rs := [.tmp 2, .tmp 3]) (vs := [.int .i64 x5.1, .bool x5.2]) rfl ⟨rfl, rfl, trivial⟩ ?_
      exact fun w' hb hs => ⟨_, _, ⟨rfl, rfl⟩, rfl, hb, hs.sel [] _ (by decide) rfl⟩
  · intro K
    rcases cond_some hcb1 with ⟨hb, hres⟩ | ⟨hb, hres⟩
    · refine JL.set (d := 8) (v := .bool true) (congrArg (fun b => some (Value.bool b)) hb) ?_
      refine JL.gval rfl rfl (yl_move rfl) rfl ?_
      obtain ⟨x2, hx2, hres⟩ := bind_some hres
      refine JL.gval rfl rfl (yl_getS Go.Proofs.Try.underlying9 rfl rfl hx2) rfl ?_
      refine JL.gval rfl rfl (yl_eql rfl rfl) rfl ?_
      refine JL.val (yl_pick_true rfl rfl) rfl ?_
      have he := Option.some.inj hres
      exact JL.weak [] K ⟨rfl, (by rw [← he]; rfl), trivial⟩ (by decide) rfl
    · refine JL.set (d := 8) (v := .bool false) (congrArg (fun b => some (Value.bool b)) hb) ?_
      refine JL.gskip rfl rfl rfl rfl ?_
      refine JL.gskip rfl rfl rfl rfl ?_
      refine JL.gskip rfl rfl rfl rfl ?_
      refine JL.val (yl_pick_false rfl rfl) rfl ?_
      have he := Option.some.inj hres
      exact JL.weak [] K ⟨rfl, (by rw [← he]; rfl), trivial⟩ (by decide) rfl

/- spec.ReadTool -/
def sh76_1 (x1 : List ByteArray) : (Int × List SToolMove) → Option ((Int × List SToolMove) ⊕ ((List SToolMove) ⊕ (List SToolMove × Bool)))
  | (x11, x12) => bif decide (x11 < (w64 ((x1.length : Int) - 1))) then (Option.bind (getI x1 x11) fun x15 => Option.bind (sh163 x15 32) fun x16 => bif (x16.length : Int) != 3 then (some (.inr (.inr (([] : List SToolMove), false)))) else (Option.bind (getI x16 (0 : Int)) fun x21 => Option.bind (sh164 x21) fun x22 => Option.bind (getI x16 (1 : Int)) fun x23 => Option.bind (sh164 x23) fun x24 => Option.bind (getI x16 (2 : Int)) fun x25 => Option.bind (sh164 x25) fun x26 => bif (!x22.2 || !x24.2) || !x26.2 then (some (.inr (.inr (([] : List SToolMove), false)))) else (Option.bind (appL x12 [SToolMove.mk x22.1 x24.1 x26.1]) fun x30 => some (.inl (w64 (x11 + 1), x30))))) else (some (.inr (.inl x12)))
def sh76 (q0 : ByteArray) : Option (List SToolMove × Bool) := Option.bind (sh163 q0 10) fun x1 => Option.bind (getI x1 (w64 ((x1.length : Int) - 1))) fun x7 => bif (!(x7.toList == (ByteArray.mk #[]).toList)) || (decide (701 < (x1.length : Int))) then (some (([] : List SToolMove), false)) else (Option.bind (iter (sh76_1 x1) (0, ([] : List SToolMove))) fun y1 => elimS y1 (fun r => some r) fun b1 => (Option.bind (sh152 b1) fun x35 => bif !x35 then (some (([] : List SToolMove), false)) else (some (b1, true))))
def T76 (r : List SToolMove × Bool) (v : Value) (rs : List Own) : Prop := ∃ (a0 : Option Addr) (n0 c0 : Nat), r.1.length = n0 ∧ v = rets [.slice a0 n0 c0, .bool r.2] ∧ rs = [rowT 88 eSToolMove a0 n0 c0 r.1]
set_option maxRecDepth 100000 in
set_option maxHeartbeats 1000000 in
theorem c76 {w : World} {q0 : ByteArray} {r : List SToolMove × Bool} (hres : sh76 q0 = some r) : Calls Go.Proofs.Try.prog 76 [.string q0].toArray w (Ret w (T76 r)) := by
  unfold sh76 at hres
  refine calls_of (n := 86) (M := []) (es := []) Go.Proofs.Try.func76 rfl rfl rfl (Sep.nil _ _ _) ?_
  refine JX.seq ?_
  refine JX.region ?_
  refine JL.val (yl_assign rfl) rfl ?_
  refine JL.val (yl_assign rfl) rfl ?_
  refine JL.nil ?_
  refine JE.code ?_
  refine JX.seq ?_
  refine JX.region ?_
  refine JL.val (yl_move rfl) rfl ?_
  obtain ⟨x1, hx1, hres⟩ := bind_some hres
  refine JL.eff (ef_call (T := T163 x1) Go.Proofs.Try.func163 rfl (by kernel_rfl) rfl (fun w hC => c163  hx1)) rfl ?_
  rintro _ _ ⟨_, ⟨a2, _, cp3, rfl, rfl, rfl⟩, rfl⟩
  refine JL.val (yl_assign rfl) rfl ?_
  refine JL.nil ?_
  refine JE.code ?_
  refine JX.seq ?_
  refine JX.region ?_
  refine JL.eff (ef_buildSlice (E := 88) (k := eSToolMove.k) (us := eSToolMove.fl ([] : List SToolMove)) rfl (fun w => bsl65_0  w) rfl (by decide)) rfl ?_
  rintro _ _ ⟨a5, rfl, rfl⟩
  refine JL.val (yl_assign rfl) rfl ?_
  refine JL.nil ?_
  refine JE.code ?_
  refine JX.seq ?_
  refine JX.seq ?_
  refine JX.region ?_
  refine JL.val (yl_move rfl) rfl ?_
  refine JL.val (yl_move rfl) rfl ?_
  refine JL.val (yl_len_slice Go.Proofs.Try.underlying150 rfl) rfl ?_
  refine JL.val (yl_sub rfl rfl) rfl ?_
  obtain ⟨x7, hx7, hres⟩ := bind_some hres
  refine JL.val (yl_idxT Go.Proofs.Try.underlying150 i9 i9s rfl rfl hx7 rfl (fun w hC => rd_row hC 0 rfl)) rfl ?_
  refine JL.val (yl_loadT0 Go.Proofs.Try.underlying9 rfl rfl hx7 (fun w hC => rd_row hC 0 rfl) rfl) rfl ?_
  refine JL.val (yl_sneq rfl rfl) rfl ?_
  refine JL.val (yl_move rfl) rfl ?_
  refine JL.cut (K := fun J => J [(4, .slice a2 x1.length cp3), (5, .slice a5 0 0), (28, .bool ((!(x7.toList == (ByteArray.mk #[]).toList)) || (decide (701 < (x1.length : Int)))))] [rowT 9 eStr a2 x1.length cp3 x1, rowT 88 eSToolMove a5 0 0 ([] : List SToolMove)]) 4 ?_ ?_
  · refine JL.nil ?_
    refine JE.weak (env' := [(4, .slice a2 x1.length cp3), (5, .slice a5 0 0), (28, .bool ((!(x7.toList == (ByteArray.mk #[]).toList)) || (decide (701 < (x1.length : Int)))))]) (es' := [rowT 9 eStr a2 x1.length cp3 x1, rowT 88 eSToolMove a5 0 0 ([] : List SToolMove)]) [0, 1] ?_ ⟨rfl, rfl, rfl, trivial⟩ (by decide) rfl
    refine JE.code ?_
    rcases cond_some hres with ⟨hb, hres⟩ | ⟨hb, hres⟩
    · refine JX.condT rfl hb ?_
      refine JX.seq ?_
      refine JX.region ?_
      refine JL.val (yl_assign rfl) rfl ?_
      refine JL.val (yl_assign rfl) rfl ?_
      refine JL.nil ?_
      refine JE.weak (env' := [(2, .slice none 0 0), (3, .bool false)]) (es' := []) [] ?_ ⟨rfl, rfl, trivial⟩ (by decide) rfl
      refine JE.code ?_
      refine JX.ret ?_
      refine JE.nilrow 88 eSToolMove ?_
      obtain rfl := Option.some.inj hres
      refine JE.ret (rs := [.tmp 2, .tmp 3]) (vs := [.slice none 0 0, .bool false]) rfl ⟨rfl, rfl, trivial⟩ ?_
      exact fun w' hb hs => ⟨_, _, ⟨none, 0, 0, rfl, rfl, rfl⟩, rfl, hb, hs.sel [0] _ (by decide) rfl⟩
    · refine JX.condF rfl hb ?_
      refine JX.skip ?_
      refine JE.code ?_
      refine JX.seq ?_
      refine JX.seq ?_
      refine JX.region ?_
      refine JL.val (yl_assign rfl) rfl ?_
      refine JL.nil ?_
      refine JE.code ?_
      refine JX.block ?_
      obtain ⟨y1, hy1, hresO1⟩ := bind_some hres
      refine JX.loop (I := fun (s1 : Int × List SToolMove) aa ww => ∃ (a9 : Option Addr) (cp10 : Nat), St w [] 86 [(4, .slice a2 x1.length cp3), (5, .slice a9 s1.2.length cp10), (6, .int .i64 s1.1)] [rowT 9 eStr a2 x1.length cp3 x1, rowT 88 eSToolMove a9 s1.2.length cp10 s1.2] aa ww) (sh76_1 x1) hy1 (fun a w h => ⟨a5, 0, h.weak ⟨rfl, rfl, rfl, trivial⟩ [0, 1] (by decide) rfl⟩) ?_
      rintro ⟨x11, x12⟩ o1 hres hox1 aa ww ⟨a13, cp14, hS⟩
      refine (?_ : JX Go.Proofs.Try.prog w [] 86 _ _ [(4, .slice a2 x1.length cp3), (5, .slice a13 x12.length cp14), (6, .int .i64 x11)] [rowT 9 eStr a2 x1.length cp3 x1, rowT 88 eSToolMove a13 x12.length cp14 x12] _) aa ww hS
      clear hS
      simp only [sh76_1] at hres
      refine JX.seq ?_
      refine JX.seq ?_
      refine JX.region ?_
      refine JL.val (yl_move rfl) rfl ?_
      refine JL.val (yl_move rfl) rfl ?_
      refine JL.val (yl_len_slice Go.Proofs.Try.underlying150 rfl) rfl ?_
      refine JL.val (yl_sub rfl rfl) rfl ?_
      refine JL.val (yl_lss rfl rfl) rfl ?_
      refine JL.nil ?_
      refine JE.weak (env' := [(4, .slice a2 x1.length cp3), (5, .slice a13 x12.length cp14), (6, .int .i64 x11), (33, .bool (decide (x11 < (w64 ((x1.length : Int) - 1)))))]) (es' := [rowT 9 eStr a2 x1.length cp3 x1, rowT 88 eSToolMove a13 x12.length cp14 x12]) [0, 1] ?_ ⟨rfl, rfl, rfl, rfl, trivial⟩ (by decide) rfl
      refine JE.code ?_
      rcases cond_some hres with ⟨hb, hres⟩ | ⟨hb, hres⟩
      · refine JX.condT rfl hb ?_
        refine JX.skip ?_
        refine JE.code ?_
        refine JX.seq ?_
        refine JX.block ?_
        refine JX.seq ?_
        refine JX.region ?_
        refine JL.val (yl_move rfl) rfl ?_
        refine JL.val (yl_move rfl) rfl ?_
        obtain ⟨x15, hx15, hres⟩ := bind_some hres
        refine JL.val (yl_idxT Go.Proofs.Try.underlying150 i9 i9s rfl rfl hx15 rfl (fun w hC => rd_row hC 0 rfl)) rfl ?_
        refine JL.val (yl_loadT0 Go.Proofs.Try.underlying9 rfl rfl hx15 (fun w hC => rd_row hC 0 rfl) rfl) rfl ?_
        obtain ⟨x16, hx16, hres⟩ := bind_some hres
        refine JL.eff (ef_call (T := T163 x16) Go.Proofs.Try.func163 rfl (by kernel_rfl) rfl (fun w hC => c163  hx16)) rfl ?_
        rintro _ _ ⟨_, ⟨a17, _, cp18, rfl, rfl, rfl⟩, rfl⟩
        refine JL.val (yl_assign rfl) rfl ?_
        refine JL.nil ?_
        refine JE.weak (env' := [(4, .slice a2 x1.length cp3), (5, .slice a13 x12.length cp14), (6, .int .i64 x11), (7, .slice a17 x16.length cp18)]) (es' := [rowT 9 eStr a2 x1.length cp3 x1, rowT 88 eSToolMove a13 x12.length cp14 x12, rowT 9 eStr a17 x16.length cp18 x16]) [0, 1, 2] ?_ ⟨rfl, rfl, rfl, rfl, trivial⟩ (by decide) rfl
        refine JE.code ?_
        refine JX.seq ?_
        refine JX.seq ?_
        refine JX.region ?_
        refine JL.val (yl_move rfl) rfl ?_
        refine JL.val (yl_len_slice Go.Proofs.Try.underlying150 rfl) rfl ?_
        refine JL.val (yl_neq rfl rfl) rfl ?_
        refine JL.nil ?_
        refine JE.code ?_
        rcases cond_some hres with ⟨hb, hres⟩ | ⟨hb, hres⟩
        · refine JX.condT rfl hb ?_
          refine JX.seq ?_
          refine JX.region ?_
          refine JL.val (yl_assign rfl) rfl ?_
          refine JL.val (yl_assign rfl) rfl ?_
          refine JL.nil ?_
          refine JE.weak (env' := [(2, .slice none 0 0), (3, .bool false)]) (es' := []) [] ?_ ⟨rfl, rfl, trivial⟩ (by decide) rfl
          refine JE.code ?_
          refine JX.ret ?_
          refine JE.qbr ?_
          refine JE.qbr ?_
          refine JE.nilrow 88 eSToolMove ?_
          have hres := elimS_inr hresO1 (hox1 _ (Option.some.inj hres).symm)
          obtain rfl := Option.some.inj hres
          refine JE.ret (rs := [.tmp 2, .tmp 3]) (vs := [.slice none 0 0, .bool false]) rfl ⟨rfl, rfl, trivial⟩ ?_
          exact fun w' hb hs => ⟨_, _, ⟨none, 0, 0, rfl, rfl, rfl⟩, rfl, hb, hs.sel [0] _ (by decide) rfl⟩
        · refine JX.condF rfl hb ?_
          refine JX.skip ?_
          refine JE.code ?_
          refine JX.seq ?_
          refine JX.region ?_
          refine JL.val (yl_move rfl) rfl ?_
          obtain ⟨x21, hx21, hres⟩ := bind_some hres
          refine JL.val (yl_idxT Go.Proofs.Try.underlying150 i9 i9s rfl rfl hx21 rfl (fun w hC => rd_row hC 2 rfl)) rfl ?_
          refine JL.val (yl_loadT0 Go.Proofs.Try.underlying9 rfl rfl hx21 (fun w hC => rd_row hC 2 rfl) rfl) rfl ?_
          obtain ⟨x22, hx22, hres⟩ := bind_some hres
          refine JL.eff (ef_call (T := T164 x22) Go.Proofs.Try.func164 rfl (by kernel_rfl) rfl (fun w hC => c164  hx22)) rfl ?_
          rintro _ _ ⟨_, ⟨rfl, rfl⟩, rfl⟩
          refine JL.val (yl_move rfl) rfl ?_
          refine JL.val (yl_extract rfl rfl) rfl ?_
          refine JL.val (yl_extract rfl rfl) rfl ?_
          refine JL.val (yl_assign rfl) rfl ?_
          refine JL.val (yl_assign rfl) rfl ?_
          refine JL.nil ?_
          refine JE.weak (env' := [(4, .slice a2 x1.length cp3), (5, .slice a13 x12.length cp14), (6, .int .i64 x11), (7, .slice a17 x16.length cp18), (8, .int .i64 x22.1), (9, .bool x22.2)]) (es' := [rowT 9 eStr a2 x1.length cp3 x1, rowT 88 eSToolMove a13 x12.length cp14 x12, rowT 9 eStr a17 x16.length cp18 x16]) [0, 1, 2] ?_ ⟨rfl, rfl, rfl, rfl, rfl, rfl, trivial⟩ (by decide) rfl
          refine JE.code ?_
          refine JX.seq ?_
          refine JX.region ?_
          refine JL.val (yl_move rfl) rfl ?_
          obtain ⟨x23, hx23, hres⟩ := bind_some hres
          refine JL.val (yl_idxT Go.Proofs.Try.underlying150 i9 i9s rfl rfl hx23 rfl (fun w hC => rd_row hC 2 rfl)) rfl ?_
          refine JL.val (yl_loadT0 Go.Proofs.Try.underlying9 rfl rfl hx23 (fun w hC => rd_row hC 2 rfl) rfl) rfl ?_
          obtain ⟨x24, hx24, hres⟩ := bind_some hres
          refine JL.eff (ef_call (T := T164 x24) Go.Proofs.Try.func164 rfl (by kernel_rfl) rfl (fun w hC => c164  hx24)) rfl ?_
          rintro _ _ ⟨_, ⟨rfl, rfl⟩, rfl⟩
          refine JL.val (yl_move rfl) rfl ?_
          refine JL.val (yl_extract rfl rfl) rfl ?_
          refine JL.val (yl_extract rfl rfl) rfl ?_
          refine JL.val (yl_assign rfl) rfl ?_
          refine JL.val (yl_assign rfl) rfl ?_
          refine JL.nil ?_
          refine JE.weak (env' := [(4, .slice a2 x1.length cp3), (5, .slice a13 x12.length cp14), (6, .int .i64 x11), (7, .slice a17 x16.length cp18), (8, .int .i64 x22.1), (9, .bool x22.2), (10, .int .i64 x24.1), (11, .bool x24.2)]) (es' := [rowT 9 eStr a2 x1.length cp3 x1, rowT 88 eSToolMove a13 x12.length cp14 x12, rowT 9 eStr a17 x16.length cp18 x16]) [0, 1, 2] ?_ ⟨rfl, rfl, rfl, rfl, rfl, rfl, rfl, rfl, trivial⟩ (by decide) rfl
          refine JE.code ?_
          refine JX.seq ?_
          refine JX.region ?_
          refine JL.val (yl_move rfl) rfl ?_
          obtain ⟨x25, hx25, hres⟩ := bind_some hres
          refine JL.val (yl_idxT Go.Proofs.Try.underlying150 i9 i9s rfl rfl hx25 rfl (fun w hC => rd_row hC 2 rfl)) rfl ?_
          refine JL.val (yl_loadT0 Go.Proofs.Try.underlying9 rfl rfl hx25 (fun w hC => rd_row hC 2 rfl) rfl) rfl ?_
          obtain ⟨x26, hx26, hres⟩ := bind_some hres
          refine JL.eff (ef_call (T := T164 x26) Go.Proofs.Try.func164 rfl (by kernel_rfl) rfl (fun w hC => c164  hx26)) rfl ?_
          rintro _ _ ⟨_, ⟨rfl, rfl⟩, rfl⟩
          refine JL.val (yl_move rfl) rfl ?_
          refine JL.val (yl_extract rfl rfl) rfl ?_
          refine JL.val (yl_extract rfl rfl) rfl ?_
          refine JL.val (yl_assign rfl) rfl ?_
          refine JL.val (yl_assign rfl) rfl ?_
          refine JL.nil ?_
          refine JE.weak (env' := [(4, .slice a2 x1.length cp3), (5, .slice a13 x12.length cp14), (6, .int .i64 x11), (8, .int .i64 x22.1), (9, .bool x22.2), (10, .int .i64 x24.1), (11, .bool x24.2), (12, .int .i64 x26.1), (13, .bool x26.2)]) (es' := [rowT 9 eStr a2 x1.length cp3 x1, rowT 88 eSToolMove a13 x12.length cp14 x12]) [0, 1] ?_ ⟨rfl, rfl, rfl, rfl, rfl, rfl, rfl, rfl, rfl, trivial⟩ (by decide) rfl
          refine JE.code ?_
          refine JX.seq ?_
          refine JX.seq ?_
          refine JX.region ?_
          refine JL.val (yl_move rfl) rfl ?_
          refine JL.val (yl_not rfl) rfl ?_
          refine JL.val (yl_move rfl) rfl ?_
          refine JL.cut (K := fun J => J [(4, .slice a2 x1.length cp3), (5, .slice a13 x12.length cp14), (6, .int .i64 x11), (8, .int .i64 x22.1), (10, .int .i64 x24.1), (12, .int .i64 x26.1), (13, .bool x26.2), (70, .bool (!x22.2 || !x24.2))] [rowT 9 eStr a2 x1.length cp3 x1, rowT 88 eSToolMove a13 x12.length cp14 x12]) 3 ?_ ?_
          · refine JL.val (yl_move rfl) rfl ?_
            refine JL.cut (K := fun J => J [(4, .slice a2 x1.length cp3), (5, .slice a13 x12.length cp14), (6, .int .i64 x11), (8, .int .i64 x22.1), (10, .int .i64 x24.1), (12, .int .i64 x26.1), (74, .bool ((!x22.2 || !x24.2) || !x26.2))] [rowT 9 eStr a2 x1.length cp3 x1, rowT 88 eSToolMove a13 x12.length cp14 x12]) 3 ?_ ?_
            · refine JL.nil ?_
              refine JE.weak (env' := [(4, .slice a2 x1.length cp3), (5, .slice a13 x12.length cp14), (6, .int .i64 x11), (8, .int .i64 x22.1), (10, .int .i64 x24.1), (12, .int .i64 x26.1), (74, .bool ((!x22.2 || !x24.2) || !x26.2))]) (es' := [rowT 9 eStr a2 x1.length cp3 x1, rowT 88 eSToolMove a13 x12.length cp14 x12]) [0, 1] ?_ ⟨rfl, rfl, rfl, rfl, rfl, rfl, rfl, trivial⟩ (by decide) rfl
              refine JE.code ?_
              rcases cond_some hres with ⟨hb, hres⟩ | ⟨hb, hres⟩
              · refine JX.condT rfl hb ?_
                refine JX.seq ?_
                refine JX.region ?_
                refine JL.val (yl_assign rfl) rfl ?_
                refine JL.val (yl_assign rfl) rfl ?_
                refine JL.nil ?_
                refine JE.weak (env' := [(2, .slice none 0 0), (3, .bool false)]) (es' := []) [] ?_ ⟨rfl, rfl, trivial⟩ (by decide) rfl
                refine JE.code ?_
                refine JX.ret ?_
                refine JE.qbr ?_
                refine JE.qbr ?_
                refine JE.nilrow 88 eSToolMove ?_
                have hres := elimS_inr hresO1 (hox1 _ (Option.some.inj hres).symm)
                obtain rfl := Option.some.inj hres
                refine JE.ret (rs := [.tmp 2, .tmp 3]) (vs := [.slice none 0 0, .bool false]) rfl ⟨rfl, rfl, trivial⟩ ?_
                exact fun w' hb hs => ⟨_, _, ⟨none, 0, 0, rfl, rfl, rfl⟩, rfl, hb, hs.sel [0] _ (by decide) rfl⟩
              · refine JX.condF rfl hb ?_
                refine JX.skip ?_
                refine JE.code ?_
                refine JX.region ?_
                refine JL.val (yl_move rfl) rfl ?_
                refine JL.val (yl_move rfl) rfl ?_
                refine JL.val (yl_move rfl) rfl ?_
                refine JL.val (yl_move rfl) rfl ?_
                refine JL.val (yl_build rfl (fun w => bld88_0_1_2 x22.1 x24.1 x26.1 w)) rfl ?_
                refine JL.eff (ef_buildSlice (E := 88) (k := eSToolMove.k) (us := eSToolMove.fl [SToolMove.mk x22.1 x24.1 x26.1]) rfl (fun w => bsl65_1 x22.1 x24.1 x26.1 w) rfl (by decide)) rfl ?_
                rintro _ _ ⟨a28, rfl, rfl⟩
                obtain ⟨x30, hx30, hres⟩ := bind_some hres
                refine JL.eff (ef_appendT (ix := 1) Go.Proofs.Try.underlying65 i88 i88z i88s rfl i88b0 i88b1 rfl rfl rfl rfl rfl (fun w hC => rd_row hC 2 rfl) hx30) rfl ?_
                rintro _ _ ⟨a31, cp32, rfl, rfl⟩
                refine JL.val (yl_assign rfl) rfl ?_
                refine JL.nil ?_
                refine JE.weak (env' := [(4, .slice a2 x1.length cp3), (5, .slice a31 x30.length cp32), (6, .int .i64 x11)]) (es' := [rowT 9 eStr a2 x1.length cp3 x1, rowT 88 eSToolMove a31 x30.length cp32 x30]) [0, 1] ?_ ⟨rfl, rfl, rfl, trivial⟩ (by decide) rfl
                refine JE.code ?_
                refine JX.region ?_
                refine JL.val (yl_move rfl) rfl ?_
                refine JL.val (yl_add rfl rfl) rfl ?_
                refine JL.val (yl_assign rfl) rfl ?_
                refine JL.nil ?_
                refine JE.cont hres ?_
                exact fun a w h => ⟨a31, cp32, h.weak ⟨rfl, rfl, rfl, trivial⟩ [0, 1] (by decide) rfl⟩
            · intro K
              rcases Bool.eq_false_or_eq_true (!x22.2 || !x24.2) with hb | hb
              · refine JL.set (d := 71) (v := .bool true) (congrArg (fun b => some (Value.bool b)) hb) ?_
                refine JL.gskip rfl rfl rfl rfl ?_
                refine JL.gskip rfl rfl rfl rfl ?_
                refine JL.val (yl_pick_true rfl rfl) rfl ?_
                exact JL.weak [0, 1] K ⟨rfl, rfl, rfl, rfl, rfl, rfl, (by rw [hb]; rfl), trivial⟩ (by decide) rfl
              · refine JL.set (d := 71) (v := .bool false) (congrArg (fun b => some (Value.bool b)) hb) ?_
                refine JL.gval rfl rfl (yl_move rfl) rfl ?_
                refine JL.gval rfl rfl (yl_not rfl) rfl ?_
                refine JL.val (yl_pick_false rfl rfl) rfl ?_
                exact JL.weak [0, 1] K ⟨rfl, rfl, rfl, rfl, rfl, rfl, (by rw [hb]; rfl), trivial⟩ (by decide) rfl
          · intro K
            rcases Bool.eq_false_or_eq_true (!x22.2) with hb | hb
            · refine JL.set (d := 67) (v := .bool true) (congrArg (fun b => some (Value.bool b)) hb) ?_
              refine JL.gskip rfl rfl rfl rfl ?_
              refine JL.gskip rfl rfl rfl rfl ?_
              refine JL.val (yl_pick_true rfl rfl) rfl ?_
              exact JL.weak [0, 1] K ⟨rfl, rfl, rfl, rfl, rfl, rfl, rfl, (by rw [hb]; rfl), trivial⟩ (by decide) rfl
            · refine JL.set (d := 67) (v := .bool false) (congrArg (fun b => some (Value.bool b)) hb) ?_
              refine JL.gval rfl rfl (yl_move rfl) rfl ?_
              refine JL.gval rfl rfl (yl_not rfl) rfl ?_
              refine JL.val (yl_pick_false rfl rfl) rfl ?_
              exact JL.weak [0, 1] K ⟨rfl, rfl, rfl, rfl, rfl, rfl, rfl, (by rw [hb]; rfl), trivial⟩ (by decide) rfl
      · refine JX.condF rfl hb ?_
        refine JX.exit ?_
        refine JE.qb rfl ?_
        obtain ⟨b1, hb1⟩ : ∃ b : List SToolMove, b = x12 := ⟨_, rfl⟩
        have hy1 : Sum.inl b1 = y1 := by rw [hb1]; exact hox1 _ (Option.some.inj hres).symm
        have hres := elimS_inl hresO1 hy1
        refine JE.weak (env' := [(5, .slice a13 b1.length cp14)]) (es' := [rowT 88 eSToolMove a13 b1.length cp14 b1]) [1] ?_ ⟨(by subst hb1; rfl), trivial⟩ (by decide) (by subst hb1; rfl)
        refine JE.code ?_
        refine JX.seq ?_
        refine JX.seq ?_
        refine JX.region ?_
        refine JL.val (yl_move rfl) rfl ?_
        obtain ⟨x35, hx35, hres⟩ := bind_some hres
        refine JL.eff (ef_call (T := T152 x35) Go.Proofs.Try.func152 rfl (by kernel_rfl) rfl (fun w hC => c152 (rd_row hC 0 rfl) rfl (ln_row hC 0 rfl) hx35)) rfl ?_
        rintro _ _ ⟨_, ⟨rfl, rfl⟩, rfl⟩
        refine JL.val (yl_not rfl) rfl ?_
        refine JL.nil ?_
        refine JE.code ?_
        rcases cond_some hres with ⟨hb, hres⟩ | ⟨hb, hres⟩
        · refine JX.condT rfl hb ?_
          refine JX.seq ?_
          refine JX.region ?_
          refine JL.val (yl_assign rfl) rfl ?_
          refine JL.val (yl_assign rfl) rfl ?_
          refine JL.nil ?_
          refine JE.weak (env' := [(2, .slice none 0 0), (3, .bool false)]) (es' := []) [] ?_ ⟨rfl, rfl, trivial⟩ (by decide) rfl
          refine JE.code ?_
          refine JX.ret ?_
          refine JE.nilrow 88 eSToolMove ?_
          obtain rfl := Option.some.inj hres
          refine JE.ret (rs := [.tmp 2, .tmp 3]) (vs := [.slice none 0 0, .bool false]) rfl ⟨rfl, rfl, trivial⟩ ?_
          exact fun w' hb hs => ⟨_, _, ⟨none, 0, 0, rfl, rfl, rfl⟩, rfl, hb, hs.sel [0] _ (by decide) rfl⟩
        · refine JX.condF rfl hb ?_
          refine JX.skip ?_
          refine JE.code ?_
          refine JX.seq ?_
          refine JX.region ?_
          refine JL.val (yl_move rfl) rfl ?_
          refine JL.val (yl_assign rfl) rfl ?_
          refine JL.val (yl_assign rfl) rfl ?_
          refine JL.nil ?_
          refine JE.code ?_
          refine JX.ret ?_
          obtain rfl := Option.some.inj hres
          refine JE.ret (rs := [.tmp 2, .tmp 3]) (vs := [.slice a13 b1.length cp14, .bool true]) rfl ⟨rfl, rfl, trivial⟩ ?_
          exact fun w' hb hs => ⟨_, _, ⟨a13, b1.length, cp14, rfl, rfl, rfl⟩, rfl, hb, hs.sel [0] _ (by decide) rfl⟩
  · intro K
    rcases Bool.eq_false_or_eq_true (!(x7.toList == (ByteArray.mk #[]).toList)) with hb | hb
    · refine JL.set (d := 24) (v := .bool true) (congrArg (fun b => some (Value.bool b)) hb) ?_
      refine JL.gskip rfl rfl rfl rfl ?_
      refine JL.gskip rfl rfl rfl rfl ?_
      refine JL.gskip rfl rfl rfl rfl ?_
      refine JL.val (yl_pick_true rfl rfl) rfl ?_
      exact JL.weak [0, 1] K ⟨rfl, rfl, (by rw [hb]; rfl), trivial⟩ (by decide) rfl
    · refine JL.set (d := 24) (v := .bool false) (congrArg (fun b => some (Value.bool b)) hb) ?_
      refine JL.gval rfl rfl (yl_move rfl) rfl ?_
      refine JL.gval rfl rfl (yl_len_slice Go.Proofs.Try.underlying150 rfl) rfl ?_
      refine JL.gval rfl rfl (yl_gtr rfl rfl) rfl ?_
      refine JL.val (yl_pick_false rfl rfl) rfl ?_
      exact JL.weak [0, 1] K ⟨rfl, rfl, (by rw [hb]; rfl), trivial⟩ (by decide) rfl

/- spec.ToolText -/
def sh77 (q0 : List SToolMove) : Option (ByteArray) := Option.bind (sh152 q0) fun x1 => bif !x1 then (some (ByteArray.mk #[])) else (Option.bind (sh160 q0) fun x2 => some x2)
def T77 (r : ByteArray) (v : Value) (rs : List Own) : Prop := v = rets [.string r] ∧ rs = []
set_option maxRecDepth 100000 in
theorem c77 {w : World} {q0 : List SToolMove} {a_0 : Option Addr} {n_0 c_0 : Nat} (g_0 : Rd w a_0 (eSToolMove.fl q0)) (l_0 : q0.length = n_0) (k_0 : n_0 ≤ c_0) {r : ByteArray} (hres : sh77 q0 = some r) : Calls Go.Proofs.Try.prog 77 [.slice a_0 n_0 c_0].toArray w (Ret w (T77 r)) := by
  subst l_0
  unfold sh77 at hres
  refine calls_of (n := 8) (M := []) (es := []) Go.Proofs.Try.func77 rfl rfl rfl (Sep.nil _ _ _) ?_
  refine JX.seq ?_
  refine JX.region ?_
  refine JL.val (yl_assign rfl) rfl ?_
  refine JL.nil ?_
  refine JE.code ?_
  refine JX.seq ?_
  refine JX.seq ?_
  refine JX.region ?_
  refine JL.val (yl_move rfl) rfl ?_
  obtain ⟨x1, hx1, hres⟩ := bind_some hres
  refine JL.eff (ef_call (T := T152 x1) Go.Proofs.Try.func152 rfl (by kernel_rfl) rfl (fun w hC => c152 (rd_arg g_0 hC) rfl k_0 hx1)) rfl ?_
  rintro _ _ ⟨_, ⟨rfl, rfl⟩, rfl⟩
  refine JL.val (yl_not rfl) rfl ?_
  refine JL.nil ?_
  refine JE.code ?_
  rcases cond_some hres with ⟨hb, hres⟩ | ⟨hb, hres⟩
  · refine JX.condT rfl hb ?_
    refine JX.seq ?_
    refine JX.region ?_
    refine JL.val (yl_assign rfl) rfl ?_
    refine JL.nil ?_
    refine JE.code ?_
    refine JX.ret ?_
    obtain rfl := Option.some.inj hres
    refine JE.ret (rs := [.tmp 2]) (vs := [.string (ByteArray.mk #[])]) rfl ⟨rfl, trivial⟩ ?_
    exact fun w' hb hs => ⟨_, _, ⟨rfl, rfl⟩, rfl, hb, hs.sel [] _ (by decide) rfl⟩
  · refine JX.condF rfl hb ?_
    refine JX.skip ?_
    refine JE.code ?_
    refine JX.seq ?_
    refine JX.region ?_
    refine JL.val (yl_move rfl) rfl ?_
    obtain ⟨x2, hx2, hres⟩ := bind_some hres
    refine JL.eff (ef_call (T := T160 x2) Go.Proofs.Try.func160 rfl (by kernel_rfl) rfl (fun w hC => c160 (rd_arg g_0 hC) rfl k_0 hx2)) rfl ?_
    rintro _ _ ⟨_, ⟨rfl, rfl⟩, rfl⟩
    refine JL.val (yl_assign rfl) rfl ?_
    refine JL.nil ?_
    refine JE.code ?_
    refine JX.ret ?_
    obtain rfl := Option.some.inj hres
    refine JE.ret (rs := [.tmp 2]) (vs := [.string x2]) rfl ⟨rfl, trivial⟩ ?_
    exact fun w' hb hs => ⟨_, _, ⟨rfl, rfl⟩, rfl, hb, hs.sel [] _ (by decide) rfl⟩

end Go.Sh
