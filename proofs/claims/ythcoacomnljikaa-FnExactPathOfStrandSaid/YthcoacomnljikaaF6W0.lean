/- Walks through functions that the law reaches, printed by program. -/
import Derived.Test.YthcoacomnljikaaF6T
set_option linter.unusedVariables false
set_option linter.unusedSimpArgs false
namespace Go.Sh
open Go Go.RowKit
/- laws.toInt64S -/
def sh24_1 (q0 : List Int) : (Int × List Int) → Option ((Int × List Int) ⊕ (List Int))
  | (x5, x6) => bif decide (x5 < (q0.length : Int)) then (Option.bind (getI q0 x5) fun x8 => Option.bind (getI x6 x5) fun x9 => some (.inl (w64 (x5 + 1), x6.set (x5).toNat x8))) else (some (.inr x6))
def sh24 (q0 : List Int) : Option (List Int) := Option.bind (mkL (q0.length : Int) 0) fun x1 => Option.bind (iter (sh24_1 q0) (0, x1)) fun b1 => (some b1)
def T24 (r : List Int) (v : Value) (rs : List Own) : Prop := ∃ (a0 : Option Addr) (n0 c0 : Nat), r.length = n0 ∧ v = rets [.slice a0 n0 c0] ∧ rs = [rowT 2 eI64 a0 n0 c0 r]
set_option maxRecDepth 100000 in
theorem c24 {w : World} {q0 : List Int} {a_0 : Option Addr} {n_0 c_0 : Nat} (g_0 : Rd w a_0 (eI64.fl q0)) (l_0 : q0.length = n_0) (k_0 : n_0 ≤ c_0) {r : List Int} (hres : sh24 q0 = some r) : Calls Go.Proofs.Try.prog 24 [.slice a_0 n_0 c_0].toArray w (Ret w (T24 r)) := by
  subst l_0
  unfold sh24 at hres
  refine calls_of (n := 22) (M := []) (es := []) Go.Proofs.Try.func24 rfl rfl rfl (Sep.nil _ _ _) ?_
  refine JX.seq ?_
  refine JX.region ?_
  refine JL.val (yl_assign rfl) rfl ?_
  refine JL.nil ?_
  refine JE.code ?_
  refine JX.seq ?_
  refine JX.region ?_
  refine JL.val (yl_move rfl) rfl ?_
  refine JL.val (yl_len_slice Go.Proofs.Try.underlying35 rfl) rfl ?_
  obtain ⟨x1, hx1, hres⟩ := bind_some hres
  refine JL.eff (ef_makeS (e := eI64) Go.Proofs.Try.underlying35 i2 i2s i2z rfl i2b1 rfl rfl hx1) rfl ?_
  rintro _ _ ⟨a2, rfl, rfl⟩
  refine JL.val (yl_assign rfl) rfl ?_
  refine JL.nil ?_
  refine JE.weak (env' := [(0, .slice a_0 q0.length c_0), (3, .slice a2 x1.length x1.length)]) (es' := [rowT 2 eI64 a2 x1.length x1.length x1]) [0] ?_ ⟨rfl, rfl, trivial⟩ (by decide) rfl
  refine JE.code ?_
  refine JX.seq ?_
  refine JX.seq ?_
  refine JX.region ?_
  refine JL.val (yl_assign rfl) rfl ?_
  refine JL.nil ?_
  refine JE.code ?_
  refine JX.block ?_
  obtain ⟨y1, hy1, hresO1⟩ := bind_some hres
  refine JX.loop (I := fun (s1 : Int × List Int) aa ww => ∃ (l4 : s1.2.length = x1.length), St w [] 22 [(0, .slice a_0 q0.length c_0), (3, .slice a2 x1.length x1.length), (4, .int .i64 s1.1)] [rowT 2 eI64 a2 x1.length x1.length s1.2] aa ww) (sh24_1 q0) hy1 (fun a w h => ⟨rfl, h.weak ⟨rfl, rfl, rfl, trivial⟩ [0] (by decide) rfl⟩) ?_
  rintro ⟨x5, x6⟩ o1 hres hox1 aa ww ⟨l7, hS⟩
  refine (?_ : JX Go.Proofs.Try.prog w [] 22 _ _ [(0, .slice a_0 q0.length c_0), (3, .slice a2 x1.length x1.length), (4, .int .i64 x5)] [rowT 2 eI64 a2 x1.length x1.length x6] _) aa ww hS
  clear hS
  simp only [sh24_1] at hres
  refine JX.seq ?_
  refine JX.seq ?_
  refine JX.region ?_
  refine JL.val (yl_move rfl) rfl ?_
  refine JL.val (yl_move rfl) rfl ?_
  refine JL.val (yl_len_slice Go.Proofs.Try.underlying35 rfl) rfl ?_
  refine JL.val (yl_lss rfl rfl) rfl ?_
  refine JL.nil ?_
  refine JE.weak (env' := [(0, .slice a_0 q0.length c_0), (3, .slice a2 x1.length x1.length), (4, .int .i64 x5), (11, .bool (decide (x5 < (q0.length : Int))))]) (es' := [rowT 2 eI64 a2 x1.length x1.length x6]) [0] ?_ ⟨rfl, rfl, rfl, rfl, trivial⟩ (by decide) rfl
  refine JE.code ?_
  rcases cond_some hres with ⟨hb, hres⟩ | ⟨hb, hres⟩
  · refine JX.condT rfl hb ?_
    refine JX.skip ?_
    refine JE.code ?_
    refine JX.seq ?_
    refine JX.block ?_
    refine JX.region ?_
    refine JL.val (yl_move rfl) rfl ?_
    refine JL.val (yl_move rfl) rfl ?_
    refine JL.val (yl_move rfl) rfl ?_
    refine JL.val (yl_move rfl) rfl ?_
    obtain ⟨x8, hx8, hres⟩ := bind_some hres
    refine JL.val (yl_idxT Go.Proofs.Try.underlying35 i2 i2s rfl rfl hx8 rfl (fun w hC => rd_arg g_0 hC)) rfl ?_
    refine JL.val (yl_loadT0 Go.Proofs.Try.underlying2 rfl rfl hx8 (fun w hC => rd_arg g_0 hC) rfl) rfl ?_
    obtain ⟨x9, hx9, hres⟩ := bind_some hres
    refine JL.val (yl_idxT Go.Proofs.Try.underlying35 i2 i2s rfl rfl hx9 l7 (fun w hC => rd_row hC 0 rfl)) rfl ?_
    refine JL.eff (ef_storeT (ix := 0) (u := x8) i2 i2s rfl rfl rfl hx9 rfl) rfl ?_
    rintro _ _ rfl
    refine JL.nil ?_
    refine JE.weak (env' := [(0, .slice a_0 q0.length c_0), (3, .slice a2 x1.length x1.length), (4, .int .i64 x5)]) (es' := [rowT 2 eI64 a2 x1.length x1.length (x6.set (x5).toNat x8)]) [0] ?_ ⟨rfl, rfl, rfl, trivial⟩ (by decide) rfl
    refine JE.code ?_
    refine JX.region ?_
    refine JL.val (yl_move rfl) rfl ?_
    refine JL.val (yl_add rfl rfl) rfl ?_
    refine JL.val (yl_assign rfl) rfl ?_
    refine JL.nil ?_
    refine JE.cont hres ?_
    exact fun a w h => ⟨(List.length_set.trans l7), h.weak ⟨rfl, rfl, rfl, trivial⟩ [0] (by decide) rfl⟩
  · refine JX.condF rfl hb ?_
    refine JX.exit ?_
    refine JE.qb rfl ?_
    obtain ⟨b1, hb1⟩ : ∃ b : List Int, b = x6 := ⟨_, rfl⟩
    have hy1 : b1 = y1 := by rw [hb1]; exact hox1 _ (Option.some.inj hres).symm
    have hres := hresO1
    rw [← hy1] at hres
    have l10 : b1.length = x1.length := by subst hb1; exact l7
    refine JE.weak (env' := [(3, .slice a2 x1.length x1.length)]) (es' := [rowT 2 eI64 a2 x1.length x1.length b1]) [0] ?_ ⟨(by subst hb1; rfl), trivial⟩ (by decide) (by subst hb1; rfl)
    refine JE.code ?_
    refine JX.seq ?_
    refine JX.region ?_
    refine JL.val (yl_move rfl) rfl ?_
    refine JL.val (yl_assign rfl) rfl ?_
    refine JL.nil ?_
    refine JE.code ?_
    refine JX.ret ?_
    obtain rfl := Option.some.inj hres
    refine JE.ret (rs := [.tmp 2]) (vs := [.slice a2 x1.length x1.length]) rfl ⟨rfl, trivial⟩ ?_
    exact fun w' hb hs => ⟨_, _, ⟨a2, x1.length, x1.length, l10, rfl, rfl⟩, rfl, hb, hs.sel [0] _ (by decide) rfl⟩

/- laws.eqInt64S -/
def sh27_1 (q0 : List Int) (q1 : List Int) : Int → Option (Int ⊕ (Unit ⊕ Bool))
  | x1 => bif decide (x1 < (q0.length : Int)) then (Option.bind (getI q0 x1) fun x3 => Option.bind (getI q1 x1) fun x4 => bif x3 != x4 then (some (.inr (.inr false))) else (some (.inl (w64 (x1 + 1))))) else (some (.inr (.inl ())))
def sh27 (q0 : List Int) (q1 : List Int) : Option (Bool) := bif (q0.length : Int) != (q1.length : Int) then (some false) else (Option.bind (iter (sh27_1 q0 q1) 0) fun y1 => elimS y1 (fun r => some r) fun b1 => (some true))
def T27 (r : Bool) (v : Value) (rs : List Own) : Prop := v = rets [.bool r] ∧ rs = []
set_option maxRecDepth 100000 in
theorem c27 {w : World} {q0 : List Int} {a_0 : Option Addr} {n_0 c_0 : Nat} (g_0 : Rd w a_0 (eI64.fl q0)) (l_0 : q0.length = n_0) (k_0 : n_0 ≤ c_0) {q1 : List Int} {a_1 : Option Addr} {n_1 c_1 : Nat} (g_1 : Rd w a_1 (eI64.fl q1)) (l_1 : q1.length = n_1) (k_1 : n_1 ≤ c_1) {r : Bool} (hres : sh27 q0 q1 = some r) : Calls Go.Proofs.Try.prog 27 [.slice a_0 n_0 c_0, .slice a_1 n_1 c_1].toArray w (Ret w (T27 r)) := by
  subst l_0
  subst l_1
  unfold sh27 at hres
  refine calls_of (n := 26) (M := []) (es := []) Go.Proofs.Try.func27 rfl rfl rfl (Sep.nil _ _ _) ?_
  refine JX.seq ?_
  refine JX.region ?_
  refine JL.val (yl_assign rfl) rfl ?_
  refine JL.nil ?_
  refine JE.code ?_
  refine JX.seq ?_
  refine JX.seq ?_
  refine JX.region ?_
  refine JL.val (yl_move rfl) rfl ?_
  refine JL.val (yl_len_slice Go.Proofs.Try.underlying35 rfl) rfl ?_
  refine JL.val (yl_move rfl) rfl ?_
  refine JL.val (yl_len_slice Go.Proofs.Try.underlying35 rfl) rfl ?_
  refine JL.val (yl_neq rfl rfl) rfl ?_
  refine JL.nil ?_
  refine JE.weak (env' := [(0, .slice a_0 q0.length c_0), (1, .slice a_1 q1.length c_1), (10, .bool ((q0.length : Int) != (q1.length : Int)))]) (es' := []) [] ?_ ⟨rfl, rfl, rfl, trivial⟩ (by decide) rfl
  refine JE.code ?_
  rcases cond_some hres with ⟨hb, hres⟩ | ⟨hb, hres⟩
  · refine JX.condT rfl hb ?_
    refine JX.seq ?_
    refine JX.region ?_
    refine JL.val (yl_assign rfl) rfl ?_
    refine JL.nil ?_
    refine JE.code ?_
    refine JX.ret ?_
    obtain rfl := Option.some.inj hres
    refine JE.ret (rs := [.tmp 4]) (vs := [.bool false]) rfl ⟨rfl, trivial⟩ ?_
    exact fun w' hb hs => ⟨_, _, ⟨rfl, rfl⟩, rfl, hb, hs.sel [] _ (by decide) rfl⟩
  · refine JX.condF rfl hb ?_
    refine JX.skip ?_
    refine JE.code ?_
    refine JX.seq ?_
    refine JX.seq ?_
    refine JX.region ?_
    refine JL.val (yl_assign rfl) rfl ?_
    refine JL.nil ?_
    refine JE.code ?_
    refine JX.block ?_
    obtain ⟨y1, hy1, hresO1⟩ := bind_some hres
    refine JX.loop (I := fun (s1 : Int) aa ww => St w [] 26 [(0, .slice a_0 q0.length c_0), (1, .slice a_1 q1.length c_1), (5, .int .i64 s1)] [] aa ww) (sh27_1 q0 q1) hy1 (fun a w h => h.weak ⟨rfl, rfl, rfl, trivial⟩ [] (by decide) rfl) ?_
    rintro x1 o1 hres hox1 aa ww hS
    refine (?_ : JX Go.Proofs.Try.prog w [] 26 _ _ [(0, .slice a_0 q0.length c_0), (1, .slice a_1 q1.length c_1), (5, .int .i64 x1)] [] _) aa ww hS
    clear hS
    unfold sh27_1 at hres
    refine JX.seq ?_
    refine JX.seq ?_
    refine JX.region ?_
    refine JL.val (yl_move rfl) rfl ?_
    refine JL.val (yl_move rfl) rfl ?_
    refine JL.val (yl_len_slice Go.Proofs.Try.underlying35 rfl) rfl ?_
    refine JL.val (yl_lss rfl rfl) rfl ?_
    refine JL.nil ?_
    refine JE.weak (env' := [(0, .slice a_0 q0.length c_0), (1, .slice a_1 q1.length c_1), (5, .int .i64 x1), (14, .bool (decide (x1 < (q0.length : Int))))]) (es' := []) [] ?_ ⟨rfl, rfl, rfl, rfl, trivial⟩ (by decide) rfl
    refine JE.code ?_
    rcases cond_some hres with ⟨hb, hres⟩ | ⟨hb, hres⟩
    · refine JX.condT rfl hb ?_
      refine JX.skip ?_
      refine JE.code ?_
      refine JX.seq ?_
      refine JX.block ?_
      refine JX.seq ?_
      refine JX.drawH [(0, .pure), (1, .pure), (2, .pure), (3, .read), (4, .pure), (5, .pure), (6, .pure), (7, .read), (8, .pure)] [] [] [] [] [] mixedP (by kernel_rfl) (by kernel_rfl) (by decide) rfl rfl ?_
      intro wrr2 Nr2 hFr2
      refine JH.pure rfl (yl_move rfl) rfl ?_
      refine JH.pure rfl (yl_move rfl) rfl ?_
      obtain ⟨x3, hx3, hres⟩ := bind_some hres
      refine JH.pure rfl (yl_idxQ Go.Proofs.Try.underlying35 i2 i2s rfl rfl hx3 rfl (rd_arg g_0 hFr2.cl) rfl) rfl ?_
      refine JH.read rfl (yl_loadT0 Go.Proofs.Try.underlying2 rfl rfl hx3 (fun w hw => hFr2.arg g_0 hw) rfl) rfl ?_
      refine JH.pure rfl (yl_move rfl) rfl ?_
      refine JH.pure rfl (yl_move rfl) rfl ?_
      obtain ⟨x4, hx4, hres⟩ := bind_some hres
      refine JH.pure rfl (yl_idxQ Go.Proofs.Try.underlying35 i2 i2s rfl rfl hx4 rfl (rd_arg g_1 hFr2.cl) rfl) rfl ?_
      refine JH.read rfl (yl_loadT0 Go.Proofs.Try.underlying2 rfl rfl hx4 (fun w hw => hFr2.arg g_1 hw) rfl) rfl ?_
      refine JH.pure rfl (yl_neq rfl rfl) rfl ?_
      refine JH.nil ?_
      refine JE.weak (env' := [(0, .slice a_0 q0.length c_0), (1, .slice a_1 q1.length c_1), (5, .int .i64 x1), (25, .bool (x3 != x4))]) (es' := []) [] ?_ ⟨rfl, rfl, rfl, rfl, trivial⟩ (by decide) rfl
      refine JE.code ?_
      rcases cond_some hres with ⟨hb, hres⟩ | ⟨hb, hres⟩
      · refine JX.condT rfl hb ?_
        refine JX.seq ?_
        refine JX.region ?_
        refine JL.val (yl_assign rfl) rfl ?_
        refine JL.nil ?_
        refine JE.code ?_
        refine JX.ret ?_
        refine JE.qbr ?_
        refine JE.qbr ?_
        have hres := elimS_inr hresO1 (hox1 _ (Option.some.inj hres).symm)
        obtain rfl := Option.some.inj hres
        refine JE.ret (rs := [.tmp 4]) (vs := [.bool false]) rfl ⟨rfl, trivial⟩ ?_
        exact fun w' hb hs => ⟨_, _, ⟨rfl, rfl⟩, rfl, hb, hs.sel [] _ (by decide) rfl⟩
      · refine JX.condF rfl hb ?_
        refine JX.skip ?_
        refine JE.code ?_
        refine JX.region ?_
        refine JL.val (yl_move rfl) rfl ?_
        refine JL.val (yl_add rfl rfl) rfl ?_
        refine JL.val (yl_assign rfl) rfl ?_
        refine JL.nil ?_
        refine JE.cont hres ?_
        exact fun a w h => h.weak ⟨rfl, rfl, rfl, trivial⟩ [] (by decide) rfl
    · refine JX.condF rfl hb ?_
      refine JX.exit ?_
      refine JE.qb rfl ?_
      obtain ⟨b1, hb1⟩ : ∃ b : Unit, b = () := ⟨_, rfl⟩
      have hy1 : Sum.inl b1 = y1 := by rw [hb1]; exact hox1 _ (Option.some.inj hres).symm
      have hres := elimS_inl hresO1 hy1
      refine JE.weak (env' := []) (es' := []) [] ?_ trivial (by decide) (by subst hb1; rfl)
      refine JE.code ?_
      refine JX.seq ?_
      refine JX.region ?_
      refine JL.val (yl_assign rfl) rfl ?_
      refine JL.nil ?_
      refine JE.code ?_
      refine JX.ret ?_
      obtain rfl := Option.some.inj hres
      refine JE.ret (rs := [.tmp 4]) (vs := [.bool true]) rfl ⟨rfl, trivial⟩ ?_
      exact fun w' hb hs => ⟨_, _, ⟨rfl, rfl⟩, rfl, hb, hs.sel [] _ (by decide) rfl⟩

/- laws.markInt64S -/
def sh28_1 (q0 : List Int) : (Int × Int × List Int) → Option ((Int × Int × List Int) ⊕ (Int × List Int))
  | (x2, x3, x4) => bif decide (x3 < ((q0.length : Nat) : Int)) then (Option.bind (getI x4 x3) fun x6 => some (.inl (w64 (x2 + 1), w64 (x3 + 1), x4.set (x3).toNat x2))) else (some (.inr (x2, x4)))
def sh28 (q0 : List Int) (q1 : Int) : Option (Int × List Int) := Option.bind (iter (sh28_1 q0) (q1, 0, q0)) fun b1 => (some (b1.1, b1.2))
def T28 (a_ : Option Addr) (n_ c_ : Nat) (r : Int × List Int) (v : Value) (e' : Own) (rs : List Own) : Prop := r.2.length = n_ ∧ e' = rowT 2 eI64 a_ n_ c_ r.2 ∧ v = rets [.int .i64 r.1] ∧ rs = []
set_option maxRecDepth 100000 in
theorem c28 {w : World} {q0 : List Int} {a_0 : Option Addr} {n_0 c_0 : Nat} {M : List Nat} (g_0 : Sep w.heap.size M w [rowT 2 eI64 a_0 n_0 c_0 q0]) (l_0 : q0.length = n_0) {q1 : Int} {r : Int × List Int} (hres : sh28 q0 q1 = some r) : Calls Go.Proofs.Try.prog 28 [.slice a_0 n_0 c_0, .int .i64 q1].toArray w (RetM w M (T28 a_0 n_0 c_0 r)) := by
  subst l_0
  unfold sh28 at hres
  refine calls_of (n := 19) (M := M) (es := [rowT 2 eI64 a_0 q0.length c_0 q0]) Go.Proofs.Try.func28 rfl rfl rfl g_0 ?_
  refine JX.seq ?_
  refine JX.region ?_
  refine JL.val (yl_assign rfl) rfl ?_
  refine JL.nil ?_
  refine JE.code ?_
  refine JX.seq ?_
  refine JX.seq ?_
  refine JX.region ?_
  refine JL.val (yl_assign rfl) rfl ?_
  refine JL.nil ?_
  refine JE.code ?_
  refine JX.block ?_
  obtain ⟨y1, hy1, hresO1⟩ := bind_some hres
  refine JX.loop (I := fun (s1 : Int × Int × List Int) aa ww => ∃ (l1 : s1.2.2.length = q0.length), St w M 19 [(0, .slice a_0 q0.length c_0), (1, .int .i64 s1.1), (5, .int .i64 s1.2.1)] [rowT 2 eI64 a_0 q0.length c_0 s1.2.2] aa ww) (sh28_1 q0) hy1 (fun a w h => ⟨rfl, h.weak ⟨rfl, rfl, rfl, trivial⟩ [0] (by decide) rfl⟩) ?_
  rintro ⟨x2, x3, x4⟩ o1 hres hox1 aa ww ⟨l5, hS⟩
  refine (?_ : JX Go.Proofs.Try.prog w M 19 _ _ [(0, .slice a_0 q0.length c_0), (1, .int .i64 x2), (5, .int .i64 x3)] [rowT 2 eI64 a_0 q0.length c_0 x4] _) aa ww hS
  clear hS
  simp only [sh28_1] at hres
  refine JX.seq ?_
  refine JX.seq ?_
  refine JX.region ?_
  refine JL.val (yl_move rfl) rfl ?_
  refine JL.val (yl_move rfl) rfl ?_
  refine JL.val (yl_len_slice Go.Proofs.Try.underlying35 rfl) rfl ?_
  refine JL.val (yl_lss rfl rfl) rfl ?_
  refine JL.nil ?_
  refine JE.weak (env' := [(0, .slice a_0 q0.length c_0), (1, .int .i64 x2), (5, .int .i64 x3), (9, .bool (decide (x3 < ((q0.length : Nat) : Int))))]) (es' := [rowT 2 eI64 a_0 q0.length c_0 x4]) [0] ?_ ⟨rfl, rfl, rfl, rfl, trivial⟩ (by decide) rfl
  refine JE.code ?_
  rcases cond_some hres with ⟨hb, hres⟩ | ⟨hb, hres⟩
  · refine JX.condT rfl hb ?_
    refine JX.skip ?_
    refine JE.code ?_
    refine JX.seq ?_
    refine JX.block ?_
    refine JX.seq ?_
    refine JX.region ?_
    refine JL.val (yl_move rfl) rfl ?_
    refine JL.val (yl_move rfl) rfl ?_
    refine JL.val (yl_move rfl) rfl ?_
    obtain ⟨x6, hx6, hres⟩ := bind_some hres
    refine JL.val (yl_idxT Go.Proofs.Try.underlying35 i2 i2s rfl rfl hx6 l5 (fun w hC => rd_row hC 0 rfl)) rfl ?_
    refine JL.eff (ef_storeT (ix := 0) (u := x2) i2 i2s rfl rfl rfl hx6 rfl) rfl ?_
    rintro _ _ rfl
    refine JL.nil ?_
    refine JE.weak (env' := [(0, .slice a_0 q0.length c_0), (1, .int .i64 x2), (5, .int .i64 x3)]) (es' := [rowT 2 eI64 a_0 q0.length c_0 (x4.set (x3).toNat x2)]) [0] ?_ ⟨rfl, rfl, rfl, trivial⟩ (by decide) rfl
    refine JE.code ?_
    refine JX.region ?_
    refine JL.val (yl_move rfl) rfl ?_
    refine JL.val (yl_add rfl rfl) rfl ?_
    refine JL.val (yl_assign rfl) rfl ?_
    refine JL.nil ?_
    refine JE.code ?_
    refine JX.region ?_
    refine JL.val (yl_move rfl) rfl ?_
    refine JL.val (yl_add rfl rfl) rfl ?_
    refine JL.val (yl_assign rfl) rfl ?_
    refine JL.nil ?_
    refine JE.cont hres ?_
    exact fun a w h => ⟨(List.length_set.trans l5), h.weak ⟨rfl, rfl, rfl, trivial⟩ [0] (by decide) rfl⟩
  · refine JX.condF rfl hb ?_
    refine JX.exit ?_
    refine JE.qb rfl ?_
    obtain ⟨b1, hb1⟩ : ∃ b : Int × List Int, b = (x2, x4) := ⟨_, rfl⟩
    have hy1 : b1 = y1 := by rw [hb1]; exact hox1 _ (Option.some.inj hres).symm
    have hres := hresO1
    rw [← hy1] at hres
    have l7 : b1.2.length = q0.length := by subst hb1; exact l5
    refine JE.weak (env' := [(1, .int .i64 b1.1)]) (es' := [rowT 2 eI64 a_0 q0.length c_0 b1.2]) [0] ?_ ⟨(by subst hb1; rfl), trivial⟩ (by decide) (by subst hb1; rfl)
    refine JE.code ?_
    refine JX.seq ?_
    refine JX.region ?_
    refine JL.val (yl_move rfl) rfl ?_
    refine JL.val (yl_assign rfl) rfl ?_
    refine JL.nil ?_
    refine JE.code ?_
    refine JX.ret ?_
    obtain rfl := Option.some.inj hres
    refine JE.ret (rs := [.tmp 4]) (vs := [.int .i64 b1.1]) rfl ⟨rfl, trivial⟩ ?_
    exact fun w' hb hs => ⟨_, _, _, ⟨l7, rfl, rfl, rfl⟩, rfl, hb, hs.sel [0] _ (by decide) rfl⟩

/- spec.l00In -/
def sh65 (q0 : Int) (q1 : Int) (q2 : Int) : Option (Bool) := some ((decide (q1 ≤ q0)) && (decide (q0 ≤ q2)))
def T65 (r : Bool) (v : Value) (rs : List Own) : Prop := v = rets [.bool r] ∧ rs = []
set_option maxRecDepth 100000 in
theorem c65 {w : World} {q0 : Int} {q1 : Int} {q2 : Int} {r : Bool} (hres : sh65 q0 q1 q2 = some r) : Calls Go.Proofs.Try.prog 65 [.int .i64 q0, .int .i64 q1, .int .i64 q2].toArray w (Ret w (T65 r)) := by
  unfold sh65 at hres
  refine calls_of (n := 15) (M := []) (es := []) Go.Proofs.Try.func65 rfl rfl rfl (Sep.nil _ _ _) ?_
  refine JX.seq ?_
  refine JX.region ?_
  refine JL.val (yl_assign rfl) rfl ?_
  refine JL.nil ?_
  refine JE.code ?_
  refine JX.seq ?_
  refine JX.region ?_
  refine JL.val (yl_move rfl) rfl ?_
  refine JL.val (yl_move rfl) rfl ?_
  refine JL.val (yl_geq rfl rfl) rfl ?_
  refine JL.val (yl_move rfl) rfl ?_
  refine JL.cut (K := fun J => J [(14, .bool ((decide (q1 ≤ q0)) && (decide (q0 ≤ q2))))] []) 4 ?_ ?_
  · refine JL.val (yl_assign rfl) rfl ?_
    refine JL.nil ?_
    refine JE.weak (env' := [(6, .bool ((decide (q1 ≤ q0)) && (decide (q0 ≤ q2))))]) (es' := []) [] ?_ ⟨rfl, trivial⟩ (by decide) rfl
    refine JE.code ?_
    refine JX.ret ?_
    obtain rfl := Option.some.inj hres
    refine JE.ret (rs := [.tmp 6]) (vs := [.bool ((decide (q1 ≤ q0)) && (decide (q0 ≤ q2)))]) rfl ⟨rfl, trivial⟩ ?_
    exact fun w' hb hs => ⟨_, _, ⟨rfl, rfl⟩, rfl, hb, hs.sel [] _ (by decide) rfl⟩
  · intro K
    rcases Bool.eq_false_or_eq_true (decide (q1 ≤ q0)) with hb | hb
    · refine JL.set (d := 10) (v := .bool true) (congrArg (fun b => some (Value.bool b)) hb) ?_
      refine JL.gval rfl rfl (yl_move rfl) rfl ?_
      refine JL.gval rfl rfl (yl_move rfl) rfl ?_
      refine JL.gval rfl rfl (yl_leq rfl rfl) rfl ?_
      refine JL.val (yl_pick_true rfl rfl) rfl ?_
      exact JL.weak [] K ⟨(by rw [hb]; rfl), trivial⟩ (by decide) rfl
    · refine JL.set (d := 10) (v := .bool false) (congrArg (fun b => some (Value.bool b)) hb) ?_
      refine JL.gskip rfl rfl rfl rfl ?_
      refine JL.gskip rfl rfl rfl rfl ?_
      refine JL.gskip rfl rfl rfl rfl ?_
      refine JL.val (yl_pick_false rfl rfl) rfl ?_
      exact JL.weak [] K ⟨(by rw [hb]; rfl), trivial⟩ (by decide) rfl

/- spec.l23Ok -/
def sh69_1 (q0 : Int) (q1 : List Int) : Int → Option (Int ⊕ (Unit ⊕ Bool))
  | x2 => bif decide (x2 < (q1.length : Int)) then (Option.bind (getI q1 x2) fun x3 => Option.bind (bif x3 == 0 then (some true) else (Option.bind (getI q1 x2) fun x5 => Option.bind (sh65 x5 (w64 (1 - q0)) (w64 (q0 - 1))) fun x6 => some !x6)) fun c4 => (bif c4 then (some (.inr (.inr false))) else (some (.inl (w64 (x2 + 1)))))) else (some (.inr (.inl ())))
def sh69 (q0 : Int) (q1 : List Int) : Option (Bool) := Option.bind (sh65 q0 2 12) fun x1 => bif !x1 || (decide (200 < (q1.length : Int))) then (some false) else (Option.bind (iter (sh69_1 q0 q1) 0) fun y1 => elimS y1 (fun r => some r) fun b1 => (some true))
def T69 (r : Bool) (v : Value) (rs : List Own) : Prop := v = rets [.bool r] ∧ rs = []
set_option maxRecDepth 100000 in
theorem c69 {w : World} {q0 : Int} {q1 : List Int} {a_1 : Option Addr} {n_1 c_1 : Nat} (g_1 : Rd w a_1 (eI64.fl q1)) (l_1 : q1.length = n_1) (k_1 : n_1 ≤ c_1) {r : Bool} (hres : sh69 q0 q1 = some r) : Calls Go.Proofs.Try.prog 69 [.int .i64 q0, .slice a_1 n_1 c_1].toArray w (Ret w (T69 r)) := by
  subst l_1
  unfold sh69 at hres
  refine calls_of (n := 37) (M := []) (es := []) Go.Proofs.Try.func69 rfl rfl rfl (Sep.nil _ _ _) ?_
  refine JX.seq ?_
  refine JX.region ?_
  refine JL.val (yl_assign rfl) rfl ?_
  refine JL.nil ?_
  refine JE.code ?_
  refine JX.seq ?_
  refine JX.seq ?_
  refine JX.region ?_
  refine JL.val (yl_move rfl) rfl ?_
  obtain ⟨x1, hx1, hres⟩ := bind_some hres
  refine JL.eff (ef_call (T := T65 x1) Go.Proofs.Try.func65 rfl (by kernel_rfl) rfl (fun w hC => c65  hx1)) rfl ?_
  rintro _ _ ⟨_, ⟨rfl, rfl⟩, rfl⟩
  refine JL.val (yl_not rfl) rfl ?_
  refine JL.val (yl_move rfl) rfl ?_
  refine JL.cut (K := fun J => J [(0, .int .i64 q0), (1, .slice a_1 q1.length c_1), (13, .bool (!x1 || (decide (200 < (q1.length : Int)))))] []) 4 ?_ ?_
  · refine JL.nil ?_
    refine JE.weak (env' := [(0, .int .i64 q0), (1, .slice a_1 q1.length c_1), (13, .bool (!x1 || (decide (200 < (q1.length : Int)))))]) (es' := []) [] ?_ ⟨rfl, rfl, rfl, trivial⟩ (by decide) rfl
    refine JE.code ?_
    rcases cond_some hres with ⟨hb, hres⟩ | ⟨hb, hres⟩
    · refine JX.condT rfl hb ?_
      refine JX.seq ?_
      refine JX.region ?_
      refine JL.val (yl_assign rfl) rfl ?_
      refine JL.nil ?_
      refine JE.code ?_
      refine JX.ret ?_
      obtain rfl := Option.some.inj hres
      refine JE.ret (rs := [.tmp 4]) (vs := [.bool false]) rfl ⟨rfl, trivial⟩ ?_
      exact fun w' hb hs => ⟨_, _, ⟨rfl, rfl⟩, rfl, hb, hs.sel [] _ (by decide) rfl⟩
    · refine JX.condF rfl hb ?_
      refine JX.skip ?_
      refine JE.code ?_
      refine JX.seq ?_
      refine JX.seq ?_
      refine JX.region ?_
      refine JL.val (yl_assign rfl) rfl ?_
      refine JL.nil ?_
      refine JE.code ?_
      refine JX.block ?_
      obtain ⟨y1, hy1, hresO1⟩ := bind_some hres
      refine JX.loop (I := fun (s1 : Int) aa ww => St w [] 37 [(0, .int .i64 q0), (1, .slice a_1 q1.length c_1), (5, .int .i64 s1)] [] aa ww) (sh69_1 q0 q1) hy1 (fun a w h => h.weak ⟨rfl, rfl, rfl, trivial⟩ [] (by decide) rfl) ?_
      rintro x2 o1 hres hox1 aa ww hS
      refine (?_ : JX Go.Proofs.Try.prog w [] 37 _ _ [(0, .int .i64 q0), (1, .slice a_1 q1.length c_1), (5, .int .i64 x2)] [] _) aa ww hS
      clear hS
      unfold sh69_1 at hres
      refine JX.seq ?_
      refine JX.seq ?_
      refine JX.region ?_
      refine JL.val (yl_move rfl) rfl ?_
      refine JL.val (yl_move rfl) rfl ?_
      refine JL.val (yl_len_slice Go.Proofs.Try.underlying35 rfl) rfl ?_
      refine JL.val (yl_lss rfl rfl) rfl ?_
      refine JL.nil ?_
      refine JE.weak (env' := [(0, .int .i64 q0), (1, .slice a_1 q1.length c_1), (5, .int .i64 x2), (17, .bool (decide (x2 < (q1.length : Int))))]) (es' := []) [] ?_ ⟨rfl, rfl, rfl, rfl, trivial⟩ (by decide) rfl
      refine JE.code ?_
      rcases cond_some hres with ⟨hb, hres⟩ | ⟨hb, hres⟩
      · refine JX.condT rfl hb ?_
        refine JX.skip ?_
        refine JE.code ?_
        refine JX.seq ?_
        refine JX.block ?_
        refine JX.seq ?_
        refine JX.region ?_
        refine JL.val (yl_move rfl) rfl ?_
        refine JL.val (yl_move rfl) rfl ?_
        obtain ⟨x3, hx3, hres⟩ := bind_some hres
        refine JL.val (yl_idxT Go.Proofs.Try.underlying35 i2 i2s rfl rfl hx3 rfl (fun w hC => rd_arg g_1 hC)) rfl ?_
        refine JL.val (yl_loadT0 Go.Proofs.Try.underlying2 rfl rfl hx3 (fun w hC => rd_arg g_1 hC) rfl) rfl ?_
        refine JL.val (yl_eql rfl rfl) rfl ?_
        refine JL.val (yl_move rfl) rfl ?_
        obtain ⟨c4, hc4, hres⟩ := bind_some hres
        refine JL.cut (K := fun J => J [(0, .int .i64 q0), (1, .slice a_1 q1.length c_1), (5, .int .i64 x2), (36, .bool c4)] []) 11 ?_ ?_
        · refine JL.nil ?_
          refine JE.weak (env' := [(0, .int .i64 q0), (1, .slice a_1 q1.length c_1), (5, .int .i64 x2), (36, .bool c4)]) (es' := []) [] ?_ ⟨rfl, rfl, rfl, rfl, trivial⟩ (by decide) rfl
          refine JE.code ?_
          rcases cond_some hres with ⟨hb, hres⟩ | ⟨hb, hres⟩
          · refine JX.condT rfl hb ?_
            refine JX.seq ?_
            refine JX.region ?_
            refine JL.val (yl_assign rfl) rfl ?_
            refine JL.nil ?_
            refine JE.code ?_
            refine JX.ret ?_
            refine JE.qbr ?_
            refine JE.qbr ?_
            have hres := elimS_inr hresO1 (hox1 _ (Option.some.inj hres).symm)
            obtain rfl := Option.some.inj hres
            refine JE.ret (rs := [.tmp 4]) (vs := [.bool false]) rfl ⟨rfl, trivial⟩ ?_
            exact fun w' hb hs => ⟨_, _, ⟨rfl, rfl⟩, rfl, hb, hs.sel [] _ (by decide) rfl⟩
          · refine JX.condF rfl hb ?_
            refine JX.skip ?_
            refine JE.code ?_
            refine JX.region ?_
            refine JL.val (yl_move rfl) rfl ?_
            refine JL.val (yl_add rfl rfl) rfl ?_
            refine JL.val (yl_assign rfl) rfl ?_
            refine JL.nil ?_
            refine JE.cont hres ?_
            exact fun a w h => h.weak ⟨rfl, rfl, rfl, trivial⟩ [] (by decide) rfl
        · intro K
          rcases cond_some hc4 with ⟨hb, hres⟩ | ⟨hb, hres⟩
          · refine JL.set (d := 25) (v := .bool true) (congrArg (fun b => some (Value.bool b)) hb) ?_
            refine JL.gskip rfl rfl rfl rfl ?_
            refine JL.gskip rfl rfl rfl rfl ?_
            refine JL.gskip rfl rfl rfl rfl ?_
            refine JL.gskip rfl rfl rfl rfl ?_
            refine JL.gskip rfl rfl rfl rfl ?_
            refine JL.gskip rfl rfl rfl rfl ?_
            refine JL.gskip rfl rfl rfl rfl ?_
            refine JL.gskip rfl rfl rfl rfl ?_
            refine JL.gskip rfl rfl rfl rfl ?_
            refine JL.gskip rfl rfl rfl rfl ?_
            refine JL.val (yl_pick_true rfl rfl) rfl ?_
            have he := Option.some.inj hres
            exact JL.weak [] K ⟨rfl, rfl, rfl, (by rw [← he]; rfl), trivial⟩ (by decide) rfl
          · refine JL.set (d := 25) (v := .bool false) (congrArg (fun b => some (Value.bool b)) hb) ?_
            refine JL.gval rfl rfl (yl_move rfl) rfl ?_
            refine JL.gval rfl rfl (yl_move rfl) rfl ?_
            obtain ⟨x5, hx5, hres⟩ := bind_some hres
            refine JL.gval rfl rfl (yl_idxT Go.Proofs.Try.underlying35 i2 i2s rfl rfl hx5 rfl (fun w hC => rd_arg g_1 hC)) rfl ?_
            refine JL.gval rfl rfl (yl_loadT0 Go.Proofs.Try.underlying2 rfl rfl hx5 (fun w hC => rd_arg g_1 hC) rfl) rfl ?_
            refine JL.gval rfl rfl (yl_move rfl) rfl ?_
            refine JL.gval rfl rfl (yl_sub rfl rfl) rfl ?_
            refine JL.gval rfl rfl (yl_move rfl) rfl ?_
            refine JL.gval rfl rfl (yl_sub rfl rfl) rfl ?_
            obtain ⟨x6, hx6, hres⟩ := bind_some hres
            refine JL.geff rfl rfl (ef_call (T := T65 x6) Go.Proofs.Try.func65 rfl (by kernel_rfl) rfl (fun w hC => c65  hx6)) rfl ?_
            rintro _ _ ⟨_, ⟨rfl, rfl⟩, rfl⟩
            refine JL.gval rfl rfl (yl_not rfl) rfl ?_
            refine JL.val (yl_pick_false rfl rfl) rfl ?_
            have he := Option.some.inj hres
            exact JL.weak [] K ⟨rfl, rfl, rfl, (by rw [← he]; rfl), trivial⟩ (by decide) rfl
      · refine JX.condF rfl hb ?_
        refine JX.exit ?_
        refine JE.qb rfl ?_
        obtain ⟨b1, hb1⟩ : ∃ b : Unit, b = () := ⟨_, rfl⟩
        have hy1 : Sum.inl b1 = y1 := by rw [hb1]; exact hox1 _ (Option.some.inj hres).symm
        have hres := elimS_inl hresO1 hy1
        refine JE.weak (env' := []) (es' := []) [] ?_ trivial (by decide) (by subst hb1; rfl)
        refine JE.code ?_
        refine JX.seq ?_
        refine JX.region ?_
        refine JL.val (yl_assign rfl) rfl ?_
        refine JL.nil ?_
        refine JE.code ?_
        refine JX.ret ?_
        obtain rfl := Option.some.inj hres
        refine JE.ret (rs := [.tmp 4]) (vs := [.bool true]) rfl ⟨rfl, trivial⟩ ?_
        exact fun w' hb hs => ⟨_, _, ⟨rfl, rfl⟩, rfl, hb, hs.sel [] _ (by decide) rfl⟩
  · intro K
    rcases Bool.eq_false_or_eq_true (!x1) with hb | hb
    · refine JL.set (d := 9) (v := .bool true) (congrArg (fun b => some (Value.bool b)) hb) ?_
      refine JL.gskip rfl rfl rfl rfl ?_
      refine JL.gskip rfl rfl rfl rfl ?_
      refine JL.gskip rfl rfl rfl rfl ?_
      refine JL.val (yl_pick_true rfl rfl) rfl ?_
      exact JL.weak [] K ⟨rfl, rfl, (by rw [hb]; rfl), trivial⟩ (by decide) rfl
    · refine JL.set (d := 9) (v := .bool false) (congrArg (fun b => some (Value.bool b)) hb) ?_
      refine JL.gval rfl rfl (yl_move rfl) rfl ?_
      refine JL.gval rfl rfl (yl_len_slice Go.Proofs.Try.underlying35 rfl) rfl ?_
      refine JL.gval rfl rfl (yl_gtr rfl rfl) rfl ?_
      refine JL.val (yl_pick_false rfl rfl) rfl ?_
      exact JL.weak [] K ⟨rfl, rfl, (by rw [hb]; rfl), trivial⟩ (by decide) rfl

/- spec.l23First -/
def sh76_1 (q0 : Int) : (Int × List Int) → Option ((Int × List Int) ⊕ (List Int))
  | (x5, x6) => bif decide (x5 < q0) then (Option.bind (appL x6 [x5]) fun x11 => some (.inl (w64 (x5 + 1), x11))) else (some (.inr x6))
def sh76 (q0 : Int) : Option (List Int) := Option.bind (iter (sh76_1 q0) (0, ([] : List Int))) fun b1 => (some b1)
def T76 (r : List Int) (v : Value) (rs : List Own) : Prop := ∃ (a0 : Option Addr) (n0 c0 : Nat), r.length = n0 ∧ v = rets [.slice a0 n0 c0] ∧ rs = [rowT 2 eI64 a0 n0 c0 r]
set_option maxRecDepth 100000 in
theorem c76 {w : World} {q0 : Int} {r : List Int} (hres : sh76 q0 = some r) : Calls Go.Proofs.Try.prog 76 [.int .i64 q0].toArray w (Ret w (T76 r)) := by
  unfold sh76 at hres
  refine calls_of (n := 16) (M := []) (es := []) Go.Proofs.Try.func76 rfl rfl rfl (Sep.nil _ _ _) ?_
  refine JX.seq ?_
  refine JX.region ?_
  refine JL.val (yl_assign rfl) rfl ?_
  refine JL.nil ?_
  refine JE.code ?_
  refine JX.seq ?_
  refine JX.region ?_
  refine JL.eff (ef_buildSlice (E := 2) (k := eI64.k) (us := eI64.fl ([] : List Int)) rfl (fun w => bsl35_0  w) rfl (by decide)) rfl ?_
  rintro _ _ ⟨a1, rfl, rfl⟩
  refine JL.val (yl_assign rfl) rfl ?_
  refine JL.nil ?_
  refine JE.code ?_
  refine JX.seq ?_
  refine JX.seq ?_
  refine JX.region ?_
  refine JL.val (yl_assign rfl) rfl ?_
  refine JL.nil ?_
  refine JE.code ?_
  refine JX.block ?_
  obtain ⟨y1, hy1, hresO1⟩ := bind_some hres
  refine JX.loop (I := fun (s1 : Int × List Int) aa ww => ∃ (a3 : Option Addr) (cp4 : Nat), St w [] 16 [(0, .int .i64 q0), (3, .slice a3 s1.2.length cp4), (4, .int .i64 s1.1)] [rowT 2 eI64 a3 s1.2.length cp4 s1.2] aa ww) (sh76_1 q0) hy1 (fun a w h => ⟨a1, 0, h.weak ⟨rfl, rfl, rfl, trivial⟩ [0] (by decide) rfl⟩) ?_
  rintro ⟨x5, x6⟩ o1 hres hox1 aa ww ⟨a7, cp8, hS⟩
  refine (?_ : JX Go.Proofs.Try.prog w [] 16 _ _ [(0, .int .i64 q0), (3, .slice a7 x6.length cp8), (4, .int .i64 x5)] [rowT 2 eI64 a7 x6.length cp8 x6] _) aa ww hS
  clear hS
  simp only [sh76_1] at hres
  refine JX.seq ?_
  refine JX.seq ?_
  refine JX.region ?_
  refine JL.val (yl_move rfl) rfl ?_
  refine JL.val (yl_move rfl) rfl ?_
  refine JL.val (yl_lss rfl rfl) rfl ?_
  refine JL.nil ?_
  refine JE.code ?_
  rcases cond_some hres with ⟨hb, hres⟩ | ⟨hb, hres⟩
  · refine JX.condT rfl hb ?_
    refine JX.skip ?_
    refine JE.code ?_
    refine JX.seq ?_
    refine JX.block ?_
    refine JX.region ?_
    refine JL.val (yl_move rfl) rfl ?_
    refine JL.val (yl_move rfl) rfl ?_
    refine JL.eff (ef_buildSlice (E := 2) (k := eI64.k) (us := eI64.fl [x5]) rfl (fun w => bsl35_1 x5 w) rfl (by decide)) rfl ?_
    rintro _ _ ⟨a9, rfl, rfl⟩
    obtain ⟨x11, hx11, hres⟩ := bind_some hres
    refine JL.eff (ef_appendT (ix := 0) Go.Proofs.Try.underlying35 i2 i2z i2s rfl i2b0 i2b1 rfl rfl rfl rfl rfl (fun w hC => rd_row hC 1 rfl) hx11) rfl ?_
    rintro _ _ ⟨a12, cp13, rfl, rfl⟩
    refine JL.val (yl_assign rfl) rfl ?_
    refine JL.nil ?_
    refine JE.weak (env' := [(0, .int .i64 q0), (3, .slice a12 x11.length cp13), (4, .int .i64 x5)]) (es' := [rowT 2 eI64 a12 x11.length cp13 x11]) [0] ?_ ⟨rfl, rfl, rfl, trivial⟩ (by decide) rfl
    refine JE.code ?_
    refine JX.region ?_
    refine JL.val (yl_move rfl) rfl ?_
    refine JL.val (yl_add rfl rfl) rfl ?_
    refine JL.val (yl_assign rfl) rfl ?_
    refine JL.nil ?_
    refine JE.cont hres ?_
    exact fun a w h => ⟨a12, cp13, h.weak ⟨rfl, rfl, rfl, trivial⟩ [0] (by decide) rfl⟩
  · refine JX.condF rfl hb ?_
    refine JX.exit ?_
    refine JE.qb rfl ?_
    obtain ⟨b1, hb1⟩ : ∃ b : List Int, b = x6 := ⟨_, rfl⟩
    have hy1 : b1 = y1 := by rw [hb1]; exact hox1 _ (Option.some.inj hres).symm
    have hres := hresO1
    rw [← hy1] at hres
    refine JE.weak (env' := [(3, .slice a7 b1.length cp8)]) (es' := [rowT 2 eI64 a7 b1.length cp8 b1]) [0] ?_ ⟨(by subst hb1; rfl), trivial⟩ (by decide) (by subst hb1; rfl)
    refine JE.code ?_
    refine JX.seq ?_
    refine JX.region ?_
    refine JL.val (yl_move rfl) rfl ?_
    refine JL.val (yl_assign rfl) rfl ?_
    refine JL.nil ?_
    refine JE.code ?_
    refine JX.ret ?_
    obtain rfl := Option.some.inj hres
    refine JE.ret (rs := [.tmp 2]) (vs := [.slice a7 b1.length cp8]) rfl ⟨rfl, trivial⟩ ?_
    exact fun w' hb hs => ⟨_, _, ⟨a7, b1.length, cp8, rfl, rfl, rfl⟩, rfl, hb, hs.sel [0] _ (by decide) rfl⟩

/- spec.l00Max -/
def sh71 (q0 : Int) (q1 : Int) : Option (Int) := bif decide (q1 < q0) then (some q0) else (some q1)
def T71 (r : Int) (v : Value) (rs : List Own) : Prop := v = rets [.int .i64 r] ∧ rs = []
set_option maxRecDepth 100000 in
theorem c71 {w : World} {q0 : Int} {q1 : Int} {r : Int} (hres : sh71 q0 q1 = some r) : Calls Go.Proofs.Try.prog 71 [.int .i64 q0, .int .i64 q1].toArray w (Ret w (T71 r)) := by
  unfold sh71 at hres
  refine calls_of (n := 10) (M := []) (es := []) Go.Proofs.Try.func71 rfl rfl rfl (Sep.nil _ _ _) ?_
  refine JX.seq ?_
  refine JX.region ?_
  refine JL.val (yl_assign rfl) rfl ?_
  refine JL.nil ?_
  refine JE.code ?_
  refine JX.seq ?_
  refine JX.seq ?_
  refine JX.region ?_
  refine JL.val (yl_move rfl) rfl ?_
  refine JL.val (yl_move rfl) rfl ?_
  refine JL.val (yl_gtr rfl rfl) rfl ?_
  refine JL.nil ?_
  refine JE.code ?_
  rcases cond_some hres with ⟨hb, hres⟩ | ⟨hb, hres⟩
  · refine JX.condT rfl hb ?_
    refine JX.seq ?_
    refine JX.region ?_
    refine JL.val (yl_move rfl) rfl ?_
    refine JL.val (yl_assign rfl) rfl ?_
    refine JL.nil ?_
    refine JE.code ?_
    refine JX.ret ?_
    obtain rfl := Option.some.inj hres
    refine JE.ret (rs := [.tmp 4]) (vs := [.int .i64 q0]) rfl ⟨rfl, trivial⟩ ?_
    exact fun w' hb hs => ⟨_, _, ⟨rfl, rfl⟩, rfl, hb, hs.sel [] _ (by decide) rfl⟩
  · refine JX.condF rfl hb ?_
    refine JX.skip ?_
    refine JE.code ?_
    refine JX.seq ?_
    refine JX.region ?_
    refine JL.val (yl_move rfl) rfl ?_
    refine JL.val (yl_assign rfl) rfl ?_
    refine JL.nil ?_
    refine JE.code ?_
    refine JX.ret ?_
    obtain rfl := Option.some.inj hres
    refine JE.ret (rs := [.tmp 4]) (vs := [.int .i64 q1]) rfl ⟨rfl, trivial⟩ ?_
    exact fun w' hb hs => ⟨_, _, ⟨rfl, rfl⟩, rfl, hb, hs.sel [] _ (by decide) rfl⟩

/- spec.l15Size -/
def sh70 (q0 : Int) : Option (Int) := Option.bind (sh71 q0 (w64 (0 - q0))) fun x1 => some x1
def T70 (r : Int) (v : Value) (rs : List Own) : Prop := v = rets [.int .i64 r] ∧ rs = []
set_option maxRecDepth 100000 in
theorem c70 {w : World} {q0 : Int} {r : Int} (hres : sh70 q0 = some r) : Calls Go.Proofs.Try.prog 70 [.int .i64 q0].toArray w (Ret w (T70 r)) := by
  unfold sh70 at hres
  refine calls_of (n := 7) (M := []) (es := []) Go.Proofs.Try.func70 rfl rfl rfl (Sep.nil _ _ _) ?_
  refine JX.seq ?_
  refine JX.region ?_
  refine JL.val (yl_assign rfl) rfl ?_
  refine JL.nil ?_
  refine JE.code ?_
  refine JX.seq ?_
  refine JX.region ?_
  refine JL.val (yl_move rfl) rfl ?_
  refine JL.val (yl_move rfl) rfl ?_
  refine JL.val (yl_neg rfl) rfl ?_
  obtain ⟨x1, hx1, hres⟩ := bind_some hres
  refine JL.eff (ef_call (T := T71 x1) Go.Proofs.Try.func71 rfl (by kernel_rfl) rfl (fun w hC => c71  hx1)) rfl ?_
  rintro _ _ ⟨_, ⟨rfl, rfl⟩, rfl⟩
  refine JL.val (yl_assign rfl) rfl ?_
  refine JL.nil ?_
  refine JE.weak (env' := [(2, .int .i64 x1)]) (es' := []) [] ?_ ⟨rfl, trivial⟩ (by decide) rfl
  refine JE.code ?_
  refine JX.ret ?_
  obtain rfl := Option.some.inj hres
  refine JE.ret (rs := [.tmp 2]) (vs := [.int .i64 x1]) rfl ⟨rfl, trivial⟩ ?_
  exact fun w' hb hs => ⟨_, _, ⟨rfl, rfl⟩, rfl, hb, hs.sel [] _ (by decide) rfl⟩

/- spec.l23Swap -/
def sh77 (q0 : List Int) (q1 : Int) : Option (List Int) := Option.bind (sh70 q1) fun x1 => Option.bind (getI q0 (w64 (x1 - 1))) fun x2 => Option.bind (getI q0 x1) fun x3 => Option.bind (getI q0 (w64 (x1 - 1))) fun x4 => Option.bind (getI (q0.set (w64 (x1 - 1)).toNat x3) x1) fun x5 => some ((q0.set (w64 (x1 - 1)).toNat x3).set (x1).toNat x2)
def T77 (a_ : Option Addr) (n_ c_ : Nat) (r : List Int) (v : Value) (e' : Own) (rs : List Own) : Prop := r.length = n_ ∧ e' = rowT 2 eI64 a_ n_ c_ r ∧ v = rets [] ∧ rs = []
set_option maxRecDepth 100000 in
theorem c77 {w : World} {q0 : List Int} {a_0 : Option Addr} {n_0 c_0 : Nat} {M : List Nat} (g_0 : Sep w.heap.size M w [rowT 2 eI64 a_0 n_0 c_0 q0]) (l_0 : q0.length = n_0) {q1 : Int} {r : List Int} (hres : sh77 q0 q1 = some r) : Calls Go.Proofs.Try.prog 77 [.slice a_0 n_0 c_0, .int .i64 q1].toArray w (RetM w M (T77 a_0 n_0 c_0 r)) := by
  subst l_0
  unfold sh77 at hres
  refine calls_of (n := 25) (M := M) (es := [rowT 2 eI64 a_0 q0.length c_0 q0]) Go.Proofs.Try.func77 rfl rfl rfl g_0 ?_
  refine JX.seq ?_
  refine JX.region ?_
  refine JL.val (yl_move rfl) rfl ?_
  obtain ⟨x1, hx1, hres⟩ := bind_some hres
  refine JL.eff (ef_call (T := T70 x1) Go.Proofs.Try.func70 rfl (by kernel_rfl) rfl (fun w hC => c70  hx1)) rfl ?_
  rintro _ _ ⟨_, ⟨rfl, rfl⟩, rfl⟩
  refine JL.val (yl_assign rfl) rfl ?_
  refine JL.nil ?_
  refine JE.code ?_
  refine JX.seq ?_
  refine JX.region ?_
  refine JL.val (yl_move rfl) rfl ?_
  refine JL.val (yl_move rfl) rfl ?_
  refine JL.val (yl_sub rfl rfl) rfl ?_
  obtain ⟨x2, hx2, hres⟩ := bind_some hres
  refine JL.val (yl_idxT Go.Proofs.Try.underlying35 i2 i2s rfl rfl hx2 rfl (fun w hC => rd_row hC 0 rfl)) rfl ?_
  refine JL.val (yl_loadT0 Go.Proofs.Try.underlying2 rfl rfl hx2 (fun w hC => rd_row hC 0 rfl) rfl) rfl ?_
  refine JL.val (yl_assign rfl) rfl ?_
  refine JL.nil ?_
  refine JE.weak (env' := [(0, .slice a_0 q0.length c_0), (4, .int .i64 x1), (5, .int .i64 x2)]) (es' := [rowT 2 eI64 a_0 q0.length c_0 q0]) [0] ?_ ⟨rfl, rfl, rfl, trivial⟩ (by decide) rfl
  refine JE.code ?_
  refine JX.seq ?_
  refine JX.region ?_
  refine JL.val (yl_move rfl) rfl ?_
  refine JL.val (yl_move rfl) rfl ?_
  refine JL.val (yl_sub rfl rfl) rfl ?_
  refine JL.val (yl_move rfl) rfl ?_
  refine JL.val (yl_move rfl) rfl ?_
  obtain ⟨x3, hx3, hres⟩ := bind_some hres
  refine JL.val (yl_idxT Go.Proofs.Try.underlying35 i2 i2s rfl rfl hx3 rfl (fun w hC => rd_row hC 0 rfl)) rfl ?_
  refine JL.val (yl_loadT0 Go.Proofs.Try.underlying2 rfl rfl hx3 (fun w hC => rd_row hC 0 rfl) rfl) rfl ?_
  obtain ⟨x4, hx4, hres⟩ := bind_some hres
  refine JL.val (yl_idxT Go.Proofs.Try.underlying35 i2 i2s rfl rfl hx4 rfl (fun w hC => rd_row hC 0 rfl)) rfl ?_
  refine JL.eff (ef_storeT (ix := 0) (u := x3) i2 i2s rfl rfl rfl hx4 rfl) rfl ?_
  rintro _ _ rfl
  refine JL.nil ?_
  refine JE.weak (env' := [(0, .slice a_0 q0.length c_0), (4, .int .i64 x1), (5, .int .i64 x2)]) (es' := [rowT 2 eI64 a_0 q0.length c_0 (q0.set (w64 (x1 - 1)).toNat x3)]) [0] ?_ ⟨rfl, rfl, rfl, trivial⟩ (by decide) rfl
  refine JE.code ?_
  refine JX.region ?_
  refine JL.val (yl_move rfl) rfl ?_
  refine JL.val (yl_move rfl) rfl ?_
  refine JL.val (yl_move rfl) rfl ?_
  obtain ⟨x5, hx5, hres⟩ := bind_some hres
  refine JL.val (yl_idxT Go.Proofs.Try.underlying35 i2 i2s rfl rfl hx5 List.length_set (fun w hC => rd_row hC 0 rfl)) rfl ?_
  refine JL.eff (ef_storeT (ix := 0) (u := x2) i2 i2s rfl rfl rfl hx5 rfl) rfl ?_
  rintro _ _ rfl
  refine JL.nil ?_
  refine JE.weak (env' := []) (es' := [rowT 2 eI64 a_0 q0.length c_0 ((q0.set (w64 (x1 - 1)).toNat x3).set (x1).toNat x2)]) [0] ?_ trivial (by decide) rfl
  show JE _ _ _ (bodyPost _ _ _ .ret) _ _
  obtain rfl := Option.some.inj hres
  refine JE.ret (rs := []) (vs := []) rfl trivial ?_
  exact fun w' hb hs => ⟨_, _, _, ⟨(List.length_set.trans List.length_set), rfl, rfl, rfl⟩, rfl, hb, hs.sel [0] _ (by decide) rfl⟩

/- spec.l23Place -/
def sh78_1 (q0 : List Int) (q1 : Int) : Int → Option (Int ⊕ (Unit ⊕ Int))
  | x1 => bif decide (x1 < (q0.length : Int)) then (Option.bind (getI q0 x1) fun x2 => bif x2 == q1 then (some (.inr (.inr x1))) else (some (.inl (w64 (x1 + 1))))) else (some (.inr (.inl ())))
def sh78 (q0 : List Int) (q1 : Int) : Option (Int) := Option.bind (iter (sh78_1 q0 q1) 0) fun y1 => elimS y1 (fun r => some r) fun b1 => (some (-1))
def T78 (r : Int) (v : Value) (rs : List Own) : Prop := v = rets [.int .i64 r] ∧ rs = []
set_option maxRecDepth 100000 in
theorem c78 {w : World} {q0 : List Int} {a_0 : Option Addr} {n_0 c_0 : Nat} (g_0 : Rd w a_0 (eI64.fl q0)) (l_0 : q0.length = n_0) (k_0 : n_0 ≤ c_0) {q1 : Int} {r : Int} (hres : sh78 q0 q1 = some r) : Calls Go.Proofs.Try.prog 78 [.slice a_0 n_0 c_0, .int .i64 q1].toArray w (Ret w (T78 r)) := by
  subst l_0
  unfold sh78 at hres
  refine calls_of (n := 19) (M := []) (es := []) Go.Proofs.Try.func78 rfl rfl rfl (Sep.nil _ _ _) ?_
  refine JX.seq ?_
  refine JX.region ?_
  refine JL.val (yl_assign rfl) rfl ?_
  refine JL.nil ?_
  refine JE.code ?_
  refine JX.seq ?_
  refine JX.seq ?_
  refine JX.region ?_
  refine JL.val (yl_assign rfl) rfl ?_
  refine JL.nil ?_
  refine JE.code ?_
  refine JX.block ?_
  obtain ⟨y1, hy1, hresO1⟩ := bind_some hres
  refine JX.loop (I := fun (s1 : Int) aa ww => St w [] 19 [(0, .slice a_0 q0.length c_0), (1, .int .i64 q1), (5, .int .i64 s1)] [] aa ww) (sh78_1 q0 q1) hy1 (fun a w h => h.weak ⟨rfl, rfl, rfl, trivial⟩ [] (by decide) rfl) ?_
  rintro x1 o1 hres hox1 aa ww hS
  refine (?_ : JX Go.Proofs.Try.prog w [] 19 _ _ [(0, .slice a_0 q0.length c_0), (1, .int .i64 q1), (5, .int .i64 x1)] [] _) aa ww hS
  clear hS
  unfold sh78_1 at hres
  refine JX.seq ?_
  refine JX.seq ?_
  refine JX.region ?_
  refine JL.val (yl_move rfl) rfl ?_
  refine JL.val (yl_move rfl) rfl ?_
  refine JL.val (yl_len_slice Go.Proofs.Try.underlying35 rfl) rfl ?_
  refine JL.val (yl_lss rfl rfl) rfl ?_
  refine JL.nil ?_
  refine JE.weak (env' := [(0, .slice a_0 q0.length c_0), (1, .int .i64 q1), (5, .int .i64 x1), (9, .bool (decide (x1 < (q0.length : Int))))]) (es' := []) [] ?_ ⟨rfl, rfl, rfl, rfl, trivial⟩ (by decide) rfl
  refine JE.code ?_
  rcases cond_some hres with ⟨hb, hres⟩ | ⟨hb, hres⟩
  · refine JX.condT rfl hb ?_
    refine JX.skip ?_
    refine JE.code ?_
    refine JX.seq ?_
    refine JX.block ?_
    refine JX.seq ?_
    refine JX.region ?_
    refine JL.val (yl_move rfl) rfl ?_
    refine JL.val (yl_move rfl) rfl ?_
    obtain ⟨x2, hx2, hres⟩ := bind_some hres
    refine JL.val (yl_idxT Go.Proofs.Try.underlying35 i2 i2s rfl rfl hx2 rfl (fun w hC => rd_arg g_0 hC)) rfl ?_
    refine JL.val (yl_loadT0 Go.Proofs.Try.underlying2 rfl rfl hx2 (fun w hC => rd_arg g_0 hC) rfl) rfl ?_
    refine JL.val (yl_move rfl) rfl ?_
    refine JL.val (yl_eql rfl rfl) rfl ?_
    refine JL.nil ?_
    refine JE.weak (env' := [(0, .slice a_0 q0.length c_0), (1, .int .i64 q1), (5, .int .i64 x1), (17, .bool (x2 == q1))]) (es' := []) [] ?_ ⟨rfl, rfl, rfl, rfl, trivial⟩ (by decide) rfl
    refine JE.code ?_
    rcases cond_some hres with ⟨hb, hres⟩ | ⟨hb, hres⟩
    · refine JX.condT rfl hb ?_
      refine JX.seq ?_
      refine JX.region ?_
      refine JL.val (yl_move rfl) rfl ?_
      refine JL.val (yl_assign rfl) rfl ?_
      refine JL.nil ?_
      refine JE.code ?_
      refine JX.ret ?_
      refine JE.qbr ?_
      refine JE.qbr ?_
      have hres := elimS_inr hresO1 (hox1 _ (Option.some.inj hres).symm)
      obtain rfl := Option.some.inj hres
      refine JE.ret (rs := [.tmp 4]) (vs := [.int .i64 x1]) rfl ⟨rfl, trivial⟩ ?_
      exact fun w' hb hs => ⟨_, _, ⟨rfl, rfl⟩, rfl, hb, hs.sel [] _ (by decide) rfl⟩
    · refine JX.condF rfl hb ?_
      refine JX.skip ?_
      refine JE.code ?_
      refine JX.region ?_
      refine JL.val (yl_move rfl) rfl ?_
      refine JL.val (yl_add rfl rfl) rfl ?_
      refine JL.val (yl_assign rfl) rfl ?_
      refine JL.nil ?_
      refine JE.cont hres ?_
      exact fun a w h => h.weak ⟨rfl, rfl, rfl, trivial⟩ [] (by decide) rfl
  · refine JX.condF rfl hb ?_
    refine JX.exit ?_
    refine JE.qb rfl ?_
    obtain ⟨b1, hb1⟩ : ∃ b : Unit, b = () := ⟨_, rfl⟩
    have hy1 : Sum.inl b1 = y1 := by rw [hb1]; exact hox1 _ (Option.some.inj hres).symm
    have hres := elimS_inl hresO1 hy1
    refine JE.weak (env' := []) (es' := []) [] ?_ trivial (by decide) (by subst hb1; rfl)
    refine JE.code ?_
    refine JX.seq ?_
    refine JX.region ?_
    refine JL.val (yl_assign rfl) rfl ?_
    refine JL.nil ?_
    refine JE.code ?_
    refine JX.ret ?_
    obtain rfl := Option.some.inj hres
    refine JE.ret (rs := [.tmp 4]) (vs := [.int .i64 (-1)]) rfl ⟨rfl, trivial⟩ ?_
    exact fun w' hb hs => ⟨_, _, ⟨rfl, rfl⟩, rfl, hb, hs.sel [] _ (by decide) rfl⟩

/- spec.PathOfStrand -/
def sh33_1 (q1 : List Int) (q2 : Int) : (Int × List Int × List Int) → Option ((Int × List Int × List Int) ⊕ (List Int))
  | (x14, x15, x16) => bif decide (x14 < (q1.length : Int)) then (Option.bind (getI q1 x14) fun x20 => Option.bind (sh77 x15 x20) fun x21 => Option.bind (sh78 x21 q2) fun x23 => Option.bind (appL x16 [x23]) fun x26 => some (.inl (w64 (x14 + 1), x21, x26))) else (some (.inr x16))
def sh33 (q0 : Int) (q1 : List Int) (q2 : Int) : Option (List Int × Int) := Option.bind (sh69 q0 q1) fun x1 => bif !x1 then (some (([] : List Int), 1)) else (Option.bind (sh65 q2 0 (w64 (q0 - 1))) fun x3 => bif !x3 then (some (([] : List Int), 2)) else (Option.bind (sh76 q0) fun x5 => Option.bind (iter (sh33_1 q1 q2) (0, x5, [q2])) fun b1 => (some (b1, 0))))
def T33 (r : List Int × Int) (v : Value) (rs : List Own) : Prop := ∃ (a0 : Option Addr) (n0 c0 : Nat), r.1.length = n0 ∧ v = rets [.slice a0 n0 c0, .int .i64 r.2] ∧ rs = [rowT 2 eI64 a0 n0 c0 r.1]
set_option maxRecDepth 100000 in
theorem c33 {w : World} {q0 : Int} {q1 : List Int} {a_1 : Option Addr} {n_1 c_1 : Nat} (g_1 : Rd w a_1 (eI64.fl q1)) (l_1 : q1.length = n_1) (k_1 : n_1 ≤ c_1) {q2 : Int} {r : List Int × Int} (hres : sh33 q0 q1 q2 = some r) : Calls Go.Proofs.Try.prog 33 [.int .i64 q0, .slice a_1 n_1 c_1, .int .i64 q2].toArray w (Ret w (T33 r)) := by
  subst l_1
  unfold sh33 at hres
  refine calls_of (n := 43) (M := []) (es := []) Go.Proofs.Try.func33 rfl rfl rfl (Sep.nil _ _ _) ?_
  refine JX.seq ?_
  refine JX.region ?_
  refine JL.val (yl_assign rfl) rfl ?_
  refine JL.val (yl_assign rfl) rfl ?_
  refine JL.nil ?_
  refine JE.code ?_
  refine JX.seq ?_
  refine JX.seq ?_
  refine JX.region ?_
  refine JL.val (yl_move rfl) rfl ?_
  refine JL.val (yl_move rfl) rfl ?_
  obtain ⟨x1, hx1, hres⟩ := bind_some hres
  refine JL.eff (ef_call (T := T69 x1) Go.Proofs.Try.func69 rfl (by kernel_rfl) rfl (fun w hC => c69 (rd_arg g_1 hC) rfl k_1 hx1)) rfl ?_
  rintro _ _ ⟨_, ⟨rfl, rfl⟩, rfl⟩
  refine JL.val (yl_not rfl) rfl ?_
  refine JL.nil ?_
  refine JE.weak (env' := [(0, .int .i64 q0), (1, .slice a_1 q1.length c_1), (2, .int .i64 q2), (14, .bool !x1)]) (es' := []) [] ?_ ⟨rfl, rfl, rfl, rfl, trivial⟩ (by decide) rfl
  refine JE.code ?_
  rcases cond_some hres with ⟨hb, hres⟩ | ⟨hb, hres⟩
  · refine JX.condT rfl hb ?_
    refine JX.seq ?_
    refine JX.region ?_
    refine JL.val (yl_assign rfl) rfl ?_
    refine JL.val (yl_assign rfl) rfl ?_
    refine JL.nil ?_
    refine JE.code ?_
    refine JX.ret ?_
    refine JE.nilrow 2 eI64 ?_
    obtain rfl := Option.some.inj hres
    refine JE.ret (rs := [.tmp 6, .tmp 7]) (vs := [.slice none 0 0, .int .i64 1]) rfl ⟨rfl, rfl, trivial⟩ ?_
    exact fun w' hb hs => ⟨_, _, ⟨none, 0, 0, rfl, rfl, rfl⟩, rfl, hb, hs.sel [0] _ (by decide) rfl⟩
  · refine JX.condF rfl hb ?_
    refine JX.skip ?_
    refine JE.code ?_
    refine JX.seq ?_
    refine JX.seq ?_
    refine JX.region ?_
    refine JL.val (yl_move rfl) rfl ?_
    refine JL.val (yl_move rfl) rfl ?_
    refine JL.val (yl_sub rfl rfl) rfl ?_
    obtain ⟨x3, hx3, hres⟩ := bind_some hres
    refine JL.eff (ef_call (T := T65 x3) Go.Proofs.Try.func65 rfl (by kernel_rfl) rfl (fun w hC => c65  hx3)) rfl ?_
    rintro _ _ ⟨_, ⟨rfl, rfl⟩, rfl⟩
    refine JL.val (yl_not rfl) rfl ?_
    refine JL.nil ?_
    refine JE.weak (env' := [(0, .int .i64 q0), (1, .slice a_1 q1.length c_1), (2, .int .i64 q2), (19, .bool !x3)]) (es' := []) [] ?_ ⟨rfl, rfl, rfl, rfl, trivial⟩ (by decide) rfl
    refine JE.code ?_
    rcases cond_some hres with ⟨hb, hres⟩ | ⟨hb, hres⟩
    · refine JX.condT rfl hb ?_
      refine JX.seq ?_
      refine JX.region ?_
      refine JL.val (yl_assign rfl) rfl ?_
      refine JL.val (yl_assign rfl) rfl ?_
      refine JL.nil ?_
      refine JE.code ?_
      refine JX.ret ?_
      refine JE.nilrow 2 eI64 ?_
      obtain rfl := Option.some.inj hres
      refine JE.ret (rs := [.tmp 6, .tmp 7]) (vs := [.slice none 0 0, .int .i64 2]) rfl ⟨rfl, rfl, trivial⟩ ?_
      exact fun w' hb hs => ⟨_, _, ⟨none, 0, 0, rfl, rfl, rfl⟩, rfl, hb, hs.sel [0] _ (by decide) rfl⟩
    · refine JX.condF rfl hb ?_
      refine JX.skip ?_
      refine JE.code ?_
      refine JX.seq ?_
      refine JX.region ?_
      refine JL.val (yl_move rfl) rfl ?_
      obtain ⟨x5, hx5, hres⟩ := bind_some hres
      refine JL.eff (ef_call (T := T76 x5) Go.Proofs.Try.func76 rfl (by kernel_rfl) rfl (fun w hC => c76  hx5)) rfl ?_
      rintro _ _ ⟨_, ⟨a6, _, cp7, rfl, rfl, rfl⟩, rfl⟩
      refine JL.val (yl_assign rfl) rfl ?_
      refine JL.nil ?_
      refine JE.code ?_
      refine JX.seq ?_
      refine JX.region ?_
      refine JL.val (yl_move rfl) rfl ?_
      refine JL.eff (ef_buildSlice (E := 2) (k := eI64.k) (us := eI64.fl [q2]) rfl (fun w => bsl35_1 q2 w) rfl (by decide)) rfl ?_
      rintro _ _ ⟨a9, rfl, rfl⟩
      refine JL.val (yl_assign rfl) rfl ?_
      refine JL.nil ?_
      refine JE.code ?_
      refine JX.seq ?_
      refine JX.seq ?_
      refine JX.region ?_
      refine JL.val (yl_assign rfl) rfl ?_
      refine JL.nil ?_
      refine JE.code ?_
      refine JX.block ?_
      obtain ⟨y1, hy1, hresO1⟩ := bind_some hres
      refine JX.loop (I := fun (s1 : Int × List Int × List Int) aa ww => ∃ (l11 : s1.2.1.length = x5.length) (a12 : Option Addr) (cp13 : Nat), St w [] 43 [(1, .slice a_1 q1.length c_1), (2, .int .i64 q2), (8, .slice a6 x5.length cp7), (9, .slice a12 s1.2.2.length cp13), (10, .int .i64 s1.1)] [rowT 2 eI64 a6 x5.length cp7 s1.2.1, rowT 2 eI64 a12 s1.2.2.length cp13 s1.2.2] aa ww) (sh33_1 q1 q2) hy1 (fun a w h => ⟨rfl, a9, 1, h.weak ⟨rfl, rfl, rfl, rfl, rfl, trivial⟩ [0, 1] (by decide) rfl⟩) ?_
      rintro ⟨x14, x15, x16⟩ o1 hres hox1 aa ww ⟨l17, a18, cp19, hS⟩
      refine (?_ : JX Go.Proofs.Try.prog w [] 43 _ _ [(1, .slice a_1 q1.length c_1), (2, .int .i64 q2), (8, .slice a6 x5.length cp7), (9, .slice a18 x16.length cp19), (10, .int .i64 x14)] [rowT 2 eI64 a6 x5.length cp7 x15, rowT 2 eI64 a18 x16.length cp19 x16] _) aa ww hS
      clear hS
      simp only [sh33_1] at hres
      refine JX.seq ?_
      refine JX.seq ?_
      refine JX.region ?_
      refine JL.val (yl_move rfl) rfl ?_
      refine JL.val (yl_move rfl) rfl ?_
      refine JL.val (yl_len_slice Go.Proofs.Try.underlying35 rfl) rfl ?_
      refine JL.val (yl_lss rfl rfl) rfl ?_
      refine JL.nil ?_
      refine JE.weak (env' := [(1, .slice a_1 q1.length c_1), (2, .int .i64 q2), (8, .slice a6 x5.length cp7), (9, .slice a18 x16.length cp19), (10, .int .i64 x14), (27, .bool (decide (x14 < (q1.length : Int))))]) (es' := [rowT 2 eI64 a6 x5.length cp7 x15, rowT 2 eI64 a18 x16.length cp19 x16]) [0, 1] ?_ ⟨rfl, rfl, rfl, rfl, rfl, rfl, trivial⟩ (by decide) rfl
      refine JE.code ?_
      rcases cond_some hres with ⟨hb, hres⟩ | ⟨hb, hres⟩
      · refine JX.condT rfl hb ?_
        refine JX.skip ?_
        refine JE.code ?_
        refine JX.seq ?_
        refine JX.block ?_
        refine JX.seq ?_
        refine JX.region ?_
        refine JL.val (yl_move rfl) rfl ?_
        refine JL.val (yl_move rfl) rfl ?_
        refine JL.val (yl_move rfl) rfl ?_
        obtain ⟨x20, hx20, hres⟩ := bind_some hres
        refine JL.val (yl_idxT Go.Proofs.Try.underlying35 i2 i2s rfl rfl hx20 rfl (fun w hC => rd_arg g_1 hC)) rfl ?_
        refine JL.val (yl_loadT0 Go.Proofs.Try.underlying2 rfl rfl hx20 (fun w hC => rd_arg g_1 hC) rfl) rfl ?_
        obtain ⟨x21, hx21, hres⟩ := bind_some hres
        refine JL.eff (ef_callm (T := T77 a6 x5.length cp7 x21) 0 Go.Proofs.Try.func77 rfl (by kernel_rfl) rfl rfl (fun w fp hs => c77 hs l17 hx21)) rfl ?_
        rintro _ _ ⟨_, _, ⟨l22, rfl, rfl, rfl⟩, rfl⟩
        refine JL.nil ?_
        refine JE.weak (env' := [(1, .slice a_1 q1.length c_1), (2, .int .i64 q2), (8, .slice a6 x5.length cp7), (9, .slice a18 x16.length cp19), (10, .int .i64 x14)]) (es' := [rowT 2 eI64 a6 x5.length cp7 x21, rowT 2 eI64 a18 x16.length cp19 x16]) [0, 1] ?_ ⟨rfl, rfl, rfl, rfl, rfl, trivial⟩ (by decide) rfl
        refine JE.code ?_
        refine JX.region ?_
        refine JL.val (yl_move rfl) rfl ?_
        refine JL.val (yl_move rfl) rfl ?_
        refine JL.val (yl_move rfl) rfl ?_
        obtain ⟨x23, hx23, hres⟩ := bind_some hres
        refine JL.eff (ef_call (T := T78 x23) Go.Proofs.Try.func78 rfl (by kernel_rfl) rfl (fun w hC => c78 (rd_row hC 0 rfl) l22 (ln_row hC 0 rfl) hx23)) rfl ?_
        rintro _ _ ⟨_, ⟨rfl, rfl⟩, rfl⟩
        refine JL.eff (ef_buildSlice (E := 2) (k := eI64.k) (us := eI64.fl [x23]) rfl (fun w => bsl35_1 x23 w) rfl (by decide)) rfl ?_
        rintro _ _ ⟨a24, rfl, rfl⟩
        obtain ⟨x26, hx26, hres⟩ := bind_some hres
        refine JL.eff (ef_appendT (ix := 1) Go.Proofs.Try.underlying35 i2 i2z i2s rfl i2b0 i2b1 rfl rfl rfl rfl rfl (fun w hC => rd_row hC 2 rfl) hx26) rfl ?_
        rintro _ _ ⟨a27, cp28, rfl, rfl⟩
        refine JL.val (yl_assign rfl) rfl ?_
        refine JL.nil ?_
        refine JE.weak (env' := [(1, .slice a_1 q1.length c_1), (2, .int .i64 q2), (8, .slice a6 x5.length cp7), (9, .slice a27 x26.length cp28), (10, .int .i64 x14)]) (es' := [rowT 2 eI64 a6 x5.length cp7 x21, rowT 2 eI64 a27 x26.length cp28 x26]) [0, 1] ?_ ⟨rfl, rfl, rfl, rfl, rfl, trivial⟩ (by decide) rfl
        refine JE.code ?_
        refine JX.region ?_
        refine JL.val (yl_move rfl) rfl ?_
        refine JL.val (yl_add rfl rfl) rfl ?_
        refine JL.val (yl_assign rfl) rfl ?_
        refine JL.nil ?_
        refine JE.cont hres ?_
        exact fun a w h => ⟨l22, a27, cp28, h.weak ⟨rfl, rfl, rfl, rfl, rfl, trivial⟩ [0, 1] (by decide) rfl⟩
      · refine JX.condF rfl hb ?_
        refine JX.exit ?_
        refine JE.qb rfl ?_
        obtain ⟨b1, hb1⟩ : ∃ b : List Int, b = x16 := ⟨_, rfl⟩
        have hy1 : b1 = y1 := by rw [hb1]; exact hox1 _ (Option.some.inj hres).symm
        have hres := hresO1
        rw [← hy1] at hres
        refine JE.weak (env' := [(9, .slice a18 b1.length cp19)]) (es' := [rowT 2 eI64 a18 b1.length cp19 b1]) [1] ?_ ⟨(by subst hb1; rfl), trivial⟩ (by decide) (by subst hb1; rfl)
        refine JE.code ?_
        refine JX.seq ?_
        refine JX.region ?_
        refine JL.val (yl_move rfl) rfl ?_
        refine JL.val (yl_assign rfl) rfl ?_
        refine JL.val (yl_assign rfl) rfl ?_
        refine JL.nil ?_
        refine JE.code ?_
        refine JX.ret ?_
        obtain rfl := Option.some.inj hres
        refine JE.ret (rs := [.tmp 6, .tmp 7]) (vs := [.slice a18 b1.length cp19, .int .i64 0]) rfl ⟨rfl, rfl, trivial⟩ ?_
        exact fun w' hb hs => ⟨_, _, ⟨a18, b1.length, cp19, rfl, rfl, rfl⟩, rfl, hb, hs.sel [0] _ (by decide) rfl⟩

/- impl.inRange -/
def sh79 (q0 : Int) (q1 : Int) (q2 : Int) : Option (Bool) := some ((decide (q1 ≤ q0)) && (decide (q0 ≤ q2)))
def T79 (r : Bool) (v : Value) (rs : List Own) : Prop := v = rets [.bool r] ∧ rs = []
set_option maxRecDepth 100000 in
theorem c79 {w : World} {q0 : Int} {q1 : Int} {q2 : Int} {r : Bool} (hres : sh79 q0 q1 q2 = some r) : Calls Go.Proofs.Try.prog 79 [.int .i64 q0, .int .i64 q1, .int .i64 q2].toArray w (Ret w (T79 r)) := by
  unfold sh79 at hres
  refine calls_of (n := 15) (M := []) (es := []) Go.Proofs.Try.func79 rfl rfl rfl (Sep.nil _ _ _) ?_
  refine JX.seq ?_
  refine JX.region ?_
  refine JL.val (yl_assign rfl) rfl ?_
  refine JL.nil ?_
  refine JE.code ?_
  refine JX.seq ?_
  refine JX.region ?_
  refine JL.val (yl_move rfl) rfl ?_
  refine JL.val (yl_move rfl) rfl ?_
  refine JL.val (yl_geq rfl rfl) rfl ?_
  refine JL.val (yl_move rfl) rfl ?_
  refine JL.cut (K := fun J => J [(14, .bool ((decide (q1 ≤ q0)) && (decide (q0 ≤ q2))))] []) 4 ?_ ?_
  · refine JL.val (yl_assign rfl) rfl ?_
    refine JL.nil ?_
    refine JE.weak (env' := [(6, .bool ((decide (q1 ≤ q0)) && (decide (q0 ≤ q2))))]) (es' := []) [] ?_ ⟨rfl, trivial⟩ (by decide) rfl
    refine JE.code ?_
    refine JX.ret ?_
    obtain rfl := Option.some.inj hres
    refine JE.ret (rs := [.tmp 6]) (vs := [.bool ((decide (q1 ≤ q0)) && (decide (q0 ≤ q2)))]) rfl ⟨rfl, trivial⟩ ?_
    exact fun w' hb hs => ⟨_, _, ⟨rfl, rfl⟩, rfl, hb, hs.sel [] _ (by decide) rfl⟩
  · intro K
    rcases Bool.eq_false_or_eq_true (decide (q1 ≤ q0)) with hb | hb
    · refine JL.set (d := 10) (v := .bool true) (congrArg (fun b => some (Value.bool b)) hb) ?_
      refine JL.gval rfl rfl (yl_move rfl) rfl ?_
      refine JL.gval rfl rfl (yl_move rfl) rfl ?_
      refine JL.gval rfl rfl (yl_leq rfl rfl) rfl ?_
      refine JL.val (yl_pick_true rfl rfl) rfl ?_
      exact JL.weak [] K ⟨(by rw [hb]; rfl), trivial⟩ (by decide) rfl
    · refine JL.set (d := 10) (v := .bool false) (congrArg (fun b => some (Value.bool b)) hb) ?_
      refine JL.gskip rfl rfl rfl rfl ?_
      refine JL.gskip rfl rfl rfl rfl ?_
      refine JL.gskip rfl rfl rfl rfl ?_
      refine JL.val (yl_pick_false rfl rfl) rfl ?_
      exact JL.weak [] K ⟨(by rw [hb]; rfl), trivial⟩ (by decide) rfl

/- impl.ValidWord -/
def sh72_1 (q0 : Int) (q1 : List Int) : Int → Option (Int ⊕ (Unit ⊕ Bool))
  | x1 => bif decide (x1 < (q1.length : Int)) then (Option.bind (getI q1 x1) fun x2 => Option.bind (bif x2 == 0 then (some true) else (Option.bind (sh79 x2 (w64 (1 - q0)) (w64 (q0 - 1))) fun x4 => some !x4)) fun c3 => (bif c3 then (some (.inr (.inr false))) else (some (.inl (w64 (x1 + 1)))))) else (some (.inr (.inl ())))
def sh72 (q0 : Int) (q1 : List Int) : Option (Bool) := Option.bind (iter (sh72_1 q0 q1) 0) fun y1 => elimS y1 (fun r => some r) fun b1 => (Option.bind (sh79 q0 2 12) fun x5 => some (x5 && (decide ((q1.length : Int) ≤ 200))))
def T72 (r : Bool) (v : Value) (rs : List Own) : Prop := v = rets [.bool r] ∧ rs = []
set_option maxRecDepth 100000 in
theorem c72 {w : World} {q0 : Int} {q1 : List Int} {a_1 : Option Addr} {n_1 c_1 : Nat} (g_1 : Rd w a_1 (eI64.fl q1)) (l_1 : q1.length = n_1) (k_1 : n_1 ≤ c_1) {r : Bool} (hres : sh72 q0 q1 = some r) : Calls Go.Proofs.Try.prog 72 [.int .i64 q0, .slice a_1 n_1 c_1].toArray w (Ret w (T72 r)) := by
  subst l_1
  unfold sh72 at hres
  refine calls_of (n := 32) (M := []) (es := []) Go.Proofs.Try.func72 rfl rfl rfl (Sep.nil _ _ _) ?_
  refine JX.seq ?_
  refine JX.region ?_
  refine JL.val (yl_assign rfl) rfl ?_
  refine JL.nil ?_
  refine JE.code ?_
  refine JX.seq ?_
  refine JX.seq ?_
  refine JX.region ?_
  refine JL.val (yl_move rfl) rfl ?_
  refine JL.val (yl_len_slice Go.Proofs.Try.underlying35 rfl) rfl ?_
  refine JL.val (yl_move rfl) rfl ?_
  refine JL.nil ?_
  refine JE.code ?_
  refine JX.block ?_
  obtain ⟨y1, hy1, hresO1⟩ := bind_some hres
  refine JX.loop (I := fun (s1 : Int) aa ww => St w [] 32 [(0, .int .i64 q0), (1, .slice a_1 q1.length c_1), (7, .slice a_1 q1.length c_1), (8, .int .i64 (q1.length : Int)), (9, .int .i64 s1)] [] aa ww) (sh72_1 q0 q1) hy1 (fun a w h => h.weak ⟨rfl, rfl, rfl, rfl, rfl, trivial⟩ [] (by decide) rfl) ?_
  rintro x1 o1 hres hox1 aa ww hS
  refine (?_ : JX Go.Proofs.Try.prog w [] 32 _ _ [(0, .int .i64 q0), (1, .slice a_1 q1.length c_1), (7, .slice a_1 q1.length c_1), (8, .int .i64 (q1.length : Int)), (9, .int .i64 x1)] [] _) aa ww hS
  clear hS
  unfold sh72_1 at hres
  refine JX.seq ?_
  refine JX.region ?_
  refine JL.val (yl_lss rfl rfl) rfl ?_
  refine JL.nil ?_
  refine JE.code ?_
  refine JX.seq ?_
  rcases cond_some hres with ⟨hb, hres⟩ | ⟨hb, hres⟩
  · refine JX.condT rfl hb ?_
    refine JX.skip ?_
    refine JE.code ?_
    refine JX.seq ?_
    refine JX.block ?_
    refine JX.seq ?_
    refine JX.region ?_
    obtain ⟨x2, hx2, hres⟩ := bind_some hres
    refine JL.val (yl_idxT Go.Proofs.Try.underlying35 i2 i2s rfl rfl hx2 rfl (fun w hC => rd_arg g_1 hC)) rfl ?_
    refine JL.val (yl_loadT0 Go.Proofs.Try.underlying2 rfl rfl hx2 (fun w hC => rd_arg g_1 hC) rfl) rfl ?_
    refine JL.val (yl_assign rfl) rfl ?_
    refine JL.nil ?_
    refine JE.code ?_
    refine JX.seq ?_
    refine JX.region ?_
    refine JL.val (yl_move rfl) rfl ?_
    refine JL.val (yl_eql rfl rfl) rfl ?_
    refine JL.val (yl_move rfl) rfl ?_
    obtain ⟨c3, hc3, hres⟩ := bind_some hres
    refine JL.cut (K := fun J => J [(0, .int .i64 q0), (1, .slice a_1 q1.length c_1), (7, .slice a_1 q1.length c_1), (8, .int .i64 (q1.length : Int)), (9, .int .i64 x1), (23, .bool c3)] []) 8 ?_ ?_
    · refine JL.nil ?_
      refine JE.weak (env' := [(0, .int .i64 q0), (1, .slice a_1 q1.length c_1), (7, .slice a_1 q1.length c_1), (8, .int .i64 (q1.length : Int)), (9, .int .i64 x1), (23, .bool c3)]) (es' := []) [] ?_ ⟨rfl, rfl, rfl, rfl, rfl, rfl, trivial⟩ (by decide) rfl
      refine JE.code ?_
      rcases cond_some hres with ⟨hb, hres⟩ | ⟨hb, hres⟩
      · refine JX.condT rfl hb ?_
        refine JX.seq ?_
        refine JX.region ?_
        refine JL.val (yl_assign rfl) rfl ?_
        refine JL.nil ?_
        refine JE.code ?_
        refine JX.ret ?_
        refine JE.qbr ?_
        refine JE.qbr ?_
        have hres := elimS_inr hresO1 (hox1 _ (Option.some.inj hres).symm)
        obtain rfl := Option.some.inj hres
        refine JE.ret (rs := [.tmp 4]) (vs := [.bool false]) rfl ⟨rfl, trivial⟩ ?_
        exact fun w' hb hs => ⟨_, _, ⟨rfl, rfl⟩, rfl, hb, hs.sel [] _ (by decide) rfl⟩
      · refine JX.condF rfl hb ?_
        refine JX.skip ?_
        refine JE.code ?_
        refine JX.region ?_
        refine JL.val (yl_add rfl rfl) rfl ?_
        refine JL.val (yl_move rfl) rfl ?_
        refine JL.nil ?_
        refine JE.cont hres ?_
        exact fun a w h => h.weak ⟨rfl, rfl, rfl, rfl, rfl, trivial⟩ [] (by decide) rfl
    · intro K
      rcases cond_some hc3 with ⟨hb, hres⟩ | ⟨hb, hres⟩
      · refine JL.set (d := 15) (v := .bool true) (congrArg (fun b => some (Value.bool b)) hb) ?_
        refine JL.gskip rfl rfl rfl rfl ?_
        refine JL.gskip rfl rfl rfl rfl ?_
        refine JL.gskip rfl rfl rfl rfl ?_
        refine JL.gskip rfl rfl rfl rfl ?_
        refine JL.gskip rfl rfl rfl rfl ?_
        refine JL.gskip rfl rfl rfl rfl ?_
        refine JL.gskip rfl rfl rfl rfl ?_
        refine JL.val (yl_pick_true rfl rfl) rfl ?_
        have he := Option.some.inj hres
        exact JL.weak [] K ⟨rfl, rfl, rfl, rfl, rfl, (by rw [← he]; rfl), trivial⟩ (by decide) rfl
      · refine JL.set (d := 15) (v := .bool false) (congrArg (fun b => some (Value.bool b)) hb) ?_
        refine JL.gval rfl rfl (yl_move rfl) rfl ?_
        refine JL.gval rfl rfl (yl_move rfl) rfl ?_
        refine JL.gval rfl rfl (yl_sub rfl rfl) rfl ?_
        refine JL.gval rfl rfl (yl_move rfl) rfl ?_
        refine JL.gval rfl rfl (yl_sub rfl rfl) rfl ?_
        obtain ⟨x4, hx4, hres⟩ := bind_some hres
        refine JL.geff rfl rfl (ef_call (T := T79 x4) Go.Proofs.Try.func79 rfl (by kernel_rfl) rfl (fun w hC => c79  hx4)) rfl ?_
        rintro _ _ ⟨_, ⟨rfl, rfl⟩, rfl⟩
        refine JL.gval rfl rfl (yl_not rfl) rfl ?_
        refine JL.val (yl_pick_false rfl rfl) rfl ?_
        have he := Option.some.inj hres
        exact JL.weak [] K ⟨rfl, rfl, rfl, rfl, rfl, (by rw [← he]; rfl), trivial⟩ (by decide) rfl
  · refine JX.condF rfl hb ?_
    refine JX.exit ?_
    refine JE.qb rfl ?_
    obtain ⟨b1, hb1⟩ : ∃ b : Unit, b = () := ⟨_, rfl⟩
    have hy1 : Sum.inl b1 = y1 := by rw [hb1]; exact hox1 _ (Option.some.inj hres).symm
    have hres := elimS_inl hresO1 hy1
    refine JE.weak (env' := [(0, .int .i64 q0), (1, .slice a_1 q1.length c_1)]) (es' := []) [] ?_ ⟨(by subst hb1; rfl), (by subst hb1; rfl), trivial⟩ (by decide) (by subst hb1; rfl)
    refine JE.code ?_
    refine JX.seq ?_
    refine JX.region ?_
    refine JL.val (yl_move rfl) rfl ?_
    obtain ⟨x5, hx5, hres⟩ := bind_some hres
    refine JL.eff (ef_call (T := T79 x5) Go.Proofs.Try.func79 rfl (by kernel_rfl) rfl (fun w hC => c79  hx5)) rfl ?_
    rintro _ _ ⟨_, ⟨rfl, rfl⟩, rfl⟩
    refine JL.val (yl_move rfl) rfl ?_
    refine JL.cut (K := fun J => J [(31, .bool (x5 && (decide ((q1.length : Int) ≤ 200))))] []) 4 ?_ ?_
    · refine JL.val (yl_assign rfl) rfl ?_
      refine JL.nil ?_
      refine JE.weak (env' := [(4, .bool (x5 && (decide ((q1.length : Int) ≤ 200))))]) (es' := []) [] ?_ ⟨rfl, trivial⟩ (by decide) rfl
      refine JE.code ?_
      refine JX.ret ?_
      obtain rfl := Option.some.inj hres
      refine JE.ret (rs := [.tmp 4]) (vs := [.bool (x5 && (decide ((q1.length : Int) ≤ 200)))]) rfl ⟨rfl, trivial⟩ ?_
      exact fun w' hb hs => ⟨_, _, ⟨rfl, rfl⟩, rfl, hb, hs.sel [] _ (by decide) rfl⟩
    · intro K
      rcases Bool.eq_false_or_eq_true (x5) with hb | hb
      · refine JL.set (d := 27) (v := .bool true) (congrArg (fun b => some (Value.bool b)) hb) ?_
        refine JL.gval rfl rfl (yl_move rfl) rfl ?_
        refine JL.gval rfl rfl (yl_len_slice Go.Proofs.Try.underlying35 rfl) rfl ?_
        refine JL.gval rfl rfl (yl_leq rfl rfl) rfl ?_
        refine JL.val (yl_pick_true rfl rfl) rfl ?_
        exact JL.weak [] K ⟨(by rw [hb]; rfl), trivial⟩ (by decide) rfl
      · refine JL.set (d := 27) (v := .bool false) (congrArg (fun b => some (Value.bool b)) hb) ?_
        refine JL.gskip rfl rfl rfl rfl ?_
        refine JL.gskip rfl rfl rfl rfl ?_
        refine JL.gskip rfl rfl rfl rfl ?_
        refine JL.val (yl_pick_false rfl rfl) rfl ?_
        exact JL.weak [] K ⟨(by rw [hb]; rfl), trivial⟩ (by decide) rfl

/- impl.rightOf -/
def sh73 (q0 : Int) : Option (Int) := some (if q0 < (w64 (0 - q0)) then (w64 (0 - q0)) else q0)
def T73 (r : Int) (v : Value) (rs : List Own) : Prop := v = rets [.int .i64 r] ∧ rs = []
set_option maxRecDepth 100000 in
theorem c73 {w : World} {q0 : Int} {r : Int} (hres : sh73 q0 = some r) : Calls Go.Proofs.Try.prog 73 [.int .i64 q0].toArray w (Ret w (T73 r)) := by
  unfold sh73 at hres
  refine calls_of (n := 7) (M := []) (es := []) Go.Proofs.Try.func73 rfl rfl rfl (Sep.nil _ _ _) ?_
  refine JX.seq ?_
  refine JX.region ?_
  refine JL.val (yl_assign rfl) rfl ?_
  refine JL.nil ?_
  refine JE.code ?_
  refine JX.seq ?_
  refine JX.region ?_
  refine JL.val (yl_move rfl) rfl ?_
  refine JL.val (yl_move rfl) rfl ?_
  refine JL.val (yl_neg rfl) rfl ?_
  refine JL.val (yl_max rfl rfl) rfl ?_
  refine JL.val (yl_assign rfl) rfl ?_
  refine JL.nil ?_
  refine JE.weak (env' := [(2, .int .i64 (if q0 < (w64 (0 - q0)) then (w64 (0 - q0)) else q0))]) (es' := []) [] ?_ ⟨rfl, trivial⟩ (by decide) rfl
  refine JE.code ?_
  refine JX.ret ?_
  obtain rfl := Option.some.inj hres
  refine JE.ret (rs := [.tmp 2]) (vs := [.int .i64 (if q0 < (w64 (0 - q0)) then (w64 (0 - q0)) else q0)]) rfl ⟨rfl, trivial⟩ ?_
  exact fun w' hb hs => ⟨_, _, ⟨rfl, rfl⟩, rfl, hb, hs.sel [] _ (by decide) rfl⟩

/- slices.Index[[]int64,int64] -/
def sh82_1 (q0 : List Int) (q1 : Int) : Int → Option (Int ⊕ (Unit ⊕ Int))
  | x1 => bif decide (x1 < (q0.length : Int)) then (Option.bind (getI q0 x1) fun x2 => bif q1 == x2 then (some (.inr (.inr x1))) else (some (.inl (w64 (x1 + 1))))) else (some (.inr (.inl ())))
def sh82 (q0 : List Int) (q1 : Int) : Option (Int) := Option.bind (iter (sh82_1 q0 q1) 0) fun y1 => elimS y1 (fun r => some r) fun b1 => (some (-1))
def T82 (r : Int) (v : Value) (rs : List Own) : Prop := v = rets [.int .i64 r] ∧ rs = []
set_option maxRecDepth 100000 in
theorem c82 {w : World} {q0 : List Int} {a_0 : Option Addr} {n_0 c_0 : Nat} (g_0 : Rd w a_0 (eI64.fl q0)) (l_0 : q0.length = n_0) (k_0 : n_0 ≤ c_0) {q1 : Int} {r : Int} (hres : sh82 q0 q1 = some r) : Calls Go.Proofs.Try.prog 82 [.slice a_0 n_0 c_0, .int .i64 q1].toArray w (Ret w (T82 r)) := by
  subst l_0
  unfold sh82 at hres
  refine calls_of (n := 19) (M := []) (es := []) Go.Proofs.Try.func82 rfl rfl rfl (Sep.nil _ _ _) ?_
  refine JX.seq ?_
  refine JX.region ?_
  refine JL.val (yl_assign rfl) rfl ?_
  refine JL.nil ?_
  refine JE.code ?_
  refine JX.seq ?_
  refine JX.seq ?_
  refine JX.region ?_
  refine JL.val (yl_move rfl) rfl ?_
  refine JL.val (yl_len_slice Go.Proofs.Try.underlying35 rfl) rfl ?_
  refine JL.val (yl_move rfl) rfl ?_
  refine JL.nil ?_
  refine JE.code ?_
  refine JX.block ?_
  obtain ⟨y1, hy1, hresO1⟩ := bind_some hres
  refine JX.loop (I := fun (s1 : Int) aa ww => St w [] 19 [(0, .slice a_0 q0.length c_0), (1, .int .i64 q1), (7, .int .i64 (q0.length : Int)), (8, .int .i64 s1)] [] aa ww) (sh82_1 q0 q1) hy1 (fun a w h => h.weak ⟨rfl, rfl, rfl, rfl, trivial⟩ [] (by decide) rfl) ?_
  rintro x1 o1 hres hox1 aa ww hS
  refine (?_ : JX Go.Proofs.Try.prog w [] 19 _ _ [(0, .slice a_0 q0.length c_0), (1, .int .i64 q1), (7, .int .i64 (q0.length : Int)), (8, .int .i64 x1)] [] _) aa ww hS
  clear hS
  unfold sh82_1 at hres
  refine JX.seq ?_
  refine JX.region ?_
  refine JL.val (yl_lss rfl rfl) rfl ?_
  refine JL.nil ?_
  refine JE.code ?_
  refine JX.seq ?_
  rcases cond_some hres with ⟨hb, hres⟩ | ⟨hb, hres⟩
  · refine JX.condT rfl hb ?_
    refine JX.skip ?_
    refine JE.code ?_
    refine JX.seq ?_
    refine JX.block ?_
    refine JX.seq ?_
    refine JX.region ?_
    refine JL.val (yl_move rfl) rfl ?_
    refine JL.val (yl_assign rfl) rfl ?_
    refine JL.nil ?_
    refine JE.code ?_
    refine JX.seq ?_
    refine JX.region ?_
    refine JL.val (yl_move rfl) rfl ?_
    refine JL.val (yl_move rfl) rfl ?_
    refine JL.val (yl_move rfl) rfl ?_
    obtain ⟨x2, hx2, hres⟩ := bind_some hres
    refine JL.val (yl_idxT Go.Proofs.Try.underlying35 i2 i2s rfl rfl hx2 rfl (fun w hC => rd_arg g_0 hC)) rfl ?_
    refine JL.val (yl_loadT0 Go.Proofs.Try.underlying2 rfl rfl hx2 (fun w hC => rd_arg g_0 hC) rfl) rfl ?_
    refine JL.val (yl_eql rfl rfl) rfl ?_
    refine JL.nil ?_
    refine JE.weak (env' := [(0, .slice a_0 q0.length c_0), (1, .int .i64 q1), (5, .int .i64 x1), (7, .int .i64 (q0.length : Int)), (8, .int .i64 x1), (16, .bool (q1 == x2))]) (es' := []) [] ?_ ⟨rfl, rfl, rfl, rfl, rfl, rfl, trivial⟩ (by decide) rfl
    refine JE.code ?_
    rcases cond_some hres with ⟨hb, hres⟩ | ⟨hb, hres⟩
    · refine JX.condT rfl hb ?_
      refine JX.seq ?_
      refine JX.region ?_
      refine JL.val (yl_move rfl) rfl ?_
      refine JL.val (yl_assign rfl) rfl ?_
      refine JL.nil ?_
      refine JE.code ?_
      refine JX.ret ?_
      refine JE.qbr ?_
      refine JE.qbr ?_
      have hres := elimS_inr hresO1 (hox1 _ (Option.some.inj hres).symm)
      obtain rfl := Option.some.inj hres
      refine JE.ret (rs := [.tmp 4]) (vs := [.int .i64 x1]) rfl ⟨rfl, trivial⟩ ?_
      exact fun w' hb hs => ⟨_, _, ⟨rfl, rfl⟩, rfl, hb, hs.sel [] _ (by decide) rfl⟩
    · refine JX.condF rfl hb ?_
      refine JX.skip ?_
      refine JE.code ?_
      refine JX.region ?_
      refine JL.val (yl_add rfl rfl) rfl ?_
      refine JL.val (yl_move rfl) rfl ?_
      refine JL.nil ?_
      refine JE.cont hres ?_
      exact fun a w h => h.weak ⟨rfl, rfl, rfl, rfl, trivial⟩ [] (by decide) rfl
  · refine JX.condF rfl hb ?_
    refine JX.exit ?_
    refine JE.qb rfl ?_
    obtain ⟨b1, hb1⟩ : ∃ b : Unit, b = () := ⟨_, rfl⟩
    have hy1 : Sum.inl b1 = y1 := by rw [hb1]; exact hox1 _ (Option.some.inj hres).symm
    have hres := elimS_inl hresO1 hy1
    refine JE.weak (env' := []) (es' := []) [] ?_ trivial (by decide) (by subst hb1; rfl)
    refine JE.code ?_
    refine JX.seq ?_
    refine JX.region ?_
    refine JL.val (yl_assign rfl) rfl ?_
    refine JL.nil ?_
    refine JE.code ?_
    refine JX.ret ?_
    obtain rfl := Option.some.inj hres
    refine JE.ret (rs := [.tmp 4]) (vs := [.int .i64 (-1)]) rfl ⟨rfl, trivial⟩ ?_
    exact fun w' hb hs => ⟨_, _, ⟨rfl, rfl⟩, rfl, hb, hs.sel [] _ (by decide) rfl⟩

/- impl.PathOfStrand$1 -/
def sh81 (q0 : List Int) (q1 : Int) (u0 : List Int) (u1 : Int) : Option (List Int × Int) := Option.bind (sh82 q0 u1) fun x2 => Option.bind (appL u0 [x2]) fun x5 => some (x5, u1)
def T81 (g_u0_0 : Nat) (g_u1_2 : Nat) (r : List Int × Int) (v : Value) (es' rs : List Own) : Prop := ∃ (ax1 : Option Addr) (nx1 cx1 : Nat), r.1.length = nx1 ∧ es' = [boxO 35 g_u0_0 [.slice ax1 nx1 cx1], rowT 2 eI64 ax1 nx1 cx1 r.1, boxO 2 g_u1_2 [.int .i64 r.2]] ∧ v = rets [] ∧ rs = []
set_option maxRecDepth 100000 in
theorem c81 {w : World} {M : List Nat} {q0 : List Int} {a_0 : Option Addr} {n_0 c_0 : Nat} (g_0 : RdS M w a_0 (eI64.fl q0)) (l_0 : q0.length = n_0) (k_0 : n_0 ≤ c_0) {q1 : Int} {g_u0_0 : Nat} {u0 : List Int} {a_u0 : Option Addr} {n_u0 c_u0 : Nat} {g_u1_2 : Nat} {u1 : Int} (l_u0 : u0.length = n_u0) (gs : Sep w.heap.size M w [boxO 35 g_u0_0 [.slice a_u0 n_u0 c_u0], rowT 2 eI64 a_u0 n_u0 c_u0 u0, boxO 2 g_u1_2 [.int .i64 u1]]) {r : List Int × Int} (hres : sh81 q0 q1 u0 u1 = some r) : Calls Go.Proofs.Try.prog 81 [.slice a_0 n_0 c_0, .int .i64 q1, ptrAt (some ⟨g_u0_0, 0, none⟩) 0, ptrAt (some ⟨g_u1_2, 0, none⟩) 0].toArray w (RetMs w M (T81 g_u0_0 g_u1_2 r)) := by
  subst l_0
  subst l_u0
  unfold sh81 at hres
  refine calls_of (n := 12) (M := M) (es := [boxO 35 g_u0_0 [.slice a_u0 u0.length c_u0], rowT 2 eI64 a_u0 u0.length c_u0 u0, boxO 2 g_u1_2 [.int .i64 u1]]) Go.Proofs.Try.func81 rfl rfl rfl gs ?_
  refine JX.drawH [(0, .read0), (1, .pure), (2, .read), (3, .must), (4, .must), (5, .must), (6, .must)] [5, 6] [1, 0] [2] [rowT 2 eI64 a_u0 u0.length c_u0 u0, boxO 35 g_u0_0 [.slice a_u0 u0.length c_u0]] [boxO 2 g_u1_2 [.int .i64 u1]] mixedP (by kernel_rfl) (by kernel_rfl) (by decide) rfl rfl ?_
  intro wrr1 Nr1 hFr1
  refine JH.read0 rfl (yl_load1 Go.Proofs.Try.underlying35 rfl rfl (fun w hw => (rd_box hFr1.cl 0 rfl).bw hw) rfl) rfl ?_
  refine JH.pure rfl (yl_move rfl) rfl ?_
  refine JH.read rfl (yl_load1 Go.Proofs.Try.underlying2 rfl rfl (fun w hw => hFr1.box 2 rfl rfl hw) rfl) rfl ?_
  obtain ⟨x2, hx2, hres⟩ := bind_some hres
  refine JH.must rfl (ef_call (T := T82 x2) Go.Proofs.Try.func82 rfl (by kernel_rfl) rfl (fun w hC => c82 (hFr1.argS g_0 hC.1) rfl k_0 hx2)) rfl rfl ?_
  rintro _ _ ⟨_, ⟨rfl, rfl⟩, rfl⟩
  refine JH.must rfl (ef_buildSlice (E := 2) (k := eI64.k) (us := eI64.fl [x2]) rfl (fun w => bsl35_1 x2 w) rfl (by decide)) rfl rfl ?_
  rintro _ _ ⟨a3, rfl, rfl⟩
  obtain ⟨x5, hx5, hres⟩ := bind_some hres
  refine JH.must rfl (ef_appendT (ix := 0) Go.Proofs.Try.underlying35 i2 i2z i2s rfl i2b0 i2b1 rfl rfl rfl rfl rfl (fun w hC => rd_row hC 2 rfl) hx5) rfl rfl ?_
  rintro _ _ ⟨a6, cp7, rfl, rfl⟩
  refine JH.must rfl (ef_store_box (i := 1) (v := .slice a6 x5.length cp7) i35 rfl rfl rfl (i35s).symm (Nat.le_of_ble_eq_true rfl) (by simp [Value.cells, Value.oneCell'])) rfl rfl ?_
  rintro _ _ rfl
  refine JH.nil ?_
  refine JE.weak (env' := []) (es' := [boxO 35 g_u0_0 [.slice a6 x5.length cp7], rowT 2 eI64 a6 x5.length cp7 x5, boxO 2 g_u1_2 [.int .i64 u1]]) [2, 1, 0] ?_ trivial (by decide) rfl
  show JE _ _ _ (bodyPost _ _ _ .ret) _ _
  obtain rfl := Option.some.inj hres
  refine JE.ret (rs := []) (vs := []) rfl trivial ?_
  exact fun w' hb hs => ⟨_, _, _, ⟨a6, x5.length, cp7, rfl, rfl, rfl, rfl⟩, rfl, hb, hs.sel [0, 1, 2] _ (by decide) rfl⟩

/- impl.plait -/
def sh80f81_2 (q1 : List Int) : (Int × List Int × Int × List Int) → Option ((Int × List Int × Int × List Int) ⊕ (List Int × Int × List Int))
  | (x19, x20, x21, x22) => bif decide (x19 < (q1.length : Int)) then (Option.bind (getI q1 x19) fun x26 => Option.bind (sh73 x26) fun x27 => Option.bind (getI x22 (w64 (x27 - 1))) fun x28 => Option.bind (bif decide (x26 < 0) then (Option.bind (getI x22 x27) fun x38 => some x38) else (some x28)) fun j29 => (Option.bind (getI x22 x27) fun x31 => Option.bind (getI x22 (w64 (x27 - 1))) fun x32 => Option.bind (getI x22 (w64 (x27 - 1))) fun x33 => Option.bind (getI (x22.set (w64 (x27 - 1)).toNat x31) x27) fun x34 => Option.bind (sh81 ((x22.set (w64 (x27 - 1)).toNat x31).set (x27).toNat x32) j29 x20 x21) fun x35 => some (.inl (w64 (x19 + 1), x35.1, x35.2, (x22.set (w64 (x27 - 1)).toNat x31).set (x27).toNat x32)))) else (some (.inr (x20, x21, x22)))
def sh80f81_1 (q0 : Int) : (Int × List Int) → Option ((Int × List Int) ⊕ (List Int))
  | (x5, x6) => bif decide (x5 < q0) then (Option.bind (appL x6 [x5]) fun x11 => some (.inl (w64 (x5 + 1), x11))) else (some (.inr x6))
def sh80f81 (q0 : Int) (q1 : List Int) (u0 : List Int) (u1 : Int) : Option (List Int × List Int × Int) := Option.bind (iter (sh80f81_1 q0) (0, ([] : List Int))) fun b1 => (Option.bind (iter (sh80f81_2 q1) (0, u0, u1, b1)) fun b2 => (some (b2.2.2, b2.1, b2.2.1)))
def T80f81 (g_u0_0 : Nat) (g_u1_2 : Nat) (r : List Int × List Int × Int) (v : Value) (es' rs : List Own) : Prop := ∃ (ax1 : Option Addr) (nx1 cx1 : Nat), r.2.1.length = nx1 ∧ es' = [boxO 35 g_u0_0 [.slice ax1 nx1 cx1], rowT 2 eI64 ax1 nx1 cx1 r.2.1, boxO 2 g_u1_2 [.int .i64 r.2.2]] ∧ ∃ (a0 : Option Addr) (n0 c0 : Nat), r.1.length = n0 ∧ v = rets [.slice a0 n0 c0] ∧ rs = [rowT 2 eI64 a0 n0 c0 r.1]
set_option maxRecDepth 100000 in
theorem c80f81 {w : World} {M : List Nat} {q0 : Int} {q1 : List Int} {a_1 : Option Addr} {n_1 c_1 : Nat} (g_1 : RdS M w a_1 (eI64.fl q1)) (l_1 : q1.length = n_1) (k_1 : n_1 ≤ c_1) {g_u0_0 : Nat} {u0 : List Int} {a_u0 : Option Addr} {n_u0 c_u0 : Nat} {g_u1_2 : Nat} {u1 : Int} (l_u0 : u0.length = n_u0) (gs : Sep w.heap.size M w [boxO 35 g_u0_0 [.slice a_u0 n_u0 c_u0], rowT 2 eI64 a_u0 n_u0 c_u0 u0, boxO 2 g_u1_2 [.int .i64 u1]]) {r : List Int × List Int × Int} (hres : sh80f81 q0 q1 u0 u1 = some r) : Calls Go.Proofs.Try.prog 80 [.int .i64 q0, .slice a_1 n_1 c_1, .func (.func 81) #[] #[ptrAt (some ⟨g_u0_0, 0, none⟩) 0, ptrAt (some ⟨g_u1_2, 0, none⟩) 0]].toArray w (RetMs w M (T80f81 g_u0_0 g_u1_2 r)) := by
  subst l_1
  subst l_u0
  unfold sh80f81 at hres
  refine calls_of (n := 64) (M := M) (es := [boxO 35 g_u0_0 [.slice a_u0 u0.length c_u0], rowT 2 eI64 a_u0 u0.length c_u0 u0, boxO 2 g_u1_2 [.int .i64 u1]]) Go.Proofs.Try.func80 rfl rfl rfl gs ?_
  refine JX.seq ?_
  refine JX.region ?_
  refine JL.val (yl_assign rfl) rfl ?_
  refine JL.nil ?_
  refine JE.code ?_
  refine JX.seq ?_
  refine JX.region ?_
  refine JL.eff (ef_buildSlice (E := 2) (k := eI64.k) (us := eI64.fl ([] : List Int)) rfl (fun w => bsl35_0  w) rfl (by decide)) rfl ?_
  rintro _ _ ⟨a1, rfl, rfl⟩
  refine JL.val (yl_assign rfl) rfl ?_
  refine JL.nil ?_
  refine JE.code ?_
  refine JX.seq ?_
  refine JX.seq ?_
  refine JX.region ?_
  refine JL.val (yl_move rfl) rfl ?_
  refine JL.val (yl_move rfl) rfl ?_
  refine JL.nil ?_
  refine JE.code ?_
  refine JX.block ?_
  obtain ⟨y1, hy1, hresO1⟩ := bind_some hres
  refine JX.loop (I := fun (s1 : Int × List Int) aa ww => ∃ (a3 : Option Addr) (cp4 : Nat), St w M 64 [(1, .slice a_1 q1.length c_1), (2, .func (.func 81) #[] #[ptrAt (some ⟨g_u0_0, 0, none⟩) 0, ptrAt (some ⟨g_u1_2, 0, none⟩) 0]), (7, .slice a3 s1.2.length cp4), (14, .int .i64 q0), (15, .int .i64 s1.1)] [boxO 35 g_u0_0 [.slice a_u0 u0.length c_u0], rowT 2 eI64 a_u0 u0.length c_u0 u0, boxO 2 g_u1_2 [.int .i64 u1], rowT 2 eI64 a3 s1.2.length cp4 s1.2] aa ww) (sh80f81_1 q0) hy1 (fun a w h => ⟨a1, 0, h.weak ⟨rfl, rfl, rfl, rfl, rfl, trivial⟩ [0, 1, 2, 3] (by decide) rfl⟩) ?_
  rintro ⟨x5, x6⟩ o1 hres hox1 aa ww ⟨a7, cp8, hS⟩
  refine (?_ : JX Go.Proofs.Try.prog w M 64 _ _ [(1, .slice a_1 q1.length c_1), (2, .func (.func 81) #[] #[ptrAt (some ⟨g_u0_0, 0, none⟩) 0, ptrAt (some ⟨g_u1_2, 0, none⟩) 0]), (7, .slice a7 x6.length cp8), (14, .int .i64 q0), (15, .int .i64 x5)] [boxO 35 g_u0_0 [.slice a_u0 u0.length c_u0], rowT 2 eI64 a_u0 u0.length c_u0 u0, boxO 2 g_u1_2 [.int .i64 u1], rowT 2 eI64 a7 x6.length cp8 x6] _) aa ww hS
  clear hS
  simp only [sh80f81_1] at hres
  refine JX.seq ?_
  refine JX.region ?_
  refine JL.val (yl_lss rfl rfl) rfl ?_
  refine JL.nil ?_
  refine JE.code ?_
  refine JX.seq ?_
  rcases cond_some hres with ⟨hb, hres⟩ | ⟨hb, hres⟩
  · refine JX.condT rfl hb ?_
    refine JX.skip ?_
    refine JE.code ?_
    refine JX.seq ?_
    refine JX.block ?_
    refine JX.seq ?_
    refine JX.region ?_
    refine JL.val (yl_move rfl) rfl ?_
    refine JL.val (yl_assign rfl) rfl ?_
    refine JL.nil ?_
    refine JE.code ?_
    refine JX.region ?_
    refine JL.val (yl_move rfl) rfl ?_
    refine JL.val (yl_move rfl) rfl ?_
    refine JL.eff (ef_buildSlice (E := 2) (k := eI64.k) (us := eI64.fl [x5]) rfl (fun w => bsl35_1 x5 w) rfl (by decide)) rfl ?_
    rintro _ _ ⟨a9, rfl, rfl⟩
    obtain ⟨x11, hx11, hres⟩ := bind_some hres
    refine JL.eff (ef_appendT (ix := 3) Go.Proofs.Try.underlying35 i2 i2z i2s rfl i2b0 i2b1 rfl rfl rfl rfl rfl (fun w hC => rd_row hC 4 rfl) hx11) rfl ?_
    rintro _ _ ⟨a12, cp13, rfl, rfl⟩
    refine JL.val (yl_assign rfl) rfl ?_
    refine JL.nil ?_
    refine JE.weak (env' := [(1, .slice a_1 q1.length c_1), (2, .func (.func 81) #[] #[ptrAt (some ⟨g_u0_0, 0, none⟩) 0, ptrAt (some ⟨g_u1_2, 0, none⟩) 0]), (7, .slice a12 x11.length cp13), (14, .int .i64 q0), (15, .int .i64 x5)]) (es' := [boxO 35 g_u0_0 [.slice a_u0 u0.length c_u0], rowT 2 eI64 a_u0 u0.length c_u0 u0, boxO 2 g_u1_2 [.int .i64 u1], rowT 2 eI64 a12 x11.length cp13 x11]) [0, 1, 2, 3] ?_ ⟨rfl, rfl, rfl, rfl, rfl, trivial⟩ (by decide) rfl
    refine JE.code ?_
    refine JX.region ?_
    refine JL.val (yl_add rfl rfl) rfl ?_
    refine JL.val (yl_move rfl) rfl ?_
    refine JL.nil ?_
    refine JE.cont hres ?_
    exact fun a w h => ⟨a12, cp13, h.weak ⟨rfl, rfl, rfl, rfl, rfl, trivial⟩ [0, 1, 2, 3] (by decide) rfl⟩
  · refine JX.condF rfl hb ?_
    refine JX.exit ?_
    refine JE.qb rfl ?_
    obtain ⟨b1, hb1⟩ : ∃ b : List Int, b = x6 := ⟨_, rfl⟩
    have hy1 : b1 = y1 := by rw [hb1]; exact hox1 _ (Option.some.inj hres).symm
    have hres := hresO1
    rw [← hy1] at hres
    refine JE.weak (env' := [(1, .slice a_1 q1.length c_1), (2, .func (.func 81) #[] #[ptrAt (some ⟨g_u0_0, 0, none⟩) 0, ptrAt (some ⟨g_u1_2, 0, none⟩) 0]), (7, .slice a7 b1.length cp8)]) (es' := [boxO 35 g_u0_0 [.slice a_u0 u0.length c_u0], rowT 2 eI64 a_u0 u0.length c_u0 u0, boxO 2 g_u1_2 [.int .i64 u1], rowT 2 eI64 a7 b1.length cp8 b1]) [0, 1, 2, 3] ?_ ⟨(by subst hb1; rfl), (by subst hb1; rfl), (by subst hb1; rfl), trivial⟩ (by decide) (by subst hb1; rfl)
    refine JE.code ?_
    refine JX.seq ?_
    refine JX.seq ?_
    refine JX.region ?_
    refine JL.val (yl_move rfl) rfl ?_
    refine JL.val (yl_len_slice Go.Proofs.Try.underlying35 rfl) rfl ?_
    refine JL.val (yl_move rfl) rfl ?_
    refine JL.nil ?_
    refine JE.code ?_
    refine JX.block ?_
    obtain ⟨y2, hy2, hresO2⟩ := bind_some hres
    refine JX.loop (I := fun (s2 : Int × List Int × Int × List Int) aa ww => ∃ (a16 : Option Addr) (cp17 : Nat) (l18 : s2.2.2.2.length = b1.length), St w M 64 [(2, .func (.func 81) #[] #[ptrAt (some ⟨g_u0_0, 0, none⟩) 0, ptrAt (some ⟨g_u1_2, 0, none⟩) 0]), (7, .slice a7 b1.length cp8), (23, .slice a_1 q1.length c_1), (24, .int .i64 (q1.length : Int)), (25, .int .i64 s2.1)] [boxO 35 g_u0_0 [.slice a16 s2.2.1.length cp17], rowT 2 eI64 a16 s2.2.1.length cp17 s2.2.1, boxO 2 g_u1_2 [.int .i64 s2.2.2.1], rowT 2 eI64 a7 b1.length cp8 s2.2.2.2] aa ww) (sh80f81_2 q1) hy2 (fun a w h => ⟨a_u0, c_u0, rfl, h.weak ⟨rfl, rfl, rfl, rfl, rfl, trivial⟩ [0, 1, 2, 3] (by decide) rfl⟩) ?_
    rintro ⟨x19, x20, x21, x22⟩ o2 hres hox2 aa ww ⟨a23, cp24, l25, hS⟩
    refine (?_ : JX Go.Proofs.Try.prog w M 64 _ _ [(2, .func (.func 81) #[] #[ptrAt (some ⟨g_u0_0, 0, none⟩) 0, ptrAt (some ⟨g_u1_2, 0, none⟩) 0]), (7, .slice a7 b1.length cp8), (23, .slice a_1 q1.length c_1), (24, .int .i64 (q1.length : Int)), (25, .int .i64 x19)] [boxO 35 g_u0_0 [.slice a23 x20.length cp24], rowT 2 eI64 a23 x20.length cp24 x20, boxO 2 g_u1_2 [.int .i64 x21], rowT 2 eI64 a7 b1.length cp8 x22] _) aa ww hS
    clear hS
    simp only [sh80f81_2] at hres
    refine JX.seq ?_
    refine JX.region ?_
    refine JL.val (yl_lss rfl rfl) rfl ?_
    refine JL.nil ?_
    refine JE.code ?_
    refine JX.seq ?_
    rcases cond_some hres with ⟨hb, hres⟩ | ⟨hb, hres⟩
    · refine JX.condT rfl hb ?_
      refine JX.skip ?_
      refine JE.code ?_
      refine JX.seq ?_
      refine JX.block ?_
      refine JX.seq ?_
      refine JX.region ?_
      obtain ⟨x26, hx26, hres⟩ := bind_some hres
      refine JL.val (yl_idxT Go.Proofs.Try.underlying35 i2 i2s rfl rfl hx26 rfl (fun w hC => rd_argS g_1 hC)) rfl ?_
      refine JL.val (yl_loadT0 Go.Proofs.Try.underlying2 rfl rfl hx26 (fun w hC => rd_argS g_1 hC) rfl) rfl ?_
      refine JL.val (yl_assign rfl) rfl ?_
      refine JL.nil ?_
      refine JE.code ?_
      refine JX.seq ?_
      refine JX.region ?_
      refine JL.val (yl_move rfl) rfl ?_
      obtain ⟨x27, hx27, hres⟩ := bind_some hres
      refine JL.eff (ef_call (T := T73 x27) Go.Proofs.Try.func73 rfl (by kernel_rfl) rfl (fun w hC => c73  hx27)) rfl ?_
      rintro _ _ ⟨_, ⟨rfl, rfl⟩, rfl⟩
      refine JL.val (yl_assign rfl) rfl ?_
      refine JL.nil ?_
      refine JE.code ?_
      refine JX.seq ?_
      refine JX.region ?_
      refine JL.val (yl_move rfl) rfl ?_
      refine JL.val (yl_move rfl) rfl ?_
      refine JL.val (yl_sub rfl rfl) rfl ?_
      obtain ⟨x28, hx28, hres⟩ := bind_some hres
      refine JL.val (yl_idxT Go.Proofs.Try.underlying35 i2 i2s rfl rfl hx28 l25 (fun w hC => rd_row hC 3 rfl)) rfl ?_
      refine JL.val (yl_loadT0 Go.Proofs.Try.underlying2 rfl rfl hx28 (fun w hC => rd_row hC 3 rfl) rfl) rfl ?_
      refine JL.val (yl_assign rfl) rfl ?_
      refine JL.nil ?_
      refine JE.weak (env' := [(2, .func (.func 81) #[] #[ptrAt (some ⟨g_u0_0, 0, none⟩) 0, ptrAt (some ⟨g_u1_2, 0, none⟩) 0]), (7, .slice a7 b1.length cp8), (10, .int .i64 x26), (11, .int .i64 x27), (12, .int .i64 x28), (23, .slice a_1 q1.length c_1), (24, .int .i64 (q1.length : Int)), (25, .int .i64 x19)]) (es' := [boxO 35 g_u0_0 [.slice a23 x20.length cp24], rowT 2 eI64 a23 x20.length cp24 x20, boxO 2 g_u1_2 [.int .i64 x21], rowT 2 eI64 a7 b1.length cp8 x22]) [0, 1, 2, 3] ?_ ⟨rfl, rfl, rfl, rfl, rfl, rfl, rfl, rfl, trivial⟩ (by decide) rfl
      refine JE.code ?_
      refine JX.seq ?_
      refine JX.seq ?_
      refine JX.region ?_
      refine JL.val (yl_move rfl) rfl ?_
      refine JL.val (yl_lss rfl rfl) rfl ?_
      refine JL.nil ?_
      refine JE.code ?_
      obtain ⟨j29, hj29, hresj29⟩ := bind_some hres
      refine JX.cut (K := fun J => J [(2, .func (.func 81) #[] #[ptrAt (some ⟨g_u0_0, 0, none⟩) 0, ptrAt (some ⟨g_u1_2, 0, none⟩) 0]), (7, .slice a7 b1.length cp8), (11, .int .i64 x27), (12, .int .i64 j29), (23, .slice a_1 q1.length c_1), (24, .int .i64 (q1.length : Int)), (25, .int .i64 x19)] [boxO 35 g_u0_0 [.slice a23 x20.length cp24], rowT 2 eI64 a23 x20.length cp24 x20, boxO 2 g_u1_2 [.int .i64 x21], rowT 2 eI64 a7 b1.length cp8 x22]) ?_ ?_
      · have hres := hresj29
        refine JE.code ?_
        refine JX.seq ?_
        refine JX.drawH [(0, .pure), (1, .pure), (2, .pure), (3, .pure), (4, .pure), (5, .pure), (6, .pure), (7, .pure), (8, .read0), (9, .pure), (10, .pure), (11, .pure), (12, .pure), (13, .read0), (14, .pure), (15, .must), (16, .pure), (17, .must)] [15, 17] [3] [0, 1, 2] [rowT 2 eI64 a7 b1.length cp8 x22] [boxO 35 g_u0_0 [.slice a23 x20.length cp24], rowT 2 eI64 a23 x20.length cp24 x20, boxO 2 g_u1_2 [.int .i64 x21]] mixedP (by kernel_rfl) (by kernel_rfl) (by decide) rfl rfl ?_
        intro wrr30 Nr30 hFr30
        refine JH.pure rfl (yl_move rfl) rfl ?_
        refine JH.pure rfl (yl_move rfl) rfl ?_
        refine JH.pure rfl (yl_sub rfl rfl) rfl ?_
        refine JH.pure rfl (yl_move rfl) rfl ?_
        refine JH.pure rfl (yl_move rfl) rfl ?_
        refine JH.pure rfl (yl_move rfl) rfl ?_
        refine JH.pure rfl (yl_move rfl) rfl ?_
        obtain ⟨x31, hx31, hres⟩ := bind_some hres
        refine JH.pure rfl (yl_idxQ Go.Proofs.Try.underlying35 i2 i2s rfl rfl hx31 l25 (rd_row hFr30.cl 3 rfl) l25) rfl ?_
        refine JH.read0 rfl (yl_loadT0 Go.Proofs.Try.underlying2 rfl rfl hx31 (fun w hw => (rd_row hFr30.cl 3 rfl).bw hw) rfl) rfl ?_
        refine JH.pure rfl (yl_move rfl) rfl ?_
        refine JH.pure rfl (yl_move rfl) rfl ?_
        refine JH.pure rfl (yl_sub rfl rfl) rfl ?_
        obtain ⟨x32, hx32, hres⟩ := bind_some hres
        refine JH.pure rfl (yl_idxQ Go.Proofs.Try.underlying35 i2 i2s rfl rfl hx32 l25 (rd_row hFr30.cl 3 rfl) l25) rfl ?_
        refine JH.read0 rfl (yl_loadT0 Go.Proofs.Try.underlying2 rfl rfl hx32 (fun w hw => (rd_row hFr30.cl 3 rfl).bw hw) rfl) rfl ?_
        obtain ⟨x33, hx33, hres⟩ := bind_some hres
        refine JH.pure rfl (yl_idxQ Go.Proofs.Try.underlying35 i2 i2s rfl rfl hx33 l25 (rd_row hFr30.cl 3 rfl) l25) rfl ?_
        refine JH.must rfl (ef_storeT (ix := 0) (u := x31) i2 i2s rfl rfl rfl hx33 rfl) rfl rfl ?_
        rintro _ _ rfl
        obtain ⟨x34, hx34, hres⟩ := bind_some hres
        refine JH.pure rfl (yl_idxQ Go.Proofs.Try.underlying35 i2 i2s rfl rfl hx34 (List.length_set.trans l25) (rd_row hFr30.cl 3 rfl) l25) rfl ?_
        refine JH.must rfl (ef_storeT (ix := 0) (u := x32) i2 i2s rfl rfl rfl hx34 rfl) rfl rfl ?_
        rintro _ _ rfl
        refine JH.nil ?_
        refine JE.weak (env' := [(2, .func (.func 81) #[] #[ptrAt (some ⟨g_u0_0, 0, none⟩) 0, ptrAt (some ⟨g_u1_2, 0, none⟩) 0]), (7, .slice a7 b1.length cp8), (12, .int .i64 j29), (23, .slice a_1 q1.length c_1), (24, .int .i64 (q1.length : Int)), (25, .int .i64 x19)]) (es' := [boxO 35 g_u0_0 [.slice a23 x20.length cp24], rowT 2 eI64 a23 x20.length cp24 x20, boxO 2 g_u1_2 [.int .i64 x21], rowT 2 eI64 a7 b1.length cp8 ((x22.set (w64 (x27 - 1)).toNat x31).set (x27).toNat x32)]) [0, 1, 2, 3] ?_ ⟨rfl, rfl, rfl, rfl, rfl, rfl, trivial⟩ (by decide) rfl
        refine JE.code ?_
        refine JX.region ?_
        refine JL.val (yl_move rfl) rfl ?_
        refine JL.val (yl_move rfl) rfl ?_
        refine JL.val (yl_move rfl) rfl ?_
        obtain ⟨x35, hx35, hres⟩ := bind_some hres
        refine JL.eff (ef_callms (caps := [ptrAt (some ⟨g_u0_0, 0, none⟩) 0, ptrAt (some ⟨g_u1_2, 0, none⟩) 0]) (vs := [.slice a7 b1.length cp8, .int .i64 j29]) (T := T81 g_u0_0 g_u1_2 x35) [0, 1, 2] [3] [boxO 35 g_u0_0 [.slice a23 x20.length cp24], rowT 2 eI64 a23 x20.length cp24 x20, boxO 2 g_u1_2 [.int .i64 x21]] [rowT 2 eI64 a7 b1.length cp8 ((x22.set (w64 (x27 - 1)).toNat x31).set (x27).toNat x32)] rfl Go.Proofs.Try.func81 rfl (by kernel_rfl) rfl (by decide) rfl rfl (fun w N hF hS => c81  (RdS.row hF 3 rfl rfl) (List.length_set.trans (List.length_set.trans l25)) (ln_row hF.cl 3 rfl) rfl hS hx35)) rfl ?_
        rintro _ _ ⟨_, _, ⟨a36, _, cp37, rfl, rfl, rfl, rfl⟩, rfl⟩
        refine JL.nil ?_
        refine JE.weak (env' := [(2, .func (.func 81) #[] #[ptrAt (some ⟨g_u0_0, 0, none⟩) 0, ptrAt (some ⟨g_u1_2, 0, none⟩) 0]), (7, .slice a7 b1.length cp8), (23, .slice a_1 q1.length c_1), (24, .int .i64 (q1.length : Int)), (25, .int .i64 x19)]) (es' := [boxO 35 g_u0_0 [.slice a36 x35.1.length cp37], rowT 2 eI64 a36 x35.1.length cp37 x35.1, boxO 2 g_u1_2 [.int .i64 x35.2], rowT 2 eI64 a7 b1.length cp8 ((x22.set (w64 (x27 - 1)).toNat x31).set (x27).toNat x32)]) [1, 2, 3, 0] ?_ ⟨rfl, rfl, rfl, rfl, rfl, trivial⟩ (by decide) rfl
        refine JE.code ?_
        refine JX.region ?_
        refine JL.val (yl_add rfl rfl) rfl ?_
        refine JL.val (yl_move rfl) rfl ?_
        refine JL.nil ?_
        refine JE.cont hres ?_
        exact fun a w h => ⟨a36, cp37, (List.length_set.trans (List.length_set.trans l25)), h.weak ⟨rfl, rfl, rfl, rfl, rfl, trivial⟩ [0, 1, 2, 3] (by decide) rfl⟩
      · intro K
        rcases cond_some hj29 with ⟨hb, hres⟩ | ⟨hb, hres⟩
        · refine JX.condT rfl hb ?_
          refine JX.region ?_
          refine JL.val (yl_move rfl) rfl ?_
          refine JL.val (yl_move rfl) rfl ?_
          obtain ⟨x38, hx38, hres⟩ := bind_some hres
          refine JL.val (yl_idxT Go.Proofs.Try.underlying35 i2 i2s rfl rfl hx38 l25 (fun w hC => rd_row hC 3 rfl)) rfl ?_
          refine JL.val (yl_loadT0 Go.Proofs.Try.underlying2 rfl rfl hx38 (fun w hC => rd_row hC 3 rfl) rfl) rfl ?_
          refine JL.val (yl_assign rfl) rfl ?_
          refine JL.nil ?_
          refine JE.weak (env' := [(2, .func (.func 81) #[] #[ptrAt (some ⟨g_u0_0, 0, none⟩) 0, ptrAt (some ⟨g_u1_2, 0, none⟩) 0]), (7, .slice a7 b1.length cp8), (11, .int .i64 x27), (12, .int .i64 x38), (23, .slice a_1 q1.length c_1), (24, .int .i64 (q1.length : Int)), (25, .int .i64 x19)]) (es' := [boxO 35 g_u0_0 [.slice a23 x20.length cp24], rowT 2 eI64 a23 x20.length cp24 x20, boxO 2 g_u1_2 [.int .i64 x21], rowT 2 eI64 a7 b1.length cp8 x22]) [0, 1, 2, 3] ?_ ⟨rfl, rfl, rfl, rfl, rfl, rfl, rfl, trivial⟩ (by decide) rfl
          have hj := Option.some.inj hres
          exact JE.weak [0, 1, 2, 3] (K) ⟨(by subst hj; rfl), (by subst hj; rfl), (by subst hj; rfl), (by subst hj; rfl), (by subst hj; rfl), (by subst hj; rfl), (by subst hj; rfl), trivial⟩ (by decide) (by subst hj; rfl)
        · refine JX.condF rfl hb ?_
          refine JX.skip ?_
          have hj := Option.some.inj hres
          exact JE.weak [0, 1, 2, 3] (K) ⟨(by subst hj; rfl), (by subst hj; rfl), (by subst hj; rfl), (by subst hj; rfl), (by subst hj; rfl), (by subst hj; rfl), (by subst hj; rfl), trivial⟩ (by decide) (by subst hj; rfl)
    · refine JX.condF rfl hb ?_
      refine JX.exit ?_
      refine JE.qb rfl ?_
      obtain ⟨b2, hb2⟩ : ∃ b : List Int × Int × List Int, b = (x20, x21, x22) := ⟨_, rfl⟩
      have hy2 : b2 = y2 := by rw [hb2]; exact hox2 _ (Option.some.inj hres).symm
      have hres := hresO2
      rw [← hy2] at hres
      have l41 : b2.2.2.length = b1.length := by subst hb2; exact l25
      refine JE.weak (env' := [(7, .slice a7 b1.length cp8)]) (es' := [boxO 35 g_u0_0 [.slice a23 b2.1.length cp24], rowT 2 eI64 a23 b2.1.length cp24 b2.1, boxO 2 g_u1_2 [.int .i64 b2.2.1], rowT 2 eI64 a7 b1.length cp8 b2.2.2]) [0, 1, 2, 3] ?_ ⟨(by subst hb2; rfl), trivial⟩ (by decide) (by subst hb2; rfl)
      refine JE.code ?_
      refine JX.seq ?_
      refine JX.region ?_
      refine JL.val (yl_move rfl) rfl ?_
      refine JL.val (yl_assign rfl) rfl ?_
      refine JL.nil ?_
      refine JE.code ?_
      refine JX.ret ?_
      obtain rfl := Option.some.inj hres
      refine JE.ret (rs := [.tmp 6]) (vs := [.slice a7 b1.length cp8]) rfl ⟨rfl, trivial⟩ ?_
      exact fun w' hb hs => ⟨_, _, _, ⟨a23, b2.1.length, cp24, rfl, rfl, a7, b1.length, cp8, l41, rfl, rfl⟩, rfl, hb, hs.sel [0, 1, 2, 3] _ (by decide) rfl⟩

/- impl.PathOfStrand -/
def sh34 (q0 : Int) (q1 : List Int) (q2 : Int) : Option (List Int × Int) := Option.bind (sh72 q0 q1) fun x3 => bif !x3 then (some (([] : List Int), 1)) else (Option.bind (sh79 q2 0 (w64 (q0 - 1))) fun x5 => bif !x5 then (some (([] : List Int), 2)) else (Option.bind (sh80f81 q0 q1 [q2] q2) fun x11 => some (x11.2.1, 0)))
def T34 (r : List Int × Int) (v : Value) (rs : List Own) : Prop := ∃ (a0 : Option Addr) (n0 c0 : Nat), r.1.length = n0 ∧ v = rets [.slice a0 n0 c0, .int .i64 r.2] ∧ rs = [rowT 2 eI64 a0 n0 c0 r.1]
set_option maxRecDepth 100000 in
theorem c34 {w : World} {q0 : Int} {q1 : List Int} {a_1 : Option Addr} {n_1 c_1 : Nat} (g_1 : Rd w a_1 (eI64.fl q1)) (l_1 : q1.length = n_1) (k_1 : n_1 ≤ c_1) {q2 : Int} {r : List Int × Int} (hres : sh34 q0 q1 q2 = some r) : Calls Go.Proofs.Try.prog 34 [.int .i64 q0, .slice a_1 n_1 c_1, .int .i64 q2].toArray w (Ret w (T34 r)) := by
  subst l_1
  unfold sh34 at hres
  refine calls_of (n := 25) (M := []) (es := []) Go.Proofs.Try.func34 rfl rfl rfl (Sep.nil _ _ _) ?_
  refine JX.seq ?_
  refine JX.region ?_
  refine JL.eff (ef_box rfl rfl) rfl ?_
  rintro _ _ ⟨g1, rfl, rfl⟩
  refine JL.val (yl_assign rfl) rfl ?_
  refine JL.val (yl_assign rfl) rfl ?_
  refine JL.nil ?_
  refine JE.code ?_
  refine JX.seq ?_
  refine JX.seq ?_
  refine JX.region ?_
  refine JL.val (yl_move rfl) rfl ?_
  refine JL.val (yl_move rfl) rfl ?_
  obtain ⟨x3, hx3, hres⟩ := bind_some hres
  refine JL.eff (ef_call (T := T72 x3) Go.Proofs.Try.func72 rfl (by kernel_rfl) rfl (fun w hC => c72 (rd_arg g_1 hC) rfl k_1 hx3)) rfl ?_
  rintro _ _ ⟨_, ⟨rfl, rfl⟩, rfl⟩
  refine JL.val (yl_not rfl) rfl ?_
  refine JL.nil ?_
  refine JE.weak (env' := [(0, .int .i64 q0), (1, .slice a_1 q1.length c_1), (5, ptrAt (some ⟨g1, 0, none⟩) 0), (12, .bool !x3)]) (es' := [boxO 2 g1 [.int .i64 q2]]) [0] ?_ ⟨rfl, rfl, rfl, rfl, trivial⟩ (by decide) rfl
  refine JE.code ?_
  rcases cond_some hres with ⟨hb, hres⟩ | ⟨hb, hres⟩
  · refine JX.condT rfl hb ?_
    refine JX.seq ?_
    refine JX.region ?_
    refine JL.val (yl_assign rfl) rfl ?_
    refine JL.val (yl_assign rfl) rfl ?_
    refine JL.nil ?_
    refine JE.weak (env' := [(6, .slice none 0 0), (7, .int .i64 1)]) (es' := []) [] ?_ ⟨rfl, rfl, trivial⟩ (by decide) rfl
    refine JE.code ?_
    refine JX.ret ?_
    refine JE.nilrow 2 eI64 ?_
    obtain rfl := Option.some.inj hres
    refine JE.ret (rs := [.tmp 6, .tmp 7]) (vs := [.slice none 0 0, .int .i64 1]) rfl ⟨rfl, rfl, trivial⟩ ?_
    exact fun w' hb hs => ⟨_, _, ⟨none, 0, 0, rfl, rfl, rfl⟩, rfl, hb, hs.sel [0] _ (by decide) rfl⟩
  · refine JX.condF rfl hb ?_
    refine JX.skip ?_
    refine JE.code ?_
    refine JX.seq ?_
    refine JX.seq ?_
    refine JX.region ?_
    refine JL.val (yl_load1 Go.Proofs.Try.underlying2 rfl rfl (fun w hC => rd_box hC 0 rfl) rfl) rfl ?_
    refine JL.val (yl_move rfl) rfl ?_
    refine JL.val (yl_sub rfl rfl) rfl ?_
    obtain ⟨x5, hx5, hres⟩ := bind_some hres
    refine JL.eff (ef_call (T := T79 x5) Go.Proofs.Try.func79 rfl (by kernel_rfl) rfl (fun w hC => c79  hx5)) rfl ?_
    rintro _ _ ⟨_, ⟨rfl, rfl⟩, rfl⟩
    refine JL.val (yl_not rfl) rfl ?_
    refine JL.nil ?_
    refine JE.weak (env' := [(0, .int .i64 q0), (1, .slice a_1 q1.length c_1), (5, ptrAt (some ⟨g1, 0, none⟩) 0), (17, .bool !x5)]) (es' := [boxO 2 g1 [.int .i64 q2]]) [0] ?_ ⟨rfl, rfl, rfl, rfl, trivial⟩ (by decide) rfl
    refine JE.code ?_
    rcases cond_some hres with ⟨hb, hres⟩ | ⟨hb, hres⟩
    · refine JX.condT rfl hb ?_
      refine JX.seq ?_
      refine JX.region ?_
      refine JL.val (yl_assign rfl) rfl ?_
      refine JL.val (yl_assign rfl) rfl ?_
      refine JL.nil ?_
      refine JE.weak (env' := [(6, .slice none 0 0), (7, .int .i64 2)]) (es' := []) [] ?_ ⟨rfl, rfl, trivial⟩ (by decide) rfl
      refine JE.code ?_
      refine JX.ret ?_
      refine JE.nilrow 2 eI64 ?_
      obtain rfl := Option.some.inj hres
      refine JE.ret (rs := [.tmp 6, .tmp 7]) (vs := [.slice none 0 0, .int .i64 2]) rfl ⟨rfl, rfl, trivial⟩ ?_
      exact fun w' hb hs => ⟨_, _, ⟨none, 0, 0, rfl, rfl, rfl⟩, rfl, hb, hs.sel [0] _ (by decide) rfl⟩
    · refine JX.condF rfl hb ?_
      refine JX.skip ?_
      refine JE.code ?_
      refine JX.seq ?_
      refine JX.region ?_
      refine JL.val (yl_load1 Go.Proofs.Try.underlying2 rfl rfl (fun w hC => rd_box hC 0 rfl) rfl) rfl ?_
      refine JL.eff (ef_buildSlice (E := 2) (k := eI64.k) (us := eI64.fl [q2]) rfl (fun w => bsl35_1 q2 w) rfl (by decide)) rfl ?_
      rintro _ _ ⟨a7, rfl, rfl⟩
      refine JL.eff (ef_alloc i35 i35z rfl) rfl ?_
      rintro _ _ ⟨g9, rfl, rfl⟩
      refine JL.eff (ef_store_box (i := 2) (v := .slice a7 1 1) i35 rfl rfl rfl (i35s).symm (Nat.le_of_ble_eq_true rfl) (by simp [Value.cells, Value.oneCell'])) rfl ?_
      rintro _ _ rfl
      refine JL.nil ?_
      refine JE.weak (env' := [(0, .int .i64 q0), (1, .slice a_1 q1.length c_1), (5, ptrAt (some ⟨g1, 0, none⟩) 0), (8, ptrAt (some ⟨g9, 0, none⟩) 0)]) (es' := [boxO 2 g1 [.int .i64 q2], boxO 35 g9 [.slice a7 1 1], rowT 2 eI64 a7 1 1 [q2]]) [0, 2, 1] ?_ ⟨rfl, rfl, rfl, rfl, trivial⟩ (by decide) rfl
      refine JE.code ?_
      refine JX.seq ?_
      refine JX.region ?_
      refine JL.val (yl_move rfl) rfl ?_
      refine JL.val (yl_move rfl) rfl ?_
      refine JL.val (yl_func rfl) rfl ?_
      obtain ⟨x11, hx11, hres⟩ := bind_some hres
      refine JL.eff (ef_callms (caps := []) (vs := [.int .i64 q0, .slice a_1 q1.length c_1, .func (.func 81) #[] #[ptrAt (some ⟨g9, 0, none⟩) 0, ptrAt (some ⟨g1, 0, none⟩) 0]]) (T := T80f81 g9 g1 x11) [1, 2, 0] [] [boxO 35 g9 [.slice a7 1 1], rowT 2 eI64 a7 1 1 [q2], boxO 2 g1 [.int .i64 q2]] [] rfl Go.Proofs.Try.func80 rfl (by kernel_rfl) rfl (by decide) rfl rfl (fun w N hF hS => c80f81  (RdS.pass0 hF g_1) rfl k_1 rfl hS hx11)) rfl ?_
      rintro _ _ ⟨_, _, ⟨a12, _, cp13, rfl, rfl, a14, _, cp15, rfl, rfl, rfl⟩, rfl⟩
      refine JL.nil ?_
      refine JE.weak (env' := [(8, ptrAt (some ⟨g9, 0, none⟩) 0)]) (es' := [boxO 35 g9 [.slice a12 x11.2.1.length cp13], rowT 2 eI64 a12 x11.2.1.length cp13 x11.2.1]) [0, 1] ?_ ⟨rfl, trivial⟩ (by decide) rfl
      refine JE.code ?_
      refine JX.seq ?_
      refine JX.region ?_
      refine JL.val (yl_load1 Go.Proofs.Try.underlying35 rfl rfl (fun w hC => rd_box hC 0 rfl) rfl) rfl ?_
      refine JL.val (yl_assign rfl) rfl ?_
      refine JL.val (yl_assign rfl) rfl ?_
      refine JL.nil ?_
      refine JE.weak (env' := [(6, .slice a12 x11.2.1.length cp13), (7, .int .i64 0)]) (es' := [rowT 2 eI64 a12 x11.2.1.length cp13 x11.2.1]) [1] ?_ ⟨rfl, rfl, trivial⟩ (by decide) rfl
      refine JE.code ?_
      refine JX.ret ?_
      obtain rfl := Option.some.inj hres
      refine JE.ret (rs := [.tmp 6, .tmp 7]) (vs := [.slice a12 x11.2.1.length cp13, .int .i64 0]) rfl ⟨rfl, rfl, trivial⟩ ?_
      exact fun w' hb hs => ⟨_, _, ⟨a12, x11.2.1.length, cp13, rfl, rfl, rfl⟩, rfl, hb, hs.sel [0] _ (by decide) rfl⟩

/- laws.heldInt64S -/
def sh35_1 (q0 : List Int) : (Int × Int) → Option ((Int × Int) ⊕ (Int ⊕ Int))
  | (x1, x2) => bif decide (x2 < (q0.length : Int)) then (Option.bind (getI q0 x2) fun x3 => bif x3 != x1 then (some (.inr (.inr (-1)))) else (some (.inl (w64 (x1 + 1), w64 (x2 + 1))))) else (some (.inr (.inl x1)))
def sh35 (q0 : List Int) (q1 : Int) : Option (Int) := Option.bind (iter (sh35_1 q0) (q1, 0)) fun y1 => elimS y1 (fun r => some r) fun b1 => (some b1)
def T35 (r : Int) (v : Value) (rs : List Own) : Prop := v = rets [.int .i64 r] ∧ rs = []
set_option maxRecDepth 100000 in
theorem c35 {w : World} {q0 : List Int} {a_0 : Option Addr} {n_0 c_0 : Nat} (g_0 : Rd w a_0 (eI64.fl q0)) (l_0 : q0.length = n_0) (k_0 : n_0 ≤ c_0) {q1 : Int} {r : Int} (hres : sh35 q0 q1 = some r) : Calls Go.Proofs.Try.prog 35 [.slice a_0 n_0 c_0, .int .i64 q1].toArray w (Ret w (T35 r)) := by
  subst l_0
  unfold sh35 at hres
  refine calls_of (n := 21) (M := []) (es := []) Go.Proofs.Try.func35 rfl rfl rfl (Sep.nil _ _ _) ?_
  refine JX.seq ?_
  refine JX.region ?_
  refine JL.val (yl_assign rfl) rfl ?_
  refine JL.nil ?_
  refine JE.code ?_
  refine JX.seq ?_
  refine JX.seq ?_
  refine JX.region ?_
  refine JL.val (yl_assign rfl) rfl ?_
  refine JL.nil ?_
  refine JE.code ?_
  refine JX.block ?_
  obtain ⟨y1, hy1, hresO1⟩ := bind_some hres
  refine JX.loop (I := fun (s1 : Int × Int) aa ww => St w [] 21 [(0, .slice a_0 q0.length c_0), (1, .int .i64 s1.1), (5, .int .i64 s1.2)] [] aa ww) (sh35_1 q0) hy1 (fun a w h => h.weak ⟨rfl, rfl, rfl, trivial⟩ [] (by decide) rfl) ?_
  rintro ⟨x1, x2⟩ o1 hres hox1 aa ww hS
  refine (?_ : JX Go.Proofs.Try.prog w [] 21 _ _ [(0, .slice a_0 q0.length c_0), (1, .int .i64 x1), (5, .int .i64 x2)] [] _) aa ww hS
  clear hS
  simp only [sh35_1] at hres
  refine JX.seq ?_
  refine JX.seq ?_
  refine JX.region ?_
  refine JL.val (yl_move rfl) rfl ?_
  refine JL.val (yl_move rfl) rfl ?_
  refine JL.val (yl_len_slice Go.Proofs.Try.underlying35 rfl) rfl ?_
  refine JL.val (yl_lss rfl rfl) rfl ?_
  refine JL.nil ?_
  refine JE.weak (env' := [(0, .slice a_0 q0.length c_0), (1, .int .i64 x1), (5, .int .i64 x2), (9, .bool (decide (x2 < (q0.length : Int))))]) (es' := []) [] ?_ ⟨rfl, rfl, rfl, rfl, trivial⟩ (by decide) rfl
  refine JE.code ?_
  rcases cond_some hres with ⟨hb, hres⟩ | ⟨hb, hres⟩
  · refine JX.condT rfl hb ?_
    refine JX.skip ?_
    refine JE.code ?_
    refine JX.seq ?_
    refine JX.block ?_
    refine JX.seq ?_
    refine JX.seq ?_
    refine JX.region ?_
    refine JL.val (yl_move rfl) rfl ?_
    refine JL.val (yl_move rfl) rfl ?_
    obtain ⟨x3, hx3, hres⟩ := bind_some hres
    refine JL.val (yl_idxT Go.Proofs.Try.underlying35 i2 i2s rfl rfl hx3 rfl (fun w hC => rd_arg g_0 hC)) rfl ?_
    refine JL.val (yl_loadT0 Go.Proofs.Try.underlying2 rfl rfl hx3 (fun w hC => rd_arg g_0 hC) rfl) rfl ?_
    refine JL.val (yl_move rfl) rfl ?_
    refine JL.val (yl_neq rfl rfl) rfl ?_
    refine JL.nil ?_
    refine JE.weak (env' := [(0, .slice a_0 q0.length c_0), (1, .int .i64 x1), (5, .int .i64 x2), (17, .bool (x3 != x1))]) (es' := []) [] ?_ ⟨rfl, rfl, rfl, rfl, trivial⟩ (by decide) rfl
    refine JE.code ?_
    rcases cond_some hres with ⟨hb, hres⟩ | ⟨hb, hres⟩
    · refine JX.condT rfl hb ?_
      refine JX.seq ?_
      refine JX.region ?_
      refine JL.val (yl_assign rfl) rfl ?_
      refine JL.nil ?_
      refine JE.code ?_
      refine JX.ret ?_
      refine JE.qbr ?_
      refine JE.qbr ?_
      have hres := elimS_inr hresO1 (hox1 _ (Option.some.inj hres).symm)
      obtain rfl := Option.some.inj hres
      refine JE.ret (rs := [.tmp 4]) (vs := [.int .i64 (-1)]) rfl ⟨rfl, trivial⟩ ?_
      exact fun w' hb hs => ⟨_, _, ⟨rfl, rfl⟩, rfl, hb, hs.sel [] _ (by decide) rfl⟩
    · refine JX.condF rfl hb ?_
      refine JX.skip ?_
      refine JE.code ?_
      refine JX.region ?_
      refine JL.val (yl_move rfl) rfl ?_
      refine JL.val (yl_add rfl rfl) rfl ?_
      refine JL.val (yl_assign rfl) rfl ?_
      refine JL.nil ?_
      refine JE.code ?_
      refine JX.region ?_
      refine JL.val (yl_move rfl) rfl ?_
      refine JL.val (yl_add rfl rfl) rfl ?_
      refine JL.val (yl_assign rfl) rfl ?_
      refine JL.nil ?_
      refine JE.cont hres ?_
      exact fun a w h => h.weak ⟨rfl, rfl, rfl, trivial⟩ [] (by decide) rfl
  · refine JX.condF rfl hb ?_
    refine JX.exit ?_
    refine JE.qb rfl ?_
    obtain ⟨b1, hb1⟩ : ∃ b : Int, b = x1 := ⟨_, rfl⟩
    have hy1 : Sum.inl b1 = y1 := by rw [hb1]; exact hox1 _ (Option.some.inj hres).symm
    have hres := elimS_inl hresO1 hy1
    refine JE.weak (env' := [(1, .int .i64 b1)]) (es' := []) [] ?_ ⟨(by subst hb1; rfl), trivial⟩ (by decide) (by subst hb1; rfl)
    refine JE.code ?_
    refine JX.seq ?_
    refine JX.region ?_
    refine JL.val (yl_move rfl) rfl ?_
    refine JL.val (yl_assign rfl) rfl ?_
    refine JL.nil ?_
    refine JE.code ?_
    refine JX.ret ?_
    obtain rfl := Option.some.inj hres
    refine JE.ret (rs := [.tmp 4]) (vs := [.int .i64 b1]) rfl ⟨rfl, trivial⟩ ?_
    exact fun w' hb hs => ⟨_, _, ⟨rfl, rfl⟩, rfl, hb, hs.sel [] _ (by decide) rfl⟩

/- laws.FnExactPathOfStrand -/
def sh6 (q0 : Int) (q1 : List Int) (q2 : Int) : Option (Bool) := bif decide (1048576 < (q1.length : Int)) then (some true) else (Option.bind (sh24 q1) fun x1 => Option.bind (sh33 q0 x1 q2) fun x5 => Option.bind (sh24 q1) fun x9 => Option.bind (sh34 q0 x9 q2) fun x13 => Option.bind (sh27 x13.1 x5.1) fun x17 => bif !x17 || (x13.2 != x5.2) then (some false) else (Option.bind (sh24 q1) fun x18 => Option.bind (sh27 x9 x18) fun x22 => bif !x22 then (some false) else (Option.bind (sh28 x9 1) fun x23 => Option.bind (bif decide (x23.1 < 0) then (some true) else (Option.bind (sh27 x13.1 x5.1) fun x26 => some !x26)) fun c25 => (bif c25 || (x13.2 != x5.2) then (some false) else (Option.bind (sh28 x13.1 1) fun x27 => Option.bind (sh35 x27.2 1) fun x29 => bif decide (x29 < 0) then (some false) else (bif x29 != x27.1 then (some false) else (Option.bind (sh24 q1) fun x30 => Option.bind (sh34 q0 x30 q2) fun x34 => Option.bind (sh27 x34.1 x5.1) fun x38 => bif !x38 || (x34.2 != x5.2) then (some false) else (Option.bind (sh35 x27.2 1) fun x39 => bif decide (x39 < 0) then (some false) else (bif x39 != x27.1 then (some false) else (some true))))))))))
def T6 (r : Bool) (v : Value) (rs : List Own) : Prop := v = rets [.bool r] ∧ rs = []
set_option maxRecDepth 100000 in
set_option maxHeartbeats 1000000 in
theorem c6 {w : World} {q0 : Int} {q1 : List Int} {a_1 : Option Addr} {n_1 c_1 : Nat} (g_1 : Rd w a_1 (eI64.fl q1)) (l_1 : q1.length = n_1) (k_1 : n_1 ≤ c_1) {q2 : Int} {r : Bool} (hres : sh6 q0 q1 q2 = some r) : Calls Go.Proofs.Try.prog 6 [.int .i64 q0, .slice a_1 n_1 c_1, .int .i64 q2].toArray w (Ret w (T6 r)) := by
  subst l_1
  unfold sh6 at hres
  refine calls_of (n := 103) (M := []) (es := []) Go.Proofs.Try.func6 rfl rfl rfl (Sep.nil _ _ _) ?_
  refine JX.seq ?_
  refine JX.region ?_
  refine JL.val (yl_assign rfl) rfl ?_
  refine JL.nil ?_
  refine JE.code ?_
  refine JX.seq ?_
  refine JX.seq ?_
  refine JX.region ?_
  refine JL.val (yl_move rfl) rfl ?_
  refine JL.val (yl_len_slice Go.Proofs.Try.underlying35 rfl) rfl ?_
  refine JL.val (yl_gtr rfl rfl) rfl ?_
  refine JL.nil ?_
  refine JE.code ?_
  rcases cond_some hres with ⟨hb, hres⟩ | ⟨hb, hres⟩
  · refine JX.condT rfl hb ?_
    refine JX.seq ?_
    refine JX.region ?_
    refine JL.val (yl_assign rfl) rfl ?_
    refine JL.nil ?_
    refine JE.code ?_
    refine JX.ret ?_
    obtain rfl := Option.some.inj hres
    refine JE.ret (rs := [.tmp 6]) (vs := [.bool true]) rfl ⟨rfl, trivial⟩ ?_
    exact fun w' hb hs => ⟨_, _, ⟨rfl, rfl⟩, rfl, hb, hs.sel [] _ (by decide) rfl⟩
  · refine JX.condF rfl hb ?_
    refine JX.skip ?_
    refine JE.code ?_
    refine JX.seq ?_
    refine JX.region ?_
    refine JL.val (yl_move rfl) rfl ?_
    refine JL.val (yl_move rfl) rfl ?_
    obtain ⟨x1, hx1, hres⟩ := bind_some hres
    refine JL.eff (ef_call (T := T24 x1) Go.Proofs.Try.func24 rfl (by kernel_rfl) rfl (fun w hC => c24 (rd_arg g_1 hC) rfl k_1 hx1)) rfl ?_
    rintro _ _ ⟨_, ⟨a2, _, cp3, rfl, rfl, rfl⟩, rfl⟩
    refine JL.val (yl_move rfl) rfl ?_
    obtain ⟨x5, hx5, hres⟩ := bind_some hres
    refine JL.eff (ef_call (T := T33 x5) Go.Proofs.Try.func33 rfl (by kernel_rfl) rfl (fun w hC => c33 (rd_row hC 0 rfl) rfl (ln_row hC 0 rfl) hx5)) rfl ?_
    rintro _ _ ⟨_, ⟨a6, _, cp7, rfl, rfl, rfl⟩, rfl⟩
    refine JL.val (yl_move rfl) rfl ?_
    refine JL.val (yl_extract rfl rfl) rfl ?_
    refine JL.val (yl_extract rfl rfl) rfl ?_
    refine JL.val (yl_assign rfl) rfl ?_
    refine JL.val (yl_assign rfl) rfl ?_
    refine JL.nil ?_
    refine JE.weak (env' := [(0, .int .i64 q0), (1, .slice a_1 q1.length c_1), (2, .int .i64 q2), (7, .slice a6 x5.1.length cp7), (8, .int .i64 x5.2)]) (es' := [rowT 2 eI64 a6 x5.1.length cp7 x5.1]) [1] ?_ ⟨rfl, rfl, rfl, rfl, rfl, trivial⟩ (by decide) rfl
    refine JE.code ?_
    refine JX.seq ?_
    refine JX.region ?_
    refine JL.val (yl_move rfl) rfl ?_
    obtain ⟨x9, hx9, hres⟩ := bind_some hres
    refine JL.eff (ef_call (T := T24 x9) Go.Proofs.Try.func24 rfl (by kernel_rfl) rfl (fun w hC => c24 (rd_arg g_1 hC) rfl k_1 hx9)) rfl ?_
    rintro _ _ ⟨_, ⟨a10, _, cp11, rfl, rfl, rfl⟩, rfl⟩
    refine JL.val (yl_assign rfl) rfl ?_
    refine JL.nil ?_
    refine JE.code ?_
    refine JX.seq ?_
    refine JX.region ?_
    refine JL.val (yl_move rfl) rfl ?_
    refine JL.val (yl_move rfl) rfl ?_
    refine JL.val (yl_move rfl) rfl ?_
    obtain ⟨x13, hx13, hres⟩ := bind_some hres
    refine JL.eff (ef_call (T := T34 x13) Go.Proofs.Try.func34 rfl (by kernel_rfl) rfl (fun w hC => c34 (rd_row hC 1 rfl) rfl (ln_row hC 1 rfl) hx13)) rfl ?_
    rintro _ _ ⟨_, ⟨a14, _, cp15, rfl, rfl, rfl⟩, rfl⟩
    refine JL.val (yl_move rfl) rfl ?_
    refine JL.val (yl_extract rfl rfl) rfl ?_
    refine JL.val (yl_extract rfl rfl) rfl ?_
    refine JL.val (yl_assign rfl) rfl ?_
    refine JL.val (yl_assign rfl) rfl ?_
    refine JL.nil ?_
    refine JE.weak (env' := [(0, .int .i64 q0), (1, .slice a_1 q1.length c_1), (2, .int .i64 q2), (7, .slice a6 x5.1.length cp7), (8, .int .i64 x5.2), (9, .slice a10 x9.length cp11), (10, .slice a14 x13.1.length cp15), (11, .int .i64 x13.2)]) (es' := [rowT 2 eI64 a6 x5.1.length cp7 x5.1, rowT 2 eI64 a10 x9.length cp11 x9, rowT 2 eI64 a14 x13.1.length cp15 x13.1]) [0, 1, 2] ?_ ⟨rfl, rfl, rfl, rfl, rfl, rfl, rfl, rfl, trivial⟩ (by decide) rfl
    refine JE.code ?_
    refine JX.seq ?_
    refine JX.seq ?_
    refine JX.region ?_
    refine JL.val (yl_move rfl) rfl ?_
    refine JL.val (yl_move rfl) rfl ?_
    obtain ⟨x17, hx17, hres⟩ := bind_some hres
    refine JL.eff (ef_call (T := T27 x17) Go.Proofs.Try.func27 rfl (by kernel_rfl) rfl (fun w hC => c27 (rd_row hC 2 rfl) rfl (ln_row hC 2 rfl) (rd_row hC 0 rfl) rfl (ln_row hC 0 rfl) hx17)) rfl ?_
    rintro _ _ ⟨_, ⟨rfl, rfl⟩, rfl⟩
    refine JL.val (yl_not rfl) rfl ?_
    refine JL.val (yl_move rfl) rfl ?_
    refine JL.cut (K := fun J => J [(0, .int .i64 q0), (1, .slice a_1 q1.length c_1), (2, .int .i64 q2), (7, .slice a6 x5.1.length cp7), (8, .int .i64 x5.2), (9, .slice a10 x9.length cp11), (10, .slice a14 x13.1.length cp15), (11, .int .i64 x13.2), (45, .bool (!x17 || (x13.2 != x5.2)))] [rowT 2 eI64 a6 x5.1.length cp7 x5.1, rowT 2 eI64 a10 x9.length cp11 x9, rowT 2 eI64 a14 x13.1.length cp15 x13.1]) 4 ?_ ?_
    · refine JL.nil ?_
      refine JE.weak (env' := [(0, .int .i64 q0), (1, .slice a_1 q1.length c_1), (2, .int .i64 q2), (7, .slice a6 x5.1.length cp7), (8, .int .i64 x5.2), (9, .slice a10 x9.length cp11), (10, .slice a14 x13.1.length cp15), (11, .int .i64 x13.2), (45, .bool (!x17 || (x13.2 != x5.2)))]) (es' := [rowT 2 eI64 a6 x5.1.length cp7 x5.1, rowT 2 eI64 a10 x9.length cp11 x9, rowT 2 eI64 a14 x13.1.length cp15 x13.1]) [0, 1, 2] ?_ ⟨rfl, rfl, rfl, rfl, rfl, rfl, rfl, rfl, rfl, trivial⟩ (by decide) rfl
      refine JE.code ?_
      rcases cond_some hres with ⟨hb, hres⟩ | ⟨hb, hres⟩
      · refine JX.condT rfl hb ?_
        refine JX.seq ?_
        refine JX.region ?_
        refine JL.val (yl_assign rfl) rfl ?_
        refine JL.nil ?_
        refine JE.weak (env' := [(6, .bool false)]) (es' := []) [] ?_ ⟨rfl, trivial⟩ (by decide) rfl
        refine JE.code ?_
        refine JX.ret ?_
        obtain rfl := Option.some.inj hres
        refine JE.ret (rs := [.tmp 6]) (vs := [.bool false]) rfl ⟨rfl, trivial⟩ ?_
        exact fun w' hb hs => ⟨_, _, ⟨rfl, rfl⟩, rfl, hb, hs.sel [] _ (by decide) rfl⟩
      · refine JX.condF rfl hb ?_
        refine JX.skip ?_
        refine JE.code ?_
        refine JX.seq ?_
        refine JX.seq ?_
        refine JX.region ?_
        refine JL.val (yl_move rfl) rfl ?_
        refine JL.val (yl_move rfl) rfl ?_
        obtain ⟨x18, hx18, hres⟩ := bind_some hres
        refine JL.eff (ef_call (T := T24 x18) Go.Proofs.Try.func24 rfl (by kernel_rfl) rfl (fun w hC => c24 (rd_arg g_1 hC) rfl k_1 hx18)) rfl ?_
        rintro _ _ ⟨_, ⟨a19, _, cp20, rfl, rfl, rfl⟩, rfl⟩
        obtain ⟨x22, hx22, hres⟩ := bind_some hres
        refine JL.eff (ef_call (T := T27 x22) Go.Proofs.Try.func27 rfl (by kernel_rfl) rfl (fun w hC => c27 (rd_row hC 1 rfl) rfl (ln_row hC 1 rfl) (rd_row hC 3 rfl) rfl (ln_row hC 3 rfl) hx22)) rfl ?_
        rintro _ _ ⟨_, ⟨rfl, rfl⟩, rfl⟩
        refine JL.val (yl_not rfl) rfl ?_
        refine JL.nil ?_
        refine JE.weak (env' := [(0, .int .i64 q0), (1, .slice a_1 q1.length c_1), (2, .int .i64 q2), (7, .slice a6 x5.1.length cp7), (8, .int .i64 x5.2), (9, .slice a10 x9.length cp11), (10, .slice a14 x13.1.length cp15), (11, .int .i64 x13.2), (50, .bool !x22)]) (es' := [rowT 2 eI64 a6 x5.1.length cp7 x5.1, rowT 2 eI64 a10 x9.length cp11 x9, rowT 2 eI64 a14 x13.1.length cp15 x13.1]) [0, 1, 2] ?_ ⟨rfl, rfl, rfl, rfl, rfl, rfl, rfl, rfl, rfl, trivial⟩ (by decide) rfl
        refine JE.code ?_
        rcases cond_some hres with ⟨hb, hres⟩ | ⟨hb, hres⟩
        · refine JX.condT rfl hb ?_
          refine JX.seq ?_
          refine JX.region ?_
          refine JL.val (yl_assign rfl) rfl ?_
          refine JL.nil ?_
          refine JE.weak (env' := [(6, .bool false)]) (es' := []) [] ?_ ⟨rfl, trivial⟩ (by decide) rfl
          refine JE.code ?_
          refine JX.ret ?_
          obtain rfl := Option.some.inj hres
          refine JE.ret (rs := [.tmp 6]) (vs := [.bool false]) rfl ⟨rfl, trivial⟩ ?_
          exact fun w' hb hs => ⟨_, _, ⟨rfl, rfl⟩, rfl, hb, hs.sel [] _ (by decide) rfl⟩
        · refine JX.condF rfl hb ?_
          refine JX.skip ?_
          refine JE.code ?_
          refine JX.seq ?_
          refine JX.region ?_
          refine JL.val (yl_assign rfl) rfl ?_
          refine JL.nil ?_
          refine JE.code ?_
          refine JX.seq ?_
          refine JX.region ?_
          refine JL.val (yl_move rfl) rfl ?_
          refine JL.val (yl_move rfl) rfl ?_
          obtain ⟨x23, hx23, hres⟩ := bind_some hres
          refine JL.eff (ef_callm (T := T28 a10 x9.length cp11 x23) 1 Go.Proofs.Try.func28 rfl (by kernel_rfl) rfl rfl (fun w fp hs => c28 hs rfl hx23)) rfl ?_
          rintro _ _ ⟨_, _, ⟨l24, rfl, rfl, rfl⟩, rfl⟩
          refine JL.val (yl_assign rfl) rfl ?_
          refine JL.nil ?_
          refine JE.weak (env' := [(0, .int .i64 q0), (1, .slice a_1 q1.length c_1), (2, .int .i64 q2), (7, .slice a6 x5.1.length cp7), (8, .int .i64 x5.2), (10, .slice a14 x13.1.length cp15), (11, .int .i64 x13.2), (12, .int .i64 x23.1)]) (es' := [rowT 2 eI64 a6 x5.1.length cp7 x5.1, rowT 2 eI64 a14 x13.1.length cp15 x13.1]) [0, 2] ?_ ⟨rfl, rfl, rfl, rfl, rfl, rfl, rfl, rfl, trivial⟩ (by decide) rfl
          refine JE.code ?_
          refine JX.seq ?_
          refine JX.seq ?_
          refine JX.region ?_
          refine JL.val (yl_move rfl) rfl ?_
          refine JL.val (yl_lss rfl rfl) rfl ?_
          refine JL.val (yl_move rfl) rfl ?_
          obtain ⟨c25, hc25, hres⟩ := bind_some hres
          refine JL.cut (K := fun J => J [(0, .int .i64 q0), (1, .slice a_1 q1.length c_1), (2, .int .i64 q2), (7, .slice a6 x5.1.length cp7), (8, .int .i64 x5.2), (10, .slice a14 x13.1.length cp15), (11, .int .i64 x13.2), (61, .bool c25)] [rowT 2 eI64 a6 x5.1.length cp7 x5.1, rowT 2 eI64 a14 x13.1.length cp15 x13.1]) 5 ?_ ?_
          · refine JL.val (yl_move rfl) rfl ?_
            refine JL.cut (K := fun J => J [(0, .int .i64 q0), (1, .slice a_1 q1.length c_1), (2, .int .i64 q2), (7, .slice a6 x5.1.length cp7), (8, .int .i64 x5.2), (10, .slice a14 x13.1.length cp15), (66, .bool (c25 || (x13.2 != x5.2)))] [rowT 2 eI64 a6 x5.1.length cp7 x5.1, rowT 2 eI64 a14 x13.1.length cp15 x13.1]) 4 ?_ ?_
            · refine JL.nil ?_
              refine JE.weak (env' := [(0, .int .i64 q0), (1, .slice a_1 q1.length c_1), (2, .int .i64 q2), (7, .slice a6 x5.1.length cp7), (8, .int .i64 x5.2), (10, .slice a14 x13.1.length cp15), (66, .bool (c25 || (x13.2 != x5.2)))]) (es' := [rowT 2 eI64 a6 x5.1.length cp7 x5.1, rowT 2 eI64 a14 x13.1.length cp15 x13.1]) [0, 1] ?_ ⟨rfl, rfl, rfl, rfl, rfl, rfl, rfl, trivial⟩ (by decide) rfl
              refine JE.code ?_
              rcases cond_some hres with ⟨hb, hres⟩ | ⟨hb, hres⟩
              · refine JX.condT rfl hb ?_
                refine JX.seq ?_
                refine JX.region ?_
                refine JL.val (yl_assign rfl) rfl ?_
                refine JL.nil ?_
                refine JE.weak (env' := [(6, .bool false)]) (es' := []) [] ?_ ⟨rfl, trivial⟩ (by decide) rfl
                refine JE.code ?_
                refine JX.ret ?_
                obtain rfl := Option.some.inj hres
                refine JE.ret (rs := [.tmp 6]) (vs := [.bool false]) rfl ⟨rfl, trivial⟩ ?_
                exact fun w' hb hs => ⟨_, _, ⟨rfl, rfl⟩, rfl, hb, hs.sel [] _ (by decide) rfl⟩
              · refine JX.condF rfl hb ?_
                refine JX.skip ?_
                refine JE.code ?_
                refine JX.seq ?_
                refine JX.region ?_
                refine JL.val (yl_assign rfl) rfl ?_
                refine JL.nil ?_
                refine JE.code ?_
                refine JX.seq ?_
                refine JX.region ?_
                refine JL.val (yl_move rfl) rfl ?_
                refine JL.val (yl_move rfl) rfl ?_
                obtain ⟨x27, hx27, hres⟩ := bind_some hres
                refine JL.eff (ef_callm (T := T28 a14 x13.1.length cp15 x27) 1 Go.Proofs.Try.func28 rfl (by kernel_rfl) rfl rfl (fun w fp hs => c28 hs rfl hx27)) rfl ?_
                rintro _ _ ⟨_, _, ⟨l28, rfl, rfl, rfl⟩, rfl⟩
                refine JL.val (yl_assign rfl) rfl ?_
                refine JL.nil ?_
                refine JE.weak (env' := [(0, .int .i64 q0), (1, .slice a_1 q1.length c_1), (2, .int .i64 q2), (7, .slice a6 x5.1.length cp7), (8, .int .i64 x5.2), (10, .slice a14 x13.1.length cp15), (13, .int .i64 x27.1)]) (es' := [rowT 2 eI64 a6 x5.1.length cp7 x5.1, rowT 2 eI64 a14 x13.1.length cp15 x27.2]) [0, 1] ?_ ⟨rfl, rfl, rfl, rfl, rfl, rfl, rfl, trivial⟩ (by decide) rfl
                refine JE.code ?_
                refine JX.seq ?_
                refine JX.region ?_
                refine JL.val (yl_assign rfl) rfl ?_
                refine JL.nil ?_
                refine JE.code ?_
                refine JX.seq ?_
                refine JX.region ?_
                refine JL.val (yl_move rfl) rfl ?_
                refine JL.val (yl_move rfl) rfl ?_
                obtain ⟨x29, hx29, hres⟩ := bind_some hres
                refine JL.eff (ef_call (T := T35 x29) Go.Proofs.Try.func35 rfl (by kernel_rfl) rfl (fun w hC => c35 (rd_row hC 1 rfl) l28 (ln_row hC 1 rfl) hx29)) rfl ?_
                rintro _ _ ⟨_, ⟨rfl, rfl⟩, rfl⟩
                refine JL.val (yl_assign rfl) rfl ?_
                refine JL.nil ?_
                refine JE.weak (env' := [(0, .int .i64 q0), (1, .slice a_1 q1.length c_1), (2, .int .i64 q2), (7, .slice a6 x5.1.length cp7), (8, .int .i64 x5.2), (10, .slice a14 x13.1.length cp15), (13, .int .i64 x27.1), (14, .int .i64 x29)]) (es' := [rowT 2 eI64 a6 x5.1.length cp7 x5.1, rowT 2 eI64 a14 x13.1.length cp15 x27.2]) [0, 1] ?_ ⟨rfl, rfl, rfl, rfl, rfl, rfl, rfl, rfl, trivial⟩ (by decide) rfl
                refine JE.code ?_
                refine JX.seq ?_
                refine JX.seq ?_
                refine JX.region ?_
                refine JL.val (yl_move rfl) rfl ?_
                refine JL.val (yl_lss rfl rfl) rfl ?_
                refine JL.nil ?_
                refine JE.code ?_
                rcases cond_some hres with ⟨hb, hres⟩ | ⟨hb, hres⟩
                · refine JX.condT rfl hb ?_
                  refine JX.seq ?_
                  refine JX.region ?_
                  refine JL.val (yl_assign rfl) rfl ?_
                  refine JL.nil ?_
                  refine JE.weak (env' := [(6, .bool false)]) (es' := []) [] ?_ ⟨rfl, trivial⟩ (by decide) rfl
                  refine JE.code ?_
                  refine JX.ret ?_
                  obtain rfl := Option.some.inj hres
                  refine JE.ret (rs := [.tmp 6]) (vs := [.bool false]) rfl ⟨rfl, trivial⟩ ?_
                  exact fun w' hb hs => ⟨_, _, ⟨rfl, rfl⟩, rfl, hb, hs.sel [] _ (by decide) rfl⟩
                · refine JX.condF rfl hb ?_
                  refine JX.skip ?_
                  refine JE.code ?_
                  refine JX.seq ?_
                  refine JX.seq ?_
                  refine JX.region ?_
                  refine JL.val (yl_move rfl) rfl ?_
                  refine JL.val (yl_move rfl) rfl ?_
                  refine JL.val (yl_neq rfl rfl) rfl ?_
                  refine JL.nil ?_
                  refine JE.code ?_
                  rcases cond_some hres with ⟨hb, hres⟩ | ⟨hb, hres⟩
                  · refine JX.condT rfl hb ?_
                    refine JX.seq ?_
                    refine JX.region ?_
                    refine JL.val (yl_assign rfl) rfl ?_
                    refine JL.nil ?_
                    refine JE.weak (env' := [(6, .bool false)]) (es' := []) [] ?_ ⟨rfl, trivial⟩ (by decide) rfl
                    refine JE.code ?_
                    refine JX.ret ?_
                    obtain rfl := Option.some.inj hres
                    refine JE.ret (rs := [.tmp 6]) (vs := [.bool false]) rfl ⟨rfl, trivial⟩ ?_
                    exact fun w' hb hs => ⟨_, _, ⟨rfl, rfl⟩, rfl, hb, hs.sel [] _ (by decide) rfl⟩
                  · refine JX.condF rfl hb ?_
                    refine JX.skip ?_
                    refine JE.code ?_
                    refine JX.seq ?_
                    refine JX.region ?_
                    refine JL.val (yl_move rfl) rfl ?_
                    refine JL.val (yl_move rfl) rfl ?_
                    obtain ⟨x30, hx30, hres⟩ := bind_some hres
                    refine JL.eff (ef_call (T := T24 x30) Go.Proofs.Try.func24 rfl (by kernel_rfl) rfl (fun w hC => c24 (rd_arg g_1 hC) rfl k_1 hx30)) rfl ?_
                    rintro _ _ ⟨_, ⟨a31, _, cp32, rfl, rfl, rfl⟩, rfl⟩
                    refine JL.val (yl_move rfl) rfl ?_
                    obtain ⟨x34, hx34, hres⟩ := bind_some hres
                    refine JL.eff (ef_call (T := T34 x34) Go.Proofs.Try.func34 rfl (by kernel_rfl) rfl (fun w hC => c34 (rd_row hC 2 rfl) rfl (ln_row hC 2 rfl) hx34)) rfl ?_
                    rintro _ _ ⟨_, ⟨a35, _, cp36, rfl, rfl, rfl⟩, rfl⟩
                    refine JL.val (yl_move rfl) rfl ?_
                    refine JL.val (yl_extract rfl rfl) rfl ?_
                    refine JL.val (yl_extract rfl rfl) rfl ?_
                    refine JL.val (yl_assign rfl) rfl ?_
                    refine JL.val (yl_assign rfl) rfl ?_
                    refine JL.nil ?_
                    refine JE.weak (env' := [(7, .slice a6 x5.1.length cp7), (8, .int .i64 x5.2), (10, .slice a14 x13.1.length cp15), (13, .int .i64 x27.1), (15, .slice a35 x34.1.length cp36), (16, .int .i64 x34.2)]) (es' := [rowT 2 eI64 a6 x5.1.length cp7 x5.1, rowT 2 eI64 a14 x13.1.length cp15 x27.2, rowT 2 eI64 a35 x34.1.length cp36 x34.1]) [0, 1, 3] ?_ ⟨rfl, rfl, rfl, rfl, rfl, rfl, trivial⟩ (by decide) rfl
                    refine JE.code ?_
                    refine JX.seq ?_
                    refine JX.seq ?_
                    refine JX.region ?_
                    refine JL.val (yl_move rfl) rfl ?_
                    refine JL.val (yl_move rfl) rfl ?_
                    obtain ⟨x38, hx38, hres⟩ := bind_some hres
                    refine JL.eff (ef_call (T := T27 x38) Go.Proofs.Try.func27 rfl (by kernel_rfl) rfl (fun w hC => c27 (rd_row hC 2 rfl) rfl (ln_row hC 2 rfl) (rd_row hC 0 rfl) rfl (ln_row hC 0 rfl) hx38)) rfl ?_
                    rintro _ _ ⟨_, ⟨rfl, rfl⟩, rfl⟩
                    refine JL.val (yl_not rfl) rfl ?_
                    refine JL.val (yl_move rfl) rfl ?_
                    refine JL.cut (K := fun J => J [(10, .slice a14 x13.1.length cp15), (13, .int .i64 x27.1), (94, .bool (!x38 || (x34.2 != x5.2)))] [rowT 2 eI64 a14 x13.1.length cp15 x27.2]) 4 ?_ ?_
                    · refine JL.nil ?_
                      refine JE.weak (env' := [(10, .slice a14 x13.1.length cp15), (13, .int .i64 x27.1), (94, .bool (!x38 || (x34.2 != x5.2)))]) (es' := [rowT 2 eI64 a14 x13.1.length cp15 x27.2]) [0] ?_ ⟨rfl, rfl, rfl, trivial⟩ (by decide) rfl
                      refine JE.code ?_
                      rcases cond_some hres with ⟨hb, hres⟩ | ⟨hb, hres⟩
                      · refine JX.condT rfl hb ?_
                        refine JX.seq ?_
                        refine JX.region ?_
                        refine JL.val (yl_assign rfl) rfl ?_
                        refine JL.nil ?_
                        refine JE.weak (env' := [(6, .bool false)]) (es' := []) [] ?_ ⟨rfl, trivial⟩ (by decide) rfl
                        refine JE.code ?_
                        refine JX.ret ?_
                        obtain rfl := Option.some.inj hres
                        refine JE.ret (rs := [.tmp 6]) (vs := [.bool false]) rfl ⟨rfl, trivial⟩ ?_
                        exact fun w' hb hs => ⟨_, _, ⟨rfl, rfl⟩, rfl, hb, hs.sel [] _ (by decide) rfl⟩
                      · refine JX.condF rfl hb ?_
                        refine JX.skip ?_
                        refine JE.code ?_
                        refine JX.seq ?_
                        refine JX.region ?_
                        refine JL.val (yl_assign rfl) rfl ?_
                        refine JL.nil ?_
                        refine JE.code ?_
                        refine JX.seq ?_
                        refine JX.region ?_
                        refine JL.val (yl_move rfl) rfl ?_
                        refine JL.val (yl_move rfl) rfl ?_
                        obtain ⟨x39, hx39, hres⟩ := bind_some hres
                        refine JL.eff (ef_call (T := T35 x39) Go.Proofs.Try.func35 rfl (by kernel_rfl) rfl (fun w hC => c35 (rd_row hC 0 rfl) l28 (ln_row hC 0 rfl) hx39)) rfl ?_
                        rintro _ _ ⟨_, ⟨rfl, rfl⟩, rfl⟩
                        refine JL.val (yl_assign rfl) rfl ?_
                        refine JL.nil ?_
                        refine JE.weak (env' := [(13, .int .i64 x27.1), (14, .int .i64 x39)]) (es' := []) [] ?_ ⟨rfl, rfl, trivial⟩ (by decide) rfl
                        refine JE.code ?_
                        refine JX.seq ?_
                        refine JX.seq ?_
                        refine JX.region ?_
                        refine JL.val (yl_move rfl) rfl ?_
                        refine JL.val (yl_lss rfl rfl) rfl ?_
                        refine JL.nil ?_
                        refine JE.code ?_
                        rcases cond_some hres with ⟨hb, hres⟩ | ⟨hb, hres⟩
                        · refine JX.condT rfl hb ?_
                          refine JX.seq ?_
                          refine JX.region ?_
                          refine JL.val (yl_assign rfl) rfl ?_
                          refine JL.nil ?_
                          refine JE.code ?_
                          refine JX.ret ?_
                          obtain rfl := Option.some.inj hres
                          refine JE.ret (rs := [.tmp 6]) (vs := [.bool false]) rfl ⟨rfl, trivial⟩ ?_
                          exact fun w' hb hs => ⟨_, _, ⟨rfl, rfl⟩, rfl, hb, hs.sel [] _ (by decide) rfl⟩
                        · refine JX.condF rfl hb ?_
                          refine JX.skip ?_
                          refine JE.code ?_
                          refine JX.seq ?_
                          refine JX.seq ?_
                          refine JX.region ?_
                          refine JL.val (yl_move rfl) rfl ?_
                          refine JL.val (yl_move rfl) rfl ?_
                          refine JL.val (yl_neq rfl rfl) rfl ?_
                          refine JL.nil ?_
                          refine JE.code ?_
                          rcases cond_some hres with ⟨hb, hres⟩ | ⟨hb, hres⟩
                          · refine JX.condT rfl hb ?_
                            refine JX.seq ?_
                            refine JX.region ?_
                            refine JL.val (yl_assign rfl) rfl ?_
                            refine JL.nil ?_
                            refine JE.code ?_
                            refine JX.ret ?_
                            obtain rfl := Option.some.inj hres
                            refine JE.ret (rs := [.tmp 6]) (vs := [.bool false]) rfl ⟨rfl, trivial⟩ ?_
                            exact fun w' hb hs => ⟨_, _, ⟨rfl, rfl⟩, rfl, hb, hs.sel [] _ (by decide) rfl⟩
                          · refine JX.condF rfl hb ?_
                            refine JX.skip ?_
                            refine JE.code ?_
                            refine JX.seq ?_
                            refine JX.region ?_
                            refine JL.val (yl_assign rfl) rfl ?_
                            refine JL.nil ?_
                            refine JE.code ?_
                            refine JX.ret ?_
                            obtain rfl := Option.some.inj hres
                            refine JE.ret (rs := [.tmp 6]) (vs := [.bool true]) rfl ⟨rfl, trivial⟩ ?_
                            exact fun w' hb hs => ⟨_, _, ⟨rfl, rfl⟩, rfl, hb, hs.sel [] _ (by decide) rfl⟩
                    · intro K
                      rcases Bool.eq_false_or_eq_true (!x38) with hb | hb
                      · refine JL.set (d := 90) (v := .bool true) (congrArg (fun b => some (Value.bool b)) hb) ?_
                        refine JL.gskip rfl rfl rfl rfl ?_
                        refine JL.gskip rfl rfl rfl rfl ?_
                        refine JL.gskip rfl rfl rfl rfl ?_
                        refine JL.val (yl_pick_true rfl rfl) rfl ?_
                        exact JL.weak [1] K ⟨rfl, rfl, (by rw [hb]; rfl), trivial⟩ (by decide) rfl
                      · refine JL.set (d := 90) (v := .bool false) (congrArg (fun b => some (Value.bool b)) hb) ?_
                        refine JL.gval rfl rfl (yl_move rfl) rfl ?_
                        refine JL.gval rfl rfl (yl_move rfl) rfl ?_
                        refine JL.gval rfl rfl (yl_neq rfl rfl) rfl ?_
                        refine JL.val (yl_pick_false rfl rfl) rfl ?_
                        exact JL.weak [1] K ⟨rfl, rfl, (by rw [hb]; rfl), trivial⟩ (by decide) rfl
            · intro K
              rcases Bool.eq_false_or_eq_true (c25) with hb | hb
              · refine JL.set (d := 62) (v := .bool true) (congrArg (fun b => some (Value.bool b)) hb) ?_
                refine JL.gskip rfl rfl rfl rfl ?_
                refine JL.gskip rfl rfl rfl rfl ?_
                refine JL.gskip rfl rfl rfl rfl ?_
                refine JL.val (yl_pick_true rfl rfl) rfl ?_
                exact JL.weak [0, 1] K ⟨rfl, rfl, rfl, rfl, rfl, rfl, (by rw [hb]; rfl), trivial⟩ (by decide) rfl
              · refine JL.set (d := 62) (v := .bool false) (congrArg (fun b => some (Value.bool b)) hb) ?_
                refine JL.gval rfl rfl (yl_move rfl) rfl ?_
                refine JL.gval rfl rfl (yl_move rfl) rfl ?_
                refine JL.gval rfl rfl (yl_neq rfl rfl) rfl ?_
                refine JL.val (yl_pick_false rfl rfl) rfl ?_
                exact JL.weak [0, 1] K ⟨rfl, rfl, rfl, rfl, rfl, rfl, (by rw [hb]; rfl), trivial⟩ (by decide) rfl
          · intro K
            rcases cond_some hc25 with ⟨hb, hres⟩ | ⟨hb, hres⟩
            · refine JL.set (d := 56) (v := .bool true) (congrArg (fun b => some (Value.bool b)) hb) ?_
              refine JL.gskip rfl rfl rfl rfl ?_
              refine JL.gskip rfl rfl rfl rfl ?_
              refine JL.gskip rfl rfl rfl rfl ?_
              refine JL.gskip rfl rfl rfl rfl ?_
              refine JL.val (yl_pick_true rfl rfl) rfl ?_
              have he := Option.some.inj hres
              exact JL.weak [0, 1] K ⟨rfl, rfl, rfl, rfl, rfl, rfl, rfl, (by rw [← he]; rfl), trivial⟩ (by decide) rfl
            · refine JL.set (d := 56) (v := .bool false) (congrArg (fun b => some (Value.bool b)) hb) ?_
              refine JL.gval rfl rfl (yl_move rfl) rfl ?_
              refine JL.gval rfl rfl (yl_move rfl) rfl ?_
              obtain ⟨x26, hx26, hres⟩ := bind_some hres
              refine JL.geff rfl rfl (ef_call (T := T27 x26) Go.Proofs.Try.func27 rfl (by kernel_rfl) rfl (fun w hC => c27 (rd_row hC 1 rfl) rfl (ln_row hC 1 rfl) (rd_row hC 0 rfl) rfl (ln_row hC 0 rfl) hx26)) rfl ?_
              rintro _ _ ⟨_, ⟨rfl, rfl⟩, rfl⟩
              refine JL.gval rfl rfl (yl_not rfl) rfl ?_
              refine JL.val (yl_pick_false rfl rfl) rfl ?_
              have he := Option.some.inj hres
              exact JL.weak [0, 1] K ⟨rfl, rfl, rfl, rfl, rfl, rfl, rfl, (by rw [← he]; rfl), trivial⟩ (by decide) rfl
    · intro K
      rcases Bool.eq_false_or_eq_true (!x17) with hb | hb
      · refine JL.set (d := 41) (v := .bool true) (congrArg (fun b => some (Value.bool b)) hb) ?_
        refine JL.gskip rfl rfl rfl rfl ?_
        refine JL.gskip rfl rfl rfl rfl ?_
        refine JL.gskip rfl rfl rfl rfl ?_
        refine JL.val (yl_pick_true rfl rfl) rfl ?_
        exact JL.weak [0, 1, 2] K ⟨rfl, rfl, rfl, rfl, rfl, rfl, rfl, rfl, (by rw [hb]; rfl), trivial⟩ (by decide) rfl
      · refine JL.set (d := 41) (v := .bool false) (congrArg (fun b => some (Value.bool b)) hb) ?_
        refine JL.gval rfl rfl (yl_move rfl) rfl ?_
        refine JL.gval rfl rfl (yl_move rfl) rfl ?_
        refine JL.gval rfl rfl (yl_neq rfl rfl) rfl ?_
        refine JL.val (yl_pick_false rfl rfl) rfl ?_
        exact JL.weak [0, 1, 2] K ⟨rfl, rfl, rfl, rfl, rfl, rfl, rfl, rfl, (by rw [hb]; rfl), trivial⟩ (by decide) rfl

end Go.Sh
