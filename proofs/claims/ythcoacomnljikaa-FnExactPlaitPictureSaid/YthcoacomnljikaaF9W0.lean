/- Walks through functions that the law reaches, printed by program. -/
import Derived.Test.YthcoacomnljikaaF9T
set_option linter.unusedVariables false
set_option linter.unusedSimpArgs false
namespace Go.Sh
open Go Go.RowKit
/- laws.toInt64S -/
def sh24_1 (q0 : List Int) : (Int × List Int) → Option ((Int × List Int) ⊕ (List Int))
  | (x5, x6) => bif decide (x5 < (q0.length : Int)) then (Option.bind (getI q0 x5) fun x8 => Option.bind (getI x6 x5) fun x9 => some (.inl (w64 (x5 + 1), x6.set (x5).toNat x8))) else (some (.inr x6))
def sh24 (q0 : List Int) : Option (List Int) := Option.bind (mkL (q0.length : Int) 0) fun x1 => Option.bind (iter (sh24_1 q0) (0, x1)) fun b1 => (some b1)
def T24 (r : List Int) (v : Value) (rs : List Own) : Prop := ∃ (a0 : Option Addr) (n0 c0 : Nat), r.length = n0 ∧ v = rets [.slice a0 n0 c0] ∧ rs = [rowT 2 eI64 a0 n0 c0 r]
set_option maxRecDepth 100000 in
theorem c24 {w : World} {q0 : List Int} {a_0 : Option Addr} {n_0 c_0 : Nat} (g_0 : Rd w a_0 (eI64.fl q0)) (l_0 : q0.length = n_0) (k_0 : n_0 ≤ c_0) {r : List Int} (hres : sh24 q0 = some r) : Calls Go.Proofs.Try.prog 24 [.slice a_0 n_0 c_0].toArray w (Ret w (T24 r)) := by
  subst l_0
  unfold sh24 at hres
  refine calls_of (n := 22) (M := []) (es := []) Go.Proofs.Try.func24 rfl rfl rfl (Sep.nil _ _ _) ?_
  refine JX.seq ?_
  refine JX.region ?_
  refine JL.val (yl_assign rfl) rfl ?_
  refine JL.nil ?_
  refine JE.code ?_
  refine JX.seq ?_
  refine JX.region ?_
  refine JL.val (yl_move rfl) rfl ?_
  refine JL.val (yl_len_slice Go.Proofs.Try.underlying35 rfl) rfl ?_
  obtain ⟨x1, hx1, hres⟩ := bind_some hres
  refine JL.eff (ef_makeS (e := eI64) Go.Proofs.Try.underlying35 i2 i2s i2z rfl i2b1 rfl rfl hx1) rfl ?_
  rintro _ _ ⟨a2, rfl, rfl⟩
  refine JL.val (yl_assign rfl) rfl ?_
  refine JL.nil ?_
  refine JE.weak (env' := [(0, .slice a_0 q0.length c_0), (3, .slice a2 x1.length x1.length)]) (es' := [rowT 2 eI64 a2 x1.length x1.length x1]) [0] ?_ ⟨rfl, rfl, trivial⟩ (by decide) rfl
  refine JE.code ?_
  refine JX.seq ?_
  refine JX.seq ?_
  refine JX.region ?_
  refine JL.val (yl_assign rfl) rfl ?_
  refine JL.nil ?_
  refine JE.code ?_
  refine JX.block ?_
  obtain ⟨y1, hy1, hresO1⟩ := bind_some hres
  refine JX.loop (I := fun (s1 : Int × List Int) aa ww => ∃ (l4 : s1.2.length = x1.length), St w [] 22 [(0, .slice a_0 q0.length c_0), (3, .slice a2 x1.length x1.length), (4, .int .i64 s1.1)] [rowT 2 eI64 a2 x1.length x1.length s1.2] aa ww) (sh24_1 q0) hy1 (fun a w h => ⟨rfl, h.weak ⟨rfl, rfl, rfl, trivial⟩ [0] (by decide) rfl⟩) ?_
  rintro ⟨x5, x6⟩ o1 hres hox1 aa ww ⟨l7, hS⟩
  refine (?_ : JX Go.Proofs.Try.prog w [] 22 _ _ [(0, .slice a_0 q0.length c_0), (3, .slice a2 x1.length x1.length), (4, .int .i64 x5)] [rowT 2 eI64 a2 x1.length x1.length x6] _) aa ww hS
  clear hS
  simp only [sh24_1] at hres
  refine JX.seq ?_
  refine JX.seq ?_
  refine JX.region ?_
  refine JL.val (yl_move rfl) rfl ?_
  refine JL.val (yl_move rfl) rfl ?_
  refine JL.val (yl_len_slice Go.Proofs.Try.underlying35 rfl) rfl ?_
  refine JL.val (yl_lss rfl rfl) rfl ?_
  refine JL.nil ?_
  refine JE.weak (env' := [(0, .slice a_0 q0.length c_0), (3, .slice a2 x1.length x1.length), (4, .int .i64 x5), (11, .bool (decide (x5 < (q0.length : Int))))]) (es' := [rowT 2 eI64 a2 x1.length x1.length x6]) [0] ?_ ⟨rfl, rfl, rfl, rfl, trivial⟩ (by decide) rfl
  refine JE.code ?_
  rcases cond_some hres with ⟨hb, hres⟩ | ⟨hb, hres⟩
  · refine JX.condT rfl hb ?_
    refine JX.skip ?_
    refine JE.code ?_
    refine JX.seq ?_
    refine JX.block ?_
    refine JX.region ?_
    refine JL.val (yl_move rfl) rfl ?_
    refine JL.val (yl_move rfl) rfl ?_
    refine JL.val (yl_move rfl) rfl ?_
    refine JL.val (yl_move rfl) rfl ?_
    obtain ⟨x8, hx8, hres⟩ := bind_some hres
    refine JL.val (yl_idxT Go.Proofs.Try.underlying35 i2 i2s rfl rfl hx8 rfl (fun w hC => rd_arg g_0 hC)) rfl ?_
    refine JL.val (yl_loadT0 Go.Proofs.Try.underlying2 rfl rfl hx8 (fun w hC => rd_arg g_0 hC) rfl) rfl ?_
    obtain ⟨x9, hx9, hres⟩ := bind_some hres
    refine JL.val (yl_idxT Go.Proofs.Try.underlying35 i2 i2s rfl rfl hx9 l7 (fun w hC => rd_row hC 0 rfl)) rfl ?_
    refine JL.eff (ef_storeT (ix := 0) (u := x8) i2 i2s rfl rfl rfl hx9 rfl) rfl ?_
    rintro _ _ rfl
    refine JL.nil ?_
    refine JE.weak (env' := [(0, .slice a_0 q0.length c_0), (3, .slice a2 x1.length x1.length), (4, .int .i64 x5)]) (es' := [rowT 2 eI64 a2 x1.length x1.length (x6.set (x5).toNat x8)]) [0] ?_ ⟨rfl, rfl, rfl, trivial⟩ (by decide) rfl
    refine JE.code ?_
    refine JX.region ?_
    refine JL.val (yl_move rfl) rfl ?_
    refine JL.val (yl_add rfl rfl) rfl ?_
    refine JL.val (yl_assign rfl) rfl ?_
    refine JL.nil ?_
    refine JE.cont hres ?_
    exact fun a w h => ⟨(List.length_set.trans l7), h.weak ⟨rfl, rfl, rfl, trivial⟩ [0] (by decide) rfl⟩
  · refine JX.condF rfl hb ?_
    refine JX.exit ?_
    refine JE.qb rfl ?_
    obtain ⟨b1, hb1⟩ : ∃ b : List Int, b = x6 := ⟨_, rfl⟩
    have hy1 : b1 = y1 := by rw [hb1]; exact hox1 _ (Option.some.inj hres).symm
    have hres := hresO1
    rw [← hy1] at hres
    have l10 : b1.length = x1.length := by subst hb1; exact l7
    refine JE.weak (env' := [(3, .slice a2 x1.length x1.length)]) (es' := [rowT 2 eI64 a2 x1.length x1.length b1]) [0] ?_ ⟨(by subst hb1; rfl), trivial⟩ (by decide) (by subst hb1; rfl)
    refine JE.code ?_
    refine JX.seq ?_
    refine JX.region ?_
    refine JL.val (yl_move rfl) rfl ?_
    refine JL.val (yl_assign rfl) rfl ?_
    refine JL.nil ?_
    refine JE.code ?_
    refine JX.ret ?_
    obtain rfl := Option.some.inj hres
    refine JE.ret (rs := [.tmp 2]) (vs := [.slice a2 x1.length x1.length]) rfl ⟨rfl, trivial⟩ ?_
    exact fun w' hb hs => ⟨_, _, ⟨a2, x1.length, x1.length, l10, rfl, rfl⟩, rfl, hb, hs.sel [0] _ (by decide) rfl⟩

/- laws.eqInt64S -/
def sh27_1 (q0 : List Int) (q1 : List Int) : Int → Option (Int ⊕ (Unit ⊕ Bool))
  | x1 => bif decide (x1 < (q0.length : Int)) then (Option.bind (getI q0 x1) fun x3 => Option.bind (getI q1 x1) fun x4 => bif x3 != x4 then (some (.inr (.inr false))) else (some (.inl (w64 (x1 + 1))))) else (some (.inr (.inl ())))
def sh27 (q0 : List Int) (q1 : List Int) : Option (Bool) := bif (q0.length : Int) != (q1.length : Int) then (some false) else (Option.bind (iter (sh27_1 q0 q1) 0) fun y1 => elimS y1 (fun r => some r) fun b1 => (some true))
def T27 (r : Bool) (v : Value) (rs : List Own) : Prop := v = rets [.bool r] ∧ rs = []
set_option maxRecDepth 100000 in
theorem c27 {w : World} {q0 : List Int} {a_0 : Option Addr} {n_0 c_0 : Nat} (g_0 : Rd w a_0 (eI64.fl q0)) (l_0 : q0.length = n_0) (k_0 : n_0 ≤ c_0) {q1 : List Int} {a_1 : Option Addr} {n_1 c_1 : Nat} (g_1 : Rd w a_1 (eI64.fl q1)) (l_1 : q1.length = n_1) (k_1 : n_1 ≤ c_1) {r : Bool} (hres : sh27 q0 q1 = some r) : Calls Go.Proofs.Try.prog 27 [.slice a_0 n_0 c_0, .slice a_1 n_1 c_1].toArray w (Ret w (T27 r)) := by
  subst l_0
  subst l_1
  unfold sh27 at hres
  refine calls_of (n := 26) (M := []) (es := []) Go.Proofs.Try.func27 rfl rfl rfl (Sep.nil _ _ _) ?_
  refine JX.seq ?_
  refine JX.region ?_
  refine JL.val (yl_assign rfl) rfl ?_
  refine JL.nil ?_
  refine JE.code ?_
  refine JX.seq ?_
  refine JX.seq ?_
  refine JX.region ?_
  refine JL.val (yl_move rfl) rfl ?_
  refine JL.val (yl_len_slice Go.Proofs.Try.underlying35 rfl) rfl ?_
  refine JL.val (yl_move rfl) rfl ?_
  refine JL.val (yl_len_slice Go.Proofs.Try.underlying35 rfl) rfl ?_
  refine JL.val (yl_neq rfl rfl) rfl ?_
  refine JL.nil ?_
  refine JE.weak (env' := [(0, .slice a_0 q0.length c_0), (1, .slice a_1 q1.length c_1), (10, .bool ((q0.length : Int) != (q1.length : Int)))]) (es' := []) [] ?_ ⟨rfl, rfl, rfl, trivial⟩ (by decide) rfl
  refine JE.code ?_
  rcases cond_some hres with ⟨hb, hres⟩ | ⟨hb, hres⟩
  · refine JX.condT rfl hb ?_
    refine JX.seq ?_
    refine JX.region ?_
    refine JL.val (yl_assign rfl) rfl ?_
    refine JL.nil ?_
    refine JE.code ?_
    refine JX.ret ?_
    obtain rfl := Option.some.inj hres
    refine JE.ret (rs := [.tmp 4]) (vs := [.bool false]) rfl ⟨rfl, trivial⟩ ?_
    exact fun w' hb hs => ⟨_, _, ⟨rfl, rfl⟩, rfl, hb, hs.sel [] _ (by decide) rfl⟩
  · refine JX.condF rfl hb ?_
    refine JX.skip ?_
    refine JE.code ?_
    refine JX.seq ?_
    refine JX.seq ?_
    refine JX.region ?_
    refine JL.val (yl_assign rfl) rfl ?_
    refine JL.nil ?_
    refine JE.code ?_
    refine JX.block ?_
    obtain ⟨y1, hy1, hresO1⟩ := bind_some hres
    refine JX.loop (I := fun (s1 : Int) aa ww => St w [] 26 [(0, .slice a_0 q0.length c_0), (1, .slice a_1 q1.length c_1), (5, .int .i64 s1)] [] aa ww) (sh27_1 q0 q1) hy1 (fun a w h => h.weak ⟨rfl, rfl, rfl, trivial⟩ [] (by decide) rfl) ?_
    rintro x1 o1 hres hox1 aa ww hS
    refine (?_ : JX Go.Proofs.Try.prog w [] 26 _ _ [(0, .slice a_0 q0.length c_0), (1, .slice a_1 q1.length c_1), (5, .int .i64 x1)] [] _) aa ww hS
    clear hS
    unfold sh27_1 at hres
    refine JX.seq ?_
    refine JX.seq ?_
    refine JX.region ?_
    refine JL.val (yl_move rfl) rfl ?_
    refine JL.val (yl_move rfl) rfl ?_
    refine JL.val (yl_len_slice Go.Proofs.Try.underlying35 rfl) rfl ?_
    refine JL.val (yl_lss rfl rfl) rfl ?_
    refine JL.nil ?_
    refine JE.weak (env' := [(0, .slice a_0 q0.length c_0), (1, .slice a_1 q1.length c_1), (5, .int .i64 x1), (14, .bool (decide (x1 < (q0.length : Int))))]) (es' := []) [] ?_ ⟨rfl, rfl, rfl, rfl, trivial⟩ (by decide) rfl
    refine JE.code ?_
    rcases cond_some hres with ⟨hb, hres⟩ | ⟨hb, hres⟩
    · refine JX.condT rfl hb ?_
      refine JX.skip ?_
      refine JE.code ?_
      refine JX.seq ?_
      refine JX.block ?_
      refine JX.seq ?_
      refine JX.drawH [(0, .pure), (1, .pure), (2, .pure), (3, .read), (4, .pure), (5, .pure), (6, .pure), (7, .read), (8, .pure)] [] [] [] [] [] mixedP rfl (by kernel_rfl) (by decide) rfl rfl ?_
      intro wrr2 Nr2 hFr2
      refine JH.pure rfl (yl_move rfl) rfl ?_
      refine JH.pure rfl (yl_move rfl) rfl ?_
      obtain ⟨x3, hx3, hres⟩ := bind_some hres
      refine JH.pure rfl (yl_idxQ Go.Proofs.Try.underlying35 i2 i2s rfl rfl hx3 rfl (rd_arg g_0 hFr2.cl) rfl) rfl ?_
      refine JH.read rfl (yl_loadT0 Go.Proofs.Try.underlying2 rfl rfl hx3 (fun w hw => hFr2.arg g_0 hw) rfl) rfl ?_
      refine JH.pure rfl (yl_move rfl) rfl ?_
      refine JH.pure rfl (yl_move rfl) rfl ?_
      obtain ⟨x4, hx4, hres⟩ := bind_some hres
      refine JH.pure rfl (yl_idxQ Go.Proofs.Try.underlying35 i2 i2s rfl rfl hx4 rfl (rd_arg g_1 hFr2.cl) rfl) rfl ?_
      refine JH.read rfl (yl_loadT0 Go.Proofs.Try.underlying2 rfl rfl hx4 (fun w hw => hFr2.arg g_1 hw) rfl) rfl ?_
      refine JH.pure rfl (yl_neq rfl rfl) rfl ?_
      refine JH.nil ?_
      refine JE.weak (env' := [(0, .slice a_0 q0.length c_0), (1, .slice a_1 q1.length c_1), (5, .int .i64 x1), (25, .bool (x3 != x4))]) (es' := []) [] ?_ ⟨rfl, rfl, rfl, rfl, trivial⟩ (by decide) rfl
      refine JE.code ?_
      rcases cond_some hres with ⟨hb, hres⟩ | ⟨hb, hres⟩
      · refine JX.condT rfl hb ?_
        refine JX.seq ?_
        refine JX.region ?_
        refine JL.val (yl_assign rfl) rfl ?_
        refine JL.nil ?_
        refine JE.code ?_
        refine JX.ret ?_
        refine JE.qbr ?_
        refine JE.qbr ?_
        have hres := elimS_inr hresO1 (hox1 _ (Option.some.inj hres).symm)
        obtain rfl := Option.some.inj hres
        refine JE.ret (rs := [.tmp 4]) (vs := [.bool false]) rfl ⟨rfl, trivial⟩ ?_
        exact fun w' hb hs => ⟨_, _, ⟨rfl, rfl⟩, rfl, hb, hs.sel [] _ (by decide) rfl⟩
      · refine JX.condF rfl hb ?_
        refine JX.skip ?_
        refine JE.code ?_
        refine JX.region ?_
        refine JL.val (yl_move rfl) rfl ?_
        refine JL.val (yl_add rfl rfl) rfl ?_
        refine JL.val (yl_assign rfl) rfl ?_
        refine JL.nil ?_
        refine JE.cont hres ?_
        exact fun a w h => h.weak ⟨rfl, rfl, rfl, trivial⟩ [] (by decide) rfl
    · refine JX.condF rfl hb ?_
      refine JX.exit ?_
      refine JE.qb rfl ?_
      obtain ⟨b1, hb1⟩ : ∃ b : Unit, b = () := ⟨_, rfl⟩
      have hy1 : Sum.inl b1 = y1 := by rw [hb1]; exact hox1 _ (Option.some.inj hres).symm
      have hres := elimS_inl hresO1 hy1
      refine JE.weak (env' := []) (es' := []) [] ?_ trivial (by decide) (by subst hb1; rfl)
      refine JE.code ?_
      refine JX.seq ?_
      refine JX.region ?_
      refine JL.val (yl_assign rfl) rfl ?_
      refine JL.nil ?_
      refine JE.code ?_
      refine JX.ret ?_
      obtain rfl := Option.some.inj hres
      refine JE.ret (rs := [.tmp 4]) (vs := [.bool true]) rfl ⟨rfl, trivial⟩ ?_
      exact fun w' hb hs => ⟨_, _, ⟨rfl, rfl⟩, rfl, hb, hs.sel [] _ (by decide) rfl⟩

/- laws.markInt64S -/
def sh28_1 (q0 : List Int) : (Int × Int × List Int) → Option ((Int × Int × List Int) ⊕ (Int × List Int))
  | (x2, x3, x4) => bif decide (x3 < ((q0.length : Nat) : Int)) then (Option.bind (getI x4 x3) fun x6 => some (.inl (w64 (x2 + 1), w64 (x3 + 1), x4.set (x3).toNat x2))) else (some (.inr (x2, x4)))
def sh28 (q0 : List Int) (q1 : Int) : Option (Int × List Int) := Option.bind (iter (sh28_1 q0) (q1, 0, q0)) fun b1 => (some (b1.1, b1.2))
def T28 (a_ : Option Addr) (n_ c_ : Nat) (r : Int × List Int) (v : Value) (e' : Own) (rs : List Own) : Prop := r.2.length = n_ ∧ e' = rowT 2 eI64 a_ n_ c_ r.2 ∧ v = rets [.int .i64 r.1] ∧ rs = []
set_option maxRecDepth 100000 in
theorem c28 {w : World} {q0 : List Int} {a_0 : Option Addr} {n_0 c_0 : Nat} {M : List Nat} (g_0 : Sep w.heap.size M w [rowT 2 eI64 a_0 n_0 c_0 q0]) (l_0 : q0.length = n_0) {q1 : Int} {r : Int × List Int} (hres : sh28 q0 q1 = some r) : Calls Go.Proofs.Try.prog 28 [.slice a_0 n_0 c_0, .int .i64 q1].toArray w (RetM w M (T28 a_0 n_0 c_0 r)) := by
  subst l_0
  unfold sh28 at hres
  refine calls_of (n := 19) (M := M) (es := [rowT 2 eI64 a_0 q0.length c_0 q0]) Go.Proofs.Try.func28 rfl rfl rfl g_0 ?_
  refine JX.seq ?_
  refine JX.region ?_
  refine JL.val (yl_assign rfl) rfl ?_
  refine JL.nil ?_
  refine JE.code ?_
  refine JX.seq ?_
  refine JX.seq ?_
  refine JX.region ?_
  refine JL.val (yl_assign rfl) rfl ?_
  refine JL.nil ?_
  refine JE.code ?_
  refine JX.block ?_
  obtain ⟨y1, hy1, hresO1⟩ := bind_some hres
  refine JX.loop (I := fun (s1 : Int × Int × List Int) aa ww => ∃ (l1 : s1.2.2.length = q0.length), St w M 19 [(0, .slice a_0 q0.length c_0), (1, .int .i64 s1.1), (5, .int .i64 s1.2.1)] [rowT 2 eI64 a_0 q0.length c_0 s1.2.2] aa ww) (sh28_1 q0) hy1 (fun a w h => ⟨rfl, h.weak ⟨rfl, rfl, rfl, trivial⟩ [0] (by decide) rfl⟩) ?_
  rintro ⟨x2, x3, x4⟩ o1 hres hox1 aa ww ⟨l5, hS⟩
  refine (?_ : JX Go.Proofs.Try.prog w M 19 _ _ [(0, .slice a_0 q0.length c_0), (1, .int .i64 x2), (5, .int .i64 x3)] [rowT 2 eI64 a_0 q0.length c_0 x4] _) aa ww hS
  clear hS
  simp only [sh28_1] at hres
  refine JX.seq ?_
  refine JX.seq ?_
  refine JX.region ?_
  refine JL.val (yl_move rfl) rfl ?_
  refine JL.val (yl_move rfl) rfl ?_
  refine JL.val (yl_len_slice Go.Proofs.Try.underlying35 rfl) rfl ?_
  refine JL.val (yl_lss rfl rfl) rfl ?_
  refine JL.nil ?_
  refine JE.weak (env' := [(0, .slice a_0 q0.length c_0), (1, .int .i64 x2), (5, .int .i64 x3), (9, .bool (decide (x3 < ((q0.length : Nat) : Int))))]) (es' := [rowT 2 eI64 a_0 q0.length c_0 x4]) [0] ?_ ⟨rfl, rfl, rfl, rfl, trivial⟩ (by decide) rfl
  refine JE.code ?_
  rcases cond_some hres with ⟨hb, hres⟩ | ⟨hb, hres⟩
  · refine JX.condT rfl hb ?_
    refine JX.skip ?_
    refine JE.code ?_
    refine JX.seq ?_
    refine JX.block ?_
    refine JX.seq ?_
    refine JX.region ?_
    refine JL.val (yl_move rfl) rfl ?_
    refine JL.val (yl_move rfl) rfl ?_
    refine JL.val (yl_move rfl) rfl ?_
    obtain ⟨x6, hx6, hres⟩ := bind_some hres
    refine JL.val (yl_idxT Go.Proofs.Try.underlying35 i2 i2s rfl rfl hx6 l5 (fun w hC => rd_row hC 0 rfl)) rfl ?_
    refine JL.eff (ef_storeT (ix := 0) (u := x2) i2 i2s rfl rfl rfl hx6 rfl) rfl ?_
    rintro _ _ rfl
    refine JL.nil ?_
    refine JE.weak (env' := [(0, .slice a_0 q0.length c_0), (1, .int .i64 x2), (5, .int .i64 x3)]) (es' := [rowT 2 eI64 a_0 q0.length c_0 (x4.set (x3).toNat x2)]) [0] ?_ ⟨rfl, rfl, rfl, trivial⟩ (by decide) rfl
    refine JE.code ?_
    refine JX.region ?_
    refine JL.val (yl_move rfl) rfl ?_
    refine JL.val (yl_add rfl rfl) rfl ?_
    refine JL.val (yl_assign rfl) rfl ?_
    refine JL.nil ?_
    refine JE.code ?_
    refine JX.region ?_
    refine JL.val (yl_move rfl) rfl ?_
    refine JL.val (yl_add rfl rfl) rfl ?_
    refine JL.val (yl_assign rfl) rfl ?_
    refine JL.nil ?_
    refine JE.cont hres ?_
    exact fun a w h => ⟨(List.length_set.trans l5), h.weak ⟨rfl, rfl, rfl, trivial⟩ [0] (by decide) rfl⟩
  · refine JX.condF rfl hb ?_
    refine JX.exit ?_
    refine JE.qb rfl ?_
    obtain ⟨b1, hb1⟩ : ∃ b : Int × List Int, b = (x2, x4) := ⟨_, rfl⟩
    have hy1 : b1 = y1 := by rw [hb1]; exact hox1 _ (Option.some.inj hres).symm
    have hres := hresO1
    rw [← hy1] at hres
    have l7 : b1.2.length = q0.length := by subst hb1; exact l5
    refine JE.weak (env' := [(1, .int .i64 b1.1)]) (es' := [rowT 2 eI64 a_0 q0.length c_0 b1.2]) [0] ?_ ⟨(by subst hb1; rfl), trivial⟩ (by decide) (by subst hb1; rfl)
    refine JE.code ?_
    refine JX.seq ?_
    refine JX.region ?_
    refine JL.val (yl_move rfl) rfl ?_
    refine JL.val (yl_assign rfl) rfl ?_
    refine JL.nil ?_
    refine JE.code ?_
    refine JX.ret ?_
    obtain rfl := Option.some.inj hres
    refine JE.ret (rs := [.tmp 4]) (vs := [.int .i64 b1.1]) rfl ⟨rfl, trivial⟩ ?_
    exact fun w' hb hs => ⟨_, _, _, ⟨l7, rfl, rfl, rfl⟩, rfl, hb, hs.sel [0] _ (by decide) rfl⟩

/- spec.l00In -/
def sh65 (q0 : Int) (q1 : Int) (q2 : Int) : Option (Bool) := some ((decide (q1 ≤ q0)) && (decide (q0 ≤ q2)))
def T65 (r : Bool) (v : Value) (rs : List Own) : Prop := v = rets [.bool r] ∧ rs = []
set_option maxRecDepth 100000 in
theorem c65 {w : World} {q0 : Int} {q1 : Int} {q2 : Int} {r : Bool} (hres : sh65 q0 q1 q2 = some r) : Calls Go.Proofs.Try.prog 65 [.int .i64 q0, .int .i64 q1, .int .i64 q2].toArray w (Ret w (T65 r)) := by
  unfold sh65 at hres
  refine calls_of (n := 15) (M := []) (es := []) Go.Proofs.Try.func65 rfl rfl rfl (Sep.nil _ _ _) ?_
  refine JX.seq ?_
  refine JX.region ?_
  refine JL.val (yl_assign rfl) rfl ?_
  refine JL.nil ?_
  refine JE.code ?_
  refine JX.seq ?_
  refine JX.region ?_
  refine JL.val (yl_move rfl) rfl ?_
  refine JL.val (yl_move rfl) rfl ?_
  refine JL.val (yl_geq rfl rfl) rfl ?_
  refine JL.val (yl_move rfl) rfl ?_
  refine JL.cut (K := fun J => J [(14, .bool ((decide (q1 ≤ q0)) && (decide (q0 ≤ q2))))] []) 4 ?_ ?_
  · refine JL.val (yl_assign rfl) rfl ?_
    refine JL.nil ?_
    refine JE.weak (env' := [(6, .bool ((decide (q1 ≤ q0)) && (decide (q0 ≤ q2))))]) (es' := []) [] ?_ ⟨rfl, trivial⟩ (by decide) rfl
    refine JE.code ?_
    refine JX.ret ?_
    obtain rfl := Option.some.inj hres
    refine JE.ret (rs := [.tmp 6]) (vs := [.bool ((decide (q1 ≤ q0)) && (decide (q0 ≤ q2)))]) rfl ⟨rfl, trivial⟩ ?_
    exact fun w' hb hs => ⟨_, _, ⟨rfl, rfl⟩, rfl, hb, hs.sel [] _ (by decide) rfl⟩
  · intro K
    rcases Bool.eq_false_or_eq_true (decide (q1 ≤ q0)) with hb | hb
    · refine JL.set (d := 10) (v := .bool true) (congrArg (fun b => some (Value.bool b)) hb) ?_
      refine JL.gval rfl rfl (yl_move rfl) rfl ?_
      refine JL.gval rfl rfl (yl_move rfl) rfl ?_
      refine JL.gval rfl rfl (yl_leq rfl rfl) rfl ?_
      refine JL.val (yl_pick_true rfl rfl) rfl ?_
      exact JL.weak [] K ⟨(by rw [hb]; rfl), trivial⟩ (by decide) rfl
    · refine JL.set (d := 10) (v := .bool false) (congrArg (fun b => some (Value.bool b)) hb) ?_
      refine JL.gskip rfl rfl rfl rfl ?_
      refine JL.gskip rfl rfl rfl rfl ?_
      refine JL.gskip rfl rfl rfl rfl ?_
      refine JL.val (yl_pick_false rfl rfl) rfl ?_
      exact JL.weak [] K ⟨(by rw [hb]; rfl), trivial⟩ (by decide) rfl

/- spec.l23Ok -/
def sh69_1 (q0 : Int) (q1 : List Int) : Int → Option (Int ⊕ (Unit ⊕ Bool))
  | x2 => bif decide (x2 < (q1.length : Int)) then (Option.bind (getI q1 x2) fun x3 => Option.bind (bif x3 == 0 then (some true) else (Option.bind (getI q1 x2) fun x5 => Option.bind (sh65 x5 (w64 (1 - q0)) (w64 (q0 - 1))) fun x6 => some !x6)) fun c4 => (bif c4 then (some (.inr (.inr false))) else (some (.inl (w64 (x2 + 1)))))) else (some (.inr (.inl ())))
def sh69 (q0 : Int) (q1 : List Int) : Option (Bool) := Option.bind (sh65 q0 2 12) fun x1 => bif !x1 || (decide (200 < (q1.length : Int))) then (some false) else (Option.bind (iter (sh69_1 q0 q1) 0) fun y1 => elimS y1 (fun r => some r) fun b1 => (some true))
def T69 (r : Bool) (v : Value) (rs : List Own) : Prop := v = rets [.bool r] ∧ rs = []
set_option maxRecDepth 100000 in
theorem c69 {w : World} {q0 : Int} {q1 : List Int} {a_1 : Option Addr} {n_1 c_1 : Nat} (g_1 : Rd w a_1 (eI64.fl q1)) (l_1 : q1.length = n_1) (k_1 : n_1 ≤ c_1) {r : Bool} (hres : sh69 q0 q1 = some r) : Calls Go.Proofs.Try.prog 69 [.int .i64 q0, .slice a_1 n_1 c_1].toArray w (Ret w (T69 r)) := by
  subst l_1
  unfold sh69 at hres
  refine calls_of (n := 37) (M := []) (es := []) Go.Proofs.Try.func69 rfl rfl rfl (Sep.nil _ _ _) ?_
  refine JX.seq ?_
  refine JX.region ?_
  refine JL.val (yl_assign rfl) rfl ?_
  refine JL.nil ?_
  refine JE.code ?_
  refine JX.seq ?_
  refine JX.seq ?_
  refine JX.region ?_
  refine JL.val (yl_move rfl) rfl ?_
  obtain ⟨x1, hx1, hres⟩ := bind_some hres
  refine JL.eff (ef_call (T := T65 x1) Go.Proofs.Try.func65 rfl (by kernel_rfl) rfl (fun w hC => c65  hx1)) rfl ?_
  rintro _ _ ⟨_, ⟨rfl, rfl⟩, rfl⟩
  refine JL.val (yl_not rfl) rfl ?_
  refine JL.val (yl_move rfl) rfl ?_
  refine JL.cut (K := fun J => J [(0, .int .i64 q0), (1, .slice a_1 q1.length c_1), (13, .bool (!x1 || (decide (200 < (q1.length : Int)))))] []) 4 ?_ ?_
  · refine JL.nil ?_
    refine JE.weak (env' := [(0, .int .i64 q0), (1, .slice a_1 q1.length c_1), (13, .bool (!x1 || (decide (200 < (q1.length : Int)))))]) (es' := []) [] ?_ ⟨rfl, rfl, rfl, trivial⟩ (by decide) rfl
    refine JE.code ?_
    rcases cond_some hres with ⟨hb, hres⟩ | ⟨hb, hres⟩
    · refine JX.condT rfl hb ?_
      refine JX.seq ?_
      refine JX.region ?_
      refine JL.val (yl_assign rfl) rfl ?_
      refine JL.nil ?_
      refine JE.code ?_
      refine JX.ret ?_
      obtain rfl := Option.some.inj hres
      refine JE.ret (rs := [.tmp 4]) (vs := [.bool false]) rfl ⟨rfl, trivial⟩ ?_
      exact fun w' hb hs => ⟨_, _, ⟨rfl, rfl⟩, rfl, hb, hs.sel [] _ (by decide) rfl⟩
    · refine JX.condF rfl hb ?_
      refine JX.skip ?_
      refine JE.code ?_
      refine JX.seq ?_
      refine JX.seq ?_
      refine JX.region ?_
      refine JL.val (yl_assign rfl) rfl ?_
      refine JL.nil ?_
      refine JE.code ?_
      refine JX.block ?_
      obtain ⟨y1, hy1, hresO1⟩ := bind_some hres
      refine JX.loop (I := fun (s1 : Int) aa ww => St w [] 37 [(0, .int .i64 q0), (1, .slice a_1 q1.length c_1), (5, .int .i64 s1)] [] aa ww) (sh69_1 q0 q1) hy1 (fun a w h => h.weak ⟨rfl, rfl, rfl, trivial⟩ [] (by decide) rfl) ?_
      rintro x2 o1 hres hox1 aa ww hS
      refine (?_ : JX Go.Proofs.Try.prog w [] 37 _ _ [(0, .int .i64 q0), (1, .slice a_1 q1.length c_1), (5, .int .i64 x2)] [] _) aa ww hS
      clear hS
      unfold sh69_1 at hres
      refine JX.seq ?_
      refine JX.seq ?_
      refine JX.region ?_
      refine JL.val (yl_move rfl) rfl ?_
      refine JL.val (yl_move rfl) rfl ?_
      refine JL.val (yl_len_slice Go.Proofs.Try.underlying35 rfl) rfl ?_
      refine JL.val (yl_lss rfl rfl) rfl ?_
      refine JL.nil ?_
      refine JE.weak (env' := [(0, .int .i64 q0), (1, .slice a_1 q1.length c_1), (5, .int .i64 x2), (17, .bool (decide (x2 < (q1.length : Int))))]) (es' := []) [] ?_ ⟨rfl, rfl, rfl, rfl, trivial⟩ (by decide) rfl
      refine JE.code ?_
      rcases cond_some hres with ⟨hb, hres⟩ | ⟨hb, hres⟩
      · refine JX.condT rfl hb ?_
        refine JX.skip ?_
        refine JE.code ?_
        refine JX.seq ?_
        refine JX.block ?_
        refine JX.seq ?_
        refine JX.region ?_
        refine JL.val (yl_move rfl) rfl ?_
        refine JL.val (yl_move rfl) rfl ?_
        obtain ⟨x3, hx3, hres⟩ := bind_some hres
        refine JL.val (yl_idxT Go.Proofs.Try.underlying35 i2 i2s rfl rfl hx3 rfl (fun w hC => rd_arg g_1 hC)) rfl ?_
        refine JL.val (yl_loadT0 Go.Proofs.Try.underlying2 rfl rfl hx3 (fun w hC => rd_arg g_1 hC) rfl) rfl ?_
        refine JL.val (yl_eql rfl rfl) rfl ?_
        refine JL.val (yl_move rfl) rfl ?_
        obtain ⟨c4, hc4, hres⟩ := bind_some hres
        refine JL.cut (K := fun J => J [(0, .int .i64 q0), (1, .slice a_1 q1.length c_1), (5, .int .i64 x2), (36, .bool c4)] []) 11 ?_ ?_
        · refine JL.nil ?_
          refine JE.weak (env' := [(0, .int .i64 q0), (1, .slice a_1 q1.length c_1), (5, .int .i64 x2), (36, .bool c4)]) (es' := []) [] ?_ ⟨rfl, rfl, rfl, rfl, trivial⟩ (by decide) rfl
          refine JE.code ?_
          rcases cond_some hres with ⟨hb, hres⟩ | ⟨hb, hres⟩
          · refine JX.condT rfl hb ?_
            refine JX.seq ?_
            refine JX.region ?_
            refine JL.val (yl_assign rfl) rfl ?_
            refine JL.nil ?_
            refine JE.code ?_
            refine JX.ret ?_
            refine JE.qbr ?_
            refine JE.qbr ?_
            have hres := elimS_inr hresO1 (hox1 _ (Option.some.inj hres).symm)
            obtain rfl := Option.some.inj hres
            refine JE.ret (rs := [.tmp 4]) (vs := [.bool false]) rfl ⟨rfl, trivial⟩ ?_
            exact fun w' hb hs => ⟨_, _, ⟨rfl, rfl⟩, rfl, hb, hs.sel [] _ (by decide) rfl⟩
          · refine JX.condF rfl hb ?_
            refine JX.skip ?_
            refine JE.code ?_
            refine JX.region ?_
            refine JL.val (yl_move rfl) rfl ?_
            refine JL.val (yl_add rfl rfl) rfl ?_
            refine JL.val (yl_assign rfl) rfl ?_
            refine JL.nil ?_
            refine JE.cont hres ?_
            exact fun a w h => h.weak ⟨rfl, rfl, rfl, trivial⟩ [] (by decide) rfl
        · intro K
          rcases cond_some hc4 with ⟨hb, hres⟩ | ⟨hb, hres⟩
          · refine JL.set (d := 25) (v := .bool true) (congrArg (fun b => some (Value.bool b)) hb) ?_
            refine JL.gskip rfl rfl rfl rfl ?_
            refine JL.gskip rfl rfl rfl rfl ?_
            refine JL.gskip rfl rfl rfl rfl ?_
            refine JL.gskip rfl rfl rfl rfl ?_
            refine JL.gskip rfl rfl rfl rfl ?_
            refine JL.gskip rfl rfl rfl rfl ?_
            refine JL.gskip rfl rfl rfl rfl ?_
            refine JL.gskip rfl rfl rfl rfl ?_
            refine JL.gskip rfl rfl rfl rfl ?_
            refine JL.gskip rfl rfl rfl rfl ?_
            refine JL.val (yl_pick_true rfl rfl) rfl ?_
            have he := Option.some.inj hres
            exact JL.weak [] K ⟨rfl, rfl, rfl, (by rw [← he]; rfl), trivial⟩ (by decide) rfl
          · refine JL.set (d := 25) (v := .bool false) (congrArg (fun b => some (Value.bool b)) hb) ?_
            refine JL.gval rfl rfl (yl_move rfl) rfl ?_
            refine JL.gval rfl rfl (yl_move rfl) rfl ?_
            obtain ⟨x5, hx5, hres⟩ := bind_some hres
            refine JL.gval rfl rfl (yl_idxT Go.Proofs.Try.underlying35 i2 i2s rfl rfl hx5 rfl (fun w hC => rd_arg g_1 hC)) rfl ?_
            refine JL.gval rfl rfl (yl_loadT0 Go.Proofs.Try.underlying2 rfl rfl hx5 (fun w hC => rd_arg g_1 hC) rfl) rfl ?_
            refine JL.gval rfl rfl (yl_move rfl) rfl ?_
            refine JL.gval rfl rfl (yl_sub rfl rfl) rfl ?_
            refine JL.gval rfl rfl (yl_move rfl) rfl ?_
            refine JL.gval rfl rfl (yl_sub rfl rfl) rfl ?_
            obtain ⟨x6, hx6, hres⟩ := bind_some hres
            refine JL.geff rfl rfl (ef_call (T := T65 x6) Go.Proofs.Try.func65 rfl (by kernel_rfl) rfl (fun w hC => c65  hx6)) rfl ?_
            rintro _ _ ⟨_, ⟨rfl, rfl⟩, rfl⟩
            refine JL.gval rfl rfl (yl_not rfl) rfl ?_
            refine JL.val (yl_pick_false rfl rfl) rfl ?_
            have he := Option.some.inj hres
            exact JL.weak [] K ⟨rfl, rfl, rfl, (by rw [← he]; rfl), trivial⟩ (by decide) rfl
      · refine JX.condF rfl hb ?_
        refine JX.exit ?_
        refine JE.qb rfl ?_
        obtain ⟨b1, hb1⟩ : ∃ b : Unit, b = () := ⟨_, rfl⟩
        have hy1 : Sum.inl b1 = y1 := by rw [hb1]; exact hox1 _ (Option.some.inj hres).symm
        have hres := elimS_inl hresO1 hy1
        refine JE.weak (env' := []) (es' := []) [] ?_ trivial (by decide) (by subst hb1; rfl)
        refine JE.code ?_
        refine JX.seq ?_
        refine JX.region ?_
        refine JL.val (yl_assign rfl) rfl ?_
        refine JL.nil ?_
        refine JE.code ?_
        refine JX.ret ?_
        obtain rfl := Option.some.inj hres
        refine JE.ret (rs := [.tmp 4]) (vs := [.bool true]) rfl ⟨rfl, trivial⟩ ?_
        exact fun w' hb hs => ⟨_, _, ⟨rfl, rfl⟩, rfl, hb, hs.sel [] _ (by decide) rfl⟩
  · intro K
    rcases Bool.eq_false_or_eq_true (!x1) with hb | hb
    · refine JL.set (d := 9) (v := .bool true) (congrArg (fun b => some (Value.bool b)) hb) ?_
      refine JL.gskip rfl rfl rfl rfl ?_
      refine JL.gskip rfl rfl rfl rfl ?_
      refine JL.gskip rfl rfl rfl rfl ?_
      refine JL.val (yl_pick_true rfl rfl) rfl ?_
      exact JL.weak [] K ⟨rfl, rfl, (by rw [hb]; rfl), trivial⟩ (by decide) rfl
    · refine JL.set (d := 9) (v := .bool false) (congrArg (fun b => some (Value.bool b)) hb) ?_
      refine JL.gval rfl rfl (yl_move rfl) rfl ?_
      refine JL.gval rfl rfl (yl_len_slice Go.Proofs.Try.underlying35 rfl) rfl ?_
      refine JL.gval rfl rfl (yl_gtr rfl rfl) rfl ?_
      refine JL.val (yl_pick_false rfl rfl) rfl ?_
      exact JL.weak [] K ⟨rfl, rfl, (by rw [hb]; rfl), trivial⟩ (by decide) rfl

/- spec.l00Max -/
def sh71 (q0 : Int) (q1 : Int) : Option (Int) := bif decide (q1 < q0) then (some q0) else (some q1)
def T71 (r : Int) (v : Value) (rs : List Own) : Prop := v = rets [.int .i64 r] ∧ rs = []
set_option maxRecDepth 100000 in
theorem c71 {w : World} {q0 : Int} {q1 : Int} {r : Int} (hres : sh71 q0 q1 = some r) : Calls Go.Proofs.Try.prog 71 [.int .i64 q0, .int .i64 q1].toArray w (Ret w (T71 r)) := by
  unfold sh71 at hres
  refine calls_of (n := 10) (M := []) (es := []) Go.Proofs.Try.func71 rfl rfl rfl (Sep.nil _ _ _) ?_
  refine JX.seq ?_
  refine JX.region ?_
  refine JL.val (yl_assign rfl) rfl ?_
  refine JL.nil ?_
  refine JE.code ?_
  refine JX.seq ?_
  refine JX.seq ?_
  refine JX.region ?_
  refine JL.val (yl_move rfl) rfl ?_
  refine JL.val (yl_move rfl) rfl ?_
  refine JL.val (yl_gtr rfl rfl) rfl ?_
  refine JL.nil ?_
  refine JE.code ?_
  rcases cond_some hres with ⟨hb, hres⟩ | ⟨hb, hres⟩
  · refine JX.condT rfl hb ?_
    refine JX.seq ?_
    refine JX.region ?_
    refine JL.val (yl_move rfl) rfl ?_
    refine JL.val (yl_assign rfl) rfl ?_
    refine JL.nil ?_
    refine JE.code ?_
    refine JX.ret ?_
    obtain rfl := Option.some.inj hres
    refine JE.ret (rs := [.tmp 4]) (vs := [.int .i64 q0]) rfl ⟨rfl, trivial⟩ ?_
    exact fun w' hb hs => ⟨_, _, ⟨rfl, rfl⟩, rfl, hb, hs.sel [] _ (by decide) rfl⟩
  · refine JX.condF rfl hb ?_
    refine JX.skip ?_
    refine JE.code ?_
    refine JX.seq ?_
    refine JX.region ?_
    refine JL.val (yl_move rfl) rfl ?_
    refine JL.val (yl_assign rfl) rfl ?_
    refine JL.nil ?_
    refine JE.code ?_
    refine JX.ret ?_
    obtain rfl := Option.some.inj hres
    refine JE.ret (rs := [.tmp 4]) (vs := [.int .i64 q1]) rfl ⟨rfl, trivial⟩ ?_
    exact fun w' hb hs => ⟨_, _, ⟨rfl, rfl⟩, rfl, hb, hs.sel [] _ (by decide) rfl⟩

/- spec.l15Size -/
def sh70 (q0 : Int) : Option (Int) := Option.bind (sh71 q0 (w64 (0 - q0))) fun x1 => some x1
def T70 (r : Int) (v : Value) (rs : List Own) : Prop := v = rets [.int .i64 r] ∧ rs = []
set_option maxRecDepth 100000 in
theorem c70 {w : World} {q0 : Int} {r : Int} (hres : sh70 q0 = some r) : Calls Go.Proofs.Try.prog 70 [.int .i64 q0].toArray w (Ret w (T70 r)) := by
  unfold sh70 at hres
  refine calls_of (n := 7) (M := []) (es := []) Go.Proofs.Try.func70 rfl rfl rfl (Sep.nil _ _ _) ?_
  refine JX.seq ?_
  refine JX.region ?_
  refine JL.val (yl_assign rfl) rfl ?_
  refine JL.nil ?_
  refine JE.code ?_
  refine JX.seq ?_
  refine JX.region ?_
  refine JL.val (yl_move rfl) rfl ?_
  refine JL.val (yl_move rfl) rfl ?_
  refine JL.val (yl_neg rfl) rfl ?_
  obtain ⟨x1, hx1, hres⟩ := bind_some hres
  refine JL.eff (ef_call (T := T71 x1) Go.Proofs.Try.func71 rfl (by kernel_rfl) rfl (fun w hC => c71  hx1)) rfl ?_
  rintro _ _ ⟨_, ⟨rfl, rfl⟩, rfl⟩
  refine JL.val (yl_assign rfl) rfl ?_
  refine JL.nil ?_
  refine JE.weak (env' := [(2, .int .i64 x1)]) (es' := []) [] ?_ ⟨rfl, trivial⟩ (by decide) rfl
  refine JE.code ?_
  refine JX.ret ?_
  obtain rfl := Option.some.inj hres
  refine JE.ret (rs := [.tmp 2]) (vs := [.int .i64 x1]) rfl ⟨rfl, trivial⟩ ?_
  exact fun w' hb hs => ⟨_, _, ⟨rfl, rfl⟩, rfl, hb, hs.sel [] _ (by decide) rfl⟩

/- spec.PlaitPicture -/
def sh45_2 (q0 : Int) : (Int × List Int) → Option ((Int × List Int) ⊕ (List Int))
  | (x15, x16) => bif decide (x15 < q0) then (Option.bind (appL x16 [124, 32]) fun x21 => some (.inl (w64 (x15 + 1), x21))) else (some (.inr x16))
def sh45_1 (q0 : Int) (q1 : List Int) : (Int × List ByteArray) → Option ((Int × List ByteArray) ⊕ (List ByteArray))
  | (x7, x8) => bif decide (x7 < (q1.length : Int)) then (Option.bind (iter (sh45_2 q0) (0, ([] : List Int))) fun b2 => (Option.bind (getI q1 x7) fun x26 => Option.bind (sh70 x26) fun x27 => Option.bind (getI b2 (w64 ((w64 (2 * x27)) - 2))) fun x28 => Option.bind (getI (b2.set (w64 ((w64 (2 * x27)) - 2)).toNat 92) (w64 (2 * x27))) fun x29 => Option.bind (getI ((b2.set (w64 ((w64 (2 * x27)) - 2)).toNat 92).set (w64 (2 * x27)).toNat 47) (w64 ((w64 (2 * x27)) - 1))) fun x30 => Option.bind (getI q1 x7) fun x31 => Option.bind (bif decide (x31 < 0) then (Option.bind (getI (((b2.set (w64 ((w64 (2 * x27)) - 2)).toNat 92).set (w64 (2 * x27)).toNat 47).set (w64 ((w64 (2 * x27)) - 1)).toNat 43) (w64 ((w64 (2 * x27)) - 1))) fun x40 => some ((((b2.set (w64 ((w64 (2 * x27)) - 2)).toNat 92).set (w64 (2 * x27)).toNat 47).set (w64 ((w64 (2 * x27)) - 1)).toNat 43).set (w64 ((w64 (2 * x27)) - 1)).toNat 45)) else (some (((b2.set (w64 ((w64 (2 * x27)) - 2)).toNat 92).set (w64 (2 * x27)).toNat 47).set (w64 ((w64 (2 * x27)) - 1)).toNat 43))) fun j32 => (Option.bind (takeL j32 (w64 ((w64 (2 * q0)) - 1))) fun x34 => Option.bind (appL x8 [bytesS x34]) fun x37 => some (.inl (w64 (x7 + 1), x37))))) else (some (.inr x8))
def sh45 (q0 : Int) (q1 : List Int) : Option (List ByteArray × Int) := Option.bind (sh69 q0 q1) fun x1 => bif !x1 then (some (([] : List ByteArray), 1)) else (Option.bind (iter (sh45_1 q0 q1) (0, ([] : List ByteArray))) fun b1 => (some (b1, 0)))
def T45 (r : List ByteArray × Int) (v : Value) (rs : List Own) : Prop := ∃ (a0 : Option Addr) (n0 c0 : Nat), r.1.length = n0 ∧ v = rets [.slice a0 n0 c0, .int .i64 r.2] ∧ rs = [rowT 9 eStr a0 n0 c0 r.1]
set_option maxRecDepth 100000 in
theorem c45 {w : World} {q0 : Int} {q1 : List Int} {a_1 : Option Addr} {n_1 c_1 : Nat} (g_1 : Rd w a_1 (eI64.fl q1)) (l_1 : q1.length = n_1) (k_1 : n_1 ≤ c_1) {r : List ByteArray × Int} (hres : sh45 q0 q1 = some r) : Calls Go.Proofs.Try.prog 45 [.int .i64 q0, .slice a_1 n_1 c_1].toArray w (Ret w (T45 r)) := by
  subst l_1
  unfold sh45 at hres
  refine calls_of (n := 70) (M := []) (es := []) Go.Proofs.Try.func45 rfl rfl rfl (Sep.nil _ _ _) ?_
  refine JX.seq ?_
  refine JX.region ?_
  refine JL.val (yl_assign rfl) rfl ?_
  refine JL.val (yl_assign rfl) rfl ?_
  refine JL.nil ?_
  refine JE.code ?_
  refine JX.seq ?_
  refine JX.seq ?_
  refine JX.region ?_
  refine JL.val (yl_move rfl) rfl ?_
  refine JL.val (yl_move rfl) rfl ?_
  obtain ⟨x1, hx1, hres⟩ := bind_some hres
  refine JL.eff (ef_call (T := T69 x1) Go.Proofs.Try.func69 rfl (by kernel_rfl) rfl (fun w hC => c69 (rd_arg g_1 hC) rfl k_1 hx1)) rfl ?_
  rintro _ _ ⟨_, ⟨rfl, rfl⟩, rfl⟩
  refine JL.val (yl_not rfl) rfl ?_
  refine JL.nil ?_
  refine JE.weak (env' := [(0, .int .i64 q0), (1, .slice a_1 q1.length c_1), (14, .bool !x1)]) (es' := []) [] ?_ ⟨rfl, rfl, rfl, trivial⟩ (by decide) rfl
  refine JE.code ?_
  rcases cond_some hres with ⟨hb, hres⟩ | ⟨hb, hres⟩
  · refine JX.condT rfl hb ?_
    refine JX.seq ?_
    refine JX.region ?_
    refine JL.val (yl_assign rfl) rfl ?_
    refine JL.val (yl_assign rfl) rfl ?_
    refine JL.nil ?_
    refine JE.code ?_
    refine JX.ret ?_
    refine JE.nilrow 9 eStr ?_
    obtain rfl := Option.some.inj hres
    refine JE.ret (rs := [.tmp 4, .tmp 5]) (vs := [.slice none 0 0, .int .i64 1]) rfl ⟨rfl, rfl, trivial⟩ ?_
    exact fun w' hb hs => ⟨_, _, ⟨none, 0, 0, rfl, rfl, rfl⟩, rfl, hb, hs.sel [0] _ (by decide) rfl⟩
  · refine JX.condF rfl hb ?_
    refine JX.skip ?_
    refine JE.code ?_
    refine JX.seq ?_
    refine JX.region ?_
    refine JL.eff (ef_buildSlice (E := 9) (k := eStr.k) (us := eStr.fl ([] : List ByteArray)) rfl (fun w => bsl61_0  w) rfl (by decide)) rfl ?_
    rintro _ _ ⟨a3, rfl, rfl⟩
    refine JL.val (yl_assign rfl) rfl ?_
    refine JL.nil ?_
    refine JE.code ?_
    refine JX.seq ?_
    refine JX.seq ?_
    refine JX.region ?_
    refine JL.val (yl_assign rfl) rfl ?_
    refine JL.nil ?_
    refine JE.code ?_
    refine JX.block ?_
    obtain ⟨y1, hy1, hresO1⟩ := bind_some hres
    refine JX.loop (I := fun (s1 : Int × List ByteArray) aa ww => ∃ (a5 : Option Addr) (cp6 : Nat), St w [] 70 [(0, .int .i64 q0), (1, .slice a_1 q1.length c_1), (6, .slice a5 s1.2.length cp6), (7, .int .i64 s1.1)] [rowT 9 eStr a5 s1.2.length cp6 s1.2] aa ww) (sh45_1 q0 q1) hy1 (fun a w h => ⟨a3, 0, h.weak ⟨rfl, rfl, rfl, rfl, trivial⟩ [0] (by decide) rfl⟩) ?_
    rintro ⟨x7, x8⟩ o1 hres hox1 aa ww ⟨a9, cp10, hS⟩
    refine (?_ : JX Go.Proofs.Try.prog w [] 70 _ _ [(0, .int .i64 q0), (1, .slice a_1 q1.length c_1), (6, .slice a9 x8.length cp10), (7, .int .i64 x7)] [rowT 9 eStr a9 x8.length cp10 x8] _) aa ww hS
    clear hS
    simp only [sh45_1] at hres
    refine JX.seq ?_
    refine JX.seq ?_
    refine JX.region ?_
    refine JL.val (yl_move rfl) rfl ?_
    refine JL.val (yl_move rfl) rfl ?_
    refine JL.val (yl_len_slice Go.Proofs.Try.underlying35 rfl) rfl ?_
    refine JL.val (yl_lss rfl rfl) rfl ?_
    refine JL.nil ?_
    refine JE.weak (env' := [(0, .int .i64 q0), (1, .slice a_1 q1.length c_1), (6, .slice a9 x8.length cp10), (7, .int .i64 x7), (19, .bool (decide (x7 < (q1.length : Int))))]) (es' := [rowT 9 eStr a9 x8.length cp10 x8]) [0] ?_ ⟨rfl, rfl, rfl, rfl, rfl, trivial⟩ (by decide) rfl
    refine JE.code ?_
    rcases cond_some hres with ⟨hb, hres⟩ | ⟨hb, hres⟩
    · refine JX.condT rfl hb ?_
      refine JX.skip ?_
      refine JE.code ?_
      refine JX.seq ?_
      refine JX.block ?_
      refine JX.seq ?_
      refine JX.region ?_
      refine JL.eff (ef_buildSlice (E := 5) (k := eU8.k) (us := eU8.fl ([] : List Int)) rfl (fun w => bsl100_0  w) rfl (by decide)) rfl ?_
      rintro _ _ ⟨a11, rfl, rfl⟩
      refine JL.val (yl_assign rfl) rfl ?_
      refine JL.nil ?_
      refine JE.code ?_
      refine JX.seq ?_
      refine JX.seq ?_
      refine JX.region ?_
      refine JL.val (yl_assign rfl) rfl ?_
      refine JL.nil ?_
      refine JE.code ?_
      refine JX.block ?_
      obtain ⟨y2, hy2, hresO2⟩ := bind_some hres
      refine JX.loop (I := fun (s2 : Int × List Int) aa ww => ∃ (a13 : Option Addr) (cp14 : Nat), St w [] 70 [(0, .int .i64 q0), (1, .slice a_1 q1.length c_1), (6, .slice a9 x8.length cp10), (7, .int .i64 x7), (8, .slice a13 s2.2.length cp14), (9, .int .i64 s2.1)] [rowT 9 eStr a9 x8.length cp10 x8, rowT 5 eU8 a13 s2.2.length cp14 s2.2] aa ww) (sh45_2 q0) hy2 (fun a w h => ⟨a11, 0, h.weak ⟨rfl, rfl, rfl, rfl, rfl, rfl, trivial⟩ [0, 1] (by decide) rfl⟩) ?_
      rintro ⟨x15, x16⟩ o2 hres hox2 aa ww ⟨a17, cp18, hS⟩
      refine (?_ : JX Go.Proofs.Try.prog w [] 70 _ _ [(0, .int .i64 q0), (1, .slice a_1 q1.length c_1), (6, .slice a9 x8.length cp10), (7, .int .i64 x7), (8, .slice a17 x16.length cp18), (9, .int .i64 x15)] [rowT 9 eStr a9 x8.length cp10 x8, rowT 5 eU8 a17 x16.length cp18 x16] _) aa ww hS
      clear hS
      simp only [sh45_2] at hres
      refine JX.seq ?_
      refine JX.seq ?_
      refine JX.region ?_
      refine JL.val (yl_move rfl) rfl ?_
      refine JL.val (yl_move rfl) rfl ?_
      refine JL.val (yl_lss rfl rfl) rfl ?_
      refine JL.nil ?_
      refine JE.code ?_
      rcases cond_some hres with ⟨hb, hres⟩ | ⟨hb, hres⟩
      · refine JX.condT rfl hb ?_
        refine JX.skip ?_
        refine JE.code ?_
        refine JX.seq ?_
        refine JX.block ?_
        refine JX.region ?_
        refine JL.val (yl_move rfl) rfl ?_
        refine JL.eff (ef_buildSlice (E := 5) (k := eU8.k) (us := eU8.fl [124, 32]) rfl (fun w => bsl100_2 124 32 w) rfl (by decide)) rfl ?_
        rintro _ _ ⟨a19, rfl, rfl⟩
        obtain ⟨x21, hx21, hres⟩ := bind_some hres
        refine JL.eff (ef_appendT (ix := 1) Go.Proofs.Try.underlying100 i5 i5z i5s rfl i5b0 i5b1 rfl rfl rfl rfl rfl (fun w hC => rd_row hC 2 rfl) hx21) rfl ?_
        rintro _ _ ⟨a22, cp23, rfl, rfl⟩
        refine JL.val (yl_assign rfl) rfl ?_
        refine JL.nil ?_
        refine JE.weak (env' := [(0, .int .i64 q0), (1, .slice a_1 q1.length c_1), (6, .slice a9 x8.length cp10), (7, .int .i64 x7), (8, .slice a22 x21.length cp23), (9, .int .i64 x15)]) (es' := [rowT 9 eStr a9 x8.length cp10 x8, rowT 5 eU8 a22 x21.length cp23 x21]) [0, 1] ?_ ⟨rfl, rfl, rfl, rfl, rfl, rfl, trivial⟩ (by decide) rfl
        refine JE.code ?_
        refine JX.region ?_
        refine JL.val (yl_move rfl) rfl ?_
        refine JL.val (yl_add rfl rfl) rfl ?_
        refine JL.val (yl_assign rfl) rfl ?_
        refine JL.nil ?_
        refine JE.cont hres ?_
        exact fun a w h => ⟨a22, cp23, h.weak ⟨rfl, rfl, rfl, rfl, rfl, rfl, trivial⟩ [0, 1] (by decide) rfl⟩
      · refine JX.condF rfl hb ?_
        refine JX.exit ?_
        refine JE.qb rfl ?_
        obtain ⟨b2, hb2⟩ : ∃ b : List Int, b = x16 := ⟨_, rfl⟩
        have hy2 : b2 = y2 := by rw [hb2]; exact hox2 _ (Option.some.inj hres).symm
        have hres := hresO2
        rw [← hy2] at hres
        refine JE.weak (env' := [(0, .int .i64 q0), (1, .slice a_1 q1.length c_1), (6, .slice a9 x8.length cp10), (7, .int .i64 x7), (8, .slice a17 b2.length cp18)]) (es' := [rowT 9 eStr a9 x8.length cp10 x8, rowT 5 eU8 a17 b2.length cp18 b2]) [0, 1] ?_ ⟨(by subst hb2; rfl), (by subst hb2; rfl), (by subst hb2; rfl), (by subst hb2; rfl), (by subst hb2; rfl), trivial⟩ (by decide) (by subst hb2; rfl)
        refine JE.code ?_
        refine JX.seq ?_
        refine JX.region ?_
        refine JL.val (yl_move rfl) rfl ?_
        refine JL.val (yl_move rfl) rfl ?_
        obtain ⟨x26, hx26, hres⟩ := bind_some hres
        refine JL.val (yl_idxT Go.Proofs.Try.underlying35 i2 i2s rfl rfl hx26 rfl (fun w hC => rd_arg g_1 hC)) rfl ?_
        refine JL.val (yl_loadT0 Go.Proofs.Try.underlying2 rfl rfl hx26 (fun w hC => rd_arg g_1 hC) rfl) rfl ?_
        obtain ⟨x27, hx27, hres⟩ := bind_some hres
        refine JL.eff (ef_call (T := T70 x27) Go.Proofs.Try.func70 rfl (by kernel_rfl) rfl (fun w hC => c70  hx27)) rfl ?_
        rintro _ _ ⟨_, ⟨rfl, rfl⟩, rfl⟩
        refine JL.val (yl_assign rfl) rfl ?_
        refine JL.nil ?_
        refine JE.weak (env' := [(0, .int .i64 q0), (1, .slice a_1 q1.length c_1), (6, .slice a9 x8.length cp10), (7, .int .i64 x7), (8, .slice a17 b2.length cp18), (10, .int .i64 x27)]) (es' := [rowT 9 eStr a9 x8.length cp10 x8, rowT 5 eU8 a17 b2.length cp18 b2]) [0, 1] ?_ ⟨rfl, rfl, rfl, rfl, rfl, rfl, trivial⟩ (by decide) rfl
        refine JE.code ?_
        refine JX.seq ?_
        refine JX.region ?_
        refine JL.val (yl_move rfl) rfl ?_
        refine JL.val (yl_move rfl) rfl ?_
        refine JL.val (yl_mul rfl rfl) rfl ?_
        refine JL.val (yl_sub rfl rfl) rfl ?_
        obtain ⟨x28, hx28, hres⟩ := bind_some hres
        refine JL.val (yl_idxT Go.Proofs.Try.underlying100 i5 i5s rfl rfl hx28 rfl (fun w hC => rd_row hC 1 rfl)) rfl ?_
        refine JL.eff (ef_storeT (ix := 1) (u := 92) i5 i5s rfl rfl rfl hx28 rfl) rfl ?_
        rintro _ _ rfl
        refine JL.nil ?_
        refine JE.weak (env' := [(0, .int .i64 q0), (1, .slice a_1 q1.length c_1), (6, .slice a9 x8.length cp10), (7, .int .i64 x7), (8, .slice a17 b2.length cp18), (10, .int .i64 x27)]) (es' := [rowT 9 eStr a9 x8.length cp10 x8, rowT 5 eU8 a17 b2.length cp18 (b2.set (w64 ((w64 (2 * x27)) - 2)).toNat 92)]) [0, 1] ?_ ⟨rfl, rfl, rfl, rfl, rfl, rfl, trivial⟩ (by decide) rfl
        refine JE.code ?_
        refine JX.seq ?_
        refine JX.region ?_
        refine JL.val (yl_move rfl) rfl ?_
        refine JL.val (yl_move rfl) rfl ?_
        refine JL.val (yl_mul rfl rfl) rfl ?_
        obtain ⟨x29, hx29, hres⟩ := bind_some hres
        refine JL.val (yl_idxT Go.Proofs.Try.underlying100 i5 i5s rfl rfl hx29 List.length_set (fun w hC => rd_row hC 1 rfl)) rfl ?_
        refine JL.eff (ef_storeT (ix := 1) (u := 47) i5 i5s rfl rfl rfl hx29 rfl) rfl ?_
        rintro _ _ rfl
        refine JL.nil ?_
        refine JE.weak (env' := [(0, .int .i64 q0), (1, .slice a_1 q1.length c_1), (6, .slice a9 x8.length cp10), (7, .int .i64 x7), (8, .slice a17 b2.length cp18), (10, .int .i64 x27)]) (es' := [rowT 9 eStr a9 x8.length cp10 x8, rowT 5 eU8 a17 b2.length cp18 ((b2.set (w64 ((w64 (2 * x27)) - 2)).toNat 92).set (w64 (2 * x27)).toNat 47)]) [0, 1] ?_ ⟨rfl, rfl, rfl, rfl, rfl, rfl, trivial⟩ (by decide) rfl
        refine JE.code ?_
        refine JX.seq ?_
        refine JX.region ?_
        refine JL.val (yl_move rfl) rfl ?_
        refine JL.val (yl_move rfl) rfl ?_
        refine JL.val (yl_mul rfl rfl) rfl ?_
        refine JL.val (yl_sub rfl rfl) rfl ?_
        obtain ⟨x30, hx30, hres⟩ := bind_some hres
        refine JL.val (yl_idxT Go.Proofs.Try.underlying100 i5 i5s rfl rfl hx30 (List.length_set.trans List.length_set) (fun w hC => rd_row hC 1 rfl)) rfl ?_
        refine JL.eff (ef_storeT (ix := 1) (u := 43) i5 i5s rfl rfl rfl hx30 rfl) rfl ?_
        rintro _ _ rfl
        refine JL.nil ?_
        refine JE.weak (env' := [(0, .int .i64 q0), (1, .slice a_1 q1.length c_1), (6, .slice a9 x8.length cp10), (7, .int .i64 x7), (8, .slice a17 b2.length cp18), (10, .int .i64 x27)]) (es' := [rowT 9 eStr a9 x8.length cp10 x8, rowT 5 eU8 a17 b2.length cp18 (((b2.set (w64 ((w64 (2 * x27)) - 2)).toNat 92).set (w64 (2 * x27)).toNat 47).set (w64 ((w64 (2 * x27)) - 1)).toNat 43)]) [0, 1] ?_ ⟨rfl, rfl, rfl, rfl, rfl, rfl, trivial⟩ (by decide) rfl
        refine JE.code ?_
        refine JX.seq ?_
        refine JX.seq ?_
        refine JX.region ?_
        refine JL.val (yl_move rfl) rfl ?_
        refine JL.val (yl_move rfl) rfl ?_
        obtain ⟨x31, hx31, hres⟩ := bind_some hres
        refine JL.val (yl_idxT Go.Proofs.Try.underlying35 i2 i2s rfl rfl hx31 rfl (fun w hC => rd_arg g_1 hC)) rfl ?_
        refine JL.val (yl_loadT0 Go.Proofs.Try.underlying2 rfl rfl hx31 (fun w hC => rd_arg g_1 hC) rfl) rfl ?_
        refine JL.val (yl_lss rfl rfl) rfl ?_
        refine JL.nil ?_
        refine JE.weak (env' := [(0, .int .i64 q0), (1, .slice a_1 q1.length c_1), (6, .slice a9 x8.length cp10), (7, .int .i64 x7), (8, .slice a17 b2.length cp18), (10, .int .i64 x27), (54, .bool (decide (x31 < 0)))]) (es' := [rowT 9 eStr a9 x8.length cp10 x8, rowT 5 eU8 a17 b2.length cp18 (((b2.set (w64 ((w64 (2 * x27)) - 2)).toNat 92).set (w64 (2 * x27)).toNat 47).set (w64 ((w64 (2 * x27)) - 1)).toNat 43)]) [0, 1] ?_ ⟨rfl, rfl, rfl, rfl, rfl, rfl, rfl, trivial⟩ (by decide) rfl
        refine JE.code ?_
        obtain ⟨j32, hj32, hresj32⟩ := bind_some hres
        refine JX.cut (K := fun J => ∀ (l33 : j32.length = b2.length), J [(0, .int .i64 q0), (1, .slice a_1 q1.length c_1), (6, .slice a9 x8.length cp10), (7, .int .i64 x7), (8, .slice a17 b2.length cp18)] [rowT 9 eStr a9 x8.length cp10 x8, rowT 5 eU8 a17 b2.length cp18 j32]) ?_ ?_
        · intro l33
          have hres := hresj32
          refine JE.code ?_
          refine JX.region ?_
          refine JL.val (yl_move rfl) rfl ?_
          refine JL.val (yl_move rfl) rfl ?_
          refine JL.val (yl_move rfl) rfl ?_
          refine JL.val (yl_mul rfl rfl) rfl ?_
          refine JL.val (yl_sub rfl rfl) rfl ?_
          obtain ⟨x34, hx34, hres⟩ := bind_some hres
          refine JL.val (yl_takeT Go.Proofs.Try.underlying100 i5 rfl rfl hx34 l33 (fun w hC => ln_row hC 1 rfl)) rfl ?_
          refine JL.takeT 1 hx34 rfl ?_
          refine JL.val (yl_bytesT Go.Proofs.Try.underlying100 Go.Proofs.Try.underlying9 Go.Proofs.Try.underlying5 rfl rfl (fun w hC => rd_row hC 1 rfl)) rfl ?_
          refine JL.eff (ef_buildSlice (E := 9) (k := eStr.k) (us := eStr.fl [bytesS x34]) rfl (fun w => bsl61_1 (bytesS x34) w) rfl (by decide)) rfl ?_
          rintro _ _ ⟨a35, rfl, rfl⟩
          obtain ⟨x37, hx37, hres⟩ := bind_some hres
          refine JL.eff (ef_appendT (ix := 0) Go.Proofs.Try.underlying61 i9 i9z i9s rfl i9b0 i9b1 rfl rfl rfl rfl rfl (fun w hC => rd_row hC 2 rfl) hx37) rfl ?_
          rintro _ _ ⟨a38, cp39, rfl, rfl⟩
          refine JL.val (yl_assign rfl) rfl ?_
          refine JL.nil ?_
          refine JE.weak (env' := [(0, .int .i64 q0), (1, .slice a_1 q1.length c_1), (6, .slice a38 x37.length cp39), (7, .int .i64 x7)]) (es' := [rowT 9 eStr a38 x37.length cp39 x37]) [0] ?_ ⟨rfl, rfl, rfl, rfl, trivial⟩ (by decide) rfl
          refine JE.code ?_
          refine JX.region ?_
          refine JL.val (yl_move rfl) rfl ?_
          refine JL.val (yl_add rfl rfl) rfl ?_
          refine JL.val (yl_assign rfl) rfl ?_
          refine JL.nil ?_
          refine JE.cont hres ?_
          exact fun a w h => ⟨a38, cp39, h.weak ⟨rfl, rfl, rfl, rfl, trivial⟩ [0] (by decide) rfl⟩
        · intro K
          rcases cond_some hj32 with ⟨hb, hres⟩ | ⟨hb, hres⟩
          · refine JX.condT rfl hb ?_
            refine JX.region ?_
            refine JL.val (yl_move rfl) rfl ?_
            refine JL.val (yl_move rfl) rfl ?_
            refine JL.val (yl_mul rfl rfl) rfl ?_
            refine JL.val (yl_sub rfl rfl) rfl ?_
            obtain ⟨x40, hx40, hres⟩ := bind_some hres
            refine JL.val (yl_idxT Go.Proofs.Try.underlying100 i5 i5s rfl rfl hx40 (List.length_set.trans (List.length_set.trans List.length_set)) (fun w hC => rd_row hC 1 rfl)) rfl ?_
            refine JL.eff (ef_storeT (ix := 1) (u := 45) i5 i5s rfl rfl rfl hx40 rfl) rfl ?_
            rintro _ _ rfl
            refine JL.nil ?_
            refine JE.weak (env' := [(0, .int .i64 q0), (1, .slice a_1 q1.length c_1), (6, .slice a9 x8.length cp10), (7, .int .i64 x7), (8, .slice a17 b2.length cp18)]) (es' := [rowT 9 eStr a9 x8.length cp10 x8, rowT 5 eU8 a17 b2.length cp18 ((((b2.set (w64 ((w64 (2 * x27)) - 2)).toNat 92).set (w64 (2 * x27)).toNat 47).set (w64 ((w64 (2 * x27)) - 1)).toNat 43).set (w64 ((w64 (2 * x27)) - 1)).toNat 45)]) [0, 1] ?_ ⟨rfl, rfl, rfl, rfl, rfl, trivial⟩ (by decide) rfl
            have hj := Option.some.inj hres
            exact JE.weak [0, 1] (K (by subst hj; exact (List.length_set.trans (List.length_set.trans (List.length_set.trans List.length_set))))) ⟨(by subst hj; rfl), (by subst hj; rfl), (by subst hj; rfl), (by subst hj; rfl), (by subst hj; rfl), trivial⟩ (by decide) (by subst hj; rfl)
          · refine JX.condF rfl hb ?_
            refine JX.skip ?_
            have hj := Option.some.inj hres
            exact JE.weak [0, 1] (K (by subst hj; exact (List.length_set.trans (List.length_set.trans List.length_set)))) ⟨(by subst hj; rfl), (by subst hj; rfl), (by subst hj; rfl), (by subst hj; rfl), (by subst hj; rfl), trivial⟩ (by decide) (by subst hj; rfl)
    · refine JX.condF rfl hb ?_
      refine JX.exit ?_
      refine JE.qb rfl ?_
      obtain ⟨b1, hb1⟩ : ∃ b : List ByteArray, b = x8 := ⟨_, rfl⟩
      have hy1 : b1 = y1 := by rw [hb1]; exact hox1 _ (Option.some.inj hres).symm
      have hres := hresO1
      rw [← hy1] at hres
      refine JE.weak (env' := [(6, .slice a9 b1.length cp10)]) (es' := [rowT 9 eStr a9 b1.length cp10 b1]) [0] ?_ ⟨(by subst hb1; rfl), trivial⟩ (by decide) (by subst hb1; rfl)
      refine JE.code ?_
      refine JX.seq ?_
      refine JX.region ?_
      refine JL.val (yl_move rfl) rfl ?_
      refine JL.val (yl_assign rfl) rfl ?_
      refine JL.val (yl_assign rfl) rfl ?_
      refine JL.nil ?_
      refine JE.code ?_
      refine JX.ret ?_
      obtain rfl := Option.some.inj hres
      refine JE.ret (rs := [.tmp 4, .tmp 5]) (vs := [.slice a9 b1.length cp10, .int .i64 0]) rfl ⟨rfl, rfl, trivial⟩ ?_
      exact fun w' hb hs => ⟨_, _, ⟨a9, b1.length, cp10, rfl, rfl, rfl⟩, rfl, hb, hs.sel [0] _ (by decide) rfl⟩

/- impl.inRange -/
def sh79 (q0 : Int) (q1 : Int) (q2 : Int) : Option (Bool) := some ((decide (q1 ≤ q0)) && (decide (q0 ≤ q2)))
def T79 (r : Bool) (v : Value) (rs : List Own) : Prop := v = rets [.bool r] ∧ rs = []
set_option maxRecDepth 100000 in
theorem c79 {w : World} {q0 : Int} {q1 : Int} {q2 : Int} {r : Bool} (hres : sh79 q0 q1 q2 = some r) : Calls Go.Proofs.Try.prog 79 [.int .i64 q0, .int .i64 q1, .int .i64 q2].toArray w (Ret w (T79 r)) := by
  unfold sh79 at hres
  refine calls_of (n := 15) (M := []) (es := []) Go.Proofs.Try.func79 rfl rfl rfl (Sep.nil _ _ _) ?_
  refine JX.seq ?_
  refine JX.region ?_
  refine JL.val (yl_assign rfl) rfl ?_
  refine JL.nil ?_
  refine JE.code ?_
  refine JX.seq ?_
  refine JX.region ?_
  refine JL.val (yl_move rfl) rfl ?_
  refine JL.val (yl_move rfl) rfl ?_
  refine JL.val (yl_geq rfl rfl) rfl ?_
  refine JL.val (yl_move rfl) rfl ?_
  refine JL.cut (K := fun J => J [(14, .bool ((decide (q1 ≤ q0)) && (decide (q0 ≤ q2))))] []) 4 ?_ ?_
  · refine JL.val (yl_assign rfl) rfl ?_
    refine JL.nil ?_
    refine JE.weak (env' := [(6, .bool ((decide (q1 ≤ q0)) && (decide (q0 ≤ q2))))]) (es' := []) [] ?_ ⟨rfl, trivial⟩ (by decide) rfl
    refine JE.code ?_
    refine JX.ret ?_
    obtain rfl := Option.some.inj hres
    refine JE.ret (rs := [.tmp 6]) (vs := [.bool ((decide (q1 ≤ q0)) && (decide (q0 ≤ q2)))]) rfl ⟨rfl, trivial⟩ ?_
    exact fun w' hb hs => ⟨_, _, ⟨rfl, rfl⟩, rfl, hb, hs.sel [] _ (by decide) rfl⟩
  · intro K
    rcases Bool.eq_false_or_eq_true (decide (q1 ≤ q0)) with hb | hb
    · refine JL.set (d := 10) (v := .bool true) (congrArg (fun b => some (Value.bool b)) hb) ?_
      refine JL.gval rfl rfl (yl_move rfl) rfl ?_
      refine JL.gval rfl rfl (yl_move rfl) rfl ?_
      refine JL.gval rfl rfl (yl_leq rfl rfl) rfl ?_
      refine JL.val (yl_pick_true rfl rfl) rfl ?_
      exact JL.weak [] K ⟨(by rw [hb]; rfl), trivial⟩ (by decide) rfl
    · refine JL.set (d := 10) (v := .bool false) (congrArg (fun b => some (Value.bool b)) hb) ?_
      refine JL.gskip rfl rfl rfl rfl ?_
      refine JL.gskip rfl rfl rfl rfl ?_
      refine JL.gskip rfl rfl rfl rfl ?_
      refine JL.val (yl_pick_false rfl rfl) rfl ?_
      exact JL.weak [] K ⟨(by rw [hb]; rfl), trivial⟩ (by decide) rfl

/- impl.ValidWord -/
def sh72_1 (q0 : Int) (q1 : List Int) : Int → Option (Int ⊕ (Unit ⊕ Bool))
  | x1 => bif decide (x1 < (q1.length : Int)) then (Option.bind (getI q1 x1) fun x2 => Option.bind (bif x2 == 0 then (some true) else (Option.bind (sh79 x2 (w64 (1 - q0)) (w64 (q0 - 1))) fun x4 => some !x4)) fun c3 => (bif c3 then (some (.inr (.inr false))) else (some (.inl (w64 (x1 + 1)))))) else (some (.inr (.inl ())))
def sh72 (q0 : Int) (q1 : List Int) : Option (Bool) := Option.bind (iter (sh72_1 q0 q1) 0) fun y1 => elimS y1 (fun r => some r) fun b1 => (Option.bind (sh79 q0 2 12) fun x5 => some (x5 && (decide ((q1.length : Int) ≤ 200))))
def T72 (r : Bool) (v : Value) (rs : List Own) : Prop := v = rets [.bool r] ∧ rs = []
set_option maxRecDepth 100000 in
theorem c72 {w : World} {q0 : Int} {q1 : List Int} {a_1 : Option Addr} {n_1 c_1 : Nat} (g_1 : Rd w a_1 (eI64.fl q1)) (l_1 : q1.length = n_1) (k_1 : n_1 ≤ c_1) {r : Bool} (hres : sh72 q0 q1 = some r) : Calls Go.Proofs.Try.prog 72 [.int .i64 q0, .slice a_1 n_1 c_1].toArray w (Ret w (T72 r)) := by
  subst l_1
  unfold sh72 at hres
  refine calls_of (n := 32) (M := []) (es := []) Go.Proofs.Try.func72 rfl rfl rfl (Sep.nil _ _ _) ?_
  refine JX.seq ?_
  refine JX.region ?_
  refine JL.val (yl_assign rfl) rfl ?_
  refine JL.nil ?_
  refine JE.code ?_
  refine JX.seq ?_
  refine JX.seq ?_
  refine JX.region ?_
  refine JL.val (yl_move rfl) rfl ?_
  refine JL.val (yl_len_slice Go.Proofs.Try.underlying35 rfl) rfl ?_
  refine JL.val (yl_move rfl) rfl ?_
  refine JL.nil ?_
  refine JE.code ?_
  refine JX.block ?_
  obtain ⟨y1, hy1, hresO1⟩ := bind_some hres
  refine JX.loop (I := fun (s1 : Int) aa ww => St w [] 32 [(0, .int .i64 q0), (1, .slice a_1 q1.length c_1), (7, .slice a_1 q1.length c_1), (8, .int .i64 (q1.length : Int)), (9, .int .i64 s1)] [] aa ww) (sh72_1 q0 q1) hy1 (fun a w h => h.weak ⟨rfl, rfl, rfl, rfl, rfl, trivial⟩ [] (by decide) rfl) ?_
  rintro x1 o1 hres hox1 aa ww hS
  refine (?_ : JX Go.Proofs.Try.prog w [] 32 _ _ [(0, .int .i64 q0), (1, .slice a_1 q1.length c_1), (7, .slice a_1 q1.length c_1), (8, .int .i64 (q1.length : Int)), (9, .int .i64 x1)] [] _) aa ww hS
  clear hS
  unfold sh72_1 at hres
  refine JX.seq ?_
  refine JX.region ?_
  refine JL.val (yl_lss rfl rfl) rfl ?_
  refine JL.nil ?_
  refine JE.code ?_
  refine JX.seq ?_
  rcases cond_some hres with ⟨hb, hres⟩ | ⟨hb, hres⟩
  · refine JX.condT rfl hb ?_
    refine JX.skip ?_
    refine JE.code ?_
    refine JX.seq ?_
    refine JX.block ?_
    refine JX.seq ?_
    refine JX.region ?_
    obtain ⟨x2, hx2, hres⟩ := bind_some hres
    refine JL.val (yl_idxT Go.Proofs.Try.underlying35 i2 i2s rfl rfl hx2 rfl (fun w hC => rd_arg g_1 hC)) rfl ?_
    refine JL.val (yl_loadT0 Go.Proofs.Try.underlying2 rfl rfl hx2 (fun w hC => rd_arg g_1 hC) rfl) rfl ?_
    refine JL.val (yl_assign rfl) rfl ?_
    refine JL.nil ?_
    refine JE.code ?_
    refine JX.seq ?_
    refine JX.region ?_
    refine JL.val (yl_move rfl) rfl ?_
    refine JL.val (yl_eql rfl rfl) rfl ?_
    refine JL.val (yl_move rfl) rfl ?_
    obtain ⟨c3, hc3, hres⟩ := bind_some hres
    refine JL.cut (K := fun J => J [(0, .int .i64 q0), (1, .slice a_1 q1.length c_1), (7, .slice a_1 q1.length c_1), (8, .int .i64 (q1.length : Int)), (9, .int .i64 x1), (23, .bool c3)] []) 8 ?_ ?_
    · refine JL.nil ?_
      refine JE.weak (env' := [(0, .int .i64 q0), (1, .slice a_1 q1.length c_1), (7, .slice a_1 q1.length c_1), (8, .int .i64 (q1.length : Int)), (9, .int .i64 x1), (23, .bool c3)]) (es' := []) [] ?_ ⟨rfl, rfl, rfl, rfl, rfl, rfl, trivial⟩ (by decide) rfl
      refine JE.code ?_
      rcases cond_some hres with ⟨hb, hres⟩ | ⟨hb, hres⟩
      · refine JX.condT rfl hb ?_
        refine JX.seq ?_
        refine JX.region ?_
        refine JL.val (yl_assign rfl) rfl ?_
        refine JL.nil ?_
        refine JE.code ?_
        refine JX.ret ?_
        refine JE.qbr ?_
        refine JE.qbr ?_
        have hres := elimS_inr hresO1 (hox1 _ (Option.some.inj hres).symm)
        obtain rfl := Option.some.inj hres
        refine JE.ret (rs := [.tmp 4]) (vs := [.bool false]) rfl ⟨rfl, trivial⟩ ?_
        exact fun w' hb hs => ⟨_, _, ⟨rfl, rfl⟩, rfl, hb, hs.sel [] _ (by decide) rfl⟩
      · refine JX.condF rfl hb ?_
        refine JX.skip ?_
        refine JE.code ?_
        refine JX.region ?_
        refine JL.val (yl_add rfl rfl) rfl ?_
        refine JL.val (yl_move rfl) rfl ?_
        refine JL.nil ?_
        refine JE.cont hres ?_
        exact fun a w h => h.weak ⟨rfl, rfl, rfl, rfl, rfl, trivial⟩ [] (by decide) rfl
    · intro K
      rcases cond_some hc3 with ⟨hb, hres⟩ | ⟨hb, hres⟩
      · refine JL.set (d := 15) (v := .bool true) (congrArg (fun b => some (Value.bool b)) hb) ?_
        refine JL.gskip rfl rfl rfl rfl ?_
        refine JL.gskip rfl rfl rfl rfl ?_
        refine JL.gskip rfl rfl rfl rfl ?_
        refine JL.gskip rfl rfl rfl rfl ?_
        refine JL.gskip rfl rfl rfl rfl ?_
        refine JL.gskip rfl rfl rfl rfl ?_
        refine JL.gskip rfl rfl rfl rfl ?_
        refine JL.val (yl_pick_true rfl rfl) rfl ?_
        have he := Option.some.inj hres
        exact JL.weak [] K ⟨rfl, rfl, rfl, rfl, rfl, (by rw [← he]; rfl), trivial⟩ (by decide) rfl
      · refine JL.set (d := 15) (v := .bool false) (congrArg (fun b => some (Value.bool b)) hb) ?_
        refine JL.gval rfl rfl (yl_move rfl) rfl ?_
        refine JL.gval rfl rfl (yl_move rfl) rfl ?_
        refine JL.gval rfl rfl (yl_sub rfl rfl) rfl ?_
        refine JL.gval rfl rfl (yl_move rfl) rfl ?_
        refine JL.gval rfl rfl (yl_sub rfl rfl) rfl ?_
        obtain ⟨x4, hx4, hres⟩ := bind_some hres
        refine JL.geff rfl rfl (ef_call (T := T79 x4) Go.Proofs.Try.func79 rfl (by kernel_rfl) rfl (fun w hC => c79  hx4)) rfl ?_
        rintro _ _ ⟨_, ⟨rfl, rfl⟩, rfl⟩
        refine JL.gval rfl rfl (yl_not rfl) rfl ?_
        refine JL.val (yl_pick_false rfl rfl) rfl ?_
        have he := Option.some.inj hres
        exact JL.weak [] K ⟨rfl, rfl, rfl, rfl, rfl, (by rw [← he]; rfl), trivial⟩ (by decide) rfl
  · refine JX.condF rfl hb ?_
    refine JX.exit ?_
    refine JE.qb rfl ?_
    obtain ⟨b1, hb1⟩ : ∃ b : Unit, b = () := ⟨_, rfl⟩
    have hy1 : Sum.inl b1 = y1 := by rw [hb1]; exact hox1 _ (Option.some.inj hres).symm
    have hres := elimS_inl hresO1 hy1
    refine JE.weak (env' := [(0, .int .i64 q0), (1, .slice a_1 q1.length c_1)]) (es' := []) [] ?_ ⟨(by subst hb1; rfl), (by subst hb1; rfl), trivial⟩ (by decide) (by subst hb1; rfl)
    refine JE.code ?_
    refine JX.seq ?_
    refine JX.region ?_
    refine JL.val (yl_move rfl) rfl ?_
    obtain ⟨x5, hx5, hres⟩ := bind_some hres
    refine JL.eff (ef_call (T := T79 x5) Go.Proofs.Try.func79 rfl (by kernel_rfl) rfl (fun w hC => c79  hx5)) rfl ?_
    rintro _ _ ⟨_, ⟨rfl, rfl⟩, rfl⟩
    refine JL.val (yl_move rfl) rfl ?_
    refine JL.cut (K := fun J => J [(31, .bool (x5 && (decide ((q1.length : Int) ≤ 200))))] []) 4 ?_ ?_
    · refine JL.val (yl_assign rfl) rfl ?_
      refine JL.nil ?_
      refine JE.weak (env' := [(4, .bool (x5 && (decide ((q1.length : Int) ≤ 200))))]) (es' := []) [] ?_ ⟨rfl, trivial⟩ (by decide) rfl
      refine JE.code ?_
      refine JX.ret ?_
      obtain rfl := Option.some.inj hres
      refine JE.ret (rs := [.tmp 4]) (vs := [.bool (x5 && (decide ((q1.length : Int) ≤ 200)))]) rfl ⟨rfl, trivial⟩ ?_
      exact fun w' hb hs => ⟨_, _, ⟨rfl, rfl⟩, rfl, hb, hs.sel [] _ (by decide) rfl⟩
    · intro K
      rcases Bool.eq_false_or_eq_true (x5) with hb | hb
      · refine JL.set (d := 27) (v := .bool true) (congrArg (fun b => some (Value.bool b)) hb) ?_
        refine JL.gval rfl rfl (yl_move rfl) rfl ?_
        refine JL.gval rfl rfl (yl_len_slice Go.Proofs.Try.underlying35 rfl) rfl ?_
        refine JL.gval rfl rfl (yl_leq rfl rfl) rfl ?_
        refine JL.val (yl_pick_true rfl rfl) rfl ?_
        exact JL.weak [] K ⟨(by rw [hb]; rfl), trivial⟩ (by decide) rfl
      · refine JL.set (d := 27) (v := .bool false) (congrArg (fun b => some (Value.bool b)) hb) ?_
        refine JL.gskip rfl rfl rfl rfl ?_
        refine JL.gskip rfl rfl rfl rfl ?_
        refine JL.gskip rfl rfl rfl rfl ?_
        refine JL.val (yl_pick_false rfl rfl) rfl ?_
        exact JL.weak [] K ⟨(by rw [hb]; rfl), trivial⟩ (by decide) rfl

/- impl.rightOf -/
def sh73 (q0 : Int) : Option (Int) := some (if q0 < (w64 (0 - q0)) then (w64 (0 - q0)) else q0)
def T73 (r : Int) (v : Value) (rs : List Own) : Prop := v = rets [.int .i64 r] ∧ rs = []
set_option maxRecDepth 100000 in
theorem c73 {w : World} {q0 : Int} {r : Int} (hres : sh73 q0 = some r) : Calls Go.Proofs.Try.prog 73 [.int .i64 q0].toArray w (Ret w (T73 r)) := by
  unfold sh73 at hres
  refine calls_of (n := 7) (M := []) (es := []) Go.Proofs.Try.func73 rfl rfl rfl (Sep.nil _ _ _) ?_
  refine JX.seq ?_
  refine JX.region ?_
  refine JL.val (yl_assign rfl) rfl ?_
  refine JL.nil ?_
  refine JE.code ?_
  refine JX.seq ?_
  refine JX.region ?_
  refine JL.val (yl_move rfl) rfl ?_
  refine JL.val (yl_move rfl) rfl ?_
  refine JL.val (yl_neg rfl) rfl ?_
  refine JL.val (yl_max rfl rfl) rfl ?_
  refine JL.val (yl_assign rfl) rfl ?_
  refine JL.nil ?_
  refine JE.weak (env' := [(2, .int .i64 (if q0 < (w64 (0 - q0)) then (w64 (0 - q0)) else q0))]) (es' := []) [] ?_ ⟨rfl, trivial⟩ (by decide) rfl
  refine JE.code ?_
  refine JX.ret ?_
  obtain rfl := Option.some.inj hres
  refine JE.ret (rs := [.tmp 2]) (vs := [.int .i64 (if q0 < (w64 (0 - q0)) then (w64 (0 - q0)) else q0)]) rfl ⟨rfl, trivial⟩ ?_
  exact fun w' hb hs => ⟨_, _, ⟨rfl, rfl⟩, rfl, hb, hs.sel [] _ (by decide) rfl⟩

/- impl.PlaitPicture -/
def sh46_2 (q0 : Int) : (Int × List Int) → Option ((Int × List Int) ⊕ (List Int))
  | (x16, x17) => bif decide (x16 < q0) then (Option.bind (bif decide (0 < x16) then (Option.bind (appL x17 [32]) fun x30 => some x30) else (some x17)) fun j20 => (Option.bind (appL j20 [124]) fun x25 => some (.inl (w64 (x16 + 1), x25)))) else (some (.inr x17))
def sh46_1 (q0 : Int) (q1 : List Int) : (Int × List ByteArray) → Option ((Int × List ByteArray) ⊕ (List ByteArray))
  | (x7, x8) => bif decide (x7 < (q1.length : Int)) then (Option.bind (getI q1 x7) fun x11 => Option.bind (iter (sh46_2 q0) (0, ([] : List Int))) fun b2 => (Option.bind (sh73 x11) fun x35 => Option.bind (bif decide (x11 < 0) then (some 45) else (some 43)) fun j36 => (Option.bind (getI b2 (w64 (2 * (w64 (x35 - 1))))) fun x37 => Option.bind (getI (b2.set (w64 (2 * (w64 (x35 - 1)))).toNat 92) (w64 ((w64 (2 * (w64 (x35 - 1)))) + 1))) fun x38 => Option.bind (getI ((b2.set (w64 (2 * (w64 (x35 - 1)))).toNat 92).set (w64 ((w64 (2 * (w64 (x35 - 1)))) + 1)).toNat j36) (w64 ((w64 (2 * (w64 (x35 - 1)))) + 2))) fun x39 => Option.bind (appL x8 [bytesS (((b2.set (w64 (2 * (w64 (x35 - 1)))).toNat 92).set (w64 ((w64 (2 * (w64 (x35 - 1)))) + 1)).toNat j36).set (w64 ((w64 (2 * (w64 (x35 - 1)))) + 2)).toNat 47)]) fun x42 => some (.inl (w64 (x7 + 1), x42))))) else (some (.inr x8))
def sh46 (q0 : Int) (q1 : List Int) : Option (List ByteArray × Int) := Option.bind (sh72 q0 q1) fun x1 => bif !x1 then (some (([] : List ByteArray), 1)) else (Option.bind (iter (sh46_1 q0 q1) (0, ([] : List ByteArray))) fun b1 => (some (b1, 0)))
def T46 (r : List ByteArray × Int) (v : Value) (rs : List Own) : Prop := ∃ (a0 : Option Addr) (n0 c0 : Nat), r.1.length = n0 ∧ v = rets [.slice a0 n0 c0, .int .i64 r.2] ∧ rs = [rowT 9 eStr a0 n0 c0 r.1]
set_option maxRecDepth 100000 in
theorem c46 {w : World} {q0 : Int} {q1 : List Int} {a_1 : Option Addr} {n_1 c_1 : Nat} (g_1 : Rd w a_1 (eI64.fl q1)) (l_1 : q1.length = n_1) (k_1 : n_1 ≤ c_1) {r : List ByteArray × Int} (hres : sh46 q0 q1 = some r) : Calls Go.Proofs.Try.prog 46 [.int .i64 q0, .slice a_1 n_1 c_1].toArray w (Ret w (T46 r)) := by
  subst l_1
  unfold sh46 at hres
  refine calls_of (n := 63) (M := []) (es := []) Go.Proofs.Try.func46 rfl rfl rfl (Sep.nil _ _ _) ?_
  refine JX.seq ?_
  refine JX.region ?_
  refine JL.val (yl_assign rfl) rfl ?_
  refine JL.val (yl_assign rfl) rfl ?_
  refine JL.nil ?_
  refine JE.code ?_
  refine JX.seq ?_
  refine JX.seq ?_
  refine JX.region ?_
  refine JL.val (yl_move rfl) rfl ?_
  refine JL.val (yl_move rfl) rfl ?_
  obtain ⟨x1, hx1, hres⟩ := bind_some hres
  refine JL.eff (ef_call (T := T72 x1) Go.Proofs.Try.func72 rfl (by kernel_rfl) rfl (fun w hC => c72 (rd_arg g_1 hC) rfl k_1 hx1)) rfl ?_
  rintro _ _ ⟨_, ⟨rfl, rfl⟩, rfl⟩
  refine JL.val (yl_not rfl) rfl ?_
  refine JL.nil ?_
  refine JE.weak (env' := [(0, .int .i64 q0), (1, .slice a_1 q1.length c_1), (16, .bool !x1)]) (es' := []) [] ?_ ⟨rfl, rfl, rfl, trivial⟩ (by decide) rfl
  refine JE.code ?_
  rcases cond_some hres with ⟨hb, hres⟩ | ⟨hb, hres⟩
  · refine JX.condT rfl hb ?_
    refine JX.seq ?_
    refine JX.region ?_
    refine JL.val (yl_assign rfl) rfl ?_
    refine JL.val (yl_assign rfl) rfl ?_
    refine JL.nil ?_
    refine JE.code ?_
    refine JX.ret ?_
    refine JE.nilrow 9 eStr ?_
    obtain rfl := Option.some.inj hres
    refine JE.ret (rs := [.tmp 4, .tmp 5]) (vs := [.slice none 0 0, .int .i64 1]) rfl ⟨rfl, rfl, trivial⟩ ?_
    exact fun w' hb hs => ⟨_, _, ⟨none, 0, 0, rfl, rfl, rfl⟩, rfl, hb, hs.sel [0] _ (by decide) rfl⟩
  · refine JX.condF rfl hb ?_
    refine JX.skip ?_
    refine JE.code ?_
    refine JX.seq ?_
    refine JX.region ?_
    refine JL.eff (ef_buildSlice (E := 9) (k := eStr.k) (us := eStr.fl ([] : List ByteArray)) rfl (fun w => bsl61_0  w) rfl (by decide)) rfl ?_
    rintro _ _ ⟨a3, rfl, rfl⟩
    refine JL.val (yl_assign rfl) rfl ?_
    refine JL.nil ?_
    refine JE.code ?_
    refine JX.seq ?_
    refine JX.seq ?_
    refine JX.region ?_
    refine JL.val (yl_move rfl) rfl ?_
    refine JL.val (yl_len_slice Go.Proofs.Try.underlying35 rfl) rfl ?_
    refine JL.val (yl_move rfl) rfl ?_
    refine JL.nil ?_
    refine JE.code ?_
    refine JX.block ?_
    obtain ⟨y1, hy1, hresO1⟩ := bind_some hres
    refine JX.loop (I := fun (s1 : Int × List ByteArray) aa ww => ∃ (a5 : Option Addr) (cp6 : Nat), St w [] 63 [(0, .int .i64 q0), (6, .slice a5 s1.2.length cp6), (18, .slice a_1 q1.length c_1), (19, .int .i64 (q1.length : Int)), (20, .int .i64 s1.1)] [rowT 9 eStr a5 s1.2.length cp6 s1.2] aa ww) (sh46_1 q0 q1) hy1 (fun a w h => ⟨a3, 0, h.weak ⟨rfl, rfl, rfl, rfl, rfl, trivial⟩ [0] (by decide) rfl⟩) ?_
    rintro ⟨x7, x8⟩ o1 hres hox1 aa ww ⟨a9, cp10, hS⟩
    refine (?_ : JX Go.Proofs.Try.prog w [] 63 _ _ [(0, .int .i64 q0), (6, .slice a9 x8.length cp10), (18, .slice a_1 q1.length c_1), (19, .int .i64 (q1.length : Int)), (20, .int .i64 x7)] [rowT 9 eStr a9 x8.length cp10 x8] _) aa ww hS
    clear hS
    simp only [sh46_1] at hres
    refine JX.seq ?_
    refine JX.region ?_
    refine JL.val (yl_lss rfl rfl) rfl ?_
    refine JL.nil ?_
    refine JE.code ?_
    refine JX.seq ?_
    rcases cond_some hres with ⟨hb, hres⟩ | ⟨hb, hres⟩
    · refine JX.condT rfl hb ?_
      refine JX.skip ?_
      refine JE.code ?_
      refine JX.seq ?_
      refine JX.block ?_
      refine JX.seq ?_
      refine JX.region ?_
      obtain ⟨x11, hx11, hres⟩ := bind_some hres
      refine JL.val (yl_idxT Go.Proofs.Try.underlying35 i2 i2s rfl rfl hx11 rfl (fun w hC => rd_arg g_1 hC)) rfl ?_
      refine JL.val (yl_loadT0 Go.Proofs.Try.underlying2 rfl rfl hx11 (fun w hC => rd_arg g_1 hC) rfl) rfl ?_
      refine JL.val (yl_assign rfl) rfl ?_
      refine JL.nil ?_
      refine JE.code ?_
      refine JX.seq ?_
      refine JX.region ?_
      refine JL.eff (ef_buildSlice (E := 5) (k := eU8.k) (us := eU8.fl ([] : List Int)) rfl (fun w => bsl100_0  w) rfl (by decide)) rfl ?_
      rintro _ _ ⟨a12, rfl, rfl⟩
      refine JL.val (yl_assign rfl) rfl ?_
      refine JL.nil ?_
      refine JE.code ?_
      refine JX.seq ?_
      refine JX.seq ?_
      refine JX.region ?_
      refine JL.val (yl_move rfl) rfl ?_
      refine JL.val (yl_move rfl) rfl ?_
      refine JL.nil ?_
      refine JE.code ?_
      refine JX.block ?_
      obtain ⟨y2, hy2, hresO2⟩ := bind_some hres
      refine JX.loop (I := fun (s2 : Int × List Int) aa ww => ∃ (a14 : Option Addr) (cp15 : Nat), St w [] 63 [(0, .int .i64 q0), (6, .slice a9 x8.length cp10), (8, .int .i64 x11), (9, .slice a14 s2.2.length cp15), (18, .slice a_1 q1.length c_1), (19, .int .i64 (q1.length : Int)), (20, .int .i64 x7), (25, .int .i64 q0), (26, .int .i64 s2.1)] [rowT 9 eStr a9 x8.length cp10 x8, rowT 5 eU8 a14 s2.2.length cp15 s2.2] aa ww) (sh46_2 q0) hy2 (fun a w h => ⟨a12, 0, h.weak ⟨rfl, rfl, rfl, rfl, rfl, rfl, rfl, rfl, rfl, trivial⟩ [0, 1] (by decide) rfl⟩) ?_
      rintro ⟨x16, x17⟩ o2 hres hox2 aa ww ⟨a18, cp19, hS⟩
      refine (?_ : JX Go.Proofs.Try.prog w [] 63 _ _ [(0, .int .i64 q0), (6, .slice a9 x8.length cp10), (8, .int .i64 x11), (9, .slice a18 x17.length cp19), (18, .slice a_1 q1.length c_1), (19, .int .i64 (q1.length : Int)), (20, .int .i64 x7), (25, .int .i64 q0), (26, .int .i64 x16)] [rowT 9 eStr a9 x8.length cp10 x8, rowT 5 eU8 a18 x17.length cp19 x17] _) aa ww hS
      clear hS
      simp only [sh46_2] at hres
      refine JX.seq ?_
      refine JX.region ?_
      refine JL.val (yl_lss rfl rfl) rfl ?_
      refine JL.nil ?_
      refine JE.code ?_
      refine JX.seq ?_
      rcases cond_some hres with ⟨hb, hres⟩ | ⟨hb, hres⟩
      · refine JX.condT rfl hb ?_
        refine JX.skip ?_
        refine JE.code ?_
        refine JX.seq ?_
        refine JX.block ?_
        refine JX.seq ?_
        refine JX.region ?_
        refine JL.val (yl_move rfl) rfl ?_
        refine JL.val (yl_assign rfl) rfl ?_
        refine JL.nil ?_
        refine JE.code ?_
        refine JX.seq ?_
        refine JX.seq ?_
        refine JX.region ?_
        refine JL.val (yl_move rfl) rfl ?_
        refine JL.val (yl_gtr rfl rfl) rfl ?_
        refine JL.nil ?_
        refine JE.code ?_
        obtain ⟨j20, hj20, hresj20⟩ := bind_some hres
        refine JX.cut (K := fun J => ∀ (a21 : Option Addr) (cp22 : Nat), J [(0, .int .i64 q0), (6, .slice a9 x8.length cp10), (8, .int .i64 x11), (9, .slice a21 j20.length cp22), (18, .slice a_1 q1.length c_1), (19, .int .i64 (q1.length : Int)), (20, .int .i64 x7), (25, .int .i64 q0), (26, .int .i64 x16)] [rowT 9 eStr a9 x8.length cp10 x8, rowT 5 eU8 a21 j20.length cp22 j20]) ?_ ?_
        · intro a21 cp22
          have hres := hresj20
          refine JE.code ?_
          refine JX.region ?_
          refine JL.val (yl_move rfl) rfl ?_
          refine JL.eff (ef_buildSlice (E := 5) (k := eU8.k) (us := eU8.fl [124]) rfl (fun w => bsl100_1 124 w) rfl (by decide)) rfl ?_
          rintro _ _ ⟨a23, rfl, rfl⟩
          obtain ⟨x25, hx25, hres⟩ := bind_some hres
          refine JL.eff (ef_appendT (ix := 1) Go.Proofs.Try.underlying100 i5 i5z i5s rfl i5b0 i5b1 rfl rfl rfl rfl rfl (fun w hC => rd_row hC 2 rfl) hx25) rfl ?_
          rintro _ _ ⟨a26, cp27, rfl, rfl⟩
          refine JL.val (yl_assign rfl) rfl ?_
          refine JL.nil ?_
          refine JE.weak (env' := [(0, .int .i64 q0), (6, .slice a9 x8.length cp10), (8, .int .i64 x11), (9, .slice a26 x25.length cp27), (18, .slice a_1 q1.length c_1), (19, .int .i64 (q1.length : Int)), (20, .int .i64 x7), (25, .int .i64 q0), (26, .int .i64 x16)]) (es' := [rowT 9 eStr a9 x8.length cp10 x8, rowT 5 eU8 a26 x25.length cp27 x25]) [0, 1] ?_ ⟨rfl, rfl, rfl, rfl, rfl, rfl, rfl, rfl, rfl, trivial⟩ (by decide) rfl
          refine JE.code ?_
          refine JX.region ?_
          refine JL.val (yl_add rfl rfl) rfl ?_
          refine JL.val (yl_move rfl) rfl ?_
          refine JL.nil ?_
          refine JE.cont hres ?_
          exact fun a w h => ⟨a26, cp27, h.weak ⟨rfl, rfl, rfl, rfl, rfl, rfl, rfl, rfl, rfl, trivial⟩ [0, 1] (by decide) rfl⟩
        · intro K
          rcases cond_some hj20 with ⟨hb, hres⟩ | ⟨hb, hres⟩
          · refine JX.condT rfl hb ?_
            refine JX.region ?_
            refine JL.val (yl_move rfl) rfl ?_
            refine JL.eff (ef_buildSlice (E := 5) (k := eU8.k) (us := eU8.fl [32]) rfl (fun w => bsl100_1 32 w) rfl (by decide)) rfl ?_
            rintro _ _ ⟨a28, rfl, rfl⟩
            obtain ⟨x30, hx30, hres⟩ := bind_some hres
            refine JL.eff (ef_appendT (ix := 1) Go.Proofs.Try.underlying100 i5 i5z i5s rfl i5b0 i5b1 rfl rfl rfl rfl rfl (fun w hC => rd_row hC 2 rfl) hx30) rfl ?_
            rintro _ _ ⟨a31, cp32, rfl, rfl⟩
            refine JL.val (yl_assign rfl) rfl ?_
            refine JL.nil ?_
            refine JE.weak (env' := [(0, .int .i64 q0), (6, .slice a9 x8.length cp10), (8, .int .i64 x11), (9, .slice a31 x30.length cp32), (18, .slice a_1 q1.length c_1), (19, .int .i64 (q1.length : Int)), (20, .int .i64 x7), (25, .int .i64 q0), (26, .int .i64 x16)]) (es' := [rowT 9 eStr a9 x8.length cp10 x8, rowT 5 eU8 a31 x30.length cp32 x30]) [0, 1] ?_ ⟨rfl, rfl, rfl, rfl, rfl, rfl, rfl, rfl, rfl, trivial⟩ (by decide) rfl
            have hj := Option.some.inj hres
            exact JE.weak [0, 1] (K a31 cp32) ⟨(by subst hj; rfl), (by subst hj; rfl), (by subst hj; rfl), (by subst hj; rfl), (by subst hj; rfl), (by subst hj; rfl), (by subst hj; rfl), (by subst hj; rfl), (by subst hj; rfl), trivial⟩ (by decide) (by subst hj; rfl)
          · refine JX.condF rfl hb ?_
            refine JX.skip ?_
            have hj := Option.some.inj hres
            exact JE.weak [0, 1] (K a18 cp19) ⟨(by subst hj; rfl), (by subst hj; rfl), (by subst hj; rfl), (by subst hj; rfl), (by subst hj; rfl), (by subst hj; rfl), (by subst hj; rfl), (by subst hj; rfl), (by subst hj; rfl), trivial⟩ (by decide) (by subst hj; rfl)
      · refine JX.condF rfl hb ?_
        refine JX.exit ?_
        refine JE.qb rfl ?_
        obtain ⟨b2, hb2⟩ : ∃ b : List Int, b = x17 := ⟨_, rfl⟩
        have hy2 : b2 = y2 := by rw [hb2]; exact hox2 _ (Option.some.inj hres).symm
        have hres := hresO2
        rw [← hy2] at hres
        refine JE.weak (env' := [(0, .int .i64 q0), (6, .slice a9 x8.length cp10), (8, .int .i64 x11), (9, .slice a18 b2.length cp19), (18, .slice a_1 q1.length c_1), (19, .int .i64 (q1.length : Int)), (20, .int .i64 x7)]) (es' := [rowT 9 eStr a9 x8.length cp10 x8, rowT 5 eU8 a18 b2.length cp19 b2]) [0, 1] ?_ ⟨(by subst hb2; rfl), (by subst hb2; rfl), (by subst hb2; rfl), (by subst hb2; rfl), (by subst hb2; rfl), (by subst hb2; rfl), (by subst hb2; rfl), trivial⟩ (by decide) (by subst hb2; rfl)
        refine JE.code ?_
        refine JX.seq ?_
        refine JX.region ?_
        refine JL.val (yl_move rfl) rfl ?_
        obtain ⟨x35, hx35, hres⟩ := bind_some hres
        refine JL.eff (ef_call (T := T73 x35) Go.Proofs.Try.func73 rfl (by kernel_rfl) rfl (fun w hC => c73  hx35)) rfl ?_
        rintro _ _ ⟨_, ⟨rfl, rfl⟩, rfl⟩
        refine JL.val (yl_sub rfl rfl) rfl ?_
        refine JL.val (yl_mul rfl rfl) rfl ?_
        refine JL.val (yl_assign rfl) rfl ?_
        refine JL.nil ?_
        refine JE.weak (env' := [(0, .int .i64 q0), (6, .slice a9 x8.length cp10), (8, .int .i64 x11), (9, .slice a18 b2.length cp19), (11, .int .i64 (w64 (2 * (w64 (x35 - 1))))), (18, .slice a_1 q1.length c_1), (19, .int .i64 (q1.length : Int)), (20, .int .i64 x7)]) (es' := [rowT 9 eStr a9 x8.length cp10 x8, rowT 5 eU8 a18 b2.length cp19 b2]) [0, 1] ?_ ⟨rfl, rfl, rfl, rfl, rfl, rfl, rfl, rfl, trivial⟩ (by decide) rfl
        refine JE.code ?_
        refine JX.seq ?_
        refine JX.region ?_
        refine JL.val (yl_assign rfl) rfl ?_
        refine JL.nil ?_
        refine JE.code ?_
        refine JX.seq ?_
        refine JX.seq ?_
        refine JX.region ?_
        refine JL.val (yl_move rfl) rfl ?_
        refine JL.val (yl_lss rfl rfl) rfl ?_
        refine JL.nil ?_
        refine JE.code ?_
        obtain ⟨j36, hj36, hresj36⟩ := bind_some hres
        refine JX.cut (K := fun J => J [(0, .int .i64 q0), (6, .slice a9 x8.length cp10), (9, .slice a18 b2.length cp19), (11, .int .i64 (w64 (2 * (w64 (x35 - 1))))), (12, .int .u8 j36), (18, .slice a_1 q1.length c_1), (19, .int .i64 (q1.length : Int)), (20, .int .i64 x7)] [rowT 9 eStr a9 x8.length cp10 x8, rowT 5 eU8 a18 b2.length cp19 b2]) ?_ ?_
        · have hres := hresj36
          refine JE.code ?_
          refine JX.seq ?_
          refine JX.region ?_
          refine JL.val (yl_move rfl) rfl ?_
          refine JL.val (yl_move rfl) rfl ?_
          refine JL.val (yl_move rfl) rfl ?_
          refine JL.val (yl_move rfl) rfl ?_
          refine JL.val (yl_add rfl rfl) rfl ?_
          refine JL.val (yl_move rfl) rfl ?_
          refine JL.val (yl_move rfl) rfl ?_
          refine JL.val (yl_add rfl rfl) rfl ?_
          refine JL.val (yl_move rfl) rfl ?_
          obtain ⟨x37, hx37, hres⟩ := bind_some hres
          refine JL.val (yl_idxT Go.Proofs.Try.underlying100 i5 i5s rfl rfl hx37 rfl (fun w hC => rd_row hC 1 rfl)) rfl ?_
          refine JL.eff (ef_storeT (ix := 1) (u := 92) i5 i5s rfl rfl rfl hx37 rfl) rfl ?_
          rintro _ _ rfl
          obtain ⟨x38, hx38, hres⟩ := bind_some hres
          refine JL.val (yl_idxT Go.Proofs.Try.underlying100 i5 i5s rfl rfl hx38 List.length_set (fun w hC => rd_row hC 1 rfl)) rfl ?_
          refine JL.eff (ef_storeT (ix := 1) (u := j36) i5 i5s rfl rfl rfl hx38 rfl) rfl ?_
          rintro _ _ rfl
          obtain ⟨x39, hx39, hres⟩ := bind_some hres
          refine JL.val (yl_idxT Go.Proofs.Try.underlying100 i5 i5s rfl rfl hx39 (List.length_set.trans List.length_set) (fun w hC => rd_row hC 1 rfl)) rfl ?_
          refine JL.eff (ef_storeT (ix := 1) (u := 47) i5 i5s rfl rfl rfl hx39 rfl) rfl ?_
          rintro _ _ rfl
          refine JL.nil ?_
          refine JE.weak (env' := [(0, .int .i64 q0), (6, .slice a9 x8.length cp10), (9, .slice a18 b2.length cp19), (18, .slice a_1 q1.length c_1), (19, .int .i64 (q1.length : Int)), (20, .int .i64 x7)]) (es' := [rowT 9 eStr a9 x8.length cp10 x8, rowT 5 eU8 a18 b2.length cp19 (((b2.set (w64 (2 * (w64 (x35 - 1)))).toNat 92).set (w64 ((w64 (2 * (w64 (x35 - 1)))) + 1)).toNat j36).set (w64 ((w64 (2 * (w64 (x35 - 1)))) + 2)).toNat 47)]) [0, 1] ?_ ⟨rfl, rfl, rfl, rfl, rfl, rfl, trivial⟩ (by decide) rfl
          refine JE.code ?_
          refine JX.region ?_
          refine JL.val (yl_move rfl) rfl ?_
          refine JL.val (yl_move rfl) rfl ?_
          refine JL.val (yl_bytesT Go.Proofs.Try.underlying100 Go.Proofs.Try.underlying9 Go.Proofs.Try.underlying5 rfl (List.length_set.trans (List.length_set.trans List.length_set)) (fun w hC => rd_row hC 1 rfl)) rfl ?_
          refine JL.eff (ef_buildSlice (E := 9) (k := eStr.k) (us := eStr.fl [bytesS (((b2.set (w64 (2 * (w64 (x35 - 1)))).toNat 92).set (w64 ((w64 (2 * (w64 (x35 - 1)))) + 1)).toNat j36).set (w64 ((w64 (2 * (w64 (x35 - 1)))) + 2)).toNat 47)]) rfl (fun w => bsl61_1 (bytesS (((b2.set (w64 (2 * (w64 (x35 - 1)))).toNat 92).set (w64 ((w64 (2 * (w64 (x35 - 1)))) + 1)).toNat j36).set (w64 ((w64 (2 * (w64 (x35 - 1)))) + 2)).toNat 47)) w) rfl (by decide)) rfl ?_
          rintro _ _ ⟨a40, rfl, rfl⟩
          obtain ⟨x42, hx42, hres⟩ := bind_some hres
          refine JL.eff (ef_appendT (ix := 0) Go.Proofs.Try.underlying61 i9 i9z i9s rfl i9b0 i9b1 rfl rfl rfl rfl rfl (fun w hC => rd_row hC 2 rfl) hx42) rfl ?_
          rintro _ _ ⟨a43, cp44, rfl, rfl⟩
          refine JL.val (yl_assign rfl) rfl ?_
          refine JL.nil ?_
          refine JE.weak (env' := [(0, .int .i64 q0), (6, .slice a43 x42.length cp44), (18, .slice a_1 q1.length c_1), (19, .int .i64 (q1.length : Int)), (20, .int .i64 x7)]) (es' := [rowT 9 eStr a43 x42.length cp44 x42]) [0] ?_ ⟨rfl, rfl, rfl, rfl, rfl, trivial⟩ (by decide) rfl
          refine JE.code ?_
          refine JX.region ?_
          refine JL.val (yl_add rfl rfl) rfl ?_
          refine JL.val (yl_move rfl) rfl ?_
          refine JL.nil ?_
          refine JE.cont hres ?_
          exact fun a w h => ⟨a43, cp44, h.weak ⟨rfl, rfl, rfl, rfl, rfl, trivial⟩ [0] (by decide) rfl⟩
        · intro K
          rcases cond_some hj36 with ⟨hb, hres⟩ | ⟨hb, hres⟩
          · refine JX.condT rfl hb ?_
            refine JX.region ?_
            refine JL.val (yl_assign rfl) rfl ?_
            refine JL.nil ?_
            have hj := Option.some.inj hres
            exact JE.weak [0, 1] (K) ⟨(by subst hj; rfl), (by subst hj; rfl), (by subst hj; rfl), (by subst hj; rfl), (by subst hj; rfl), (by subst hj; rfl), (by subst hj; rfl), (by subst hj; rfl), trivial⟩ (by decide) (by subst hj; rfl)
          · refine JX.condF rfl hb ?_
            refine JX.skip ?_
            have hj := Option.some.inj hres
            exact JE.weak [0, 1] (K) ⟨(by subst hj; rfl), (by subst hj; rfl), (by subst hj; rfl), (by subst hj; rfl), (by subst hj; rfl), (by subst hj; rfl), (by subst hj; rfl), (by subst hj; rfl), trivial⟩ (by decide) (by subst hj; rfl)
    · refine JX.condF rfl hb ?_
      refine JX.exit ?_
      refine JE.qb rfl ?_
      obtain ⟨b1, hb1⟩ : ∃ b : List ByteArray, b = x8 := ⟨_, rfl⟩
      have hy1 : b1 = y1 := by rw [hb1]; exact hox1 _ (Option.some.inj hres).symm
      have hres := hresO1
      rw [← hy1] at hres
      refine JE.weak (env' := [(6, .slice a9 b1.length cp10)]) (es' := [rowT 9 eStr a9 b1.length cp10 b1]) [0] ?_ ⟨(by subst hb1; rfl), trivial⟩ (by decide) (by subst hb1; rfl)
      refine JE.code ?_
      refine JX.seq ?_
      refine JX.region ?_
      refine JL.val (yl_move rfl) rfl ?_
      refine JL.val (yl_assign rfl) rfl ?_
      refine JL.val (yl_assign rfl) rfl ?_
      refine JL.nil ?_
      refine JE.code ?_
      refine JX.ret ?_
      obtain rfl := Option.some.inj hres
      refine JE.ret (rs := [.tmp 4, .tmp 5]) (vs := [.slice a9 b1.length cp10, .int .i64 0]) rfl ⟨rfl, rfl, trivial⟩ ?_
      exact fun w' hb hs => ⟨_, _, ⟨a9, b1.length, cp10, rfl, rfl, rfl⟩, rfl, hb, hs.sel [0] _ (by decide) rfl⟩

/- laws.eqStringS -/
def sh47_1 (q0 : List ByteArray) (q1 : List ByteArray) : Int → Option (Int ⊕ (Unit ⊕ Bool))
  | x1 => bif decide (x1 < (q0.length : Int)) then (Option.bind (getI q0 x1) fun x3 => Option.bind (getI q1 x1) fun x4 => bif !(x3.toList == x4.toList) then (some (.inr (.inr false))) else (some (.inl (w64 (x1 + 1))))) else (some (.inr (.inl ())))
def sh47 (q0 : List ByteArray) (q1 : List ByteArray) : Option (Bool) := bif (q0.length : Int) != (q1.length : Int) then (some false) else (Option.bind (iter (sh47_1 q0 q1) 0) fun y1 => elimS y1 (fun r => some r) fun b1 => (some true))
def T47 (r : Bool) (v : Value) (rs : List Own) : Prop := v = rets [.bool r] ∧ rs = []
set_option maxRecDepth 100000 in
theorem c47 {w : World} {q0 : List ByteArray} {a_0 : Option Addr} {n_0 c_0 : Nat} (g_0 : Rd w a_0 (eStr.fl q0)) (l_0 : q0.length = n_0) (k_0 : n_0 ≤ c_0) {q1 : List ByteArray} {a_1 : Option Addr} {n_1 c_1 : Nat} (g_1 : Rd w a_1 (eStr.fl q1)) (l_1 : q1.length = n_1) (k_1 : n_1 ≤ c_1) {r : Bool} (hres : sh47 q0 q1 = some r) : Calls Go.Proofs.Try.prog 47 [.slice a_0 n_0 c_0, .slice a_1 n_1 c_1].toArray w (Ret w (T47 r)) := by
  subst l_0
  subst l_1
  unfold sh47 at hres
  refine calls_of (n := 26) (M := []) (es := []) Go.Proofs.Try.func47 rfl rfl rfl (Sep.nil _ _ _) ?_
  refine JX.seq ?_
  refine JX.region ?_
  refine JL.val (yl_assign rfl) rfl ?_
  refine JL.nil ?_
  refine JE.code ?_
  refine JX.seq ?_
  refine JX.seq ?_
  refine JX.region ?_
  refine JL.val (yl_move rfl) rfl ?_
  refine JL.val (yl_len_slice Go.Proofs.Try.underlying61 rfl) rfl ?_
  refine JL.val (yl_move rfl) rfl ?_
  refine JL.val (yl_len_slice Go.Proofs.Try.underlying61 rfl) rfl ?_
  refine JL.val (yl_neq rfl rfl) rfl ?_
  refine JL.nil ?_
  refine JE.weak (env' := [(0, .slice a_0 q0.length c_0), (1, .slice a_1 q1.length c_1), (10, .bool ((q0.length : Int) != (q1.length : Int)))]) (es' := []) [] ?_ ⟨rfl, rfl, rfl, trivial⟩ (by decide) rfl
  refine JE.code ?_
  rcases cond_some hres with ⟨hb, hres⟩ | ⟨hb, hres⟩
  · refine JX.condT rfl hb ?_
    refine JX.seq ?_
    refine JX.region ?_
    refine JL.val (yl_assign rfl) rfl ?_
    refine JL.nil ?_
    refine JE.code ?_
    refine JX.ret ?_
    obtain rfl := Option.some.inj hres
    refine JE.ret (rs := [.tmp 4]) (vs := [.bool false]) rfl ⟨rfl, trivial⟩ ?_
    exact fun w' hb hs => ⟨_, _, ⟨rfl, rfl⟩, rfl, hb, hs.sel [] _ (by decide) rfl⟩
  · refine JX.condF rfl hb ?_
    refine JX.skip ?_
    refine JE.code ?_
    refine JX.seq ?_
    refine JX.seq ?_
    refine JX.region ?_
    refine JL.val (yl_assign rfl) rfl ?_
    refine JL.nil ?_
    refine JE.code ?_
    refine JX.block ?_
    obtain ⟨y1, hy1, hresO1⟩ := bind_some hres
    refine JX.loop (I := fun (s1 : Int) aa ww => St w [] 26 [(0, .slice a_0 q0.length c_0), (1, .slice a_1 q1.length c_1), (5, .int .i64 s1)] [] aa ww) (sh47_1 q0 q1) hy1 (fun a w h => h.weak ⟨rfl, rfl, rfl, trivial⟩ [] (by decide) rfl) ?_
    rintro x1 o1 hres hox1 aa ww hS
    refine (?_ : JX Go.Proofs.Try.prog w [] 26 _ _ [(0, .slice a_0 q0.length c_0), (1, .slice a_1 q1.length c_1), (5, .int .i64 x1)] [] _) aa ww hS
    clear hS
    unfold sh47_1 at hres
    refine JX.seq ?_
    refine JX.seq ?_
    refine JX.region ?_
    refine JL.val (yl_move rfl) rfl ?_
    refine JL.val (yl_move rfl) rfl ?_
    refine JL.val (yl_len_slice Go.Proofs.Try.underlying61 rfl) rfl ?_
    refine JL.val (yl_lss rfl rfl) rfl ?_
    refine JL.nil ?_
    refine JE.weak (env' := [(0, .slice a_0 q0.length c_0), (1, .slice a_1 q1.length c_1), (5, .int .i64 x1), (14, .bool (decide (x1 < (q0.length : Int))))]) (es' := []) [] ?_ ⟨rfl, rfl, rfl, rfl, trivial⟩ (by decide) rfl
    refine JE.code ?_
    rcases cond_some hres with ⟨hb, hres⟩ | ⟨hb, hres⟩
    · refine JX.condT rfl hb ?_
      refine JX.skip ?_
      refine JE.code ?_
      refine JX.seq ?_
      refine JX.block ?_
      refine JX.seq ?_
      refine JX.drawH [(0, .pure), (1, .pure), (2, .pure), (3, .read), (4, .pure), (5, .pure), (6, .pure), (7, .read), (8, .pure)] [] [] [] [] [] mixedP rfl (by kernel_rfl) (by decide) rfl rfl ?_
      intro wrr2 Nr2 hFr2
      refine JH.pure rfl (yl_move rfl) rfl ?_
      refine JH.pure rfl (yl_move rfl) rfl ?_
      obtain ⟨x3, hx3, hres⟩ := bind_some hres
      refine JH.pure rfl (yl_idxQ Go.Proofs.Try.underlying61 i9 i9s rfl rfl hx3 rfl (rd_arg g_0 hFr2.cl) rfl) rfl ?_
      refine JH.read rfl (yl_loadT0 Go.Proofs.Try.underlying9 rfl rfl hx3 (fun w hw => hFr2.arg g_0 hw) rfl) rfl ?_
      refine JH.pure rfl (yl_move rfl) rfl ?_
      refine JH.pure rfl (yl_move rfl) rfl ?_
      obtain ⟨x4, hx4, hres⟩ := bind_some hres
      refine JH.pure rfl (yl_idxQ Go.Proofs.Try.underlying61 i9 i9s rfl rfl hx4 rfl (rd_arg g_1 hFr2.cl) rfl) rfl ?_
      refine JH.read rfl (yl_loadT0 Go.Proofs.Try.underlying9 rfl rfl hx4 (fun w hw => hFr2.arg g_1 hw) rfl) rfl ?_
      refine JH.pure rfl (yl_sneq rfl rfl) rfl ?_
      refine JH.nil ?_
      refine JE.weak (env' := [(0, .slice a_0 q0.length c_0), (1, .slice a_1 q1.length c_1), (5, .int .i64 x1), (25, .bool (!(x3.toList == x4.toList)))]) (es' := []) [] ?_ ⟨rfl, rfl, rfl, rfl, trivial⟩ (by decide) rfl
      refine JE.code ?_
      rcases cond_some hres with ⟨hb, hres⟩ | ⟨hb, hres⟩
      · refine JX.condT rfl hb ?_
        refine JX.seq ?_
        refine JX.region ?_
        refine JL.val (yl_assign rfl) rfl ?_
        refine JL.nil ?_
        refine JE.code ?_
        refine JX.ret ?_
        refine JE.qbr ?_
        refine JE.qbr ?_
        have hres := elimS_inr hresO1 (hox1 _ (Option.some.inj hres).symm)
        obtain rfl := Option.some.inj hres
        refine JE.ret (rs := [.tmp 4]) (vs := [.bool false]) rfl ⟨rfl, trivial⟩ ?_
        exact fun w' hb hs => ⟨_, _, ⟨rfl, rfl⟩, rfl, hb, hs.sel [] _ (by decide) rfl⟩
      · refine JX.condF rfl hb ?_
        refine JX.skip ?_
        refine JE.code ?_
        refine JX.region ?_
        refine JL.val (yl_move rfl) rfl ?_
        refine JL.val (yl_add rfl rfl) rfl ?_
        refine JL.val (yl_assign rfl) rfl ?_
        refine JL.nil ?_
        refine JE.cont hres ?_
        exact fun a w h => h.weak ⟨rfl, rfl, rfl, trivial⟩ [] (by decide) rfl
    · refine JX.condF rfl hb ?_
      refine JX.exit ?_
      refine JE.qb rfl ?_
      obtain ⟨b1, hb1⟩ : ∃ b : Unit, b = () := ⟨_, rfl⟩
      have hy1 : Sum.inl b1 = y1 := by rw [hb1]; exact hox1 _ (Option.some.inj hres).symm
      have hres := elimS_inl hresO1 hy1
      refine JE.weak (env' := []) (es' := []) [] ?_ trivial (by decide) (by subst hb1; rfl)
      refine JE.code ?_
      refine JX.seq ?_
      refine JX.region ?_
      refine JL.val (yl_assign rfl) rfl ?_
      refine JL.nil ?_
      refine JE.code ?_
      refine JX.ret ?_
      obtain rfl := Option.some.inj hres
      refine JE.ret (rs := [.tmp 4]) (vs := [.bool true]) rfl ⟨rfl, trivial⟩ ?_
      exact fun w' hb hs => ⟨_, _, ⟨rfl, rfl⟩, rfl, hb, hs.sel [] _ (by decide) rfl⟩

/- laws.markText -/
def sh89_1 : (Int × ByteArray) → Option ((Int × ByteArray) ⊕ (ByteArray))
  | (x1, x2) => bif decide (0 < x1) then (Option.bind (catS (bytesS [IntKind.u8.wrap (w64 (48 + (x1.tmod 10)))]) x2) fun x5 => some (.inl (w64 (x1.tdiv 10), x5))) else (some (.inr x2))
def sh89 (q0 : Int) : Option (ByteArray) := bif decide (q0 ≤ 0) then (some (ByteArray.mk #[109, 48])) else (Option.bind (iter (sh89_1) (q0, ByteArray.mk #[])) fun b1 => (Option.bind (catS (ByteArray.mk #[109]) b1) fun x6 => some x6))
def T89 (r : ByteArray) (v : Value) (rs : List Own) : Prop := v = rets [.string r] ∧ rs = []
set_option maxRecDepth 100000 in
theorem c89 {w : World} {q0 : Int} {r : ByteArray} (hres : sh89 q0 = some r) : Calls Go.Proofs.Try.prog 89 [.int .i64 q0].toArray w (Ret w (T89 r)) := by
  unfold sh89 at hres
  refine calls_of (n := 20) (M := []) (es := []) Go.Proofs.Try.func89 rfl rfl rfl (Sep.nil _ _ _) ?_
  refine JX.seq ?_
  refine JX.region ?_
  refine JL.val (yl_assign rfl) rfl ?_
  refine JL.nil ?_
  refine JE.code ?_
  refine JX.seq ?_
  refine JX.seq ?_
  refine JX.region ?_
  refine JL.val (yl_move rfl) rfl ?_
  refine JL.val (yl_leq rfl rfl) rfl ?_
  refine JL.nil ?_
  refine JE.code ?_
  rcases cond_some hres with ⟨hb, hres⟩ | ⟨hb, hres⟩
  · refine JX.condT rfl hb ?_
    refine JX.seq ?_
    refine JX.region ?_
    refine JL.val (yl_assign rfl) rfl ?_
    refine JL.nil ?_
    refine JE.code ?_
    refine JX.ret ?_
    obtain rfl := Option.some.inj hres
    refine JE.ret (rs := [.tmp 2]) (vs := [.string (ByteArray.mk #[109, 48])]) rfl ⟨rfl, trivial⟩ ?_
    exact fun w' hb hs => ⟨_, _, ⟨rfl, rfl⟩, rfl, hb, hs.sel [] _ (by decide) rfl⟩
  · refine JX.condF rfl hb ?_
    refine JX.skip ?_
    refine JE.code ?_
    refine JX.seq ?_
    refine JX.region ?_
    refine JL.val (yl_assign rfl) rfl ?_
    refine JL.nil ?_
    refine JE.code ?_
    refine JX.seq ?_
    refine JX.block ?_
    obtain ⟨y1, hy1, hresO1⟩ := bind_some hres
    refine JX.loop (I := fun (s1 : Int × ByteArray) aa ww => St w [] 20 [(0, .int .i64 s1.1), (3, .string s1.2)] [] aa ww) (sh89_1) hy1 (fun a w h => h.weak ⟨rfl, rfl, trivial⟩ [] (by decide) rfl) ?_
    rintro ⟨x1, x2⟩ o1 hres hox1 aa ww hS
    refine (?_ : JX Go.Proofs.Try.prog w [] 20 _ _ [(0, .int .i64 x1), (3, .string x2)] [] _) aa ww hS
    clear hS
    simp only [sh89_1] at hres
    refine JX.seq ?_
    refine JX.seq ?_
    refine JX.region ?_
    refine JL.val (yl_move rfl) rfl ?_
    refine JL.val (yl_gtr rfl rfl) rfl ?_
    refine JL.nil ?_
    refine JE.code ?_
    rcases cond_some hres with ⟨hb, hres⟩ | ⟨hb, hres⟩
    · refine JX.condT rfl hb ?_
      refine JX.skip ?_
      refine JE.code ?_
      refine JX.block ?_
      refine JX.seq ?_
      refine JX.region ?_
      refine JL.val (yl_move rfl) rfl ?_
      refine JL.val (yl_rem rfl rfl (by decide)) rfl ?_
      refine JL.val (yl_add rfl rfl) rfl ?_
      refine JL.val (yl_conv Go.Proofs.Try.underlying3 Go.Proofs.Try.underlying5 rfl) rfl ?_
      refine JL.eff (ef_buildSlice (E := 5) (k := eU8.k) (us := eU8.fl [IntKind.u8.wrap (w64 (48 + (x1.tmod 10)))]) rfl (fun w => bsl100_1 (IntKind.u8.wrap (w64 (48 + (x1.tmod 10)))) w) rfl (by decide)) rfl ?_
      rintro _ _ ⟨a3, rfl, rfl⟩
      refine JL.val (yl_bytesT Go.Proofs.Try.underlying100 Go.Proofs.Try.underlying9 Go.Proofs.Try.underlying5 rfl rfl (fun w hC => rd_row hC 0 rfl)) rfl ?_
      refine JL.val (yl_move rfl) rfl ?_
      obtain ⟨x5, hx5, hres⟩ := bind_some hres
      refine JL.val (yl_catS rfl rfl hx5) rfl ?_
      refine JL.val (yl_assign rfl) rfl ?_
      refine JL.nil ?_
      refine JE.weak (env' := [(0, .int .i64 x1), (3, .string x5)]) (es' := []) [] ?_ ⟨rfl, rfl, trivial⟩ (by decide) rfl
      refine JE.code ?_
      refine JX.region ?_
      refine JL.val (yl_move rfl) rfl ?_
      refine JL.val (yl_quo rfl rfl (by decide)) rfl ?_
      refine JL.val (yl_assign rfl) rfl ?_
      refine JL.nil ?_
      refine JE.cont hres ?_
      exact fun a w h => h.weak ⟨rfl, rfl, trivial⟩ [] (by decide) rfl
    · refine JX.condF rfl hb ?_
      refine JX.exit ?_
      refine JE.qb rfl ?_
      obtain ⟨b1, hb1⟩ : ∃ b : ByteArray, b = x2 := ⟨_, rfl⟩
      have hy1 : b1 = y1 := by rw [hb1]; exact hox1 _ (Option.some.inj hres).symm
      have hres := hresO1
      rw [← hy1] at hres
      refine JE.weak (env' := [(3, .string b1)]) (es' := []) [] ?_ ⟨(by subst hb1; rfl), trivial⟩ (by decide) (by subst hb1; rfl)
      refine JE.code ?_
      refine JX.seq ?_
      refine JX.region ?_
      refine JL.val (yl_move rfl) rfl ?_
      obtain ⟨x6, hx6, hres⟩ := bind_some hres
      refine JL.val (yl_catS rfl rfl hx6) rfl ?_
      refine JL.val (yl_assign rfl) rfl ?_
      refine JL.nil ?_
      refine JE.code ?_
      refine JX.ret ?_
      obtain rfl := Option.some.inj hres
      refine JE.ret (rs := [.tmp 2]) (vs := [.string x6]) rfl ⟨rfl, trivial⟩ ?_
      exact fun w' hb hs => ⟨_, _, ⟨rfl, rfl⟩, rfl, hb, hs.sel [] _ (by decide) rfl⟩

/- laws.markStringS -/
def sh48_1 (q0 : List ByteArray) : (Int × Int × List ByteArray) → Option ((Int × Int × List ByteArray) ⊕ (Int × List ByteArray))
  | (x2, x3, x4) => bif decide (x3 < ((q0.length : Nat) : Int)) then (Option.bind (sh89 x2) fun x6 => Option.bind (getI x4 x3) fun x7 => some (.inl (w64 (x2 + 1), w64 (x3 + 1), x4.set (x3).toNat x6))) else (some (.inr (x2, x4)))
def sh48 (q0 : List ByteArray) (q1 : Int) : Option (Int × List ByteArray) := Option.bind (iter (sh48_1 q0) (q1, 0, q0)) fun b1 => (some (b1.1, b1.2))
def T48 (a_ : Option Addr) (n_ c_ : Nat) (r : Int × List ByteArray) (v : Value) (e' : Own) (rs : List Own) : Prop := r.2.length = n_ ∧ e' = rowT 9 eStr a_ n_ c_ r.2 ∧ v = rets [.int .i64 r.1] ∧ rs = []
set_option maxRecDepth 100000 in
theorem c48 {w : World} {q0 : List ByteArray} {a_0 : Option Addr} {n_0 c_0 : Nat} {M : List Nat} (g_0 : Sep w.heap.size M w [rowT 9 eStr a_0 n_0 c_0 q0]) (l_0 : q0.length = n_0) {q1 : Int} {r : Int × List ByteArray} (hres : sh48 q0 q1 = some r) : Calls Go.Proofs.Try.prog 48 [.slice a_0 n_0 c_0, .int .i64 q1].toArray w (RetM w M (T48 a_0 n_0 c_0 r)) := by
  subst l_0
  unfold sh48 at hres
  refine calls_of (n := 20) (M := M) (es := [rowT 9 eStr a_0 q0.length c_0 q0]) Go.Proofs.Try.func48 rfl rfl rfl g_0 ?_
  refine JX.seq ?_
  refine JX.region ?_
  refine JL.val (yl_assign rfl) rfl ?_
  refine JL.nil ?_
  refine JE.code ?_
  refine JX.seq ?_
  refine JX.seq ?_
  refine JX.region ?_
  refine JL.val (yl_assign rfl) rfl ?_
  refine JL.nil ?_
  refine JE.code ?_
  refine JX.block ?_
  obtain ⟨y1, hy1, hresO1⟩ := bind_some hres
  refine JX.loop (I := fun (s1 : Int × Int × List ByteArray) aa ww => ∃ (l1 : s1.2.2.length = q0.length), St w M 20 [(0, .slice a_0 q0.length c_0), (1, .int .i64 s1.1), (5, .int .i64 s1.2.1)] [rowT 9 eStr a_0 q0.length c_0 s1.2.2] aa ww) (sh48_1 q0) hy1 (fun a w h => ⟨rfl, h.weak ⟨rfl, rfl, rfl, trivial⟩ [0] (by decide) rfl⟩) ?_
  rintro ⟨x2, x3, x4⟩ o1 hres hox1 aa ww ⟨l5, hS⟩
  refine (?_ : JX Go.Proofs.Try.prog w M 20 _ _ [(0, .slice a_0 q0.length c_0), (1, .int .i64 x2), (5, .int .i64 x3)] [rowT 9 eStr a_0 q0.length c_0 x4] _) aa ww hS
  clear hS
  simp only [sh48_1] at hres
  refine JX.seq ?_
  refine JX.seq ?_
  refine JX.region ?_
  refine JL.val (yl_move rfl) rfl ?_
  refine JL.val (yl_move rfl) rfl ?_
  refine JL.val (yl_len_slice Go.Proofs.Try.underlying61 rfl) rfl ?_
  refine JL.val (yl_lss rfl rfl) rfl ?_
  refine JL.nil ?_
  refine JE.weak (env' := [(0, .slice a_0 q0.length c_0), (1, .int .i64 x2), (5, .int .i64 x3), (9, .bool (decide (x3 < ((q0.length : Nat) : Int))))]) (es' := [rowT 9 eStr a_0 q0.length c_0 x4]) [0] ?_ ⟨rfl, rfl, rfl, rfl, trivial⟩ (by decide) rfl
  refine JE.code ?_
  rcases cond_some hres with ⟨hb, hres⟩ | ⟨hb, hres⟩
  · refine JX.condT rfl hb ?_
    refine JX.skip ?_
    refine JE.code ?_
    refine JX.seq ?_
    refine JX.block ?_
    refine JX.seq ?_
    refine JX.region ?_
    refine JL.val (yl_move rfl) rfl ?_
    refine JL.val (yl_move rfl) rfl ?_
    refine JL.val (yl_move rfl) rfl ?_
    obtain ⟨x6, hx6, hres⟩ := bind_some hres
    refine JL.eff (ef_call (T := T89 x6) Go.Proofs.Try.func89 rfl (by kernel_rfl) rfl (fun w hC => c89  hx6)) rfl ?_
    rintro _ _ ⟨_, ⟨rfl, rfl⟩, rfl⟩
    obtain ⟨x7, hx7, hres⟩ := bind_some hres
    refine JL.val (yl_idxT Go.Proofs.Try.underlying61 i9 i9s rfl rfl hx7 l5 (fun w hC => rd_row hC 0 rfl)) rfl ?_
    refine JL.eff (ef_storeT (ix := 0) (u := x6) i9 i9s rfl rfl rfl hx7 rfl) rfl ?_
    rintro _ _ rfl
    refine JL.nil ?_
    refine JE.weak (env' := [(0, .slice a_0 q0.length c_0), (1, .int .i64 x2), (5, .int .i64 x3)]) (es' := [rowT 9 eStr a_0 q0.length c_0 (x4.set (x3).toNat x6)]) [0] ?_ ⟨rfl, rfl, rfl, trivial⟩ (by decide) rfl
    refine JE.code ?_
    refine JX.region ?_
    refine JL.val (yl_move rfl) rfl ?_
    refine JL.val (yl_add rfl rfl) rfl ?_
    refine JL.val (yl_assign rfl) rfl ?_
    refine JL.nil ?_
    refine JE.code ?_
    refine JX.region ?_
    refine JL.val (yl_move rfl) rfl ?_
    refine JL.val (yl_add rfl rfl) rfl ?_
    refine JL.val (yl_assign rfl) rfl ?_
    refine JL.nil ?_
    refine JE.cont hres ?_
    exact fun a w h => ⟨(List.length_set.trans l5), h.weak ⟨rfl, rfl, rfl, trivial⟩ [0] (by decide) rfl⟩
  · refine JX.condF rfl hb ?_
    refine JX.exit ?_
    refine JE.qb rfl ?_
    obtain ⟨b1, hb1⟩ : ∃ b : Int × List ByteArray, b = (x2, x4) := ⟨_, rfl⟩
    have hy1 : b1 = y1 := by rw [hb1]; exact hox1 _ (Option.some.inj hres).symm
    have hres := hresO1
    rw [← hy1] at hres
    have l8 : b1.2.length = q0.length := by subst hb1; exact l5
    refine JE.weak (env' := [(1, .int .i64 b1.1)]) (es' := [rowT 9 eStr a_0 q0.length c_0 b1.2]) [0] ?_ ⟨(by subst hb1; rfl), trivial⟩ (by decide) (by subst hb1; rfl)
    refine JE.code ?_
    refine JX.seq ?_
    refine JX.region ?_
    refine JL.val (yl_move rfl) rfl ?_
    refine JL.val (yl_assign rfl) rfl ?_
    refine JL.nil ?_
    refine JE.code ?_
    refine JX.ret ?_
    obtain rfl := Option.some.inj hres
    refine JE.ret (rs := [.tmp 4]) (vs := [.int .i64 b1.1]) rfl ⟨rfl, trivial⟩ ?_
    exact fun w' hb hs => ⟨_, _, _, ⟨l8, rfl, rfl, rfl⟩, rfl, hb, hs.sel [0] _ (by decide) rfl⟩

/- laws.heldStringS -/
def sh49_1 (q0 : List ByteArray) : (Int × Int) → Option ((Int × Int) ⊕ (Int ⊕ Int))
  | (x1, x2) => bif decide (x2 < (q0.length : Int)) then (Option.bind (getI q0 x2) fun x4 => Option.bind (sh89 x1) fun x5 => bif !(x4.toList == x5.toList) then (some (.inr (.inr (-1)))) else (some (.inl (w64 (x1 + 1), w64 (x2 + 1))))) else (some (.inr (.inl x1)))
def sh49 (q0 : List ByteArray) (q1 : Int) : Option (Int) := Option.bind (iter (sh49_1 q0) (q1, 0)) fun y1 => elimS y1 (fun r => some r) fun b1 => (some b1)
def T49 (r : Int) (v : Value) (rs : List Own) : Prop := v = rets [.int .i64 r] ∧ rs = []
set_option maxRecDepth 100000 in
theorem c49 {w : World} {q0 : List ByteArray} {a_0 : Option Addr} {n_0 c_0 : Nat} (g_0 : Rd w a_0 (eStr.fl q0)) (l_0 : q0.length = n_0) (k_0 : n_0 ≤ c_0) {q1 : Int} {r : Int} (hres : sh49 q0 q1 = some r) : Calls Go.Proofs.Try.prog 49 [.slice a_0 n_0 c_0, .int .i64 q1].toArray w (Ret w (T49 r)) := by
  subst l_0
  unfold sh49 at hres
  refine calls_of (n := 22) (M := []) (es := []) Go.Proofs.Try.func49 rfl rfl rfl (Sep.nil _ _ _) ?_
  refine JX.seq ?_
  refine JX.region ?_
  refine JL.val (yl_assign rfl) rfl ?_
  refine JL.nil ?_
  refine JE.code ?_
  refine JX.seq ?_
  refine JX.seq ?_
  refine JX.region ?_
  refine JL.val (yl_assign rfl) rfl ?_
  refine JL.nil ?_
  refine JE.code ?_
  refine JX.block ?_
  obtain ⟨y1, hy1, hresO1⟩ := bind_some hres
  refine JX.loop (I := fun (s1 : Int × Int) aa ww => St w [] 22 [(0, .slice a_0 q0.length c_0), (1, .int .i64 s1.1), (5, .int .i64 s1.2)] [] aa ww) (sh49_1 q0) hy1 (fun a w h => h.weak ⟨rfl, rfl, rfl, trivial⟩ [] (by decide) rfl) ?_
  rintro ⟨x1, x2⟩ o1 hres hox1 aa ww hS
  refine (?_ : JX Go.Proofs.Try.prog w [] 22 _ _ [(0, .slice a_0 q0.length c_0), (1, .int .i64 x1), (5, .int .i64 x2)] [] _) aa ww hS
  clear hS
  simp only [sh49_1] at hres
  refine JX.seq ?_
  refine JX.seq ?_
  refine JX.region ?_
  refine JL.val (yl_move rfl) rfl ?_
  refine JL.val (yl_move rfl) rfl ?_
  refine JL.val (yl_len_slice Go.Proofs.Try.underlying61 rfl) rfl ?_
  refine JL.val (yl_lss rfl rfl) rfl ?_
  refine JL.nil ?_
  refine JE.weak (env' := [(0, .slice a_0 q0.length c_0), (1, .int .i64 x1), (5, .int .i64 x2), (9, .bool (decide (x2 < (q0.length : Int))))]) (es' := []) [] ?_ ⟨rfl, rfl, rfl, rfl, trivial⟩ (by decide) rfl
  refine JE.code ?_
  rcases cond_some hres with ⟨hb, hres⟩ | ⟨hb, hres⟩
  · refine JX.condT rfl hb ?_
    refine JX.skip ?_
    refine JE.code ?_
    refine JX.seq ?_
    refine JX.block ?_
    refine JX.seq ?_
    refine JX.seq ?_
    refine JX.drawH [(0, .pure), (1, .pure), (2, .pure), (3, .read), (4, .pure), (5, .must), (6, .pure)] [] [] [] [] [] mixedP rfl (by kernel_rfl) (by decide) rfl rfl ?_
    intro wrr3 Nr3 hFr3
    refine JH.pure rfl (yl_move rfl) rfl ?_
    refine JH.pure rfl (yl_move rfl) rfl ?_
    obtain ⟨x4, hx4, hres⟩ := bind_some hres
    refine JH.pure rfl (yl_idxQ Go.Proofs.Try.underlying61 i9 i9s rfl rfl hx4 rfl (rd_arg g_0 hFr3.cl) rfl) rfl ?_
    refine JH.read rfl (yl_loadT0 Go.Proofs.Try.underlying9 rfl rfl hx4 (fun w hw => hFr3.arg g_0 hw) rfl) rfl ?_
    refine JH.pure rfl (yl_move rfl) rfl ?_
    obtain ⟨x5, hx5, hres⟩ := bind_some hres
    refine JH.must rfl (ef_call (T := T89 x5) Go.Proofs.Try.func89 rfl (by kernel_rfl) rfl (fun w hC => c89  hx5)) rfl rfl ?_
    rintro _ _ ⟨_, ⟨rfl, rfl⟩, rfl⟩
    refine JH.pure rfl (yl_sneq rfl rfl) rfl ?_
    refine JH.nil ?_
    refine JE.weak (env' := [(0, .slice a_0 q0.length c_0), (1, .int .i64 x1), (5, .int .i64 x2), (18, .bool (!(x4.toList == x5.toList)))]) (es' := []) [] ?_ ⟨rfl, rfl, rfl, rfl, trivial⟩ (by decide) rfl
    refine JE.code ?_
    rcases cond_some hres with ⟨hb, hres⟩ | ⟨hb, hres⟩
    · refine JX.condT rfl hb ?_
      refine JX.seq ?_
      refine JX.region ?_
      refine JL.val (yl_assign rfl) rfl ?_
      refine JL.nil ?_
      refine JE.code ?_
      refine JX.ret ?_
      refine JE.qbr ?_
      refine JE.qbr ?_
      have hres := elimS_inr hresO1 (hox1 _ (Option.some.inj hres).symm)
      obtain rfl := Option.some.inj hres
      refine JE.ret (rs := [.tmp 4]) (vs := [.int .i64 (-1)]) rfl ⟨rfl, trivial⟩ ?_
      exact fun w' hb hs => ⟨_, _, ⟨rfl, rfl⟩, rfl, hb, hs.sel [] _ (by decide) rfl⟩
    · refine JX.condF rfl hb ?_
      refine JX.skip ?_
      refine JE.code ?_
      refine JX.region ?_
      refine JL.val (yl_move rfl) rfl ?_
      refine JL.val (yl_add rfl rfl) rfl ?_
      refine JL.val (yl_assign rfl) rfl ?_
      refine JL.nil ?_
      refine JE.code ?_
      refine JX.region ?_
      refine JL.val (yl_move rfl) rfl ?_
      refine JL.val (yl_add rfl rfl) rfl ?_
      refine JL.val (yl_assign rfl) rfl ?_
      refine JL.nil ?_
      refine JE.cont hres ?_
      exact fun a w h => h.weak ⟨rfl, rfl, rfl, trivial⟩ [] (by decide) rfl
  · refine JX.condF rfl hb ?_
    refine JX.exit ?_
    refine JE.qb rfl ?_
    obtain ⟨b1, hb1⟩ : ∃ b : Int, b = x1 := ⟨_, rfl⟩
    have hy1 : Sum.inl b1 = y1 := by rw [hb1]; exact hox1 _ (Option.some.inj hres).symm
    have hres := elimS_inl hresO1 hy1
    refine JE.weak (env' := [(1, .int .i64 b1)]) (es' := []) [] ?_ ⟨(by subst hb1; rfl), trivial⟩ (by decide) (by subst hb1; rfl)
    refine JE.code ?_
    refine JX.seq ?_
    refine JX.region ?_
    refine JL.val (yl_move rfl) rfl ?_
    refine JL.val (yl_assign rfl) rfl ?_
    refine JL.nil ?_
    refine JE.code ?_
    refine JX.ret ?_
    obtain rfl := Option.some.inj hres
    refine JE.ret (rs := [.tmp 4]) (vs := [.int .i64 b1]) rfl ⟨rfl, trivial⟩ ?_
    exact fun w' hb hs => ⟨_, _, ⟨rfl, rfl⟩, rfl, hb, hs.sel [] _ (by decide) rfl⟩

/- laws.FnExactPlaitPicture -/
def sh9 (q0 : Int) (q1 : List Int) : Option (Bool) := bif decide (1048576 < (q1.length : Int)) then (some true) else (Option.bind (sh24 q1) fun x1 => Option.bind (sh45 q0 x1) fun x5 => Option.bind (sh24 q1) fun x9 => Option.bind (sh46 q0 x9) fun x13 => Option.bind (sh47 x13.1 x5.1) fun x17 => bif !x17 || (x13.2 != x5.2) then (some false) else (Option.bind (sh24 q1) fun x18 => Option.bind (sh27 x9 x18) fun x22 => bif !x22 then (some false) else (Option.bind (sh28 x9 1) fun x23 => Option.bind (bif decide (x23.1 < 0) then (some true) else (Option.bind (sh47 x13.1 x5.1) fun x26 => some !x26)) fun c25 => (bif c25 || (x13.2 != x5.2) then (some false) else (Option.bind (sh48 x13.1 1) fun x27 => Option.bind (sh49 x27.2 1) fun x29 => bif decide (x29 < 0) then (some false) else (bif x29 != x27.1 then (some false) else (Option.bind (sh24 q1) fun x30 => Option.bind (sh46 q0 x30) fun x34 => Option.bind (sh47 x34.1 x5.1) fun x38 => bif !x38 || (x34.2 != x5.2) then (some false) else (Option.bind (sh49 x27.2 1) fun x39 => bif decide (x39 < 0) then (some false) else (bif x39 != x27.1 then (some false) else (some true))))))))))
def T9 (r : Bool) (v : Value) (rs : List Own) : Prop := v = rets [.bool r] ∧ rs = []
set_option maxRecDepth 100000 in
theorem c9 {w : World} {q0 : Int} {q1 : List Int} {a_1 : Option Addr} {n_1 c_1 : Nat} (g_1 : Rd w a_1 (eI64.fl q1)) (l_1 : q1.length = n_1) (k_1 : n_1 ≤ c_1) {r : Bool} (hres : sh9 q0 q1 = some r) : Calls Go.Proofs.Try.prog 9 [.int .i64 q0, .slice a_1 n_1 c_1].toArray w (Ret w (T9 r)) := by
  subst l_1
  unfold sh9 at hres
  refine calls_of (n := 98) (M := []) (es := []) Go.Proofs.Try.func9 rfl rfl rfl (Sep.nil _ _ _) ?_
  refine JX.seq ?_
  refine JX.region ?_
  refine JL.val (yl_assign rfl) rfl ?_
  refine JL.nil ?_
  refine JE.code ?_
  refine JX.seq ?_
  refine JX.seq ?_
  refine JX.region ?_
  refine JL.val (yl_move rfl) rfl ?_
  refine JL.val (yl_len_slice Go.Proofs.Try.underlying35 rfl) rfl ?_
  refine JL.val (yl_gtr rfl rfl) rfl ?_
  refine JL.nil ?_
  refine JE.code ?_
  rcases cond_some hres with ⟨hb, hres⟩ | ⟨hb, hres⟩
  · refine JX.condT rfl hb ?_
    refine JX.seq ?_
    refine JX.region ?_
    refine JL.val (yl_assign rfl) rfl ?_
    refine JL.nil ?_
    refine JE.code ?_
    refine JX.ret ?_
    obtain rfl := Option.some.inj hres
    refine JE.ret (rs := [.tmp 4]) (vs := [.bool true]) rfl ⟨rfl, trivial⟩ ?_
    exact fun w' hb hs => ⟨_, _, ⟨rfl, rfl⟩, rfl, hb, hs.sel [] _ (by decide) rfl⟩
  · refine JX.condF rfl hb ?_
    refine JX.skip ?_
    refine JE.code ?_
    refine JX.seq ?_
    refine JX.region ?_
    refine JL.val (yl_move rfl) rfl ?_
    refine JL.val (yl_move rfl) rfl ?_
    obtain ⟨x1, hx1, hres⟩ := bind_some hres
    refine JL.eff (ef_call (T := T24 x1) Go.Proofs.Try.func24 rfl (by kernel_rfl) rfl (fun w hC => c24 (rd_arg g_1 hC) rfl k_1 hx1)) rfl ?_
    rintro _ _ ⟨_, ⟨a2, _, cp3, rfl, rfl, rfl⟩, rfl⟩
    obtain ⟨x5, hx5, hres⟩ := bind_some hres
    refine JL.eff (ef_call (T := T45 x5) Go.Proofs.Try.func45 rfl (by kernel_rfl) rfl (fun w hC => c45 (rd_row hC 0 rfl) rfl (ln_row hC 0 rfl) hx5)) rfl ?_
    rintro _ _ ⟨_, ⟨a6, _, cp7, rfl, rfl, rfl⟩, rfl⟩
    refine JL.val (yl_move rfl) rfl ?_
    refine JL.val (yl_extract rfl rfl) rfl ?_
    refine JL.val (yl_extract rfl rfl) rfl ?_
    refine JL.val (yl_assign rfl) rfl ?_
    refine JL.val (yl_assign rfl) rfl ?_
    refine JL.nil ?_
    refine JE.weak (env' := [(0, .int .i64 q0), (1, .slice a_1 q1.length c_1), (5, .slice a6 x5.1.length cp7), (6, .int .i64 x5.2)]) (es' := [rowT 9 eStr a6 x5.1.length cp7 x5.1]) [1] ?_ ⟨rfl, rfl, rfl, rfl, trivial⟩ (by decide) rfl
    refine JE.code ?_
    refine JX.seq ?_
    refine JX.region ?_
    refine JL.val (yl_move rfl) rfl ?_
    obtain ⟨x9, hx9, hres⟩ := bind_some hres
    refine JL.eff (ef_call (T := T24 x9) Go.Proofs.Try.func24 rfl (by kernel_rfl) rfl (fun w hC => c24 (rd_arg g_1 hC) rfl k_1 hx9)) rfl ?_
    rintro _ _ ⟨_, ⟨a10, _, cp11, rfl, rfl, rfl⟩, rfl⟩
    refine JL.val (yl_assign rfl) rfl ?_
    refine JL.nil ?_
    refine JE.code ?_
    refine JX.seq ?_
    refine JX.region ?_
    refine JL.val (yl_move rfl) rfl ?_
    refine JL.val (yl_move rfl) rfl ?_
    obtain ⟨x13, hx13, hres⟩ := bind_some hres
    refine JL.eff (ef_call (T := T46 x13) Go.Proofs.Try.func46 rfl (by kernel_rfl) rfl (fun w hC => c46 (rd_row hC 1 rfl) rfl (ln_row hC 1 rfl) hx13)) rfl ?_
    rintro _ _ ⟨_, ⟨a14, _, cp15, rfl, rfl, rfl⟩, rfl⟩
    refine JL.val (yl_move rfl) rfl ?_
    refine JL.val (yl_extract rfl rfl) rfl ?_
    refine JL.val (yl_extract rfl rfl) rfl ?_
    refine JL.val (yl_assign rfl) rfl ?_
    refine JL.val (yl_assign rfl) rfl ?_
    refine JL.nil ?_
    refine JE.weak (env' := [(0, .int .i64 q0), (1, .slice a_1 q1.length c_1), (5, .slice a6 x5.1.length cp7), (6, .int .i64 x5.2), (7, .slice a10 x9.length cp11), (8, .slice a14 x13.1.length cp15), (9, .int .i64 x13.2)]) (es' := [rowT 9 eStr a6 x5.1.length cp7 x5.1, rowT 2 eI64 a10 x9.length cp11 x9, rowT 9 eStr a14 x13.1.length cp15 x13.1]) [0, 1, 2] ?_ ⟨rfl, rfl, rfl, rfl, rfl, rfl, rfl, trivial⟩ (by decide) rfl
    refine JE.code ?_
    refine JX.seq ?_
    refine JX.seq ?_
    refine JX.region ?_
    refine JL.val (yl_move rfl) rfl ?_
    refine JL.val (yl_move rfl) rfl ?_
    obtain ⟨x17, hx17, hres⟩ := bind_some hres
    refine JL.eff (ef_call (T := T47 x17) Go.Proofs.Try.func47 rfl (by kernel_rfl) rfl (fun w hC => c47 (rd_row hC 2 rfl) rfl (ln_row hC 2 rfl) (rd_row hC 0 rfl) rfl (ln_row hC 0 rfl) hx17)) rfl ?_
    rintro _ _ ⟨_, ⟨rfl, rfl⟩, rfl⟩
    refine JL.val (yl_not rfl) rfl ?_
    refine JL.val (yl_move rfl) rfl ?_
    refine JL.cut (K := fun J => J [(0, .int .i64 q0), (1, .slice a_1 q1.length c_1), (5, .slice a6 x5.1.length cp7), (6, .int .i64 x5.2), (7, .slice a10 x9.length cp11), (8, .slice a14 x13.1.length cp15), (9, .int .i64 x13.2), (41, .bool (!x17 || (x13.2 != x5.2)))] [rowT 9 eStr a6 x5.1.length cp7 x5.1, rowT 2 eI64 a10 x9.length cp11 x9, rowT 9 eStr a14 x13.1.length cp15 x13.1]) 4 ?_ ?_
    · refine JL.nil ?_
      refine JE.weak (env' := [(0, .int .i64 q0), (1, .slice a_1 q1.length c_1), (5, .slice a6 x5.1.length cp7), (6, .int .i64 x5.2), (7, .slice a10 x9.length cp11), (8, .slice a14 x13.1.length cp15), (9, .int .i64 x13.2), (41, .bool (!x17 || (x13.2 != x5.2)))]) (es' := [rowT 9 eStr a6 x5.1.length cp7 x5.1, rowT 2 eI64 a10 x9.length cp11 x9, rowT 9 eStr a14 x13.1.length cp15 x13.1]) [0, 1, 2] ?_ ⟨rfl, rfl, rfl, rfl, rfl, rfl, rfl, rfl, trivial⟩ (by decide) rfl
      refine JE.code ?_
      rcases cond_some hres with ⟨hb, hres⟩ | ⟨hb, hres⟩
      · refine JX.condT rfl hb ?_
        refine JX.seq ?_
        refine JX.region ?_
        refine JL.val (yl_assign rfl) rfl ?_
        refine JL.nil ?_
        refine JE.weak (env' := [(4, .bool false)]) (es' := []) [] ?_ ⟨rfl, trivial⟩ (by decide) rfl
        refine JE.code ?_
        refine JX.ret ?_
        obtain rfl := Option.some.inj hres
        refine JE.ret (rs := [.tmp 4]) (vs := [.bool false]) rfl ⟨rfl, trivial⟩ ?_
        exact fun w' hb hs => ⟨_, _, ⟨rfl, rfl⟩, rfl, hb, hs.sel [] _ (by decide) rfl⟩
      · refine JX.condF rfl hb ?_
        refine JX.skip ?_
        refine JE.code ?_
        refine JX.seq ?_
        refine JX.seq ?_
        refine JX.region ?_
        refine JL.val (yl_move rfl) rfl ?_
        refine JL.val (yl_move rfl) rfl ?_
        obtain ⟨x18, hx18, hres⟩ := bind_some hres
        refine JL.eff (ef_call (T := T24 x18) Go.Proofs.Try.func24 rfl (by kernel_rfl) rfl (fun w hC => c24 (rd_arg g_1 hC) rfl k_1 hx18)) rfl ?_
        rintro _ _ ⟨_, ⟨a19, _, cp20, rfl, rfl, rfl⟩, rfl⟩
        obtain ⟨x22, hx22, hres⟩ := bind_some hres
        refine JL.eff (ef_call (T := T27 x22) Go.Proofs.Try.func27 rfl (by kernel_rfl) rfl (fun w hC => c27 (rd_row hC 1 rfl) rfl (ln_row hC 1 rfl) (rd_row hC 3 rfl) rfl (ln_row hC 3 rfl) hx22)) rfl ?_
        rintro _ _ ⟨_, ⟨rfl, rfl⟩, rfl⟩
        refine JL.val (yl_not rfl) rfl ?_
        refine JL.nil ?_
        refine JE.weak (env' := [(0, .int .i64 q0), (1, .slice a_1 q1.length c_1), (5, .slice a6 x5.1.length cp7), (6, .int .i64 x5.2), (7, .slice a10 x9.length cp11), (8, .slice a14 x13.1.length cp15), (9, .int .i64 x13.2), (46, .bool !x22)]) (es' := [rowT 9 eStr a6 x5.1.length cp7 x5.1, rowT 2 eI64 a10 x9.length cp11 x9, rowT 9 eStr a14 x13.1.length cp15 x13.1]) [0, 1, 2] ?_ ⟨rfl, rfl, rfl, rfl, rfl, rfl, rfl, rfl, trivial⟩ (by decide) rfl
        refine JE.code ?_
        rcases cond_some hres with ⟨hb, hres⟩ | ⟨hb, hres⟩
        · refine JX.condT rfl hb ?_
          refine JX.seq ?_
          refine JX.region ?_
          refine JL.val (yl_assign rfl) rfl ?_
          refine JL.nil ?_
          refine JE.weak (env' := [(4, .bool false)]) (es' := []) [] ?_ ⟨rfl, trivial⟩ (by decide) rfl
          refine JE.code ?_
          refine JX.ret ?_
          obtain rfl := Option.some.inj hres
          refine JE.ret (rs := [.tmp 4]) (vs := [.bool false]) rfl ⟨rfl, trivial⟩ ?_
          exact fun w' hb hs => ⟨_, _, ⟨rfl, rfl⟩, rfl, hb, hs.sel [] _ (by decide) rfl⟩
        · refine JX.condF rfl hb ?_
          refine JX.skip ?_
          refine JE.code ?_
          refine JX.seq ?_
          refine JX.region ?_
          refine JL.val (yl_assign rfl) rfl ?_
          refine JL.nil ?_
          refine JE.code ?_
          refine JX.seq ?_
          refine JX.region ?_
          refine JL.val (yl_move rfl) rfl ?_
          refine JL.val (yl_move rfl) rfl ?_
          obtain ⟨x23, hx23, hres⟩ := bind_some hres
          refine JL.eff (ef_callm (T := T28 a10 x9.length cp11 x23) 1 Go.Proofs.Try.func28 rfl (by kernel_rfl) rfl rfl (fun w fp hs => c28 hs rfl hx23)) rfl ?_
          rintro _ _ ⟨_, _, ⟨l24, rfl, rfl, rfl⟩, rfl⟩
          refine JL.val (yl_assign rfl) rfl ?_
          refine JL.nil ?_
          refine JE.weak (env' := [(0, .int .i64 q0), (1, .slice a_1 q1.length c_1), (5, .slice a6 x5.1.length cp7), (6, .int .i64 x5.2), (8, .slice a14 x13.1.length cp15), (9, .int .i64 x13.2), (10, .int .i64 x23.1)]) (es' := [rowT 9 eStr a6 x5.1.length cp7 x5.1, rowT 9 eStr a14 x13.1.length cp15 x13.1]) [0, 2] ?_ ⟨rfl, rfl, rfl, rfl, rfl, rfl, rfl, trivial⟩ (by decide) rfl
          refine JE.code ?_
          refine JX.seq ?_
          refine JX.seq ?_
          refine JX.region ?_
          refine JL.val (yl_move rfl) rfl ?_
          refine JL.val (yl_lss rfl rfl) rfl ?_
          refine JL.val (yl_move rfl) rfl ?_
          obtain ⟨c25, hc25, hres⟩ := bind_some hres
          refine JL.cut (K := fun J => J [(0, .int .i64 q0), (1, .slice a_1 q1.length c_1), (5, .slice a6 x5.1.length cp7), (6, .int .i64 x5.2), (8, .slice a14 x13.1.length cp15), (9, .int .i64 x13.2), (57, .bool c25)] [rowT 9 eStr a6 x5.1.length cp7 x5.1, rowT 9 eStr a14 x13.1.length cp15 x13.1]) 5 ?_ ?_
          · refine JL.val (yl_move rfl) rfl ?_
            refine JL.cut (K := fun J => J [(0, .int .i64 q0), (1, .slice a_1 q1.length c_1), (5, .slice a6 x5.1.length cp7), (6, .int .i64 x5.2), (8, .slice a14 x13.1.length cp15), (62, .bool (c25 || (x13.2 != x5.2)))] [rowT 9 eStr a6 x5.1.length cp7 x5.1, rowT 9 eStr a14 x13.1.length cp15 x13.1]) 4 ?_ ?_
            · refine JL.nil ?_
              refine JE.weak (env' := [(0, .int .i64 q0), (1, .slice a_1 q1.length c_1), (5, .slice a6 x5.1.length cp7), (6, .int .i64 x5.2), (8, .slice a14 x13.1.length cp15), (62, .bool (c25 || (x13.2 != x5.2)))]) (es' := [rowT 9 eStr a6 x5.1.length cp7 x5.1, rowT 9 eStr a14 x13.1.length cp15 x13.1]) [0, 1] ?_ ⟨rfl, rfl, rfl, rfl, rfl, rfl, trivial⟩ (by decide) rfl
              refine JE.code ?_
              rcases cond_some hres with ⟨hb, hres⟩ | ⟨hb, hres⟩
              · refine JX.condT rfl hb ?_
                refine JX.seq ?_
                refine JX.region ?_
                refine JL.val (yl_assign rfl) rfl ?_
                refine JL.nil ?_
                refine JE.weak (env' := [(4, .bool false)]) (es' := []) [] ?_ ⟨rfl, trivial⟩ (by decide) rfl
                refine JE.code ?_
                refine JX.ret ?_
                obtain rfl := Option.some.inj hres
                refine JE.ret (rs := [.tmp 4]) (vs := [.bool false]) rfl ⟨rfl, trivial⟩ ?_
                exact fun w' hb hs => ⟨_, _, ⟨rfl, rfl⟩, rfl, hb, hs.sel [] _ (by decide) rfl⟩
              · refine JX.condF rfl hb ?_
                refine JX.skip ?_
                refine JE.code ?_
                refine JX.seq ?_
                refine JX.region ?_
                refine JL.val (yl_assign rfl) rfl ?_
                refine JL.nil ?_
                refine JE.code ?_
                refine JX.seq ?_
                refine JX.region ?_
                refine JL.val (yl_move rfl) rfl ?_
                refine JL.val (yl_move rfl) rfl ?_
                obtain ⟨x27, hx27, hres⟩ := bind_some hres
                refine JL.eff (ef_callm (T := T48 a14 x13.1.length cp15 x27) 1 Go.Proofs.Try.func48 rfl (by kernel_rfl) rfl rfl (fun w fp hs => c48 hs rfl hx27)) rfl ?_
                rintro _ _ ⟨_, _, ⟨l28, rfl, rfl, rfl⟩, rfl⟩
                refine JL.val (yl_assign rfl) rfl ?_
                refine JL.nil ?_
                refine JE.weak (env' := [(0, .int .i64 q0), (1, .slice a_1 q1.length c_1), (5, .slice a6 x5.1.length cp7), (6, .int .i64 x5.2), (8, .slice a14 x13.1.length cp15), (11, .int .i64 x27.1)]) (es' := [rowT 9 eStr a6 x5.1.length cp7 x5.1, rowT 9 eStr a14 x13.1.length cp15 x27.2]) [0, 1] ?_ ⟨rfl, rfl, rfl, rfl, rfl, rfl, trivial⟩ (by decide) rfl
                refine JE.code ?_
                refine JX.seq ?_
                refine JX.region ?_
                refine JL.val (yl_assign rfl) rfl ?_
                refine JL.nil ?_
                refine JE.code ?_
                refine JX.seq ?_
                refine JX.region ?_
                refine JL.val (yl_move rfl) rfl ?_
                refine JL.val (yl_move rfl) rfl ?_
                obtain ⟨x29, hx29, hres⟩ := bind_some hres
                refine JL.eff (ef_call (T := T49 x29) Go.Proofs.Try.func49 rfl (by kernel_rfl) rfl (fun w hC => c49 (rd_row hC 1 rfl) l28 (ln_row hC 1 rfl) hx29)) rfl ?_
                rintro _ _ ⟨_, ⟨rfl, rfl⟩, rfl⟩
                refine JL.val (yl_assign rfl) rfl ?_
                refine JL.nil ?_
                refine JE.weak (env' := [(0, .int .i64 q0), (1, .slice a_1 q1.length c_1), (5, .slice a6 x5.1.length cp7), (6, .int .i64 x5.2), (8, .slice a14 x13.1.length cp15), (11, .int .i64 x27.1), (12, .int .i64 x29)]) (es' := [rowT 9 eStr a6 x5.1.length cp7 x5.1, rowT 9 eStr a14 x13.1.length cp15 x27.2]) [0, 1] ?_ ⟨rfl, rfl, rfl, rfl, rfl, rfl, rfl, trivial⟩ (by decide) rfl
                refine JE.code ?_
                refine JX.seq ?_
                refine JX.seq ?_
                refine JX.region ?_
                refine JL.val (yl_move rfl) rfl ?_
                refine JL.val (yl_lss rfl rfl) rfl ?_
                refine JL.nil ?_
                refine JE.code ?_
                rcases cond_some hres with ⟨hb, hres⟩ | ⟨hb, hres⟩
                · refine JX.condT rfl hb ?_
                  refine JX.seq ?_
                  refine JX.region ?_
                  refine JL.val (yl_assign rfl) rfl ?_
                  refine JL.nil ?_
                  refine JE.weak (env' := [(4, .bool false)]) (es' := []) [] ?_ ⟨rfl, trivial⟩ (by decide) rfl
                  refine JE.code ?_
                  refine JX.ret ?_
                  obtain rfl := Option.some.inj hres
                  refine JE.ret (rs := [.tmp 4]) (vs := [.bool false]) rfl ⟨rfl, trivial⟩ ?_
                  exact fun w' hb hs => ⟨_, _, ⟨rfl, rfl⟩, rfl, hb, hs.sel [] _ (by decide) rfl⟩
                · refine JX.condF rfl hb ?_
                  refine JX.skip ?_
                  refine JE.code ?_
                  refine JX.seq ?_
                  refine JX.seq ?_
                  refine JX.region ?_
                  refine JL.val (yl_move rfl) rfl ?_
                  refine JL.val (yl_move rfl) rfl ?_
                  refine JL.val (yl_neq rfl rfl) rfl ?_
                  refine JL.nil ?_
                  refine JE.code ?_
                  rcases cond_some hres with ⟨hb, hres⟩ | ⟨hb, hres⟩
                  · refine JX.condT rfl hb ?_
                    refine JX.seq ?_
                    refine JX.region ?_
                    refine JL.val (yl_assign rfl) rfl ?_
                    refine JL.nil ?_
                    refine JE.weak (env' := [(4, .bool false)]) (es' := []) [] ?_ ⟨rfl, trivial⟩ (by decide) rfl
                    refine JE.code ?_
                    refine JX.ret ?_
                    obtain rfl := Option.some.inj hres
                    refine JE.ret (rs := [.tmp 4]) (vs := [.bool false]) rfl ⟨rfl, trivial⟩ ?_
                    exact fun w' hb hs => ⟨_, _, ⟨rfl, rfl⟩, rfl, hb, hs.sel [] _ (by decide) rfl⟩
                  · refine JX.condF rfl hb ?_
                    refine JX.skip ?_
                    refine JE.code ?_
                    refine JX.seq ?_
                    refine JX.region ?_
                    refine JL.val (yl_move rfl) rfl ?_
                    refine JL.val (yl_move rfl) rfl ?_
                    obtain ⟨x30, hx30, hres⟩ := bind_some hres
                    refine JL.eff (ef_call (T := T24 x30) Go.Proofs.Try.func24 rfl (by kernel_rfl) rfl (fun w hC => c24 (rd_arg g_1 hC) rfl k_1 hx30)) rfl ?_
                    rintro _ _ ⟨_, ⟨a31, _, cp32, rfl, rfl, rfl⟩, rfl⟩
                    obtain ⟨x34, hx34, hres⟩ := bind_some hres
                    refine JL.eff (ef_call (T := T46 x34) Go.Proofs.Try.func46 rfl (by kernel_rfl) rfl (fun w hC => c46 (rd_row hC 2 rfl) rfl (ln_row hC 2 rfl) hx34)) rfl ?_
                    rintro _ _ ⟨_, ⟨a35, _, cp36, rfl, rfl, rfl⟩, rfl⟩
                    refine JL.val (yl_move rfl) rfl ?_
                    refine JL.val (yl_extract rfl rfl) rfl ?_
                    refine JL.val (yl_extract rfl rfl) rfl ?_
                    refine JL.val (yl_assign rfl) rfl ?_
                    refine JL.val (yl_assign rfl) rfl ?_
                    refine JL.nil ?_
                    refine JE.weak (env' := [(5, .slice a6 x5.1.length cp7), (6, .int .i64 x5.2), (8, .slice a14 x13.1.length cp15), (11, .int .i64 x27.1), (13, .slice a35 x34.1.length cp36), (14, .int .i64 x34.2)]) (es' := [rowT 9 eStr a6 x5.1.length cp7 x5.1, rowT 9 eStr a14 x13.1.length cp15 x27.2, rowT 9 eStr a35 x34.1.length cp36 x34.1]) [0, 1, 3] ?_ ⟨rfl, rfl, rfl, rfl, rfl, rfl, trivial⟩ (by decide) rfl
                    refine JE.code ?_
                    refine JX.seq ?_
                    refine JX.seq ?_
                    refine JX.region ?_
                    refine JL.val (yl_move rfl) rfl ?_
                    refine JL.val (yl_move rfl) rfl ?_
                    obtain ⟨x38, hx38, hres⟩ := bind_some hres
                    refine JL.eff (ef_call (T := T47 x38) Go.Proofs.Try.func47 rfl (by kernel_rfl) rfl (fun w hC => c47 (rd_row hC 2 rfl) rfl (ln_row hC 2 rfl) (rd_row hC 0 rfl) rfl (ln_row hC 0 rfl) hx38)) rfl ?_
                    rintro _ _ ⟨_, ⟨rfl, rfl⟩, rfl⟩
                    refine JL.val (yl_not rfl) rfl ?_
                    refine JL.val (yl_move rfl) rfl ?_
                    refine JL.cut (K := fun J => J [(8, .slice a14 x13.1.length cp15), (11, .int .i64 x27.1), (89, .bool (!x38 || (x34.2 != x5.2)))] [rowT 9 eStr a14 x13.1.length cp15 x27.2]) 4 ?_ ?_
                    · refine JL.nil ?_
                      refine JE.weak (env' := [(8, .slice a14 x13.1.length cp15), (11, .int .i64 x27.1), (89, .bool (!x38 || (x34.2 != x5.2)))]) (es' := [rowT 9 eStr a14 x13.1.length cp15 x27.2]) [0] ?_ ⟨rfl, rfl, rfl, trivial⟩ (by decide) rfl
                      refine JE.code ?_
                      rcases cond_some hres with ⟨hb, hres⟩ | ⟨hb, hres⟩
                      · refine JX.condT rfl hb ?_
                        refine JX.seq ?_
                        refine JX.region ?_
                        refine JL.val (yl_assign rfl) rfl ?_
                        refine JL.nil ?_
                        refine JE.weak (env' := [(4, .bool false)]) (es' := []) [] ?_ ⟨rfl, trivial⟩ (by decide) rfl
                        refine JE.code ?_
                        refine JX.ret ?_
                        obtain rfl := Option.some.inj hres
                        refine JE.ret (rs := [.tmp 4]) (vs := [.bool false]) rfl ⟨rfl, trivial⟩ ?_
                        exact fun w' hb hs => ⟨_, _, ⟨rfl, rfl⟩, rfl, hb, hs.sel [] _ (by decide) rfl⟩
                      · refine JX.condF rfl hb ?_
                        refine JX.skip ?_
                        refine JE.code ?_
                        refine JX.seq ?_
                        refine JX.region ?_
                        refine JL.val (yl_assign rfl) rfl ?_
                        refine JL.nil ?_
                        refine JE.code ?_
                        refine JX.seq ?_
                        refine JX.region ?_
                        refine JL.val (yl_move rfl) rfl ?_
                        refine JL.val (yl_move rfl) rfl ?_
                        obtain ⟨x39, hx39, hres⟩ := bind_some hres
                        refine JL.eff (ef_call (T := T49 x39) Go.Proofs.Try.func49 rfl (by kernel_rfl) rfl (fun w hC => c49 (rd_row hC 0 rfl) l28 (ln_row hC 0 rfl) hx39)) rfl ?_
                        rintro _ _ ⟨_, ⟨rfl, rfl⟩, rfl⟩
                        refine JL.val (yl_assign rfl) rfl ?_
                        refine JL.nil ?_
                        refine JE.weak (env' := [(11, .int .i64 x27.1), (12, .int .i64 x39)]) (es' := []) [] ?_ ⟨rfl, rfl, trivial⟩ (by decide) rfl
                        refine JE.code ?_
                        refine JX.seq ?_
                        refine JX.seq ?_
                        refine JX.region ?_
                        refine JL.val (yl_move rfl) rfl ?_
                        refine JL.val (yl_lss rfl rfl) rfl ?_
                        refine JL.nil ?_
                        refine JE.code ?_
                        rcases cond_some hres with ⟨hb, hres⟩ | ⟨hb, hres⟩
                        · refine JX.condT rfl hb ?_
                          refine JX.seq ?_
                          refine JX.region ?_
                          refine JL.val (yl_assign rfl) rfl ?_
                          refine JL.nil ?_
                          refine JE.code ?_
                          refine JX.ret ?_
                          obtain rfl := Option.some.inj hres
                          refine JE.ret (rs := [.tmp 4]) (vs := [.bool false]) rfl ⟨rfl, trivial⟩ ?_
                          exact fun w' hb hs => ⟨_, _, ⟨rfl, rfl⟩, rfl, hb, hs.sel [] _ (by decide) rfl⟩
                        · refine JX.condF rfl hb ?_
                          refine JX.skip ?_
                          refine JE.code ?_
                          refine JX.seq ?_
                          refine JX.seq ?_
                          refine JX.region ?_
                          refine JL.val (yl_move rfl) rfl ?_
                          refine JL.val (yl_move rfl) rfl ?_
                          refine JL.val (yl_neq rfl rfl) rfl ?_
                          refine JL.nil ?_
                          refine JE.code ?_
                          rcases cond_some hres with ⟨hb, hres⟩ | ⟨hb, hres⟩
                          · refine JX.condT rfl hb ?_
                            refine JX.seq ?_
                            refine JX.region ?_
                            refine JL.val (yl_assign rfl) rfl ?_
                            refine JL.nil ?_
                            refine JE.code ?_
                            refine JX.ret ?_
                            obtain rfl := Option.some.inj hres
                            refine JE.ret (rs := [.tmp 4]) (vs := [.bool false]) rfl ⟨rfl, trivial⟩ ?_
                            exact fun w' hb hs => ⟨_, _, ⟨rfl, rfl⟩, rfl, hb, hs.sel [] _ (by decide) rfl⟩
                          · refine JX.condF rfl hb ?_
                            refine JX.skip ?_
                            refine JE.code ?_
                            refine JX.seq ?_
                            refine JX.region ?_
                            refine JL.val (yl_assign rfl) rfl ?_
                            refine JL.nil ?_
                            refine JE.code ?_
                            refine JX.ret ?_
                            obtain rfl := Option.some.inj hres
                            refine JE.ret (rs := [.tmp 4]) (vs := [.bool true]) rfl ⟨rfl, trivial⟩ ?_
                            exact fun w' hb hs => ⟨_, _, ⟨rfl, rfl⟩, rfl, hb, hs.sel [] _ (by decide) rfl⟩
                    · intro K
                      rcases Bool.eq_false_or_eq_true (!x38) with hb | hb
                      · refine JL.set (d := 85) (v := .bool true) (congrArg (fun b => some (Value.bool b)) hb) ?_
                        refine JL.gskip rfl rfl rfl rfl ?_
                        refine JL.gskip rfl rfl rfl rfl ?_
                        refine JL.gskip rfl rfl rfl rfl ?_
                        refine JL.val (yl_pick_true rfl rfl) rfl ?_
                        exact JL.weak [1] K ⟨rfl, rfl, (by rw [hb]; rfl), trivial⟩ (by decide) rfl
                      · refine JL.set (d := 85) (v := .bool false) (congrArg (fun b => some (Value.bool b)) hb) ?_
                        refine JL.gval rfl rfl (yl_move rfl) rfl ?_
                        refine JL.gval rfl rfl (yl_move rfl) rfl ?_
                        refine JL.gval rfl rfl (yl_neq rfl rfl) rfl ?_
                        refine JL.val (yl_pick_false rfl rfl) rfl ?_
                        exact JL.weak [1] K ⟨rfl, rfl, (by rw [hb]; rfl), trivial⟩ (by decide) rfl
            · intro K
              rcases Bool.eq_false_or_eq_true (c25) with hb | hb
              · refine JL.set (d := 58) (v := .bool true) (congrArg (fun b => some (Value.bool b)) hb) ?_
                refine JL.gskip rfl rfl rfl rfl ?_
                refine JL.gskip rfl rfl rfl rfl ?_
                refine JL.gskip rfl rfl rfl rfl ?_
                refine JL.val (yl_pick_true rfl rfl) rfl ?_
                exact JL.weak [0, 1] K ⟨rfl, rfl, rfl, rfl, rfl, (by rw [hb]; rfl), trivial⟩ (by decide) rfl
              · refine JL.set (d := 58) (v := .bool false) (congrArg (fun b => some (Value.bool b)) hb) ?_
                refine JL.gval rfl rfl (yl_move rfl) rfl ?_
                refine JL.gval rfl rfl (yl_move rfl) rfl ?_
                refine JL.gval rfl rfl (yl_neq rfl rfl) rfl ?_
                refine JL.val (yl_pick_false rfl rfl) rfl ?_
                exact JL.weak [0, 1] K ⟨rfl, rfl, rfl, rfl, rfl, (by rw [hb]; rfl), trivial⟩ (by decide) rfl
          · intro K
            rcases cond_some hc25 with ⟨hb, hres⟩ | ⟨hb, hres⟩
            · refine JL.set (d := 52) (v := .bool true) (congrArg (fun b => some (Value.bool b)) hb) ?_
              refine JL.gskip rfl rfl rfl rfl ?_
              refine JL.gskip rfl rfl rfl rfl ?_
              refine JL.gskip rfl rfl rfl rfl ?_
              refine JL.gskip rfl rfl rfl rfl ?_
              refine JL.val (yl_pick_true rfl rfl) rfl ?_
              have he := Option.some.inj hres
              exact JL.weak [0, 1] K ⟨rfl, rfl, rfl, rfl, rfl, rfl, (by rw [← he]; rfl), trivial⟩ (by decide) rfl
            · refine JL.set (d := 52) (v := .bool false) (congrArg (fun b => some (Value.bool b)) hb) ?_
              refine JL.gval rfl rfl (yl_move rfl) rfl ?_
              refine JL.gval rfl rfl (yl_move rfl) rfl ?_
              obtain ⟨x26, hx26, hres⟩ := bind_some hres
              refine JL.geff rfl rfl (ef_call (T := T47 x26) Go.Proofs.Try.func47 rfl (by kernel_rfl) rfl (fun w hC => c47 (rd_row hC 1 rfl) rfl (ln_row hC 1 rfl) (rd_row hC 0 rfl) rfl (ln_row hC 0 rfl) hx26)) rfl ?_
              rintro _ _ ⟨_, ⟨rfl, rfl⟩, rfl⟩
              refine JL.gval rfl rfl (yl_not rfl) rfl ?_
              refine JL.val (yl_pick_false rfl rfl) rfl ?_
              have he := Option.some.inj hres
              exact JL.weak [0, 1] K ⟨rfl, rfl, rfl, rfl, rfl, rfl, (by rw [← he]; rfl), trivial⟩ (by decide) rfl
    · intro K
      rcases Bool.eq_false_or_eq_true (!x17) with hb | hb
      · refine JL.set (d := 37) (v := .bool true) (congrArg (fun b => some (Value.bool b)) hb) ?_
        refine JL.gskip rfl rfl rfl rfl ?_
        refine JL.gskip rfl rfl rfl rfl ?_
        refine JL.gskip rfl rfl rfl rfl ?_
        refine JL.val (yl_pick_true rfl rfl) rfl ?_
        exact JL.weak [0, 1, 2] K ⟨rfl, rfl, rfl, rfl, rfl, rfl, rfl, (by rw [hb]; rfl), trivial⟩ (by decide) rfl
      · refine JL.set (d := 37) (v := .bool false) (congrArg (fun b => some (Value.bool b)) hb) ?_
        refine JL.gval rfl rfl (yl_move rfl) rfl ?_
        refine JL.gval rfl rfl (yl_move rfl) rfl ?_
        refine JL.gval rfl rfl (yl_neq rfl rfl) rfl ?_
        refine JL.val (yl_pick_false rfl rfl) rfl ?_
        exact JL.weak [0, 1, 2] K ⟨rfl, rfl, rfl, rfl, rfl, rfl, rfl, (by rw [hb]; rfl), trivial⟩ (by decide) rfl

end Go.Sh
