/- Walks through functions that the law reaches, printed by program. -/
import Derived.Test.YthcbifffelaaoaaF14T
namespace Go.Sh
open Go Go.RowKit
/- laws.toInt64S -/
def sh16_1 (q0 : List Int) : (Int × List Int) → Option ((Int × List Int) ⊕ (List Int))
  | (x5, x6) => bif decide (x5 < (q0.length : Int)) then (Option.bind (getI q0 x5) fun x8 => Option.bind (getI x6 x5) fun x9 => some (.inl (w64 (x5 + 1), x6.set (x5).toNat x8))) else (some (.inr x6))
def sh16 (q0 : List Int) : Option (List Int) := Option.bind (mkL (q0.length : Int) 0) fun x1 => Option.bind (iter (sh16_1 q0) (0, x1)) fun b1 => (some b1)
def T16 (r : List Int) (v : Value) (rs : List Own) : Prop := ∃ (a0 : Option Addr) (n0 c0 : Nat), r.length = n0 ∧ v = rets [.slice a0 n0 c0] ∧ rs = [rowT 2 eI64 a0 n0 c0 r]
set_option maxRecDepth 100000 in
theorem c16 {w : World} {q0 : List Int} {a_0 : Option Addr} {n_0 c_0 : Nat} (g_0 : Rd w a_0 (eI64.fl q0)) (l_0 : q0.length = n_0) (k_0 : n_0 ≤ c_0) {r : List Int} (hres : sh16 q0 = some r) : Calls Go.Proofs.Try.prog 16 [.slice a_0 n_0 c_0].toArray w (Ret w (T16 r)) := by
  subst l_0
  unfold sh16 at hres
  refine calls_of (n := 22) (M := []) (es := []) Go.Proofs.Try.func16 rfl rfl rfl (Sep.nil _ _ _) ?_
  refine JX.seq ?_
  refine JX.region ?_
  refine JL.val (yl_assign rfl) rfl ?_
  refine JL.nil ?_
  refine JE.code ?_
  refine JX.seq ?_
  refine JX.region ?_
  refine JL.val (yl_move rfl) rfl ?_
  refine JL.val (yl_len_slice Go.Proofs.Try.underlying22 rfl) rfl ?_
  obtain ⟨x1, hx1, hres⟩ := bind_some hres
  refine JL.eff (ef_makeS (e := eI64) Go.Proofs.Try.underlying22 i2 i2s i2z rfl i2b1 rfl rfl hx1) rfl ?_
  rintro _ _ ⟨a2, rfl, rfl⟩
  refine JL.val (yl_assign rfl) rfl ?_
  refine JL.nil ?_
  refine JE.weak (env' := [(0, .slice a_0 q0.length c_0), (3, .slice a2 x1.length x1.length)]) (es' := [rowT 2 eI64 a2 x1.length x1.length x1]) [0] ?_ ⟨rfl, rfl, trivial⟩ (by decide) rfl
  refine JE.code ?_
  refine JX.seq ?_
  refine JX.seq ?_
  refine JX.region ?_
  refine JL.val (yl_assign rfl) rfl ?_
  refine JL.nil ?_
  refine JE.code ?_
  refine JX.block ?_
  obtain ⟨y1, hy1, hresO1⟩ := bind_some hres
  refine JX.loop (I := fun (s1 : Int × List Int) aa ww => ∃ (l4 : s1.2.length = x1.length), St w [] 22 [(0, .slice a_0 q0.length c_0), (3, .slice a2 x1.length x1.length), (4, .int .i64 s1.1)] [rowT 2 eI64 a2 x1.length x1.length s1.2] aa ww) (sh16_1 q0) hy1 (fun a w h => ⟨rfl, h.weak ⟨rfl, rfl, rfl, trivial⟩ [0] (by decide) rfl⟩) ?_
  rintro ⟨x5, x6⟩ o1 hres hox1 aa ww ⟨l7, hS⟩
  refine (?_ : JX Go.Proofs.Try.prog w [] 22 _ _ [(0, .slice a_0 q0.length c_0), (3, .slice a2 x1.length x1.length), (4, .int .i64 x5)] [rowT 2 eI64 a2 x1.length x1.length x6] _) aa ww hS
  clear hS
  simp only [sh16_1] at hres
  refine JX.seq ?_
  refine JX.seq ?_
  refine JX.region ?_
  refine JL.val (yl_move rfl) rfl ?_
  refine JL.val (yl_move rfl) rfl ?_
  refine JL.val (yl_len_slice Go.Proofs.Try.underlying22 rfl) rfl ?_
  refine JL.val (yl_lss rfl rfl) rfl ?_
  refine JL.nil ?_
  refine JE.weak (env' := [(0, .slice a_0 q0.length c_0), (3, .slice a2 x1.length x1.length), (4, .int .i64 x5), (11, .bool (decide (x5 < (q0.length : Int))))]) (es' := [rowT 2 eI64 a2 x1.length x1.length x6]) [0] ?_ ⟨rfl, rfl, rfl, rfl, trivial⟩ (by decide) rfl
  refine JE.code ?_
  rcases cond_some hres with ⟨hb, hres⟩ | ⟨hb, hres⟩
  · refine JX.condT rfl hb ?_
    refine JX.skip ?_
    refine JE.code ?_
    refine JX.seq ?_
    refine JX.block ?_
    refine JX.region ?_
    refine JL.val (yl_move rfl) rfl ?_
    refine JL.val (yl_move rfl) rfl ?_
    refine JL.val (yl_move rfl) rfl ?_
    refine JL.val (yl_move rfl) rfl ?_
    obtain ⟨x8, hx8, hres⟩ := bind_some hres
    refine JL.val (yl_idxT Go.Proofs.Try.underlying22 i2 i2s rfl rfl hx8 rfl (fun w hC => rd_arg g_0 hC)) rfl ?_
    refine JL.val (yl_loadT0 Go.Proofs.Try.underlying2 rfl rfl hx8 (fun w hC => rd_arg g_0 hC) rfl) rfl ?_
    obtain ⟨x9, hx9, hres⟩ := bind_some hres
    refine JL.val (yl_idxT Go.Proofs.Try.underlying22 i2 i2s rfl rfl hx9 l7 (fun w hC => rd_row hC 0 rfl)) rfl ?_
    refine JL.eff (ef_storeT (ix := 0) (u := x8) i2 i2s rfl rfl rfl hx9 rfl) rfl ?_
    rintro _ _ rfl
    refine JL.nil ?_
    refine JE.weak (env' := [(0, .slice a_0 q0.length c_0), (3, .slice a2 x1.length x1.length), (4, .int .i64 x5)]) (es' := [rowT 2 eI64 a2 x1.length x1.length (x6.set (x5).toNat x8)]) [0] ?_ ⟨rfl, rfl, rfl, trivial⟩ (by decide) rfl
    refine JE.code ?_
    refine JX.region ?_
    refine JL.val (yl_move rfl) rfl ?_
    refine JL.val (yl_add rfl rfl) rfl ?_
    refine JL.val (yl_assign rfl) rfl ?_
    refine JL.nil ?_
    refine JE.cont hres ?_
    exact fun a w h => ⟨(List.length_set.trans l7), h.weak ⟨rfl, rfl, rfl, trivial⟩ [0] (by decide) rfl⟩
  · refine JX.condF rfl hb ?_
    refine JX.exit ?_
    refine JE.qb rfl ?_
    obtain ⟨b1, hb1⟩ : ∃ b : List Int, b = x6 := ⟨_, rfl⟩
    have hy1 : b1 = y1 := by rw [hb1]; exact hox1 _ (Option.some.inj hres).symm
    have hres := hresO1
    rw [← hy1] at hres
    have l10 : b1.length = x1.length := by subst hb1; exact l7
    refine JE.weak (env' := [(3, .slice a2 x1.length x1.length)]) (es' := [rowT 2 eI64 a2 x1.length x1.length b1]) [0] ?_ ⟨(by subst hb1; rfl), trivial⟩ (by decide) (by subst hb1; rfl)
    refine JE.code ?_
    refine JX.seq ?_
    refine JX.region ?_
    refine JL.val (yl_move rfl) rfl ?_
    refine JL.val (yl_assign rfl) rfl ?_
    refine JL.nil ?_
    refine JE.code ?_
    refine JX.ret ?_
    obtain rfl := Option.some.inj hres
    refine JE.ret (rs := [.tmp 2]) (vs := [.slice a2 x1.length x1.length]) rfl ⟨rfl, trivial⟩ ?_
    exact fun w' hb hs => ⟨_, _, ⟨a2, x1.length, x1.length, l10, rfl, rfl⟩, rfl, hb, hs.sel [0] _ (by decide) rfl⟩

/- laws.eqInt64S -/
def sh18_1 (q0 : List Int) (q1 : List Int) : Int → Option (Int ⊕ (Unit ⊕ Bool))
  | x1 => bif decide (x1 < (q0.length : Int)) then (Option.bind (getI q0 x1) fun x3 => Option.bind (getI q1 x1) fun x4 => bif x3 != x4 then (some (.inr (.inr false))) else (some (.inl (w64 (x1 + 1))))) else (some (.inr (.inl ())))
def sh18 (q0 : List Int) (q1 : List Int) : Option (Bool) := bif (q0.length : Int) != (q1.length : Int) then (some false) else (Option.bind (iter (sh18_1 q0 q1) 0) fun y1 => elimS y1 (fun r => some r) fun b1 => (some true))
def T18 (r : Bool) (v : Value) (rs : List Own) : Prop := v = rets [.bool r] ∧ rs = []
set_option maxRecDepth 100000 in
theorem c18 {w : World} {q0 : List Int} {a_0 : Option Addr} {n_0 c_0 : Nat} (g_0 : Rd w a_0 (eI64.fl q0)) (l_0 : q0.length = n_0) (k_0 : n_0 ≤ c_0) {q1 : List Int} {a_1 : Option Addr} {n_1 c_1 : Nat} (g_1 : Rd w a_1 (eI64.fl q1)) (l_1 : q1.length = n_1) (k_1 : n_1 ≤ c_1) {r : Bool} (hres : sh18 q0 q1 = some r) : Calls Go.Proofs.Try.prog 18 [.slice a_0 n_0 c_0, .slice a_1 n_1 c_1].toArray w (Ret w (T18 r)) := by
  subst l_0
  subst l_1
  unfold sh18 at hres
  refine calls_of (n := 26) (M := []) (es := []) Go.Proofs.Try.func18 rfl rfl rfl (Sep.nil _ _ _) ?_
  refine JX.seq ?_
  refine JX.region ?_
  refine JL.val (yl_assign rfl) rfl ?_
  refine JL.nil ?_
  refine JE.code ?_
  refine JX.seq ?_
  refine JX.seq ?_
  refine JX.region ?_
  refine JL.val (yl_move rfl) rfl ?_
  refine JL.val (yl_len_slice Go.Proofs.Try.underlying22 rfl) rfl ?_
  refine JL.val (yl_move rfl) rfl ?_
  refine JL.val (yl_len_slice Go.Proofs.Try.underlying22 rfl) rfl ?_
  refine JL.val (yl_neq rfl rfl) rfl ?_
  refine JL.nil ?_
  refine JE.weak (env' := [(0, .slice a_0 q0.length c_0), (1, .slice a_1 q1.length c_1), (10, .bool ((q0.length : Int) != (q1.length : Int)))]) (es' := []) [] ?_ ⟨rfl, rfl, rfl, trivial⟩ (by decide) rfl
  refine JE.code ?_
  rcases cond_some hres with ⟨hb, hres⟩ | ⟨hb, hres⟩
  · refine JX.condT rfl hb ?_
    refine JX.seq ?_
    refine JX.region ?_
    refine JL.val (yl_assign rfl) rfl ?_
    refine JL.nil ?_
    refine JE.code ?_
    refine JX.ret ?_
    obtain rfl := Option.some.inj hres
    refine JE.ret (rs := [.tmp 4]) (vs := [.bool false]) rfl ⟨rfl, trivial⟩ ?_
    exact fun w' hb hs => ⟨_, _, ⟨rfl, rfl⟩, rfl, hb, hs.sel [] _ (by decide) rfl⟩
  · refine JX.condF rfl hb ?_
    refine JX.skip ?_
    refine JE.code ?_
    refine JX.seq ?_
    refine JX.seq ?_
    refine JX.region ?_
    refine JL.val (yl_assign rfl) rfl ?_
    refine JL.nil ?_
    refine JE.code ?_
    refine JX.block ?_
    obtain ⟨y1, hy1, hresO1⟩ := bind_some hres
    refine JX.loop (I := fun (s1 : Int) aa ww => St w [] 26 [(0, .slice a_0 q0.length c_0), (1, .slice a_1 q1.length c_1), (5, .int .i64 s1)] [] aa ww) (sh18_1 q0 q1) hy1 (fun a w h => h.weak ⟨rfl, rfl, rfl, trivial⟩ [] (by decide) rfl) ?_
    rintro x1 o1 hres hox1 aa ww hS
    refine (?_ : JX Go.Proofs.Try.prog w [] 26 _ _ [(0, .slice a_0 q0.length c_0), (1, .slice a_1 q1.length c_1), (5, .int .i64 x1)] [] _) aa ww hS
    clear hS
    unfold sh18_1 at hres
    refine JX.seq ?_
    refine JX.seq ?_
    refine JX.region ?_
    refine JL.val (yl_move rfl) rfl ?_
    refine JL.val (yl_move rfl) rfl ?_
    refine JL.val (yl_len_slice Go.Proofs.Try.underlying22 rfl) rfl ?_
    refine JL.val (yl_lss rfl rfl) rfl ?_
    refine JL.nil ?_
    refine JE.weak (env' := [(0, .slice a_0 q0.length c_0), (1, .slice a_1 q1.length c_1), (5, .int .i64 x1), (14, .bool (decide (x1 < (q0.length : Int))))]) (es' := []) [] ?_ ⟨rfl, rfl, rfl, rfl, trivial⟩ (by decide) rfl
    refine JE.code ?_
    rcases cond_some hres with ⟨hb, hres⟩ | ⟨hb, hres⟩
    · refine JX.condT rfl hb ?_
      refine JX.skip ?_
      refine JE.code ?_
      refine JX.seq ?_
      refine JX.block ?_
      refine JX.seq ?_
      refine JX.drawH [(0, .pure), (1, .pure), (2, .pure), (3, .read), (4, .pure), (5, .pure), (6, .pure), (7, .read), (8, .pure)] [] [] [] [] [] mixedP rfl (by kernel_rfl) (by decide) rfl rfl ?_
      intro wrr2 Nr2 hFr2
      refine JH.pure rfl (yl_move rfl) rfl ?_
      refine JH.pure rfl (yl_move rfl) rfl ?_
      obtain ⟨x3, hx3, hres⟩ := bind_some hres
      refine JH.pure rfl (yl_idxQ Go.Proofs.Try.underlying22 i2 i2s rfl rfl hx3 rfl (rd_arg g_0 hFr2.cl) rfl) rfl ?_
      refine JH.read rfl (yl_loadT0 Go.Proofs.Try.underlying2 rfl rfl hx3 (fun w hw => hFr2.arg g_0 hw) rfl) rfl ?_
      refine JH.pure rfl (yl_move rfl) rfl ?_
      refine JH.pure rfl (yl_move rfl) rfl ?_
      obtain ⟨x4, hx4, hres⟩ := bind_some hres
      refine JH.pure rfl (yl_idxQ Go.Proofs.Try.underlying22 i2 i2s rfl rfl hx4 rfl (rd_arg g_1 hFr2.cl) rfl) rfl ?_
      refine JH.read rfl (yl_loadT0 Go.Proofs.Try.underlying2 rfl rfl hx4 (fun w hw => hFr2.arg g_1 hw) rfl) rfl ?_
      refine JH.pure rfl (yl_neq rfl rfl) rfl ?_
      refine JH.nil ?_
      refine JE.weak (env' := [(0, .slice a_0 q0.length c_0), (1, .slice a_1 q1.length c_1), (5, .int .i64 x1), (25, .bool (x3 != x4))]) (es' := []) [] ?_ ⟨rfl, rfl, rfl, rfl, trivial⟩ (by decide) rfl
      refine JE.code ?_
      rcases cond_some hres with ⟨hb, hres⟩ | ⟨hb, hres⟩
      · refine JX.condT rfl hb ?_
        refine JX.seq ?_
        refine JX.region ?_
        refine JL.val (yl_assign rfl) rfl ?_
        refine JL.nil ?_
        refine JE.code ?_
        refine JX.ret ?_
        refine JE.qbr ?_
        refine JE.qbr ?_
        have hres := elimS_inr hresO1 (hox1 _ (Option.some.inj hres).symm)
        obtain rfl := Option.some.inj hres
        refine JE.ret (rs := [.tmp 4]) (vs := [.bool false]) rfl ⟨rfl, trivial⟩ ?_
        exact fun w' hb hs => ⟨_, _, ⟨rfl, rfl⟩, rfl, hb, hs.sel [] _ (by decide) rfl⟩
      · refine JX.condF rfl hb ?_
        refine JX.skip ?_
        refine JE.code ?_
        refine JX.region ?_
        refine JL.val (yl_move rfl) rfl ?_
        refine JL.val (yl_add rfl rfl) rfl ?_
        refine JL.val (yl_assign rfl) rfl ?_
        refine JL.nil ?_
        refine JE.cont hres ?_
        exact fun a w h => h.weak ⟨rfl, rfl, rfl, trivial⟩ [] (by decide) rfl
    · refine JX.condF rfl hb ?_
      refine JX.exit ?_
      refine JE.qb rfl ?_
      obtain ⟨b1, hb1⟩ : ∃ b : Unit, b = () := ⟨_, rfl⟩
      have hy1 : Sum.inl b1 = y1 := by rw [hb1]; exact hox1 _ (Option.some.inj hres).symm
      have hres := elimS_inl hresO1 hy1
      refine JE.weak (env' := []) (es' := []) [] ?_ trivial (by decide) (by subst hb1; rfl)
      refine JE.code ?_
      refine JX.seq ?_
      refine JX.region ?_
      refine JL.val (yl_assign rfl) rfl ?_
      refine JL.nil ?_
      refine JE.code ?_
      refine JX.ret ?_
      obtain rfl := Option.some.inj hres
      refine JE.ret (rs := [.tmp 4]) (vs := [.bool true]) rfl ⟨rfl, trivial⟩ ?_
      exact fun w' hb hs => ⟨_, _, ⟨rfl, rfl⟩, rfl, hb, hs.sel [] _ (by decide) rfl⟩

/- laws.markInt64S -/
def sh21_1 (q0 : List Int) : (Int × Int × List Int) → Option ((Int × Int × List Int) ⊕ (Int × List Int))
  | (x2, x3, x4) => bif decide (x3 < ((q0.length : Nat) : Int)) then (Option.bind (getI x4 x3) fun x6 => some (.inl (w64 (x2 + 1), w64 (x3 + 1), x4.set (x3).toNat x2))) else (some (.inr (x2, x4)))
def sh21 (q0 : List Int) (q1 : Int) : Option (Int × List Int) := Option.bind (iter (sh21_1 q0) (q1, 0, q0)) fun b1 => (some (b1.1, b1.2))
def T21 (a_ : Option Addr) (n_ c_ : Nat) (r : Int × List Int) (v : Value) (e' : Own) (rs : List Own) : Prop := r.2.length = n_ ∧ e' = rowT 2 eI64 a_ n_ c_ r.2 ∧ v = rets [.int .i64 r.1] ∧ rs = []
set_option maxRecDepth 100000 in
theorem c21 {w : World} {q0 : List Int} {a_0 : Option Addr} {n_0 c_0 : Nat} {M : List Nat} (g_0 : Sep w.heap.size M w [rowT 2 eI64 a_0 n_0 c_0 q0]) (l_0 : q0.length = n_0) {q1 : Int} {r : Int × List Int} (hres : sh21 q0 q1 = some r) : Calls Go.Proofs.Try.prog 21 [.slice a_0 n_0 c_0, .int .i64 q1].toArray w (RetM w M (T21 a_0 n_0 c_0 r)) := by
  subst l_0
  unfold sh21 at hres
  refine calls_of (n := 19) (M := M) (es := [rowT 2 eI64 a_0 q0.length c_0 q0]) Go.Proofs.Try.func21 rfl rfl rfl g_0 ?_
  refine JX.seq ?_
  refine JX.region ?_
  refine JL.val (yl_assign rfl) rfl ?_
  refine JL.nil ?_
  refine JE.code ?_
  refine JX.seq ?_
  refine JX.seq ?_
  refine JX.region ?_
  refine JL.val (yl_assign rfl) rfl ?_
  refine JL.nil ?_
  refine JE.code ?_
  refine JX.block ?_
  obtain ⟨y1, hy1, hresO1⟩ := bind_some hres
  refine JX.loop (I := fun (s1 : Int × Int × List Int) aa ww => ∃ (l1 : s1.2.2.length = q0.length), St w M 19 [(0, .slice a_0 q0.length c_0), (1, .int .i64 s1.1), (5, .int .i64 s1.2.1)] [rowT 2 eI64 a_0 q0.length c_0 s1.2.2] aa ww) (sh21_1 q0) hy1 (fun a w h => ⟨rfl, h.weak ⟨rfl, rfl, rfl, trivial⟩ [0] (by decide) rfl⟩) ?_
  rintro ⟨x2, x3, x4⟩ o1 hres hox1 aa ww ⟨l5, hS⟩
  refine (?_ : JX Go.Proofs.Try.prog w M 19 _ _ [(0, .slice a_0 q0.length c_0), (1, .int .i64 x2), (5, .int .i64 x3)] [rowT 2 eI64 a_0 q0.length c_0 x4] _) aa ww hS
  clear hS
  simp only [sh21_1] at hres
  refine JX.seq ?_
  refine JX.seq ?_
  refine JX.region ?_
  refine JL.val (yl_move rfl) rfl ?_
  refine JL.val (yl_move rfl) rfl ?_
  refine JL.val (yl_len_slice Go.Proofs.Try.underlying22 rfl) rfl ?_
  refine JL.val (yl_lss rfl rfl) rfl ?_
  refine JL.nil ?_
  refine JE.weak (env' := [(0, .slice a_0 q0.length c_0), (1, .int .i64 x2), (5, .int .i64 x3), (9, .bool (decide (x3 < ((q0.length : Nat) : Int))))]) (es' := [rowT 2 eI64 a_0 q0.length c_0 x4]) [0] ?_ ⟨rfl, rfl, rfl, rfl, trivial⟩ (by decide) rfl
  refine JE.code ?_
  rcases cond_some hres with ⟨hb, hres⟩ | ⟨hb, hres⟩
  · refine JX.condT rfl hb ?_
    refine JX.skip ?_
    refine JE.code ?_
    refine JX.seq ?_
    refine JX.block ?_
    refine JX.seq ?_
    refine JX.region ?_
    refine JL.val (yl_move rfl) rfl ?_
    refine JL.val (yl_move rfl) rfl ?_
    refine JL.val (yl_move rfl) rfl ?_
    obtain ⟨x6, hx6, hres⟩ := bind_some hres
    refine JL.val (yl_idxT Go.Proofs.Try.underlying22 i2 i2s rfl rfl hx6 l5 (fun w hC => rd_row hC 0 rfl)) rfl ?_
    refine JL.eff (ef_storeT (ix := 0) (u := x2) i2 i2s rfl rfl rfl hx6 rfl) rfl ?_
    rintro _ _ rfl
    refine JL.nil ?_
    refine JE.weak (env' := [(0, .slice a_0 q0.length c_0), (1, .int .i64 x2), (5, .int .i64 x3)]) (es' := [rowT 2 eI64 a_0 q0.length c_0 (x4.set (x3).toNat x2)]) [0] ?_ ⟨rfl, rfl, rfl, trivial⟩ (by decide) rfl
    refine JE.code ?_
    refine JX.region ?_
    refine JL.val (yl_move rfl) rfl ?_
    refine JL.val (yl_add rfl rfl) rfl ?_
    refine JL.val (yl_assign rfl) rfl ?_
    refine JL.nil ?_
    refine JE.code ?_
    refine JX.region ?_
    refine JL.val (yl_move rfl) rfl ?_
    refine JL.val (yl_add rfl rfl) rfl ?_
    refine JL.val (yl_assign rfl) rfl ?_
    refine JL.nil ?_
    refine JE.cont hres ?_
    exact fun a w h => ⟨(List.length_set.trans l5), h.weak ⟨rfl, rfl, rfl, trivial⟩ [0] (by decide) rfl⟩
  · refine JX.condF rfl hb ?_
    refine JX.exit ?_
    refine JE.qb rfl ?_
    obtain ⟨b1, hb1⟩ : ∃ b : Int × List Int, b = (x2, x4) := ⟨_, rfl⟩
    have hy1 : b1 = y1 := by rw [hb1]; exact hox1 _ (Option.some.inj hres).symm
    have hres := hresO1
    rw [← hy1] at hres
    have l7 : b1.2.length = q0.length := by subst hb1; exact l5
    refine JE.weak (env' := [(1, .int .i64 b1.1)]) (es' := [rowT 2 eI64 a_0 q0.length c_0 b1.2]) [0] ?_ ⟨(by subst hb1; rfl), trivial⟩ (by decide) (by subst hb1; rfl)
    refine JE.code ?_
    refine JX.seq ?_
    refine JX.region ?_
    refine JL.val (yl_move rfl) rfl ?_
    refine JL.val (yl_assign rfl) rfl ?_
    refine JL.nil ?_
    refine JE.code ?_
    refine JX.ret ?_
    obtain rfl := Option.some.inj hres
    refine JE.ret (rs := [.tmp 4]) (vs := [.int .i64 b1.1]) rfl ⟨rfl, trivial⟩ ?_
    exact fun w' hb hs => ⟨_, _, _, ⟨l7, rfl, rfl, rfl⟩, rfl, hb, hs.sel [0] _ (by decide) rfl⟩

/- laws.heldInt64S -/
def sh22_1 (q0 : List Int) : (Int × Int) → Option ((Int × Int) ⊕ (Int ⊕ Int))
  | (x1, x2) => bif decide (x2 < (q0.length : Int)) then (Option.bind (getI q0 x2) fun x3 => bif x3 != x1 then (some (.inr (.inr (-1)))) else (some (.inl (w64 (x1 + 1), w64 (x2 + 1))))) else (some (.inr (.inl x1)))
def sh22 (q0 : List Int) (q1 : Int) : Option (Int) := Option.bind (iter (sh22_1 q0) (q1, 0)) fun y1 => elimS y1 (fun r => some r) fun b1 => (some b1)
def T22 (r : Int) (v : Value) (rs : List Own) : Prop := v = rets [.int .i64 r] ∧ rs = []
set_option maxRecDepth 100000 in
theorem c22 {w : World} {q0 : List Int} {a_0 : Option Addr} {n_0 c_0 : Nat} (g_0 : Rd w a_0 (eI64.fl q0)) (l_0 : q0.length = n_0) (k_0 : n_0 ≤ c_0) {q1 : Int} {r : Int} (hres : sh22 q0 q1 = some r) : Calls Go.Proofs.Try.prog 22 [.slice a_0 n_0 c_0, .int .i64 q1].toArray w (Ret w (T22 r)) := by
  subst l_0
  unfold sh22 at hres
  refine calls_of (n := 21) (M := []) (es := []) Go.Proofs.Try.func22 rfl rfl rfl (Sep.nil _ _ _) ?_
  refine JX.seq ?_
  refine JX.region ?_
  refine JL.val (yl_assign rfl) rfl ?_
  refine JL.nil ?_
  refine JE.code ?_
  refine JX.seq ?_
  refine JX.seq ?_
  refine JX.region ?_
  refine JL.val (yl_assign rfl) rfl ?_
  refine JL.nil ?_
  refine JE.code ?_
  refine JX.block ?_
  obtain ⟨y1, hy1, hresO1⟩ := bind_some hres
  refine JX.loop (I := fun (s1 : Int × Int) aa ww => St w [] 21 [(0, .slice a_0 q0.length c_0), (1, .int .i64 s1.1), (5, .int .i64 s1.2)] [] aa ww) (sh22_1 q0) hy1 (fun a w h => h.weak ⟨rfl, rfl, rfl, trivial⟩ [] (by decide) rfl) ?_
  rintro ⟨x1, x2⟩ o1 hres hox1 aa ww hS
  refine (?_ : JX Go.Proofs.Try.prog w [] 21 _ _ [(0, .slice a_0 q0.length c_0), (1, .int .i64 x1), (5, .int .i64 x2)] [] _) aa ww hS
  clear hS
  simp only [sh22_1] at hres
  refine JX.seq ?_
  refine JX.seq ?_
  refine JX.region ?_
  refine JL.val (yl_move rfl) rfl ?_
  refine JL.val (yl_move rfl) rfl ?_
  refine JL.val (yl_len_slice Go.Proofs.Try.underlying22 rfl) rfl ?_
  refine JL.val (yl_lss rfl rfl) rfl ?_
  refine JL.nil ?_
  refine JE.weak (env' := [(0, .slice a_0 q0.length c_0), (1, .int .i64 x1), (5, .int .i64 x2), (9, .bool (decide (x2 < (q0.length : Int))))]) (es' := []) [] ?_ ⟨rfl, rfl, rfl, rfl, trivial⟩ (by decide) rfl
  refine JE.code ?_
  rcases cond_some hres with ⟨hb, hres⟩ | ⟨hb, hres⟩
  · refine JX.condT rfl hb ?_
    refine JX.skip ?_
    refine JE.code ?_
    refine JX.seq ?_
    refine JX.block ?_
    refine JX.seq ?_
    refine JX.seq ?_
    refine JX.region ?_
    refine JL.val (yl_move rfl) rfl ?_
    refine JL.val (yl_move rfl) rfl ?_
    obtain ⟨x3, hx3, hres⟩ := bind_some hres
    refine JL.val (yl_idxT Go.Proofs.Try.underlying22 i2 i2s rfl rfl hx3 rfl (fun w hC => rd_arg g_0 hC)) rfl ?_
    refine JL.val (yl_loadT0 Go.Proofs.Try.underlying2 rfl rfl hx3 (fun w hC => rd_arg g_0 hC) rfl) rfl ?_
    refine JL.val (yl_move rfl) rfl ?_
    refine JL.val (yl_neq rfl rfl) rfl ?_
    refine JL.nil ?_
    refine JE.weak (env' := [(0, .slice a_0 q0.length c_0), (1, .int .i64 x1), (5, .int .i64 x2), (17, .bool (x3 != x1))]) (es' := []) [] ?_ ⟨rfl, rfl, rfl, rfl, trivial⟩ (by decide) rfl
    refine JE.code ?_
    rcases cond_some hres with ⟨hb, hres⟩ | ⟨hb, hres⟩
    · refine JX.condT rfl hb ?_
      refine JX.seq ?_
      refine JX.region ?_
      refine JL.val (yl_assign rfl) rfl ?_
      refine JL.nil ?_
      refine JE.code ?_
      refine JX.ret ?_
      refine JE.qbr ?_
      refine JE.qbr ?_
      have hres := elimS_inr hresO1 (hox1 _ (Option.some.inj hres).symm)
      obtain rfl := Option.some.inj hres
      refine JE.ret (rs := [.tmp 4]) (vs := [.int .i64 (-1)]) rfl ⟨rfl, trivial⟩ ?_
      exact fun w' hb hs => ⟨_, _, ⟨rfl, rfl⟩, rfl, hb, hs.sel [] _ (by decide) rfl⟩
    · refine JX.condF rfl hb ?_
      refine JX.skip ?_
      refine JE.code ?_
      refine JX.region ?_
      refine JL.val (yl_move rfl) rfl ?_
      refine JL.val (yl_add rfl rfl) rfl ?_
      refine JL.val (yl_assign rfl) rfl ?_
      refine JL.nil ?_
      refine JE.code ?_
      refine JX.region ?_
      refine JL.val (yl_move rfl) rfl ?_
      refine JL.val (yl_add rfl rfl) rfl ?_
      refine JL.val (yl_assign rfl) rfl ?_
      refine JL.nil ?_
      refine JE.cont hres ?_
      exact fun a w h => h.weak ⟨rfl, rfl, rfl, trivial⟩ [] (by decide) rfl
  · refine JX.condF rfl hb ?_
    refine JX.exit ?_
    refine JE.qb rfl ?_
    obtain ⟨b1, hb1⟩ : ∃ b : Int, b = x1 := ⟨_, rfl⟩
    have hy1 : Sum.inl b1 = y1 := by rw [hb1]; exact hox1 _ (Option.some.inj hres).symm
    have hres := elimS_inl hresO1 hy1
    refine JE.weak (env' := [(1, .int .i64 b1)]) (es' := []) [] ?_ ⟨(by subst hb1; rfl), trivial⟩ (by decide) (by subst hb1; rfl)
    refine JE.code ?_
    refine JX.seq ?_
    refine JX.region ?_
    refine JL.val (yl_move rfl) rfl ?_
    refine JL.val (yl_assign rfl) rfl ?_
    refine JL.nil ?_
    refine JE.code ?_
    refine JX.ret ?_
    obtain rfl := Option.some.inj hres
    refine JE.ret (rs := [.tmp 4]) (vs := [.int .i64 b1]) rfl ⟨rfl, trivial⟩ ?_
    exact fun w' hb hs => ⟨_, _, ⟨rfl, rfl⟩, rfl, hb, hs.sel [] _ (by decide) rfl⟩

/- spec.l00In -/
def sh52 (q0 : Int) (q1 : Int) (q2 : Int) : Option (Bool) := some ((decide (q1 ≤ q0)) && (decide (q0 ≤ q2)))
def T52 (r : Bool) (v : Value) (rs : List Own) : Prop := v = rets [.bool r] ∧ rs = []
set_option maxRecDepth 100000 in
theorem c52 {w : World} {q0 : Int} {q1 : Int} {q2 : Int} {r : Bool} (hres : sh52 q0 q1 q2 = some r) : Calls Go.Proofs.Try.prog 52 [.int .i64 q0, .int .i64 q1, .int .i64 q2].toArray w (Ret w (T52 r)) := by
  unfold sh52 at hres
  refine calls_of (n := 15) (M := []) (es := []) Go.Proofs.Try.func52 rfl rfl rfl (Sep.nil _ _ _) ?_
  refine JX.seq ?_
  refine JX.region ?_
  refine JL.val (yl_assign rfl) rfl ?_
  refine JL.nil ?_
  refine JE.code ?_
  refine JX.seq ?_
  refine JX.region ?_
  refine JL.val (yl_move rfl) rfl ?_
  refine JL.val (yl_move rfl) rfl ?_
  refine JL.val (yl_geq rfl rfl) rfl ?_
  refine JL.val (yl_move rfl) rfl ?_
  refine JL.cut (K := fun J => J [(14, .bool ((decide (q1 ≤ q0)) && (decide (q0 ≤ q2))))] []) 4 ?_ ?_
  · refine JL.val (yl_assign rfl) rfl ?_
    refine JL.nil ?_
    refine JE.weak (env' := [(6, .bool ((decide (q1 ≤ q0)) && (decide (q0 ≤ q2))))]) (es' := []) [] ?_ ⟨rfl, trivial⟩ (by decide) rfl
    refine JE.code ?_
    refine JX.ret ?_
    obtain rfl := Option.some.inj hres
    refine JE.ret (rs := [.tmp 6]) (vs := [.bool ((decide (q1 ≤ q0)) && (decide (q0 ≤ q2)))]) rfl ⟨rfl, trivial⟩ ?_
    exact fun w' hb hs => ⟨_, _, ⟨rfl, rfl⟩, rfl, hb, hs.sel [] _ (by decide) rfl⟩
  · intro K
    rcases Bool.eq_false_or_eq_true (decide (q1 ≤ q0)) with hb | hb
    · refine JL.set (d := 10) (v := .bool true) (congrArg (fun b => some (Value.bool b)) hb) ?_
      refine JL.gval rfl rfl (yl_move rfl) rfl ?_
      refine JL.gval rfl rfl (yl_move rfl) rfl ?_
      refine JL.gval rfl rfl (yl_leq rfl rfl) rfl ?_
      refine JL.val (yl_pick_true rfl rfl) rfl ?_
      exact JL.weak [] K ⟨(by rw [hb]; rfl), trivial⟩ (by decide) rfl
    · refine JL.set (d := 10) (v := .bool false) (congrArg (fun b => some (Value.bool b)) hb) ?_
      refine JL.gskip rfl rfl rfl rfl ?_
      refine JL.gskip rfl rfl rfl rfl ?_
      refine JL.gskip rfl rfl rfl rfl ?_
      refine JL.val (yl_pick_false rfl rfl) rfl ?_
      exact JL.weak [] K ⟨(by rw [hb]; rfl), trivial⟩ (by decide) rfl

/- spec.l23Ok -/
def sh50_1 (q0 : Int) (q1 : List Int) : Int → Option (Int ⊕ (Unit ⊕ Bool))
  | x2 => bif decide (x2 < (q1.length : Int)) then (Option.bind (getI q1 x2) fun x3 => Option.bind (bif x3 == 0 then (some true) else (Option.bind (getI q1 x2) fun x5 => Option.bind (sh52 x5 (w64 (1 - q0)) (w64 (q0 - 1))) fun x6 => some !x6)) fun c4 => (bif c4 then (some (.inr (.inr false))) else (some (.inl (w64 (x2 + 1)))))) else (some (.inr (.inl ())))
def sh50 (q0 : Int) (q1 : List Int) : Option (Bool) := Option.bind (sh52 q0 2 12) fun x1 => bif !x1 || (decide (200 < (q1.length : Int))) then (some false) else (Option.bind (iter (sh50_1 q0 q1) 0) fun y1 => elimS y1 (fun r => some r) fun b1 => (some true))
def T50 (r : Bool) (v : Value) (rs : List Own) : Prop := v = rets [.bool r] ∧ rs = []
set_option maxRecDepth 100000 in
theorem c50 {w : World} {q0 : Int} {q1 : List Int} {a_1 : Option Addr} {n_1 c_1 : Nat} (g_1 : Rd w a_1 (eI64.fl q1)) (l_1 : q1.length = n_1) (k_1 : n_1 ≤ c_1) {r : Bool} (hres : sh50 q0 q1 = some r) : Calls Go.Proofs.Try.prog 50 [.int .i64 q0, .slice a_1 n_1 c_1].toArray w (Ret w (T50 r)) := by
  subst l_1
  unfold sh50 at hres
  refine calls_of (n := 37) (M := []) (es := []) Go.Proofs.Try.func50 rfl rfl rfl (Sep.nil _ _ _) ?_
  refine JX.seq ?_
  refine JX.region ?_
  refine JL.val (yl_assign rfl) rfl ?_
  refine JL.nil ?_
  refine JE.code ?_
  refine JX.seq ?_
  refine JX.seq ?_
  refine JX.region ?_
  refine JL.val (yl_move rfl) rfl ?_
  obtain ⟨x1, hx1, hres⟩ := bind_some hres
  refine JL.eff (ef_call (T := T52 x1) Go.Proofs.Try.func52 rfl (by kernel_rfl) rfl (fun w hC => c52  hx1)) rfl ?_
  rintro _ _ ⟨_, ⟨rfl, rfl⟩, rfl⟩
  refine JL.val (yl_not rfl) rfl ?_
  refine JL.val (yl_move rfl) rfl ?_
  refine JL.cut (K := fun J => J [(0, .int .i64 q0), (1, .slice a_1 q1.length c_1), (13, .bool (!x1 || (decide (200 < (q1.length : Int)))))] []) 4 ?_ ?_
  · refine JL.nil ?_
    refine JE.weak (env' := [(0, .int .i64 q0), (1, .slice a_1 q1.length c_1), (13, .bool (!x1 || (decide (200 < (q1.length : Int)))))]) (es' := []) [] ?_ ⟨rfl, rfl, rfl, trivial⟩ (by decide) rfl
    refine JE.code ?_
    rcases cond_some hres with ⟨hb, hres⟩ | ⟨hb, hres⟩
    · refine JX.condT rfl hb ?_
      refine JX.seq ?_
      refine JX.region ?_
      refine JL.val (yl_assign rfl) rfl ?_
      refine JL.nil ?_
      refine JE.code ?_
      refine JX.ret ?_
      obtain rfl := Option.some.inj hres
      refine JE.ret (rs := [.tmp 4]) (vs := [.bool false]) rfl ⟨rfl, trivial⟩ ?_
      exact fun w' hb hs => ⟨_, _, ⟨rfl, rfl⟩, rfl, hb, hs.sel [] _ (by decide) rfl⟩
    · refine JX.condF rfl hb ?_
      refine JX.skip ?_
      refine JE.code ?_
      refine JX.seq ?_
      refine JX.seq ?_
      refine JX.region ?_
      refine JL.val (yl_assign rfl) rfl ?_
      refine JL.nil ?_
      refine JE.code ?_
      refine JX.block ?_
      obtain ⟨y1, hy1, hresO1⟩ := bind_some hres
      refine JX.loop (I := fun (s1 : Int) aa ww => St w [] 37 [(0, .int .i64 q0), (1, .slice a_1 q1.length c_1), (5, .int .i64 s1)] [] aa ww) (sh50_1 q0 q1) hy1 (fun a w h => h.weak ⟨rfl, rfl, rfl, trivial⟩ [] (by decide) rfl) ?_
      rintro x2 o1 hres hox1 aa ww hS
      refine (?_ : JX Go.Proofs.Try.prog w [] 37 _ _ [(0, .int .i64 q0), (1, .slice a_1 q1.length c_1), (5, .int .i64 x2)] [] _) aa ww hS
      clear hS
      unfold sh50_1 at hres
      refine JX.seq ?_
      refine JX.seq ?_
      refine JX.region ?_
      refine JL.val (yl_move rfl) rfl ?_
      refine JL.val (yl_move rfl) rfl ?_
      refine JL.val (yl_len_slice Go.Proofs.Try.underlying22 rfl) rfl ?_
      refine JL.val (yl_lss rfl rfl) rfl ?_
      refine JL.nil ?_
      refine JE.weak (env' := [(0, .int .i64 q0), (1, .slice a_1 q1.length c_1), (5, .int .i64 x2), (17, .bool (decide (x2 < (q1.length : Int))))]) (es' := []) [] ?_ ⟨rfl, rfl, rfl, rfl, trivial⟩ (by decide) rfl
      refine JE.code ?_
      rcases cond_some hres with ⟨hb, hres⟩ | ⟨hb, hres⟩
      · refine JX.condT rfl hb ?_
        refine JX.skip ?_
        refine JE.code ?_
        refine JX.seq ?_
        refine JX.block ?_
        refine JX.seq ?_
        refine JX.region ?_
        refine JL.val (yl_move rfl) rfl ?_
        refine JL.val (yl_move rfl) rfl ?_
        obtain ⟨x3, hx3, hres⟩ := bind_some hres
        refine JL.val (yl_idxT Go.Proofs.Try.underlying22 i2 i2s rfl rfl hx3 rfl (fun w hC => rd_arg g_1 hC)) rfl ?_
        refine JL.val (yl_loadT0 Go.Proofs.Try.underlying2 rfl rfl hx3 (fun w hC => rd_arg g_1 hC) rfl) rfl ?_
        refine JL.val (yl_eql rfl rfl) rfl ?_
        refine JL.val (yl_move rfl) rfl ?_
        obtain ⟨c4, hc4, hres⟩ := bind_some hres
        refine JL.cut (K := fun J => J [(0, .int .i64 q0), (1, .slice a_1 q1.length c_1), (5, .int .i64 x2), (36, .bool c4)] []) 11 ?_ ?_
        · refine JL.nil ?_
          refine JE.weak (env' := [(0, .int .i64 q0), (1, .slice a_1 q1.length c_1), (5, .int .i64 x2), (36, .bool c4)]) (es' := []) [] ?_ ⟨rfl, rfl, rfl, rfl, trivial⟩ (by decide) rfl
          refine JE.code ?_
          rcases cond_some hres with ⟨hb, hres⟩ | ⟨hb, hres⟩
          · refine JX.condT rfl hb ?_
            refine JX.seq ?_
            refine JX.region ?_
            refine JL.val (yl_assign rfl) rfl ?_
            refine JL.nil ?_
            refine JE.code ?_
            refine JX.ret ?_
            refine JE.qbr ?_
            refine JE.qbr ?_
            have hres := elimS_inr hresO1 (hox1 _ (Option.some.inj hres).symm)
            obtain rfl := Option.some.inj hres
            refine JE.ret (rs := [.tmp 4]) (vs := [.bool false]) rfl ⟨rfl, trivial⟩ ?_
            exact fun w' hb hs => ⟨_, _, ⟨rfl, rfl⟩, rfl, hb, hs.sel [] _ (by decide) rfl⟩
          · refine JX.condF rfl hb ?_
            refine JX.skip ?_
            refine JE.code ?_
            refine JX.region ?_
            refine JL.val (yl_move rfl) rfl ?_
            refine JL.val (yl_add rfl rfl) rfl ?_
            refine JL.val (yl_assign rfl) rfl ?_
            refine JL.nil ?_
            refine JE.cont hres ?_
            exact fun a w h => h.weak ⟨rfl, rfl, rfl, trivial⟩ [] (by decide) rfl
        · intro K
          rcases cond_some hc4 with ⟨hb, hres⟩ | ⟨hb, hres⟩
          · refine JL.set (d := 25) (v := .bool true) (congrArg (fun b => some (Value.bool b)) hb) ?_
            refine JL.gskip rfl rfl rfl rfl ?_
            refine JL.gskip rfl rfl rfl rfl ?_
            refine JL.gskip rfl rfl rfl rfl ?_
            refine JL.gskip rfl rfl rfl rfl ?_
            refine JL.gskip rfl rfl rfl rfl ?_
            refine JL.gskip rfl rfl rfl rfl ?_
            refine JL.gskip rfl rfl rfl rfl ?_
            refine JL.gskip rfl rfl rfl rfl ?_
            refine JL.gskip rfl rfl rfl rfl ?_
            refine JL.gskip rfl rfl rfl rfl ?_
            refine JL.val (yl_pick_true rfl rfl) rfl ?_
            have he := Option.some.inj hres
            exact JL.weak [] K ⟨rfl, rfl, rfl, (by rw [← he]; rfl), trivial⟩ (by decide) rfl
          · refine JL.set (d := 25) (v := .bool false) (congrArg (fun b => some (Value.bool b)) hb) ?_
            refine JL.gval rfl rfl (yl_move rfl) rfl ?_
            refine JL.gval rfl rfl (yl_move rfl) rfl ?_
            obtain ⟨x5, hx5, hres⟩ := bind_some hres
            refine JL.gval rfl rfl (yl_idxT Go.Proofs.Try.underlying22 i2 i2s rfl rfl hx5 rfl (fun w hC => rd_arg g_1 hC)) rfl ?_
            refine JL.gval rfl rfl (yl_loadT0 Go.Proofs.Try.underlying2 rfl rfl hx5 (fun w hC => rd_arg g_1 hC) rfl) rfl ?_
            refine JL.gval rfl rfl (yl_move rfl) rfl ?_
            refine JL.gval rfl rfl (yl_sub rfl rfl) rfl ?_
            refine JL.gval rfl rfl (yl_move rfl) rfl ?_
            refine JL.gval rfl rfl (yl_sub rfl rfl) rfl ?_
            obtain ⟨x6, hx6, hres⟩ := bind_some hres
            refine JL.geff rfl rfl (ef_call (T := T52 x6) Go.Proofs.Try.func52 rfl (by kernel_rfl) rfl (fun w hC => c52  hx6)) rfl ?_
            rintro _ _ ⟨_, ⟨rfl, rfl⟩, rfl⟩
            refine JL.gval rfl rfl (yl_not rfl) rfl ?_
            refine JL.val (yl_pick_false rfl rfl) rfl ?_
            have he := Option.some.inj hres
            exact JL.weak [] K ⟨rfl, rfl, rfl, (by rw [← he]; rfl), trivial⟩ (by decide) rfl
      · refine JX.condF rfl hb ?_
        refine JX.exit ?_
        refine JE.qb rfl ?_
        obtain ⟨b1, hb1⟩ : ∃ b : Unit, b = () := ⟨_, rfl⟩
        have hy1 : Sum.inl b1 = y1 := by rw [hb1]; exact hox1 _ (Option.some.inj hres).symm
        have hres := elimS_inl hresO1 hy1
        refine JE.weak (env' := []) (es' := []) [] ?_ trivial (by decide) (by subst hb1; rfl)
        refine JE.code ?_
        refine JX.seq ?_
        refine JX.region ?_
        refine JL.val (yl_assign rfl) rfl ?_
        refine JL.nil ?_
        refine JE.code ?_
        refine JX.ret ?_
        obtain rfl := Option.some.inj hres
        refine JE.ret (rs := [.tmp 4]) (vs := [.bool true]) rfl ⟨rfl, trivial⟩ ?_
        exact fun w' hb hs => ⟨_, _, ⟨rfl, rfl⟩, rfl, hb, hs.sel [] _ (by decide) rfl⟩
  · intro K
    rcases Bool.eq_false_or_eq_true (!x1) with hb | hb
    · refine JL.set (d := 9) (v := .bool true) (congrArg (fun b => some (Value.bool b)) hb) ?_
      refine JL.gskip rfl rfl rfl rfl ?_
      refine JL.gskip rfl rfl rfl rfl ?_
      refine JL.gskip rfl rfl rfl rfl ?_
      refine JL.val (yl_pick_true rfl rfl) rfl ?_
      exact JL.weak [] K ⟨rfl, rfl, (by rw [hb]; rfl), trivial⟩ (by decide) rfl
    · refine JL.set (d := 9) (v := .bool false) (congrArg (fun b => some (Value.bool b)) hb) ?_
      refine JL.gval rfl rfl (yl_move rfl) rfl ?_
      refine JL.gval rfl rfl (yl_len_slice Go.Proofs.Try.underlying22 rfl) rfl ?_
      refine JL.gval rfl rfl (yl_gtr rfl rfl) rfl ?_
      refine JL.val (yl_pick_false rfl rfl) rfl ?_
      exact JL.weak [] K ⟨rfl, rfl, (by rw [hb]; rfl), trivial⟩ (by decide) rfl

/- spec.l23First -/
def sh73_1 (q0 : Int) : (Int × List Int) → Option ((Int × List Int) ⊕ (List Int))
  | (x5, x6) => bif decide (x5 < q0) then (Option.bind (appL x6 [x5]) fun x11 => some (.inl (w64 (x5 + 1), x11))) else (some (.inr x6))
def sh73 (q0 : Int) : Option (List Int) := Option.bind (iter (sh73_1 q0) (0, ([] : List Int))) fun b1 => (some b1)
def T73 (r : List Int) (v : Value) (rs : List Own) : Prop := ∃ (a0 : Option Addr) (n0 c0 : Nat), r.length = n0 ∧ v = rets [.slice a0 n0 c0] ∧ rs = [rowT 2 eI64 a0 n0 c0 r]
set_option maxRecDepth 100000 in
theorem c73 {w : World} {q0 : Int} {r : List Int} (hres : sh73 q0 = some r) : Calls Go.Proofs.Try.prog 73 [.int .i64 q0].toArray w (Ret w (T73 r)) := by
  unfold sh73 at hres
  refine calls_of (n := 16) (M := []) (es := []) Go.Proofs.Try.func73 rfl rfl rfl (Sep.nil _ _ _) ?_
  refine JX.seq ?_
  refine JX.region ?_
  refine JL.val (yl_assign rfl) rfl ?_
  refine JL.nil ?_
  refine JE.code ?_
  refine JX.seq ?_
  refine JX.region ?_
  refine JL.eff (ef_buildSlice (E := 2) (k := eI64.k) (us := eI64.fl ([] : List Int)) rfl (fun w => bsl22_0  w) rfl (by decide)) rfl ?_
  rintro _ _ ⟨a1, rfl, rfl⟩
  refine JL.val (yl_assign rfl) rfl ?_
  refine JL.nil ?_
  refine JE.code ?_
  refine JX.seq ?_
  refine JX.seq ?_
  refine JX.region ?_
  refine JL.val (yl_assign rfl) rfl ?_
  refine JL.nil ?_
  refine JE.code ?_
  refine JX.block ?_
  obtain ⟨y1, hy1, hresO1⟩ := bind_some hres
  refine JX.loop (I := fun (s1 : Int × List Int) aa ww => ∃ (a3 : Option Addr) (c4 : Nat), St w [] 16 [(0, .int .i64 q0), (3, .slice a3 s1.2.length c4), (4, .int .i64 s1.1)] [rowT 2 eI64 a3 s1.2.length c4 s1.2] aa ww) (sh73_1 q0) hy1 (fun a w h => ⟨a1, 0, h.weak ⟨rfl, rfl, rfl, trivial⟩ [0] (by decide) rfl⟩) ?_
  rintro ⟨x5, x6⟩ o1 hres hox1 aa ww ⟨a7, c8, hS⟩
  refine (?_ : JX Go.Proofs.Try.prog w [] 16 _ _ [(0, .int .i64 q0), (3, .slice a7 x6.length c8), (4, .int .i64 x5)] [rowT 2 eI64 a7 x6.length c8 x6] _) aa ww hS
  clear hS
  simp only [sh73_1] at hres
  refine JX.seq ?_
  refine JX.seq ?_
  refine JX.region ?_
  refine JL.val (yl_move rfl) rfl ?_
  refine JL.val (yl_move rfl) rfl ?_
  refine JL.val (yl_lss rfl rfl) rfl ?_
  refine JL.nil ?_
  refine JE.code ?_
  rcases cond_some hres with ⟨hb, hres⟩ | ⟨hb, hres⟩
  · refine JX.condT rfl hb ?_
    refine JX.skip ?_
    refine JE.code ?_
    refine JX.seq ?_
    refine JX.block ?_
    refine JX.region ?_
    refine JL.val (yl_move rfl) rfl ?_
    refine JL.val (yl_move rfl) rfl ?_
    refine JL.eff (ef_buildSlice (E := 2) (k := eI64.k) (us := eI64.fl [x5]) rfl (fun w => bsl22_1 x5 w) rfl (by decide)) rfl ?_
    rintro _ _ ⟨a9, rfl, rfl⟩
    obtain ⟨x11, hx11, hres⟩ := bind_some hres
    refine JL.eff (ef_appendT (ix := 0) Go.Proofs.Try.underlying22 i2 i2z i2s rfl i2b0 i2b1 rfl rfl rfl rfl rfl (fun w hC => rd_row hC 1 rfl) hx11) rfl ?_
    rintro _ _ ⟨a12, c13, rfl, rfl⟩
    refine JL.val (yl_assign rfl) rfl ?_
    refine JL.nil ?_
    refine JE.weak (env' := [(0, .int .i64 q0), (3, .slice a12 x11.length c13), (4, .int .i64 x5)]) (es' := [rowT 2 eI64 a12 x11.length c13 x11]) [0] ?_ ⟨rfl, rfl, rfl, trivial⟩ (by decide) rfl
    refine JE.code ?_
    refine JX.region ?_
    refine JL.val (yl_move rfl) rfl ?_
    refine JL.val (yl_add rfl rfl) rfl ?_
    refine JL.val (yl_assign rfl) rfl ?_
    refine JL.nil ?_
    refine JE.cont hres ?_
    exact fun a w h => ⟨a12, c13, h.weak ⟨rfl, rfl, rfl, trivial⟩ [0] (by decide) rfl⟩
  · refine JX.condF rfl hb ?_
    refine JX.exit ?_
    refine JE.qb rfl ?_
    obtain ⟨b1, hb1⟩ : ∃ b : List Int, b = x6 := ⟨_, rfl⟩
    have hy1 : b1 = y1 := by rw [hb1]; exact hox1 _ (Option.some.inj hres).symm
    have hres := hresO1
    rw [← hy1] at hres
    refine JE.weak (env' := [(3, .slice a7 b1.length c8)]) (es' := [rowT 2 eI64 a7 b1.length c8 b1]) [0] ?_ ⟨(by subst hb1; rfl), trivial⟩ (by decide) (by subst hb1; rfl)
    refine JE.code ?_
    refine JX.seq ?_
    refine JX.region ?_
    refine JL.val (yl_move rfl) rfl ?_
    refine JL.val (yl_assign rfl) rfl ?_
    refine JL.nil ?_
    refine JE.code ?_
    refine JX.ret ?_
    obtain rfl := Option.some.inj hres
    refine JE.ret (rs := [.tmp 2]) (vs := [.slice a7 b1.length c8]) rfl ⟨rfl, trivial⟩ ?_
    exact fun w' hb hs => ⟨_, _, ⟨a7, b1.length, c8, rfl, rfl, rfl⟩, rfl, hb, hs.sel [0] _ (by decide) rfl⟩

/- spec.l00Max -/
def sh77 (q0 : Int) (q1 : Int) : Option (Int) := bif decide (q1 < q0) then (some q0) else (some q1)
def T77 (r : Int) (v : Value) (rs : List Own) : Prop := v = rets [.int .i64 r] ∧ rs = []
set_option maxRecDepth 100000 in
theorem c77 {w : World} {q0 : Int} {q1 : Int} {r : Int} (hres : sh77 q0 q1 = some r) : Calls Go.Proofs.Try.prog 77 [.int .i64 q0, .int .i64 q1].toArray w (Ret w (T77 r)) := by
  unfold sh77 at hres
  refine calls_of (n := 10) (M := []) (es := []) Go.Proofs.Try.func77 rfl rfl rfl (Sep.nil _ _ _) ?_
  refine JX.seq ?_
  refine JX.region ?_
  refine JL.val (yl_assign rfl) rfl ?_
  refine JL.nil ?_
  refine JE.code ?_
  refine JX.seq ?_
  refine JX.seq ?_
  refine JX.region ?_
  refine JL.val (yl_move rfl) rfl ?_
  refine JL.val (yl_move rfl) rfl ?_
  refine JL.val (yl_gtr rfl rfl) rfl ?_
  refine JL.nil ?_
  refine JE.code ?_
  rcases cond_some hres with ⟨hb, hres⟩ | ⟨hb, hres⟩
  · refine JX.condT rfl hb ?_
    refine JX.seq ?_
    refine JX.region ?_
    refine JL.val (yl_move rfl) rfl ?_
    refine JL.val (yl_assign rfl) rfl ?_
    refine JL.nil ?_
    refine JE.code ?_
    refine JX.ret ?_
    obtain rfl := Option.some.inj hres
    refine JE.ret (rs := [.tmp 4]) (vs := [.int .i64 q0]) rfl ⟨rfl, trivial⟩ ?_
    exact fun w' hb hs => ⟨_, _, ⟨rfl, rfl⟩, rfl, hb, hs.sel [] _ (by decide) rfl⟩
  · refine JX.condF rfl hb ?_
    refine JX.skip ?_
    refine JE.code ?_
    refine JX.seq ?_
    refine JX.region ?_
    refine JL.val (yl_move rfl) rfl ?_
    refine JL.val (yl_assign rfl) rfl ?_
    refine JL.nil ?_
    refine JE.code ?_
    refine JX.ret ?_
    obtain rfl := Option.some.inj hres
    refine JE.ret (rs := [.tmp 4]) (vs := [.int .i64 q1]) rfl ⟨rfl, trivial⟩ ?_
    exact fun w' hb hs => ⟨_, _, ⟨rfl, rfl⟩, rfl, hb, hs.sel [] _ (by decide) rfl⟩

/- spec.l15Size -/
def sh74 (q0 : Int) : Option (Int) := Option.bind (sh77 q0 (w64 (0 - q0))) fun x1 => some x1
def T74 (r : Int) (v : Value) (rs : List Own) : Prop := v = rets [.int .i64 r] ∧ rs = []
set_option maxRecDepth 100000 in
theorem c74 {w : World} {q0 : Int} {r : Int} (hres : sh74 q0 = some r) : Calls Go.Proofs.Try.prog 74 [.int .i64 q0].toArray w (Ret w (T74 r)) := by
  unfold sh74 at hres
  refine calls_of (n := 7) (M := []) (es := []) Go.Proofs.Try.func74 rfl rfl rfl (Sep.nil _ _ _) ?_
  refine JX.seq ?_
  refine JX.region ?_
  refine JL.val (yl_assign rfl) rfl ?_
  refine JL.nil ?_
  refine JE.code ?_
  refine JX.seq ?_
  refine JX.region ?_
  refine JL.val (yl_move rfl) rfl ?_
  refine JL.val (yl_move rfl) rfl ?_
  refine JL.val (yl_neg rfl) rfl ?_
  obtain ⟨x1, hx1, hres⟩ := bind_some hres
  refine JL.eff (ef_call (T := T77 x1) Go.Proofs.Try.func77 rfl (by kernel_rfl) rfl (fun w hC => c77  hx1)) rfl ?_
  rintro _ _ ⟨_, ⟨rfl, rfl⟩, rfl⟩
  refine JL.val (yl_assign rfl) rfl ?_
  refine JL.nil ?_
  refine JE.weak (env' := [(2, .int .i64 x1)]) (es' := []) [] ?_ ⟨rfl, trivial⟩ (by decide) rfl
  refine JE.code ?_
  refine JX.ret ?_
  obtain rfl := Option.some.inj hres
  refine JE.ret (rs := [.tmp 2]) (vs := [.int .i64 x1]) rfl ⟨rfl, trivial⟩ ?_
  exact fun w' hb hs => ⟨_, _, ⟨rfl, rfl⟩, rfl, hb, hs.sel [] _ (by decide) rfl⟩

/- spec.l23Swap -/
def sh75 (q0 : List Int) (q1 : Int) : Option (List Int) := Option.bind (sh74 q1) fun x1 => Option.bind (getI q0 (w64 (x1 - 1))) fun x2 => Option.bind (getI q0 x1) fun x3 => Option.bind (getI q0 (w64 (x1 - 1))) fun x4 => Option.bind (getI (q0.set (w64 (x1 - 1)).toNat x3) x1) fun x5 => some ((q0.set (w64 (x1 - 1)).toNat x3).set (x1).toNat x2)
def T75 (a_ : Option Addr) (n_ c_ : Nat) (r : List Int) (v : Value) (e' : Own) (rs : List Own) : Prop := r.length = n_ ∧ e' = rowT 2 eI64 a_ n_ c_ r ∧ v = rets [] ∧ rs = []
set_option maxRecDepth 100000 in
theorem c75 {w : World} {q0 : List Int} {a_0 : Option Addr} {n_0 c_0 : Nat} {M : List Nat} (g_0 : Sep w.heap.size M w [rowT 2 eI64 a_0 n_0 c_0 q0]) (l_0 : q0.length = n_0) {q1 : Int} {r : List Int} (hres : sh75 q0 q1 = some r) : Calls Go.Proofs.Try.prog 75 [.slice a_0 n_0 c_0, .int .i64 q1].toArray w (RetM w M (T75 a_0 n_0 c_0 r)) := by
  subst l_0
  unfold sh75 at hres
  refine calls_of (n := 25) (M := M) (es := [rowT 2 eI64 a_0 q0.length c_0 q0]) Go.Proofs.Try.func75 rfl rfl rfl g_0 ?_
  refine JX.seq ?_
  refine JX.region ?_
  refine JL.val (yl_move rfl) rfl ?_
  obtain ⟨x1, hx1, hres⟩ := bind_some hres
  refine JL.eff (ef_call (T := T74 x1) Go.Proofs.Try.func74 rfl (by kernel_rfl) rfl (fun w hC => c74  hx1)) rfl ?_
  rintro _ _ ⟨_, ⟨rfl, rfl⟩, rfl⟩
  refine JL.val (yl_assign rfl) rfl ?_
  refine JL.nil ?_
  refine JE.code ?_
  refine JX.seq ?_
  refine JX.region ?_
  refine JL.val (yl_move rfl) rfl ?_
  refine JL.val (yl_move rfl) rfl ?_
  refine JL.val (yl_sub rfl rfl) rfl ?_
  obtain ⟨x2, hx2, hres⟩ := bind_some hres
  refine JL.val (yl_idxT Go.Proofs.Try.underlying22 i2 i2s rfl rfl hx2 rfl (fun w hC => rd_row hC 0 rfl)) rfl ?_
  refine JL.val (yl_loadT0 Go.Proofs.Try.underlying2 rfl rfl hx2 (fun w hC => rd_row hC 0 rfl) rfl) rfl ?_
  refine JL.val (yl_assign rfl) rfl ?_
  refine JL.nil ?_
  refine JE.weak (env' := [(0, .slice a_0 q0.length c_0), (4, .int .i64 x1), (5, .int .i64 x2)]) (es' := [rowT 2 eI64 a_0 q0.length c_0 q0]) [0] ?_ ⟨rfl, rfl, rfl, trivial⟩ (by decide) rfl
  refine JE.code ?_
  refine JX.seq ?_
  refine JX.region ?_
  refine JL.val (yl_move rfl) rfl ?_
  refine JL.val (yl_move rfl) rfl ?_
  refine JL.val (yl_sub rfl rfl) rfl ?_
  refine JL.val (yl_move rfl) rfl ?_
  refine JL.val (yl_move rfl) rfl ?_
  obtain ⟨x3, hx3, hres⟩ := bind_some hres
  refine JL.val (yl_idxT Go.Proofs.Try.underlying22 i2 i2s rfl rfl hx3 rfl (fun w hC => rd_row hC 0 rfl)) rfl ?_
  refine JL.val (yl_loadT0 Go.Proofs.Try.underlying2 rfl rfl hx3 (fun w hC => rd_row hC 0 rfl) rfl) rfl ?_
  obtain ⟨x4, hx4, hres⟩ := bind_some hres
  refine JL.val (yl_idxT Go.Proofs.Try.underlying22 i2 i2s rfl rfl hx4 rfl (fun w hC => rd_row hC 0 rfl)) rfl ?_
  refine JL.eff (ef_storeT (ix := 0) (u := x3) i2 i2s rfl rfl rfl hx4 rfl) rfl ?_
  rintro _ _ rfl
  refine JL.nil ?_
  refine JE.weak (env' := [(0, .slice a_0 q0.length c_0), (4, .int .i64 x1), (5, .int .i64 x2)]) (es' := [rowT 2 eI64 a_0 q0.length c_0 (q0.set (w64 (x1 - 1)).toNat x3)]) [0] ?_ ⟨rfl, rfl, rfl, trivial⟩ (by decide) rfl
  refine JE.code ?_
  refine JX.region ?_
  refine JL.val (yl_move rfl) rfl ?_
  refine JL.val (yl_move rfl) rfl ?_
  refine JL.val (yl_move rfl) rfl ?_
  obtain ⟨x5, hx5, hres⟩ := bind_some hres
  refine JL.val (yl_idxT Go.Proofs.Try.underlying22 i2 i2s rfl rfl hx5 List.length_set (fun w hC => rd_row hC 0 rfl)) rfl ?_
  refine JL.eff (ef_storeT (ix := 0) (u := x2) i2 i2s rfl rfl rfl hx5 rfl) rfl ?_
  rintro _ _ rfl
  refine JL.nil ?_
  refine JE.weak (env' := []) (es' := [rowT 2 eI64 a_0 q0.length c_0 ((q0.set (w64 (x1 - 1)).toNat x3).set (x1).toNat x2)]) [0] ?_ trivial (by decide) rfl
  show JE _ _ _ (bodyPost _ _ _ .ret) _ _
  obtain rfl := Option.some.inj hres
  refine JE.ret (rs := []) (vs := []) rfl trivial ?_
  exact fun w' hb hs => ⟨_, _, _, ⟨(List.length_set.trans List.length_set), rfl, rfl, rfl⟩, rfl, hb, hs.sel [0] _ (by decide) rfl⟩

/- spec.OversOf -/
def sh48_1 (q1 : List Int) : (Int × List Int × List Int) → Option ((Int × List Int × List Int) ⊕ (List Int))
  | (x12, x13, x14) => bif decide (x12 < (q1.length : Int)) then (Option.bind (getI q1 x12) fun x17 => Option.bind (sh74 x17) fun x18 => Option.bind (getI x13 (w64 (x18 - 1))) fun x19 => Option.bind (getI q1 x12) fun x20 => Option.bind (bif decide (x20 < 0) then (Option.bind (getI x13 x18) fun x27 => some x27) else (some x19)) fun j21 => (Option.bind (getI x14 j21) fun x22 => Option.bind (getI x14 j21) fun x23 => Option.bind (getI q1 x12) fun x24 => Option.bind (sh75 x13 x24) fun x25 => some (.inl (w64 (x12 + 1), x25, x14.set (j21).toNat (w64 (x22 + 1)))))) else (some (.inr x14))
def sh48 (q0 : Int) (q1 : List Int) : Option (List Int × Int) := Option.bind (sh50 q0 q1) fun x1 => bif !x1 then (some (([] : List Int), 1)) else (Option.bind (sh73 q0) fun x3 => Option.bind (mkL q0 0) fun x7 => Option.bind (iter (sh48_1 q1) (0, x3, x7)) fun b1 => (some (b1, 0)))
def T48 (r : List Int × Int) (v : Value) (rs : List Own) : Prop := ∃ (a0 : Option Addr) (n0 c0 : Nat), r.1.length = n0 ∧ v = rets [.slice a0 n0 c0, .int .i64 r.2] ∧ rs = [rowT 2 eI64 a0 n0 c0 r.1]
set_option maxRecDepth 100000 in
theorem c48 {w : World} {q0 : Int} {q1 : List Int} {a_1 : Option Addr} {n_1 c_1 : Nat} (g_1 : Rd w a_1 (eI64.fl q1)) (l_1 : q1.length = n_1) (k_1 : n_1 ≤ c_1) {r : List Int × Int} (hres : sh48 q0 q1 = some r) : Calls Go.Proofs.Try.prog 48 [.int .i64 q0, .slice a_1 n_1 c_1].toArray w (Ret w (T48 r)) := by
  subst l_1
  unfold sh48 at hres
  refine calls_of (n := 57) (M := []) (es := []) Go.Proofs.Try.func48 rfl rfl rfl (Sep.nil _ _ _) ?_
  refine JX.seq ?_
  refine JX.region ?_
  refine JL.val (yl_assign rfl) rfl ?_
  refine JL.val (yl_assign rfl) rfl ?_
  refine JL.nil ?_
  refine JE.code ?_
  refine JX.seq ?_
  refine JX.seq ?_
  refine JX.region ?_
  refine JL.val (yl_move rfl) rfl ?_
  refine JL.val (yl_move rfl) rfl ?_
  obtain ⟨x1, hx1, hres⟩ := bind_some hres
  refine JL.eff (ef_call (T := T50 x1) Go.Proofs.Try.func50 rfl (by kernel_rfl) rfl (fun w hC => c50 (rd_arg g_1 hC) rfl k_1 hx1)) rfl ?_
  rintro _ _ ⟨_, ⟨rfl, rfl⟩, rfl⟩
  refine JL.val (yl_not rfl) rfl ?_
  refine JL.nil ?_
  refine JE.weak (env' := [(0, .int .i64 q0), (1, .slice a_1 q1.length c_1), (14, .bool !x1)]) (es' := []) [] ?_ ⟨rfl, rfl, rfl, trivial⟩ (by decide) rfl
  refine JE.code ?_
  rcases cond_some hres with ⟨hb, hres⟩ | ⟨hb, hres⟩
  · refine JX.condT rfl hb ?_
    refine JX.seq ?_
    refine JX.region ?_
    refine JL.val (yl_assign rfl) rfl ?_
    refine JL.val (yl_assign rfl) rfl ?_
    refine JL.nil ?_
    refine JE.code ?_
    refine JX.ret ?_
    refine JE.nilrow 2 eI64 ?_
    obtain rfl := Option.some.inj hres
    refine JE.ret (rs := [.tmp 4, .tmp 5]) (vs := [.slice none 0 0, .int .i64 1]) rfl ⟨rfl, rfl, trivial⟩ ?_
    exact fun w' hb hs => ⟨_, _, ⟨none, 0, 0, rfl, rfl, rfl⟩, rfl, hb, hs.sel [0] _ (by decide) rfl⟩
  · refine JX.condF rfl hb ?_
    refine JX.skip ?_
    refine JE.code ?_
    refine JX.seq ?_
    refine JX.region ?_
    refine JL.val (yl_move rfl) rfl ?_
    obtain ⟨x3, hx3, hres⟩ := bind_some hres
    refine JL.eff (ef_call (T := T73 x3) Go.Proofs.Try.func73 rfl (by kernel_rfl) rfl (fun w hC => c73  hx3)) rfl ?_
    rintro _ _ ⟨_, ⟨a4, _, c5, rfl, rfl, rfl⟩, rfl⟩
    refine JL.val (yl_assign rfl) rfl ?_
    refine JL.nil ?_
    refine JE.code ?_
    refine JX.seq ?_
    refine JX.region ?_
    refine JL.val (yl_move rfl) rfl ?_
    obtain ⟨x7, hx7, hres⟩ := bind_some hres
    refine JL.eff (ef_makeS (e := eI64) Go.Proofs.Try.underlying22 i2 i2s i2z rfl i2b1 rfl rfl hx7) rfl ?_
    rintro _ _ ⟨a8, rfl, rfl⟩
    refine JL.val (yl_assign rfl) rfl ?_
    refine JL.nil ?_
    refine JE.code ?_
    refine JX.seq ?_
    refine JX.seq ?_
    refine JX.region ?_
    refine JL.val (yl_assign rfl) rfl ?_
    refine JL.nil ?_
    refine JE.code ?_
    refine JX.block ?_
    obtain ⟨y1, hy1, hresO1⟩ := bind_some hres
    refine JX.loop (I := fun (s1 : Int × List Int × List Int) aa ww => ∃ (l10 : s1.2.1.length = x3.length) (l11 : s1.2.2.length = x7.length), St w [] 57 [(1, .slice a_1 q1.length c_1), (6, .slice a4 x3.length c5), (7, .slice a8 x7.length x7.length), (8, .int .i64 s1.1)] [rowT 2 eI64 a4 x3.length c5 s1.2.1, rowT 2 eI64 a8 x7.length x7.length s1.2.2] aa ww) (sh48_1 q1) hy1 (fun a w h => ⟨rfl, rfl, h.weak ⟨rfl, rfl, rfl, rfl, trivial⟩ [0, 1] (by decide) rfl⟩) ?_
    rintro ⟨x12, x13, x14⟩ o1 hres hox1 aa ww ⟨l15, l16, hS⟩
    refine (?_ : JX Go.Proofs.Try.prog w [] 57 _ _ [(1, .slice a_1 q1.length c_1), (6, .slice a4 x3.length c5), (7, .slice a8 x7.length x7.length), (8, .int .i64 x12)] [rowT 2 eI64 a4 x3.length c5 x13, rowT 2 eI64 a8 x7.length x7.length x14] _) aa ww hS
    clear hS
    simp only [sh48_1] at hres
    refine JX.seq ?_
    refine JX.seq ?_
    refine JX.region ?_
    refine JL.val (yl_move rfl) rfl ?_
    refine JL.val (yl_move rfl) rfl ?_
    refine JL.val (yl_len_slice Go.Proofs.Try.underlying22 rfl) rfl ?_
    refine JL.val (yl_lss rfl rfl) rfl ?_
    refine JL.nil ?_
    refine JE.weak (env' := [(1, .slice a_1 q1.length c_1), (6, .slice a4 x3.length c5), (7, .slice a8 x7.length x7.length), (8, .int .i64 x12), (22, .bool (decide (x12 < (q1.length : Int))))]) (es' := [rowT 2 eI64 a4 x3.length c5 x13, rowT 2 eI64 a8 x7.length x7.length x14]) [0, 1] ?_ ⟨rfl, rfl, rfl, rfl, rfl, trivial⟩ (by decide) rfl
    refine JE.code ?_
    rcases cond_some hres with ⟨hb, hres⟩ | ⟨hb, hres⟩
    · refine JX.condT rfl hb ?_
      refine JX.skip ?_
      refine JE.code ?_
      refine JX.seq ?_
      refine JX.block ?_
      refine JX.seq ?_
      refine JX.region ?_
      refine JL.val (yl_move rfl) rfl ?_
      refine JL.val (yl_move rfl) rfl ?_
      obtain ⟨x17, hx17, hres⟩ := bind_some hres
      refine JL.val (yl_idxT Go.Proofs.Try.underlying22 i2 i2s rfl rfl hx17 rfl (fun w hC => rd_arg g_1 hC)) rfl ?_
      refine JL.val (yl_loadT0 Go.Proofs.Try.underlying2 rfl rfl hx17 (fun w hC => rd_arg g_1 hC) rfl) rfl ?_
      obtain ⟨x18, hx18, hres⟩ := bind_some hres
      refine JL.eff (ef_call (T := T74 x18) Go.Proofs.Try.func74 rfl (by kernel_rfl) rfl (fun w hC => c74  hx18)) rfl ?_
      rintro _ _ ⟨_, ⟨rfl, rfl⟩, rfl⟩
      refine JL.val (yl_assign rfl) rfl ?_
      refine JL.nil ?_
      refine JE.weak (env' := [(1, .slice a_1 q1.length c_1), (6, .slice a4 x3.length c5), (7, .slice a8 x7.length x7.length), (8, .int .i64 x12), (9, .int .i64 x18)]) (es' := [rowT 2 eI64 a4 x3.length c5 x13, rowT 2 eI64 a8 x7.length x7.length x14]) [0, 1] ?_ ⟨rfl, rfl, rfl, rfl, rfl, trivial⟩ (by decide) rfl
      refine JE.code ?_
      refine JX.seq ?_
      refine JX.region ?_
      refine JL.val (yl_move rfl) rfl ?_
      refine JL.val (yl_move rfl) rfl ?_
      refine JL.val (yl_sub rfl rfl) rfl ?_
      obtain ⟨x19, hx19, hres⟩ := bind_some hres
      refine JL.val (yl_idxT Go.Proofs.Try.underlying22 i2 i2s rfl rfl hx19 l15 (fun w hC => rd_row hC 0 rfl)) rfl ?_
      refine JL.val (yl_loadT0 Go.Proofs.Try.underlying2 rfl rfl hx19 (fun w hC => rd_row hC 0 rfl) rfl) rfl ?_
      refine JL.val (yl_assign rfl) rfl ?_
      refine JL.nil ?_
      refine JE.weak (env' := [(1, .slice a_1 q1.length c_1), (6, .slice a4 x3.length c5), (7, .slice a8 x7.length x7.length), (8, .int .i64 x12), (9, .int .i64 x18), (10, .int .i64 x19)]) (es' := [rowT 2 eI64 a4 x3.length c5 x13, rowT 2 eI64 a8 x7.length x7.length x14]) [0, 1] ?_ ⟨rfl, rfl, rfl, rfl, rfl, rfl, trivial⟩ (by decide) rfl
      refine JE.code ?_
      refine JX.seq ?_
      refine JX.seq ?_
      refine JX.region ?_
      refine JL.val (yl_move rfl) rfl ?_
      refine JL.val (yl_move rfl) rfl ?_
      obtain ⟨x20, hx20, hres⟩ := bind_some hres
      refine JL.val (yl_idxT Go.Proofs.Try.underlying22 i2 i2s rfl rfl hx20 rfl (fun w hC => rd_arg g_1 hC)) rfl ?_
      refine JL.val (yl_loadT0 Go.Proofs.Try.underlying2 rfl rfl hx20 (fun w hC => rd_arg g_1 hC) rfl) rfl ?_
      refine JL.val (yl_lss rfl rfl) rfl ?_
      refine JL.nil ?_
      refine JE.weak (env' := [(1, .slice a_1 q1.length c_1), (6, .slice a4 x3.length c5), (7, .slice a8 x7.length x7.length), (8, .int .i64 x12), (9, .int .i64 x18), (10, .int .i64 x19), (39, .bool (decide (x20 < 0)))]) (es' := [rowT 2 eI64 a4 x3.length c5 x13, rowT 2 eI64 a8 x7.length x7.length x14]) [0, 1] ?_ ⟨rfl, rfl, rfl, rfl, rfl, rfl, rfl, trivial⟩ (by decide) rfl
      refine JE.code ?_
      obtain ⟨j21, hj21, hresj21⟩ := bind_some hres
      refine JX.cut (K := fun J => J [(1, .slice a_1 q1.length c_1), (6, .slice a4 x3.length c5), (7, .slice a8 x7.length x7.length), (8, .int .i64 x12), (10, .int .i64 j21)] [rowT 2 eI64 a4 x3.length c5 x13, rowT 2 eI64 a8 x7.length x7.length x14]) ?_ ?_
      · have hres := hresj21
        refine JE.code ?_
        refine JX.seq ?_
        refine JX.region ?_
        refine JL.val (yl_move rfl) rfl ?_
        refine JL.val (yl_move rfl) rfl ?_
        obtain ⟨x22, hx22, hres⟩ := bind_some hres
        refine JL.val (yl_idxT Go.Proofs.Try.underlying22 i2 i2s rfl rfl hx22 l16 (fun w hC => rd_row hC 1 rfl)) rfl ?_
        refine JL.val (yl_loadT0 Go.Proofs.Try.underlying2 rfl rfl hx22 (fun w hC => rd_row hC 1 rfl) rfl) rfl ?_
        refine JL.val (yl_add rfl rfl) rfl ?_
        obtain ⟨x23, hx23, hres⟩ := bind_some hres
        refine JL.val (yl_idxT Go.Proofs.Try.underlying22 i2 i2s rfl rfl hx23 l16 (fun w hC => rd_row hC 1 rfl)) rfl ?_
        refine JL.eff (ef_storeT (ix := 1) (u := w64 (x22 + 1)) i2 i2s rfl rfl rfl hx23 rfl) rfl ?_
        rintro _ _ rfl
        refine JL.nil ?_
        refine JE.weak (env' := [(1, .slice a_1 q1.length c_1), (6, .slice a4 x3.length c5), (7, .slice a8 x7.length x7.length), (8, .int .i64 x12)]) (es' := [rowT 2 eI64 a4 x3.length c5 x13, rowT 2 eI64 a8 x7.length x7.length (x14.set (j21).toNat (w64 (x22 + 1)))]) [0, 1] ?_ ⟨rfl, rfl, rfl, rfl, trivial⟩ (by decide) rfl
        refine JE.code ?_
        refine JX.region ?_
        refine JL.val (yl_move rfl) rfl ?_
        refine JL.val (yl_move rfl) rfl ?_
        refine JL.val (yl_move rfl) rfl ?_
        obtain ⟨x24, hx24, hres⟩ := bind_some hres
        refine JL.val (yl_idxT Go.Proofs.Try.underlying22 i2 i2s rfl rfl hx24 rfl (fun w hC => rd_arg g_1 hC)) rfl ?_
        refine JL.val (yl_loadT0 Go.Proofs.Try.underlying2 rfl rfl hx24 (fun w hC => rd_arg g_1 hC) rfl) rfl ?_
        obtain ⟨x25, hx25, hres⟩ := bind_some hres
        refine JL.eff (ef_callm (T := T75 a4 x3.length c5 x25) 0 Go.Proofs.Try.func75 rfl (by kernel_rfl) rfl rfl (fun w fp hs => c75 hs l15 hx25)) rfl ?_
        rintro _ _ ⟨_, _, ⟨l26, rfl, rfl, rfl⟩, rfl⟩
        refine JL.nil ?_
        refine JE.weak (env' := [(1, .slice a_1 q1.length c_1), (6, .slice a4 x3.length c5), (7, .slice a8 x7.length x7.length), (8, .int .i64 x12)]) (es' := [rowT 2 eI64 a4 x3.length c5 x25, rowT 2 eI64 a8 x7.length x7.length (x14.set (j21).toNat (w64 (x22 + 1)))]) [0, 1] ?_ ⟨rfl, rfl, rfl, rfl, trivial⟩ (by decide) rfl
        refine JE.code ?_
        refine JX.region ?_
        refine JL.val (yl_move rfl) rfl ?_
        refine JL.val (yl_add rfl rfl) rfl ?_
        refine JL.val (yl_assign rfl) rfl ?_
        refine JL.nil ?_
        refine JE.cont hres ?_
        exact fun a w h => ⟨l26, (List.length_set.trans l16), h.weak ⟨rfl, rfl, rfl, rfl, trivial⟩ [0, 1] (by decide) rfl⟩
      · intro K
        rcases cond_some hj21 with ⟨hb, hres⟩ | ⟨hb, hres⟩
        · refine JX.condT rfl hb ?_
          refine JX.region ?_
          refine JL.val (yl_move rfl) rfl ?_
          refine JL.val (yl_move rfl) rfl ?_
          obtain ⟨x27, hx27, hres⟩ := bind_some hres
          refine JL.val (yl_idxT Go.Proofs.Try.underlying22 i2 i2s rfl rfl hx27 l15 (fun w hC => rd_row hC 0 rfl)) rfl ?_
          refine JL.val (yl_loadT0 Go.Proofs.Try.underlying2 rfl rfl hx27 (fun w hC => rd_row hC 0 rfl) rfl) rfl ?_
          refine JL.val (yl_assign rfl) rfl ?_
          refine JL.nil ?_
          refine JE.weak (env' := [(1, .slice a_1 q1.length c_1), (6, .slice a4 x3.length c5), (7, .slice a8 x7.length x7.length), (8, .int .i64 x12), (10, .int .i64 x27)]) (es' := [rowT 2 eI64 a4 x3.length c5 x13, rowT 2 eI64 a8 x7.length x7.length x14]) [0, 1] ?_ ⟨rfl, rfl, rfl, rfl, rfl, trivial⟩ (by decide) rfl
          have hj := Option.some.inj hres
          exact JE.weak [0, 1] (K) ⟨(by subst hj; rfl), (by subst hj; rfl), (by subst hj; rfl), (by subst hj; rfl), (by subst hj; rfl), trivial⟩ (by decide) (by subst hj; rfl)
        · refine JX.condF rfl hb ?_
          refine JX.skip ?_
          have hj := Option.some.inj hres
          exact JE.weak [0, 1] (K) ⟨(by subst hj; rfl), (by subst hj; rfl), (by subst hj; rfl), (by subst hj; rfl), (by subst hj; rfl), trivial⟩ (by decide) (by subst hj; rfl)
    · refine JX.condF rfl hb ?_
      refine JX.exit ?_
      refine JE.qb rfl ?_
      obtain ⟨b1, hb1⟩ : ∃ b : List Int, b = x14 := ⟨_, rfl⟩
      have hy1 : b1 = y1 := by rw [hb1]; exact hox1 _ (Option.some.inj hres).symm
      have hres := hresO1
      rw [← hy1] at hres
      have l28 : b1.length = x7.length := by subst hb1; exact l16
      refine JE.weak (env' := [(7, .slice a8 x7.length x7.length)]) (es' := [rowT 2 eI64 a8 x7.length x7.length b1]) [1] ?_ ⟨(by subst hb1; rfl), trivial⟩ (by decide) (by subst hb1; rfl)
      refine JE.code ?_
      refine JX.seq ?_
      refine JX.region ?_
      refine JL.val (yl_move rfl) rfl ?_
      refine JL.val (yl_assign rfl) rfl ?_
      refine JL.val (yl_assign rfl) rfl ?_
      refine JL.nil ?_
      refine JE.code ?_
      refine JX.ret ?_
      obtain rfl := Option.some.inj hres
      refine JE.ret (rs := [.tmp 4, .tmp 5]) (vs := [.slice a8 x7.length x7.length, .int .i64 0]) rfl ⟨rfl, rfl, trivial⟩ ?_
      exact fun w' hb hs => ⟨_, _, ⟨a8, x7.length, x7.length, l28, rfl, rfl⟩, rfl, hb, hs.sel [0] _ (by decide) rfl⟩

/- impl.inRange -/
def sh51 (q0 : Int) (q1 : Int) (q2 : Int) : Option (Bool) := some ((decide (q1 ≤ q0)) && (decide (q0 ≤ q2)))
def T51 (r : Bool) (v : Value) (rs : List Own) : Prop := v = rets [.bool r] ∧ rs = []
set_option maxRecDepth 100000 in
theorem c51 {w : World} {q0 : Int} {q1 : Int} {q2 : Int} {r : Bool} (hres : sh51 q0 q1 q2 = some r) : Calls Go.Proofs.Try.prog 51 [.int .i64 q0, .int .i64 q1, .int .i64 q2].toArray w (Ret w (T51 r)) := by
  unfold sh51 at hres
  refine calls_of (n := 15) (M := []) (es := []) Go.Proofs.Try.func51 rfl rfl rfl (Sep.nil _ _ _) ?_
  refine JX.seq ?_
  refine JX.region ?_
  refine JL.val (yl_assign rfl) rfl ?_
  refine JL.nil ?_
  refine JE.code ?_
  refine JX.seq ?_
  refine JX.region ?_
  refine JL.val (yl_move rfl) rfl ?_
  refine JL.val (yl_move rfl) rfl ?_
  refine JL.val (yl_geq rfl rfl) rfl ?_
  refine JL.val (yl_move rfl) rfl ?_
  refine JL.cut (K := fun J => J [(14, .bool ((decide (q1 ≤ q0)) && (decide (q0 ≤ q2))))] []) 4 ?_ ?_
  · refine JL.val (yl_assign rfl) rfl ?_
    refine JL.nil ?_
    refine JE.weak (env' := [(6, .bool ((decide (q1 ≤ q0)) && (decide (q0 ≤ q2))))]) (es' := []) [] ?_ ⟨rfl, trivial⟩ (by decide) rfl
    refine JE.code ?_
    refine JX.ret ?_
    obtain rfl := Option.some.inj hres
    refine JE.ret (rs := [.tmp 6]) (vs := [.bool ((decide (q1 ≤ q0)) && (decide (q0 ≤ q2)))]) rfl ⟨rfl, trivial⟩ ?_
    exact fun w' hb hs => ⟨_, _, ⟨rfl, rfl⟩, rfl, hb, hs.sel [] _ (by decide) rfl⟩
  · intro K
    rcases Bool.eq_false_or_eq_true (decide (q1 ≤ q0)) with hb | hb
    · refine JL.set (d := 10) (v := .bool true) (congrArg (fun b => some (Value.bool b)) hb) ?_
      refine JL.gval rfl rfl (yl_move rfl) rfl ?_
      refine JL.gval rfl rfl (yl_move rfl) rfl ?_
      refine JL.gval rfl rfl (yl_leq rfl rfl) rfl ?_
      refine JL.val (yl_pick_true rfl rfl) rfl ?_
      exact JL.weak [] K ⟨(by rw [hb]; rfl), trivial⟩ (by decide) rfl
    · refine JL.set (d := 10) (v := .bool false) (congrArg (fun b => some (Value.bool b)) hb) ?_
      refine JL.gskip rfl rfl rfl rfl ?_
      refine JL.gskip rfl rfl rfl rfl ?_
      refine JL.gskip rfl rfl rfl rfl ?_
      refine JL.val (yl_pick_false rfl rfl) rfl ?_
      exact JL.weak [] K ⟨(by rw [hb]; rfl), trivial⟩ (by decide) rfl

/- impl.ValidWord -/
def sh17_1 (q0 : Int) (q1 : List Int) : Int → Option (Int ⊕ (Unit ⊕ Bool))
  | x1 => bif decide (x1 < (q1.length : Int)) then (Option.bind (getI q1 x1) fun x2 => Option.bind (bif x2 == 0 then (some true) else (Option.bind (sh51 x2 (w64 (1 - q0)) (w64 (q0 - 1))) fun x4 => some !x4)) fun c3 => (bif c3 then (some (.inr (.inr false))) else (some (.inl (w64 (x1 + 1)))))) else (some (.inr (.inl ())))
def sh17 (q0 : Int) (q1 : List Int) : Option (Bool) := Option.bind (iter (sh17_1 q0 q1) 0) fun y1 => elimS y1 (fun r => some r) fun b1 => (Option.bind (sh51 q0 2 12) fun x5 => some (x5 && (decide ((q1.length : Int) ≤ 200))))
def T17 (r : Bool) (v : Value) (rs : List Own) : Prop := v = rets [.bool r] ∧ rs = []
set_option maxRecDepth 100000 in
theorem c17 {w : World} {q0 : Int} {q1 : List Int} {a_1 : Option Addr} {n_1 c_1 : Nat} (g_1 : Rd w a_1 (eI64.fl q1)) (l_1 : q1.length = n_1) (k_1 : n_1 ≤ c_1) {r : Bool} (hres : sh17 q0 q1 = some r) : Calls Go.Proofs.Try.prog 17 [.int .i64 q0, .slice a_1 n_1 c_1].toArray w (Ret w (T17 r)) := by
  subst l_1
  unfold sh17 at hres
  refine calls_of (n := 32) (M := []) (es := []) Go.Proofs.Try.func17 rfl rfl rfl (Sep.nil _ _ _) ?_
  refine JX.seq ?_
  refine JX.region ?_
  refine JL.val (yl_assign rfl) rfl ?_
  refine JL.nil ?_
  refine JE.code ?_
  refine JX.seq ?_
  refine JX.seq ?_
  refine JX.region ?_
  refine JL.val (yl_move rfl) rfl ?_
  refine JL.val (yl_len_slice Go.Proofs.Try.underlying22 rfl) rfl ?_
  refine JL.val (yl_move rfl) rfl ?_
  refine JL.nil ?_
  refine JE.code ?_
  refine JX.block ?_
  obtain ⟨y1, hy1, hresO1⟩ := bind_some hres
  refine JX.loop (I := fun (s1 : Int) aa ww => St w [] 32 [(0, .int .i64 q0), (1, .slice a_1 q1.length c_1), (7, .slice a_1 q1.length c_1), (8, .int .i64 (q1.length : Int)), (9, .int .i64 s1)] [] aa ww) (sh17_1 q0 q1) hy1 (fun a w h => h.weak ⟨rfl, rfl, rfl, rfl, rfl, trivial⟩ [] (by decide) rfl) ?_
  rintro x1 o1 hres hox1 aa ww hS
  refine (?_ : JX Go.Proofs.Try.prog w [] 32 _ _ [(0, .int .i64 q0), (1, .slice a_1 q1.length c_1), (7, .slice a_1 q1.length c_1), (8, .int .i64 (q1.length : Int)), (9, .int .i64 x1)] [] _) aa ww hS
  clear hS
  unfold sh17_1 at hres
  refine JX.seq ?_
  refine JX.region ?_
  refine JL.val (yl_lss rfl rfl) rfl ?_
  refine JL.nil ?_
  refine JE.code ?_
  refine JX.seq ?_
  rcases cond_some hres with ⟨hb, hres⟩ | ⟨hb, hres⟩
  · refine JX.condT rfl hb ?_
    refine JX.skip ?_
    refine JE.code ?_
    refine JX.seq ?_
    refine JX.block ?_
    refine JX.seq ?_
    refine JX.region ?_
    obtain ⟨x2, hx2, hres⟩ := bind_some hres
    refine JL.val (yl_idxT Go.Proofs.Try.underlying22 i2 i2s rfl rfl hx2 rfl (fun w hC => rd_arg g_1 hC)) rfl ?_
    refine JL.val (yl_loadT0 Go.Proofs.Try.underlying2 rfl rfl hx2 (fun w hC => rd_arg g_1 hC) rfl) rfl ?_
    refine JL.val (yl_assign rfl) rfl ?_
    refine JL.nil ?_
    refine JE.code ?_
    refine JX.seq ?_
    refine JX.region ?_
    refine JL.val (yl_move rfl) rfl ?_
    refine JL.val (yl_eql rfl rfl) rfl ?_
    refine JL.val (yl_move rfl) rfl ?_
    obtain ⟨c3, hc3, hres⟩ := bind_some hres
    refine JL.cut (K := fun J => J [(0, .int .i64 q0), (1, .slice a_1 q1.length c_1), (7, .slice a_1 q1.length c_1), (8, .int .i64 (q1.length : Int)), (9, .int .i64 x1), (23, .bool c3)] []) 8 ?_ ?_
    · refine JL.nil ?_
      refine JE.weak (env' := [(0, .int .i64 q0), (1, .slice a_1 q1.length c_1), (7, .slice a_1 q1.length c_1), (8, .int .i64 (q1.length : Int)), (9, .int .i64 x1), (23, .bool c3)]) (es' := []) [] ?_ ⟨rfl, rfl, rfl, rfl, rfl, rfl, trivial⟩ (by decide) rfl
      refine JE.code ?_
      rcases cond_some hres with ⟨hb, hres⟩ | ⟨hb, hres⟩
      · refine JX.condT rfl hb ?_
        refine JX.seq ?_
        refine JX.region ?_
        refine JL.val (yl_assign rfl) rfl ?_
        refine JL.nil ?_
        refine JE.code ?_
        refine JX.ret ?_
        refine JE.qbr ?_
        refine JE.qbr ?_
        have hres := elimS_inr hresO1 (hox1 _ (Option.some.inj hres).symm)
        obtain rfl := Option.some.inj hres
        refine JE.ret (rs := [.tmp 4]) (vs := [.bool false]) rfl ⟨rfl, trivial⟩ ?_
        exact fun w' hb hs => ⟨_, _, ⟨rfl, rfl⟩, rfl, hb, hs.sel [] _ (by decide) rfl⟩
      · refine JX.condF rfl hb ?_
        refine JX.skip ?_
        refine JE.code ?_
        refine JX.region ?_
        refine JL.val (yl_add rfl rfl) rfl ?_
        refine JL.val (yl_move rfl) rfl ?_
        refine JL.nil ?_
        refine JE.cont hres ?_
        exact fun a w h => h.weak ⟨rfl, rfl, rfl, rfl, rfl, trivial⟩ [] (by decide) rfl
    · intro K
      rcases cond_some hc3 with ⟨hb, hres⟩ | ⟨hb, hres⟩
      · refine JL.set (d := 15) (v := .bool true) (congrArg (fun b => some (Value.bool b)) hb) ?_
        refine JL.gskip rfl rfl rfl rfl ?_
        refine JL.gskip rfl rfl rfl rfl ?_
        refine JL.gskip rfl rfl rfl rfl ?_
        refine JL.gskip rfl rfl rfl rfl ?_
        refine JL.gskip rfl rfl rfl rfl ?_
        refine JL.gskip rfl rfl rfl rfl ?_
        refine JL.gskip rfl rfl rfl rfl ?_
        refine JL.val (yl_pick_true rfl rfl) rfl ?_
        have he := Option.some.inj hres
        exact JL.weak [] K ⟨rfl, rfl, rfl, rfl, rfl, (by rw [← he]; rfl), trivial⟩ (by decide) rfl
      · refine JL.set (d := 15) (v := .bool false) (congrArg (fun b => some (Value.bool b)) hb) ?_
        refine JL.gval rfl rfl (yl_move rfl) rfl ?_
        refine JL.gval rfl rfl (yl_move rfl) rfl ?_
        refine JL.gval rfl rfl (yl_sub rfl rfl) rfl ?_
        refine JL.gval rfl rfl (yl_move rfl) rfl ?_
        refine JL.gval rfl rfl (yl_sub rfl rfl) rfl ?_
        obtain ⟨x4, hx4, hres⟩ := bind_some hres
        refine JL.geff rfl rfl (ef_call (T := T51 x4) Go.Proofs.Try.func51 rfl (by kernel_rfl) rfl (fun w hC => c51  hx4)) rfl ?_
        rintro _ _ ⟨_, ⟨rfl, rfl⟩, rfl⟩
        refine JL.gval rfl rfl (yl_not rfl) rfl ?_
        refine JL.val (yl_pick_false rfl rfl) rfl ?_
        have he := Option.some.inj hres
        exact JL.weak [] K ⟨rfl, rfl, rfl, rfl, rfl, (by rw [← he]; rfl), trivial⟩ (by decide) rfl
  · refine JX.condF rfl hb ?_
    refine JX.exit ?_
    refine JE.qb rfl ?_
    obtain ⟨b1, hb1⟩ : ∃ b : Unit, b = () := ⟨_, rfl⟩
    have hy1 : Sum.inl b1 = y1 := by rw [hb1]; exact hox1 _ (Option.some.inj hres).symm
    have hres := elimS_inl hresO1 hy1
    refine JE.weak (env' := [(0, .int .i64 q0), (1, .slice a_1 q1.length c_1)]) (es' := []) [] ?_ ⟨(by subst hb1; rfl), (by subst hb1; rfl), trivial⟩ (by decide) (by subst hb1; rfl)
    refine JE.code ?_
    refine JX.seq ?_
    refine JX.region ?_
    refine JL.val (yl_move rfl) rfl ?_
    obtain ⟨x5, hx5, hres⟩ := bind_some hres
    refine JL.eff (ef_call (T := T51 x5) Go.Proofs.Try.func51 rfl (by kernel_rfl) rfl (fun w hC => c51  hx5)) rfl ?_
    rintro _ _ ⟨_, ⟨rfl, rfl⟩, rfl⟩
    refine JL.val (yl_move rfl) rfl ?_
    refine JL.cut (K := fun J => J [(31, .bool (x5 && (decide ((q1.length : Int) ≤ 200))))] []) 4 ?_ ?_
    · refine JL.val (yl_assign rfl) rfl ?_
      refine JL.nil ?_
      refine JE.weak (env' := [(4, .bool (x5 && (decide ((q1.length : Int) ≤ 200))))]) (es' := []) [] ?_ ⟨rfl, trivial⟩ (by decide) rfl
      refine JE.code ?_
      refine JX.ret ?_
      obtain rfl := Option.some.inj hres
      refine JE.ret (rs := [.tmp 4]) (vs := [.bool (x5 && (decide ((q1.length : Int) ≤ 200)))]) rfl ⟨rfl, trivial⟩ ?_
      exact fun w' hb hs => ⟨_, _, ⟨rfl, rfl⟩, rfl, hb, hs.sel [] _ (by decide) rfl⟩
    · intro K
      rcases Bool.eq_false_or_eq_true (x5) with hb | hb
      · refine JL.set (d := 27) (v := .bool true) (congrArg (fun b => some (Value.bool b)) hb) ?_
        refine JL.gval rfl rfl (yl_move rfl) rfl ?_
        refine JL.gval rfl rfl (yl_len_slice Go.Proofs.Try.underlying22 rfl) rfl ?_
        refine JL.gval rfl rfl (yl_leq rfl rfl) rfl ?_
        refine JL.val (yl_pick_true rfl rfl) rfl ?_
        exact JL.weak [] K ⟨(by rw [hb]; rfl), trivial⟩ (by decide) rfl
      · refine JL.set (d := 27) (v := .bool false) (congrArg (fun b => some (Value.bool b)) hb) ?_
        refine JL.gskip rfl rfl rfl rfl ?_
        refine JL.gskip rfl rfl rfl rfl ?_
        refine JL.gskip rfl rfl rfl rfl ?_
        refine JL.val (yl_pick_false rfl rfl) rfl ?_
        exact JL.weak [] K ⟨(by rw [hb]; rfl), trivial⟩ (by decide) rfl

/- impl.rightOf -/
def sh87 (q0 : Int) : Option (Int) := some (if q0 < (w64 (0 - q0)) then (w64 (0 - q0)) else q0)
def T87 (r : Int) (v : Value) (rs : List Own) : Prop := v = rets [.int .i64 r] ∧ rs = []
set_option maxRecDepth 100000 in
theorem c87 {w : World} {q0 : Int} {r : Int} (hres : sh87 q0 = some r) : Calls Go.Proofs.Try.prog 87 [.int .i64 q0].toArray w (Ret w (T87 r)) := by
  unfold sh87 at hres
  refine calls_of (n := 7) (M := []) (es := []) Go.Proofs.Try.func87 rfl rfl rfl (Sep.nil _ _ _) ?_
  refine JX.seq ?_
  refine JX.region ?_
  refine JL.val (yl_assign rfl) rfl ?_
  refine JL.nil ?_
  refine JE.code ?_
  refine JX.seq ?_
  refine JX.region ?_
  refine JL.val (yl_move rfl) rfl ?_
  refine JL.val (yl_move rfl) rfl ?_
  refine JL.val (yl_neg rfl) rfl ?_
  refine JL.val (yl_max rfl rfl) rfl ?_
  refine JL.val (yl_assign rfl) rfl ?_
  refine JL.nil ?_
  refine JE.weak (env' := [(2, .int .i64 (if q0 < (w64 (0 - q0)) then (w64 (0 - q0)) else q0))]) (es' := []) [] ?_ ⟨rfl, trivial⟩ (by decide) rfl
  refine JE.code ?_
  refine JX.ret ?_
  obtain rfl := Option.some.inj hres
  refine JE.ret (rs := [.tmp 2]) (vs := [.int .i64 (if q0 < (w64 (0 - q0)) then (w64 (0 - q0)) else q0)]) rfl ⟨rfl, trivial⟩ ?_
  exact fun w' hb hs => ⟨_, _, ⟨rfl, rfl⟩, rfl, hb, hs.sel [] _ (by decide) rfl⟩

/- impl.OversOf$1 -/
def sh76 (q0 : List Int) (q1 : Int) (u0 : List Int) : Option (List Int) := Option.bind (getI u0 q1) fun x1 => Option.bind (getI u0 q1) fun x2 => some (u0.set (q1).toNat (w64 (x1 + 1)))
def T76 (g_u0_0 : Nat) (r : List Int) (v : Value) (es' rs : List Own) : Prop := ∃ (ax1 : Option Addr) (nx1 cx1 : Nat), r.length = nx1 ∧ es' = [boxO 22 g_u0_0 [.slice ax1 nx1 cx1], rowT 2 eI64 ax1 nx1 cx1 r] ∧ v = rets [] ∧ rs = []
set_option maxRecDepth 100000 in
theorem c76 {w : World} {M : List Nat} {q0 : List Int} {a_0 : Option Addr} {n_0 c_0 : Nat} (g_0 : RdS M w a_0 (eI64.fl q0)) (l_0 : q0.length = n_0) (k_0 : n_0 ≤ c_0) {q1 : Int} {g_u0_0 : Nat} {u0 : List Int} {a_u0 : Option Addr} {n_u0 c_u0 : Nat} (l_u0 : u0.length = n_u0) (gs : Sep w.heap.size M w [boxO 22 g_u0_0 [.slice a_u0 n_u0 c_u0], rowT 2 eI64 a_u0 n_u0 c_u0 u0]) {r : List Int} (hres : sh76 q0 q1 u0 = some r) : Calls Go.Proofs.Try.prog 76 [.slice a_0 n_0 c_0, .int .i64 q1, ptrAt (some ⟨g_u0_0, 0, none⟩) 0].toArray w (RetMs w M (T76 g_u0_0 r)) := by
  subst l_0
  subst l_u0
  unfold sh76 at hres
  refine calls_of (n := 11) (M := M) (es := [boxO 22 g_u0_0 [.slice a_u0 u0.length c_u0], rowT 2 eI64 a_u0 u0.length c_u0 u0]) Go.Proofs.Try.func76 rfl rfl rfl gs ?_
  refine JX.region ?_
  refine JL.val (yl_load1 Go.Proofs.Try.underlying22 rfl rfl (fun w hC => rd_box hC 0 rfl) rfl) rfl ?_
  refine JL.val (yl_move rfl) rfl ?_
  obtain ⟨x1, hx1, hres⟩ := bind_some hres
  refine JL.val (yl_idxT Go.Proofs.Try.underlying22 i2 i2s rfl rfl hx1 rfl (fun w hC => rd_row hC 1 rfl)) rfl ?_
  refine JL.val (yl_loadT0 Go.Proofs.Try.underlying2 rfl rfl hx1 (fun w hC => rd_row hC 1 rfl) rfl) rfl ?_
  refine JL.val (yl_add rfl rfl) rfl ?_
  obtain ⟨x2, hx2, hres⟩ := bind_some hres
  refine JL.val (yl_idxT Go.Proofs.Try.underlying22 i2 i2s rfl rfl hx2 rfl (fun w hC => rd_row hC 1 rfl)) rfl ?_
  refine JL.eff (ef_storeT (ix := 1) (u := w64 (x1 + 1)) i2 i2s rfl rfl rfl hx2 rfl) rfl ?_
  rintro _ _ rfl
  refine JL.nil ?_
  refine JE.weak (env' := []) (es' := [boxO 22 g_u0_0 [.slice a_u0 u0.length c_u0], rowT 2 eI64 a_u0 u0.length c_u0 (u0.set (q1).toNat (w64 (x1 + 1)))]) [0, 1] ?_ trivial (by decide) rfl
  show JE _ _ _ (bodyPost _ _ _ .ret) _ _
  obtain rfl := Option.some.inj hres
  refine JE.ret (rs := []) (vs := []) rfl trivial ?_
  exact fun w' hb hs => ⟨_, _, _, ⟨a_u0, u0.length, c_u0, List.length_set, rfl, rfl, rfl⟩, rfl, hb, hs.sel [0, 1] _ (by decide) rfl⟩

/- impl.plait -/
def sh69f76_2 (q1 : List Int) : (Int × List Int × List Int) → Option ((Int × List Int × List Int) ⊕ (List Int × List Int))
  | (x19, x20, x21) => bif decide (x19 < (q1.length : Int)) then (Option.bind (getI q1 x19) fun x25 => Option.bind (sh87 x25) fun x26 => Option.bind (getI x21 (w64 (x26 - 1))) fun x27 => Option.bind (bif decide (x25 < 0) then (Option.bind (getI x21 x26) fun x37 => some x37) else (some x27)) fun j28 => (Option.bind (getI x21 x26) fun x30 => Option.bind (getI x21 (w64 (x26 - 1))) fun x31 => Option.bind (getI x21 (w64 (x26 - 1))) fun x32 => Option.bind (getI (x21.set (w64 (x26 - 1)).toNat x30) x26) fun x33 => Option.bind (sh76 ((x21.set (w64 (x26 - 1)).toNat x30).set (x26).toNat x31) j28 x20) fun x34 => some (.inl (w64 (x19 + 1), x34, (x21.set (w64 (x26 - 1)).toNat x30).set (x26).toNat x31)))) else (some (.inr (x20, x21)))
def sh69f76_1 (q0 : Int) : (Int × List Int) → Option ((Int × List Int) ⊕ (List Int))
  | (x5, x6) => bif decide (x5 < q0) then (Option.bind (appL x6 [x5]) fun x11 => some (.inl (w64 (x5 + 1), x11))) else (some (.inr x6))
def sh69f76 (q0 : Int) (q1 : List Int) (u0 : List Int) : Option (List Int × List Int) := Option.bind (iter (sh69f76_1 q0) (0, ([] : List Int))) fun b1 => (Option.bind (iter (sh69f76_2 q1) (0, u0, b1)) fun b2 => (some (b2.2, b2.1)))
def T69f76 (g_u0_0 : Nat) (r : List Int × List Int) (v : Value) (es' rs : List Own) : Prop := ∃ (ax1 : Option Addr) (nx1 cx1 : Nat), r.2.length = nx1 ∧ es' = [boxO 22 g_u0_0 [.slice ax1 nx1 cx1], rowT 2 eI64 ax1 nx1 cx1 r.2] ∧ ∃ (a0 : Option Addr) (n0 c0 : Nat), r.1.length = n0 ∧ v = rets [.slice a0 n0 c0] ∧ rs = [rowT 2 eI64 a0 n0 c0 r.1]
set_option maxRecDepth 100000 in
theorem c69f76 {w : World} {M : List Nat} {q0 : Int} {q1 : List Int} {a_1 : Option Addr} {n_1 c_1 : Nat} (g_1 : RdS M w a_1 (eI64.fl q1)) (l_1 : q1.length = n_1) (k_1 : n_1 ≤ c_1) {g_u0_0 : Nat} {u0 : List Int} {a_u0 : Option Addr} {n_u0 c_u0 : Nat} (l_u0 : u0.length = n_u0) (gs : Sep w.heap.size M w [boxO 22 g_u0_0 [.slice a_u0 n_u0 c_u0], rowT 2 eI64 a_u0 n_u0 c_u0 u0]) {r : List Int × List Int} (hres : sh69f76 q0 q1 u0 = some r) : Calls Go.Proofs.Try.prog 69 [.int .i64 q0, .slice a_1 n_1 c_1, .func (.func 76) #[] #[ptrAt (some ⟨g_u0_0, 0, none⟩) 0]].toArray w (RetMs w M (T69f76 g_u0_0 r)) := by
  subst l_1
  subst l_u0
  unfold sh69f76 at hres
  refine calls_of (n := 64) (M := M) (es := [boxO 22 g_u0_0 [.slice a_u0 u0.length c_u0], rowT 2 eI64 a_u0 u0.length c_u0 u0]) Go.Proofs.Try.func69 rfl rfl rfl gs ?_
  refine JX.seq ?_
  refine JX.region ?_
  refine JL.val (yl_assign rfl) rfl ?_
  refine JL.nil ?_
  refine JE.code ?_
  refine JX.seq ?_
  refine JX.region ?_
  refine JL.eff (ef_buildSlice (E := 2) (k := eI64.k) (us := eI64.fl ([] : List Int)) rfl (fun w => bsl22_0  w) rfl (by decide)) rfl ?_
  rintro _ _ ⟨a1, rfl, rfl⟩
  refine JL.val (yl_assign rfl) rfl ?_
  refine JL.nil ?_
  refine JE.code ?_
  refine JX.seq ?_
  refine JX.seq ?_
  refine JX.region ?_
  refine JL.val (yl_move rfl) rfl ?_
  refine JL.val (yl_move rfl) rfl ?_
  refine JL.nil ?_
  refine JE.code ?_
  refine JX.block ?_
  obtain ⟨y1, hy1, hresO1⟩ := bind_some hres
  refine JX.loop (I := fun (s1 : Int × List Int) aa ww => ∃ (a3 : Option Addr) (c4 : Nat), St w M 64 [(1, .slice a_1 q1.length c_1), (2, .func (.func 76) #[] #[ptrAt (some ⟨g_u0_0, 0, none⟩) 0]), (7, .slice a3 s1.2.length c4), (14, .int .i64 q0), (15, .int .i64 s1.1)] [boxO 22 g_u0_0 [.slice a_u0 u0.length c_u0], rowT 2 eI64 a_u0 u0.length c_u0 u0, rowT 2 eI64 a3 s1.2.length c4 s1.2] aa ww) (sh69f76_1 q0) hy1 (fun a w h => ⟨a1, 0, h.weak ⟨rfl, rfl, rfl, rfl, rfl, trivial⟩ [0, 1, 2] (by decide) rfl⟩) ?_
  rintro ⟨x5, x6⟩ o1 hres hox1 aa ww ⟨a7, c8, hS⟩
  refine (?_ : JX Go.Proofs.Try.prog w M 64 _ _ [(1, .slice a_1 q1.length c_1), (2, .func (.func 76) #[] #[ptrAt (some ⟨g_u0_0, 0, none⟩) 0]), (7, .slice a7 x6.length c8), (14, .int .i64 q0), (15, .int .i64 x5)] [boxO 22 g_u0_0 [.slice a_u0 u0.length c_u0], rowT 2 eI64 a_u0 u0.length c_u0 u0, rowT 2 eI64 a7 x6.length c8 x6] _) aa ww hS
  clear hS
  simp only [sh69f76_1] at hres
  refine JX.seq ?_
  refine JX.region ?_
  refine JL.val (yl_lss rfl rfl) rfl ?_
  refine JL.nil ?_
  refine JE.code ?_
  refine JX.seq ?_
  rcases cond_some hres with ⟨hb, hres⟩ | ⟨hb, hres⟩
  · refine JX.condT rfl hb ?_
    refine JX.skip ?_
    refine JE.code ?_
    refine JX.seq ?_
    refine JX.block ?_
    refine JX.seq ?_
    refine JX.region ?_
    refine JL.val (yl_move rfl) rfl ?_
    refine JL.val (yl_assign rfl) rfl ?_
    refine JL.nil ?_
    refine JE.code ?_
    refine JX.region ?_
    refine JL.val (yl_move rfl) rfl ?_
    refine JL.val (yl_move rfl) rfl ?_
    refine JL.eff (ef_buildSlice (E := 2) (k := eI64.k) (us := eI64.fl [x5]) rfl (fun w => bsl22_1 x5 w) rfl (by decide)) rfl ?_
    rintro _ _ ⟨a9, rfl, rfl⟩
    obtain ⟨x11, hx11, hres⟩ := bind_some hres
    refine JL.eff (ef_appendT (ix := 2) Go.Proofs.Try.underlying22 i2 i2z i2s rfl i2b0 i2b1 rfl rfl rfl rfl rfl (fun w hC => rd_row hC 3 rfl) hx11) rfl ?_
    rintro _ _ ⟨a12, c13, rfl, rfl⟩
    refine JL.val (yl_assign rfl) rfl ?_
    refine JL.nil ?_
    refine JE.weak (env' := [(1, .slice a_1 q1.length c_1), (2, .func (.func 76) #[] #[ptrAt (some ⟨g_u0_0, 0, none⟩) 0]), (7, .slice a12 x11.length c13), (14, .int .i64 q0), (15, .int .i64 x5)]) (es' := [boxO 22 g_u0_0 [.slice a_u0 u0.length c_u0], rowT 2 eI64 a_u0 u0.length c_u0 u0, rowT 2 eI64 a12 x11.length c13 x11]) [0, 1, 2] ?_ ⟨rfl, rfl, rfl, rfl, rfl, trivial⟩ (by decide) rfl
    refine JE.code ?_
    refine JX.region ?_
    refine JL.val (yl_add rfl rfl) rfl ?_
    refine JL.val (yl_move rfl) rfl ?_
    refine JL.nil ?_
    refine JE.cont hres ?_
    exact fun a w h => ⟨a12, c13, h.weak ⟨rfl, rfl, rfl, rfl, rfl, trivial⟩ [0, 1, 2] (by decide) rfl⟩
  · refine JX.condF rfl hb ?_
    refine JX.exit ?_
    refine JE.qb rfl ?_
    obtain ⟨b1, hb1⟩ : ∃ b : List Int, b = x6 := ⟨_, rfl⟩
    have hy1 : b1 = y1 := by rw [hb1]; exact hox1 _ (Option.some.inj hres).symm
    have hres := hresO1
    rw [← hy1] at hres
    refine JE.weak (env' := [(1, .slice a_1 q1.length c_1), (2, .func (.func 76) #[] #[ptrAt (some ⟨g_u0_0, 0, none⟩) 0]), (7, .slice a7 b1.length c8)]) (es' := [boxO 22 g_u0_0 [.slice a_u0 u0.length c_u0], rowT 2 eI64 a_u0 u0.length c_u0 u0, rowT 2 eI64 a7 b1.length c8 b1]) [0, 1, 2] ?_ ⟨(by subst hb1; rfl), (by subst hb1; rfl), (by subst hb1; rfl), trivial⟩ (by decide) (by subst hb1; rfl)
    refine JE.code ?_
    refine JX.seq ?_
    refine JX.seq ?_
    refine JX.region ?_
    refine JL.val (yl_move rfl) rfl ?_
    refine JL.val (yl_len_slice Go.Proofs.Try.underlying22 rfl) rfl ?_
    refine JL.val (yl_move rfl) rfl ?_
    refine JL.nil ?_
    refine JE.code ?_
    refine JX.block ?_
    obtain ⟨y2, hy2, hresO2⟩ := bind_some hres
    refine JX.loop (I := fun (s2 : Int × List Int × List Int) aa ww => ∃ (a16 : Option Addr) (c17 : Nat) (l18 : s2.2.2.length = b1.length), St w M 64 [(2, .func (.func 76) #[] #[ptrAt (some ⟨g_u0_0, 0, none⟩) 0]), (7, .slice a7 b1.length c8), (23, .slice a_1 q1.length c_1), (24, .int .i64 (q1.length : Int)), (25, .int .i64 s2.1)] [boxO 22 g_u0_0 [.slice a16 s2.2.1.length c17], rowT 2 eI64 a16 s2.2.1.length c17 s2.2.1, rowT 2 eI64 a7 b1.length c8 s2.2.2] aa ww) (sh69f76_2 q1) hy2 (fun a w h => ⟨a_u0, c_u0, rfl, h.weak ⟨rfl, rfl, rfl, rfl, rfl, trivial⟩ [0, 1, 2] (by decide) rfl⟩) ?_
    rintro ⟨x19, x20, x21⟩ o2 hres hox2 aa ww ⟨a22, c23, l24, hS⟩
    refine (?_ : JX Go.Proofs.Try.prog w M 64 _ _ [(2, .func (.func 76) #[] #[ptrAt (some ⟨g_u0_0, 0, none⟩) 0]), (7, .slice a7 b1.length c8), (23, .slice a_1 q1.length c_1), (24, .int .i64 (q1.length : Int)), (25, .int .i64 x19)] [boxO 22 g_u0_0 [.slice a22 x20.length c23], rowT 2 eI64 a22 x20.length c23 x20, rowT 2 eI64 a7 b1.length c8 x21] _) aa ww hS
    clear hS
    simp only [sh69f76_2] at hres
    refine JX.seq ?_
    refine JX.region ?_
    refine JL.val (yl_lss rfl rfl) rfl ?_
    refine JL.nil ?_
    refine JE.code ?_
    refine JX.seq ?_
    rcases cond_some hres with ⟨hb, hres⟩ | ⟨hb, hres⟩
    · refine JX.condT rfl hb ?_
      refine JX.skip ?_
      refine JE.code ?_
      refine JX.seq ?_
      refine JX.block ?_
      refine JX.seq ?_
      refine JX.region ?_
      obtain ⟨x25, hx25, hres⟩ := bind_some hres
      refine JL.val (yl_idxT Go.Proofs.Try.underlying22 i2 i2s rfl rfl hx25 rfl (fun w hC => rd_argS g_1 hC)) rfl ?_
      refine JL.val (yl_loadT0 Go.Proofs.Try.underlying2 rfl rfl hx25 (fun w hC => rd_argS g_1 hC) rfl) rfl ?_
      refine JL.val (yl_assign rfl) rfl ?_
      refine JL.nil ?_
      refine JE.code ?_
      refine JX.seq ?_
      refine JX.region ?_
      refine JL.val (yl_move rfl) rfl ?_
      obtain ⟨x26, hx26, hres⟩ := bind_some hres
      refine JL.eff (ef_call (T := T87 x26) Go.Proofs.Try.func87 rfl (by kernel_rfl) rfl (fun w hC => c87  hx26)) rfl ?_
      rintro _ _ ⟨_, ⟨rfl, rfl⟩, rfl⟩
      refine JL.val (yl_assign rfl) rfl ?_
      refine JL.nil ?_
      refine JE.code ?_
      refine JX.seq ?_
      refine JX.region ?_
      refine JL.val (yl_move rfl) rfl ?_
      refine JL.val (yl_move rfl) rfl ?_
      refine JL.val (yl_sub rfl rfl) rfl ?_
      obtain ⟨x27, hx27, hres⟩ := bind_some hres
      refine JL.val (yl_idxT Go.Proofs.Try.underlying22 i2 i2s rfl rfl hx27 l24 (fun w hC => rd_row hC 2 rfl)) rfl ?_
      refine JL.val (yl_loadT0 Go.Proofs.Try.underlying2 rfl rfl hx27 (fun w hC => rd_row hC 2 rfl) rfl) rfl ?_
      refine JL.val (yl_assign rfl) rfl ?_
      refine JL.nil ?_
      refine JE.weak (env' := [(2, .func (.func 76) #[] #[ptrAt (some ⟨g_u0_0, 0, none⟩) 0]), (7, .slice a7 b1.length c8), (10, .int .i64 x25), (11, .int .i64 x26), (12, .int .i64 x27), (23, .slice a_1 q1.length c_1), (24, .int .i64 (q1.length : Int)), (25, .int .i64 x19)]) (es' := [boxO 22 g_u0_0 [.slice a22 x20.length c23], rowT 2 eI64 a22 x20.length c23 x20, rowT 2 eI64 a7 b1.length c8 x21]) [0, 1, 2] ?_ ⟨rfl, rfl, rfl, rfl, rfl, rfl, rfl, rfl, trivial⟩ (by decide) rfl
      refine JE.code ?_
      refine JX.seq ?_
      refine JX.seq ?_
      refine JX.region ?_
      refine JL.val (yl_move rfl) rfl ?_
      refine JL.val (yl_lss rfl rfl) rfl ?_
      refine JL.nil ?_
      refine JE.code ?_
      obtain ⟨j28, hj28, hresj28⟩ := bind_some hres
      refine JX.cut (K := fun J => J [(2, .func (.func 76) #[] #[ptrAt (some ⟨g_u0_0, 0, none⟩) 0]), (7, .slice a7 b1.length c8), (11, .int .i64 x26), (12, .int .i64 j28), (23, .slice a_1 q1.length c_1), (24, .int .i64 (q1.length : Int)), (25, .int .i64 x19)] [boxO 22 g_u0_0 [.slice a22 x20.length c23], rowT 2 eI64 a22 x20.length c23 x20, rowT 2 eI64 a7 b1.length c8 x21]) ?_ ?_
      · have hres := hresj28
        refine JE.code ?_
        refine JX.seq ?_
        refine JX.drawH [(0, .pure), (1, .pure), (2, .pure), (3, .pure), (4, .pure), (5, .pure), (6, .pure), (7, .pure), (8, .read0), (9, .pure), (10, .pure), (11, .pure), (12, .pure), (13, .read0), (14, .pure), (15, .must), (16, .pure), (17, .must)] [15, 17] [2] [0, 1] [rowT 2 eI64 a7 b1.length c8 x21] [boxO 22 g_u0_0 [.slice a22 x20.length c23], rowT 2 eI64 a22 x20.length c23 x20] mixedP rfl (by kernel_rfl) (by decide) rfl rfl ?_
        intro wrr29 Nr29 hFr29
        refine JH.pure rfl (yl_move rfl) rfl ?_
        refine JH.pure rfl (yl_move rfl) rfl ?_
        refine JH.pure rfl (yl_sub rfl rfl) rfl ?_
        refine JH.pure rfl (yl_move rfl) rfl ?_
        refine JH.pure rfl (yl_move rfl) rfl ?_
        refine JH.pure rfl (yl_move rfl) rfl ?_
        refine JH.pure rfl (yl_move rfl) rfl ?_
        obtain ⟨x30, hx30, hres⟩ := bind_some hres
        refine JH.pure rfl (yl_idxQ Go.Proofs.Try.underlying22 i2 i2s rfl rfl hx30 l24 (rd_row hFr29.cl 2 rfl) l24) rfl ?_
        refine JH.read0 rfl (yl_loadT0 Go.Proofs.Try.underlying2 rfl rfl hx30 (fun w hw => (rd_row hFr29.cl 2 rfl).bw hw) rfl) rfl ?_
        refine JH.pure rfl (yl_move rfl) rfl ?_
        refine JH.pure rfl (yl_move rfl) rfl ?_
        refine JH.pure rfl (yl_sub rfl rfl) rfl ?_
        obtain ⟨x31, hx31, hres⟩ := bind_some hres
        refine JH.pure rfl (yl_idxQ Go.Proofs.Try.underlying22 i2 i2s rfl rfl hx31 l24 (rd_row hFr29.cl 2 rfl) l24) rfl ?_
        refine JH.read0 rfl (yl_loadT0 Go.Proofs.Try.underlying2 rfl rfl hx31 (fun w hw => (rd_row hFr29.cl 2 rfl).bw hw) rfl) rfl ?_
        obtain ⟨x32, hx32, hres⟩ := bind_some hres
        refine JH.pure rfl (yl_idxQ Go.Proofs.Try.underlying22 i2 i2s rfl rfl hx32 l24 (rd_row hFr29.cl 2 rfl) l24) rfl ?_
        refine JH.must rfl (ef_storeT (ix := 0) (u := x30) i2 i2s rfl rfl rfl hx32 rfl) rfl rfl ?_
        rintro _ _ rfl
        obtain ⟨x33, hx33, hres⟩ := bind_some hres
        refine JH.pure rfl (yl_idxQ Go.Proofs.Try.underlying22 i2 i2s rfl rfl hx33 (List.length_set.trans l24) (rd_row hFr29.cl 2 rfl) l24) rfl ?_
        refine JH.must rfl (ef_storeT (ix := 0) (u := x31) i2 i2s rfl rfl rfl hx33 rfl) rfl rfl ?_
        rintro _ _ rfl
        refine JH.nil ?_
        refine JE.weak (env' := [(2, .func (.func 76) #[] #[ptrAt (some ⟨g_u0_0, 0, none⟩) 0]), (7, .slice a7 b1.length c8), (12, .int .i64 j28), (23, .slice a_1 q1.length c_1), (24, .int .i64 (q1.length : Int)), (25, .int .i64 x19)]) (es' := [boxO 22 g_u0_0 [.slice a22 x20.length c23], rowT 2 eI64 a22 x20.length c23 x20, rowT 2 eI64 a7 b1.length c8 ((x21.set (w64 (x26 - 1)).toNat x30).set (x26).toNat x31)]) [0, 1, 2] ?_ ⟨rfl, rfl, rfl, rfl, rfl, rfl, trivial⟩ (by decide) rfl
        refine JE.code ?_
        refine JX.region ?_
        refine JL.val (yl_move rfl) rfl ?_
        refine JL.val (yl_move rfl) rfl ?_
        refine JL.val (yl_move rfl) rfl ?_
        obtain ⟨x34, hx34, hres⟩ := bind_some hres
        refine JL.eff (ef_callms (caps := [ptrAt (some ⟨g_u0_0, 0, none⟩) 0]) (vs := [.slice a7 b1.length c8, .int .i64 j28]) (T := T76 g_u0_0 x34) [0, 1] [2] [boxO 22 g_u0_0 [.slice a22 x20.length c23], rowT 2 eI64 a22 x20.length c23 x20] [rowT 2 eI64 a7 b1.length c8 ((x21.set (w64 (x26 - 1)).toNat x30).set (x26).toNat x31)] rfl Go.Proofs.Try.func76 rfl (by kernel_rfl) rfl (by decide) rfl rfl (fun w N hF hS => c76  (RdS.row hF 2 rfl rfl) (List.length_set.trans (List.length_set.trans l24)) (ln_row hF.cl 2 rfl) rfl hS hx34)) rfl ?_
        rintro _ _ ⟨_, _, ⟨a35, _, c36, rfl, rfl, rfl, rfl⟩, rfl⟩
        refine JL.nil ?_
        refine JE.weak (env' := [(2, .func (.func 76) #[] #[ptrAt (some ⟨g_u0_0, 0, none⟩) 0]), (7, .slice a7 b1.length c8), (23, .slice a_1 q1.length c_1), (24, .int .i64 (q1.length : Int)), (25, .int .i64 x19)]) (es' := [boxO 22 g_u0_0 [.slice a35 x34.length c36], rowT 2 eI64 a35 x34.length c36 x34, rowT 2 eI64 a7 b1.length c8 ((x21.set (w64 (x26 - 1)).toNat x30).set (x26).toNat x31)]) [1, 2, 0] ?_ ⟨rfl, rfl, rfl, rfl, rfl, trivial⟩ (by decide) rfl
        refine JE.code ?_
        refine JX.region ?_
        refine JL.val (yl_add rfl rfl) rfl ?_
        refine JL.val (yl_move rfl) rfl ?_
        refine JL.nil ?_
        refine JE.cont hres ?_
        exact fun a w h => ⟨a35, c36, (List.length_set.trans (List.length_set.trans l24)), h.weak ⟨rfl, rfl, rfl, rfl, rfl, trivial⟩ [0, 1, 2] (by decide) rfl⟩
      · intro K
        rcases cond_some hj28 with ⟨hb, hres⟩ | ⟨hb, hres⟩
        · refine JX.condT rfl hb ?_
          refine JX.region ?_
          refine JL.val (yl_move rfl) rfl ?_
          refine JL.val (yl_move rfl) rfl ?_
          obtain ⟨x37, hx37, hres⟩ := bind_some hres
          refine JL.val (yl_idxT Go.Proofs.Try.underlying22 i2 i2s rfl rfl hx37 l24 (fun w hC => rd_row hC 2 rfl)) rfl ?_
          refine JL.val (yl_loadT0 Go.Proofs.Try.underlying2 rfl rfl hx37 (fun w hC => rd_row hC 2 rfl) rfl) rfl ?_
          refine JL.val (yl_assign rfl) rfl ?_
          refine JL.nil ?_
          refine JE.weak (env' := [(2, .func (.func 76) #[] #[ptrAt (some ⟨g_u0_0, 0, none⟩) 0]), (7, .slice a7 b1.length c8), (11, .int .i64 x26), (12, .int .i64 x37), (23, .slice a_1 q1.length c_1), (24, .int .i64 (q1.length : Int)), (25, .int .i64 x19)]) (es' := [boxO 22 g_u0_0 [.slice a22 x20.length c23], rowT 2 eI64 a22 x20.length c23 x20, rowT 2 eI64 a7 b1.length c8 x21]) [0, 1, 2] ?_ ⟨rfl, rfl, rfl, rfl, rfl, rfl, rfl, trivial⟩ (by decide) rfl
          have hj := Option.some.inj hres
          exact JE.weak [0, 1, 2] (K) ⟨(by subst hj; rfl), (by subst hj; rfl), (by subst hj; rfl), (by subst hj; rfl), (by subst hj; rfl), (by subst hj; rfl), (by subst hj; rfl), trivial⟩ (by decide) (by subst hj; rfl)
        · refine JX.condF rfl hb ?_
          refine JX.skip ?_
          have hj := Option.some.inj hres
          exact JE.weak [0, 1, 2] (K) ⟨(by subst hj; rfl), (by subst hj; rfl), (by subst hj; rfl), (by subst hj; rfl), (by subst hj; rfl), (by subst hj; rfl), (by subst hj; rfl), trivial⟩ (by decide) (by subst hj; rfl)
    · refine JX.condF rfl hb ?_
      refine JX.exit ?_
      refine JE.qb rfl ?_
      obtain ⟨b2, hb2⟩ : ∃ b : List Int × List Int, b = (x20, x21) := ⟨_, rfl⟩
      have hy2 : b2 = y2 := by rw [hb2]; exact hox2 _ (Option.some.inj hres).symm
      have hres := hresO2
      rw [← hy2] at hres
      have l40 : b2.2.length = b1.length := by subst hb2; exact l24
      refine JE.weak (env' := [(7, .slice a7 b1.length c8)]) (es' := [boxO 22 g_u0_0 [.slice a22 b2.1.length c23], rowT 2 eI64 a22 b2.1.length c23 b2.1, rowT 2 eI64 a7 b1.length c8 b2.2]) [0, 1, 2] ?_ ⟨(by subst hb2; rfl), trivial⟩ (by decide) (by subst hb2; rfl)
      refine JE.code ?_
      refine JX.seq ?_
      refine JX.region ?_
      refine JL.val (yl_move rfl) rfl ?_
      refine JL.val (yl_assign rfl) rfl ?_
      refine JL.nil ?_
      refine JE.code ?_
      refine JX.ret ?_
      obtain rfl := Option.some.inj hres
      refine JE.ret (rs := [.tmp 6]) (vs := [.slice a7 b1.length c8]) rfl ⟨rfl, trivial⟩ ?_
      exact fun w' hb hs => ⟨_, _, _, ⟨a22, b2.1.length, c23, rfl, rfl, a7, b1.length, c8, l40, rfl, rfl⟩, rfl, hb, hs.sel [0, 1, 2] _ (by decide) rfl⟩

/- impl.OversOf -/
def sh49 (q0 : Int) (q1 : List Int) : Option (List Int × Int) := Option.bind (sh17 q0 q1) fun x1 => bif !x1 then (some (([] : List Int), 1)) else (Option.bind (mkL q0 0) fun x3 => Option.bind (sh69f76 q0 q1 x3) fun x8 => some (x8.2, 0))
def T49 (r : List Int × Int) (v : Value) (rs : List Own) : Prop := ∃ (a0 : Option Addr) (n0 c0 : Nat), r.1.length = n0 ∧ v = rets [.slice a0 n0 c0, .int .i64 r.2] ∧ rs = [rowT 2 eI64 a0 n0 c0 r.1]
set_option maxRecDepth 100000 in
theorem c49 {w : World} {q0 : Int} {q1 : List Int} {a_1 : Option Addr} {n_1 c_1 : Nat} (g_1 : Rd w a_1 (eI64.fl q1)) (l_1 : q1.length = n_1) (k_1 : n_1 ≤ c_1) {r : List Int × Int} (hres : sh49 q0 q1 = some r) : Calls Go.Proofs.Try.prog 49 [.int .i64 q0, .slice a_1 n_1 c_1].toArray w (Ret w (T49 r)) := by
  subst l_1
  unfold sh49 at hres
  refine calls_of (n := 18) (M := []) (es := []) Go.Proofs.Try.func49 rfl rfl rfl (Sep.nil _ _ _) ?_
  refine JX.seq ?_
  refine JX.region ?_
  refine JL.val (yl_assign rfl) rfl ?_
  refine JL.val (yl_assign rfl) rfl ?_
  refine JL.nil ?_
  refine JE.code ?_
  refine JX.seq ?_
  refine JX.seq ?_
  refine JX.region ?_
  refine JL.val (yl_move rfl) rfl ?_
  refine JL.val (yl_move rfl) rfl ?_
  obtain ⟨x1, hx1, hres⟩ := bind_some hres
  refine JL.eff (ef_call (T := T17 x1) Go.Proofs.Try.func17 rfl (by kernel_rfl) rfl (fun w hC => c17 (rd_arg g_1 hC) rfl k_1 hx1)) rfl ?_
  rintro _ _ ⟨_, ⟨rfl, rfl⟩, rfl⟩
  refine JL.val (yl_not rfl) rfl ?_
  refine JL.nil ?_
  refine JE.weak (env' := [(0, .int .i64 q0), (1, .slice a_1 q1.length c_1), (10, .bool !x1)]) (es' := []) [] ?_ ⟨rfl, rfl, rfl, trivial⟩ (by decide) rfl
  refine JE.code ?_
  rcases cond_some hres with ⟨hb, hres⟩ | ⟨hb, hres⟩
  · refine JX.condT rfl hb ?_
    refine JX.seq ?_
    refine JX.region ?_
    refine JL.val (yl_assign rfl) rfl ?_
    refine JL.val (yl_assign rfl) rfl ?_
    refine JL.nil ?_
    refine JE.code ?_
    refine JX.ret ?_
    refine JE.nilrow 2 eI64 ?_
    obtain rfl := Option.some.inj hres
    refine JE.ret (rs := [.tmp 4, .tmp 5]) (vs := [.slice none 0 0, .int .i64 1]) rfl ⟨rfl, rfl, trivial⟩ ?_
    exact fun w' hb hs => ⟨_, _, ⟨none, 0, 0, rfl, rfl, rfl⟩, rfl, hb, hs.sel [0] _ (by decide) rfl⟩
  · refine JX.condF rfl hb ?_
    refine JX.skip ?_
    refine JE.code ?_
    refine JX.seq ?_
    refine JX.region ?_
    refine JL.val (yl_move rfl) rfl ?_
    obtain ⟨x3, hx3, hres⟩ := bind_some hres
    refine JL.eff (ef_makeS (e := eI64) Go.Proofs.Try.underlying22 i2 i2s i2z rfl i2b1 rfl rfl hx3) rfl ?_
    rintro _ _ ⟨a4, rfl, rfl⟩
    refine JL.eff (ef_alloc i22 i22z rfl) rfl ?_
    rintro _ _ ⟨g6, rfl, rfl⟩
    refine JL.eff (ef_store_box (i := 1) (v := .slice a4 x3.length x3.length) i22 rfl rfl rfl (i22s).symm (Nat.le_of_ble_eq_true rfl) (by simp [Value.cells, Value.oneCell'])) rfl ?_
    rintro _ _ rfl
    refine JL.nil ?_
    refine JE.weak (env' := [(0, .int .i64 q0), (1, .slice a_1 q1.length c_1), (6, ptrAt (some ⟨g6, 0, none⟩) 0)]) (es' := [boxO 22 g6 [.slice a4 x3.length x3.length], rowT 2 eI64 a4 x3.length x3.length x3]) [1, 0] ?_ ⟨rfl, rfl, rfl, trivial⟩ (by decide) rfl
    refine JE.code ?_
    refine JX.seq ?_
    refine JX.region ?_
    refine JL.val (yl_move rfl) rfl ?_
    refine JL.val (yl_move rfl) rfl ?_
    refine JL.val (yl_func rfl) rfl ?_
    obtain ⟨x8, hx8, hres⟩ := bind_some hres
    refine JL.eff (ef_callms (caps := []) (vs := [.int .i64 q0, .slice a_1 q1.length c_1, .func (.func 76) #[] #[ptrAt (some ⟨g6, 0, none⟩) 0]]) (T := T69f76 g6 x8) [0, 1] [] [boxO 22 g6 [.slice a4 x3.length x3.length], rowT 2 eI64 a4 x3.length x3.length x3] [] rfl Go.Proofs.Try.func69 rfl (by kernel_rfl) rfl (by decide) rfl rfl (fun w N hF hS => c69f76  (RdS.pass0 hF g_1) rfl k_1 rfl hS hx8)) rfl ?_
    rintro _ _ ⟨_, _, ⟨a9, _, c10, rfl, rfl, a11, _, c12, rfl, rfl, rfl⟩, rfl⟩
    refine JL.nil ?_
    refine JE.weak (env' := [(6, ptrAt (some ⟨g6, 0, none⟩) 0)]) (es' := [boxO 22 g6 [.slice a9 x8.2.length c10], rowT 2 eI64 a9 x8.2.length c10 x8.2]) [0, 1] ?_ ⟨rfl, trivial⟩ (by decide) rfl
    refine JE.code ?_
    refine JX.seq ?_
    refine JX.region ?_
    refine JL.val (yl_load1 Go.Proofs.Try.underlying22 rfl rfl (fun w hC => rd_box hC 0 rfl) rfl) rfl ?_
    refine JL.val (yl_assign rfl) rfl ?_
    refine JL.val (yl_assign rfl) rfl ?_
    refine JL.nil ?_
    refine JE.weak (env' := [(4, .slice a9 x8.2.length c10), (5, .int .i64 0)]) (es' := [rowT 2 eI64 a9 x8.2.length c10 x8.2]) [1] ?_ ⟨rfl, rfl, trivial⟩ (by decide) rfl
    refine JE.code ?_
    refine JX.ret ?_
    obtain rfl := Option.some.inj hres
    refine JE.ret (rs := [.tmp 4, .tmp 5]) (vs := [.slice a9 x8.2.length c10, .int .i64 0]) rfl ⟨rfl, rfl, trivial⟩ ?_
    exact fun w' hb hs => ⟨_, _, ⟨a9, x8.2.length, c10, rfl, rfl, rfl⟩, rfl, hb, hs.sel [0] _ (by decide) rfl⟩

/- laws.FnExactOversOf -/
def sh14 (q0 : Int) (q1 : List Int) : Option (Bool) := bif decide (1048576 < (q1.length : Int)) then (some true) else (Option.bind (sh16 q1) fun x1 => Option.bind (sh48 q0 x1) fun x5 => Option.bind (sh16 q1) fun x9 => Option.bind (sh49 q0 x9) fun x13 => Option.bind (sh18 x13.1 x5.1) fun x17 => bif !x17 || (x13.2 != x5.2) then (some false) else (Option.bind (sh16 q1) fun x18 => Option.bind (sh18 x9 x18) fun x22 => bif !x22 then (some false) else (Option.bind (sh21 x9 1) fun x23 => Option.bind (bif decide (x23.1 < 0) then (some true) else (Option.bind (sh18 x13.1 x5.1) fun x26 => some !x26)) fun c25 => (bif c25 || (x13.2 != x5.2) then (some false) else (Option.bind (sh21 x13.1 1) fun x27 => Option.bind (sh22 x27.2 1) fun x29 => bif decide (x29 < 0) then (some false) else (bif x29 != x27.1 then (some false) else (Option.bind (sh16 q1) fun x30 => Option.bind (sh49 q0 x30) fun x34 => Option.bind (sh18 x34.1 x5.1) fun x38 => bif !x38 || (x34.2 != x5.2) then (some false) else (Option.bind (sh22 x27.2 1) fun x39 => bif decide (x39 < 0) then (some false) else (bif x39 != x27.1 then (some false) else (some true))))))))))
def T14 (r : Bool) (v : Value) (rs : List Own) : Prop := v = rets [.bool r] ∧ rs = []
set_option maxRecDepth 100000 in
theorem c14 {w : World} {q0 : Int} {q1 : List Int} {a_1 : Option Addr} {n_1 c_1 : Nat} (g_1 : Rd w a_1 (eI64.fl q1)) (l_1 : q1.length = n_1) (k_1 : n_1 ≤ c_1) {r : Bool} (hres : sh14 q0 q1 = some r) : Calls Go.Proofs.Try.prog 14 [.int .i64 q0, .slice a_1 n_1 c_1].toArray w (Ret w (T14 r)) := by
  subst l_1
  unfold sh14 at hres
  refine calls_of (n := 98) (M := []) (es := []) Go.Proofs.Try.func14 rfl rfl rfl (Sep.nil _ _ _) ?_
  refine JX.seq ?_
  refine JX.region ?_
  refine JL.val (yl_assign rfl) rfl ?_
  refine JL.nil ?_
  refine JE.code ?_
  refine JX.seq ?_
  refine JX.seq ?_
  refine JX.region ?_
  refine JL.val (yl_move rfl) rfl ?_
  refine JL.val (yl_len_slice Go.Proofs.Try.underlying22 rfl) rfl ?_
  refine JL.val (yl_gtr rfl rfl) rfl ?_
  refine JL.nil ?_
  refine JE.code ?_
  rcases cond_some hres with ⟨hb, hres⟩ | ⟨hb, hres⟩
  · refine JX.condT rfl hb ?_
    refine JX.seq ?_
    refine JX.region ?_
    refine JL.val (yl_assign rfl) rfl ?_
    refine JL.nil ?_
    refine JE.code ?_
    refine JX.ret ?_
    obtain rfl := Option.some.inj hres
    refine JE.ret (rs := [.tmp 4]) (vs := [.bool true]) rfl ⟨rfl, trivial⟩ ?_
    exact fun w' hb hs => ⟨_, _, ⟨rfl, rfl⟩, rfl, hb, hs.sel [] _ (by decide) rfl⟩
  · refine JX.condF rfl hb ?_
    refine JX.skip ?_
    refine JE.code ?_
    refine JX.seq ?_
    refine JX.region ?_
    refine JL.val (yl_move rfl) rfl ?_
    refine JL.val (yl_move rfl) rfl ?_
    obtain ⟨x1, hx1, hres⟩ := bind_some hres
    refine JL.eff (ef_call (T := T16 x1) Go.Proofs.Try.func16 rfl (by kernel_rfl) rfl (fun w hC => c16 (rd_arg g_1 hC) rfl k_1 hx1)) rfl ?_
    rintro _ _ ⟨_, ⟨a2, _, c3, rfl, rfl, rfl⟩, rfl⟩
    obtain ⟨x5, hx5, hres⟩ := bind_some hres
    refine JL.eff (ef_call (T := T48 x5) Go.Proofs.Try.func48 rfl (by kernel_rfl) rfl (fun w hC => c48 (rd_row hC 0 rfl) rfl (ln_row hC 0 rfl) hx5)) rfl ?_
    rintro _ _ ⟨_, ⟨a6, _, c7, rfl, rfl, rfl⟩, rfl⟩
    refine JL.val (yl_move rfl) rfl ?_
    refine JL.val (yl_extract rfl rfl) rfl ?_
    refine JL.val (yl_extract rfl rfl) rfl ?_
    refine JL.val (yl_assign rfl) rfl ?_
    refine JL.val (yl_assign rfl) rfl ?_
    refine JL.nil ?_
    refine JE.weak (env' := [(0, .int .i64 q0), (1, .slice a_1 q1.length c_1), (5, .slice a6 x5.1.length c7), (6, .int .i64 x5.2)]) (es' := [rowT 2 eI64 a6 x5.1.length c7 x5.1]) [1] ?_ ⟨rfl, rfl, rfl, rfl, trivial⟩ (by decide) rfl
    refine JE.code ?_
    refine JX.seq ?_
    refine JX.region ?_
    refine JL.val (yl_move rfl) rfl ?_
    obtain ⟨x9, hx9, hres⟩ := bind_some hres
    refine JL.eff (ef_call (T := T16 x9) Go.Proofs.Try.func16 rfl (by kernel_rfl) rfl (fun w hC => c16 (rd_arg g_1 hC) rfl k_1 hx9)) rfl ?_
    rintro _ _ ⟨_, ⟨a10, _, c11, rfl, rfl, rfl⟩, rfl⟩
    refine JL.val (yl_assign rfl) rfl ?_
    refine JL.nil ?_
    refine JE.code ?_
    refine JX.seq ?_
    refine JX.region ?_
    refine JL.val (yl_move rfl) rfl ?_
    refine JL.val (yl_move rfl) rfl ?_
    obtain ⟨x13, hx13, hres⟩ := bind_some hres
    refine JL.eff (ef_call (T := T49 x13) Go.Proofs.Try.func49 rfl (by kernel_rfl) rfl (fun w hC => c49 (rd_row hC 1 rfl) rfl (ln_row hC 1 rfl) hx13)) rfl ?_
    rintro _ _ ⟨_, ⟨a14, _, c15, rfl, rfl, rfl⟩, rfl⟩
    refine JL.val (yl_move rfl) rfl ?_
    refine JL.val (yl_extract rfl rfl) rfl ?_
    refine JL.val (yl_extract rfl rfl) rfl ?_
    refine JL.val (yl_assign rfl) rfl ?_
    refine JL.val (yl_assign rfl) rfl ?_
    refine JL.nil ?_
    refine JE.weak (env' := [(0, .int .i64 q0), (1, .slice a_1 q1.length c_1), (5, .slice a6 x5.1.length c7), (6, .int .i64 x5.2), (7, .slice a10 x9.length c11), (8, .slice a14 x13.1.length c15), (9, .int .i64 x13.2)]) (es' := [rowT 2 eI64 a6 x5.1.length c7 x5.1, rowT 2 eI64 a10 x9.length c11 x9, rowT 2 eI64 a14 x13.1.length c15 x13.1]) [0, 1, 2] ?_ ⟨rfl, rfl, rfl, rfl, rfl, rfl, rfl, trivial⟩ (by decide) rfl
    refine JE.code ?_
    refine JX.seq ?_
    refine JX.seq ?_
    refine JX.region ?_
    refine JL.val (yl_move rfl) rfl ?_
    refine JL.val (yl_move rfl) rfl ?_
    obtain ⟨x17, hx17, hres⟩ := bind_some hres
    refine JL.eff (ef_call (T := T18 x17) Go.Proofs.Try.func18 rfl (by kernel_rfl) rfl (fun w hC => c18 (rd_row hC 2 rfl) rfl (ln_row hC 2 rfl) (rd_row hC 0 rfl) rfl (ln_row hC 0 rfl) hx17)) rfl ?_
    rintro _ _ ⟨_, ⟨rfl, rfl⟩, rfl⟩
    refine JL.val (yl_not rfl) rfl ?_
    refine JL.val (yl_move rfl) rfl ?_
    refine JL.cut (K := fun J => J [(0, .int .i64 q0), (1, .slice a_1 q1.length c_1), (5, .slice a6 x5.1.length c7), (6, .int .i64 x5.2), (7, .slice a10 x9.length c11), (8, .slice a14 x13.1.length c15), (9, .int .i64 x13.2), (41, .bool (!x17 || (x13.2 != x5.2)))] [rowT 2 eI64 a6 x5.1.length c7 x5.1, rowT 2 eI64 a10 x9.length c11 x9, rowT 2 eI64 a14 x13.1.length c15 x13.1]) 4 ?_ ?_
    · refine JL.nil ?_
      refine JE.weak (env' := [(0, .int .i64 q0), (1, .slice a_1 q1.length c_1), (5, .slice a6 x5.1.length c7), (6, .int .i64 x5.2), (7, .slice a10 x9.length c11), (8, .slice a14 x13.1.length c15), (9, .int .i64 x13.2), (41, .bool (!x17 || (x13.2 != x5.2)))]) (es' := [rowT 2 eI64 a6 x5.1.length c7 x5.1, rowT 2 eI64 a10 x9.length c11 x9, rowT 2 eI64 a14 x13.1.length c15 x13.1]) [0, 1, 2] ?_ ⟨rfl, rfl, rfl, rfl, rfl, rfl, rfl, rfl, trivial⟩ (by decide) rfl
      refine JE.code ?_
      rcases cond_some hres with ⟨hb, hres⟩ | ⟨hb, hres⟩
      · refine JX.condT rfl hb ?_
        refine JX.seq ?_
        refine JX.region ?_
        refine JL.val (yl_assign rfl) rfl ?_
        refine JL.nil ?_
        refine JE.weak (env' := [(4, .bool false)]) (es' := []) [] ?_ ⟨rfl, trivial⟩ (by decide) rfl
        refine JE.code ?_
        refine JX.ret ?_
        obtain rfl := Option.some.inj hres
        refine JE.ret (rs := [.tmp 4]) (vs := [.bool false]) rfl ⟨rfl, trivial⟩ ?_
        exact fun w' hb hs => ⟨_, _, ⟨rfl, rfl⟩, rfl, hb, hs.sel [] _ (by decide) rfl⟩
      · refine JX.condF rfl hb ?_
        refine JX.skip ?_
        refine JE.code ?_
        refine JX.seq ?_
        refine JX.seq ?_
        refine JX.region ?_
        refine JL.val (yl_move rfl) rfl ?_
        refine JL.val (yl_move rfl) rfl ?_
        obtain ⟨x18, hx18, hres⟩ := bind_some hres
        refine JL.eff (ef_call (T := T16 x18) Go.Proofs.Try.func16 rfl (by kernel_rfl) rfl (fun w hC => c16 (rd_arg g_1 hC) rfl k_1 hx18)) rfl ?_
        rintro _ _ ⟨_, ⟨a19, _, c20, rfl, rfl, rfl⟩, rfl⟩
        obtain ⟨x22, hx22, hres⟩ := bind_some hres
        refine JL.eff (ef_call (T := T18 x22) Go.Proofs.Try.func18 rfl (by kernel_rfl) rfl (fun w hC => c18 (rd_row hC 1 rfl) rfl (ln_row hC 1 rfl) (rd_row hC 3 rfl) rfl (ln_row hC 3 rfl) hx22)) rfl ?_
        rintro _ _ ⟨_, ⟨rfl, rfl⟩, rfl⟩
        refine JL.val (yl_not rfl) rfl ?_
        refine JL.nil ?_
        refine JE.weak (env' := [(0, .int .i64 q0), (1, .slice a_1 q1.length c_1), (5, .slice a6 x5.1.length c7), (6, .int .i64 x5.2), (7, .slice a10 x9.length c11), (8, .slice a14 x13.1.length c15), (9, .int .i64 x13.2), (46, .bool !x22)]) (es' := [rowT 2 eI64 a6 x5.1.length c7 x5.1, rowT 2 eI64 a10 x9.length c11 x9, rowT 2 eI64 a14 x13.1.length c15 x13.1]) [0, 1, 2] ?_ ⟨rfl, rfl, rfl, rfl, rfl, rfl, rfl, rfl, trivial⟩ (by decide) rfl
        refine JE.code ?_
        rcases cond_some hres with ⟨hb, hres⟩ | ⟨hb, hres⟩
        · refine JX.condT rfl hb ?_
          refine JX.seq ?_
          refine JX.region ?_
          refine JL.val (yl_assign rfl) rfl ?_
          refine JL.nil ?_
          refine JE.weak (env' := [(4, .bool false)]) (es' := []) [] ?_ ⟨rfl, trivial⟩ (by decide) rfl
          refine JE.code ?_
          refine JX.ret ?_
          obtain rfl := Option.some.inj hres
          refine JE.ret (rs := [.tmp 4]) (vs := [.bool false]) rfl ⟨rfl, trivial⟩ ?_
          exact fun w' hb hs => ⟨_, _, ⟨rfl, rfl⟩, rfl, hb, hs.sel [] _ (by decide) rfl⟩
        · refine JX.condF rfl hb ?_
          refine JX.skip ?_
          refine JE.code ?_
          refine JX.seq ?_
          refine JX.region ?_
          refine JL.val (yl_assign rfl) rfl ?_
          refine JL.nil ?_
          refine JE.code ?_
          refine JX.seq ?_
          refine JX.region ?_
          refine JL.val (yl_move rfl) rfl ?_
          refine JL.val (yl_move rfl) rfl ?_
          obtain ⟨x23, hx23, hres⟩ := bind_some hres
          refine JL.eff (ef_callm (T := T21 a10 x9.length c11 x23) 1 Go.Proofs.Try.func21 rfl (by kernel_rfl) rfl rfl (fun w fp hs => c21 hs rfl hx23)) rfl ?_
          rintro _ _ ⟨_, _, ⟨l24, rfl, rfl, rfl⟩, rfl⟩
          refine JL.val (yl_assign rfl) rfl ?_
          refine JL.nil ?_
          refine JE.weak (env' := [(0, .int .i64 q0), (1, .slice a_1 q1.length c_1), (5, .slice a6 x5.1.length c7), (6, .int .i64 x5.2), (8, .slice a14 x13.1.length c15), (9, .int .i64 x13.2), (10, .int .i64 x23.1)]) (es' := [rowT 2 eI64 a6 x5.1.length c7 x5.1, rowT 2 eI64 a14 x13.1.length c15 x13.1]) [0, 2] ?_ ⟨rfl, rfl, rfl, rfl, rfl, rfl, rfl, trivial⟩ (by decide) rfl
          refine JE.code ?_
          refine JX.seq ?_
          refine JX.seq ?_
          refine JX.region ?_
          refine JL.val (yl_move rfl) rfl ?_
          refine JL.val (yl_lss rfl rfl) rfl ?_
          refine JL.val (yl_move rfl) rfl ?_
          obtain ⟨c25, hc25, hres⟩ := bind_some hres
          refine JL.cut (K := fun J => J [(0, .int .i64 q0), (1, .slice a_1 q1.length c_1), (5, .slice a6 x5.1.length c7), (6, .int .i64 x5.2), (8, .slice a14 x13.1.length c15), (9, .int .i64 x13.2), (57, .bool c25)] [rowT 2 eI64 a6 x5.1.length c7 x5.1, rowT 2 eI64 a14 x13.1.length c15 x13.1]) 5 ?_ ?_
          · refine JL.val (yl_move rfl) rfl ?_
            refine JL.cut (K := fun J => J [(0, .int .i64 q0), (1, .slice a_1 q1.length c_1), (5, .slice a6 x5.1.length c7), (6, .int .i64 x5.2), (8, .slice a14 x13.1.length c15), (62, .bool (c25 || (x13.2 != x5.2)))] [rowT 2 eI64 a6 x5.1.length c7 x5.1, rowT 2 eI64 a14 x13.1.length c15 x13.1]) 4 ?_ ?_
            · refine JL.nil ?_
              refine JE.weak (env' := [(0, .int .i64 q0), (1, .slice a_1 q1.length c_1), (5, .slice a6 x5.1.length c7), (6, .int .i64 x5.2), (8, .slice a14 x13.1.length c15), (62, .bool (c25 || (x13.2 != x5.2)))]) (es' := [rowT 2 eI64 a6 x5.1.length c7 x5.1, rowT 2 eI64 a14 x13.1.length c15 x13.1]) [0, 1] ?_ ⟨rfl, rfl, rfl, rfl, rfl, rfl, trivial⟩ (by decide) rfl
              refine JE.code ?_
              rcases cond_some hres with ⟨hb, hres⟩ | ⟨hb, hres⟩
              · refine JX.condT rfl hb ?_
                refine JX.seq ?_
                refine JX.region ?_
                refine JL.val (yl_assign rfl) rfl ?_
                refine JL.nil ?_
                refine JE.weak (env' := [(4, .bool false)]) (es' := []) [] ?_ ⟨rfl, trivial⟩ (by decide) rfl
                refine JE.code ?_
                refine JX.ret ?_
                obtain rfl := Option.some.inj hres
                refine JE.ret (rs := [.tmp 4]) (vs := [.bool false]) rfl ⟨rfl, trivial⟩ ?_
                exact fun w' hb hs => ⟨_, _, ⟨rfl, rfl⟩, rfl, hb, hs.sel [] _ (by decide) rfl⟩
              · refine JX.condF rfl hb ?_
                refine JX.skip ?_
                refine JE.code ?_
                refine JX.seq ?_
                refine JX.region ?_
                refine JL.val (yl_assign rfl) rfl ?_
                refine JL.nil ?_
                refine JE.code ?_
                refine JX.seq ?_
                refine JX.region ?_
                refine JL.val (yl_move rfl) rfl ?_
                refine JL.val (yl_move rfl) rfl ?_
                obtain ⟨x27, hx27, hres⟩ := bind_some hres
                refine JL.eff (ef_callm (T := T21 a14 x13.1.length c15 x27) 1 Go.Proofs.Try.func21 rfl (by kernel_rfl) rfl rfl (fun w fp hs => c21 hs rfl hx27)) rfl ?_
                rintro _ _ ⟨_, _, ⟨l28, rfl, rfl, rfl⟩, rfl⟩
                refine JL.val (yl_assign rfl) rfl ?_
                refine JL.nil ?_
                refine JE.weak (env' := [(0, .int .i64 q0), (1, .slice a_1 q1.length c_1), (5, .slice a6 x5.1.length c7), (6, .int .i64 x5.2), (8, .slice a14 x13.1.length c15), (11, .int .i64 x27.1)]) (es' := [rowT 2 eI64 a6 x5.1.length c7 x5.1, rowT 2 eI64 a14 x13.1.length c15 x27.2]) [0, 1] ?_ ⟨rfl, rfl, rfl, rfl, rfl, rfl, trivial⟩ (by decide) rfl
                refine JE.code ?_
                refine JX.seq ?_
                refine JX.region ?_
                refine JL.val (yl_assign rfl) rfl ?_
                refine JL.nil ?_
                refine JE.code ?_
                refine JX.seq ?_
                refine JX.region ?_
                refine JL.val (yl_move rfl) rfl ?_
                refine JL.val (yl_move rfl) rfl ?_
                obtain ⟨x29, hx29, hres⟩ := bind_some hres
                refine JL.eff (ef_call (T := T22 x29) Go.Proofs.Try.func22 rfl (by kernel_rfl) rfl (fun w hC => c22 (rd_row hC 1 rfl) l28 (ln_row hC 1 rfl) hx29)) rfl ?_
                rintro _ _ ⟨_, ⟨rfl, rfl⟩, rfl⟩
                refine JL.val (yl_assign rfl) rfl ?_
                refine JL.nil ?_
                refine JE.weak (env' := [(0, .int .i64 q0), (1, .slice a_1 q1.length c_1), (5, .slice a6 x5.1.length c7), (6, .int .i64 x5.2), (8, .slice a14 x13.1.length c15), (11, .int .i64 x27.1), (12, .int .i64 x29)]) (es' := [rowT 2 eI64 a6 x5.1.length c7 x5.1, rowT 2 eI64 a14 x13.1.length c15 x27.2]) [0, 1] ?_ ⟨rfl, rfl, rfl, rfl, rfl, rfl, rfl, trivial⟩ (by decide) rfl
                refine JE.code ?_
                refine JX.seq ?_
                refine JX.seq ?_
                refine JX.region ?_
                refine JL.val (yl_move rfl) rfl ?_
                refine JL.val (yl_lss rfl rfl) rfl ?_
                refine JL.nil ?_
                refine JE.code ?_
                rcases cond_some hres with ⟨hb, hres⟩ | ⟨hb, hres⟩
                · refine JX.condT rfl hb ?_
                  refine JX.seq ?_
                  refine JX.region ?_
                  refine JL.val (yl_assign rfl) rfl ?_
                  refine JL.nil ?_
                  refine JE.weak (env' := [(4, .bool false)]) (es' := []) [] ?_ ⟨rfl, trivial⟩ (by decide) rfl
                  refine JE.code ?_
                  refine JX.ret ?_
                  obtain rfl := Option.some.inj hres
                  refine JE.ret (rs := [.tmp 4]) (vs := [.bool false]) rfl ⟨rfl, trivial⟩ ?_
                  exact fun w' hb hs => ⟨_, _, ⟨rfl, rfl⟩, rfl, hb, hs.sel [] _ (by decide) rfl⟩
                · refine JX.condF rfl hb ?_
                  refine JX.skip ?_
                  refine JE.code ?_
                  refine JX.seq ?_
                  refine JX.seq ?_
                  refine JX.region ?_
                  refine JL.val (yl_move rfl) rfl ?_
                  refine JL.val (yl_move rfl) rfl ?_
                  refine JL.val (yl_neq rfl rfl) rfl ?_
                  refine JL.nil ?_
                  refine JE.code ?_
                  rcases cond_some hres with ⟨hb, hres⟩ | ⟨hb, hres⟩
                  · refine JX.condT rfl hb ?_
                    refine JX.seq ?_
                    refine JX.region ?_
                    refine JL.val (yl_assign rfl) rfl ?_
                    refine JL.nil ?_
                    refine JE.weak (env' := [(4, .bool false)]) (es' := []) [] ?_ ⟨rfl, trivial⟩ (by decide) rfl
                    refine JE.code ?_
                    refine JX.ret ?_
                    obtain rfl := Option.some.inj hres
                    refine JE.ret (rs := [.tmp 4]) (vs := [.bool false]) rfl ⟨rfl, trivial⟩ ?_
                    exact fun w' hb hs => ⟨_, _, ⟨rfl, rfl⟩, rfl, hb, hs.sel [] _ (by decide) rfl⟩
                  · refine JX.condF rfl hb ?_
                    refine JX.skip ?_
                    refine JE.code ?_
                    refine JX.seq ?_
                    refine JX.region ?_
                    refine JL.val (yl_move rfl) rfl ?_
                    refine JL.val (yl_move rfl) rfl ?_
                    obtain ⟨x30, hx30, hres⟩ := bind_some hres
                    refine JL.eff (ef_call (T := T16 x30) Go.Proofs.Try.func16 rfl (by kernel_rfl) rfl (fun w hC => c16 (rd_arg g_1 hC) rfl k_1 hx30)) rfl ?_
                    rintro _ _ ⟨_, ⟨a31, _, c32, rfl, rfl, rfl⟩, rfl⟩
                    obtain ⟨x34, hx34, hres⟩ := bind_some hres
                    refine JL.eff (ef_call (T := T49 x34) Go.Proofs.Try.func49 rfl (by kernel_rfl) rfl (fun w hC => c49 (rd_row hC 2 rfl) rfl (ln_row hC 2 rfl) hx34)) rfl ?_
                    rintro _ _ ⟨_, ⟨a35, _, c36, rfl, rfl, rfl⟩, rfl⟩
                    refine JL.val (yl_move rfl) rfl ?_
                    refine JL.val (yl_extract rfl rfl) rfl ?_
                    refine JL.val (yl_extract rfl rfl) rfl ?_
                    refine JL.val (yl_assign rfl) rfl ?_
                    refine JL.val (yl_assign rfl) rfl ?_
                    refine JL.nil ?_
                    refine JE.weak (env' := [(5, .slice a6 x5.1.length c7), (6, .int .i64 x5.2), (8, .slice a14 x13.1.length c15), (11, .int .i64 x27.1), (13, .slice a35 x34.1.length c36), (14, .int .i64 x34.2)]) (es' := [rowT 2 eI64 a6 x5.1.length c7 x5.1, rowT 2 eI64 a14 x13.1.length c15 x27.2, rowT 2 eI64 a35 x34.1.length c36 x34.1]) [0, 1, 3] ?_ ⟨rfl, rfl, rfl, rfl, rfl, rfl, trivial⟩ (by decide) rfl
                    refine JE.code ?_
                    refine JX.seq ?_
                    refine JX.seq ?_
                    refine JX.region ?_
                    refine JL.val (yl_move rfl) rfl ?_
                    refine JL.val (yl_move rfl) rfl ?_
                    obtain ⟨x38, hx38, hres⟩ := bind_some hres
                    refine JL.eff (ef_call (T := T18 x38) Go.Proofs.Try.func18 rfl (by kernel_rfl) rfl (fun w hC => c18 (rd_row hC 2 rfl) rfl (ln_row hC 2 rfl) (rd_row hC 0 rfl) rfl (ln_row hC 0 rfl) hx38)) rfl ?_
                    rintro _ _ ⟨_, ⟨rfl, rfl⟩, rfl⟩
                    refine JL.val (yl_not rfl) rfl ?_
                    refine JL.val (yl_move rfl) rfl ?_
                    refine JL.cut (K := fun J => J [(8, .slice a14 x13.1.length c15), (11, .int .i64 x27.1), (89, .bool (!x38 || (x34.2 != x5.2)))] [rowT 2 eI64 a14 x13.1.length c15 x27.2]) 4 ?_ ?_
                    · refine JL.nil ?_
                      refine JE.weak (env' := [(8, .slice a14 x13.1.length c15), (11, .int .i64 x27.1), (89, .bool (!x38 || (x34.2 != x5.2)))]) (es' := [rowT 2 eI64 a14 x13.1.length c15 x27.2]) [0] ?_ ⟨rfl, rfl, rfl, trivial⟩ (by decide) rfl
                      refine JE.code ?_
                      rcases cond_some hres with ⟨hb, hres⟩ | ⟨hb, hres⟩
                      · refine JX.condT rfl hb ?_
                        refine JX.seq ?_
                        refine JX.region ?_
                        refine JL.val (yl_assign rfl) rfl ?_
                        refine JL.nil ?_
                        refine JE.weak (env' := [(4, .bool false)]) (es' := []) [] ?_ ⟨rfl, trivial⟩ (by decide) rfl
                        refine JE.code ?_
                        refine JX.ret ?_
                        obtain rfl := Option.some.inj hres
                        refine JE.ret (rs := [.tmp 4]) (vs := [.bool false]) rfl ⟨rfl, trivial⟩ ?_
                        exact fun w' hb hs => ⟨_, _, ⟨rfl, rfl⟩, rfl, hb, hs.sel [] _ (by decide) rfl⟩
                      · refine JX.condF rfl hb ?_
                        refine JX.skip ?_
                        refine JE.code ?_
                        refine JX.seq ?_
                        refine JX.region ?_
                        refine JL.val (yl_assign rfl) rfl ?_
                        refine JL.nil ?_
                        refine JE.code ?_
                        refine JX.seq ?_
                        refine JX.region ?_
                        refine JL.val (yl_move rfl) rfl ?_
                        refine JL.val (yl_move rfl) rfl ?_
                        obtain ⟨x39, hx39, hres⟩ := bind_some hres
                        refine JL.eff (ef_call (T := T22 x39) Go.Proofs.Try.func22 rfl (by kernel_rfl) rfl (fun w hC => c22 (rd_row hC 0 rfl) l28 (ln_row hC 0 rfl) hx39)) rfl ?_
                        rintro _ _ ⟨_, ⟨rfl, rfl⟩, rfl⟩
                        refine JL.val (yl_assign rfl) rfl ?_
                        refine JL.nil ?_
                        refine JE.weak (env' := [(11, .int .i64 x27.1), (12, .int .i64 x39)]) (es' := []) [] ?_ ⟨rfl, rfl, trivial⟩ (by decide) rfl
                        refine JE.code ?_
                        refine JX.seq ?_
                        refine JX.seq ?_
                        refine JX.region ?_
                        refine JL.val (yl_move rfl) rfl ?_
                        refine JL.val (yl_lss rfl rfl) rfl ?_
                        refine JL.nil ?_
                        refine JE.code ?_
                        rcases cond_some hres with ⟨hb, hres⟩ | ⟨hb, hres⟩
                        · refine JX.condT rfl hb ?_
                          refine JX.seq ?_
                          refine JX.region ?_
                          refine JL.val (yl_assign rfl) rfl ?_
                          refine JL.nil ?_
                          refine JE.code ?_
                          refine JX.ret ?_
                          obtain rfl := Option.some.inj hres
                          refine JE.ret (rs := [.tmp 4]) (vs := [.bool false]) rfl ⟨rfl, trivial⟩ ?_
                          exact fun w' hb hs => ⟨_, _, ⟨rfl, rfl⟩, rfl, hb, hs.sel [] _ (by decide) rfl⟩
                        · refine JX.condF rfl hb ?_
                          refine JX.skip ?_
                          refine JE.code ?_
                          refine JX.seq ?_
                          refine JX.seq ?_
                          refine JX.region ?_
                          refine JL.val (yl_move rfl) rfl ?_
                          refine JL.val (yl_move rfl) rfl ?_
                          refine JL.val (yl_neq rfl rfl) rfl ?_
                          refine JL.nil ?_
                          refine JE.code ?_
                          rcases cond_some hres with ⟨hb, hres⟩ | ⟨hb, hres⟩
                          · refine JX.condT rfl hb ?_
                            refine JX.seq ?_
                            refine JX.region ?_
                            refine JL.val (yl_assign rfl) rfl ?_
                            refine JL.nil ?_
                            refine JE.code ?_
                            refine JX.ret ?_
                            obtain rfl := Option.some.inj hres
                            refine JE.ret (rs := [.tmp 4]) (vs := [.bool false]) rfl ⟨rfl, trivial⟩ ?_
                            exact fun w' hb hs => ⟨_, _, ⟨rfl, rfl⟩, rfl, hb, hs.sel [] _ (by decide) rfl⟩
                          · refine JX.condF rfl hb ?_
                            refine JX.skip ?_
                            refine JE.code ?_
                            refine JX.seq ?_
                            refine JX.region ?_
                            refine JL.val (yl_assign rfl) rfl ?_
                            refine JL.nil ?_
                            refine JE.code ?_
                            refine JX.ret ?_
                            obtain rfl := Option.some.inj hres
                            refine JE.ret (rs := [.tmp 4]) (vs := [.bool true]) rfl ⟨rfl, trivial⟩ ?_
                            exact fun w' hb hs => ⟨_, _, ⟨rfl, rfl⟩, rfl, hb, hs.sel [] _ (by decide) rfl⟩
                    · intro K
                      rcases Bool.eq_false_or_eq_true (!x38) with hb | hb
                      · refine JL.set (d := 85) (v := .bool true) (congrArg (fun b => some (Value.bool b)) hb) ?_
                        refine JL.gskip rfl rfl rfl rfl ?_
                        refine JL.gskip rfl rfl rfl rfl ?_
                        refine JL.gskip rfl rfl rfl rfl ?_
                        refine JL.val (yl_pick_true rfl rfl) rfl ?_
                        exact JL.weak [1] K ⟨rfl, rfl, (by rw [hb]; rfl), trivial⟩ (by decide) rfl
                      · refine JL.set (d := 85) (v := .bool false) (congrArg (fun b => some (Value.bool b)) hb) ?_
                        refine JL.gval rfl rfl (yl_move rfl) rfl ?_
                        refine JL.gval rfl rfl (yl_move rfl) rfl ?_
                        refine JL.gval rfl rfl (yl_neq rfl rfl) rfl ?_
                        refine JL.val (yl_pick_false rfl rfl) rfl ?_
                        exact JL.weak [1] K ⟨rfl, rfl, (by rw [hb]; rfl), trivial⟩ (by decide) rfl
            · intro K
              rcases Bool.eq_false_or_eq_true (c25) with hb | hb
              · refine JL.set (d := 58) (v := .bool true) (congrArg (fun b => some (Value.bool b)) hb) ?_
                refine JL.gskip rfl rfl rfl rfl ?_
                refine JL.gskip rfl rfl rfl rfl ?_
                refine JL.gskip rfl rfl rfl rfl ?_
                refine JL.val (yl_pick_true rfl rfl) rfl ?_
                exact JL.weak [0, 1] K ⟨rfl, rfl, rfl, rfl, rfl, (by rw [hb]; rfl), trivial⟩ (by decide) rfl
              · refine JL.set (d := 58) (v := .bool false) (congrArg (fun b => some (Value.bool b)) hb) ?_
                refine JL.gval rfl rfl (yl_move rfl) rfl ?_
                refine JL.gval rfl rfl (yl_move rfl) rfl ?_
                refine JL.gval rfl rfl (yl_neq rfl rfl) rfl ?_
                refine JL.val (yl_pick_false rfl rfl) rfl ?_
                exact JL.weak [0, 1] K ⟨rfl, rfl, rfl, rfl, rfl, (by rw [hb]; rfl), trivial⟩ (by decide) rfl
          · intro K
            rcases cond_some hc25 with ⟨hb, hres⟩ | ⟨hb, hres⟩
            · refine JL.set (d := 52) (v := .bool true) (congrArg (fun b => some (Value.bool b)) hb) ?_
              refine JL.gskip rfl rfl rfl rfl ?_
              refine JL.gskip rfl rfl rfl rfl ?_
              refine JL.gskip rfl rfl rfl rfl ?_
              refine JL.gskip rfl rfl rfl rfl ?_
              refine JL.val (yl_pick_true rfl rfl) rfl ?_
              have he := Option.some.inj hres
              exact JL.weak [0, 1] K ⟨rfl, rfl, rfl, rfl, rfl, rfl, (by rw [← he]; rfl), trivial⟩ (by decide) rfl
            · refine JL.set (d := 52) (v := .bool false) (congrArg (fun b => some (Value.bool b)) hb) ?_
              refine JL.gval rfl rfl (yl_move rfl) rfl ?_
              refine JL.gval rfl rfl (yl_move rfl) rfl ?_
              obtain ⟨x26, hx26, hres⟩ := bind_some hres
              refine JL.geff rfl rfl (ef_call (T := T18 x26) Go.Proofs.Try.func18 rfl (by kernel_rfl) rfl (fun w hC => c18 (rd_row hC 1 rfl) rfl (ln_row hC 1 rfl) (rd_row hC 0 rfl) rfl (ln_row hC 0 rfl) hx26)) rfl ?_
              rintro _ _ ⟨_, ⟨rfl, rfl⟩, rfl⟩
              refine JL.gval rfl rfl (yl_not rfl) rfl ?_
              refine JL.val (yl_pick_false rfl rfl) rfl ?_
              have he := Option.some.inj hres
              exact JL.weak [0, 1] K ⟨rfl, rfl, rfl, rfl, rfl, rfl, (by rw [← he]; rfl), trivial⟩ (by decide) rfl
    · intro K
      rcases Bool.eq_false_or_eq_true (!x17) with hb | hb
      · refine JL.set (d := 37) (v := .bool true) (congrArg (fun b => some (Value.bool b)) hb) ?_
        refine JL.gskip rfl rfl rfl rfl ?_
        refine JL.gskip rfl rfl rfl rfl ?_
        refine JL.gskip rfl rfl rfl rfl ?_
        refine JL.val (yl_pick_true rfl rfl) rfl ?_
        exact JL.weak [0, 1, 2] K ⟨rfl, rfl, rfl, rfl, rfl, rfl, rfl, (by rw [hb]; rfl), trivial⟩ (by decide) rfl
      · refine JL.set (d := 37) (v := .bool false) (congrArg (fun b => some (Value.bool b)) hb) ?_
        refine JL.gval rfl rfl (yl_move rfl) rfl ?_
        refine JL.gval rfl rfl (yl_move rfl) rfl ?_
        refine JL.gval rfl rfl (yl_neq rfl rfl) rfl ?_
        refine JL.val (yl_pick_false rfl rfl) rfl ?_
        exact JL.weak [0, 1, 2] K ⟨rfl, rfl, rfl, rfl, rfl, rfl, rfl, (by rw [hb]; rfl), trivial⟩ (by decide) rfl

end Go.Sh
