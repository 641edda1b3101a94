/- Walks through functions that the law reaches, printed by program. -/
import Derived.Test.YthcoacomnljikaaF12T
set_option linter.unusedVariables false
set_option linter.unusedSimpArgs false
namespace Go.Sh
open Go Go.RowKit
/- laws.toInt64S -/
def sh24_1 (q0 : List Int) : (Int × List Int) → Option ((Int × List Int) ⊕ (List Int))
  | (x5, x6) => bif decide (x5 < (q0.length : Int)) then (Option.bind (getI q0 x5) fun x8 => Option.bind (getI x6 x5) fun x9 => some (.inl (w64 (x5 + 1), x6.set (x5).toNat x8))) else (some (.inr x6))
def sh24 (q0 : List Int) : Option (List Int) := Option.bind (mkL (q0.length : Int) 0) fun x1 => Option.bind (iter (sh24_1 q0) (0, x1)) fun b1 => (some b1)
def T24 (r : List Int) (v : Value) (rs : List Own) : Prop := ∃ (a0 : Option Addr) (n0 c0 : Nat), r.length = n0 ∧ v = rets [.slice a0 n0 c0] ∧ rs = [rowT 2 eI64 a0 n0 c0 r]
set_option maxRecDepth 100000 in
theorem c24 {w : World} {q0 : List Int} {a_0 : Option Addr} {n_0 c_0 : Nat} (g_0 : Rd w a_0 (eI64.fl q0)) (l_0 : q0.length = n_0) (k_0 : n_0 ≤ c_0) {r : List Int} (hres : sh24 q0 = some r) : Calls Go.Proofs.Try.prog 24 [.slice a_0 n_0 c_0].toArray w (Ret w (T24 r)) := by
  subst l_0
  unfold sh24 at hres
  refine calls_of (n := 22) (M := []) (es := []) Go.Proofs.Try.func24 rfl rfl rfl (Sep.nil _ _ _) ?_
  refine JX.seq ?_
  refine JX.region ?_
  refine JL.val (yl_assign rfl) rfl ?_
  refine JL.nil ?_
  refine JE.code ?_
  refine JX.seq ?_
  refine JX.region ?_
  refine JL.val (yl_move rfl) rfl ?_
  refine JL.val (yl_len_slice Go.Proofs.Try.underlying35 rfl) rfl ?_
  obtain ⟨x1, hx1, hres⟩ := bind_some hres
  refine JL.eff (ef_makeS (e := eI64) Go.Proofs.Try.underlying35 i2 i2s i2z rfl i2b1 rfl rfl hx1) rfl ?_
  rintro _ _ ⟨a2, rfl, rfl⟩
  refine JL.val (yl_assign rfl) rfl ?_
  refine JL.nil ?_
  refine JE.weak (env' := [(0, .slice a_0 q0.length c_0), (3, .slice a2 x1.length x1.length)]) (es' := [rowT 2 eI64 a2 x1.length x1.length x1]) [0] ?_ ⟨rfl, rfl, trivial⟩ (by decide) rfl
  refine JE.code ?_
  refine JX.seq ?_
  refine JX.seq ?_
  refine JX.region ?_
  refine JL.val (yl_assign rfl) rfl ?_
  refine JL.nil ?_
  refine JE.code ?_
  refine JX.block ?_
  obtain ⟨y1, hy1, hresO1⟩ := bind_some hres
  refine JX.loop (I := fun (s1 : Int × List Int) aa ww => ∃ (l4 : s1.2.length = x1.length), St w [] 22 [(0, .slice a_0 q0.length c_0), (3, .slice a2 x1.length x1.length), (4, .int .i64 s1.1)] [rowT 2 eI64 a2 x1.length x1.length s1.2] aa ww) (sh24_1 q0) hy1 (fun a w h => ⟨rfl, h.weak ⟨rfl, rfl, rfl, trivial⟩ [0] (by decide) rfl⟩) ?_
  rintro ⟨x5, x6⟩ o1 hres hox1 aa ww ⟨l7, hS⟩
  refine (?_ : JX Go.Proofs.Try.prog w [] 22 _ _ [(0, .slice a_0 q0.length c_0), (3, .slice a2 x1.length x1.length), (4, .int .i64 x5)] [rowT 2 eI64 a2 x1.length x1.length x6] _) aa ww hS
  clear hS
  simp only [sh24_1] at hres
  refine JX.seq ?_
  refine JX.seq ?_
  refine JX.region ?_
  refine JL.val (yl_move rfl) rfl ?_
  refine JL.val (yl_move rfl) rfl ?_
  refine JL.val (yl_len_slice Go.Proofs.Try.underlying35 rfl) rfl ?_
  refine JL.val (yl_lss rfl rfl) rfl ?_
  refine JL.nil ?_
  refine JE.weak (env' := [(0, .slice a_0 q0.length c_0), (3, .slice a2 x1.length x1.length), (4, .int .i64 x5), (11, .bool (decide (x5 < (q0.length : Int))))]) (es' := [rowT 2 eI64 a2 x1.length x1.length x6]) [0] ?_ ⟨rfl, rfl, rfl, rfl, trivial⟩ (by decide) rfl
  refine JE.code ?_
  rcases cond_some hres with ⟨hb, hres⟩ | ⟨hb, hres⟩
  · refine JX.condT rfl hb ?_
    refine JX.skip ?_
    refine JE.code ?_
    refine JX.seq ?_
    refine JX.block ?_
    refine JX.region ?_
    refine JL.val (yl_move rfl) rfl ?_
    refine JL.val (yl_move rfl) rfl ?_
    refine JL.val (yl_move rfl) rfl ?_
    refine JL.val (yl_move rfl) rfl ?_
    obtain ⟨x8, hx8, hres⟩ := bind_some hres
    refine JL.val (yl_idxT Go.Proofs.Try.underlying35 i2 i2s rfl rfl hx8 rfl (fun w hC => rd_arg g_0 hC)) rfl ?_
    refine JL.val (yl_loadT0 Go.Proofs.Try.underlying2 rfl rfl hx8 (fun w hC => rd_arg g_0 hC) rfl) rfl ?_
    obtain ⟨x9, hx9, hres⟩ := bind_some hres
    refine JL.val (yl_idxT Go.Proofs.Try.underlying35 i2 i2s rfl rfl hx9 l7 (fun w hC => rd_row hC 0 rfl)) rfl ?_
    refine JL.eff (ef_storeT (ix := 0) (u := x8) i2 i2s rfl rfl rfl hx9 rfl) rfl ?_
    rintro _ _ rfl
    refine JL.nil ?_
    refine JE.weak (env' := [(0, .slice a_0 q0.length c_0), (3, .slice a2 x1.length x1.length), (4, .int .i64 x5)]) (es' := [rowT 2 eI64 a2 x1.length x1.length (x6.set (x5).toNat x8)]) [0] ?_ ⟨rfl, rfl, rfl, trivial⟩ (by decide) rfl
    refine JE.code ?_
    refine JX.region ?_
    refine JL.val (yl_move rfl) rfl ?_
    refine JL.val (yl_add rfl rfl) rfl ?_
    refine JL.val (yl_assign rfl) rfl ?_
    refine JL.nil ?_
    refine JE.cont hres ?_
    exact fun a w h => ⟨(List.length_set.trans l7), h.weak ⟨rfl, rfl, rfl, trivial⟩ [0] (by decide) rfl⟩
  · refine JX.condF rfl hb ?_
    refine JX.exit ?_
    refine JE.qb rfl ?_
    obtain ⟨b1, hb1⟩ : ∃ b : List Int, b = x6 := ⟨_, rfl⟩
    have hy1 : b1 = y1 := by rw [hb1]; exact hox1 _ (Option.some.inj hres).symm
    have hres := hresO1
    rw [← hy1] at hres
    have l10 : b1.length = x1.length := by subst hb1; exact l7
    refine JE.weak (env' := [(3, .slice a2 x1.length x1.length)]) (es' := [rowT 2 eI64 a2 x1.length x1.length b1]) [0] ?_ ⟨(by subst hb1; rfl), trivial⟩ (by decide) (by subst hb1; rfl)
    refine JE.code ?_
    refine JX.seq ?_
    refine JX.region ?_
    refine JL.val (yl_move rfl) rfl ?_
    refine JL.val (yl_assign rfl) rfl ?_
    refine JL.nil ?_
    refine JE.code ?_
    refine JX.ret ?_
    obtain rfl := Option.some.inj hres
    refine JE.ret (rs := [.tmp 2]) (vs := [.slice a2 x1.length x1.length]) rfl ⟨rfl, trivial⟩ ?_
    exact fun w' hb hs => ⟨_, _, ⟨a2, x1.length, x1.length, l10, rfl, rfl⟩, rfl, hb, hs.sel [0] _ (by decide) rfl⟩

/- laws.eqInt64S -/
def sh27_1 (q0 : List Int) (q1 : List Int) : Int → Option (Int ⊕ (Unit ⊕ Bool))
  | x1 => bif decide (x1 < (q0.length : Int)) then (Option.bind (getI q0 x1) fun x3 => Option.bind (getI q1 x1) fun x4 => bif x3 != x4 then (some (.inr (.inr false))) else (some (.inl (w64 (x1 + 1))))) else (some (.inr (.inl ())))
def sh27 (q0 : List Int) (q1 : List Int) : Option (Bool) := bif (q0.length : Int) != (q1.length : Int) then (some false) else (Option.bind (iter (sh27_1 q0 q1) 0) fun y1 => elimS y1 (fun r => some r) fun b1 => (some true))
def T27 (r : Bool) (v : Value) (rs : List Own) : Prop := v = rets [.bool r] ∧ rs = []
set_option maxRecDepth 100000 in
theorem c27 {w : World} {q0 : List Int} {a_0 : Option Addr} {n_0 c_0 : Nat} (g_0 : Rd w a_0 (eI64.fl q0)) (l_0 : q0.length = n_0) (k_0 : n_0 ≤ c_0) {q1 : List Int} {a_1 : Option Addr} {n_1 c_1 : Nat} (g_1 : Rd w a_1 (eI64.fl q1)) (l_1 : q1.length = n_1) (k_1 : n_1 ≤ c_1) {r : Bool} (hres : sh27 q0 q1 = some r) : Calls Go.Proofs.Try.prog 27 [.slice a_0 n_0 c_0, .slice a_1 n_1 c_1].toArray w (Ret w (T27 r)) := by
  subst l_0
  subst l_1
  unfold sh27 at hres
  refine calls_of (n := 26) (M := []) (es := []) Go.Proofs.Try.func27 rfl rfl rfl (Sep.nil _ _ _) ?_
  refine JX.seq ?_
  refine JX.region ?_
  refine JL.val (yl_assign rfl) rfl ?_
  refine JL.nil ?_
  refine JE.code ?_
  refine JX.seq ?_
  refine JX.seq ?_
  refine JX.region ?_
  refine JL.val (yl_move rfl) rfl ?_
  refine JL.val (yl_len_slice Go.Proofs.Try.underlying35 rfl) rfl ?_
  refine JL.val (yl_move rfl) rfl ?_
  refine JL.val (yl_len_slice Go.Proofs.Try.underlying35 rfl) rfl ?_
  refine JL.val (yl_neq rfl rfl) rfl ?_
  refine JL.nil ?_
  refine JE.weak (env' := [(0, .slice a_0 q0.length c_0), (1, .slice a_1 q1.length c_1), (10, .bool ((q0.length : Int) != (q1.length : Int)))]) (es' := []) [] ?_ ⟨rfl, rfl, rfl, trivial⟩ (by decide) rfl
  refine JE.code ?_
  rcases cond_some hres with ⟨hb, hres⟩ | ⟨hb, hres⟩
  · refine JX.condT rfl hb ?_
    refine JX.seq ?_
    refine JX.region ?_
    refine JL.val (yl_assign rfl) rfl ?_
    refine JL.nil ?_
    refine JE.code ?_
    refine JX.ret ?_
    obtain rfl := Option.some.inj hres
    refine JE.ret (rs := [.tmp 4]) (vs := [.bool false]) rfl ⟨rfl, trivial⟩ ?_
    exact fun w' hb hs => ⟨_, _, ⟨rfl, rfl⟩, rfl, hb, hs.sel [] _ (by decide) rfl⟩
  · refine JX.condF rfl hb ?_
    refine JX.skip ?_
    refine JE.code ?_
    refine JX.seq ?_
    refine JX.seq ?_
    refine JX.region ?_
    refine JL.val (yl_assign rfl) rfl ?_
    refine JL.nil ?_
    refine JE.code ?_
    refine JX.block ?_
    obtain ⟨y1, hy1, hresO1⟩ := bind_some hres
    refine JX.loop (I := fun (s1 : Int) aa ww => St w [] 26 [(0, .slice a_0 q0.length c_0), (1, .slice a_1 q1.length c_1), (5, .int .i64 s1)] [] aa ww) (sh27_1 q0 q1) hy1 (fun a w h => h.weak ⟨rfl, rfl, rfl, trivial⟩ [] (by decide) rfl) ?_
    rintro x1 o1 hres hox1 aa ww hS
    refine (?_ : JX Go.Proofs.Try.prog w [] 26 _ _ [(0, .slice a_0 q0.length c_0), (1, .slice a_1 q1.length c_1), (5, .int .i64 x1)] [] _) aa ww hS
    clear hS
    unfold sh27_1 at hres
    refine JX.seq ?_
    refine JX.seq ?_
    refine JX.region ?_
    refine JL.val (yl_move rfl) rfl ?_
    refine JL.val (yl_move rfl) rfl ?_
    refine JL.val (yl_len_slice Go.Proofs.Try.underlying35 rfl) rfl ?_
    refine JL.val (yl_lss rfl rfl) rfl ?_
    refine JL.nil ?_
    refine JE.weak (env' := [(0, .slice a_0 q0.length c_0), (1, .slice a_1 q1.length c_1), (5, .int .i64 x1), (14, .bool (decide (x1 < (q0.length : Int))))]) (es' := []) [] ?_ ⟨rfl, rfl, rfl, rfl, trivial⟩ (by decide) rfl
    refine JE.code ?_
    rcases cond_some hres with ⟨hb, hres⟩ | ⟨hb, hres⟩
    · refine JX.condT rfl hb ?_
      refine JX.skip ?_
      refine JE.code ?_
      refine JX.seq ?_
      refine JX.block ?_
      refine JX.seq ?_
      refine JX.drawH [(0, .pure), (1, .pure), (2, .pure), (3, .read), (4, .pure), (5, .pure), (6, .pure), (7, .read), (8, .pure)] [] [] [] [] [] mixedP (by kernel_rfl) (by kernel_rfl) (by decide) rfl rfl ?_
      intro wrr2 Nr2 hFr2
      refine JH.pure rfl (yl_move rfl) rfl ?_
      refine JH.pure rfl (yl_move rfl) rfl ?_
      obtain ⟨x3, hx3, hres⟩ := bind_some hres
      refine JH.pure rfl (yl_idxQ Go.Proofs.Try.underlying35 i2 i2s rfl rfl hx3 rfl (rd_arg g_0 hFr2.cl) rfl) rfl ?_
      refine JH.read rfl (yl_loadT0 Go.Proofs.Try.underlying2 rfl rfl hx3 (fun w hw => hFr2.arg g_0 hw) rfl) rfl ?_
      refine JH.pure rfl (yl_move rfl) rfl ?_
      refine JH.pure rfl (yl_move rfl) rfl ?_
      obtain ⟨x4, hx4, hres⟩ := bind_some hres
      refine JH.pure rfl (yl_idxQ Go.Proofs.Try.underlying35 i2 i2s rfl rfl hx4 rfl (rd_arg g_1 hFr2.cl) rfl) rfl ?_
      refine JH.read rfl (yl_loadT0 Go.Proofs.Try.underlying2 rfl rfl hx4 (fun w hw => hFr2.arg g_1 hw) rfl) rfl ?_
      refine JH.pure rfl (yl_neq rfl rfl) rfl ?_
      refine JH.nil ?_
      refine JE.weak (env' := [(0, .slice a_0 q0.length c_0), (1, .slice a_1 q1.length c_1), (5, .int .i64 x1), (25, .bool (x3 != x4))]) (es' := []) [] ?_ ⟨rfl, rfl, rfl, rfl, trivial⟩ (by decide) rfl
      refine JE.code ?_
      rcases cond_some hres with ⟨hb, hres⟩ | ⟨hb, hres⟩
      · refine JX.condT rfl hb ?_
        refine JX.seq ?_
        refine JX.region ?_
        refine JL.val (yl_assign rfl) rfl ?_
        refine JL.nil ?_
        refine JE.code ?_
        refine JX.ret ?_
        refine JE.qbr ?_
        refine JE.qbr ?_
        have hres := elimS_inr hresO1 (hox1 _ (Option.some.inj hres).symm)
        obtain rfl := Option.some.inj hres
        refine JE.ret (rs := [.tmp 4]) (vs := [.bool false]) rfl ⟨rfl, trivial⟩ ?_
        exact fun w' hb hs => ⟨_, _, ⟨rfl, rfl⟩, rfl, hb, hs.sel [] _ (by decide) rfl⟩
      · refine JX.condF rfl hb ?_
        refine JX.skip ?_
        refine JE.code ?_
        refine JX.region ?_
        refine JL.val (yl_move rfl) rfl ?_
        refine JL.val (yl_add rfl rfl) rfl ?_
        refine JL.val (yl_assign rfl) rfl ?_
        refine JL.nil ?_
        refine JE.cont hres ?_
        exact fun a w h => h.weak ⟨rfl, rfl, rfl, trivial⟩ [] (by decide) rfl
    · refine JX.condF rfl hb ?_
      refine JX.exit ?_
      refine JE.qb rfl ?_
      obtain ⟨b1, hb1⟩ : ∃ b : Unit, b = () := ⟨_, rfl⟩
      have hy1 : Sum.inl b1 = y1 := by rw [hb1]; exact hox1 _ (Option.some.inj hres).symm
      have hres := elimS_inl hresO1 hy1
      refine JE.weak (env' := []) (es' := []) [] ?_ trivial (by decide) (by subst hb1; rfl)
      refine JE.code ?_
      refine JX.seq ?_
      refine JX.region ?_
      refine JL.val (yl_assign rfl) rfl ?_
      refine JL.nil ?_
      refine JE.code ?_
      refine JX.ret ?_
      obtain rfl := Option.some.inj hres
      refine JE.ret (rs := [.tmp 4]) (vs := [.bool true]) rfl ⟨rfl, trivial⟩ ?_
      exact fun w' hb hs => ⟨_, _, ⟨rfl, rfl⟩, rfl, hb, hs.sel [] _ (by decide) rfl⟩

/- laws.eqInt64SS -/
def sh26_1 (q0 : List (List Int)) (q1 : List (List Int)) : Int → Option (Int ⊕ (Unit ⊕ Bool))
  | x1 => bif decide (x1 < ((q0.length : Nat) : Int)) then (Option.bind (getI q0 x1) fun x3 => Option.bind (getI q1 x1) fun x7 => Option.bind (sh27 x3 x7) fun x11 => bif !x11 then (some (.inr (.inr false))) else (some (.inl (w64 (x1 + 1))))) else (some (.inr (.inl ())))
def sh26 (q0 : List (List Int)) (q1 : List (List Int)) : Option (Bool) := bif ((q0.length : Nat) : Int) != ((q1.length : Nat) : Int) then (some false) else (Option.bind (iter (sh26_1 q0 q1) 0) fun y1 => elimS y1 (fun r => some r) fun b1 => (some true))
def T26 (r : Bool) (v : Value) (rs : List Own) : Prop := v = rets [.bool r] ∧ rs = []
set_option maxRecDepth 100000 in
theorem c26 {w : World} {q0 : List (List Int)} {a_0 : Option Addr} {n_0 c_0 : Nat} {h_0 : List Hd} (g_0 : Rd w a_0 (eHd.fl h_0)) (r_0 : RdI w eI64 h_0 q0) (i_0 : Inn h_0 q0) (l_0 : q0.length = n_0) (k_0 : n_0 ≤ c_0) {q1 : List (List Int)} {a_1 : Option Addr} {n_1 c_1 : Nat} {h_1 : List Hd} (g_1 : Rd w a_1 (eHd.fl h_1)) (r_1 : RdI w eI64 h_1 q1) (i_1 : Inn h_1 q1) (l_1 : q1.length = n_1) (k_1 : n_1 ≤ c_1) {r : Bool} (hres : sh26 q0 q1 = some r) : Calls Go.Proofs.Try.prog 26 [.slice a_0 n_0 c_0, .slice a_1 n_1 c_1].toArray w (Ret w (T26 r)) := by
  subst l_0
  subst l_1
  unfold sh26 at hres
  refine calls_of (n := 27) (M := []) (es := []) Go.Proofs.Try.func26 rfl rfl rfl (Sep.nil _ _ _) ?_
  refine JX.seq ?_
  refine JX.region ?_
  refine JL.val (yl_assign rfl) rfl ?_
  refine JL.nil ?_
  refine JE.code ?_
  refine JX.seq ?_
  refine JX.seq ?_
  refine JX.region ?_
  refine JL.val (yl_move rfl) rfl ?_
  refine JL.val (yl_len_slice Go.Proofs.Try.underlying36 rfl) rfl ?_
  refine JL.val (yl_move rfl) rfl ?_
  refine JL.val (yl_len_slice Go.Proofs.Try.underlying36 rfl) rfl ?_
  refine JL.val (yl_neq rfl rfl) rfl ?_
  refine JL.nil ?_
  refine JE.weak (env' := [(0, .slice a_0 q0.length c_0), (1, .slice a_1 q1.length c_1), (10, .bool (((q0.length : Nat) : Int) != ((q1.length : Nat) : Int)))]) (es' := []) [] ?_ ⟨rfl, rfl, rfl, trivial⟩ (by decide) rfl
  refine JE.code ?_
  rcases cond_some hres with ⟨hb, hres⟩ | ⟨hb, hres⟩
  · refine JX.condT rfl hb ?_
    refine JX.seq ?_
    refine JX.region ?_
    refine JL.val (yl_assign rfl) rfl ?_
    refine JL.nil ?_
    refine JE.code ?_
    refine JX.ret ?_
    obtain rfl := Option.some.inj hres
    refine JE.ret (rs := [.tmp 4]) (vs := [.bool false]) rfl ⟨rfl, trivial⟩ ?_
    exact fun w' hb hs => ⟨_, _, ⟨rfl, rfl⟩, rfl, hb, hs.sel [] _ (by decide) rfl⟩
  · refine JX.condF rfl hb ?_
    refine JX.skip ?_
    refine JE.code ?_
    refine JX.seq ?_
    refine JX.seq ?_
    refine JX.region ?_
    refine JL.val (yl_assign rfl) rfl ?_
    refine JL.nil ?_
    refine JE.code ?_
    refine JX.block ?_
    obtain ⟨y1, hy1, hresO1⟩ := bind_some hres
    refine JX.loop (I := fun (s1 : Int) aa ww => St w [] 27 [(0, .slice a_0 q0.length c_0), (1, .slice a_1 q1.length c_1), (5, .int .i64 s1)] [] aa ww) (sh26_1 q0 q1) hy1 (fun a w h => h.weak ⟨rfl, rfl, rfl, trivial⟩ [] (by decide) rfl) ?_
    rintro x1 o1 hres hox1 aa ww hS
    refine (?_ : JX Go.Proofs.Try.prog w [] 27 _ _ [(0, .slice a_0 q0.length c_0), (1, .slice a_1 q1.length c_1), (5, .int .i64 x1)] [] _) aa ww hS
    clear hS
    unfold sh26_1 at hres
    refine JX.seq ?_
    refine JX.seq ?_
    refine JX.region ?_
    refine JL.val (yl_move rfl) rfl ?_
    refine JL.val (yl_move rfl) rfl ?_
    refine JL.val (yl_len_slice Go.Proofs.Try.underlying36 rfl) rfl ?_
    refine JL.val (yl_lss rfl rfl) rfl ?_
    refine JL.nil ?_
    refine JE.weak (env' := [(0, .slice a_0 q0.length c_0), (1, .slice a_1 q1.length c_1), (5, .int .i64 x1), (14, .bool (decide (x1 < ((q0.length : Nat) : Int))))]) (es' := []) [] ?_ ⟨rfl, rfl, rfl, rfl, trivial⟩ (by decide) rfl
    refine JE.code ?_
    rcases cond_some hres with ⟨hb, hres⟩ | ⟨hb, hres⟩
    · refine JX.condT rfl hb ?_
      refine JX.skip ?_
      refine JE.code ?_
      refine JX.seq ?_
      refine JX.block ?_
      refine JX.seq ?_
      refine JX.drawH [(0, .pure), (1, .pure), (2, .pure), (3, .read), (4, .pure), (5, .pure), (6, .pure), (7, .read), (8, .must), (9, .pure)] [] [] [] [] [] mixedP (by kernel_rfl) (by kernel_rfl) (by decide) rfl rfl ?_
      intro wrr2 Nr2 hFr2
      refine JH.pure rfl (yl_move rfl) rfl ?_
      refine JH.pure rfl (yl_move rfl) rfl ?_
      obtain ⟨x3, hx3, hres⟩ := bind_some hres
      obtain ⟨ha4, hc5, hhx3⟩ := Inn.sub i_0 hx3
      refine JH.pure rfl (yl_idxQ Go.Proofs.Try.underlying36 i35 i35s rfl rfl hhx3 (Inn.len i_0) (rd_arg g_0 hFr2.cl) (Inn.len i_0)) rfl ?_
      refine JH.read rfl (yl_loadT0 (z := ⟨ha4, x3.length, hc5⟩) Go.Proofs.Try.underlying35 rfl rfl hhx3 (fun w hw => hFr2.arg g_0 hw) rfl) rfl ?_
      refine JH.pure rfl (yl_move rfl) rfl ?_
      refine JH.pure rfl (yl_move rfl) rfl ?_
      obtain ⟨x7, hx7, hres⟩ := bind_some hres
      obtain ⟨ha8, hc9, hhx7⟩ := Inn.sub i_1 hx7
      refine JH.pure rfl (yl_idxQ Go.Proofs.Try.underlying36 i35 i35s rfl rfl hhx7 (Inn.len i_1) (rd_arg g_1 hFr2.cl) (Inn.len i_1)) rfl ?_
      refine JH.read rfl (yl_loadT0 (z := ⟨ha8, x7.length, hc9⟩) Go.Proofs.Try.underlying35 rfl rfl hhx7 (fun w hw => hFr2.arg g_1 hw) rfl) rfl ?_
      obtain ⟨x11, hx11, hres⟩ := bind_some hres
      refine JH.must rfl (ef_call (T := T27 x11) Go.Proofs.Try.func27 rfl (by kernel_rfl) rfl (fun w hC => c27 (hFr2.arg (RdI.sub r_0 hx3 hhx3) hC.1) rfl (RdI.ln r_0 hx3 hhx3) (hFr2.arg (RdI.sub r_1 hx7 hhx7) hC.1) rfl (RdI.ln r_1 hx7 hhx7) hx11)) rfl rfl ?_
      rintro _ _ ⟨_, ⟨rfl, rfl⟩, rfl⟩
      refine JH.pure rfl (yl_not rfl) rfl ?_
      refine JH.nil ?_
      refine JE.weak (env' := [(0, .slice a_0 q0.length c_0), (1, .slice a_1 q1.length c_1), (5, .int .i64 x1), (26, .bool !x11)]) (es' := []) [] ?_ ⟨rfl, rfl, rfl, rfl, trivial⟩ (by decide) rfl
      refine JE.code ?_
      rcases cond_some hres with ⟨hb, hres⟩ | ⟨hb, hres⟩
      · refine JX.condT rfl hb ?_
        refine JX.seq ?_
        refine JX.region ?_
        refine JL.val (yl_assign rfl) rfl ?_
        refine JL.nil ?_
        refine JE.code ?_
        refine JX.ret ?_
        refine JE.qbr ?_
        refine JE.qbr ?_
        have hres := elimS_inr hresO1 (hox1 _ (Option.some.inj hres).symm)
        obtain rfl := Option.some.inj hres
        refine JE.ret (rs := [.tmp 4]) (vs := [.bool false]) rfl ⟨rfl, trivial⟩ ?_
        exact fun w' hb hs => ⟨_, _, ⟨rfl, rfl⟩, rfl, hb, hs.sel [] _ (by decide) rfl⟩
      · refine JX.condF rfl hb ?_
        refine JX.skip ?_
        refine JE.code ?_
        refine JX.region ?_
        refine JL.val (yl_move rfl) rfl ?_
        refine JL.val (yl_add rfl rfl) rfl ?_
        refine JL.val (yl_assign rfl) rfl ?_
        refine JL.nil ?_
        refine JE.cont hres ?_
        exact fun a w h => h.weak ⟨rfl, rfl, rfl, trivial⟩ [] (by decide) rfl
    · refine JX.condF rfl hb ?_
      refine JX.exit ?_
      refine JE.qb rfl ?_
      obtain ⟨b1, hb1⟩ : ∃ b : Unit, b = () := ⟨_, rfl⟩
      have hy1 : Sum.inl b1 = y1 := by rw [hb1]; exact hox1 _ (Option.some.inj hres).symm
      have hres := elimS_inl hresO1 hy1
      refine JE.weak (env' := []) (es' := []) [] ?_ trivial (by decide) (by subst hb1; rfl)
      refine JE.code ?_
      refine JX.seq ?_
      refine JX.region ?_
      refine JL.val (yl_assign rfl) rfl ?_
      refine JL.nil ?_
      refine JE.code ?_
      refine JX.ret ?_
      obtain rfl := Option.some.inj hres
      refine JE.ret (rs := [.tmp 4]) (vs := [.bool true]) rfl ⟨rfl, trivial⟩ ?_
      exact fun w' hb hs => ⟨_, _, ⟨rfl, rfl⟩, rfl, hb, hs.sel [] _ (by decide) rfl⟩

/- laws.markInt64S -/
def sh28_1 (q0 : List Int) : (Int × Int × List Int) → Option ((Int × Int × List Int) ⊕ (Int × List Int))
  | (x2, x3, x4) => bif decide (x3 < ((q0.length : Nat) : Int)) then (Option.bind (getI x4 x3) fun x6 => some (.inl (w64 (x2 + 1), w64 (x3 + 1), x4.set (x3).toNat x2))) else (some (.inr (x2, x4)))
def sh28 (q0 : List Int) (q1 : Int) : Option (Int × List Int) := Option.bind (iter (sh28_1 q0) (q1, 0, q0)) fun b1 => (some (b1.1, b1.2))
def T28 (a_ : Option Addr) (n_ c_ : Nat) (r : Int × List Int) (v : Value) (e' : Own) (rs : List Own) : Prop := r.2.length = n_ ∧ e' = rowT 2 eI64 a_ n_ c_ r.2 ∧ v = rets [.int .i64 r.1] ∧ rs = []
set_option maxRecDepth 100000 in
theorem c28 {w : World} {q0 : List Int} {a_0 : Option Addr} {n_0 c_0 : Nat} {M : List Nat} (g_0 : Sep w.heap.size M w [rowT 2 eI64 a_0 n_0 c_0 q0]) (l_0 : q0.length = n_0) {q1 : Int} {r : Int × List Int} (hres : sh28 q0 q1 = some r) : Calls Go.Proofs.Try.prog 28 [.slice a_0 n_0 c_0, .int .i64 q1].toArray w (RetM w M (T28 a_0 n_0 c_0 r)) := by
  subst l_0
  unfold sh28 at hres
  refine calls_of (n := 19) (M := M) (es := [rowT 2 eI64 a_0 q0.length c_0 q0]) Go.Proofs.Try.func28 rfl rfl rfl g_0 ?_
  refine JX.seq ?_
  refine JX.region ?_
  refine JL.val (yl_assign rfl) rfl ?_
  refine JL.nil ?_
  refine JE.code ?_
  refine JX.seq ?_
  refine JX.seq ?_
  refine JX.region ?_
  refine JL.val (yl_assign rfl) rfl ?_
  refine JL.nil ?_
  refine JE.code ?_
  refine JX.block ?_
  obtain ⟨y1, hy1, hresO1⟩ := bind_some hres
  refine JX.loop (I := fun (s1 : Int × Int × List Int) aa ww => ∃ (l1 : s1.2.2.length = q0.length), St w M 19 [(0, .slice a_0 q0.length c_0), (1, .int .i64 s1.1), (5, .int .i64 s1.2.1)] [rowT 2 eI64 a_0 q0.length c_0 s1.2.2] aa ww) (sh28_1 q0) hy1 (fun a w h => ⟨rfl, h.weak ⟨rfl, rfl, rfl, trivial⟩ [0] (by decide) rfl⟩) ?_
  rintro ⟨x2, x3, x4⟩ o1 hres hox1 aa ww ⟨l5, hS⟩
  refine (?_ : JX Go.Proofs.Try.prog w M 19 _ _ [(0, .slice a_0 q0.length c_0), (1, .int .i64 x2), (5, .int .i64 x3)] [rowT 2 eI64 a_0 q0.length c_0 x4] _) aa ww hS
  clear hS
  simp only [sh28_1] at hres
  refine JX.seq ?_
  refine JX.seq ?_
  refine JX.region ?_
  refine JL.val (yl_move rfl) rfl ?_
  refine JL.val (yl_move rfl) rfl ?_
  refine JL.val (yl_len_slice Go.Proofs.Try.underlying35 rfl) rfl ?_
  refine JL.val (yl_lss rfl rfl) rfl ?_
  refine JL.nil ?_
  refine JE.weak (env' := [(0, .slice a_0 q0.length c_0), (1, .int .i64 x2), (5, .int .i64 x3), (9, .bool (decide (x3 < ((q0.length : Nat) : Int))))]) (es' := [rowT 2 eI64 a_0 q0.length c_0 x4]) [0] ?_ ⟨rfl, rfl, rfl, rfl, trivial⟩ (by decide) rfl
  refine JE.code ?_
  rcases cond_some hres with ⟨hb, hres⟩ | ⟨hb, hres⟩
  · refine JX.condT rfl hb ?_
    refine JX.skip ?_
    refine JE.code ?_
    refine JX.seq ?_
    refine JX.block ?_
    refine JX.seq ?_
    refine JX.region ?_
    refine JL.val (yl_move rfl) rfl ?_
    refine JL.val (yl_move rfl) rfl ?_
    refine JL.val (yl_move rfl) rfl ?_
    obtain ⟨x6, hx6, hres⟩ := bind_some hres
    refine JL.val (yl_idxT Go.Proofs.Try.underlying35 i2 i2s rfl rfl hx6 l5 (fun w hC => rd_row hC 0 rfl)) rfl ?_
    refine JL.eff (ef_storeT (ix := 0) (u := x2) i2 i2s rfl rfl rfl hx6 rfl) rfl ?_
    rintro _ _ rfl
    refine JL.nil ?_
    refine JE.weak (env' := [(0, .slice a_0 q0.length c_0), (1, .int .i64 x2), (5, .int .i64 x3)]) (es' := [rowT 2 eI64 a_0 q0.length c_0 (x4.set (x3).toNat x2)]) [0] ?_ ⟨rfl, rfl, rfl, trivial⟩ (by decide) rfl
    refine JE.code ?_
    refine JX.region ?_
    refine JL.val (yl_move rfl) rfl ?_
    refine JL.val (yl_add rfl rfl) rfl ?_
    refine JL.val (yl_assign rfl) rfl ?_
    refine JL.nil ?_
    refine JE.code ?_
    refine JX.region ?_
    refine JL.val (yl_move rfl) rfl ?_
    refine JL.val (yl_add rfl rfl) rfl ?_
    refine JL.val (yl_assign rfl) rfl ?_
    refine JL.nil ?_
    refine JE.cont hres ?_
    exact fun a w h => ⟨(List.length_set.trans l5), h.weak ⟨rfl, rfl, rfl, trivial⟩ [0] (by decide) rfl⟩
  · refine JX.condF rfl hb ?_
    refine JX.exit ?_
    refine JE.qb rfl ?_
    obtain ⟨b1, hb1⟩ : ∃ b : Int × List Int, b = (x2, x4) := ⟨_, rfl⟩
    have hy1 : b1 = y1 := by rw [hb1]; exact hox1 _ (Option.some.inj hres).symm
    have hres := hresO1
    rw [← hy1] at hres
    have l7 : b1.2.length = q0.length := by subst hb1; exact l5
    refine JE.weak (env' := [(1, .int .i64 b1.1)]) (es' := [rowT 2 eI64 a_0 q0.length c_0 b1.2]) [0] ?_ ⟨(by subst hb1; rfl), trivial⟩ (by decide) (by subst hb1; rfl)
    refine JE.code ?_
    refine JX.seq ?_
    refine JX.region ?_
    refine JL.val (yl_move rfl) rfl ?_
    refine JL.val (yl_assign rfl) rfl ?_
    refine JL.nil ?_
    refine JE.code ?_
    refine JX.ret ?_
    obtain rfl := Option.some.inj hres
    refine JE.ret (rs := [.tmp 4]) (vs := [.int .i64 b1.1]) rfl ⟨rfl, trivial⟩ ?_
    exact fun w' hb hs => ⟨_, _, _, ⟨l7, rfl, rfl, rfl⟩, rfl, hb, hs.sel [0] _ (by decide) rfl⟩

/- laws.markInt64SS -/
def sh29_1 (q0 : List (List Int)) : (Int × Int × List (List Int)) → Option ((Int × Int × List (List Int)) ⊕ (Int × List (List Int)))
  | (x2, x3, x4) => bif decide (x3 < ((q0.length : Nat) : Int)) then (Option.bind (getI x4 x3) fun x6 => Option.bind (sh28 x6 x2) fun x10 => some (.inl (x10.1, w64 (x3 + 1), x4.set (x3).toNat x10.2))) else (some (.inr (x2, x4)))
def sh29 (q0 : List (List Int)) (q1 : Int) : Option (Int × List (List Int)) := Option.bind (iter (sh29_1 q0) (q1, 0, q0)) fun b1 => (some (b1.1, b1.2))
def T29 (a_0 : Option Addr) (n_0 c_0 : Nat) (h_0 : List Hd) (r : Int × List (List Int)) (v : Value) (es' rs : List Own) : Prop := r.2.length = n_0 ∧ Inn h_0 r.2 ∧ es' = [rowT 35 eHd a_0 n_0 c_0 h_0, innO 2 eI64 none h_0 r.2] ∧ v = rets [.int .i64 r.1] ∧ rs = []
set_option maxRecDepth 100000 in
theorem c29 {w : World} {M : List Nat} {q0 : List (List Int)} {a_0 : Option Addr} {n_0 c_0 : Nat} {h_0 : List Hd} (i_0 : Inn h_0 q0) (l_0 : q0.length = n_0) {q1 : Int} (gs : Sep w.heap.size M w [rowT 35 eHd a_0 n_0 c_0 h_0, innO 2 eI64 none h_0 q0]) {r : Int × List (List Int)} (hres : sh29 q0 q1 = some r) : Calls Go.Proofs.Try.prog 29 [.slice a_0 n_0 c_0, .int .i64 q1].toArray w (RetMs w M (T29 a_0 q0.length c_0 h_0 r)) := by
  subst l_0
  unfold sh29 at hres
  refine calls_of (n := 19) (M := M) (es := [rowT 35 eHd a_0 q0.length c_0 h_0, innO 2 eI64 none h_0 q0]) Go.Proofs.Try.func29 rfl rfl rfl gs ?_
  refine JX.seq ?_
  refine JX.region ?_
  refine JL.val (yl_assign rfl) rfl ?_
  refine JL.nil ?_
  refine JE.code ?_
  refine JX.seq ?_
  refine JX.seq ?_
  refine JX.region ?_
  refine JL.val (yl_assign rfl) rfl ?_
  refine JL.nil ?_
  refine JE.code ?_
  refine JX.block ?_
  obtain ⟨y1, hy1, hresO1⟩ := bind_some hres
  refine JX.loop (I := fun (s1 : Int × Int × List (List Int)) aa ww => ∃ (hi1 : Inn h_0 s1.2.2), St w M 19 [(0, .slice a_0 q0.length c_0), (1, .int .i64 s1.1), (5, .int .i64 s1.2.1)] [rowT 35 eHd a_0 q0.length c_0 h_0, innO 2 eI64 none h_0 s1.2.2] aa ww) (sh29_1 q0) hy1 (fun a w h => ⟨i_0, h.weak ⟨rfl, rfl, rfl, trivial⟩ [0, 1] (by decide) rfl⟩) ?_
  rintro ⟨x2, x3, x4⟩ o1 hres hox1 aa ww ⟨hi5, hS⟩
  refine (?_ : JX Go.Proofs.Try.prog w M 19 _ _ [(0, .slice a_0 q0.length c_0), (1, .int .i64 x2), (5, .int .i64 x3)] [rowT 35 eHd a_0 q0.length c_0 h_0, innO 2 eI64 none h_0 x4] _) aa ww hS
  clear hS
  simp only [sh29_1] at hres
  refine JX.seq ?_
  refine JX.seq ?_
  refine JX.region ?_
  refine JL.val (yl_move rfl) rfl ?_
  refine JL.val (yl_move rfl) rfl ?_
  refine JL.val (yl_len_slice Go.Proofs.Try.underlying36 rfl) rfl ?_
  refine JL.val (yl_lss rfl rfl) rfl ?_
  refine JL.nil ?_
  refine JE.weak (env' := [(0, .slice a_0 q0.length c_0), (1, .int .i64 x2), (5, .int .i64 x3), (9, .bool (decide (x3 < ((q0.length : Nat) : Int))))]) (es' := [rowT 35 eHd a_0 q0.length c_0 h_0, innO 2 eI64 none h_0 x4]) [0, 1] ?_ ⟨rfl, rfl, rfl, rfl, trivial⟩ (by decide) rfl
  refine JE.code ?_
  rcases cond_some hres with ⟨hb, hres⟩ | ⟨hb, hres⟩
  · refine JX.condT rfl hb ?_
    refine JX.skip ?_
    refine JE.code ?_
    refine JX.seq ?_
    refine JX.block ?_
    refine JX.region ?_
    refine JL.val (yl_move rfl) rfl ?_
    refine JL.val (yl_move rfl) rfl ?_
    obtain ⟨x6, hx6, hres⟩ := bind_some hres
    obtain ⟨ha7, hc8, hhx6⟩ := Inn.sub hi5 hx6
    refine JL.val (yl_idxT Go.Proofs.Try.underlying36 i35 i35s rfl rfl hhx6 (Inn.len i_0) (fun w hC => rd_row hC 0 rfl)) rfl ?_
    refine JL.val (yl_loadT0 (z := ⟨ha7, x6.length, hc8⟩) Go.Proofs.Try.underlying35 rfl rfl hhx6 (fun w hC => rd_row hC 0 rfl) rfl) rfl ?_
    refine JL.val (yl_move rfl) rfl ?_
    obtain ⟨x10, hx10, hres⟩ := bind_some hres
    refine JL.focus (es' := [rowT 35 eHd a_0 q0.length c_0 h_0]) [0, 1] (by decide) rfl hhx6 hx6 ?_
    refine JL.eff (ef_callm (T := T28 ha7 x6.length hc8 x10) 2 Go.Proofs.Try.func28 rfl (by kernel_rfl) rfl rfl (fun w fp hs => c28 hs rfl hx10)) rfl ?_
    rintro _ _ ⟨_, _, ⟨l12, rfl, rfl, rfl⟩, rfl⟩
    refine JL.unfocus0 (es' := [rowT 35 eHd a_0 q0.length c_0 h_0]) [0, 1, 2] (by decide) rfl hhx6 ?_
    refine JL.val (yl_assign rfl) rfl ?_
    refine JL.nil ?_
    refine JE.weak (env' := [(0, .slice a_0 q0.length c_0), (1, .int .i64 x10.1), (5, .int .i64 x3)]) (es' := [rowT 35 eHd a_0 q0.length c_0 h_0, innO 2 eI64 none h_0 (x4.set (x3).toNat x10.2)]) [0, 1] ?_ ⟨rfl, rfl, rfl, trivial⟩ (by decide) rfl
    refine JE.code ?_
    refine JX.region ?_
    refine JL.val (yl_move rfl) rfl ?_
    refine JL.val (yl_add rfl rfl) rfl ?_
    refine JL.val (yl_assign rfl) rfl ?_
    refine JL.nil ?_
    refine JE.cont hres ?_
    exact fun a w h => ⟨(Inn.set0 hi5 hx6 l12), h.weak ⟨rfl, rfl, rfl, trivial⟩ [0, 1] (by decide) rfl⟩
  · refine JX.condF rfl hb ?_
    refine JX.exit ?_
    refine JE.qb rfl ?_
    obtain ⟨b1, hb1⟩ : ∃ b : Int × List (List Int), b = (x2, x4) := ⟨_, rfl⟩
    have hy1 : b1 = y1 := by rw [hb1]; exact hox1 _ (Option.some.inj hres).symm
    have hres := hresO1
    rw [← hy1] at hres
    have hi13 : Inn h_0 b1.2 := by subst hb1; exact hi5
    refine JE.weak (env' := [(1, .int .i64 b1.1)]) (es' := [rowT 35 eHd a_0 q0.length c_0 h_0, innO 2 eI64 none h_0 b1.2]) [0, 1] ?_ ⟨(by subst hb1; rfl), trivial⟩ (by decide) (by subst hb1; rfl)
    refine JE.code ?_
    refine JX.seq ?_
    refine JX.region ?_
    refine JL.val (yl_move rfl) rfl ?_
    refine JL.val (yl_assign rfl) rfl ?_
    refine JL.nil ?_
    refine JE.code ?_
    refine JX.ret ?_
    obtain rfl := Option.some.inj hres
    refine JE.ret (rs := [.tmp 4]) (vs := [.int .i64 b1.1]) rfl ⟨rfl, trivial⟩ ?_
    exact fun w' hb hs => ⟨_, _, _, ⟨((Inn.len hi13).symm.trans (Inn.len i_0)), hi13, rfl, rfl, rfl⟩, rfl, hb, hs.sel [0, 1] _ (by decide) rfl⟩

/- laws.heldInt64S -/
def sh35_1 (q0 : List Int) : (Int × Int) → Option ((Int × Int) ⊕ (Int ⊕ Int))
  | (x1, x2) => bif decide (x2 < (q0.length : Int)) then (Option.bind (getI q0 x2) fun x3 => bif x3 != x1 then (some (.inr (.inr (-1)))) else (some (.inl (w64 (x1 + 1), w64 (x2 + 1))))) else (some (.inr (.inl x1)))
def sh35 (q0 : List Int) (q1 : Int) : Option (Int) := Option.bind (iter (sh35_1 q0) (q1, 0)) fun y1 => elimS y1 (fun r => some r) fun b1 => (some b1)
def T35 (r : Int) (v : Value) (rs : List Own) : Prop := v = rets [.int .i64 r] ∧ rs = []
set_option maxRecDepth 100000 in
theorem c35 {w : World} {q0 : List Int} {a_0 : Option Addr} {n_0 c_0 : Nat} (g_0 : Rd w a_0 (eI64.fl q0)) (l_0 : q0.length = n_0) (k_0 : n_0 ≤ c_0) {q1 : Int} {r : Int} (hres : sh35 q0 q1 = some r) : Calls Go.Proofs.Try.prog 35 [.slice a_0 n_0 c_0, .int .i64 q1].toArray w (Ret w (T35 r)) := by
  subst l_0
  unfold sh35 at hres
  refine calls_of (n := 21) (M := []) (es := []) Go.Proofs.Try.func35 rfl rfl rfl (Sep.nil _ _ _) ?_
  refine JX.seq ?_
  refine JX.region ?_
  refine JL.val (yl_assign rfl) rfl ?_
  refine JL.nil ?_
  refine JE.code ?_
  refine JX.seq ?_
  refine JX.seq ?_
  refine JX.region ?_
  refine JL.val (yl_assign rfl) rfl ?_
  refine JL.nil ?_
  refine JE.code ?_
  refine JX.block ?_
  obtain ⟨y1, hy1, hresO1⟩ := bind_some hres
  refine JX.loop (I := fun (s1 : Int × Int) aa ww => St w [] 21 [(0, .slice a_0 q0.length c_0), (1, .int .i64 s1.1), (5, .int .i64 s1.2)] [] aa ww) (sh35_1 q0) hy1 (fun a w h => h.weak ⟨rfl, rfl, rfl, trivial⟩ [] (by decide) rfl) ?_
  rintro ⟨x1, x2⟩ o1 hres hox1 aa ww hS
  refine (?_ : JX Go.Proofs.Try.prog w [] 21 _ _ [(0, .slice a_0 q0.length c_0), (1, .int .i64 x1), (5, .int .i64 x2)] [] _) aa ww hS
  clear hS
  simp only [sh35_1] at hres
  refine JX.seq ?_
  refine JX.seq ?_
  refine JX.region ?_
  refine JL.val (yl_move rfl) rfl ?_
  refine JL.val (yl_move rfl) rfl ?_
  refine JL.val (yl_len_slice Go.Proofs.Try.underlying35 rfl) rfl ?_
  refine JL.val (yl_lss rfl rfl) rfl ?_
  refine JL.nil ?_
  refine JE.weak (env' := [(0, .slice a_0 q0.length c_0), (1, .int .i64 x1), (5, .int .i64 x2), (9, .bool (decide (x2 < (q0.length : Int))))]) (es' := []) [] ?_ ⟨rfl, rfl, rfl, rfl, trivial⟩ (by decide) rfl
  refine JE.code ?_
  rcases cond_some hres with ⟨hb, hres⟩ | ⟨hb, hres⟩
  · refine JX.condT rfl hb ?_
    refine JX.skip ?_
    refine JE.code ?_
    refine JX.seq ?_
    refine JX.block ?_
    refine JX.seq ?_
    refine JX.seq ?_
    refine JX.region ?_
    refine JL.val (yl_move rfl) rfl ?_
    refine JL.val (yl_move rfl) rfl ?_
    obtain ⟨x3, hx3, hres⟩ := bind_some hres
    refine JL.val (yl_idxT Go.Proofs.Try.underlying35 i2 i2s rfl rfl hx3 rfl (fun w hC => rd_arg g_0 hC)) rfl ?_
    refine JL.val (yl_loadT0 Go.Proofs.Try.underlying2 rfl rfl hx3 (fun w hC => rd_arg g_0 hC) rfl) rfl ?_
    refine JL.val (yl_move rfl) rfl ?_
    refine JL.val (yl_neq rfl rfl) rfl ?_
    refine JL.nil ?_
    refine JE.weak (env' := [(0, .slice a_0 q0.length c_0), (1, .int .i64 x1), (5, .int .i64 x2), (17, .bool (x3 != x1))]) (es' := []) [] ?_ ⟨rfl, rfl, rfl, rfl, trivial⟩ (by decide) rfl
    refine JE.code ?_
    rcases cond_some hres with ⟨hb, hres⟩ | ⟨hb, hres⟩
    · refine JX.condT rfl hb ?_
      refine JX.seq ?_
      refine JX.region ?_
      refine JL.val (yl_assign rfl) rfl ?_
      refine JL.nil ?_
      refine JE.code ?_
      refine JX.ret ?_
      refine JE.qbr ?_
      refine JE.qbr ?_
      have hres := elimS_inr hresO1 (hox1 _ (Option.some.inj hres).symm)
      obtain rfl := Option.some.inj hres
      refine JE.ret (rs := [.tmp 4]) (vs := [.int .i64 (-1)]) rfl ⟨rfl, trivial⟩ ?_
      exact fun w' hb hs => ⟨_, _, ⟨rfl, rfl⟩, rfl, hb, hs.sel [] _ (by decide) rfl⟩
    · refine JX.condF rfl hb ?_
      refine JX.skip ?_
      refine JE.code ?_
      refine JX.region ?_
      refine JL.val (yl_move rfl) rfl ?_
      refine JL.val (yl_add rfl rfl) rfl ?_
      refine JL.val (yl_assign rfl) rfl ?_
      refine JL.nil ?_
      refine JE.code ?_
      refine JX.region ?_
      refine JL.val (yl_move rfl) rfl ?_
      refine JL.val (yl_add rfl rfl) rfl ?_
      refine JL.val (yl_assign rfl) rfl ?_
      refine JL.nil ?_
      refine JE.cont hres ?_
      exact fun a w h => h.weak ⟨rfl, rfl, rfl, trivial⟩ [] (by decide) rfl
  · refine JX.condF rfl hb ?_
    refine JX.exit ?_
    refine JE.qb rfl ?_
    obtain ⟨b1, hb1⟩ : ∃ b : Int, b = x1 := ⟨_, rfl⟩
    have hy1 : Sum.inl b1 = y1 := by rw [hb1]; exact hox1 _ (Option.some.inj hres).symm
    have hres := elimS_inl hresO1 hy1
    refine JE.weak (env' := [(1, .int .i64 b1)]) (es' := []) [] ?_ ⟨(by subst hb1; rfl), trivial⟩ (by decide) (by subst hb1; rfl)
    refine JE.code ?_
    refine JX.seq ?_
    refine JX.region ?_
    refine JL.val (yl_move rfl) rfl ?_
    refine JL.val (yl_assign rfl) rfl ?_
    refine JL.nil ?_
    refine JE.code ?_
    refine JX.ret ?_
    obtain rfl := Option.some.inj hres
    refine JE.ret (rs := [.tmp 4]) (vs := [.int .i64 b1]) rfl ⟨rfl, trivial⟩ ?_
    exact fun w' hb hs => ⟨_, _, ⟨rfl, rfl⟩, rfl, hb, hs.sel [] _ (by decide) rfl⟩

/- laws.heldInt64SS -/
def sh30_1 (q0 : List (List Int)) : (Int × Int) → Option ((Int × Int) ⊕ (Int ⊕ Int))
  | (x1, x2) => bif decide (x2 < ((q0.length : Nat) : Int)) then (Option.bind (getI q0 x2) fun x3 => Option.bind (sh35 x3 x1) fun x7 => bif decide (x7 < 0) then (some (.inr (.inr (-1)))) else (some (.inl (x7, w64 (x2 + 1))))) else (some (.inr (.inl x1)))
def sh30 (q0 : List (List Int)) (q1 : Int) : Option (Int) := Option.bind (iter (sh30_1 q0) (q1, 0)) fun y1 => elimS y1 (fun r => some r) fun b1 => (some b1)
def T30 (r : Int) (v : Value) (rs : List Own) : Prop := v = rets [.int .i64 r] ∧ rs = []
set_option maxRecDepth 100000 in
theorem c30 {w : World} {q0 : List (List Int)} {a_0 : Option Addr} {n_0 c_0 : Nat} {h_0 : List Hd} (g_0 : Rd w a_0 (eHd.fl h_0)) (r_0 : RdI w eI64 h_0 q0) (i_0 : Inn h_0 q0) (l_0 : q0.length = n_0) (k_0 : n_0 ≤ c_0) {q1 : Int} {r : Int} (hres : sh30 q0 q1 = some r) : Calls Go.Proofs.Try.prog 30 [.slice a_0 n_0 c_0, .int .i64 q1].toArray w (Ret w (T30 r)) := by
  subst l_0
  unfold sh30 at hres
  refine calls_of (n := 21) (M := []) (es := []) Go.Proofs.Try.func30 rfl rfl rfl (Sep.nil _ _ _) ?_
  refine JX.seq ?_
  refine JX.region ?_
  refine JL.val (yl_assign rfl) rfl ?_
  refine JL.nil ?_
  refine JE.code ?_
  refine JX.seq ?_
  refine JX.seq ?_
  refine JX.region ?_
  refine JL.val (yl_assign rfl) rfl ?_
  refine JL.nil ?_
  refine JE.code ?_
  refine JX.block ?_
  obtain ⟨y1, hy1, hresO1⟩ := bind_some hres
  refine JX.loop (I := fun (s1 : Int × Int) aa ww => St w [] 21 [(0, .slice a_0 q0.length c_0), (1, .int .i64 s1.1), (5, .int .i64 s1.2)] [] aa ww) (sh30_1 q0) hy1 (fun a w h => h.weak ⟨rfl, rfl, rfl, trivial⟩ [] (by decide) rfl) ?_
  rintro ⟨x1, x2⟩ o1 hres hox1 aa ww hS
  refine (?_ : JX Go.Proofs.Try.prog w [] 21 _ _ [(0, .slice a_0 q0.length c_0), (1, .int .i64 x1), (5, .int .i64 x2)] [] _) aa ww hS
  clear hS
  simp only [sh30_1] at hres
  refine JX.seq ?_
  refine JX.seq ?_
  refine JX.region ?_
  refine JL.val (yl_move rfl) rfl ?_
  refine JL.val (yl_move rfl) rfl ?_
  refine JL.val (yl_len_slice Go.Proofs.Try.underlying36 rfl) rfl ?_
  refine JL.val (yl_lss rfl rfl) rfl ?_
  refine JL.nil ?_
  refine JE.weak (env' := [(0, .slice a_0 q0.length c_0), (1, .int .i64 x1), (5, .int .i64 x2), (9, .bool (decide (x2 < ((q0.length : Nat) : Int))))]) (es' := []) [] ?_ ⟨rfl, rfl, rfl, rfl, trivial⟩ (by decide) rfl
  refine JE.code ?_
  rcases cond_some hres with ⟨hb, hres⟩ | ⟨hb, hres⟩
  · refine JX.condT rfl hb ?_
    refine JX.skip ?_
    refine JE.code ?_
    refine JX.seq ?_
    refine JX.block ?_
    refine JX.seq ?_
    refine JX.region ?_
    refine JL.val (yl_move rfl) rfl ?_
    refine JL.val (yl_move rfl) rfl ?_
    obtain ⟨x3, hx3, hres⟩ := bind_some hres
    obtain ⟨ha4, hc5, hhx3⟩ := Inn.sub i_0 hx3
    refine JL.val (yl_idxT Go.Proofs.Try.underlying36 i35 i35s rfl rfl hhx3 (Inn.len i_0) (fun w hC => rd_arg g_0 hC)) rfl ?_
    refine JL.val (yl_loadT0 (z := ⟨ha4, x3.length, hc5⟩) Go.Proofs.Try.underlying35 rfl rfl hhx3 (fun w hC => rd_arg g_0 hC) rfl) rfl ?_
    refine JL.val (yl_move rfl) rfl ?_
    obtain ⟨x7, hx7, hres⟩ := bind_some hres
    refine JL.eff (ef_call (T := T35 x7) Go.Proofs.Try.func35 rfl (by kernel_rfl) rfl (fun w hC => c35 (rd_arg (RdI.sub r_0 hx3 hhx3) hC) rfl (RdI.ln r_0 hx3 hhx3) hx7)) rfl ?_
    rintro _ _ ⟨_, ⟨rfl, rfl⟩, rfl⟩
    refine JL.val (yl_assign rfl) rfl ?_
    refine JL.nil ?_
    refine JE.weak (env' := [(0, .slice a_0 q0.length c_0), (1, .int .i64 x7), (5, .int .i64 x2)]) (es' := []) [] ?_ ⟨rfl, rfl, rfl, trivial⟩ (by decide) rfl
    refine JE.code ?_
    refine JX.seq ?_
    refine JX.region ?_
    refine JL.val (yl_move rfl) rfl ?_
    refine JL.val (yl_lss rfl rfl) rfl ?_
    refine JL.nil ?_
    refine JE.code ?_
    rcases cond_some hres with ⟨hb, hres⟩ | ⟨hb, hres⟩
    · refine JX.condT rfl hb ?_
      refine JX.seq ?_
      refine JX.region ?_
      refine JL.val (yl_assign rfl) rfl ?_
      refine JL.nil ?_
      refine JE.code ?_
      refine JX.ret ?_
      refine JE.qbr ?_
      refine JE.qbr ?_
      have hres := elimS_inr hresO1 (hox1 _ (Option.some.inj hres).symm)
      obtain rfl := Option.some.inj hres
      refine JE.ret (rs := [.tmp 4]) (vs := [.int .i64 (-1)]) rfl ⟨rfl, trivial⟩ ?_
      exact fun w' hb hs => ⟨_, _, ⟨rfl, rfl⟩, rfl, hb, hs.sel [] _ (by decide) rfl⟩
    · refine JX.condF rfl hb ?_
      refine JX.skip ?_
      refine JE.code ?_
      refine JX.region ?_
      refine JL.val (yl_move rfl) rfl ?_
      refine JL.val (yl_add rfl rfl) rfl ?_
      refine JL.val (yl_assign rfl) rfl ?_
      refine JL.nil ?_
      refine JE.cont hres ?_
      exact fun a w h => h.weak ⟨rfl, rfl, rfl, trivial⟩ [] (by decide) rfl
  · refine JX.condF rfl hb ?_
    refine JX.exit ?_
    refine JE.qb rfl ?_
    obtain ⟨b1, hb1⟩ : ∃ b : Int, b = x1 := ⟨_, rfl⟩
    have hy1 : Sum.inl b1 = y1 := by rw [hb1]; exact hox1 _ (Option.some.inj hres).symm
    have hres := elimS_inl hresO1 hy1
    refine JE.weak (env' := [(1, .int .i64 b1)]) (es' := []) [] ?_ ⟨(by subst hb1; rfl), trivial⟩ (by decide) (by subst hb1; rfl)
    refine JE.code ?_
    refine JX.seq ?_
    refine JX.region ?_
    refine JL.val (yl_move rfl) rfl ?_
    refine JL.val (yl_assign rfl) rfl ?_
    refine JL.nil ?_
    refine JE.code ?_
    refine JX.ret ?_
    obtain rfl := Option.some.inj hres
    refine JE.ret (rs := [.tmp 4]) (vs := [.int .i64 b1]) rfl ⟨rfl, trivial⟩ ?_
    exact fun w' hb hs => ⟨_, _, ⟨rfl, rfl⟩, rfl, hb, hs.sel [] _ (by decide) rfl⟩

/- spec.l00In -/
def sh65 (q0 : Int) (q1 : Int) (q2 : Int) : Option (Bool) := some ((decide (q1 ≤ q0)) && (decide (q0 ≤ q2)))
def T65 (r : Bool) (v : Value) (rs : List Own) : Prop := v = rets [.bool r] ∧ rs = []
set_option maxRecDepth 100000 in
theorem c65 {w : World} {q0 : Int} {q1 : Int} {q2 : Int} {r : Bool} (hres : sh65 q0 q1 q2 = some r) : Calls Go.Proofs.Try.prog 65 [.int .i64 q0, .int .i64 q1, .int .i64 q2].toArray w (Ret w (T65 r)) := by
  unfold sh65 at hres
  refine calls_of (n := 15) (M := []) (es := []) Go.Proofs.Try.func65 rfl rfl rfl (Sep.nil _ _ _) ?_
  refine JX.seq ?_
  refine JX.region ?_
  refine JL.val (yl_assign rfl) rfl ?_
  refine JL.nil ?_
  refine JE.code ?_
  refine JX.seq ?_
  refine JX.region ?_
  refine JL.val (yl_move rfl) rfl ?_
  refine JL.val (yl_move rfl) rfl ?_
  refine JL.val (yl_geq rfl rfl) rfl ?_
  refine JL.val (yl_move rfl) rfl ?_
  refine JL.cut (K := fun J => J [(14, .bool ((decide (q1 ≤ q0)) && (decide (q0 ≤ q2))))] []) 4 ?_ ?_
  · refine JL.val (yl_assign rfl) rfl ?_
    refine JL.nil ?_
    refine JE.weak (env' := [(6, .bool ((decide (q1 ≤ q0)) && (decide (q0 ≤ q2))))]) (es' := []) [] ?_ ⟨rfl, trivial⟩ (by decide) rfl
    refine JE.code ?_
    refine JX.ret ?_
    obtain rfl := Option.some.inj hres
    refine JE.ret (rs := [.tmp 6]) (vs := [.bool ((decide (q1 ≤ q0)) && (decide (q0 ≤ q2)))]) rfl ⟨rfl, trivial⟩ ?_
    exact fun w' hb hs => ⟨_, _, ⟨rfl, rfl⟩, rfl, hb, hs.sel [] _ (by decide) rfl⟩
  · intro K
    rcases Bool.eq_false_or_eq_true (decide (q1 ≤ q0)) with hb | hb
    · refine JL.set (d := 10) (v := .bool true) (congrArg (fun b => some (Value.bool b)) hb) ?_
      refine JL.gval rfl rfl (yl_move rfl) rfl ?_
      refine JL.gval rfl rfl (yl_move rfl) rfl ?_
      refine JL.gval rfl rfl (yl_leq rfl rfl) rfl ?_
      refine JL.val (yl_pick_true rfl rfl) rfl ?_
      exact JL.weak [] K ⟨(by rw [hb]; rfl), trivial⟩ (by decide) rfl
    · refine JL.set (d := 10) (v := .bool false) (congrArg (fun b => some (Value.bool b)) hb) ?_
      refine JL.gskip rfl rfl rfl rfl ?_
      refine JL.gskip rfl rfl rfl rfl ?_
      refine JL.gskip rfl rfl rfl rfl ?_
      refine JL.val (yl_pick_false rfl rfl) rfl ?_
      exact JL.weak [] K ⟨(by rw [hb]; rfl), trivial⟩ (by decide) rfl

/- spec.l23Ok -/
def sh69_1 (q0 : Int) (q1 : List Int) : Int → Option (Int ⊕ (Unit ⊕ Bool))
  | x2 => bif decide (x2 < (q1.length : Int)) then (Option.bind (getI q1 x2) fun x3 => Option.bind (bif x3 == 0 then (some true) else (Option.bind (getI q1 x2) fun x5 => Option.bind (sh65 x5 (w64 (1 - q0)) (w64 (q0 - 1))) fun x6 => some !x6)) fun c4 => (bif c4 then (some (.inr (.inr false))) else (some (.inl (w64 (x2 + 1)))))) else (some (.inr (.inl ())))
def sh69 (q0 : Int) (q1 : List Int) : Option (Bool) := Option.bind (sh65 q0 2 12) fun x1 => bif !x1 || (decide (200 < (q1.length : Int))) then (some false) else (Option.bind (iter (sh69_1 q0 q1) 0) fun y1 => elimS y1 (fun r => some r) fun b1 => (some true))
def T69 (r : Bool) (v : Value) (rs : List Own) : Prop := v = rets [.bool r] ∧ rs = []
set_option maxRecDepth 100000 in
theorem c69 {w : World} {q0 : Int} {q1 : List Int} {a_1 : Option Addr} {n_1 c_1 : Nat} (g_1 : Rd w a_1 (eI64.fl q1)) (l_1 : q1.length = n_1) (k_1 : n_1 ≤ c_1) {r : Bool} (hres : sh69 q0 q1 = some r) : Calls Go.Proofs.Try.prog 69 [.int .i64 q0, .slice a_1 n_1 c_1].toArray w (Ret w (T69 r)) := by
  subst l_1
  unfold sh69 at hres
  refine calls_of (n := 37) (M := []) (es := []) Go.Proofs.Try.func69 rfl rfl rfl (Sep.nil _ _ _) ?_
  refine JX.seq ?_
  refine JX.region ?_
  refine JL.val (yl_assign rfl) rfl ?_
  refine JL.nil ?_
  refine JE.code ?_
  refine JX.seq ?_
  refine JX.seq ?_
  refine JX.region ?_
  refine JL.val (yl_move rfl) rfl ?_
  obtain ⟨x1, hx1, hres⟩ := bind_some hres
  refine JL.eff (ef_call (T := T65 x1) Go.Proofs.Try.func65 rfl (by kernel_rfl) rfl (fun w hC => c65  hx1)) rfl ?_
  rintro _ _ ⟨_, ⟨rfl, rfl⟩, rfl⟩
  refine JL.val (yl_not rfl) rfl ?_
  refine JL.val (yl_move rfl) rfl ?_
  refine JL.cut (K := fun J => J [(0, .int .i64 q0), (1, .slice a_1 q1.length c_1), (13, .bool (!x1 || (decide (200 < (q1.length : Int)))))] []) 4 ?_ ?_
  · refine JL.nil ?_
    refine JE.weak (env' := [(0, .int .i64 q0), (1, .slice a_1 q1.length c_1), (13, .bool (!x1 || (decide (200 < (q1.length : Int)))))]) (es' := []) [] ?_ ⟨rfl, rfl, rfl, trivial⟩ (by decide) rfl
    refine JE.code ?_
    rcases cond_some hres with ⟨hb, hres⟩ | ⟨hb, hres⟩
    · refine JX.condT rfl hb ?_
      refine JX.seq ?_
      refine JX.region ?_
      refine JL.val (yl_assign rfl) rfl ?_
      refine JL.nil ?_
      refine JE.code ?_
      refine JX.ret ?_
      obtain rfl := Option.some.inj hres
      refine JE.ret (rs := [.tmp 4]) (vs := [.bool false]) rfl ⟨rfl, trivial⟩ ?_
      exact fun w' hb hs => ⟨_, _, ⟨rfl, rfl⟩, rfl, hb, hs.sel [] _ (by decide) rfl⟩
    · refine JX.condF rfl hb ?_
      refine JX.skip ?_
      refine JE.code ?_
      refine JX.seq ?_
      refine JX.seq ?_
      refine JX.region ?_
      refine JL.val (yl_assign rfl) rfl ?_
      refine JL.nil ?_
      refine JE.code ?_
      refine JX.block ?_
      obtain ⟨y1, hy1, hresO1⟩ := bind_some hres
      refine JX.loop (I := fun (s1 : Int) aa ww => St w [] 37 [(0, .int .i64 q0), (1, .slice a_1 q1.length c_1), (5, .int .i64 s1)] [] aa ww) (sh69_1 q0 q1) hy1 (fun a w h => h.weak ⟨rfl, rfl, rfl, trivial⟩ [] (by decide) rfl) ?_
      rintro x2 o1 hres hox1 aa ww hS
      refine (?_ : JX Go.Proofs.Try.prog w [] 37 _ _ [(0, .int .i64 q0), (1, .slice a_1 q1.length c_1), (5, .int .i64 x2)] [] _) aa ww hS
      clear hS
      unfold sh69_1 at hres
      refine JX.seq ?_
      refine JX.seq ?_
      refine JX.region ?_
      refine JL.val (yl_move rfl) rfl ?_
      refine JL.val (yl_move rfl) rfl ?_
      refine JL.val (yl_len_slice Go.Proofs.Try.underlying35 rfl) rfl ?_
      refine JL.val (yl_lss rfl rfl) rfl ?_
      refine JL.nil ?_
      refine JE.weak (env' := [(0, .int .i64 q0), (1, .slice a_1 q1.length c_1), (5, .int .i64 x2), (17, .bool (decide (x2 < (q1.length : Int))))]) (es' := []) [] ?_ ⟨rfl, rfl, rfl, rfl, trivial⟩ (by decide) rfl
      refine JE.code ?_
      rcases cond_some hres with ⟨hb, hres⟩ | ⟨hb, hres⟩
      · refine JX.condT rfl hb ?_
        refine JX.skip ?_
        refine JE.code ?_
        refine JX.seq ?_
        refine JX.block ?_
        refine JX.seq ?_
        refine JX.region ?_
        refine JL.val (yl_move rfl) rfl ?_
        refine JL.val (yl_move rfl) rfl ?_
        obtain ⟨x3, hx3, hres⟩ := bind_some hres
        refine JL.val (yl_idxT Go.Proofs.Try.underlying35 i2 i2s rfl rfl hx3 rfl (fun w hC => rd_arg g_1 hC)) rfl ?_
        refine JL.val (yl_loadT0 Go.Proofs.Try.underlying2 rfl rfl hx3 (fun w hC => rd_arg g_1 hC) rfl) rfl ?_
        refine JL.val (yl_eql rfl rfl) rfl ?_
        refine JL.val (yl_move rfl) rfl ?_
        obtain ⟨c4, hc4, hres⟩ := bind_some hres
        refine JL.cut (K := fun J => J [(0, .int .i64 q0), (1, .slice a_1 q1.length c_1), (5, .int .i64 x2), (36, .bool c4)] []) 11 ?_ ?_
        · refine JL.nil ?_
          refine JE.weak (env' := [(0, .int .i64 q0), (1, .slice a_1 q1.length c_1), (5, .int .i64 x2), (36, .bool c4)]) (es' := []) [] ?_ ⟨rfl, rfl, rfl, rfl, trivial⟩ (by decide) rfl
          refine JE.code ?_
          rcases cond_some hres with ⟨hb, hres⟩ | ⟨hb, hres⟩
          · refine JX.condT rfl hb ?_
            refine JX.seq ?_
            refine JX.region ?_
            refine JL.val (yl_assign rfl) rfl ?_
            refine JL.nil ?_
            refine JE.code ?_
            refine JX.ret ?_
            refine JE.qbr ?_
            refine JE.qbr ?_
            have hres := elimS_inr hresO1 (hox1 _ (Option.some.inj hres).symm)
            obtain rfl := Option.some.inj hres
            refine JE.ret (rs := [.tmp 4]) (vs := [.bool false]) rfl ⟨rfl, trivial⟩ ?_
            exact fun w' hb hs => ⟨_, _, ⟨rfl, rfl⟩, rfl, hb, hs.sel [] _ (by decide) rfl⟩
          · refine JX.condF rfl hb ?_
            refine JX.skip ?_
            refine JE.code ?_
            refine JX.region ?_
            refine JL.val (yl_move rfl) rfl ?_
            refine JL.val (yl_add rfl rfl) rfl ?_
            refine JL.val (yl_assign rfl) rfl ?_
            refine JL.nil ?_
            refine JE.cont hres ?_
            exact fun a w h => h.weak ⟨rfl, rfl, rfl, trivial⟩ [] (by decide) rfl
        · intro K
          rcases cond_some hc4 with ⟨hb, hres⟩ | ⟨hb, hres⟩
          · refine JL.set (d := 25) (v := .bool true) (congrArg (fun b => some (Value.bool b)) hb) ?_
            refine JL.gskip rfl rfl rfl rfl ?_
            refine JL.gskip rfl rfl rfl rfl ?_
            refine JL.gskip rfl rfl rfl rfl ?_
            refine JL.gskip rfl rfl rfl rfl ?_
            refine JL.gskip rfl rfl rfl rfl ?_
            refine JL.gskip rfl rfl rfl rfl ?_
            refine JL.gskip rfl rfl rfl rfl ?_
            refine JL.gskip rfl rfl rfl rfl ?_
            refine JL.gskip rfl rfl rfl rfl ?_
            refine JL.gskip rfl rfl rfl rfl ?_
            refine JL.val (yl_pick_true rfl rfl) rfl ?_
            have he := Option.some.inj hres
            exact JL.weak [] K ⟨rfl, rfl, rfl, (by rw [← he]; rfl), trivial⟩ (by decide) rfl
          · refine JL.set (d := 25) (v := .bool false) (congrArg (fun b => some (Value.bool b)) hb) ?_
            refine JL.gval rfl rfl (yl_move rfl) rfl ?_
            refine JL.gval rfl rfl (yl_move rfl) rfl ?_
            obtain ⟨x5, hx5, hres⟩ := bind_some hres
            refine JL.gval rfl rfl (yl_idxT Go.Proofs.Try.underlying35 i2 i2s rfl rfl hx5 rfl (fun w hC => rd_arg g_1 hC)) rfl ?_
            refine JL.gval rfl rfl (yl_loadT0 Go.Proofs.Try.underlying2 rfl rfl hx5 (fun w hC => rd_arg g_1 hC) rfl) rfl ?_
            refine JL.gval rfl rfl (yl_move rfl) rfl ?_
            refine JL.gval rfl rfl (yl_sub rfl rfl) rfl ?_
            refine JL.gval rfl rfl (yl_move rfl) rfl ?_
            refine JL.gval rfl rfl (yl_sub rfl rfl) rfl ?_
            obtain ⟨x6, hx6, hres⟩ := bind_some hres
            refine JL.geff rfl rfl (ef_call (T := T65 x6) Go.Proofs.Try.func65 rfl (by kernel_rfl) rfl (fun w hC => c65  hx6)) rfl ?_
            rintro _ _ ⟨_, ⟨rfl, rfl⟩, rfl⟩
            refine JL.gval rfl rfl (yl_not rfl) rfl ?_
            refine JL.val (yl_pick_false rfl rfl) rfl ?_
            have he := Option.some.inj hres
            exact JL.weak [] K ⟨rfl, rfl, rfl, (by rw [← he]; rfl), trivial⟩ (by decide) rfl
      · refine JX.condF rfl hb ?_
        refine JX.exit ?_
        refine JE.qb rfl ?_
        obtain ⟨b1, hb1⟩ : ∃ b : Unit, b = () := ⟨_, rfl⟩
        have hy1 : Sum.inl b1 = y1 := by rw [hb1]; exact hox1 _ (Option.some.inj hres).symm
        have hres := elimS_inl hresO1 hy1
        refine JE.weak (env' := []) (es' := []) [] ?_ trivial (by decide) (by subst hb1; rfl)
        refine JE.code ?_
        refine JX.seq ?_
        refine JX.region ?_
        refine JL.val (yl_assign rfl) rfl ?_
        refine JL.nil ?_
        refine JE.code ?_
        refine JX.ret ?_
        obtain rfl := Option.some.inj hres
        refine JE.ret (rs := [.tmp 4]) (vs := [.bool true]) rfl ⟨rfl, trivial⟩ ?_
        exact fun w' hb hs => ⟨_, _, ⟨rfl, rfl⟩, rfl, hb, hs.sel [] _ (by decide) rfl⟩
  · intro K
    rcases Bool.eq_false_or_eq_true (!x1) with hb | hb
    · refine JL.set (d := 9) (v := .bool true) (congrArg (fun b => some (Value.bool b)) hb) ?_
      refine JL.gskip rfl rfl rfl rfl ?_
      refine JL.gskip rfl rfl rfl rfl ?_
      refine JL.gskip rfl rfl rfl rfl ?_
      refine JL.val (yl_pick_true rfl rfl) rfl ?_
      exact JL.weak [] K ⟨rfl, rfl, (by rw [hb]; rfl), trivial⟩ (by decide) rfl
    · refine JL.set (d := 9) (v := .bool false) (congrArg (fun b => some (Value.bool b)) hb) ?_
      refine JL.gval rfl rfl (yl_move rfl) rfl ?_
      refine JL.gval rfl rfl (yl_len_slice Go.Proofs.Try.underlying35 rfl) rfl ?_
      refine JL.gval rfl rfl (yl_gtr rfl rfl) rfl ?_
      refine JL.val (yl_pick_false rfl rfl) rfl ?_
      exact JL.weak [] K ⟨rfl, rfl, (by rw [hb]; rfl), trivial⟩ (by decide) rfl

/- spec.l23Place -/
def sh78_1 (q0 : List Int) (q1 : Int) : Int → Option (Int ⊕ (Unit ⊕ Int))
  | x1 => bif decide (x1 < (q0.length : Int)) then (Option.bind (getI q0 x1) fun x2 => bif x2 == q1 then (some (.inr (.inr x1))) else (some (.inl (w64 (x1 + 1))))) else (some (.inr (.inl ())))
def sh78 (q0 : List Int) (q1 : Int) : Option (Int) := Option.bind (iter (sh78_1 q0 q1) 0) fun y1 => elimS y1 (fun r => some r) fun b1 => (some (-1))
def T78 (r : Int) (v : Value) (rs : List Own) : Prop := v = rets [.int .i64 r] ∧ rs = []
set_option maxRecDepth 100000 in
theorem c78 {w : World} {q0 : List Int} {a_0 : Option Addr} {n_0 c_0 : Nat} (g_0 : Rd w a_0 (eI64.fl q0)) (l_0 : q0.length = n_0) (k_0 : n_0 ≤ c_0) {q1 : Int} {r : Int} (hres : sh78 q0 q1 = some r) : Calls Go.Proofs.Try.prog 78 [.slice a_0 n_0 c_0, .int .i64 q1].toArray w (Ret w (T78 r)) := by
  subst l_0
  unfold sh78 at hres
  refine calls_of (n := 19) (M := []) (es := []) Go.Proofs.Try.func78 rfl rfl rfl (Sep.nil _ _ _) ?_
  refine JX.seq ?_
  refine JX.region ?_
  refine JL.val (yl_assign rfl) rfl ?_
  refine JL.nil ?_
  refine JE.code ?_
  refine JX.seq ?_
  refine JX.seq ?_
  refine JX.region ?_
  refine JL.val (yl_assign rfl) rfl ?_
  refine JL.nil ?_
  refine JE.code ?_
  refine JX.block ?_
  obtain ⟨y1, hy1, hresO1⟩ := bind_some hres
  refine JX.loop (I := fun (s1 : Int) aa ww => St w [] 19 [(0, .slice a_0 q0.length c_0), (1, .int .i64 q1), (5, .int .i64 s1)] [] aa ww) (sh78_1 q0 q1) hy1 (fun a w h => h.weak ⟨rfl, rfl, rfl, trivial⟩ [] (by decide) rfl) ?_
  rintro x1 o1 hres hox1 aa ww hS
  refine (?_ : JX Go.Proofs.Try.prog w [] 19 _ _ [(0, .slice a_0 q0.length c_0), (1, .int .i64 q1), (5, .int .i64 x1)] [] _) aa ww hS
  clear hS
  unfold sh78_1 at hres
  refine JX.seq ?_
  refine JX.seq ?_
  refine JX.region ?_
  refine JL.val (yl_move rfl) rfl ?_
  refine JL.val (yl_move rfl) rfl ?_
  refine JL.val (yl_len_slice Go.Proofs.Try.underlying35 rfl) rfl ?_
  refine JL.val (yl_lss rfl rfl) rfl ?_
  refine JL.nil ?_
  refine JE.weak (env' := [(0, .slice a_0 q0.length c_0), (1, .int .i64 q1), (5, .int .i64 x1), (9, .bool (decide (x1 < (q0.length : Int))))]) (es' := []) [] ?_ ⟨rfl, rfl, rfl, rfl, trivial⟩ (by decide) rfl
  refine JE.code ?_
  rcases cond_some hres with ⟨hb, hres⟩ | ⟨hb, hres⟩
  · refine JX.condT rfl hb ?_
    refine JX.skip ?_
    refine JE.code ?_
    refine JX.seq ?_
    refine JX.block ?_
    refine JX.seq ?_
    refine JX.region ?_
    refine JL.val (yl_move rfl) rfl ?_
    refine JL.val (yl_move rfl) rfl ?_
    obtain ⟨x2, hx2, hres⟩ := bind_some hres
    refine JL.val (yl_idxT Go.Proofs.Try.underlying35 i2 i2s rfl rfl hx2 rfl (fun w hC => rd_arg g_0 hC)) rfl ?_
    refine JL.val (yl_loadT0 Go.Proofs.Try.underlying2 rfl rfl hx2 (fun w hC => rd_arg g_0 hC) rfl) rfl ?_
    refine JL.val (yl_move rfl) rfl ?_
    refine JL.val (yl_eql rfl rfl) rfl ?_
    refine JL.nil ?_
    refine JE.weak (env' := [(0, .slice a_0 q0.length c_0), (1, .int .i64 q1), (5, .int .i64 x1), (17, .bool (x2 == q1))]) (es' := []) [] ?_ ⟨rfl, rfl, rfl, rfl, trivial⟩ (by decide) rfl
    refine JE.code ?_
    rcases cond_some hres with ⟨hb, hres⟩ | ⟨hb, hres⟩
    · refine JX.condT rfl hb ?_
      refine JX.seq ?_
      refine JX.region ?_
      refine JL.val (yl_move rfl) rfl ?_
      refine JL.val (yl_assign rfl) rfl ?_
      refine JL.nil ?_
      refine JE.code ?_
      refine JX.ret ?_
      refine JE.qbr ?_
      refine JE.qbr ?_
      have hres := elimS_inr hresO1 (hox1 _ (Option.some.inj hres).symm)
      obtain rfl := Option.some.inj hres
      refine JE.ret (rs := [.tmp 4]) (vs := [.int .i64 x1]) rfl ⟨rfl, trivial⟩ ?_
      exact fun w' hb hs => ⟨_, _, ⟨rfl, rfl⟩, rfl, hb, hs.sel [] _ (by decide) rfl⟩
    · refine JX.condF rfl hb ?_
      refine JX.skip ?_
      refine JE.code ?_
      refine JX.region ?_
      refine JL.val (yl_move rfl) rfl ?_
      refine JL.val (yl_add rfl rfl) rfl ?_
      refine JL.val (yl_assign rfl) rfl ?_
      refine JL.nil ?_
      refine JE.cont hres ?_
      exact fun a w h => h.weak ⟨rfl, rfl, rfl, trivial⟩ [] (by decide) rfl
  · refine JX.condF rfl hb ?_
    refine JX.exit ?_
    refine JE.qb rfl ?_
    obtain ⟨b1, hb1⟩ : ∃ b : Unit, b = () := ⟨_, rfl⟩
    have hy1 : Sum.inl b1 = y1 := by rw [hb1]; exact hox1 _ (Option.some.inj hres).symm
    have hres := elimS_inl hresO1 hy1
    refine JE.weak (env' := []) (es' := []) [] ?_ trivial (by decide) (by subst hb1; rfl)
    refine JE.code ?_
    refine JX.seq ?_
    refine JX.region ?_
    refine JL.val (yl_assign rfl) rfl ?_
    refine JL.nil ?_
    refine JE.code ?_
    refine JX.ret ?_
    obtain rfl := Option.some.inj hres
    refine JE.ret (rs := [.tmp 4]) (vs := [.int .i64 (-1)]) rfl ⟨rfl, trivial⟩ ?_
    exact fun w' hb hs => ⟨_, _, ⟨rfl, rfl⟩, rfl, hb, hs.sel [] _ (by decide) rfl⟩

/- spec.l23First -/
def sh76_1 (q0 : Int) : (Int × List Int) → Option ((Int × List Int) ⊕ (List Int))
  | (x5, x6) => bif decide (x5 < q0) then (Option.bind (appL x6 [x5]) fun x11 => some (.inl (w64 (x5 + 1), x11))) else (some (.inr x6))
def sh76 (q0 : Int) : Option (List Int) := Option.bind (iter (sh76_1 q0) (0, ([] : List Int))) fun b1 => (some b1)
def T76 (r : List Int) (v : Value) (rs : List Own) : Prop := ∃ (a0 : Option Addr) (n0 c0 : Nat), r.length = n0 ∧ v = rets [.slice a0 n0 c0] ∧ rs = [rowT 2 eI64 a0 n0 c0 r]
set_option maxRecDepth 100000 in
theorem c76 {w : World} {q0 : Int} {r : List Int} (hres : sh76 q0 = some r) : Calls Go.Proofs.Try.prog 76 [.int .i64 q0].toArray w (Ret w (T76 r)) := by
  unfold sh76 at hres
  refine calls_of (n := 16) (M := []) (es := []) Go.Proofs.Try.func76 rfl rfl rfl (Sep.nil _ _ _) ?_
  refine JX.seq ?_
  refine JX.region ?_
  refine JL.val (yl_assign rfl) rfl ?_
  refine JL.nil ?_
  refine JE.code ?_
  refine JX.seq ?_
  refine JX.region ?_
  refine JL.eff (ef_buildSlice (E := 2) (k := eI64.k) (us := eI64.fl ([] : List Int)) rfl (fun w => bsl35_0  w) rfl (by decide)) rfl ?_
  rintro _ _ ⟨a1, rfl, rfl⟩
  refine JL.val (yl_assign rfl) rfl ?_
  refine JL.nil ?_
  refine JE.code ?_
  refine JX.seq ?_
  refine JX.seq ?_
  refine JX.region ?_
  refine JL.val (yl_assign rfl) rfl ?_
  refine JL.nil ?_
  refine JE.code ?_
  refine JX.block ?_
  obtain ⟨y1, hy1, hresO1⟩ := bind_some hres
  refine JX.loop (I := fun (s1 : Int × List Int) aa ww => ∃ (a3 : Option Addr) (cp4 : Nat), St w [] 16 [(0, .int .i64 q0), (3, .slice a3 s1.2.length cp4), (4, .int .i64 s1.1)] [rowT 2 eI64 a3 s1.2.length cp4 s1.2] aa ww) (sh76_1 q0) hy1 (fun a w h => ⟨a1, 0, h.weak ⟨rfl, rfl, rfl, trivial⟩ [0] (by decide) rfl⟩) ?_
  rintro ⟨x5, x6⟩ o1 hres hox1 aa ww ⟨a7, cp8, hS⟩
  refine (?_ : JX Go.Proofs.Try.prog w [] 16 _ _ [(0, .int .i64 q0), (3, .slice a7 x6.length cp8), (4, .int .i64 x5)] [rowT 2 eI64 a7 x6.length cp8 x6] _) aa ww hS
  clear hS
  simp only [sh76_1] at hres
  refine JX.seq ?_
  refine JX.seq ?_
  refine JX.region ?_
  refine JL.val (yl_move rfl) rfl ?_
  refine JL.val (yl_move rfl) rfl ?_
  refine JL.val (yl_lss rfl rfl) rfl ?_
  refine JL.nil ?_
  refine JE.code ?_
  rcases cond_some hres with ⟨hb, hres⟩ | ⟨hb, hres⟩
  · refine JX.condT rfl hb ?_
    refine JX.skip ?_
    refine JE.code ?_
    refine JX.seq ?_
    refine JX.block ?_
    refine JX.region ?_
    refine JL.val (yl_move rfl) rfl ?_
    refine JL.val (yl_move rfl) rfl ?_
    refine JL.eff (ef_buildSlice (E := 2) (k := eI64.k) (us := eI64.fl [x5]) rfl (fun w => bsl35_1 x5 w) rfl (by decide)) rfl ?_
    rintro _ _ ⟨a9, rfl, rfl⟩
    obtain ⟨x11, hx11, hres⟩ := bind_some hres
    refine JL.eff (ef_appendT (ix := 0) Go.Proofs.Try.underlying35 i2 i2z i2s rfl i2b0 i2b1 rfl rfl rfl rfl rfl (fun w hC => rd_row hC 1 rfl) hx11) rfl ?_
    rintro _ _ ⟨a12, cp13, rfl, rfl⟩
    refine JL.val (yl_assign rfl) rfl ?_
    refine JL.nil ?_
    refine JE.weak (env' := [(0, .int .i64 q0), (3, .slice a12 x11.length cp13), (4, .int .i64 x5)]) (es' := [rowT 2 eI64 a12 x11.length cp13 x11]) [0] ?_ ⟨rfl, rfl, rfl, trivial⟩ (by decide) rfl
    refine JE.code ?_
    refine JX.region ?_
    refine JL.val (yl_move rfl) rfl ?_
    refine JL.val (yl_add rfl rfl) rfl ?_
    refine JL.val (yl_assign rfl) rfl ?_
    refine JL.nil ?_
    refine JE.cont hres ?_
    exact fun a w h => ⟨a12, cp13, h.weak ⟨rfl, rfl, rfl, trivial⟩ [0] (by decide) rfl⟩
  · refine JX.condF rfl hb ?_
    refine JX.exit ?_
    refine JE.qb rfl ?_
    obtain ⟨b1, hb1⟩ : ∃ b : List Int, b = x6 := ⟨_, rfl⟩
    have hy1 : b1 = y1 := by rw [hb1]; exact hox1 _ (Option.some.inj hres).symm
    have hres := hresO1
    rw [← hy1] at hres
    refine JE.weak (env' := [(3, .slice a7 b1.length cp8)]) (es' := [rowT 2 eI64 a7 b1.length cp8 b1]) [0] ?_ ⟨(by subst hb1; rfl), trivial⟩ (by decide) (by subst hb1; rfl)
    refine JE.code ?_
    refine JX.seq ?_
    refine JX.region ?_
    refine JL.val (yl_move rfl) rfl ?_
    refine JL.val (yl_assign rfl) rfl ?_
    refine JL.nil ?_
    refine JE.code ?_
    refine JX.ret ?_
    obtain rfl := Option.some.inj hres
    refine JE.ret (rs := [.tmp 2]) (vs := [.slice a7 b1.length cp8]) rfl ⟨rfl, trivial⟩ ?_
    exact fun w' hb hs => ⟨_, _, ⟨a7, b1.length, cp8, rfl, rfl, rfl⟩, rfl, hb, hs.sel [0] _ (by decide) rfl⟩

/- spec.l00Max -/
def sh71 (q0 : Int) (q1 : Int) : Option (Int) := bif decide (q1 < q0) then (some q0) else (some q1)
def T71 (r : Int) (v : Value) (rs : List Own) : Prop := v = rets [.int .i64 r] ∧ rs = []
set_option maxRecDepth 100000 in
theorem c71 {w : World} {q0 : Int} {q1 : Int} {r : Int} (hres : sh71 q0 q1 = some r) : Calls Go.Proofs.Try.prog 71 [.int .i64 q0, .int .i64 q1].toArray w (Ret w (T71 r)) := by
  unfold sh71 at hres
  refine calls_of (n := 10) (M := []) (es := []) Go.Proofs.Try.func71 rfl rfl rfl (Sep.nil _ _ _) ?_
  refine JX.seq ?_
  refine JX.region ?_
  refine JL.val (yl_assign rfl) rfl ?_
  refine JL.nil ?_
  refine JE.code ?_
  refine JX.seq ?_
  refine JX.seq ?_
  refine JX.region ?_
  refine JL.val (yl_move rfl) rfl ?_
  refine JL.val (yl_move rfl) rfl ?_
  refine JL.val (yl_gtr rfl rfl) rfl ?_
  refine JL.nil ?_
  refine JE.code ?_
  rcases cond_some hres with ⟨hb, hres⟩ | ⟨hb, hres⟩
  · refine JX.condT rfl hb ?_
    refine JX.seq ?_
    refine JX.region ?_
    refine JL.val (yl_move rfl) rfl ?_
    refine JL.val (yl_assign rfl) rfl ?_
    refine JL.nil ?_
    refine JE.code ?_
    refine JX.ret ?_
    obtain rfl := Option.some.inj hres
    refine JE.ret (rs := [.tmp 4]) (vs := [.int .i64 q0]) rfl ⟨rfl, trivial⟩ ?_
    exact fun w' hb hs => ⟨_, _, ⟨rfl, rfl⟩, rfl, hb, hs.sel [] _ (by decide) rfl⟩
  · refine JX.condF rfl hb ?_
    refine JX.skip ?_
    refine JE.code ?_
    refine JX.seq ?_
    refine JX.region ?_
    refine JL.val (yl_move rfl) rfl ?_
    refine JL.val (yl_assign rfl) rfl ?_
    refine JL.nil ?_
    refine JE.code ?_
    refine JX.ret ?_
    obtain rfl := Option.some.inj hres
    refine JE.ret (rs := [.tmp 4]) (vs := [.int .i64 q1]) rfl ⟨rfl, trivial⟩ ?_
    exact fun w' hb hs => ⟨_, _, ⟨rfl, rfl⟩, rfl, hb, hs.sel [] _ (by decide) rfl⟩

/- spec.l15Size -/
def sh70 (q0 : Int) : Option (Int) := Option.bind (sh71 q0 (w64 (0 - q0))) fun x1 => some x1
def T70 (r : Int) (v : Value) (rs : List Own) : Prop := v = rets [.int .i64 r] ∧ rs = []
set_option maxRecDepth 100000 in
theorem c70 {w : World} {q0 : Int} {r : Int} (hres : sh70 q0 = some r) : Calls Go.Proofs.Try.prog 70 [.int .i64 q0].toArray w (Ret w (T70 r)) := by
  unfold sh70 at hres
  refine calls_of (n := 7) (M := []) (es := []) Go.Proofs.Try.func70 rfl rfl rfl (Sep.nil _ _ _) ?_
  refine JX.seq ?_
  refine JX.region ?_
  refine JL.val (yl_assign rfl) rfl ?_
  refine JL.nil ?_
  refine JE.code ?_
  refine JX.seq ?_
  refine JX.region ?_
  refine JL.val (yl_move rfl) rfl ?_
  refine JL.val (yl_move rfl) rfl ?_
  refine JL.val (yl_neg rfl) rfl ?_
  obtain ⟨x1, hx1, hres⟩ := bind_some hres
  refine JL.eff (ef_call (T := T71 x1) Go.Proofs.Try.func71 rfl (by kernel_rfl) rfl (fun w hC => c71  hx1)) rfl ?_
  rintro _ _ ⟨_, ⟨rfl, rfl⟩, rfl⟩
  refine JL.val (yl_assign rfl) rfl ?_
  refine JL.nil ?_
  refine JE.weak (env' := [(2, .int .i64 x1)]) (es' := []) [] ?_ ⟨rfl, trivial⟩ (by decide) rfl
  refine JE.code ?_
  refine JX.ret ?_
  obtain rfl := Option.some.inj hres
  refine JE.ret (rs := [.tmp 2]) (vs := [.int .i64 x1]) rfl ⟨rfl, trivial⟩ ?_
  exact fun w' hb hs => ⟨_, _, ⟨rfl, rfl⟩, rfl, hb, hs.sel [] _ (by decide) rfl⟩

/- spec.l23Swap -/
def sh77 (q0 : List Int) (q1 : Int) : Option (List Int) := Option.bind (sh70 q1) fun x1 => Option.bind (getI q0 (w64 (x1 - 1))) fun x2 => Option.bind (getI q0 x1) fun x3 => Option.bind (getI q0 (w64 (x1 - 1))) fun x4 => Option.bind (getI (q0.set (w64 (x1 - 1)).toNat x3) x1) fun x5 => some ((q0.set (w64 (x1 - 1)).toNat x3).set (x1).toNat x2)
def T77 (a_ : Option Addr) (n_ c_ : Nat) (r : List Int) (v : Value) (e' : Own) (rs : List Own) : Prop := r.length = n_ ∧ e' = rowT 2 eI64 a_ n_ c_ r ∧ v = rets [] ∧ rs = []
set_option maxRecDepth 100000 in
theorem c77 {w : World} {q0 : List Int} {a_0 : Option Addr} {n_0 c_0 : Nat} {M : List Nat} (g_0 : Sep w.heap.size M w [rowT 2 eI64 a_0 n_0 c_0 q0]) (l_0 : q0.length = n_0) {q1 : Int} {r : List Int} (hres : sh77 q0 q1 = some r) : Calls Go.Proofs.Try.prog 77 [.slice a_0 n_0 c_0, .int .i64 q1].toArray w (RetM w M (T77 a_0 n_0 c_0 r)) := by
  subst l_0
  unfold sh77 at hres
  refine calls_of (n := 25) (M := M) (es := [rowT 2 eI64 a_0 q0.length c_0 q0]) Go.Proofs.Try.func77 rfl rfl rfl g_0 ?_
  refine JX.seq ?_
  refine JX.region ?_
  refine JL.val (yl_move rfl) rfl ?_
  obtain ⟨x1, hx1, hres⟩ := bind_some hres
  refine JL.eff (ef_call (T := T70 x1) Go.Proofs.Try.func70 rfl (by kernel_rfl) rfl (fun w hC => c70  hx1)) rfl ?_
  rintro _ _ ⟨_, ⟨rfl, rfl⟩, rfl⟩
  refine JL.val (yl_assign rfl) rfl ?_
  refine JL.nil ?_
  refine JE.code ?_
  refine JX.seq ?_
  refine JX.region ?_
  refine JL.val (yl_move rfl) rfl ?_
  refine JL.val (yl_move rfl) rfl ?_
  refine JL.val (yl_sub rfl rfl) rfl ?_
  obtain ⟨x2, hx2, hres⟩ := bind_some hres
  refine JL.val (yl_idxT Go.Proofs.Try.underlying35 i2 i2s rfl rfl hx2 rfl (fun w hC => rd_row hC 0 rfl)) rfl ?_
  refine JL.val (yl_loadT0 Go.Proofs.Try.underlying2 rfl rfl hx2 (fun w hC => rd_row hC 0 rfl) rfl) rfl ?_
  refine JL.val (yl_assign rfl) rfl ?_
  refine JL.nil ?_
  refine JE.weak (env' := [(0, .slice a_0 q0.length c_0), (4, .int .i64 x1), (5, .int .i64 x2)]) (es' := [rowT 2 eI64 a_0 q0.length c_0 q0]) [0] ?_ ⟨rfl, rfl, rfl, trivial⟩ (by decide) rfl
  refine JE.code ?_
  refine JX.seq ?_
  refine JX.region ?_
  refine JL.val (yl_move rfl) rfl ?_
  refine JL.val (yl_move rfl) rfl ?_
  refine JL.val (yl_sub rfl rfl) rfl ?_
  refine JL.val (yl_move rfl) rfl ?_
  refine JL.val (yl_move rfl) rfl ?_
  obtain ⟨x3, hx3, hres⟩ := bind_some hres
  refine JL.val (yl_idxT Go.Proofs.Try.underlying35 i2 i2s rfl rfl hx3 rfl (fun w hC => rd_row hC 0 rfl)) rfl ?_
  refine JL.val (yl_loadT0 Go.Proofs.Try.underlying2 rfl rfl hx3 (fun w hC => rd_row hC 0 rfl) rfl) rfl ?_
  obtain ⟨x4, hx4, hres⟩ := bind_some hres
  refine JL.val (yl_idxT Go.Proofs.Try.underlying35 i2 i2s rfl rfl hx4 rfl (fun w hC => rd_row hC 0 rfl)) rfl ?_
  refine JL.eff (ef_storeT (ix := 0) (u := x3) i2 i2s rfl rfl rfl hx4 rfl) rfl ?_
  rintro _ _ rfl
  refine JL.nil ?_
  refine JE.weak (env' := [(0, .slice a_0 q0.length c_0), (4, .int .i64 x1), (5, .int .i64 x2)]) (es' := [rowT 2 eI64 a_0 q0.length c_0 (q0.set (w64 (x1 - 1)).toNat x3)]) [0] ?_ ⟨rfl, rfl, rfl, trivial⟩ (by decide) rfl
  refine JE.code ?_
  refine JX.region ?_
  refine JL.val (yl_move rfl) rfl ?_
  refine JL.val (yl_move rfl) rfl ?_
  refine JL.val (yl_move rfl) rfl ?_
  obtain ⟨x5, hx5, hres⟩ := bind_some hres
  refine JL.val (yl_idxT Go.Proofs.Try.underlying35 i2 i2s rfl rfl hx5 List.length_set (fun w hC => rd_row hC 0 rfl)) rfl ?_
  refine JL.eff (ef_storeT (ix := 0) (u := x2) i2 i2s rfl rfl rfl hx5 rfl) rfl ?_
  rintro _ _ rfl
  refine JL.nil ?_
  refine JE.weak (env' := []) (es' := [rowT 2 eI64 a_0 q0.length c_0 ((q0.set (w64 (x1 - 1)).toNat x3).set (x1).toNat x2)]) [0] ?_ trivial (by decide) rfl
  show JE _ _ _ (bodyPost _ _ _ .ret) _ _
  obtain rfl := Option.some.inj hres
  refine JE.ret (rs := []) (vs := []) rfl trivial ?_
  exact fun w' hb hs => ⟨_, _, _, ⟨(List.length_set.trans List.length_set), rfl, rfl, rfl⟩, rfl, hb, hs.sel [0] _ (by decide) rfl⟩

/- spec.l23Order -/
def sh97_1 (q1 : List Int) : (Int × List Int) → Option ((Int × List Int) ⊕ (List Int))
  | (x6, x7) => bif decide (x6 < (q1.length : Int)) then (Option.bind (getI q1 x6) fun x9 => Option.bind (sh77 x7 x9) fun x10 => some (.inl (w64 (x6 + 1), x10))) else (some (.inr x7))
def sh97 (q0 : Int) (q1 : List Int) : Option (List Int) := Option.bind (sh76 q0) fun x1 => Option.bind (iter (sh97_1 q1) (0, x1)) fun b1 => (some b1)
def T97 (r : List Int) (v : Value) (rs : List Own) : Prop := ∃ (a0 : Option Addr) (n0 c0 : Nat), r.length = n0 ∧ v = rets [.slice a0 n0 c0] ∧ rs = [rowT 2 eI64 a0 n0 c0 r]
set_option maxRecDepth 100000 in
theorem c97 {w : World} {q0 : Int} {q1 : List Int} {a_1 : Option Addr} {n_1 c_1 : Nat} (g_1 : Rd w a_1 (eI64.fl q1)) (l_1 : q1.length = n_1) (k_1 : n_1 ≤ c_1) {r : List Int} (hres : sh97 q0 q1 = some r) : Calls Go.Proofs.Try.prog 97 [.int .i64 q0, .slice a_1 n_1 c_1].toArray w (Ret w (T97 r)) := by
  subst l_1
  unfold sh97 at hres
  refine calls_of (n := 22) (M := []) (es := []) Go.Proofs.Try.func97 rfl rfl rfl (Sep.nil _ _ _) ?_
  refine JX.seq ?_
  refine JX.region ?_
  refine JL.val (yl_assign rfl) rfl ?_
  refine JL.nil ?_
  refine JE.code ?_
  refine JX.seq ?_
  refine JX.region ?_
  refine JL.val (yl_move rfl) rfl ?_
  obtain ⟨x1, hx1, hres⟩ := bind_some hres
  refine JL.eff (ef_call (T := T76 x1) Go.Proofs.Try.func76 rfl (by kernel_rfl) rfl (fun w hC => c76  hx1)) rfl ?_
  rintro _ _ ⟨_, ⟨a2, _, cp3, rfl, rfl, rfl⟩, rfl⟩
  refine JL.val (yl_assign rfl) rfl ?_
  refine JL.nil ?_
  refine JE.code ?_
  refine JX.seq ?_
  refine JX.seq ?_
  refine JX.region ?_
  refine JL.val (yl_assign rfl) rfl ?_
  refine JL.nil ?_
  refine JE.code ?_
  refine JX.block ?_
  obtain ⟨y1, hy1, hresO1⟩ := bind_some hres
  refine JX.loop (I := fun (s1 : Int × List Int) aa ww => ∃ (l5 : s1.2.length = x1.length), St w [] 22 [(1, .slice a_1 q1.length c_1), (5, .slice a2 x1.length cp3), (6, .int .i64 s1.1)] [rowT 2 eI64 a2 x1.length cp3 s1.2] aa ww) (sh97_1 q1) hy1 (fun a w h => ⟨rfl, h.weak ⟨rfl, rfl, rfl, trivial⟩ [0] (by decide) rfl⟩) ?_
  rintro ⟨x6, x7⟩ o1 hres hox1 aa ww ⟨l8, hS⟩
  refine (?_ : JX Go.Proofs.Try.prog w [] 22 _ _ [(1, .slice a_1 q1.length c_1), (5, .slice a2 x1.length cp3), (6, .int .i64 x6)] [rowT 2 eI64 a2 x1.length cp3 x7] _) aa ww hS
  clear hS
  simp only [sh97_1] at hres
  refine JX.seq ?_
  refine JX.seq ?_
  refine JX.region ?_
  refine JL.val (yl_move rfl) rfl ?_
  refine JL.val (yl_move rfl) rfl ?_
  refine JL.val (yl_len_slice Go.Proofs.Try.underlying35 rfl) rfl ?_
  refine JL.val (yl_lss rfl rfl) rfl ?_
  refine JL.nil ?_
  refine JE.weak (env' := [(1, .slice a_1 q1.length c_1), (5, .slice a2 x1.length cp3), (6, .int .i64 x6), (12, .bool (decide (x6 < (q1.length : Int))))]) (es' := [rowT 2 eI64 a2 x1.length cp3 x7]) [0] ?_ ⟨rfl, rfl, rfl, rfl, trivial⟩ (by decide) rfl
  refine JE.code ?_
  rcases cond_some hres with ⟨hb, hres⟩ | ⟨hb, hres⟩
  · refine JX.condT rfl hb ?_
    refine JX.skip ?_
    refine JE.code ?_
    refine JX.seq ?_
    refine JX.block ?_
    refine JX.region ?_
    refine JL.val (yl_move rfl) rfl ?_
    refine JL.val (yl_move rfl) rfl ?_
    refine JL.val (yl_move rfl) rfl ?_
    obtain ⟨x9, hx9, hres⟩ := bind_some hres
    refine JL.val (yl_idxT Go.Proofs.Try.underlying35 i2 i2s rfl rfl hx9 rfl (fun w hC => rd_arg g_1 hC)) rfl ?_
    refine JL.val (yl_loadT0 Go.Proofs.Try.underlying2 rfl rfl hx9 (fun w hC => rd_arg g_1 hC) rfl) rfl ?_
    obtain ⟨x10, hx10, hres⟩ := bind_some hres
    refine JL.eff (ef_callm (T := T77 a2 x1.length cp3 x10) 0 Go.Proofs.Try.func77 rfl (by kernel_rfl) rfl rfl (fun w fp hs => c77 hs l8 hx10)) rfl ?_
    rintro _ _ ⟨_, _, ⟨l11, rfl, rfl, rfl⟩, rfl⟩
    refine JL.nil ?_
    refine JE.weak (env' := [(1, .slice a_1 q1.length c_1), (5, .slice a2 x1.length cp3), (6, .int .i64 x6)]) (es' := [rowT 2 eI64 a2 x1.length cp3 x10]) [0] ?_ ⟨rfl, rfl, rfl, trivial⟩ (by decide) rfl
    refine JE.code ?_
    refine JX.region ?_
    refine JL.val (yl_move rfl) rfl ?_
    refine JL.val (yl_add rfl rfl) rfl ?_
    refine JL.val (yl_assign rfl) rfl ?_
    refine JL.nil ?_
    refine JE.cont hres ?_
    exact fun a w h => ⟨l11, h.weak ⟨rfl, rfl, rfl, trivial⟩ [0] (by decide) rfl⟩
  · refine JX.condF rfl hb ?_
    refine JX.exit ?_
    refine JE.qb rfl ?_
    obtain ⟨b1, hb1⟩ : ∃ b : List Int, b = x7 := ⟨_, rfl⟩
    have hy1 : b1 = y1 := by rw [hb1]; exact hox1 _ (Option.some.inj hres).symm
    have hres := hresO1
    rw [← hy1] at hres
    have l12 : b1.length = x1.length := by subst hb1; exact l8
    refine JE.weak (env' := [(5, .slice a2 x1.length cp3)]) (es' := [rowT 2 eI64 a2 x1.length cp3 b1]) [0] ?_ ⟨(by subst hb1; rfl), trivial⟩ (by decide) (by subst hb1; rfl)
    refine JE.code ?_
    refine JX.seq ?_
    refine JX.region ?_
    refine JL.val (yl_move rfl) rfl ?_
    refine JL.val (yl_assign rfl) rfl ?_
    refine JL.nil ?_
    refine JE.code ?_
    refine JX.ret ?_
    obtain rfl := Option.some.inj hres
    refine JE.ret (rs := [.tmp 4]) (vs := [.slice a2 x1.length cp3]) rfl ⟨rfl, trivial⟩ ?_
    exact fun w' hb hs => ⟨_, _, ⟨a2, x1.length, cp3, l12, rfl, rfl⟩, rfl, hb, hs.sel [0] _ (by decide) rfl⟩

/- spec.ClosedStrands -/
def sh54_2 (x4 : List Int) : (Int × List Bool × List Int) → Option ((Int × List Bool × List Int) ⊕ (List Bool × List Int))
  | (x32, x33, x34) => Option.bind (getI x33 x32) fun x38 => bif !x38 then (Option.bind (getI x33 x32) fun x39 => Option.bind (appL x34 [x32]) fun x42 => Option.bind (sh78 x4 x32) fun x45 => some (.inl (x45, x33.set (x32).toNat true, x42))) else (some (.inr (x33, x34)))
def sh54_1 (q0 : Int) (x4 : List Int) : (Int × List Bool × List (List Int)) → Option ((Int × List Bool × List (List Int)) ⊕ (List (List Int)))
  | (x19, x20, x21) => bif decide (x19 < q0) then (Option.bind (iter (sh54_2 x4) (x19, x20, ([] : List Int))) fun b2 => (Option.bind (bif decide (0 < (b2.2.length : Int)) then (Option.bind (appL x21 [b2.2]) fun x56 => some x56) else (some x21)) fun j49 => (some (.inl (w64 (x19 + 1), b2.1, j49))))) else (some (.inr x21))
def sh54 (q0 : Int) (q1 : List Int) : Option (List (List Int) × Int) := Option.bind (sh69 q0 q1) fun x1 => bif !x1 then (some (([] : List (List Int)), 1)) else (Option.bind (sh97 q0 q1) fun x4 => Option.bind (mkL q0 false) fun x8 => Option.bind (iter (sh54_1 q0 x4) (0, x8, ([] : List (List Int)))) fun b1 => (some (b1, 0)))
def T54 (r : List (List Int) × Int) (v : Value) (rs : List Own) : Prop := ∃ (a0 : Option Addr) (n0 c0 : Nat) (h0 : List Hd), r.1.length = n0 ∧ Inn h0 r.1 ∧ v = rets [.slice a0 n0 c0, .int .i64 r.2] ∧ rs = [rowT 35 eHd a0 n0 c0 h0, innO 2 eI64 none h0 r.1]
set_option maxRecDepth 100000 in
theorem c54 {w : World} {q0 : Int} {q1 : List Int} {a_1 : Option Addr} {n_1 c_1 : Nat} (g_1 : Rd w a_1 (eI64.fl q1)) (l_1 : q1.length = n_1) (k_1 : n_1 ≤ c_1) {r : List (List Int) × Int} (hres : sh54 q0 q1 = some r) : Calls Go.Proofs.Try.prog 54 [.int .i64 q0, .slice a_1 n_1 c_1].toArray w (Ret w (T54 r)) := by
  subst l_1
  unfold sh54 at hres
  refine calls_of (n := 52) (M := []) (es := []) Go.Proofs.Try.func54 rfl rfl rfl (Sep.nil _ _ _) ?_
  refine JX.seq ?_
  refine JX.region ?_
  refine JL.val (yl_assign rfl) rfl ?_
  refine JL.val (yl_assign rfl) rfl ?_
  refine JL.nil ?_
  refine JE.code ?_
  refine JX.seq ?_
  refine JX.seq ?_
  refine JX.region ?_
  refine JL.val (yl_move rfl) rfl ?_
  refine JL.val (yl_move rfl) rfl ?_
  obtain ⟨x1, hx1, hres⟩ := bind_some hres
  refine JL.eff (ef_call (T := T69 x1) Go.Proofs.Try.func69 rfl (by kernel_rfl) rfl (fun w hC => c69 (rd_arg g_1 hC) rfl k_1 hx1)) rfl ?_
  rintro _ _ ⟨_, ⟨rfl, rfl⟩, rfl⟩
  refine JL.val (yl_not rfl) rfl ?_
  refine JL.nil ?_
  refine JE.weak (env' := [(0, .int .i64 q0), (1, .slice a_1 q1.length c_1), (15, .bool !x1)]) (es' := []) [] ?_ ⟨rfl, rfl, rfl, trivial⟩ (by decide) rfl
  refine JE.code ?_
  rcases cond_some hres with ⟨hb, hres⟩ | ⟨hb, hres⟩
  · refine JX.condT rfl hb ?_
    refine JX.seq ?_
    refine JX.region ?_
    refine JL.val (yl_assign rfl) rfl ?_
    refine JL.val (yl_assign rfl) rfl ?_
    refine JL.nil ?_
    refine JE.code ?_
    refine JX.ret ?_
    refine JE.nilrow 35 eHd ?_
    refine JE.nilinn 2 eI64 ?_
    obtain rfl := Option.some.inj hres
    refine JE.ret (rs := [.tmp 4, .tmp 5]) (vs := [.slice none 0 0, .int .i64 1]) rfl ⟨rfl, rfl, trivial⟩ ?_
    exact fun w' hb hs => ⟨_, _, ⟨none, 0, 0, ([] : List Hd), ((Inn.len (Inn.nil (T := Int))).symm.trans rfl), (Inn.nil (T := Int)), rfl, rfl⟩, rfl, hb, hs.sel [0, 1] _ (by decide) rfl⟩
  · refine JX.condF rfl hb ?_
    refine JX.skip ?_
    refine JE.code ?_
    refine JX.seq ?_
    refine JX.region ?_
    refine JL.val (yl_move rfl) rfl ?_
    refine JL.val (yl_move rfl) rfl ?_
    obtain ⟨x4, hx4, hres⟩ := bind_some hres
    refine JL.eff (ef_call (T := T97 x4) Go.Proofs.Try.func97 rfl (by kernel_rfl) rfl (fun w hC => c97 (rd_arg g_1 hC) rfl k_1 hx4)) rfl ?_
    rintro _ _ ⟨_, ⟨a5, _, cp6, rfl, rfl, rfl⟩, rfl⟩
    refine JL.val (yl_assign rfl) rfl ?_
    refine JL.nil ?_
    refine JE.weak (env' := [(0, .int .i64 q0), (6, .slice a5 x4.length cp6)]) (es' := [rowT 2 eI64 a5 x4.length cp6 x4]) [0] ?_ ⟨rfl, rfl, trivial⟩ (by decide) rfl
    refine JE.code ?_
    refine JX.seq ?_
    refine JX.region ?_
    refine JL.val (yl_move rfl) rfl ?_
    obtain ⟨x8, hx8, hres⟩ := bind_some hres
    refine JL.eff (ef_makeS (e := eBool) Go.Proofs.Try.underlying106 i4 i4s i4z rfl i4b1 rfl rfl hx8) rfl ?_
    rintro _ _ ⟨a9, rfl, rfl⟩
    refine JL.val (yl_assign rfl) rfl ?_
    refine JL.nil ?_
    refine JE.code ?_
    refine JX.seq ?_
    refine JX.region ?_
    refine JL.eff (ef_buildSlice (E := 35) (k := eHd.k) (us := eHd.fl ([] : List Hd)) rfl (fun w => bsl36_0  w) rfl (by decide)) rfl ?_
    rintro _ _ ⟨a11, rfl, rfl⟩
    refine JL.nilinn 2 eI64 ?_
    refine JL.val (yl_assign rfl) rfl ?_
    refine JL.nil ?_
    refine JE.code ?_
    refine JX.seq ?_
    refine JX.seq ?_
    refine JX.region ?_
    refine JL.val (yl_assign rfl) rfl ?_
    refine JL.nil ?_
    refine JE.code ?_
    refine JX.block ?_
    obtain ⟨y1, hy1, hresO1⟩ := bind_some hres
    refine JX.loop (I := fun (s1 : Int × List Bool × List (List Int)) aa ww => ∃ (l14 : s1.2.1.length = x8.length) (a15 : Option Addr) (cp16 : Nat) (hs17 : List Hd) (hi18 : Inn hs17 s1.2.2), St w [] 52 [(0, .int .i64 q0), (6, .slice a5 x4.length cp6), (7, .slice a9 x8.length x8.length), (8, .slice a15 s1.2.2.length cp16), (9, .int .i64 s1.1)] [rowT 2 eI64 a5 x4.length cp6 x4, rowT 4 eBool a9 x8.length x8.length s1.2.1, rowT 35 eHd a15 s1.2.2.length cp16 hs17, innO 2 eI64 none hs17 s1.2.2] aa ww) (sh54_1 q0 x4) hy1 (fun a w h => ⟨rfl, a11, 0, ([] : List Hd), (Inn.nil (T := Int)), h.weak ⟨rfl, rfl, rfl, rfl, rfl, trivial⟩ [0, 1, 2, 3] (by decide) rfl⟩) ?_
    rintro ⟨x19, x20, x21⟩ o1 hres hox1 aa ww ⟨l22, a23, cp24, hs25, hi26, hS⟩
    refine (?_ : JX Go.Proofs.Try.prog w [] 52 _ _ [(0, .int .i64 q0), (6, .slice a5 x4.length cp6), (7, .slice a9 x8.length x8.length), (8, .slice a23 x21.length cp24), (9, .int .i64 x19)] [rowT 2 eI64 a5 x4.length cp6 x4, rowT 4 eBool a9 x8.length x8.length x20, rowT 35 eHd a23 x21.length cp24 hs25, innO 2 eI64 none hs25 x21] _) aa ww hS
    clear hS
    simp only [sh54_1] at hres
    refine JX.seq ?_
    refine JX.seq ?_
    refine JX.region ?_
    refine JL.val (yl_move rfl) rfl ?_
    refine JL.val (yl_move rfl) rfl ?_
    refine JL.val (yl_lss rfl rfl) rfl ?_
    refine JL.nil ?_
    refine JE.code ?_
    rcases cond_some hres with ⟨hb, hres⟩ | ⟨hb, hres⟩
    · refine JX.condT rfl hb ?_
      refine JX.skip ?_
      refine JE.code ?_
      refine JX.seq ?_
      refine JX.block ?_
      refine JX.seq ?_
      refine JX.region ?_
      refine JL.eff (ef_buildSlice (E := 2) (k := eI64.k) (us := eI64.fl ([] : List Int)) rfl (fun w => bsl35_0  w) rfl (by decide)) rfl ?_
      rintro _ _ ⟨a27, rfl, rfl⟩
      refine JL.val (yl_assign rfl) rfl ?_
      refine JL.nil ?_
      refine JE.code ?_
      refine JX.seq ?_
      refine JX.seq ?_
      refine JX.region ?_
      refine JL.val (yl_move rfl) rfl ?_
      refine JL.val (yl_assign rfl) rfl ?_
      refine JL.nil ?_
      refine JE.code ?_
      refine JX.block ?_
      obtain ⟨y2, hy2, hresO2⟩ := bind_some hres
      refine JX.loop (I := fun (s2 : Int × List Bool × List Int) aa ww => ∃ (l29 : s2.2.1.length = x8.length) (a30 : Option Addr) (cp31 : Nat), St w [] 52 [(0, .int .i64 q0), (6, .slice a5 x4.length cp6), (7, .slice a9 x8.length x8.length), (8, .slice a23 x21.length cp24), (9, .int .i64 x19), (10, .slice a30 s2.2.2.length cp31), (11, .int .i64 s2.1)] [rowT 2 eI64 a5 x4.length cp6 x4, rowT 4 eBool a9 x8.length x8.length s2.2.1, rowT 35 eHd a23 x21.length cp24 hs25, innO 2 eI64 none hs25 x21, rowT 2 eI64 a30 s2.2.2.length cp31 s2.2.2] aa ww) (sh54_2 x4) hy2 (fun a w h => ⟨l22, a27, 0, h.weak ⟨rfl, rfl, rfl, rfl, rfl, rfl, rfl, trivial⟩ [0, 1, 2, 3, 4] (by decide) rfl⟩) ?_
      rintro ⟨x32, x33, x34⟩ o2 hres hox2 aa ww ⟨l35, a36, cp37, hS⟩
      refine (?_ : JX Go.Proofs.Try.prog w [] 52 _ _ [(0, .int .i64 q0), (6, .slice a5 x4.length cp6), (7, .slice a9 x8.length x8.length), (8, .slice a23 x21.length cp24), (9, .int .i64 x19), (10, .slice a36 x34.length cp37), (11, .int .i64 x32)] [rowT 2 eI64 a5 x4.length cp6 x4, rowT 4 eBool a9 x8.length x8.length x33, rowT 35 eHd a23 x21.length cp24 hs25, innO 2 eI64 none hs25 x21, rowT 2 eI64 a36 x34.length cp37 x34] _) aa ww hS
      clear hS
      simp only [sh54_2] at hres
      refine JX.seq ?_
      refine JX.seq ?_
      refine JX.region ?_
      refine JL.val (yl_move rfl) rfl ?_
      refine JL.val (yl_move rfl) rfl ?_
      obtain ⟨x38, hx38, hres⟩ := bind_some hres
      refine JL.val (yl_idxT Go.Proofs.Try.underlying106 i4 i4s rfl rfl hx38 l35 (fun w hC => rd_row hC 1 rfl)) rfl ?_
      refine JL.val (yl_loadT0 Go.Proofs.Try.underlying4 rfl rfl hx38 (fun w hC => rd_row hC 1 rfl) rfl) rfl ?_
      refine JL.val (yl_not rfl) rfl ?_
      refine JL.nil ?_
      refine JE.weak (env' := [(0, .int .i64 q0), (6, .slice a5 x4.length cp6), (7, .slice a9 x8.length x8.length), (8, .slice a23 x21.length cp24), (9, .int .i64 x19), (10, .slice a36 x34.length cp37), (11, .int .i64 x32), (33, .bool !x38)]) (es' := [rowT 2 eI64 a5 x4.length cp6 x4, rowT 4 eBool a9 x8.length x8.length x33, rowT 35 eHd a23 x21.length cp24 hs25, innO 2 eI64 none hs25 x21, rowT 2 eI64 a36 x34.length cp37 x34]) [0, 1, 2, 3, 4] ?_ ⟨rfl, rfl, rfl, rfl, rfl, rfl, rfl, rfl, trivial⟩ (by decide) rfl
      refine JE.code ?_
      rcases cond_some hres with ⟨hb, hres⟩ | ⟨hb, hres⟩
      · refine JX.condT rfl hb ?_
        refine JX.skip ?_
        refine JE.code ?_
        refine JX.seq ?_
        refine JX.block ?_
        refine JX.seq ?_
        refine JX.region ?_
        refine JL.val (yl_move rfl) rfl ?_
        refine JL.val (yl_move rfl) rfl ?_
        obtain ⟨x39, hx39, hres⟩ := bind_some hres
        refine JL.val (yl_idxT Go.Proofs.Try.underlying106 i4 i4s rfl rfl hx39 l35 (fun w hC => rd_row hC 1 rfl)) rfl ?_
        refine JL.eff (ef_storeT (ix := 1) (u := true) i4 i4s rfl rfl rfl hx39 rfl) rfl ?_
        rintro _ _ rfl
        refine JL.nil ?_
        refine JE.weak (env' := [(0, .int .i64 q0), (6, .slice a5 x4.length cp6), (7, .slice a9 x8.length x8.length), (8, .slice a23 x21.length cp24), (9, .int .i64 x19), (10, .slice a36 x34.length cp37), (11, .int .i64 x32)]) (es' := [rowT 2 eI64 a5 x4.length cp6 x4, rowT 4 eBool a9 x8.length x8.length (x33.set (x32).toNat true), rowT 35 eHd a23 x21.length cp24 hs25, innO 2 eI64 none hs25 x21, rowT 2 eI64 a36 x34.length cp37 x34]) [0, 1, 2, 3, 4] ?_ ⟨rfl, rfl, rfl, rfl, rfl, rfl, rfl, trivial⟩ (by decide) rfl
        refine JE.code ?_
        refine JX.region ?_
        refine JL.val (yl_move rfl) rfl ?_
        refine JL.val (yl_move rfl) rfl ?_
        refine JL.eff (ef_buildSlice (E := 2) (k := eI64.k) (us := eI64.fl [x32]) rfl (fun w => bsl35_1 x32 w) rfl (by decide)) rfl ?_
        rintro _ _ ⟨a40, rfl, rfl⟩
        obtain ⟨x42, hx42, hres⟩ := bind_some hres
        refine JL.eff (ef_appendT (ix := 4) Go.Proofs.Try.underlying35 i2 i2z i2s rfl i2b0 i2b1 rfl rfl rfl rfl rfl (fun w hC => rd_row hC 5 rfl) hx42) rfl ?_
        rintro _ _ ⟨a43, cp44, rfl, rfl⟩
        refine JL.val (yl_assign rfl) rfl ?_
        refine JL.nil ?_
        refine JE.weak (env' := [(0, .int .i64 q0), (6, .slice a5 x4.length cp6), (7, .slice a9 x8.length x8.length), (8, .slice a23 x21.length cp24), (9, .int .i64 x19), (10, .slice a43 x42.length cp44), (11, .int .i64 x32)]) (es' := [rowT 2 eI64 a5 x4.length cp6 x4, rowT 4 eBool a9 x8.length x8.length (x33.set (x32).toNat true), rowT 35 eHd a23 x21.length cp24 hs25, innO 2 eI64 none hs25 x21, rowT 2 eI64 a43 x42.length cp44 x42]) [0, 1, 2, 3, 4] ?_ ⟨rfl, rfl, rfl, rfl, rfl, rfl, rfl, trivial⟩ (by decide) rfl
        refine JE.code ?_
        refine JX.region ?_
        refine JL.val (yl_move rfl) rfl ?_
        refine JL.val (yl_move rfl) rfl ?_
        obtain ⟨x45, hx45, hres⟩ := bind_some hres
        refine JL.eff (ef_call (T := T78 x45) Go.Proofs.Try.func78 rfl (by kernel_rfl) rfl (fun w hC => c78 (rd_row hC 0 rfl) rfl (ln_row hC 0 rfl) hx45)) rfl ?_
        rintro _ _ ⟨_, ⟨rfl, rfl⟩, rfl⟩
        refine JL.val (yl_assign rfl) rfl ?_
        refine JL.nil ?_
        refine JE.weak (env' := [(0, .int .i64 q0), (6, .slice a5 x4.length cp6), (7, .slice a9 x8.length x8.length), (8, .slice a23 x21.length cp24), (9, .int .i64 x19), (10, .slice a43 x42.length cp44), (11, .int .i64 x45)]) (es' := [rowT 2 eI64 a5 x4.length cp6 x4, rowT 4 eBool a9 x8.length x8.length (x33.set (x32).toNat true), rowT 35 eHd a23 x21.length cp24 hs25, innO 2 eI64 none hs25 x21, rowT 2 eI64 a43 x42.length cp44 x42]) [0, 1, 2, 3, 4] ?_ ⟨rfl, rfl, rfl, rfl, rfl, rfl, rfl, trivial⟩ (by decide) rfl
        refine JE.cont hres ?_
        exact fun a w h => ⟨(List.length_set.trans l35), a43, cp44, h.weak ⟨rfl, rfl, rfl, rfl, rfl, rfl, rfl, trivial⟩ [0, 1, 2, 3, 4] (by decide) rfl⟩
      · refine JX.condF rfl hb ?_
        refine JX.exit ?_
        refine JE.qb rfl ?_
        obtain ⟨b2, hb2⟩ : ∃ b : List Bool × List Int, b = (x33, x34) := ⟨_, rfl⟩
        have hy2 : b2 = y2 := by rw [hb2]; exact hox2 _ (Option.some.inj hres).symm
        have hres := hresO2
        rw [← hy2] at hres
        have l46 : b2.1.length = x8.length := by subst hb2; exact l35
        refine JE.weak (env' := [(0, .int .i64 q0), (6, .slice a5 x4.length cp6), (7, .slice a9 x8.length x8.length), (8, .slice a23 x21.length cp24), (9, .int .i64 x19), (10, .slice a36 b2.2.length cp37)]) (es' := [rowT 2 eI64 a5 x4.length cp6 x4, rowT 4 eBool a9 x8.length x8.length b2.1, rowT 35 eHd a23 x21.length cp24 hs25, innO 2 eI64 none hs25 x21, rowT 2 eI64 a36 b2.2.length cp37 b2.2]) [0, 1, 2, 3, 4] ?_ ⟨(by subst hb2; rfl), (by subst hb2; rfl), (by subst hb2; rfl), (by subst hb2; rfl), (by subst hb2; rfl), (by subst hb2; rfl), trivial⟩ (by decide) (by subst hb2; rfl)
        refine JE.code ?_
        refine JX.seq ?_
        refine JX.region ?_
        refine JL.val (yl_move rfl) rfl ?_
        refine JL.val (yl_len_slice Go.Proofs.Try.underlying35 rfl) rfl ?_
        refine JL.val (yl_gtr rfl rfl) rfl ?_
        refine JL.nil ?_
        refine JE.code ?_
        obtain ⟨j49, hj49, hresj49⟩ := bind_some hres
        refine JX.cut (K := fun J => ∀ (a50 : Option Addr) (cp51 : Nat) (hs52 : List Hd) (hi53 : Inn hs52 j49), J [(0, .int .i64 q0), (6, .slice a5 x4.length cp6), (7, .slice a9 x8.length x8.length), (8, .slice a50 j49.length cp51), (9, .int .i64 x19)] [rowT 2 eI64 a5 x4.length cp6 x4, rowT 4 eBool a9 x8.length x8.length b2.1, rowT 35 eHd a50 j49.length cp51 hs52, innO 2 eI64 none hs52 j49]) ?_ ?_
        · intro a50 cp51 hs52 hi53
          have hres := hresj49
          refine JE.code ?_
          refine JX.region ?_
          refine JL.val (yl_move rfl) rfl ?_
          refine JL.val (yl_add rfl rfl) rfl ?_
          refine JL.val (yl_assign rfl) rfl ?_
          refine JL.nil ?_
          refine JE.cont hres ?_
          exact fun a w h => ⟨l46, a50, cp51, hs52, hi53, h.weak ⟨rfl, rfl, rfl, (by first | rfl | (simp only [List.length_set, l46]; rfl) | simp only [List.length_set, l46]), rfl, trivial⟩ [0, 1, 2, 3] (by decide) (by first | rfl | (simp only [List.length_set, l46]; rfl) | simp only [List.length_set, l46])⟩
        · intro K
          rcases cond_some hj49 with ⟨hb, hres⟩ | ⟨hb, hres⟩
          · refine JX.condT rfl hb ?_
            refine JX.region ?_
            refine JL.val (yl_move rfl) rfl ?_
            refine JL.val (yl_move rfl) rfl ?_
            refine JL.eff (ef_buildSlice (E := 35) (k := eHd.k) (us := eHd.fl [⟨a36, b2.2.length, cp37⟩]) rfl (fun w => bsl36_1 a36 b2.2.length cp37 w) rfl (by decide)) rfl ?_
            rintro _ _ ⟨a54, rfl, rfl⟩
            obtain ⟨x56, hx56, hres⟩ := bind_some hres
            refine JL.eff (ef_appendH (ix := 2) Go.Proofs.Try.underlying36 i35 i35z i35s rfl i35b0 i35b1 rfl rfl (Inn.len hi26) rfl rfl (fun w hC => rd_row hC 5 rfl) hx56 hi26) rfl ?_
            rintro _ _ ⟨a57, cp58, rfl, rfl⟩
            refine JL.absorb (es' := [rowT 2 eI64 a5 x4.length cp6 x4, rowT 4 eBool a9 x8.length x8.length b2.1, rowT 35 eHd a57 x56.length cp58 (hs25 ++ [⟨a36, b2.2.length, cp37⟩]), rowT 35 eHd a54 1 1 [⟨a36, b2.2.length, cp37⟩]]) [0, 1, 2, 5, 3, 4] (by decide) rfl (appL_some hx56).2 ?_
            refine JL.val (yl_assign rfl) rfl ?_
            refine JL.nil ?_
            refine JE.weak (env' := [(0, .int .i64 q0), (6, .slice a5 x4.length cp6), (7, .slice a9 x8.length x8.length), (8, .slice a57 x56.length cp58), (9, .int .i64 x19)]) (es' := [rowT 2 eI64 a5 x4.length cp6 x4, rowT 4 eBool a9 x8.length x8.length b2.1, rowT 35 eHd a57 x56.length cp58 (hs25 ++ [⟨a36, b2.2.length, cp37⟩]), innO 2 eI64 none (hs25 ++ [⟨a36, b2.2.length, cp37⟩]) x56]) [0, 1, 2, 4] ?_ ⟨rfl, rfl, rfl, rfl, rfl, trivial⟩ (by decide) rfl
            have hj := Option.some.inj hres
            exact JE.weak [0, 1, 2, 3] (K a57 cp58 (hs25 ++ [⟨a36, b2.2.length, cp37⟩]) (by subst hj; exact (Inn.appZ hi26 rfl (appL_some hx56).2))) ⟨(by subst hj; rfl), (by subst hj; rfl), (by subst hj; rfl), (by subst hj; first | rfl | (simp only [List.length_set, l46]; rfl) | simp only [List.length_set, l46]), (by subst hj; rfl), trivial⟩ (by decide) (by subst hj; first | rfl | (simp only [List.length_set, l46]; rfl) | simp only [List.length_set, l46])
          · refine JX.condF rfl hb ?_
            refine JX.skip ?_
            have hj := Option.some.inj hres
            exact JE.weak [0, 1, 2, 3] (K a23 cp24 hs25 (by subst hj; exact hi26)) ⟨(by subst hj; rfl), (by subst hj; rfl), (by subst hj; rfl), (by subst hj; first | rfl | (simp only [List.length_set, l46]; rfl) | simp only [List.length_set, l46]), (by subst hj; rfl), trivial⟩ (by decide) (by subst hj; first | rfl | (simp only [List.length_set, l46]; rfl) | simp only [List.length_set, l46])
    · refine JX.condF rfl hb ?_
      refine JX.exit ?_
      refine JE.qb rfl ?_
      obtain ⟨b1, hb1⟩ : ∃ b : List (List Int), b = x21 := ⟨_, rfl⟩
      have hy1 : b1 = y1 := by rw [hb1]; exact hox1 _ (Option.some.inj hres).symm
      have hres := hresO1
      rw [← hy1] at hres
      have hi62 : Inn hs25 b1 := by subst hb1; exact hi26
      refine JE.weak (env' := [(8, .slice a23 b1.length cp24)]) (es' := [rowT 35 eHd a23 b1.length cp24 hs25, innO 2 eI64 none hs25 b1]) [2, 3] ?_ ⟨(by subst hb1; first | rfl | (simp only [List.length_set]; rfl) | simp only [List.length_set]), trivial⟩ (by decide) (by subst hb1; first | rfl | (simp only [List.length_set]; rfl) | simp only [List.length_set])
      refine JE.code ?_
      refine JX.seq ?_
      refine JX.region ?_
      refine JL.val (yl_move rfl) rfl ?_
      refine JL.val (yl_assign rfl) rfl ?_
      refine JL.val (yl_assign rfl) rfl ?_
      refine JL.nil ?_
      refine JE.code ?_
      refine JX.ret ?_
      obtain rfl := Option.some.inj hres
      refine JE.ret (rs := [.tmp 4, .tmp 5]) (vs := [.slice a23 b1.length cp24, .int .i64 0]) rfl ⟨rfl, rfl, trivial⟩ ?_
      exact fun w' hb hs => ⟨_, _, ⟨a23, b1.length, cp24, hs25, rfl, hi62, rfl, rfl⟩, rfl, hb, hs.sel [0, 1] _ (by decide) rfl⟩

/- slices.Index[[]int64,int64] -/
def sh82_1 (q0 : List Int) (q1 : Int) : Int → Option (Int ⊕ (Unit ⊕ Int))
  | x1 => bif decide (x1 < (q0.length : Int)) then (Option.bind (getI q0 x1) fun x2 => bif q1 == x2 then (some (.inr (.inr x1))) else (some (.inl (w64 (x1 + 1))))) else (some (.inr (.inl ())))
def sh82 (q0 : List Int) (q1 : Int) : Option (Int) := Option.bind (iter (sh82_1 q0 q1) 0) fun y1 => elimS y1 (fun r => some r) fun b1 => (some (-1))
def T82 (r : Int) (v : Value) (rs : List Own) : Prop := v = rets [.int .i64 r] ∧ rs = []
set_option maxRecDepth 100000 in
theorem c82 {w : World} {q0 : List Int} {a_0 : Option Addr} {n_0 c_0 : Nat} (g_0 : Rd w a_0 (eI64.fl q0)) (l_0 : q0.length = n_0) (k_0 : n_0 ≤ c_0) {q1 : Int} {r : Int} (hres : sh82 q0 q1 = some r) : Calls Go.Proofs.Try.prog 82 [.slice a_0 n_0 c_0, .int .i64 q1].toArray w (Ret w (T82 r)) := by
  subst l_0
  unfold sh82 at hres
  refine calls_of (n := 19) (M := []) (es := []) Go.Proofs.Try.func82 rfl rfl rfl (Sep.nil _ _ _) ?_
  refine JX.seq ?_
  refine JX.region ?_
  refine JL.val (yl_assign rfl) rfl ?_
  refine JL.nil ?_
  refine JE.code ?_
  refine JX.seq ?_
  refine JX.seq ?_
  refine JX.region ?_
  refine JL.val (yl_move rfl) rfl ?_
  refine JL.val (yl_len_slice Go.Proofs.Try.underlying35 rfl) rfl ?_
  refine JL.val (yl_move rfl) rfl ?_
  refine JL.nil ?_
  refine JE.code ?_
  refine JX.block ?_
  obtain ⟨y1, hy1, hresO1⟩ := bind_some hres
  refine JX.loop (I := fun (s1 : Int) aa ww => St w [] 19 [(0, .slice a_0 q0.length c_0), (1, .int .i64 q1), (7, .int .i64 (q0.length : Int)), (8, .int .i64 s1)] [] aa ww) (sh82_1 q0 q1) hy1 (fun a w h => h.weak ⟨rfl, rfl, rfl, rfl, trivial⟩ [] (by decide) rfl) ?_
  rintro x1 o1 hres hox1 aa ww hS
  refine (?_ : JX Go.Proofs.Try.prog w [] 19 _ _ [(0, .slice a_0 q0.length c_0), (1, .int .i64 q1), (7, .int .i64 (q0.length : Int)), (8, .int .i64 x1)] [] _) aa ww hS
  clear hS
  unfold sh82_1 at hres
  refine JX.seq ?_
  refine JX.region ?_
  refine JL.val (yl_lss rfl rfl) rfl ?_
  refine JL.nil ?_
  refine JE.code ?_
  refine JX.seq ?_
  rcases cond_some hres with ⟨hb, hres⟩ | ⟨hb, hres⟩
  · refine JX.condT rfl hb ?_
    refine JX.skip ?_
    refine JE.code ?_
    refine JX.seq ?_
    refine JX.block ?_
    refine JX.seq ?_
    refine JX.region ?_
    refine JL.val (yl_move rfl) rfl ?_
    refine JL.val (yl_assign rfl) rfl ?_
    refine JL.nil ?_
    refine JE.code ?_
    refine JX.seq ?_
    refine JX.region ?_
    refine JL.val (yl_move rfl) rfl ?_
    refine JL.val (yl_move rfl) rfl ?_
    refine JL.val (yl_move rfl) rfl ?_
    obtain ⟨x2, hx2, hres⟩ := bind_some hres
    refine JL.val (yl_idxT Go.Proofs.Try.underlying35 i2 i2s rfl rfl hx2 rfl (fun w hC => rd_arg g_0 hC)) rfl ?_
    refine JL.val (yl_loadT0 Go.Proofs.Try.underlying2 rfl rfl hx2 (fun w hC => rd_arg g_0 hC) rfl) rfl ?_
    refine JL.val (yl_eql rfl rfl) rfl ?_
    refine JL.nil ?_
    refine JE.weak (env' := [(0, .slice a_0 q0.length c_0), (1, .int .i64 q1), (5, .int .i64 x1), (7, .int .i64 (q0.length : Int)), (8, .int .i64 x1), (16, .bool (q1 == x2))]) (es' := []) [] ?_ ⟨rfl, rfl, rfl, rfl, rfl, rfl, trivial⟩ (by decide) rfl
    refine JE.code ?_
    rcases cond_some hres with ⟨hb, hres⟩ | ⟨hb, hres⟩
    · refine JX.condT rfl hb ?_
      refine JX.seq ?_
      refine JX.region ?_
      refine JL.val (yl_move rfl) rfl ?_
      refine JL.val (yl_assign rfl) rfl ?_
      refine JL.nil ?_
      refine JE.code ?_
      refine JX.ret ?_
      refine JE.qbr ?_
      refine JE.qbr ?_
      have hres := elimS_inr hresO1 (hox1 _ (Option.some.inj hres).symm)
      obtain rfl := Option.some.inj hres
      refine JE.ret (rs := [.tmp 4]) (vs := [.int .i64 x1]) rfl ⟨rfl, trivial⟩ ?_
      exact fun w' hb hs => ⟨_, _, ⟨rfl, rfl⟩, rfl, hb, hs.sel [] _ (by decide) rfl⟩
    · refine JX.condF rfl hb ?_
      refine JX.skip ?_
      refine JE.code ?_
      refine JX.region ?_
      refine JL.val (yl_add rfl rfl) rfl ?_
      refine JL.val (yl_move rfl) rfl ?_
      refine JL.nil ?_
      refine JE.cont hres ?_
      exact fun a w h => h.weak ⟨rfl, rfl, rfl, rfl, trivial⟩ [] (by decide) rfl
  · refine JX.condF rfl hb ?_
    refine JX.exit ?_
    refine JE.qb rfl ?_
    obtain ⟨b1, hb1⟩ : ∃ b : Unit, b = () := ⟨_, rfl⟩
    have hy1 : Sum.inl b1 = y1 := by rw [hb1]; exact hox1 _ (Option.some.inj hres).symm
    have hres := elimS_inl hresO1 hy1
    refine JE.weak (env' := []) (es' := []) [] ?_ trivial (by decide) (by subst hb1; rfl)
    refine JE.code ?_
    refine JX.seq ?_
    refine JX.region ?_
    refine JL.val (yl_assign rfl) rfl ?_
    refine JL.nil ?_
    refine JE.code ?_
    refine JX.ret ?_
    obtain rfl := Option.some.inj hres
    refine JE.ret (rs := [.tmp 4]) (vs := [.int .i64 (-1)]) rfl ⟨rfl, trivial⟩ ?_
    exact fun w' hb hs => ⟨_, _, ⟨rfl, rfl⟩, rfl, hb, hs.sel [] _ (by decide) rfl⟩

/- impl.inRange -/
def sh79 (q0 : Int) (q1 : Int) (q2 : Int) : Option (Bool) := some ((decide (q1 ≤ q0)) && (decide (q0 ≤ q2)))
def T79 (r : Bool) (v : Value) (rs : List Own) : Prop := v = rets [.bool r] ∧ rs = []
set_option maxRecDepth 100000 in
theorem c79 {w : World} {q0 : Int} {q1 : Int} {q2 : Int} {r : Bool} (hres : sh79 q0 q1 q2 = some r) : Calls Go.Proofs.Try.prog 79 [.int .i64 q0, .int .i64 q1, .int .i64 q2].toArray w (Ret w (T79 r)) := by
  unfold sh79 at hres
  refine calls_of (n := 15) (M := []) (es := []) Go.Proofs.Try.func79 rfl rfl rfl (Sep.nil _ _ _) ?_
  refine JX.seq ?_
  refine JX.region ?_
  refine JL.val (yl_assign rfl) rfl ?_
  refine JL.nil ?_
  refine JE.code ?_
  refine JX.seq ?_
  refine JX.region ?_
  refine JL.val (yl_move rfl) rfl ?_
  refine JL.val (yl_move rfl) rfl ?_
  refine JL.val (yl_geq rfl rfl) rfl ?_
  refine JL.val (yl_move rfl) rfl ?_
  refine JL.cut (K := fun J => J [(14, .bool ((decide (q1 ≤ q0)) && (decide (q0 ≤ q2))))] []) 4 ?_ ?_
  · refine JL.val (yl_assign rfl) rfl ?_
    refine JL.nil ?_
    refine JE.weak (env' := [(6, .bool ((decide (q1 ≤ q0)) && (decide (q0 ≤ q2))))]) (es' := []) [] ?_ ⟨rfl, trivial⟩ (by decide) rfl
    refine JE.code ?_
    refine JX.ret ?_
    obtain rfl := Option.some.inj hres
    refine JE.ret (rs := [.tmp 6]) (vs := [.bool ((decide (q1 ≤ q0)) && (decide (q0 ≤ q2)))]) rfl ⟨rfl, trivial⟩ ?_
    exact fun w' hb hs => ⟨_, _, ⟨rfl, rfl⟩, rfl, hb, hs.sel [] _ (by decide) rfl⟩
  · intro K
    rcases Bool.eq_false_or_eq_true (decide (q1 ≤ q0)) with hb | hb
    · refine JL.set (d := 10) (v := .bool true) (congrArg (fun b => some (Value.bool b)) hb) ?_
      refine JL.gval rfl rfl (yl_move rfl) rfl ?_
      refine JL.gval rfl rfl (yl_move rfl) rfl ?_
      refine JL.gval rfl rfl (yl_leq rfl rfl) rfl ?_
      refine JL.val (yl_pick_true rfl rfl) rfl ?_
      exact JL.weak [] K ⟨(by rw [hb]; rfl), trivial⟩ (by decide) rfl
    · refine JL.set (d := 10) (v := .bool false) (congrArg (fun b => some (Value.bool b)) hb) ?_
      refine JL.gskip rfl rfl rfl rfl ?_
      refine JL.gskip rfl rfl rfl rfl ?_
      refine JL.gskip rfl rfl rfl rfl ?_
      refine JL.val (yl_pick_false rfl rfl) rfl ?_
      exact JL.weak [] K ⟨(by rw [hb]; rfl), trivial⟩ (by decide) rfl

/- impl.ValidWord -/
def sh72_1 (q0 : Int) (q1 : List Int) : Int → Option (Int ⊕ (Unit ⊕ Bool))
  | x1 => bif decide (x1 < (q1.length : Int)) then (Option.bind (getI q1 x1) fun x2 => Option.bind (bif x2 == 0 then (some true) else (Option.bind (sh79 x2 (w64 (1 - q0)) (w64 (q0 - 1))) fun x4 => some !x4)) fun c3 => (bif c3 then (some (.inr (.inr false))) else (some (.inl (w64 (x1 + 1)))))) else (some (.inr (.inl ())))
def sh72 (q0 : Int) (q1 : List Int) : Option (Bool) := Option.bind (iter (sh72_1 q0 q1) 0) fun y1 => elimS y1 (fun r => some r) fun b1 => (Option.bind (sh79 q0 2 12) fun x5 => some (x5 && (decide ((q1.length : Int) ≤ 200))))
def T72 (r : Bool) (v : Value) (rs : List Own) : Prop := v = rets [.bool r] ∧ rs = []
set_option maxRecDepth 100000 in
theorem c72 {w : World} {q0 : Int} {q1 : List Int} {a_1 : Option Addr} {n_1 c_1 : Nat} (g_1 : Rd w a_1 (eI64.fl q1)) (l_1 : q1.length = n_1) (k_1 : n_1 ≤ c_1) {r : Bool} (hres : sh72 q0 q1 = some r) : Calls Go.Proofs.Try.prog 72 [.int .i64 q0, .slice a_1 n_1 c_1].toArray w (Ret w (T72 r)) := by
  subst l_1
  unfold sh72 at hres
  refine calls_of (n := 32) (M := []) (es := []) Go.Proofs.Try.func72 rfl rfl rfl (Sep.nil _ _ _) ?_
  refine JX.seq ?_
  refine JX.region ?_
  refine JL.val (yl_assign rfl) rfl ?_
  refine JL.nil ?_
  refine JE.code ?_
  refine JX.seq ?_
  refine JX.seq ?_
  refine JX.region ?_
  refine JL.val (yl_move rfl) rfl ?_
  refine JL.val (yl_len_slice Go.Proofs.Try.underlying35 rfl) rfl ?_
  refine JL.val (yl_move rfl) rfl ?_
  refine JL.nil ?_
  refine JE.code ?_
  refine JX.block ?_
  obtain ⟨y1, hy1, hresO1⟩ := bind_some hres
  refine JX.loop (I := fun (s1 : Int) aa ww => St w [] 32 [(0, .int .i64 q0), (1, .slice a_1 q1.length c_1), (7, .slice a_1 q1.length c_1), (8, .int .i64 (q1.length : Int)), (9, .int .i64 s1)] [] aa ww) (sh72_1 q0 q1) hy1 (fun a w h => h.weak ⟨rfl, rfl, rfl, rfl, rfl, trivial⟩ [] (by decide) rfl) ?_
  rintro x1 o1 hres hox1 aa ww hS
  refine (?_ : JX Go.Proofs.Try.prog w [] 32 _ _ [(0, .int .i64 q0), (1, .slice a_1 q1.length c_1), (7, .slice a_1 q1.length c_1), (8, .int .i64 (q1.length : Int)), (9, .int .i64 x1)] [] _) aa ww hS
  clear hS
  unfold sh72_1 at hres
  refine JX.seq ?_
  refine JX.region ?_
  refine JL.val (yl_lss rfl rfl) rfl ?_
  refine JL.nil ?_
  refine JE.code ?_
  refine JX.seq ?_
  rcases cond_some hres with ⟨hb, hres⟩ | ⟨hb, hres⟩
  · refine JX.condT rfl hb ?_
    refine JX.skip ?_
    refine JE.code ?_
    refine JX.seq ?_
    refine JX.block ?_
    refine JX.seq ?_
    refine JX.region ?_
    obtain ⟨x2, hx2, hres⟩ := bind_some hres
    refine JL.val (yl_idxT Go.Proofs.Try.underlying35 i2 i2s rfl rfl hx2 rfl (fun w hC => rd_arg g_1 hC)) rfl ?_
    refine JL.val (yl_loadT0 Go.Proofs.Try.underlying2 rfl rfl hx2 (fun w hC => rd_arg g_1 hC) rfl) rfl ?_
    refine JL.val (yl_assign rfl) rfl ?_
    refine JL.nil ?_
    refine JE.code ?_
    refine JX.seq ?_
    refine JX.region ?_
    refine JL.val (yl_move rfl) rfl ?_
    refine JL.val (yl_eql rfl rfl) rfl ?_
    refine JL.val (yl_move rfl) rfl ?_
    obtain ⟨c3, hc3, hres⟩ := bind_some hres
    refine JL.cut (K := fun J => J [(0, .int .i64 q0), (1, .slice a_1 q1.length c_1), (7, .slice a_1 q1.length c_1), (8, .int .i64 (q1.length : Int)), (9, .int .i64 x1), (23, .bool c3)] []) 8 ?_ ?_
    · refine JL.nil ?_
      refine JE.weak (env' := [(0, .int .i64 q0), (1, .slice a_1 q1.length c_1), (7, .slice a_1 q1.length c_1), (8, .int .i64 (q1.length : Int)), (9, .int .i64 x1), (23, .bool c3)]) (es' := []) [] ?_ ⟨rfl, rfl, rfl, rfl, rfl, rfl, trivial⟩ (by decide) rfl
      refine JE.code ?_
      rcases cond_some hres with ⟨hb, hres⟩ | ⟨hb, hres⟩
      · refine JX.condT rfl hb ?_
        refine JX.seq ?_
        refine JX.region ?_
        refine JL.val (yl_assign rfl) rfl ?_
        refine JL.nil ?_
        refine JE.code ?_
        refine JX.ret ?_
        refine JE.qbr ?_
        refine JE.qbr ?_
        have hres := elimS_inr hresO1 (hox1 _ (Option.some.inj hres).symm)
        obtain rfl := Option.some.inj hres
        refine JE.ret (rs := [.tmp 4]) (vs := [.bool false]) rfl ⟨rfl, trivial⟩ ?_
        exact fun w' hb hs => ⟨_, _, ⟨rfl, rfl⟩, rfl, hb, hs.sel [] _ (by decide) rfl⟩
      · refine JX.condF rfl hb ?_
        refine JX.skip ?_
        refine JE.code ?_
        refine JX.region ?_
        refine JL.val (yl_add rfl rfl) rfl ?_
        refine JL.val (yl_move rfl) rfl ?_
        refine JL.nil ?_
        refine JE.cont hres ?_
        exact fun a w h => h.weak ⟨rfl, rfl, rfl, rfl, rfl, trivial⟩ [] (by decide) rfl
    · intro K
      rcases cond_some hc3 with ⟨hb, hres⟩ | ⟨hb, hres⟩
      · refine JL.set (d := 15) (v := .bool true) (congrArg (fun b => some (Value.bool b)) hb) ?_
        refine JL.gskip rfl rfl rfl rfl ?_
        refine JL.gskip rfl rfl rfl rfl ?_
        refine JL.gskip rfl rfl rfl rfl ?_
        refine JL.gskip rfl rfl rfl rfl ?_
        refine JL.gskip rfl rfl rfl rfl ?_
        refine JL.gskip rfl rfl rfl rfl ?_
        refine JL.gskip rfl rfl rfl rfl ?_
        refine JL.val (yl_pick_true rfl rfl) rfl ?_
        have he := Option.some.inj hres
        exact JL.weak [] K ⟨rfl, rfl, rfl, rfl, rfl, (by rw [← he]; rfl), trivial⟩ (by decide) rfl
      · refine JL.set (d := 15) (v := .bool false) (congrArg (fun b => some (Value.bool b)) hb) ?_
        refine JL.gval rfl rfl (yl_move rfl) rfl ?_
        refine JL.gval rfl rfl (yl_move rfl) rfl ?_
        refine JL.gval rfl rfl (yl_sub rfl rfl) rfl ?_
        refine JL.gval rfl rfl (yl_move rfl) rfl ?_
        refine JL.gval rfl rfl (yl_sub rfl rfl) rfl ?_
        obtain ⟨x4, hx4, hres⟩ := bind_some hres
        refine JL.geff rfl rfl (ef_call (T := T79 x4) Go.Proofs.Try.func79 rfl (by kernel_rfl) rfl (fun w hC => c79  hx4)) rfl ?_
        rintro _ _ ⟨_, ⟨rfl, rfl⟩, rfl⟩
        refine JL.gval rfl rfl (yl_not rfl) rfl ?_
        refine JL.val (yl_pick_false rfl rfl) rfl ?_
        have he := Option.some.inj hres
        exact JL.weak [] K ⟨rfl, rfl, rfl, rfl, rfl, (by rw [← he]; rfl), trivial⟩ (by decide) rfl
  · refine JX.condF rfl hb ?_
    refine JX.exit ?_
    refine JE.qb rfl ?_
    obtain ⟨b1, hb1⟩ : ∃ b : Unit, b = () := ⟨_, rfl⟩
    have hy1 : Sum.inl b1 = y1 := by rw [hb1]; exact hox1 _ (Option.some.inj hres).symm
    have hres := elimS_inl hresO1 hy1
    refine JE.weak (env' := [(0, .int .i64 q0), (1, .slice a_1 q1.length c_1)]) (es' := []) [] ?_ ⟨(by subst hb1; rfl), (by subst hb1; rfl), trivial⟩ (by decide) (by subst hb1; rfl)
    refine JE.code ?_
    refine JX.seq ?_
    refine JX.region ?_
    refine JL.val (yl_move rfl) rfl ?_
    obtain ⟨x5, hx5, hres⟩ := bind_some hres
    refine JL.eff (ef_call (T := T79 x5) Go.Proofs.Try.func79 rfl (by kernel_rfl) rfl (fun w hC => c79  hx5)) rfl ?_
    rintro _ _ ⟨_, ⟨rfl, rfl⟩, rfl⟩
    refine JL.val (yl_move rfl) rfl ?_
    refine JL.cut (K := fun J => J [(31, .bool (x5 && (decide ((q1.length : Int) ≤ 200))))] []) 4 ?_ ?_
    · refine JL.val (yl_assign rfl) rfl ?_
      refine JL.nil ?_
      refine JE.weak (env' := [(4, .bool (x5 && (decide ((q1.length : Int) ≤ 200))))]) (es' := []) [] ?_ ⟨rfl, trivial⟩ (by decide) rfl
      refine JE.code ?_
      refine JX.ret ?_
      obtain rfl := Option.some.inj hres
      refine JE.ret (rs := [.tmp 4]) (vs := [.bool (x5 && (decide ((q1.length : Int) ≤ 200)))]) rfl ⟨rfl, trivial⟩ ?_
      exact fun w' hb hs => ⟨_, _, ⟨rfl, rfl⟩, rfl, hb, hs.sel [] _ (by decide) rfl⟩
    · intro K
      rcases Bool.eq_false_or_eq_true (x5) with hb | hb
      · refine JL.set (d := 27) (v := .bool true) (congrArg (fun b => some (Value.bool b)) hb) ?_
        refine JL.gval rfl rfl (yl_move rfl) rfl ?_
        refine JL.gval rfl rfl (yl_len_slice Go.Proofs.Try.underlying35 rfl) rfl ?_
        refine JL.gval rfl rfl (yl_leq rfl rfl) rfl ?_
        refine JL.val (yl_pick_true rfl rfl) rfl ?_
        exact JL.weak [] K ⟨(by rw [hb]; rfl), trivial⟩ (by decide) rfl
      · refine JL.set (d := 27) (v := .bool false) (congrArg (fun b => some (Value.bool b)) hb) ?_
        refine JL.gskip rfl rfl rfl rfl ?_
        refine JL.gskip rfl rfl rfl rfl ?_
        refine JL.gskip rfl rfl rfl rfl ?_
        refine JL.val (yl_pick_false rfl rfl) rfl ?_
        exact JL.weak [] K ⟨(by rw [hb]; rfl), trivial⟩ (by decide) rfl

/- impl.rightOf -/
def sh73 (q0 : Int) : Option (Int) := some (if q0 < (w64 (0 - q0)) then (w64 (0 - q0)) else q0)
def T73 (r : Int) (v : Value) (rs : List Own) : Prop := v = rets [.int .i64 r] ∧ rs = []
set_option maxRecDepth 100000 in
theorem c73 {w : World} {q0 : Int} {r : Int} (hres : sh73 q0 = some r) : Calls Go.Proofs.Try.prog 73 [.int .i64 q0].toArray w (Ret w (T73 r)) := by
  unfold sh73 at hres
  refine calls_of (n := 7) (M := []) (es := []) Go.Proofs.Try.func73 rfl rfl rfl (Sep.nil _ _ _) ?_
  refine JX.seq ?_
  refine JX.region ?_
  refine JL.val (yl_assign rfl) rfl ?_
  refine JL.nil ?_
  refine JE.code ?_
  refine JX.seq ?_
  refine JX.region ?_
  refine JL.val (yl_move rfl) rfl ?_
  refine JL.val (yl_move rfl) rfl ?_
  refine JL.val (yl_neg rfl) rfl ?_
  refine JL.val (yl_max rfl rfl) rfl ?_
  refine JL.val (yl_assign rfl) rfl ?_
  refine JL.nil ?_
  refine JE.weak (env' := [(2, .int .i64 (if q0 < (w64 (0 - q0)) then (w64 (0 - q0)) else q0))]) (es' := []) [] ?_ ⟨rfl, trivial⟩ (by decide) rfl
  refine JE.code ?_
  refine JX.ret ?_
  obtain rfl := Option.some.inj hres
  refine JE.ret (rs := [.tmp 2]) (vs := [.int .i64 (if q0 < (w64 (0 - q0)) then (w64 (0 - q0)) else q0)]) rfl ⟨rfl, trivial⟩ ?_
  exact fun w' hb hs => ⟨_, _, ⟨rfl, rfl⟩, rfl, hb, hs.sel [] _ (by decide) rfl⟩

/- impl.OrderAfter$1 -/
def sh114 (q0 : List Int) (q1 : Int) : Option (Unit) := some ()
def T114 (r : Unit) (v : Value) (rs : List Own) : Prop := v = rets [] ∧ rs = []
set_option maxRecDepth 100000 in
theorem c114 {w : World} {q0 : List Int} {a_0 : Option Addr} {n_0 c_0 : Nat} (g_0 : Rd w a_0 (eI64.fl q0)) (l_0 : q0.length = n_0) (k_0 : n_0 ≤ c_0) {q1 : Int} {r : Unit} (hres : sh114 q0 q1 = some r) : Calls Go.Proofs.Try.prog 114 [.slice a_0 n_0 c_0, .int .i64 q1].toArray w (Ret w (T114 r)) := by
  subst l_0
  unfold sh114 at hres
  refine calls_of (n := 4) (M := []) (es := []) Go.Proofs.Try.func114 rfl rfl rfl (Sep.nil _ _ _) ?_
  refine JX.skip ?_
  show JE _ _ _ (bodyPost _ _ _ .ret) _ _
  obtain rfl := Option.some.inj hres
  refine JE.ret (rs := []) (vs := []) rfl trivial ?_
  exact fun w' hb hs => ⟨_, _, ⟨rfl, rfl⟩, rfl, hb, hs.sel [] _ (by decide) rfl⟩

/- impl.plait -/
def sh80f114_2 (q1 : List Int) : (Int × List Int) → Option ((Int × List Int) ⊕ (List Int))
  | (x17, x18) => bif decide (x17 < (q1.length : Int)) then (Option.bind (getI q1 x17) fun x20 => Option.bind (sh73 x20) fun x21 => Option.bind (getI x18 (w64 (x21 - 1))) fun x22 => Option.bind (bif decide (x20 < 0) then (Option.bind (getI x18 x21) fun x30 => some x30) else (some x22)) fun j23 => (Option.bind (getI x18 x21) fun x25 => Option.bind (getI x18 (w64 (x21 - 1))) fun x26 => Option.bind (getI x18 (w64 (x21 - 1))) fun x27 => Option.bind (getI (x18.set (w64 (x21 - 1)).toNat x25) x21) fun x28 => Option.bind (sh114 ((x18.set (w64 (x21 - 1)).toNat x25).set (x21).toNat x26) j23) fun x29 => some (.inl (w64 (x17 + 1), (x18.set (w64 (x21 - 1)).toNat x25).set (x21).toNat x26)))) else (some (.inr x18))
def sh80f114_1 (q0 : Int) : (Int × List Int) → Option ((Int × List Int) ⊕ (List Int))
  | (x5, x6) => bif decide (x5 < q0) then (Option.bind (appL x6 [x5]) fun x11 => some (.inl (w64 (x5 + 1), x11))) else (some (.inr x6))
def sh80f114 (q0 : Int) (q1 : List Int) : Option (List Int) := Option.bind (iter (sh80f114_1 q0) (0, ([] : List Int))) fun b1 => (Option.bind (iter (sh80f114_2 q1) (0, b1)) fun b2 => (some b2))
def T80f114 (r : List Int) (v : Value) (rs : List Own) : Prop := ∃ (a0 : Option Addr) (n0 c0 : Nat), r.length = n0 ∧ v = rets [.slice a0 n0 c0] ∧ rs = [rowT 2 eI64 a0 n0 c0 r]
set_option maxRecDepth 100000 in
theorem c80f114 {w : World} {q0 : Int} {q1 : List Int} {a_1 : Option Addr} {n_1 c_1 : Nat} (g_1 : Rd w a_1 (eI64.fl q1)) (l_1 : q1.length = n_1) (k_1 : n_1 ≤ c_1) {r : List Int} (hres : sh80f114 q0 q1 = some r) : Calls Go.Proofs.Try.prog 80 [.int .i64 q0, .slice a_1 n_1 c_1, .func (.func 114) #[] #[]].toArray w (Ret w (T80f114 r)) := by
  subst l_1
  unfold sh80f114 at hres
  refine calls_of (n := 64) (M := []) (es := []) Go.Proofs.Try.func80 rfl rfl rfl (Sep.nil _ _ _) ?_
  refine JX.seq ?_
  refine JX.region ?_
  refine JL.val (yl_assign rfl) rfl ?_
  refine JL.nil ?_
  refine JE.code ?_
  refine JX.seq ?_
  refine JX.region ?_
  refine JL.eff (ef_buildSlice (E := 2) (k := eI64.k) (us := eI64.fl ([] : List Int)) rfl (fun w => bsl35_0  w) rfl (by decide)) rfl ?_
  rintro _ _ ⟨a1, rfl, rfl⟩
  refine JL.val (yl_assign rfl) rfl ?_
  refine JL.nil ?_
  refine JE.code ?_
  refine JX.seq ?_
  refine JX.seq ?_
  refine JX.region ?_
  refine JL.val (yl_move rfl) rfl ?_
  refine JL.val (yl_move rfl) rfl ?_
  refine JL.nil ?_
  refine JE.code ?_
  refine JX.block ?_
  obtain ⟨y1, hy1, hresO1⟩ := bind_some hres
  refine JX.loop (I := fun (s1 : Int × List Int) aa ww => ∃ (a3 : Option Addr) (cp4 : Nat), St w [] 64 [(1, .slice a_1 q1.length c_1), (2, .func (.func 114) #[] #[]), (7, .slice a3 s1.2.length cp4), (14, .int .i64 q0), (15, .int .i64 s1.1)] [rowT 2 eI64 a3 s1.2.length cp4 s1.2] aa ww) (sh80f114_1 q0) hy1 (fun a w h => ⟨a1, 0, h.weak ⟨rfl, rfl, rfl, rfl, rfl, trivial⟩ [0] (by decide) rfl⟩) ?_
  rintro ⟨x5, x6⟩ o1 hres hox1 aa ww ⟨a7, cp8, hS⟩
  refine (?_ : JX Go.Proofs.Try.prog w [] 64 _ _ [(1, .slice a_1 q1.length c_1), (2, .func (.func 114) #[] #[]), (7, .slice a7 x6.length cp8), (14, .int .i64 q0), (15, .int .i64 x5)] [rowT 2 eI64 a7 x6.length cp8 x6] _) aa ww hS
  clear hS
  simp only [sh80f114_1] at hres
  refine JX.seq ?_
  refine JX.region ?_
  refine JL.val (yl_lss rfl rfl) rfl ?_
  refine JL.nil ?_
  refine JE.code ?_
  refine JX.seq ?_
  rcases cond_some hres with ⟨hb, hres⟩ | ⟨hb, hres⟩
  · refine JX.condT rfl hb ?_
    refine JX.skip ?_
    refine JE.code ?_
    refine JX.seq ?_
    refine JX.block ?_
    refine JX.seq ?_
    refine JX.region ?_
    refine JL.val (yl_move rfl) rfl ?_
    refine JL.val (yl_assign rfl) rfl ?_
    refine JL.nil ?_
    refine JE.code ?_
    refine JX.region ?_
    refine JL.val (yl_move rfl) rfl ?_
    refine JL.val (yl_move rfl) rfl ?_
    refine JL.eff (ef_buildSlice (E := 2) (k := eI64.k) (us := eI64.fl [x5]) rfl (fun w => bsl35_1 x5 w) rfl (by decide)) rfl ?_
    rintro _ _ ⟨a9, rfl, rfl⟩
    obtain ⟨x11, hx11, hres⟩ := bind_some hres
    refine JL.eff (ef_appendT (ix := 0) Go.Proofs.Try.underlying35 i2 i2z i2s rfl i2b0 i2b1 rfl rfl rfl rfl rfl (fun w hC => rd_row hC 1 rfl) hx11) rfl ?_
    rintro _ _ ⟨a12, cp13, rfl, rfl⟩
    refine JL.val (yl_assign rfl) rfl ?_
    refine JL.nil ?_
    refine JE.weak (env' := [(1, .slice a_1 q1.length c_1), (2, .func (.func 114) #[] #[]), (7, .slice a12 x11.length cp13), (14, .int .i64 q0), (15, .int .i64 x5)]) (es' := [rowT 2 eI64 a12 x11.length cp13 x11]) [0] ?_ ⟨rfl, rfl, rfl, rfl, rfl, trivial⟩ (by decide) rfl
    refine JE.code ?_
    refine JX.region ?_
    refine JL.val (yl_add rfl rfl) rfl ?_
    refine JL.val (yl_move rfl) rfl ?_
    refine JL.nil ?_
    refine JE.cont hres ?_
    exact fun a w h => ⟨a12, cp13, h.weak ⟨rfl, rfl, rfl, rfl, rfl, trivial⟩ [0] (by decide) rfl⟩
  · refine JX.condF rfl hb ?_
    refine JX.exit ?_
    refine JE.qb rfl ?_
    obtain ⟨b1, hb1⟩ : ∃ b : List Int, b = x6 := ⟨_, rfl⟩
    have hy1 : b1 = y1 := by rw [hb1]; exact hox1 _ (Option.some.inj hres).symm
    have hres := hresO1
    rw [← hy1] at hres
    refine JE.weak (env' := [(1, .slice a_1 q1.length c_1), (2, .func (.func 114) #[] #[]), (7, .slice a7 b1.length cp8)]) (es' := [rowT 2 eI64 a7 b1.length cp8 b1]) [0] ?_ ⟨(by subst hb1; rfl), (by subst hb1; rfl), (by subst hb1; rfl), trivial⟩ (by decide) (by subst hb1; rfl)
    refine JE.code ?_
    refine JX.seq ?_
    refine JX.seq ?_
    refine JX.region ?_
    refine JL.val (yl_move rfl) rfl ?_
    refine JL.val (yl_len_slice Go.Proofs.Try.underlying35 rfl) rfl ?_
    refine JL.val (yl_move rfl) rfl ?_
    refine JL.nil ?_
    refine JE.code ?_
    refine JX.block ?_
    obtain ⟨y2, hy2, hresO2⟩ := bind_some hres
    refine JX.loop (I := fun (s2 : Int × List Int) aa ww => ∃ (l16 : s2.2.length = b1.length), St w [] 64 [(2, .func (.func 114) #[] #[]), (7, .slice a7 b1.length cp8), (23, .slice a_1 q1.length c_1), (24, .int .i64 (q1.length : Int)), (25, .int .i64 s2.1)] [rowT 2 eI64 a7 b1.length cp8 s2.2] aa ww) (sh80f114_2 q1) hy2 (fun a w h => ⟨rfl, h.weak ⟨rfl, rfl, rfl, rfl, rfl, trivial⟩ [0] (by decide) rfl⟩) ?_
    rintro ⟨x17, x18⟩ o2 hres hox2 aa ww ⟨l19, hS⟩
    refine (?_ : JX Go.Proofs.Try.prog w [] 64 _ _ [(2, .func (.func 114) #[] #[]), (7, .slice a7 b1.length cp8), (23, .slice a_1 q1.length c_1), (24, .int .i64 (q1.length : Int)), (25, .int .i64 x17)] [rowT 2 eI64 a7 b1.length cp8 x18] _) aa ww hS
    clear hS
    simp only [sh80f114_2] at hres
    refine JX.seq ?_
    refine JX.region ?_
    refine JL.val (yl_lss rfl rfl) rfl ?_
    refine JL.nil ?_
    refine JE.code ?_
    refine JX.seq ?_
    rcases cond_some hres with ⟨hb, hres⟩ | ⟨hb, hres⟩
    · refine JX.condT rfl hb ?_
      refine JX.skip ?_
      refine JE.code ?_
      refine JX.seq ?_
      refine JX.block ?_
      refine JX.seq ?_
      refine JX.region ?_
      obtain ⟨x20, hx20, hres⟩ := bind_some hres
      refine JL.val (yl_idxT Go.Proofs.Try.underlying35 i2 i2s rfl rfl hx20 rfl (fun w hC => rd_arg g_1 hC)) rfl ?_
      refine JL.val (yl_loadT0 Go.Proofs.Try.underlying2 rfl rfl hx20 (fun w hC => rd_arg g_1 hC) rfl) rfl ?_
      refine JL.val (yl_assign rfl) rfl ?_
      refine JL.nil ?_
      refine JE.code ?_
      refine JX.seq ?_
      refine JX.region ?_
      refine JL.val (yl_move rfl) rfl ?_
      obtain ⟨x21, hx21, hres⟩ := bind_some hres
      refine JL.eff (ef_call (T := T73 x21) Go.Proofs.Try.func73 rfl (by kernel_rfl) rfl (fun w hC => c73  hx21)) rfl ?_
      rintro _ _ ⟨_, ⟨rfl, rfl⟩, rfl⟩
      refine JL.val (yl_assign rfl) rfl ?_
      refine JL.nil ?_
      refine JE.code ?_
      refine JX.seq ?_
      refine JX.region ?_
      refine JL.val (yl_move rfl) rfl ?_
      refine JL.val (yl_move rfl) rfl ?_
      refine JL.val (yl_sub rfl rfl) rfl ?_
      obtain ⟨x22, hx22, hres⟩ := bind_some hres
      refine JL.val (yl_idxT Go.Proofs.Try.underlying35 i2 i2s rfl rfl hx22 l19 (fun w hC => rd_row hC 0 rfl)) rfl ?_
      refine JL.val (yl_loadT0 Go.Proofs.Try.underlying2 rfl rfl hx22 (fun w hC => rd_row hC 0 rfl) rfl) rfl ?_
      refine JL.val (yl_assign rfl) rfl ?_
      refine JL.nil ?_
      refine JE.weak (env' := [(2, .func (.func 114) #[] #[]), (7, .slice a7 b1.length cp8), (10, .int .i64 x20), (11, .int .i64 x21), (12, .int .i64 x22), (23, .slice a_1 q1.length c_1), (24, .int .i64 (q1.length : Int)), (25, .int .i64 x17)]) (es' := [rowT 2 eI64 a7 b1.length cp8 x18]) [0] ?_ ⟨rfl, rfl, rfl, rfl, rfl, rfl, rfl, rfl, trivial⟩ (by decide) rfl
      refine JE.code ?_
      refine JX.seq ?_
      refine JX.seq ?_
      refine JX.region ?_
      refine JL.val (yl_move rfl) rfl ?_
      refine JL.val (yl_lss rfl rfl) rfl ?_
      refine JL.nil ?_
      refine JE.code ?_
      obtain ⟨j23, hj23, hresj23⟩ := bind_some hres
      refine JX.cut (K := fun J => J [(2, .func (.func 114) #[] #[]), (7, .slice a7 b1.length cp8), (11, .int .i64 x21), (12, .int .i64 j23), (23, .slice a_1 q1.length c_1), (24, .int .i64 (q1.length : Int)), (25, .int .i64 x17)] [rowT 2 eI64 a7 b1.length cp8 x18]) ?_ ?_
      · have hres := hresj23
        refine JE.code ?_
        refine JX.seq ?_
        refine JX.drawH [(0, .pure), (1, .pure), (2, .pure), (3, .pure), (4, .pure), (5, .pure), (6, .pure), (7, .pure), (8, .read0), (9, .pure), (10, .pure), (11, .pure), (12, .pure), (13, .read0), (14, .pure), (15, .must), (16, .pure), (17, .must)] [15, 17] [0] [] [rowT 2 eI64 a7 b1.length cp8 x18] [] mixedP (by kernel_rfl) (by kernel_rfl) (by decide) rfl rfl ?_
        intro wrr24 Nr24 hFr24
        refine JH.pure rfl (yl_move rfl) rfl ?_
        refine JH.pure rfl (yl_move rfl) rfl ?_
        refine JH.pure rfl (yl_sub rfl rfl) rfl ?_
        refine JH.pure rfl (yl_move rfl) rfl ?_
        refine JH.pure rfl (yl_move rfl) rfl ?_
        refine JH.pure rfl (yl_move rfl) rfl ?_
        refine JH.pure rfl (yl_move rfl) rfl ?_
        obtain ⟨x25, hx25, hres⟩ := bind_some hres
        refine JH.pure rfl (yl_idxQ Go.Proofs.Try.underlying35 i2 i2s rfl rfl hx25 l19 (rd_row hFr24.cl 0 rfl) l19) rfl ?_
        refine JH.read0 rfl (yl_loadT0 Go.Proofs.Try.underlying2 rfl rfl hx25 (fun w hw => (rd_row hFr24.cl 0 rfl).bw hw) rfl) rfl ?_
        refine JH.pure rfl (yl_move rfl) rfl ?_
        refine JH.pure rfl (yl_move rfl) rfl ?_
        refine JH.pure rfl (yl_sub rfl rfl) rfl ?_
        obtain ⟨x26, hx26, hres⟩ := bind_some hres
        refine JH.pure rfl (yl_idxQ Go.Proofs.Try.underlying35 i2 i2s rfl rfl hx26 l19 (rd_row hFr24.cl 0 rfl) l19) rfl ?_
        refine JH.read0 rfl (yl_loadT0 Go.Proofs.Try.underlying2 rfl rfl hx26 (fun w hw => (rd_row hFr24.cl 0 rfl).bw hw) rfl) rfl ?_
        obtain ⟨x27, hx27, hres⟩ := bind_some hres
        refine JH.pure rfl (yl_idxQ Go.Proofs.Try.underlying35 i2 i2s rfl rfl hx27 l19 (rd_row hFr24.cl 0 rfl) l19) rfl ?_
        refine JH.must rfl (ef_storeT (ix := 0) (u := x25) i2 i2s rfl rfl rfl hx27 rfl) rfl rfl ?_
        rintro _ _ rfl
        obtain ⟨x28, hx28, hres⟩ := bind_some hres
        refine JH.pure rfl (yl_idxQ Go.Proofs.Try.underlying35 i2 i2s rfl rfl hx28 (List.length_set.trans l19) (rd_row hFr24.cl 0 rfl) l19) rfl ?_
        refine JH.must rfl (ef_storeT (ix := 0) (u := x26) i2 i2s rfl rfl rfl hx28 rfl) rfl rfl ?_
        rintro _ _ rfl
        refine JH.nil ?_
        refine JE.weak (env' := [(2, .func (.func 114) #[] #[]), (7, .slice a7 b1.length cp8), (12, .int .i64 j23), (23, .slice a_1 q1.length c_1), (24, .int .i64 (q1.length : Int)), (25, .int .i64 x17)]) (es' := [rowT 2 eI64 a7 b1.length cp8 ((x18.set (w64 (x21 - 1)).toNat x25).set (x21).toNat x26)]) [0] ?_ ⟨rfl, rfl, rfl, rfl, rfl, rfl, trivial⟩ (by decide) rfl
        refine JE.code ?_
        refine JX.region ?_
        refine JL.val (yl_move rfl) rfl ?_
        refine JL.val (yl_move rfl) rfl ?_
        refine JL.val (yl_move rfl) rfl ?_
        obtain ⟨x29, hx29, hres⟩ := bind_some hres
        refine JL.eff (ef_callv (T := T114 x29) rfl Go.Proofs.Try.func114 rfl (by kernel_rfl) rfl (fun w hC => c114 (rd_row hC 0 rfl) (List.length_set.trans (List.length_set.trans l19)) (ln_row hC 0 rfl) hx29)) rfl ?_
        rintro _ _ ⟨_, ⟨rfl, rfl⟩, rfl⟩
        refine JL.nil ?_
        refine JE.weak (env' := [(2, .func (.func 114) #[] #[]), (7, .slice a7 b1.length cp8), (23, .slice a_1 q1.length c_1), (24, .int .i64 (q1.length : Int)), (25, .int .i64 x17)]) (es' := [rowT 2 eI64 a7 b1.length cp8 ((x18.set (w64 (x21 - 1)).toNat x25).set (x21).toNat x26)]) [0] ?_ ⟨rfl, rfl, rfl, rfl, rfl, trivial⟩ (by decide) rfl
        refine JE.code ?_
        refine JX.region ?_
        refine JL.val (yl_add rfl rfl) rfl ?_
        refine JL.val (yl_move rfl) rfl ?_
        refine JL.nil ?_
        refine JE.cont hres ?_
        exact fun a w h => ⟨(List.length_set.trans (List.length_set.trans l19)), h.weak ⟨rfl, rfl, rfl, rfl, rfl, trivial⟩ [0] (by decide) rfl⟩
      · intro K
        rcases cond_some hj23 with ⟨hb, hres⟩ | ⟨hb, hres⟩
        · refine JX.condT rfl hb ?_
          refine JX.region ?_
          refine JL.val (yl_move rfl) rfl ?_
          refine JL.val (yl_move rfl) rfl ?_
          obtain ⟨x30, hx30, hres⟩ := bind_some hres
          refine JL.val (yl_idxT Go.Proofs.Try.underlying35 i2 i2s rfl rfl hx30 l19 (fun w hC => rd_row hC 0 rfl)) rfl ?_
          refine JL.val (yl_loadT0 Go.Proofs.Try.underlying2 rfl rfl hx30 (fun w hC => rd_row hC 0 rfl) rfl) rfl ?_
          refine JL.val (yl_assign rfl) rfl ?_
          refine JL.nil ?_
          refine JE.weak (env' := [(2, .func (.func 114) #[] #[]), (7, .slice a7 b1.length cp8), (11, .int .i64 x21), (12, .int .i64 x30), (23, .slice a_1 q1.length c_1), (24, .int .i64 (q1.length : Int)), (25, .int .i64 x17)]) (es' := [rowT 2 eI64 a7 b1.length cp8 x18]) [0] ?_ ⟨rfl, rfl, rfl, rfl, rfl, rfl, rfl, trivial⟩ (by decide) rfl
          have hj := Option.some.inj hres
          exact JE.weak [0] (K) ⟨(by subst hj; rfl), (by subst hj; rfl), (by subst hj; rfl), (by subst hj; rfl), (by subst hj; rfl), (by subst hj; rfl), (by subst hj; rfl), trivial⟩ (by decide) (by subst hj; rfl)
        · refine JX.condF rfl hb ?_
          refine JX.skip ?_
          have hj := Option.some.inj hres
          exact JE.weak [0] (K) ⟨(by subst hj; rfl), (by subst hj; rfl), (by subst hj; rfl), (by subst hj; rfl), (by subst hj; rfl), (by subst hj; rfl), (by subst hj; rfl), trivial⟩ (by decide) (by subst hj; rfl)
    · refine JX.condF rfl hb ?_
      refine JX.exit ?_
      refine JE.qb rfl ?_
      obtain ⟨b2, hb2⟩ : ∃ b : List Int, b = x18 := ⟨_, rfl⟩
      have hy2 : b2 = y2 := by rw [hb2]; exact hox2 _ (Option.some.inj hres).symm
      have hres := hresO2
      rw [← hy2] at hres
      have l31 : b2.length = b1.length := by subst hb2; exact l19
      refine JE.weak (env' := [(7, .slice a7 b1.length cp8)]) (es' := [rowT 2 eI64 a7 b1.length cp8 b2]) [0] ?_ ⟨(by subst hb2; rfl), trivial⟩ (by decide) (by subst hb2; rfl)
      refine JE.code ?_
      refine JX.seq ?_
      refine JX.region ?_
      refine JL.val (yl_move rfl) rfl ?_
      refine JL.val (yl_assign rfl) rfl ?_
      refine JL.nil ?_
      refine JE.code ?_
      refine JX.ret ?_
      obtain rfl := Option.some.inj hres
      refine JE.ret (rs := [.tmp 6]) (vs := [.slice a7 b1.length cp8]) rfl ⟨rfl, trivial⟩ ?_
      exact fun w' hb hs => ⟨_, _, ⟨a7, b1.length, cp8, l31, rfl, rfl⟩, rfl, hb, hs.sel [0] _ (by decide) rfl⟩

/- impl.OrderAfter -/
def sh98 (q0 : Int) (q1 : List Int) : Option (List Int × Int) := Option.bind (sh72 q0 q1) fun x1 => bif !x1 then (some (([] : List Int), 1)) else (Option.bind (sh80f114 q0 q1) fun x3 => some (x3, 0))
def T98 (r : List Int × Int) (v : Value) (rs : List Own) : Prop := ∃ (a0 : Option Addr) (n0 c0 : Nat), r.1.length = n0 ∧ v = rets [.slice a0 n0 c0, .int .i64 r.2] ∧ rs = [rowT 2 eI64 a0 n0 c0 r.1]
set_option maxRecDepth 100000 in
theorem c98 {w : World} {q0 : Int} {q1 : List Int} {a_1 : Option Addr} {n_1 c_1 : Nat} (g_1 : Rd w a_1 (eI64.fl q1)) (l_1 : q1.length = n_1) (k_1 : n_1 ≤ c_1) {r : List Int × Int} (hres : sh98 q0 q1 = some r) : Calls Go.Proofs.Try.prog 98 [.int .i64 q0, .slice a_1 n_1 c_1].toArray w (Ret w (T98 r)) := by
  subst l_1
  unfold sh98 at hres
  refine calls_of (n := 13) (M := []) (es := []) Go.Proofs.Try.func98 rfl rfl rfl (Sep.nil _ _ _) ?_
  refine JX.seq ?_
  refine JX.region ?_
  refine JL.val (yl_assign rfl) rfl ?_
  refine JL.val (yl_assign rfl) rfl ?_
  refine JL.nil ?_
  refine JE.code ?_
  refine JX.seq ?_
  refine JX.seq ?_
  refine JX.region ?_
  refine JL.val (yl_move rfl) rfl ?_
  refine JL.val (yl_move rfl) rfl ?_
  obtain ⟨x1, hx1, hres⟩ := bind_some hres
  refine JL.eff (ef_call (T := T72 x1) Go.Proofs.Try.func72 rfl (by kernel_rfl) rfl (fun w hC => c72 (rd_arg g_1 hC) rfl k_1 hx1)) rfl ?_
  rintro _ _ ⟨_, ⟨rfl, rfl⟩, rfl⟩
  refine JL.val (yl_not rfl) rfl ?_
  refine JL.nil ?_
  refine JE.weak (env' := [(0, .int .i64 q0), (1, .slice a_1 q1.length c_1), (9, .bool !x1)]) (es' := []) [] ?_ ⟨rfl, rfl, rfl, trivial⟩ (by decide) rfl
  refine JE.code ?_
  rcases cond_some hres with ⟨hb, hres⟩ | ⟨hb, hres⟩
  · refine JX.condT rfl hb ?_
    refine JX.seq ?_
    refine JX.region ?_
    refine JL.val (yl_assign rfl) rfl ?_
    refine JL.val (yl_assign rfl) rfl ?_
    refine JL.nil ?_
    refine JE.code ?_
    refine JX.ret ?_
    refine JE.nilrow 2 eI64 ?_
    obtain rfl := Option.some.inj hres
    refine JE.ret (rs := [.tmp 4, .tmp 5]) (vs := [.slice none 0 0, .int .i64 1]) rfl ⟨rfl, rfl, trivial⟩ ?_
    exact fun w' hb hs => ⟨_, _, ⟨none, 0, 0, rfl, rfl, rfl⟩, rfl, hb, hs.sel [0] _ (by decide) rfl⟩
  · refine JX.condF rfl hb ?_
    refine JX.skip ?_
    refine JE.code ?_
    refine JX.seq ?_
    refine JX.region ?_
    refine JL.val (yl_move rfl) rfl ?_
    refine JL.val (yl_move rfl) rfl ?_
    obtain ⟨x3, hx3, hres⟩ := bind_some hres
    refine JL.eff (ef_call (T := T80f114 x3) Go.Proofs.Try.func80 rfl (by kernel_rfl) rfl (fun w hC => c80f114 (rd_arg g_1 hC) rfl k_1 hx3)) rfl ?_
    rintro _ _ ⟨_, ⟨a4, _, cp5, rfl, rfl, rfl⟩, rfl⟩
    refine JL.val (yl_assign rfl) rfl ?_
    refine JL.val (yl_assign rfl) rfl ?_
    refine JL.nil ?_
    refine JE.weak (env' := [(4, .slice a4 x3.length cp5), (5, .int .i64 0)]) (es' := [rowT 2 eI64 a4 x3.length cp5 x3]) [0] ?_ ⟨rfl, rfl, trivial⟩ (by decide) rfl
    refine JE.code ?_
    refine JX.ret ?_
    obtain rfl := Option.some.inj hres
    refine JE.ret (rs := [.tmp 4, .tmp 5]) (vs := [.slice a4 x3.length cp5, .int .i64 0]) rfl ⟨rfl, rfl, trivial⟩ ?_
    exact fun w' hb hs => ⟨_, _, ⟨a4, x3.length, cp5, rfl, rfl, rfl⟩, rfl, hb, hs.sel [0] _ (by decide) rfl⟩

/- impl.ClosedStrands -/
def sh55_2 (x1 : List Int × Int) : (Int × List Bool × List Int) → Option ((Int × List Bool × List Int) ⊕ (List Bool × List Int))
  | (x33, x34, x35) => Option.bind (getI x34 x33) fun x39 => bif !x39 then (Option.bind (getI x34 x33) fun x40 => Option.bind (appL x35 [x33]) fun x43 => Option.bind (sh82 x1.1 x33) fun x46 => some (.inl (x46, x34.set (x33).toNat true, x43))) else (some (.inr (x34, x35)))
def sh55_1 (q0 : Int) (x1 : List Int × Int) : (Int × List (List Int) × List Bool) → Option ((Int × List (List Int) × List Bool) ⊕ (List (List Int)))
  | (x19, x20, x21) => bif decide (x19 < q0) then (Option.bind (getI x21 x19) fun x27 => bif x27 then (some (.inl (w64 (x19 + 1), x20, x21))) else (Option.bind (iter (sh55_2 x1) (x19, x21, ([] : List Int))) fun b2 => (Option.bind (appL x20 [b2.2]) fun x52 => some (.inl (w64 (x19 + 1), x52, b2.1))))) else (some (.inr x20))
def sh55 (q0 : Int) (q1 : List Int) : Option (List (List Int) × Int) := Option.bind (sh98 q0 q1) fun x1 => bif x1.2 != 0 then (some (([] : List (List Int)), x1.2)) else (Option.bind (mkL q0 false) fun x11 => Option.bind (iter (sh55_1 q0 x1) (0, ([] : List (List Int)), x11)) fun b1 => (some (b1, 0)))
def T55 (r : List (List Int) × Int) (v : Value) (rs : List Own) : Prop := ∃ (a0 : Option Addr) (n0 c0 : Nat) (h0 : List Hd), r.1.length = n0 ∧ Inn h0 r.1 ∧ v = rets [.slice a0 n0 c0, .int .i64 r.2] ∧ rs = [rowT 35 eHd a0 n0 c0 h0, innO 2 eI64 none h0 r.1]
set_option maxRecDepth 100000 in
theorem c55 {w : World} {q0 : Int} {q1 : List Int} {a_1 : Option Addr} {n_1 c_1 : Nat} (g_1 : Rd w a_1 (eI64.fl q1)) (l_1 : q1.length = n_1) (k_1 : n_1 ≤ c_1) {r : List (List Int) × Int} (hres : sh55 q0 q1 = some r) : Calls Go.Proofs.Try.prog 55 [.int .i64 q0, .slice a_1 n_1 c_1].toArray w (Ret w (T55 r)) := by
  subst l_1
  unfold sh55 at hres
  refine calls_of (n := 56) (M := []) (es := []) Go.Proofs.Try.func55 rfl rfl rfl (Sep.nil _ _ _) ?_
  refine JX.seq ?_
  refine JX.region ?_
  refine JL.val (yl_assign rfl) rfl ?_
  refine JL.val (yl_assign rfl) rfl ?_
  refine JL.nil ?_
  refine JE.code ?_
  refine JX.seq ?_
  refine JX.region ?_
  refine JL.val (yl_move rfl) rfl ?_
  refine JL.val (yl_move rfl) rfl ?_
  obtain ⟨x1, hx1, hres⟩ := bind_some hres
  refine JL.eff (ef_call (T := T98 x1) Go.Proofs.Try.func98 rfl (by kernel_rfl) rfl (fun w hC => c98 (rd_arg g_1 hC) rfl k_1 hx1)) rfl ?_
  rintro _ _ ⟨_, ⟨a2, _, cp3, rfl, rfl, rfl⟩, rfl⟩
  refine JL.val (yl_move rfl) rfl ?_
  refine JL.val (yl_extract rfl rfl) rfl ?_
  refine JL.val (yl_extract rfl rfl) rfl ?_
  refine JL.val (yl_assign rfl) rfl ?_
  refine JL.val (yl_assign rfl) rfl ?_
  refine JL.nil ?_
  refine JE.weak (env' := [(0, .int .i64 q0), (6, .slice a2 x1.1.length cp3), (7, .int .i64 x1.2)]) (es' := [rowT 2 eI64 a2 x1.1.length cp3 x1.1]) [0] ?_ ⟨rfl, rfl, rfl, trivial⟩ (by decide) rfl
  refine JE.code ?_
  refine JX.seq ?_
  refine JX.seq ?_
  refine JX.region ?_
  refine JL.val (yl_move rfl) rfl ?_
  refine JL.val (yl_neq rfl rfl) rfl ?_
  refine JL.nil ?_
  refine JE.code ?_
  rcases cond_some hres with ⟨hb, hres⟩ | ⟨hb, hres⟩
  · refine JX.condT rfl hb ?_
    refine JX.seq ?_
    refine JX.region ?_
    refine JL.val (yl_move rfl) rfl ?_
    refine JL.val (yl_assign rfl) rfl ?_
    refine JL.val (yl_assign rfl) rfl ?_
    refine JL.nil ?_
    refine JE.weak (env' := [(4, .slice none 0 0), (5, .int .i64 x1.2)]) (es' := []) [] ?_ ⟨rfl, rfl, trivial⟩ (by decide) rfl
    refine JE.code ?_
    refine JX.ret ?_
    refine JE.nilrow 35 eHd ?_
    refine JE.nilinn 2 eI64 ?_
    obtain rfl := Option.some.inj hres
    refine JE.ret (rs := [.tmp 4, .tmp 5]) (vs := [.slice none 0 0, .int .i64 x1.2]) rfl ⟨rfl, rfl, trivial⟩ ?_
    exact fun w' hb hs => ⟨_, _, ⟨none, 0, 0, ([] : List Hd), ((Inn.len (Inn.nil (T := Int))).symm.trans rfl), (Inn.nil (T := Int)), rfl, rfl⟩, rfl, hb, hs.sel [0, 1] _ (by decide) rfl⟩
  · refine JX.condF rfl hb ?_
    refine JX.skip ?_
    refine JE.code ?_
    refine JX.seq ?_
    refine JX.drawH [(1, .pure), (0, .twoP 2 [3]), (4, .pure)] [] [] [0] [] [rowT 2 eI64 a2 x1.1.length cp3 x1.1] mixedP (by kernel_rfl) (by kernel_rfl) (by decide) rfl rfl ?_
    intro wrr7 Nr7 hFr7
    refine JH.pure rfl (yl_move rfl) rfl ?_
    obtain ⟨x11, hx11, hres⟩ := bind_some hres
    refine JH.cut (K := fun J => ∀ (a8 : Option Addr) (a12 : Option Addr), J [(0, .int .i64 q0), (6, .slice a2 x1.1.length cp3), (8, .slice a8 0 0), (24, .slice a12 x11.length x11.length)] [rowT 35 eHd a8 0 0 ([] : List Hd), innO 2 eI64 none ([] : List Hd) ([] : List (List Int)), rowT 4 eBool a12 x11.length x11.length x11]) 1 ?_ ?_
    · intro a8 a12
      refine JH.pure rfl (yl_assign rfl) rfl ?_
      refine JH.nil ?_
      refine JE.weak (env' := [(0, .int .i64 q0), (6, .slice a2 x1.1.length cp3), (8, .slice a8 0 0), (9, .slice a12 x11.length x11.length)]) (es' := [rowT 2 eI64 a2 x1.1.length cp3 x1.1, rowT 35 eHd a8 0 0 ([] : List Hd), innO 2 eI64 none ([] : List Hd) ([] : List (List Int)), rowT 4 eBool a12 x11.length x11.length x11]) [0, 1, 2, 3] ?_ ⟨rfl, rfl, rfl, rfl, trivial⟩ (by decide) rfl
      refine JE.code ?_
      refine JX.seq ?_
      refine JX.seq ?_
      refine JX.region ?_
      refine JL.val (yl_move rfl) rfl ?_
      refine JL.val (yl_move rfl) rfl ?_
      refine JL.nil ?_
      refine JE.code ?_
      refine JX.block ?_
      obtain ⟨y1, hy1, hresO1⟩ := bind_some hres
      refine JX.loop (I := fun (s1 : Int × List (List Int) × List Bool) aa ww => ∃ (a14 : Option Addr) (cp15 : Nat) (hs16 : List Hd) (hi17 : Inn hs16 s1.2.1) (l18 : s1.2.2.length = x11.length), St w [] 56 [(6, .slice a2 x1.1.length cp3), (8, .slice a14 s1.2.1.length cp15), (9, .slice a12 x11.length x11.length), (25, .int .i64 q0), (26, .int .i64 s1.1)] [rowT 2 eI64 a2 x1.1.length cp3 x1.1, rowT 35 eHd a14 s1.2.1.length cp15 hs16, innO 2 eI64 none hs16 s1.2.1, rowT 4 eBool a12 x11.length x11.length s1.2.2] aa ww) (sh55_1 q0 x1) hy1 (fun a w h => ⟨a8, 0, ([] : List Hd), (Inn.nil (T := Int)), rfl, h.weak ⟨rfl, rfl, rfl, rfl, rfl, trivial⟩ [0, 1, 2, 3] (by decide) rfl⟩) ?_
      rintro ⟨x19, x20, x21⟩ o1 hres hox1 aa ww ⟨a22, cp23, hs24, hi25, l26, hS⟩
      refine (?_ : JX Go.Proofs.Try.prog w [] 56 _ _ [(6, .slice a2 x1.1.length cp3), (8, .slice a22 x20.length cp23), (9, .slice a12 x11.length x11.length), (25, .int .i64 q0), (26, .int .i64 x19)] [rowT 2 eI64 a2 x1.1.length cp3 x1.1, rowT 35 eHd a22 x20.length cp23 hs24, innO 2 eI64 none hs24 x20, rowT 4 eBool a12 x11.length x11.length x21] _) aa ww hS
      clear hS
      simp only [sh55_1] at hres
      refine JX.seq ?_
      refine JX.region ?_
      refine JL.val (yl_lss rfl rfl) rfl ?_
      refine JL.nil ?_
      refine JE.code ?_
      refine JX.seq ?_
      rcases cond_some hres with ⟨hb, hres⟩ | ⟨hb, hres⟩
      · refine JX.condT rfl hb ?_
        refine JX.skip ?_
        refine JE.code ?_
        refine JX.seq ?_
        refine JX.block ?_
        refine JX.seq ?_
        refine JX.region ?_
        refine JL.val (yl_move rfl) rfl ?_
        refine JL.val (yl_assign rfl) rfl ?_
        refine JL.nil ?_
        refine JE.code ?_
        refine JX.seq ?_
        refine JX.seq ?_
        refine JX.region ?_
        refine JL.val (yl_move rfl) rfl ?_
        refine JL.val (yl_move rfl) rfl ?_
        obtain ⟨x27, hx27, hres⟩ := bind_some hres
        refine JL.val (yl_idxT Go.Proofs.Try.underlying106 i4 i4s rfl rfl hx27 l26 (fun w hC => rd_row hC 3 rfl)) rfl ?_
        refine JL.val (yl_loadT0 Go.Proofs.Try.underlying4 rfl rfl hx27 (fun w hC => rd_row hC 3 rfl) rfl) rfl ?_
        refine JL.nil ?_
        refine JE.weak (env' := [(6, .slice a2 x1.1.length cp3), (8, .slice a22 x20.length cp23), (9, .slice a12 x11.length x11.length), (10, .int .i64 x19), (25, .int .i64 q0), (26, .int .i64 x19), (32, .bool x27)]) (es' := [rowT 2 eI64 a2 x1.1.length cp3 x1.1, rowT 35 eHd a22 x20.length cp23 hs24, innO 2 eI64 none hs24 x20, rowT 4 eBool a12 x11.length x11.length x21]) [0, 1, 2, 3] ?_ ⟨rfl, rfl, rfl, rfl, rfl, rfl, rfl, trivial⟩ (by decide) rfl
        refine JE.code ?_
        rcases cond_some hres with ⟨hb, hres⟩ | ⟨hb, hres⟩
        · refine JX.condT rfl hb ?_
          refine JX.exit ?_
          refine JE.qb rfl ?_
          refine JE.code ?_
          refine JX.region ?_
          refine JL.val (yl_add rfl rfl) rfl ?_
          refine JL.val (yl_move rfl) rfl ?_
          refine JL.nil ?_
          refine JE.cont hres ?_
          exact fun a w h => ⟨a22, cp23, hs24, hi25, l26, h.weak ⟨rfl, (by first | rfl | (simp only [List.length_set, l26]; rfl) | simp only [List.length_set, l26]), rfl, rfl, rfl, trivial⟩ [0, 1, 2, 3] (by decide) (by first | rfl | (simp only [List.length_set, l26]; rfl) | simp only [List.length_set, l26])⟩
        · refine JX.condF rfl hb ?_
          refine JX.skip ?_
          refine JE.code ?_
          refine JX.seq ?_
          refine JX.region ?_
          refine JL.eff (ef_buildSlice (E := 2) (k := eI64.k) (us := eI64.fl ([] : List Int)) rfl (fun w => bsl35_0  w) rfl (by decide)) rfl ?_
          rintro _ _ ⟨a28, rfl, rfl⟩
          refine JL.val (yl_assign rfl) rfl ?_
          refine JL.nil ?_
          refine JE.code ?_
          refine JX.seq ?_
          refine JX.seq ?_
          refine JX.region ?_
          refine JL.val (yl_move rfl) rfl ?_
          refine JL.val (yl_assign rfl) rfl ?_
          refine JL.nil ?_
          refine JE.code ?_
          refine JX.block ?_
          obtain ⟨y2, hy2, hresO2⟩ := bind_some hres
          refine JX.loop (I := fun (s2 : Int × List Bool × List Int) aa ww => ∃ (l30 : s2.2.1.length = x11.length) (a31 : Option Addr) (cp32 : Nat), St w [] 56 [(6, .slice a2 x1.1.length cp3), (8, .slice a22 x20.length cp23), (9, .slice a12 x11.length x11.length), (11, .slice a31 s2.2.2.length cp32), (12, .int .i64 s2.1), (25, .int .i64 q0), (26, .int .i64 x19)] [rowT 2 eI64 a2 x1.1.length cp3 x1.1, rowT 35 eHd a22 x20.length cp23 hs24, innO 2 eI64 none hs24 x20, rowT 4 eBool a12 x11.length x11.length s2.2.1, rowT 2 eI64 a31 s2.2.2.length cp32 s2.2.2] aa ww) (sh55_2 x1) hy2 (fun a w h => ⟨l26, a28, 0, h.weak ⟨rfl, rfl, rfl, rfl, rfl, rfl, rfl, trivial⟩ [0, 1, 2, 3, 4] (by decide) rfl⟩) ?_
          rintro ⟨x33, x34, x35⟩ o2 hres hox2 aa ww ⟨l36, a37, cp38, hS⟩
          refine (?_ : JX Go.Proofs.Try.prog w [] 56 _ _ [(6, .slice a2 x1.1.length cp3), (8, .slice a22 x20.length cp23), (9, .slice a12 x11.length x11.length), (11, .slice a37 x35.length cp38), (12, .int .i64 x33), (25, .int .i64 q0), (26, .int .i64 x19)] [rowT 2 eI64 a2 x1.1.length cp3 x1.1, rowT 35 eHd a22 x20.length cp23 hs24, innO 2 eI64 none hs24 x20, rowT 4 eBool a12 x11.length x11.length x34, rowT 2 eI64 a37 x35.length cp38 x35] _) aa ww hS
          clear hS
          simp only [sh55_2] at hres
          refine JX.seq ?_
          refine JX.seq ?_
          refine JX.region ?_
          refine JL.val (yl_move rfl) rfl ?_
          refine JL.val (yl_move rfl) rfl ?_
          obtain ⟨x39, hx39, hres⟩ := bind_some hres
          refine JL.val (yl_idxT Go.Proofs.Try.underlying106 i4 i4s rfl rfl hx39 l36 (fun w hC => rd_row hC 3 rfl)) rfl ?_
          refine JL.val (yl_loadT0 Go.Proofs.Try.underlying4 rfl rfl hx39 (fun w hC => rd_row hC 3 rfl) rfl) rfl ?_
          refine JL.val (yl_not rfl) rfl ?_
          refine JL.nil ?_
          refine JE.weak (env' := [(6, .slice a2 x1.1.length cp3), (8, .slice a22 x20.length cp23), (9, .slice a12 x11.length x11.length), (11, .slice a37 x35.length cp38), (12, .int .i64 x33), (25, .int .i64 q0), (26, .int .i64 x19), (39, .bool !x39)]) (es' := [rowT 2 eI64 a2 x1.1.length cp3 x1.1, rowT 35 eHd a22 x20.length cp23 hs24, innO 2 eI64 none hs24 x20, rowT 4 eBool a12 x11.length x11.length x34, rowT 2 eI64 a37 x35.length cp38 x35]) [0, 1, 2, 3, 4] ?_ ⟨rfl, rfl, rfl, rfl, rfl, rfl, rfl, rfl, trivial⟩ (by decide) rfl
          refine JE.code ?_
          rcases cond_some hres with ⟨hb, hres⟩ | ⟨hb, hres⟩
          · refine JX.condT rfl hb ?_
            refine JX.skip ?_
            refine JE.code ?_
            refine JX.seq ?_
            refine JX.block ?_
            refine JX.seq ?_
            refine JX.region ?_
            refine JL.val (yl_move rfl) rfl ?_
            refine JL.val (yl_move rfl) rfl ?_
            obtain ⟨x40, hx40, hres⟩ := bind_some hres
            refine JL.val (yl_idxT Go.Proofs.Try.underlying106 i4 i4s rfl rfl hx40 l36 (fun w hC => rd_row hC 3 rfl)) rfl ?_
            refine JL.eff (ef_storeT (ix := 3) (u := true) i4 i4s rfl rfl rfl hx40 rfl) rfl ?_
            rintro _ _ rfl
            refine JL.nil ?_
            refine JE.weak (env' := [(6, .slice a2 x1.1.length cp3), (8, .slice a22 x20.length cp23), (9, .slice a12 x11.length x11.length), (11, .slice a37 x35.length cp38), (12, .int .i64 x33), (25, .int .i64 q0), (26, .int .i64 x19)]) (es' := [rowT 2 eI64 a2 x1.1.length cp3 x1.1, rowT 35 eHd a22 x20.length cp23 hs24, innO 2 eI64 none hs24 x20, rowT 4 eBool a12 x11.length x11.length (x34.set (x33).toNat true), rowT 2 eI64 a37 x35.length cp38 x35]) [0, 1, 2, 3, 4] ?_ ⟨rfl, rfl, rfl, rfl, rfl, rfl, rfl, trivial⟩ (by decide) rfl
            refine JE.code ?_
            refine JX.region ?_
            refine JL.val (yl_move rfl) rfl ?_
            refine JL.val (yl_move rfl) rfl ?_
            refine JL.eff (ef_buildSlice (E := 2) (k := eI64.k) (us := eI64.fl [x33]) rfl (fun w => bsl35_1 x33 w) rfl (by decide)) rfl ?_
            rintro _ _ ⟨a41, rfl, rfl⟩
            obtain ⟨x43, hx43, hres⟩ := bind_some hres
            refine JL.eff (ef_appendT (ix := 4) Go.Proofs.Try.underlying35 i2 i2z i2s rfl i2b0 i2b1 rfl rfl rfl rfl rfl (fun w hC => rd_row hC 5 rfl) hx43) rfl ?_
            rintro _ _ ⟨a44, cp45, rfl, rfl⟩
            refine JL.val (yl_assign rfl) rfl ?_
            refine JL.nil ?_
            refine JE.weak (env' := [(6, .slice a2 x1.1.length cp3), (8, .slice a22 x20.length cp23), (9, .slice a12 x11.length x11.length), (11, .slice a44 x43.length cp45), (12, .int .i64 x33), (25, .int .i64 q0), (26, .int .i64 x19)]) (es' := [rowT 2 eI64 a2 x1.1.length cp3 x1.1, rowT 35 eHd a22 x20.length cp23 hs24, innO 2 eI64 none hs24 x20, rowT 4 eBool a12 x11.length x11.length (x34.set (x33).toNat true), rowT 2 eI64 a44 x43.length cp45 x43]) [0, 1, 2, 3, 4] ?_ ⟨rfl, rfl, rfl, rfl, rfl, rfl, rfl, trivial⟩ (by decide) rfl
            refine JE.code ?_
            refine JX.region ?_
            refine JL.val (yl_move rfl) rfl ?_
            refine JL.val (yl_move rfl) rfl ?_
            obtain ⟨x46, hx46, hres⟩ := bind_some hres
            refine JL.eff (ef_call (T := T82 x46) Go.Proofs.Try.func82 rfl (by kernel_rfl) rfl (fun w hC => c82 (rd_row hC 0 rfl) rfl (ln_row hC 0 rfl) hx46)) rfl ?_
            rintro _ _ ⟨_, ⟨rfl, rfl⟩, rfl⟩
            refine JL.val (yl_assign rfl) rfl ?_
            refine JL.nil ?_
            refine JE.weak (env' := [(6, .slice a2 x1.1.length cp3), (8, .slice a22 x20.length cp23), (9, .slice a12 x11.length x11.length), (11, .slice a44 x43.length cp45), (12, .int .i64 x46), (25, .int .i64 q0), (26, .int .i64 x19)]) (es' := [rowT 2 eI64 a2 x1.1.length cp3 x1.1, rowT 35 eHd a22 x20.length cp23 hs24, innO 2 eI64 none hs24 x20, rowT 4 eBool a12 x11.length x11.length (x34.set (x33).toNat true), rowT 2 eI64 a44 x43.length cp45 x43]) [0, 1, 2, 3, 4] ?_ ⟨rfl, rfl, rfl, rfl, rfl, rfl, rfl, trivial⟩ (by decide) rfl
            refine JE.cont hres ?_
            exact fun a w h => ⟨(List.length_set.trans l36), a44, cp45, h.weak ⟨rfl, rfl, rfl, rfl, rfl, rfl, rfl, trivial⟩ [0, 1, 2, 3, 4] (by decide) rfl⟩
          · refine JX.condF rfl hb ?_
            refine JX.exit ?_
            refine JE.qb rfl ?_
            obtain ⟨b2, hb2⟩ : ∃ b : List Bool × List Int, b = (x34, x35) := ⟨_, rfl⟩
            have hy2 : b2 = y2 := by rw [hb2]; exact hox2 _ (Option.some.inj hres).symm
            have hres := hresO2
            rw [← hy2] at hres
            have l47 : b2.1.length = x11.length := by subst hb2; exact l36
            refine JE.weak (env' := [(6, .slice a2 x1.1.length cp3), (8, .slice a22 x20.length cp23), (9, .slice a12 x11.length x11.length), (11, .slice a37 b2.2.length cp38), (25, .int .i64 q0), (26, .int .i64 x19)]) (es' := [rowT 2 eI64 a2 x1.1.length cp3 x1.1, rowT 35 eHd a22 x20.length cp23 hs24, innO 2 eI64 none hs24 x20, rowT 4 eBool a12 x11.length x11.length b2.1, rowT 2 eI64 a37 b2.2.length cp38 b2.2]) [0, 1, 2, 3, 4] ?_ ⟨(by subst hb2; rfl), (by subst hb2; rfl), (by subst hb2; rfl), (by subst hb2; rfl), (by subst hb2; rfl), (by subst hb2; rfl), trivial⟩ (by decide) (by subst hb2; rfl)
            refine JE.code ?_
            refine JX.region ?_
            refine JL.val (yl_move rfl) rfl ?_
            refine JL.val (yl_move rfl) rfl ?_
            refine JL.eff (ef_buildSlice (E := 35) (k := eHd.k) (us := eHd.fl [⟨a37, b2.2.length, cp38⟩]) rfl (fun w => bsl36_1 a37 b2.2.length cp38 w) rfl (by decide)) rfl ?_
            rintro _ _ ⟨a50, rfl, rfl⟩
            obtain ⟨x52, hx52, hres⟩ := bind_some hres
            refine JL.eff (ef_appendH (ix := 1) Go.Proofs.Try.underlying36 i35 i35z i35s rfl i35b0 i35b1 rfl rfl (Inn.len hi25) rfl rfl (fun w hC => rd_row hC 5 rfl) hx52 hi25) rfl ?_
            rintro _ _ ⟨a53, cp54, rfl, rfl⟩
            refine JL.absorb (es' := [rowT 2 eI64 a2 x1.1.length cp3 x1.1, rowT 35 eHd a53 x52.length cp54 (hs24 ++ [⟨a37, b2.2.length, cp38⟩]), rowT 4 eBool a12 x11.length x11.length b2.1, rowT 35 eHd a50 1 1 [⟨a37, b2.2.length, cp38⟩]]) [0, 1, 3, 5, 2, 4] (by decide) rfl (appL_some hx52).2 ?_
            refine JL.val (yl_assign rfl) rfl ?_
            refine JL.nil ?_
            refine JE.weak (env' := [(6, .slice a2 x1.1.length cp3), (8, .slice a53 x52.length cp54), (9, .slice a12 x11.length x11.length), (25, .int .i64 q0), (26, .int .i64 x19)]) (es' := [rowT 2 eI64 a2 x1.1.length cp3 x1.1, rowT 35 eHd a53 x52.length cp54 (hs24 ++ [⟨a37, b2.2.length, cp38⟩]), innO 2 eI64 none (hs24 ++ [⟨a37, b2.2.length, cp38⟩]) x52, rowT 4 eBool a12 x11.length x11.length b2.1]) [0, 1, 4, 2] ?_ ⟨rfl, rfl, rfl, rfl, rfl, trivial⟩ (by decide) rfl
            refine JE.code ?_
            refine JX.region ?_
            refine JL.val (yl_add rfl rfl) rfl ?_
            refine JL.val (yl_move rfl) rfl ?_
            refine JL.nil ?_
            refine JE.cont hres ?_
            exact fun a w h => ⟨a53, cp54, hs24 ++ [⟨a37, b2.2.length, cp38⟩], (Inn.appZ hi25 rfl (appL_some hx52).2), l47, h.weak ⟨rfl, (by first | rfl | (simp only [List.length_set, l47]; rfl) | simp only [List.length_set, l47]), rfl, rfl, rfl, trivial⟩ [0, 1, 2, 3] (by decide) (by first | rfl | (simp only [List.length_set, l47]; rfl) | simp only [List.length_set, l47])⟩
      · refine JX.condF rfl hb ?_
        refine JX.exit ?_
        refine JE.qb rfl ?_
        obtain ⟨b1, hb1⟩ : ∃ b : List (List Int), b = x20 := ⟨_, rfl⟩
        have hy1 : b1 = y1 := by rw [hb1]; exact hox1 _ (Option.some.inj hres).symm
        have hres := hresO1
        rw [← hy1] at hres
        have hi58 : Inn hs24 b1 := by subst hb1; exact hi25
        refine JE.weak (env' := [(8, .slice a22 b1.length cp23)]) (es' := [rowT 35 eHd a22 b1.length cp23 hs24, innO 2 eI64 none hs24 b1]) [1, 2] ?_ ⟨(by subst hb1; first | rfl | (simp only [List.length_set]; rfl) | simp only [List.length_set]), trivial⟩ (by decide) (by subst hb1; first | rfl | (simp only [List.length_set]; rfl) | simp only [List.length_set])
        refine JE.code ?_
        refine JX.seq ?_
        refine JX.region ?_
        refine JL.val (yl_move rfl) rfl ?_
        refine JL.val (yl_assign rfl) rfl ?_
        refine JL.val (yl_assign rfl) rfl ?_
        refine JL.nil ?_
        refine JE.code ?_
        refine JX.ret ?_
        obtain rfl := Option.some.inj hres
        refine JE.ret (rs := [.tmp 4, .tmp 5]) (vs := [.slice a22 b1.length cp23, .int .i64 0]) rfl ⟨rfl, rfl, trivial⟩ ?_
        exact fun w' hb hs => ⟨_, _, ⟨a22, b1.length, cp23, hs24, rfl, hi58, rfl, rfl⟩, rfl, hb, hs.sel [0, 1] _ (by decide) rfl⟩
    · intro K
      refine JH.twoP ?_ ?_
      · refine JH.must rfl (ef_buildSlice (E := 35) (k := eHd.k) (us := eHd.fl ([] : List Hd)) rfl (fun w => bsl36_0  w) rfl (by decide)) rfl rfl ?_
        rintro _ _ ⟨a8, rfl, rfl⟩
        refine JH.nilinn 2 eI64 ?_
        refine JH.pure rfl (yl_assign rfl) rfl ?_
        refine JH.must rfl (ef_makeS (e := eBool) Go.Proofs.Try.underlying106 i4 i4s i4z rfl i4b1 rfl rfl hx11) rfl rfl ?_
        rintro _ _ ⟨a12, rfl, rfl⟩
        exact JH.weak [0, 1, 2] (K a8 a12) ⟨rfl, rfl, rfl, rfl, trivial⟩ (by decide) rfl
      · refine JH.must rfl (ef_makeS (e := eBool) Go.Proofs.Try.underlying106 i4 i4s i4z rfl i4b1 rfl rfl hx11) rfl rfl ?_
        rintro _ _ ⟨a12, rfl, rfl⟩
        refine JH.must rfl (ef_buildSlice (E := 35) (k := eHd.k) (us := eHd.fl ([] : List Hd)) rfl (fun w => bsl36_0  w) rfl (by decide)) rfl rfl ?_
        rintro _ _ ⟨a8, rfl, rfl⟩
        refine JH.nilinn 2 eI64 ?_
        refine JH.pure rfl (yl_assign rfl) rfl ?_
        exact JH.weak [1, 2, 0] (K a8 a12) ⟨rfl, rfl, rfl, rfl, trivial⟩ (by decide) rfl

/- laws.FnExactClosedStrands -/
def sh12 (q0 : Int) (q1 : List Int) : Option (Bool) := bif decide (1048576 < (q1.length : Int)) then (some true) else (Option.bind (sh24 q1) fun x1 => Option.bind (sh54 q0 x1) fun x5 => Option.bind (sh24 q1) fun x12 => Option.bind (sh55 q0 x12) fun x16 => Option.bind (sh26 x16.1 x5.1) fun x23 => bif !x23 || (x16.2 != x5.2) then (some false) else (Option.bind (sh24 q1) fun x24 => Option.bind (sh27 x12 x24) fun x28 => bif !x28 then (some false) else (Option.bind (sh28 x12 1) fun x29 => Option.bind (bif decide (x29.1 < 0) then (some true) else (Option.bind (sh26 x16.1 x5.1) fun x32 => some !x32)) fun c31 => (bif c31 || (x16.2 != x5.2) then (some false) else (Option.bind (sh29 x16.1 1) fun x33 => Option.bind (sh30 x33.2 1) fun x36 => bif decide (x36 < 0) then (some false) else (bif x36 != x33.1 then (some false) else (Option.bind (sh24 q1) fun x37 => Option.bind (sh55 q0 x37) fun x41 => Option.bind (sh26 x41.1 x5.1) fun x48 => bif !x48 || (x41.2 != x5.2) then (some false) else (Option.bind (sh30 x33.2 1) fun x49 => bif decide (x49 < 0) then (some false) else (bif x49 != x33.1 then (some false) else (some true))))))))))
def T12 (r : Bool) (v : Value) (rs : List Own) : Prop := v = rets [.bool r] ∧ rs = []
set_option maxRecDepth 100000 in
set_option maxHeartbeats 1000000 in
theorem c12 {w : World} {q0 : Int} {q1 : List Int} {a_1 : Option Addr} {n_1 c_1 : Nat} (g_1 : Rd w a_1 (eI64.fl q1)) (l_1 : q1.length = n_1) (k_1 : n_1 ≤ c_1) {r : Bool} (hres : sh12 q0 q1 = some r) : Calls Go.Proofs.Try.prog 12 [.int .i64 q0, .slice a_1 n_1 c_1].toArray w (Ret w (T12 r)) := by
  subst l_1
  unfold sh12 at hres
  refine calls_of (n := 98) (M := []) (es := []) Go.Proofs.Try.func12 rfl rfl rfl (Sep.nil _ _ _) ?_
  refine JX.seq ?_
  refine JX.region ?_
  refine JL.val (yl_assign rfl) rfl ?_
  refine JL.nil ?_
  refine JE.code ?_
  refine JX.seq ?_
  refine JX.seq ?_
  refine JX.region ?_
  refine JL.val (yl_move rfl) rfl ?_
  refine JL.val (yl_len_slice Go.Proofs.Try.underlying35 rfl) rfl ?_
  refine JL.val (yl_gtr rfl rfl) rfl ?_
  refine JL.nil ?_
  refine JE.code ?_
  rcases cond_some hres with ⟨hb, hres⟩ | ⟨hb, hres⟩
  · refine JX.condT rfl hb ?_
    refine JX.seq ?_
    refine JX.region ?_
    refine JL.val (yl_assign rfl) rfl ?_
    refine JL.nil ?_
    refine JE.code ?_
    refine JX.ret ?_
    obtain rfl := Option.some.inj hres
    refine JE.ret (rs := [.tmp 4]) (vs := [.bool true]) rfl ⟨rfl, trivial⟩ ?_
    exact fun w' hb hs => ⟨_, _, ⟨rfl, rfl⟩, rfl, hb, hs.sel [] _ (by decide) rfl⟩
  · refine JX.condF rfl hb ?_
    refine JX.skip ?_
    refine JE.code ?_
    refine JX.seq ?_
    refine JX.region ?_
    refine JL.val (yl_move rfl) rfl ?_
    refine JL.val (yl_move rfl) rfl ?_
    obtain ⟨x1, hx1, hres⟩ := bind_some hres
    refine JL.eff (ef_call (T := T24 x1) Go.Proofs.Try.func24 rfl (by kernel_rfl) rfl (fun w hC => c24 (rd_arg g_1 hC) rfl k_1 hx1)) rfl ?_
    rintro _ _ ⟨_, ⟨a2, _, cp3, rfl, rfl, rfl⟩, rfl⟩
    obtain ⟨x5, hx5, hres⟩ := bind_some hres
    refine JL.eff (ef_call (T := T54 x5) Go.Proofs.Try.func54 rfl (by kernel_rfl) rfl (fun w hC => c54 (rd_row hC 0 rfl) rfl (ln_row hC 0 rfl) hx5)) rfl ?_
    rintro _ _ ⟨_, ⟨a6, _, cp7, hs9, rfl, hi10, rfl, rfl⟩, rfl⟩
    refine JL.val (yl_move rfl) rfl ?_
    refine JL.val (yl_extract rfl rfl) rfl ?_
    refine JL.val (yl_extract rfl rfl) rfl ?_
    refine JL.val (yl_assign rfl) rfl ?_
    refine JL.val (yl_assign rfl) rfl ?_
    refine JL.nil ?_
    refine JE.weak (env' := [(0, .int .i64 q0), (1, .slice a_1 q1.length c_1), (5, .slice a6 x5.1.length cp7), (6, .int .i64 x5.2)]) (es' := [rowT 35 eHd a6 x5.1.length cp7 hs9, innO 2 eI64 none hs9 x5.1]) [1, 2] ?_ ⟨rfl, rfl, rfl, rfl, trivial⟩ (by decide) rfl
    refine JE.code ?_
    refine JX.seq ?_
    refine JX.region ?_
    refine JL.val (yl_move rfl) rfl ?_
    obtain ⟨x12, hx12, hres⟩ := bind_some hres
    refine JL.eff (ef_call (T := T24 x12) Go.Proofs.Try.func24 rfl (by kernel_rfl) rfl (fun w hC => c24 (rd_arg g_1 hC) rfl k_1 hx12)) rfl ?_
    rintro _ _ ⟨_, ⟨a13, _, cp14, rfl, rfl, rfl⟩, rfl⟩
    refine JL.val (yl_assign rfl) rfl ?_
    refine JL.nil ?_
    refine JE.code ?_
    refine JX.seq ?_
    refine JX.region ?_
    refine JL.val (yl_move rfl) rfl ?_
    refine JL.val (yl_move rfl) rfl ?_
    obtain ⟨x16, hx16, hres⟩ := bind_some hres
    refine JL.eff (ef_call (T := T55 x16) Go.Proofs.Try.func55 rfl (by kernel_rfl) rfl (fun w hC => c55 (rd_row hC 2 rfl) rfl (ln_row hC 2 rfl) hx16)) rfl ?_
    rintro _ _ ⟨_, ⟨a17, _, cp18, hs20, rfl, hi21, rfl, rfl⟩, rfl⟩
    refine JL.val (yl_move rfl) rfl ?_
    refine JL.val (yl_extract rfl rfl) rfl ?_
    refine JL.val (yl_extract rfl rfl) rfl ?_
    refine JL.val (yl_assign rfl) rfl ?_
    refine JL.val (yl_assign rfl) rfl ?_
    refine JL.nil ?_
    refine JE.weak (env' := [(0, .int .i64 q0), (1, .slice a_1 q1.length c_1), (5, .slice a6 x5.1.length cp7), (6, .int .i64 x5.2), (7, .slice a13 x12.length cp14), (8, .slice a17 x16.1.length cp18), (9, .int .i64 x16.2)]) (es' := [rowT 35 eHd a6 x5.1.length cp7 hs9, innO 2 eI64 none hs9 x5.1, rowT 2 eI64 a13 x12.length cp14 x12, rowT 35 eHd a17 x16.1.length cp18 hs20, innO 2 eI64 none hs20 x16.1]) [0, 1, 2, 3, 4] ?_ ⟨rfl, rfl, rfl, rfl, rfl, rfl, rfl, trivial⟩ (by decide) rfl
    refine JE.code ?_
    refine JX.seq ?_
    refine JX.seq ?_
    refine JX.region ?_
    refine JL.val (yl_move rfl) rfl ?_
    refine JL.val (yl_move rfl) rfl ?_
    obtain ⟨x23, hx23, hres⟩ := bind_some hres
    refine JL.eff (ef_call (T := T26 x23) Go.Proofs.Try.func26 rfl (by kernel_rfl) rfl (fun w hC => c26 (rd_row hC 3 rfl) (rd_inn hC 4 rfl) hi21 rfl (ln_row hC 3 rfl) (rd_row hC 0 rfl) (rd_inn hC 1 rfl) hi10 rfl (ln_row hC 0 rfl) hx23)) rfl ?_
    rintro _ _ ⟨_, ⟨rfl, rfl⟩, rfl⟩
    refine JL.val (yl_not rfl) rfl ?_
    refine JL.val (yl_move rfl) rfl ?_
    refine JL.cut (K := fun J => J [(0, .int .i64 q0), (1, .slice a_1 q1.length c_1), (5, .slice a6 x5.1.length cp7), (6, .int .i64 x5.2), (7, .slice a13 x12.length cp14), (8, .slice a17 x16.1.length cp18), (9, .int .i64 x16.2), (41, .bool (!x23 || (x16.2 != x5.2)))] [rowT 35 eHd a6 x5.1.length cp7 hs9, innO 2 eI64 none hs9 x5.1, rowT 2 eI64 a13 x12.length cp14 x12, rowT 35 eHd a17 x16.1.length cp18 hs20, innO 2 eI64 none hs20 x16.1]) 4 ?_ ?_
    · refine JL.nil ?_
      refine JE.weak (env' := [(0, .int .i64 q0), (1, .slice a_1 q1.length c_1), (5, .slice a6 x5.1.length cp7), (6, .int .i64 x5.2), (7, .slice a13 x12.length cp14), (8, .slice a17 x16.1.length cp18), (9, .int .i64 x16.2), (41, .bool (!x23 || (x16.2 != x5.2)))]) (es' := [rowT 35 eHd a6 x5.1.length cp7 hs9, innO 2 eI64 none hs9 x5.1, rowT 2 eI64 a13 x12.length cp14 x12, rowT 35 eHd a17 x16.1.length cp18 hs20, innO 2 eI64 none hs20 x16.1]) [0, 1, 2, 3, 4] ?_ ⟨rfl, rfl, rfl, rfl, rfl, rfl, rfl, rfl, trivial⟩ (by decide) rfl
      refine JE.code ?_
      rcases cond_some hres with ⟨hb, hres⟩ | ⟨hb, hres⟩
      · refine JX.condT rfl hb ?_
        refine JX.seq ?_
        refine JX.region ?_
        refine JL.val (yl_assign rfl) rfl ?_
        refine JL.nil ?_
        refine JE.weak (env' := [(4, .bool false)]) (es' := []) [] ?_ ⟨rfl, trivial⟩ (by decide) rfl
        refine JE.code ?_
        refine JX.ret ?_
        obtain rfl := Option.some.inj hres
        refine JE.ret (rs := [.tmp 4]) (vs := [.bool false]) rfl ⟨rfl, trivial⟩ ?_
        exact fun w' hb hs => ⟨_, _, ⟨rfl, rfl⟩, rfl, hb, hs.sel [] _ (by decide) rfl⟩
      · refine JX.condF rfl hb ?_
        refine JX.skip ?_
        refine JE.code ?_
        refine JX.seq ?_
        refine JX.seq ?_
        refine JX.region ?_
        refine JL.val (yl_move rfl) rfl ?_
        refine JL.val (yl_move rfl) rfl ?_
        obtain ⟨x24, hx24, hres⟩ := bind_some hres
        refine JL.eff (ef_call (T := T24 x24) Go.Proofs.Try.func24 rfl (by kernel_rfl) rfl (fun w hC => c24 (rd_arg g_1 hC) rfl k_1 hx24)) rfl ?_
        rintro _ _ ⟨_, ⟨a25, _, cp26, rfl, rfl, rfl⟩, rfl⟩
        obtain ⟨x28, hx28, hres⟩ := bind_some hres
        refine JL.eff (ef_call (T := T27 x28) Go.Proofs.Try.func27 rfl (by kernel_rfl) rfl (fun w hC => c27 (rd_row hC 2 rfl) rfl (ln_row hC 2 rfl) (rd_row hC 5 rfl) rfl (ln_row hC 5 rfl) hx28)) rfl ?_
        rintro _ _ ⟨_, ⟨rfl, rfl⟩, rfl⟩
        refine JL.val (yl_not rfl) rfl ?_
        refine JL.nil ?_
        refine JE.weak (env' := [(0, .int .i64 q0), (1, .slice a_1 q1.length c_1), (5, .slice a6 x5.1.length cp7), (6, .int .i64 x5.2), (7, .slice a13 x12.length cp14), (8, .slice a17 x16.1.length cp18), (9, .int .i64 x16.2), (46, .bool !x28)]) (es' := [rowT 35 eHd a6 x5.1.length cp7 hs9, innO 2 eI64 none hs9 x5.1, rowT 2 eI64 a13 x12.length cp14 x12, rowT 35 eHd a17 x16.1.length cp18 hs20, innO 2 eI64 none hs20 x16.1]) [0, 1, 2, 3, 4] ?_ ⟨rfl, rfl, rfl, rfl, rfl, rfl, rfl, rfl, trivial⟩ (by decide) rfl
        refine JE.code ?_
        rcases cond_some hres with ⟨hb, hres⟩ | ⟨hb, hres⟩
        · refine JX.condT rfl hb ?_
          refine JX.seq ?_
          refine JX.region ?_
          refine JL.val (yl_assign rfl) rfl ?_
          refine JL.nil ?_
          refine JE.weak (env' := [(4, .bool false)]) (es' := []) [] ?_ ⟨rfl, trivial⟩ (by decide) rfl
          refine JE.code ?_
          refine JX.ret ?_
          obtain rfl := Option.some.inj hres
          refine JE.ret (rs := [.tmp 4]) (vs := [.bool false]) rfl ⟨rfl, trivial⟩ ?_
          exact fun w' hb hs => ⟨_, _, ⟨rfl, rfl⟩, rfl, hb, hs.sel [] _ (by decide) rfl⟩
        · refine JX.condF rfl hb ?_
          refine JX.skip ?_
          refine JE.code ?_
          refine JX.seq ?_
          refine JX.region ?_
          refine JL.val (yl_assign rfl) rfl ?_
          refine JL.nil ?_
          refine JE.code ?_
          refine JX.seq ?_
          refine JX.region ?_
          refine JL.val (yl_move rfl) rfl ?_
          refine JL.val (yl_move rfl) rfl ?_
          obtain ⟨x29, hx29, hres⟩ := bind_some hres
          refine JL.eff (ef_callm (T := T28 a13 x12.length cp14 x29) 2 Go.Proofs.Try.func28 rfl (by kernel_rfl) rfl rfl (fun w fp hs => c28 hs rfl hx29)) rfl ?_
          rintro _ _ ⟨_, _, ⟨l30, rfl, rfl, rfl⟩, rfl⟩
          refine JL.val (yl_assign rfl) rfl ?_
          refine JL.nil ?_
          refine JE.weak (env' := [(0, .int .i64 q0), (1, .slice a_1 q1.length c_1), (5, .slice a6 x5.1.length cp7), (6, .int .i64 x5.2), (8, .slice a17 x16.1.length cp18), (9, .int .i64 x16.2), (10, .int .i64 x29.1)]) (es' := [rowT 35 eHd a6 x5.1.length cp7 hs9, innO 2 eI64 none hs9 x5.1, rowT 35 eHd a17 x16.1.length cp18 hs20, innO 2 eI64 none hs20 x16.1]) [0, 1, 3, 4] ?_ ⟨rfl, rfl, rfl, rfl, rfl, rfl, rfl, trivial⟩ (by decide) rfl
          refine JE.code ?_
          refine JX.seq ?_
          refine JX.seq ?_
          refine JX.region ?_
          refine JL.val (yl_move rfl) rfl ?_
          refine JL.val (yl_lss rfl rfl) rfl ?_
          refine JL.val (yl_move rfl) rfl ?_
          obtain ⟨c31, hc31, hres⟩ := bind_some hres
          refine JL.cut (K := fun J => J [(0, .int .i64 q0), (1, .slice a_1 q1.length c_1), (5, .slice a6 x5.1.length cp7), (6, .int .i64 x5.2), (8, .slice a17 x16.1.length cp18), (9, .int .i64 x16.2), (57, .bool c31)] [rowT 35 eHd a6 x5.1.length cp7 hs9, innO 2 eI64 none hs9 x5.1, rowT 35 eHd a17 x16.1.length cp18 hs20, innO 2 eI64 none hs20 x16.1]) 5 ?_ ?_
          · refine JL.val (yl_move rfl) rfl ?_
            refine JL.cut (K := fun J => J [(0, .int .i64 q0), (1, .slice a_1 q1.length c_1), (5, .slice a6 x5.1.length cp7), (6, .int .i64 x5.2), (8, .slice a17 x16.1.length cp18), (62, .bool (c31 || (x16.2 != x5.2)))] [rowT 35 eHd a6 x5.1.length cp7 hs9, innO 2 eI64 none hs9 x5.1, rowT 35 eHd a17 x16.1.length cp18 hs20, innO 2 eI64 none hs20 x16.1]) 4 ?_ ?_
            · refine JL.nil ?_
              refine JE.weak (env' := [(0, .int .i64 q0), (1, .slice a_1 q1.length c_1), (5, .slice a6 x5.1.length cp7), (6, .int .i64 x5.2), (8, .slice a17 x16.1.length cp18), (62, .bool (c31 || (x16.2 != x5.2)))]) (es' := [rowT 35 eHd a6 x5.1.length cp7 hs9, innO 2 eI64 none hs9 x5.1, rowT 35 eHd a17 x16.1.length cp18 hs20, innO 2 eI64 none hs20 x16.1]) [0, 1, 2, 3] ?_ ⟨rfl, rfl, rfl, rfl, rfl, rfl, trivial⟩ (by decide) rfl
              refine JE.code ?_
              rcases cond_some hres with ⟨hb, hres⟩ | ⟨hb, hres⟩
              · refine JX.condT rfl hb ?_
                refine JX.seq ?_
                refine JX.region ?_
                refine JL.val (yl_assign rfl) rfl ?_
                refine JL.nil ?_
                refine JE.weak (env' := [(4, .bool false)]) (es' := []) [] ?_ ⟨rfl, trivial⟩ (by decide) rfl
                refine JE.code ?_
                refine JX.ret ?_
                obtain rfl := Option.some.inj hres
                refine JE.ret (rs := [.tmp 4]) (vs := [.bool false]) rfl ⟨rfl, trivial⟩ ?_
                exact fun w' hb hs => ⟨_, _, ⟨rfl, rfl⟩, rfl, hb, hs.sel [] _ (by decide) rfl⟩
              · refine JX.condF rfl hb ?_
                refine JX.skip ?_
                refine JE.code ?_
                refine JX.seq ?_
                refine JX.region ?_
                refine JL.val (yl_assign rfl) rfl ?_
                refine JL.nil ?_
                refine JE.code ?_
                refine JX.seq ?_
                refine JX.region ?_
                refine JL.val (yl_move rfl) rfl ?_
                refine JL.val (yl_move rfl) rfl ?_
                obtain ⟨x33, hx33, hres⟩ := bind_some hres
                refine JL.eff (ef_callms (caps := []) (vs := [.slice a17 x16.1.length cp18, .int .i64 1]) (T := T29 a17 x16.1.length cp18 hs20 x33) [2, 3] [0, 1] [rowT 35 eHd a17 x16.1.length cp18 hs20, innO 2 eI64 none hs20 x16.1] [rowT 35 eHd a6 x5.1.length cp7 hs9, innO 2 eI64 none hs9 x5.1] rfl Go.Proofs.Try.func29 rfl (by kernel_rfl) rfl (by decide) rfl rfl (fun w N hF hS => c29  hi21 rfl hS hx33)) rfl ?_
                rintro _ _ ⟨_, _, ⟨l34, hi35, rfl, rfl, rfl⟩, rfl⟩
                refine JL.val (yl_assign rfl) rfl ?_
                refine JL.nil ?_
                refine JE.weak (env' := [(0, .int .i64 q0), (1, .slice a_1 q1.length c_1), (5, .slice a6 x5.1.length cp7), (6, .int .i64 x5.2), (8, .slice a17 x16.1.length cp18), (11, .int .i64 x33.1)]) (es' := [rowT 35 eHd a6 x5.1.length cp7 hs9, innO 2 eI64 none hs9 x5.1, rowT 35 eHd a17 x16.1.length cp18 hs20, innO 2 eI64 none hs20 x33.2]) [0, 1, 2, 3] ?_ ⟨rfl, rfl, rfl, rfl, rfl, rfl, trivial⟩ (by decide) rfl
                refine JE.code ?_
                refine JX.seq ?_
                refine JX.region ?_
                refine JL.val (yl_assign rfl) rfl ?_
                refine JL.nil ?_
                refine JE.code ?_
                refine JX.seq ?_
                refine JX.region ?_
                refine JL.val (yl_move rfl) rfl ?_
                refine JL.val (yl_move rfl) rfl ?_
                obtain ⟨x36, hx36, hres⟩ := bind_some hres
                refine JL.eff (ef_call (T := T30 x36) Go.Proofs.Try.func30 rfl (by kernel_rfl) rfl (fun w hC => c30 (rd_row hC 2 rfl) (rd_inn hC 3 rfl) hi35 ((Inn.len hi35).symm.trans (Inn.len hi21)) (ln_row hC 2 rfl) hx36)) rfl ?_
                rintro _ _ ⟨_, ⟨rfl, rfl⟩, rfl⟩
                refine JL.val (yl_assign rfl) rfl ?_
                refine JL.nil ?_
                refine JE.weak (env' := [(0, .int .i64 q0), (1, .slice a_1 q1.length c_1), (5, .slice a6 x5.1.length cp7), (6, .int .i64 x5.2), (8, .slice a17 x16.1.length cp18), (11, .int .i64 x33.1), (12, .int .i64 x36)]) (es' := [rowT 35 eHd a6 x5.1.length cp7 hs9, innO 2 eI64 none hs9 x5.1, rowT 35 eHd a17 x16.1.length cp18 hs20, innO 2 eI64 none hs20 x33.2]) [0, 1, 2, 3] ?_ ⟨rfl, rfl, rfl, rfl, rfl, rfl, rfl, trivial⟩ (by decide) rfl
                refine JE.code ?_
                refine JX.seq ?_
                refine JX.seq ?_
                refine JX.region ?_
                refine JL.val (yl_move rfl) rfl ?_
                refine JL.val (yl_lss rfl rfl) rfl ?_
                refine JL.nil ?_
                refine JE.code ?_
                rcases cond_some hres with ⟨hb, hres⟩ | ⟨hb, hres⟩
                · refine JX.condT rfl hb ?_
                  refine JX.seq ?_
                  refine JX.region ?_
                  refine JL.val (yl_assign rfl) rfl ?_
                  refine JL.nil ?_
                  refine JE.weak (env' := [(4, .bool false)]) (es' := []) [] ?_ ⟨rfl, trivial⟩ (by decide) rfl
                  refine JE.code ?_
                  refine JX.ret ?_
                  obtain rfl := Option.some.inj hres
                  refine JE.ret (rs := [.tmp 4]) (vs := [.bool false]) rfl ⟨rfl, trivial⟩ ?_
                  exact fun w' hb hs => ⟨_, _, ⟨rfl, rfl⟩, rfl, hb, hs.sel [] _ (by decide) rfl⟩
                · refine JX.condF rfl hb ?_
                  refine JX.skip ?_
                  refine JE.code ?_
                  refine JX.seq ?_
                  refine JX.seq ?_
                  refine JX.region ?_
                  refine JL.val (yl_move rfl) rfl ?_
                  refine JL.val (yl_move rfl) rfl ?_
                  refine JL.val (yl_neq rfl rfl) rfl ?_
                  refine JL.nil ?_
                  refine JE.code ?_
                  rcases cond_some hres with ⟨hb, hres⟩ | ⟨hb, hres⟩
                  · refine JX.condT rfl hb ?_
                    refine JX.seq ?_
                    refine JX.region ?_
                    refine JL.val (yl_assign rfl) rfl ?_
                    refine JL.nil ?_
                    refine JE.weak (env' := [(4, .bool false)]) (es' := []) [] ?_ ⟨rfl, trivial⟩ (by decide) rfl
                    refine JE.code ?_
                    refine JX.ret ?_
                    obtain rfl := Option.some.inj hres
                    refine JE.ret (rs := [.tmp 4]) (vs := [.bool false]) rfl ⟨rfl, trivial⟩ ?_
                    exact fun w' hb hs => ⟨_, _, ⟨rfl, rfl⟩, rfl, hb, hs.sel [] _ (by decide) rfl⟩
                  · refine JX.condF rfl hb ?_
                    refine JX.skip ?_
                    refine JE.code ?_
                    refine JX.seq ?_
                    refine JX.region ?_
                    refine JL.val (yl_move rfl) rfl ?_
                    refine JL.val (yl_move rfl) rfl ?_
                    obtain ⟨x37, hx37, hres⟩ := bind_some hres
                    refine JL.eff (ef_call (T := T24 x37) Go.Proofs.Try.func24 rfl (by kernel_rfl) rfl (fun w hC => c24 (rd_arg g_1 hC) rfl k_1 hx37)) rfl ?_
                    rintro _ _ ⟨_, ⟨a38, _, cp39, rfl, rfl, rfl⟩, rfl⟩
                    obtain ⟨x41, hx41, hres⟩ := bind_some hres
                    refine JL.eff (ef_call (T := T55 x41) Go.Proofs.Try.func55 rfl (by kernel_rfl) rfl (fun w hC => c55 (rd_row hC 4 rfl) rfl (ln_row hC 4 rfl) hx41)) rfl ?_
                    rintro _ _ ⟨_, ⟨a42, _, cp43, hs45, rfl, hi46, rfl, rfl⟩, rfl⟩
                    refine JL.val (yl_move rfl) rfl ?_
                    refine JL.val (yl_extract rfl rfl) rfl ?_
                    refine JL.val (yl_extract rfl rfl) rfl ?_
                    refine JL.val (yl_assign rfl) rfl ?_
                    refine JL.val (yl_assign rfl) rfl ?_
                    refine JL.nil ?_
                    refine JE.weak (env' := [(5, .slice a6 x5.1.length cp7), (6, .int .i64 x5.2), (8, .slice a17 x16.1.length cp18), (11, .int .i64 x33.1), (13, .slice a42 x41.1.length cp43), (14, .int .i64 x41.2)]) (es' := [rowT 35 eHd a6 x5.1.length cp7 hs9, innO 2 eI64 none hs9 x5.1, rowT 35 eHd a17 x16.1.length cp18 hs20, innO 2 eI64 none hs20 x33.2, rowT 35 eHd a42 x41.1.length cp43 hs45, innO 2 eI64 none hs45 x41.1]) [0, 1, 2, 3, 5, 6] ?_ ⟨rfl, rfl, rfl, rfl, rfl, rfl, trivial⟩ (by decide) rfl
                    refine JE.code ?_
                    refine JX.seq ?_
                    refine JX.seq ?_
                    refine JX.region ?_
                    refine JL.val (yl_move rfl) rfl ?_
                    refine JL.val (yl_move rfl) rfl ?_
                    obtain ⟨x48, hx48, hres⟩ := bind_some hres
                    refine JL.eff (ef_call (T := T26 x48) Go.Proofs.Try.func26 rfl (by kernel_rfl) rfl (fun w hC => c26 (rd_row hC 4 rfl) (rd_inn hC 5 rfl) hi46 rfl (ln_row hC 4 rfl) (rd_row hC 0 rfl) (rd_inn hC 1 rfl) hi10 rfl (ln_row hC 0 rfl) hx48)) rfl ?_
                    rintro _ _ ⟨_, ⟨rfl, rfl⟩, rfl⟩
                    refine JL.val (yl_not rfl) rfl ?_
                    refine JL.val (yl_move rfl) rfl ?_
                    refine JL.cut (K := fun J => J [(8, .slice a17 x16.1.length cp18), (11, .int .i64 x33.1), (89, .bool (!x48 || (x41.2 != x5.2)))] [rowT 35 eHd a17 x16.1.length cp18 hs20, innO 2 eI64 none hs20 x33.2]) 4 ?_ ?_
                    · refine JL.nil ?_
                      refine JE.weak (env' := [(8, .slice a17 x16.1.length cp18), (11, .int .i64 x33.1), (89, .bool (!x48 || (x41.2 != x5.2)))]) (es' := [rowT 35 eHd a17 x16.1.length cp18 hs20, innO 2 eI64 none hs20 x33.2]) [0, 1] ?_ ⟨rfl, rfl, rfl, trivial⟩ (by decide) rfl
                      refine JE.code ?_
                      rcases cond_some hres with ⟨hb, hres⟩ | ⟨hb, hres⟩
                      · refine JX.condT rfl hb ?_
                        refine JX.seq ?_
                        refine JX.region ?_
                        refine JL.val (yl_assign rfl) rfl ?_
                        refine JL.nil ?_
                        refine JE.weak (env' := [(4, .bool false)]) (es' := []) [] ?_ ⟨rfl, trivial⟩ (by decide) rfl
                        refine JE.code ?_
                        refine JX.ret ?_
                        obtain rfl := Option.some.inj hres
                        refine JE.ret (rs := [.tmp 4]) (vs := [.bool false]) rfl ⟨rfl, trivial⟩ ?_
                        exact fun w' hb hs => ⟨_, _, ⟨rfl, rfl⟩, rfl, hb, hs.sel [] _ (by decide) rfl⟩
                      · refine JX.condF rfl hb ?_
                        refine JX.skip ?_
                        refine JE.code ?_
                        refine JX.seq ?_
                        refine JX.region ?_
                        refine JL.val (yl_assign rfl) rfl ?_
                        refine JL.nil ?_
                        refine JE.code ?_
                        refine JX.seq ?_
                        refine JX.region ?_
                        refine JL.val (yl_move rfl) rfl ?_
                        refine JL.val (yl_move rfl) rfl ?_
                        obtain ⟨x49, hx49, hres⟩ := bind_some hres
                        refine JL.eff (ef_call (T := T30 x49) Go.Proofs.Try.func30 rfl (by kernel_rfl) rfl (fun w hC => c30 (rd_row hC 0 rfl) (rd_inn hC 1 rfl) hi35 ((Inn.len hi35).symm.trans (Inn.len hi21)) (ln_row hC 0 rfl) hx49)) rfl ?_
                        rintro _ _ ⟨_, ⟨rfl, rfl⟩, rfl⟩
                        refine JL.val (yl_assign rfl) rfl ?_
                        refine JL.nil ?_
                        refine JE.weak (env' := [(11, .int .i64 x33.1), (12, .int .i64 x49)]) (es' := []) [] ?_ ⟨rfl, rfl, trivial⟩ (by decide) rfl
                        refine JE.code ?_
                        refine JX.seq ?_
                        refine JX.seq ?_
                        refine JX.region ?_
                        refine JL.val (yl_move rfl) rfl ?_
                        refine JL.val (yl_lss rfl rfl) rfl ?_
                        refine JL.nil ?_
                        refine JE.code ?_
                        rcases cond_some hres with ⟨hb, hres⟩ | ⟨hb, hres⟩
                        · refine JX.condT rfl hb ?_
                          refine JX.seq ?_
                          refine JX.region ?_
                          refine JL.val (yl_assign rfl) rfl ?_
                          refine JL.nil ?_
                          refine JE.code ?_
                          refine JX.ret ?_
                          obtain rfl := Option.some.inj hres
                          refine JE.ret (rs := [.tmp 4]) (vs := [.bool false]) rfl ⟨rfl, trivial⟩ ?_
                          exact fun w' hb hs => ⟨_, _, ⟨rfl, rfl⟩, rfl, hb, hs.sel [] _ (by decide) rfl⟩
                        · refine JX.condF rfl hb ?_
                          refine JX.skip ?_
                          refine JE.code ?_
                          refine JX.seq ?_
                          refine JX.seq ?_
                          refine JX.region ?_
                          refine JL.val (yl_move rfl) rfl ?_
                          refine JL.val (yl_move rfl) rfl ?_
                          refine JL.val (yl_neq rfl rfl) rfl ?_
                          refine JL.nil ?_
                          refine JE.code ?_
                          rcases cond_some hres with ⟨hb, hres⟩ | ⟨hb, hres⟩
                          · refine JX.condT rfl hb ?_
                            refine JX.seq ?_
                            refine JX.region ?_
                            refine JL.val (yl_assign rfl) rfl ?_
                            refine JL.nil ?_
                            refine JE.code ?_
                            refine JX.ret ?_
                            obtain rfl := Option.some.inj hres
                            refine JE.ret (rs := [.tmp 4]) (vs := [.bool false]) rfl ⟨rfl, trivial⟩ ?_
                            exact fun w' hb hs => ⟨_, _, ⟨rfl, rfl⟩, rfl, hb, hs.sel [] _ (by decide) rfl⟩
                          · refine JX.condF rfl hb ?_
                            refine JX.skip ?_
                            refine JE.code ?_
                            refine JX.seq ?_
                            refine JX.region ?_
                            refine JL.val (yl_assign rfl) rfl ?_
                            refine JL.nil ?_
                            refine JE.code ?_
                            refine JX.ret ?_
                            obtain rfl := Option.some.inj hres
                            refine JE.ret (rs := [.tmp 4]) (vs := [.bool true]) rfl ⟨rfl, trivial⟩ ?_
                            exact fun w' hb hs => ⟨_, _, ⟨rfl, rfl⟩, rfl, hb, hs.sel [] _ (by decide) rfl⟩
                    · intro K
                      rcases Bool.eq_false_or_eq_true (!x48) with hb | hb
                      · refine JL.set (d := 85) (v := .bool true) (congrArg (fun b => some (Value.bool b)) hb) ?_
                        refine JL.gskip rfl rfl rfl rfl ?_
                        refine JL.gskip rfl rfl rfl rfl ?_
                        refine JL.gskip rfl rfl rfl rfl ?_
                        refine JL.val (yl_pick_true rfl rfl) rfl ?_
                        exact JL.weak [2, 3] K ⟨rfl, rfl, (by rw [hb]; rfl), trivial⟩ (by decide) rfl
                      · refine JL.set (d := 85) (v := .bool false) (congrArg (fun b => some (Value.bool b)) hb) ?_
                        refine JL.gval rfl rfl (yl_move rfl) rfl ?_
                        refine JL.gval rfl rfl (yl_move rfl) rfl ?_
                        refine JL.gval rfl rfl (yl_neq rfl rfl) rfl ?_
                        refine JL.val (yl_pick_false rfl rfl) rfl ?_
                        exact JL.weak [2, 3] K ⟨rfl, rfl, (by rw [hb]; rfl), trivial⟩ (by decide) rfl
            · intro K
              rcases Bool.eq_false_or_eq_true (c31) with hb | hb
              · refine JL.set (d := 58) (v := .bool true) (congrArg (fun b => some (Value.bool b)) hb) ?_
                refine JL.gskip rfl rfl rfl rfl ?_
                refine JL.gskip rfl rfl rfl rfl ?_
                refine JL.gskip rfl rfl rfl rfl ?_
                refine JL.val (yl_pick_true rfl rfl) rfl ?_
                exact JL.weak [0, 1, 2, 3] K ⟨rfl, rfl, rfl, rfl, rfl, (by rw [hb]; rfl), trivial⟩ (by decide) rfl
              · refine JL.set (d := 58) (v := .bool false) (congrArg (fun b => some (Value.bool b)) hb) ?_
                refine JL.gval rfl rfl (yl_move rfl) rfl ?_
                refine JL.gval rfl rfl (yl_move rfl) rfl ?_
                refine JL.gval rfl rfl (yl_neq rfl rfl) rfl ?_
                refine JL.val (yl_pick_false rfl rfl) rfl ?_
                exact JL.weak [0, 1, 2, 3] K ⟨rfl, rfl, rfl, rfl, rfl, (by rw [hb]; rfl), trivial⟩ (by decide) rfl
          · intro K
            rcases cond_some hc31 with ⟨hb, hres⟩ | ⟨hb, hres⟩
            · refine JL.set (d := 52) (v := .bool true) (congrArg (fun b => some (Value.bool b)) hb) ?_
              refine JL.gskip rfl rfl rfl rfl ?_
              refine JL.gskip rfl rfl rfl rfl ?_
              refine JL.gskip rfl rfl rfl rfl ?_
              refine JL.gskip rfl rfl rfl rfl ?_
              refine JL.val (yl_pick_true rfl rfl) rfl ?_
              have he := Option.some.inj hres
              exact JL.weak [0, 1, 2, 3] K ⟨rfl, rfl, rfl, rfl, rfl, rfl, (by rw [← he]; rfl), trivial⟩ (by decide) rfl
            · refine JL.set (d := 52) (v := .bool false) (congrArg (fun b => some (Value.bool b)) hb) ?_
              refine JL.gval rfl rfl (yl_move rfl) rfl ?_
              refine JL.gval rfl rfl (yl_move rfl) rfl ?_
              obtain ⟨x32, hx32, hres⟩ := bind_some hres
              refine JL.geff rfl rfl (ef_call (T := T26 x32) Go.Proofs.Try.func26 rfl (by kernel_rfl) rfl (fun w hC => c26 (rd_row hC 2 rfl) (rd_inn hC 3 rfl) hi21 rfl (ln_row hC 2 rfl) (rd_row hC 0 rfl) (rd_inn hC 1 rfl) hi10 rfl (ln_row hC 0 rfl) hx32)) rfl ?_
              rintro _ _ ⟨_, ⟨rfl, rfl⟩, rfl⟩
              refine JL.gval rfl rfl (yl_not rfl) rfl ?_
              refine JL.val (yl_pick_false rfl rfl) rfl ?_
              have he := Option.some.inj hres
              exact JL.weak [0, 1, 2, 3] K ⟨rfl, rfl, rfl, rfl, rfl, rfl, (by rw [← he]; rfl), trivial⟩ (by decide) rfl
    · intro K
      rcases Bool.eq_false_or_eq_true (!x23) with hb | hb
      · refine JL.set (d := 37) (v := .bool true) (congrArg (fun b => some (Value.bool b)) hb) ?_
        refine JL.gskip rfl rfl rfl rfl ?_
        refine JL.gskip rfl rfl rfl rfl ?_
        refine JL.gskip rfl rfl rfl rfl ?_
        refine JL.val (yl_pick_true rfl rfl) rfl ?_
        exact JL.weak [0, 1, 2, 3, 4] K ⟨rfl, rfl, rfl, rfl, rfl, rfl, rfl, (by rw [hb]; rfl), trivial⟩ (by decide) rfl
      · refine JL.set (d := 37) (v := .bool false) (congrArg (fun b => some (Value.bool b)) hb) ?_
        refine JL.gval rfl rfl (yl_move rfl) rfl ?_
        refine JL.gval rfl rfl (yl_move rfl) rfl ?_
        refine JL.gval rfl rfl (yl_neq rfl rfl) rfl ?_
        refine JL.val (yl_pick_false rfl rfl) rfl ?_
        exact JL.weak [0, 1, 2, 3, 4] K ⟨rfl, rfl, rfl, rfl, rfl, rfl, rfl, (by rw [hb]; rfl), trivial⟩ (by decide) rfl

end Go.Sh
