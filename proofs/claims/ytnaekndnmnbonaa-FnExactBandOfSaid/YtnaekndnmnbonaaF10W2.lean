/- Walks through functions that the law reaches, printed by program. -/
import Derived.Test.YtnaekndnmnbonaaF10W1
set_option linter.unusedVariables false
set_option linter.unusedSimpArgs false
namespace Go.Sh
open Go Go.RowKit
/- laws.heldPointS -/
def sh19_1 (q0 : List SPoint) : (Int × Int) → Option ((Int × Int) ⊕ (Int ⊕ Int))
  | (x1, x2) => bif decide (x2 < (q0.length : Int)) then (Option.bind (getI q0 x2) fun x3 => bif x3.X != x1 then (some (.inr (.inr (-1)))) else (Option.bind (getI q0 x2) fun x4 => bif x4.Y != (w64 (x1 + 1)) then (some (.inr (.inr (-1)))) else (some (.inl (w64 ((w64 (x1 + 1)) + 1), w64 (x2 + 1)))))) else (some (.inr (.inl x1)))
def sh19 (q0 : List SPoint) (q1 : Int) : Option (Int) := Option.bind (iter (sh19_1 q0) (q1, 0)) fun y1 => elimS y1 (fun r => some r) fun b1 => (some b1)
def T19 (r : Int) (v : Value) (rs : List Own) : Prop := v = rets [.int .i64 r] ∧ rs = []
set_option maxRecDepth 100000 in
theorem c19 {w : World} {q0 : List SPoint} {a_0 : Option Addr} {n_0 c_0 : Nat} (g_0 : Rd w a_0 (eSPoint.fl q0)) (l_0 : q0.length = n_0) (k_0 : n_0 ≤ c_0) {q1 : Int} {r : Int} (hres : sh19 q0 q1 = some r) : Calls Go.Proofs.Try.prog 19 [.slice a_0 n_0 c_0, .int .i64 q1].toArray w (Ret w (T19 r)) := by
  subst l_0
  unfold sh19 at hres
  refine calls_of (n := 31) (M := []) (es := []) Go.Proofs.Try.func19 rfl rfl rfl (Sep.nil _ _ _) ?_
  refine JX.seq ?_
  refine JX.region ?_
  refine JL.val (yl_assign rfl) rfl ?_
  refine JL.nil ?_
  refine JE.code ?_
  refine JX.seq ?_
  refine JX.seq ?_
  refine JX.region ?_
  refine JL.val (yl_assign rfl) rfl ?_
  refine JL.nil ?_
  refine JE.code ?_
  refine JX.block ?_
  obtain ⟨y1, hy1, hresO1⟩ := bind_some hres
  refine JX.loop (I := fun (s1 : Int × Int) aa ww => St w [] 31 [(0, .slice a_0 q0.length c_0), (1, .int .i64 s1.1), (5, .int .i64 s1.2)] [] aa ww) (sh19_1 q0) hy1 (fun a w h => h.weak ⟨rfl, rfl, rfl, trivial⟩ [] (by decide) rfl) ?_
  rintro ⟨x1, x2⟩ o1 hres hox1 aa ww hS
  refine (?_ : JX Go.Proofs.Try.prog w [] 31 _ _ [(0, .slice a_0 q0.length c_0), (1, .int .i64 x1), (5, .int .i64 x2)] [] _) aa ww hS
  clear hS
  simp only [sh19_1] at hres
  refine JX.seq ?_
  refine JX.seq ?_
  refine JX.region ?_
  refine JL.val (yl_move rfl) rfl ?_
  refine JL.val (yl_move rfl) rfl ?_
  refine JL.val (yl_len_slice Go.Proofs.Try.underlying22 rfl) rfl ?_
  refine JL.val (yl_lss rfl rfl) rfl ?_
  refine JL.nil ?_
  refine JE.weak (env' := [(0, .slice a_0 q0.length c_0), (1, .int .i64 x1), (5, .int .i64 x2), (9, .bool (decide (x2 < (q0.length : Int))))]) (es' := []) [] ?_ ⟨rfl, rfl, rfl, rfl, trivial⟩ (by decide) rfl
  refine JE.code ?_
  rcases cond_some hres with ⟨hb, hres⟩ | ⟨hb, hres⟩
  · refine JX.condT rfl hb ?_
    refine JX.skip ?_
    refine JE.code ?_
    refine JX.seq ?_
    refine JX.block ?_
    refine JX.seq ?_
    refine JX.seq ?_
    refine JX.region ?_
    refine JL.val (yl_move rfl) rfl ?_
    refine JL.val (yl_move rfl) rfl ?_
    obtain ⟨x3, hx3, hres⟩ := bind_some hres
    refine JL.val (yl_idxT Go.Proofs.Try.underlying22 i93 i93s rfl rfl hx3 rfl (fun w hC => rd_arg g_0 hC)) rfl ?_
    refine JL.val (yl_fieldAtT Go.Proofs.Try.underlying93 rfl i2 i2n rfl hx3 (fun w hC => rd_arg g_0 hC)) rfl ?_
    refine JL.val (yl_loadT1 Go.Proofs.Try.underlying2 rfl rfl hx3 (fun w hC => rd_arg g_0 hC) rfl) rfl ?_
    refine JL.val (yl_move rfl) rfl ?_
    refine JL.val (yl_neq rfl rfl) rfl ?_
    refine JL.nil ?_
    refine JE.weak (env' := [(0, .slice a_0 q0.length c_0), (1, .int .i64 x1), (5, .int .i64 x2), (18, .bool (x3.X != x1))]) (es' := []) [] ?_ ⟨rfl, rfl, rfl, rfl, trivial⟩ (by decide) rfl
    refine JE.code ?_
    rcases cond_some hres with ⟨hb, hres⟩ | ⟨hb, hres⟩
    · refine JX.condT rfl hb ?_
      refine JX.seq ?_
      refine JX.region ?_
      refine JL.val (yl_assign rfl) rfl ?_
      refine JL.nil ?_
      refine JE.code ?_
      refine JX.ret ?_
      refine JE.qbr ?_
      refine JE.qbr ?_
      have hres := elimS_inr hresO1 (hox1 _ (Option.some.inj hres).symm)
      obtain rfl := Option.some.inj hres
      refine JE.ret (rs := [.tmp 4]) (vs := [.int .i64 (-1)]) rfl ⟨rfl, trivial⟩ ?_
      exact fun w' hb hs => ⟨_, _, ⟨rfl, rfl⟩, rfl, hb, hs.sel [] _ (by decide) rfl⟩
    · refine JX.condF rfl hb ?_
      refine JX.skip ?_
      refine JE.code ?_
      refine JX.seq ?_
      refine JX.region ?_
      refine JL.val (yl_move rfl) rfl ?_
      refine JL.val (yl_add rfl rfl) rfl ?_
      refine JL.val (yl_assign rfl) rfl ?_
      refine JL.nil ?_
      refine JE.code ?_
      refine JX.seq ?_
      refine JX.seq ?_
      refine JX.region ?_
      refine JL.val (yl_move rfl) rfl ?_
      refine JL.val (yl_move rfl) rfl ?_
      obtain ⟨x4, hx4, hres⟩ := bind_some hres
      refine JL.val (yl_idxT Go.Proofs.Try.underlying22 i93 i93s rfl rfl hx4 rfl (fun w hC => rd_arg g_0 hC)) rfl ?_
      refine JL.val (yl_fieldAtT Go.Proofs.Try.underlying93 rfl i2 i2n rfl hx4 (fun w hC => rd_arg g_0 hC)) rfl ?_
      refine JL.val (yl_loadT1 Go.Proofs.Try.underlying2 rfl rfl hx4 (fun w hC => rd_arg g_0 hC) rfl) rfl ?_
      refine JL.val (yl_move rfl) rfl ?_
      refine JL.val (yl_neq rfl rfl) rfl ?_
      refine JL.nil ?_
      refine JE.weak (env' := [(0, .slice a_0 q0.length c_0), (1, .int .i64 (w64 (x1 + 1))), (5, .int .i64 x2), (27, .bool (x4.Y != (w64 (x1 + 1))))]) (es' := []) [] ?_ ⟨rfl, rfl, rfl, rfl, trivial⟩ (by decide) rfl
      refine JE.code ?_
      rcases cond_some hres with ⟨hb, hres⟩ | ⟨hb, hres⟩
      · refine JX.condT rfl hb ?_
        refine JX.seq ?_
        refine JX.region ?_
        refine JL.val (yl_assign rfl) rfl ?_
        refine JL.nil ?_
        refine JE.code ?_
        refine JX.ret ?_
        refine JE.qbr ?_
        refine JE.qbr ?_
        have hres := elimS_inr hresO1 (hox1 _ (Option.some.inj hres).symm)
        obtain rfl := Option.some.inj hres
        refine JE.ret (rs := [.tmp 4]) (vs := [.int .i64 (-1)]) rfl ⟨rfl, trivial⟩ ?_
        exact fun w' hb hs => ⟨_, _, ⟨rfl, rfl⟩, rfl, hb, hs.sel [] _ (by decide) rfl⟩
      · refine JX.condF rfl hb ?_
        refine JX.skip ?_
        refine JE.code ?_
        refine JX.region ?_
        refine JL.val (yl_move rfl) rfl ?_
        refine JL.val (yl_add rfl rfl) rfl ?_
        refine JL.val (yl_assign rfl) rfl ?_
        refine JL.nil ?_
        refine JE.code ?_
        refine JX.region ?_
        refine JL.val (yl_move rfl) rfl ?_
        refine JL.val (yl_add rfl rfl) rfl ?_
        refine JL.val (yl_assign rfl) rfl ?_
        refine JL.nil ?_
        refine JE.cont hres ?_
        exact fun a w h => h.weak ⟨rfl, rfl, rfl, trivial⟩ [] (by decide) rfl
  · refine JX.condF rfl hb ?_
    refine JX.exit ?_
    refine JE.qb rfl ?_
    obtain ⟨b1, hb1⟩ : ∃ b : Int, b = x1 := ⟨_, rfl⟩
    have hy1 : Sum.inl b1 = y1 := by rw [hb1]; exact hox1 _ (Option.some.inj hres).symm
    have hres := elimS_inl hresO1 hy1
    refine JE.weak (env' := [(1, .int .i64 b1)]) (es' := []) [] ?_ ⟨(by subst hb1; rfl), trivial⟩ (by decide) (by subst hb1; rfl)
    refine JE.code ?_
    refine JX.seq ?_
    refine JX.region ?_
    refine JL.val (yl_move rfl) rfl ?_
    refine JL.val (yl_assign rfl) rfl ?_
    refine JL.nil ?_
    refine JE.code ?_
    refine JX.ret ?_
    obtain rfl := Option.some.inj hres
    refine JE.ret (rs := [.tmp 4]) (vs := [.int .i64 b1]) rfl ⟨rfl, trivial⟩ ?_
    exact fun w' hb hs => ⟨_, _, ⟨rfl, rfl⟩, rfl, hb, hs.sel [] _ (by decide) rfl⟩

/- laws.heldPointSS -/
def sh50_1 (q0 : List (List SPoint)) : (Int × Int) → Option ((Int × Int) ⊕ (Int ⊕ Int))
  | (x1, x2) => bif decide (x2 < ((q0.length : Nat) : Int)) then (Option.bind (getI q0 x2) fun x3 => Option.bind (sh19 x3 x1) fun x7 => bif decide (x7 < 0) then (some (.inr (.inr (-1)))) else (some (.inl (x7, w64 (x2 + 1))))) else (some (.inr (.inl x1)))
def sh50 (q0 : List (List SPoint)) (q1 : Int) : Option (Int) := Option.bind (iter (sh50_1 q0) (q1, 0)) fun y1 => elimS y1 (fun r => some r) fun b1 => (some b1)
def T50 (r : Int) (v : Value) (rs : List Own) : Prop := v = rets [.int .i64 r] ∧ rs = []
set_option maxRecDepth 100000 in
theorem c50 {w : World} {q0 : List (List SPoint)} {a_0 : Option Addr} {n_0 c_0 : Nat} {h_0 : List Hd} (g_0 : Rd w a_0 (eHd.fl h_0)) (r_0 : RdI w eSPoint h_0 q0) (i_0 : Inn h_0 q0) (l_0 : q0.length = n_0) (k_0 : n_0 ≤ c_0) {q1 : Int} {r : Int} (hres : sh50 q0 q1 = some r) : Calls Go.Proofs.Try.prog 50 [.slice a_0 n_0 c_0, .int .i64 q1].toArray w (Ret w (T50 r)) := by
  subst l_0
  unfold sh50 at hres
  refine calls_of (n := 21) (M := []) (es := []) Go.Proofs.Try.func50 rfl rfl rfl (Sep.nil _ _ _) ?_
  refine JX.seq ?_
  refine JX.region ?_
  refine JL.val (yl_assign rfl) rfl ?_
  refine JL.nil ?_
  refine JE.code ?_
  refine JX.seq ?_
  refine JX.seq ?_
  refine JX.region ?_
  refine JL.val (yl_assign rfl) rfl ?_
  refine JL.nil ?_
  refine JE.code ?_
  refine JX.block ?_
  obtain ⟨y1, hy1, hresO1⟩ := bind_some hres
  refine JX.loop (I := fun (s1 : Int × Int) aa ww => St w [] 21 [(0, .slice a_0 q0.length c_0), (1, .int .i64 s1.1), (5, .int .i64 s1.2)] [] aa ww) (sh50_1 q0) hy1 (fun a w h => h.weak ⟨rfl, rfl, rfl, trivial⟩ [] (by decide) rfl) ?_
  rintro ⟨x1, x2⟩ o1 hres hox1 aa ww hS
  refine (?_ : JX Go.Proofs.Try.prog w [] 21 _ _ [(0, .slice a_0 q0.length c_0), (1, .int .i64 x1), (5, .int .i64 x2)] [] _) aa ww hS
  clear hS
  simp only [sh50_1] at hres
  refine JX.seq ?_
  refine JX.seq ?_
  refine JX.region ?_
  refine JL.val (yl_move rfl) rfl ?_
  refine JL.val (yl_move rfl) rfl ?_
  refine JL.val (yl_len_slice Go.Proofs.Try.underlying59 rfl) rfl ?_
  refine JL.val (yl_lss rfl rfl) rfl ?_
  refine JL.nil ?_
  refine JE.weak (env' := [(0, .slice a_0 q0.length c_0), (1, .int .i64 x1), (5, .int .i64 x2), (9, .bool (decide (x2 < ((q0.length : Nat) : Int))))]) (es' := []) [] ?_ ⟨rfl, rfl, rfl, rfl, trivial⟩ (by decide) rfl
  refine JE.code ?_
  rcases cond_some hres with ⟨hb, hres⟩ | ⟨hb, hres⟩
  · refine JX.condT rfl hb ?_
    refine JX.skip ?_
    refine JE.code ?_
    refine JX.seq ?_
    refine JX.block ?_
    refine JX.seq ?_
    refine JX.region ?_
    refine JL.val (yl_move rfl) rfl ?_
    refine JL.val (yl_move rfl) rfl ?_
    obtain ⟨x3, hx3, hres⟩ := bind_some hres
    obtain ⟨ha4, hc5, hhx3⟩ := Inn.sub i_0 hx3
    refine JL.val (yl_idxT Go.Proofs.Try.underlying59 i22 i22s rfl rfl hhx3 (Inn.len i_0) (fun w hC => rd_arg g_0 hC)) rfl ?_
    refine JL.val (yl_loadT0 (z := ⟨ha4, x3.length, hc5⟩) Go.Proofs.Try.underlying22 rfl rfl hhx3 (fun w hC => rd_arg g_0 hC) rfl) rfl ?_
    refine JL.val (yl_move rfl) rfl ?_
    obtain ⟨x7, hx7, hres⟩ := bind_some hres
    refine JL.eff (ef_call (T := T19 x7) Go.Proofs.Try.func19 rfl (by kernel_rfl) rfl (fun w hC => c19 (rd_arg (RdI.sub r_0 hx3 hhx3) hC) rfl (RdI.ln r_0 hx3 hhx3) hx7)) rfl ?_
    rintro _ _ ⟨_, ⟨rfl, rfl⟩, rfl⟩
    refine JL.val (yl_assign rfl) rfl ?_
    refine JL.nil ?_
    refine JE.weak (env' := [(0, .slice a_0 q0.length c_0), (1, .int .i64 x7), (5, .int .i64 x2)]) (es' := []) [] ?_ ⟨rfl, rfl, rfl, trivial⟩ (by decide) rfl
    refine JE.code ?_
    refine JX.seq ?_
    refine JX.region ?_
    refine JL.val (yl_move rfl) rfl ?_
    refine JL.val (yl_lss rfl rfl) rfl ?_
    refine JL.nil ?_
    refine JE.code ?_
    rcases cond_some hres with ⟨hb, hres⟩ | ⟨hb, hres⟩
    · refine JX.condT rfl hb ?_
      refine JX.seq ?_
      refine JX.region ?_
      refine JL.val (yl_assign rfl) rfl ?_
      refine JL.nil ?_
      refine JE.code ?_
      refine JX.ret ?_
      refine JE.qbr ?_
      refine JE.qbr ?_
      have hres := elimS_inr hresO1 (hox1 _ (Option.some.inj hres).symm)
      obtain rfl := Option.some.inj hres
      refine JE.ret (rs := [.tmp 4]) (vs := [.int .i64 (-1)]) rfl ⟨rfl, trivial⟩ ?_
      exact fun w' hb hs => ⟨_, _, ⟨rfl, rfl⟩, rfl, hb, hs.sel [] _ (by decide) rfl⟩
    · refine JX.condF rfl hb ?_
      refine JX.skip ?_
      refine JE.code ?_
      refine JX.region ?_
      refine JL.val (yl_move rfl) rfl ?_
      refine JL.val (yl_add rfl rfl) rfl ?_
      refine JL.val (yl_assign rfl) rfl ?_
      refine JL.nil ?_
      refine JE.cont hres ?_
      exact fun a w h => h.weak ⟨rfl, rfl, rfl, trivial⟩ [] (by decide) rfl
  · refine JX.condF rfl hb ?_
    refine JX.exit ?_
    refine JE.qb rfl ?_
    obtain ⟨b1, hb1⟩ : ∃ b : Int, b = x1 := ⟨_, rfl⟩
    have hy1 : Sum.inl b1 = y1 := by rw [hb1]; exact hox1 _ (Option.some.inj hres).symm
    have hres := elimS_inl hresO1 hy1
    refine JE.weak (env' := [(1, .int .i64 b1)]) (es' := []) [] ?_ ⟨(by subst hb1; rfl), trivial⟩ (by decide) (by subst hb1; rfl)
    refine JE.code ?_
    refine JX.seq ?_
    refine JX.region ?_
    refine JL.val (yl_move rfl) rfl ?_
    refine JL.val (yl_assign rfl) rfl ?_
    refine JL.nil ?_
    refine JE.code ?_
    refine JX.ret ?_
    obtain rfl := Option.some.inj hres
    refine JE.ret (rs := [.tmp 4]) (vs := [.int .i64 b1]) rfl ⟨rfl, trivial⟩ ?_
    exact fun w' hb hs => ⟨_, _, ⟨rfl, rfl⟩, rfl, hb, hs.sel [] _ (by decide) rfl⟩

/- laws.FnExactBandOf -/
def sh10 (q0 : SPanel) (q1 : Int) (q2 : Int) (q3 : Int) : Option (Bool) := Option.bind (sh27 q0 1048576) fun x3 => bif decide (x3 < 0) then (some true) else (Option.bind (sh29 q0) fun x4 => Option.bind (sh46 x4 q1 q2 q3) fun x8 => Option.bind (sh29 q0) fun x15 => Option.bind (sh47 x15 q1 q2 q3) fun x21 => Option.bind (sh48 x21.1 x8.1) fun x28 => bif !x28 || (x21.2 != x8.2) then (some false) else (Option.bind (sh29 q0) fun x30 => Option.bind (sh32 x15 x30) fun x34 => bif !x34 then (some false) else (Option.bind (sh33 x15 1) fun x35 => Option.bind (bif decide (x35.1 < 0) then (some true) else (Option.bind (sh48 x21.1 x8.1) fun x38 => some !x38)) fun c37 => (bif c37 || (x21.2 != x8.2) then (some false) else (Option.bind (sh49 x21.1 1) fun x39 => Option.bind (sh50 x39.2 1) fun x42 => bif decide (x42 < 0) then (some false) else (bif x42 != x39.1 then (some false) else (Option.bind (sh29 q0) fun x43 => Option.bind (sh47 x43 q1 q2 q3) fun x47 => Option.bind (sh48 x47.1 x8.1) fun x54 => bif !x54 || (x47.2 != x8.2) then (some false) else (Option.bind (sh50 x39.2 1) fun x55 => bif decide (x55 < 0) then (some false) else (bif x55 != x39.1 then (some false) else (some true))))))))))
def T10 (r : Bool) (v : Value) (rs : List Own) : Prop := v = rets [.bool r] ∧ rs = []
set_option maxRecDepth 100000 in
set_option maxHeartbeats 1000000 in
theorem c10 {w : World} {q0 : SPanel} {a_0_2 : Option Addr} {n_0_2 c_0_2 : Nat} (g_0_2 : Rd w a_0_2 (eI64.fl q0.Breaks)) (l_0_2 : q0.Breaks.length = n_0_2) (k_0_2 : n_0_2 ≤ c_0_2) {q1 : Int} {q2 : Int} {q3 : Int} {r : Bool} (hres : sh10 q0 q1 q2 q3 = some r) : Calls Go.Proofs.Try.prog 10 [.agg #[.int .i64 q0.W, .int .i64 q0.H, .slice a_0_2 n_0_2 c_0_2], .int .i64 q1, .int .i64 q2, .int .i64 q3].toArray w (Ret w (T10 r)) := by
  subst l_0_2
  unfold sh10 at hres
  refine calls_of (n := 111) (M := []) (es := []) Go.Proofs.Try.func10 rfl rfl rfl (Sep.nil _ _ _) ?_
  refine JX.seq ?_
  refine JX.region ?_
  refine JL.eff (ef_box rfl rfl) rfl ?_
  rintro _ _ ⟨g1, rfl, rfl⟩
  refine JL.val (yl_assign rfl) rfl ?_
  refine JL.nil ?_
  refine JE.code ?_
  refine JX.seq ?_
  refine JX.region ?_
  refine JL.val (yl_assign rfl) rfl ?_
  refine JL.nil ?_
  refine JE.code ?_
  refine JX.seq ?_
  refine JX.region ?_
  refine JL.val (yl_loadn Go.Proofs.Try.underlying35 rfl i35 rfl (fun w hC => rd_box hC 0 rfl) rfl (i35s).symm i35p) rfl ?_
  refine JL.val (yl_move rfl) rfl ?_
  obtain ⟨x3, hx3, hres⟩ := bind_some hres
  refine JL.eff (ef_call (vs := [.agg #[.int .i64 q0.W, .int .i64 q0.H, .slice a_0_2 q0.Breaks.length c_0_2], .int .i64 1048576]) (T := T27 x3) Go.Proofs.Try.func27 rfl (by kernel_rfl) rfl (fun w hC => c27 (q0 := q0) (rd_arg g_0_2 hC) rfl k_0_2 hx3)) rfl ?_
  rintro _ _ ⟨_, ⟨rfl, rfl⟩, rfl⟩
  refine JL.val (yl_assign rfl) rfl ?_
  refine JL.nil ?_
  refine JE.weak (env' := [(1, .int .i64 q1), (2, .int .i64 q2), (3, .int .i64 q3), (4, ptrAt (some ⟨g1, 0, none⟩) 0), (9, .int .i64 x3)]) (es' := [boxO 35 g1 [.int .i64 q0.W, .int .i64 q0.H, .slice a_0_2 q0.Breaks.length c_0_2]]) [0] ?_ ⟨rfl, rfl, rfl, rfl, rfl, trivial⟩ (by decide) rfl
  refine JE.code ?_
  refine JX.seq ?_
  refine JX.seq ?_
  refine JX.region ?_
  refine JL.val (yl_move rfl) rfl ?_
  refine JL.val (yl_lss rfl rfl) rfl ?_
  refine JL.nil ?_
  refine JE.code ?_
  rcases cond_some hres with ⟨hb, hres⟩ | ⟨hb, hres⟩
  · refine JX.condT rfl hb ?_
    refine JX.seq ?_
    refine JX.region ?_
    refine JL.val (yl_assign rfl) rfl ?_
    refine JL.nil ?_
    refine JE.weak (env' := [(8, .bool true)]) (es' := []) [] ?_ ⟨rfl, trivial⟩ (by decide) rfl
    refine JE.code ?_
    refine JX.ret ?_
    obtain rfl := Option.some.inj hres
    refine JE.ret (rs := [.tmp 8]) (vs := [.bool true]) rfl ⟨rfl, trivial⟩ ?_
    exact fun w' hb hs => ⟨_, _, ⟨rfl, rfl⟩, rfl, hb, hs.sel [] _ (by decide) rfl⟩
  · refine JX.condF rfl hb ?_
    refine JX.skip ?_
    refine JE.code ?_
    refine JX.seq ?_
    refine JX.region ?_
    refine JL.val (yl_loadn Go.Proofs.Try.underlying35 rfl i35 rfl (fun w hC => rd_box hC 0 rfl) rfl (i35s).symm i35p) rfl ?_
    obtain ⟨x4, hx4, hres⟩ := bind_some hres
    refine JL.eff (ef_call (vs := [.agg #[.int .i64 q0.W, .int .i64 q0.H, .slice a_0_2 q0.Breaks.length c_0_2]]) (T := T29 x4) Go.Proofs.Try.func29 rfl (by kernel_rfl) rfl (fun w hC => c29 (q0 := q0) (rd_arg g_0_2 hC) rfl k_0_2 hx4)) rfl ?_
    rintro _ _ ⟨_, ⟨a5, _, cp6, rfl, rfl, rfl⟩, rfl⟩
    refine JL.val (yl_move rfl) rfl ?_
    refine JL.val (yl_move rfl) rfl ?_
    refine JL.val (yl_move rfl) rfl ?_
    obtain ⟨x8, hx8, hres⟩ := bind_some hres
    refine JL.eff (ef_call (vs := [.agg #[.int .i64 x4.W, .int .i64 x4.H, .slice a5 x4.Breaks.length cp6], .int .i64 q1, .int .i64 q2, .int .i64 q3]) (T := T46 x8) Go.Proofs.Try.func46 rfl (by kernel_rfl) rfl (fun w hC => c46 (q0 := x4) (rd_row hC 1 rfl) rfl (ln_row hC 1 rfl) hx8)) rfl ?_
    rintro _ _ ⟨_, ⟨a9, _, cp10, hs12, rfl, hi13, rfl, rfl⟩, rfl⟩
    refine JL.val (yl_move rfl) rfl ?_
    refine JL.val (yl_extract rfl rfl) rfl ?_
    refine JL.val (yl_extract rfl rfl) rfl ?_
    refine JL.val (yl_assign rfl) rfl ?_
    refine JL.val (yl_assign rfl) rfl ?_
    refine JL.nil ?_
    refine JE.weak (env' := [(1, .int .i64 q1), (2, .int .i64 q2), (3, .int .i64 q3), (4, ptrAt (some ⟨g1, 0, none⟩) 0), (10, .slice a9 x8.1.length cp10), (11, .int .i64 x8.2)]) (es' := [boxO 35 g1 [.int .i64 q0.W, .int .i64 q0.H, .slice a_0_2 q0.Breaks.length c_0_2], rowT 22 eHd a9 x8.1.length cp10 hs12, innO 93 eSPoint none hs12 x8.1]) [0, 2, 3] ?_ ⟨rfl, rfl, rfl, rfl, rfl, rfl, trivial⟩ (by decide) rfl
    refine JE.code ?_
    refine JX.seq ?_
    refine JX.region ?_
    refine JL.val (yl_loadn Go.Proofs.Try.underlying35 rfl i35 rfl (fun w hC => rd_box hC 0 rfl) rfl (i35s).symm i35p) rfl ?_
    obtain ⟨x15, hx15, hres⟩ := bind_some hres
    refine JL.eff (ef_call (vs := [.agg #[.int .i64 q0.W, .int .i64 q0.H, .slice a_0_2 q0.Breaks.length c_0_2]]) (T := T29 x15) Go.Proofs.Try.func29 rfl (by kernel_rfl) rfl (fun w hC => c29 (q0 := q0) (rd_arg g_0_2 hC) rfl k_0_2 hx15)) rfl ?_
    rintro _ _ ⟨_, ⟨a16, _, cp17, rfl, rfl, rfl⟩, rfl⟩
    refine JL.eff (ef_alloc i39 i39z rfl) rfl ?_
    rintro _ _ ⟨g19, rfl, rfl⟩
    refine JL.eff (ef_store_box (i := 4) (v := .agg #[.int .i64 x15.W, .int .i64 x15.H, .slice a16 x15.Breaks.length cp17]) i39 rfl rfl rfl (i39s).symm (Nat.le_of_ble_eq_true rfl) (by simp [Value.cells, Value.oneCell'])) rfl ?_
    rintro _ _ rfl
    refine JL.nil ?_
    refine JE.weak (env' := [(1, .int .i64 q1), (2, .int .i64 q2), (3, .int .i64 q3), (4, ptrAt (some ⟨g1, 0, none⟩) 0), (10, .slice a9 x8.1.length cp10), (11, .int .i64 x8.2), (12, ptrAt (some ⟨g19, 0, none⟩) 0)]) (es' := [boxO 35 g1 [.int .i64 q0.W, .int .i64 q0.H, .slice a_0_2 q0.Breaks.length c_0_2], rowT 22 eHd a9 x8.1.length cp10 hs12, innO 93 eSPoint none hs12 x8.1, boxO 39 g19 [.int .i64 x15.W, .int .i64 x15.H, .slice a16 x15.Breaks.length cp17], rowT 2 eI64 a16 x15.Breaks.length cp17 x15.Breaks]) [0, 1, 2, 4, 3] ?_ ⟨rfl, rfl, rfl, rfl, rfl, rfl, rfl, trivial⟩ (by decide) rfl
    refine JE.code ?_
    refine JX.seq ?_
    refine JX.region ?_
    refine JL.val (yl_loadn Go.Proofs.Try.underlying39 rfl i39 rfl (fun w hC => rd_box hC 3 rfl) rfl (i39s).symm i39p) rfl ?_
    refine JL.val (yl_move rfl) rfl ?_
    refine JL.val (yl_move rfl) rfl ?_
    refine JL.val (yl_move rfl) rfl ?_
    obtain ⟨x21, hx21, hres⟩ := bind_some hres
    refine JL.eff (ef_call (vs := [.agg #[.int .i64 x15.W, .int .i64 x15.H, .slice a16 x15.Breaks.length cp17], .int .i64 q1, .int .i64 q2, .int .i64 q3]) (T := T47 x21) Go.Proofs.Try.func47 rfl (by kernel_rfl) rfl (fun w hC => c47 (q0 := x15) (rd_row hC 4 rfl) rfl (ln_row hC 4 rfl) hx21)) rfl ?_
    rintro _ _ ⟨_, ⟨a22, _, cp23, hs25, rfl, hi26, rfl, rfl⟩, rfl⟩
    refine JL.val (yl_move rfl) rfl ?_
    refine JL.val (yl_extract rfl rfl) rfl ?_
    refine JL.val (yl_extract rfl rfl) rfl ?_
    refine JL.val (yl_assign rfl) rfl ?_
    refine JL.val (yl_assign rfl) rfl ?_
    refine JL.nil ?_
    refine JE.weak (env' := [(1, .int .i64 q1), (2, .int .i64 q2), (3, .int .i64 q3), (4, ptrAt (some ⟨g1, 0, none⟩) 0), (10, .slice a9 x8.1.length cp10), (11, .int .i64 x8.2), (12, ptrAt (some ⟨g19, 0, none⟩) 0), (13, .slice a22 x21.1.length cp23), (14, .int .i64 x21.2)]) (es' := [boxO 35 g1 [.int .i64 q0.W, .int .i64 q0.H, .slice a_0_2 q0.Breaks.length c_0_2], rowT 22 eHd a9 x8.1.length cp10 hs12, innO 93 eSPoint none hs12 x8.1, boxO 39 g19 [.int .i64 x15.W, .int .i64 x15.H, .slice a16 x15.Breaks.length cp17], rowT 2 eI64 a16 x15.Breaks.length cp17 x15.Breaks, rowT 22 eHd a22 x21.1.length cp23 hs25, innO 93 eSPoint none hs25 x21.1]) [0, 1, 2, 3, 4, 5, 6] ?_ ⟨rfl, rfl, rfl, rfl, rfl, rfl, rfl, rfl, rfl, trivial⟩ (by decide) rfl
    refine JE.code ?_
    refine JX.seq ?_
    refine JX.seq ?_
    refine JX.region ?_
    refine JL.val (yl_move rfl) rfl ?_
    refine JL.val (yl_move rfl) rfl ?_
    obtain ⟨x28, hx28, hres⟩ := bind_some hres
    refine JL.eff (ef_call (T := T48 x28) Go.Proofs.Try.func48 rfl (by kernel_rfl) rfl (fun w hC => c48 (rd_row hC 5 rfl) (rd_inn hC 6 rfl) hi26 rfl (ln_row hC 5 rfl) (rd_row hC 1 rfl) (rd_inn hC 2 rfl) hi13 rfl (ln_row hC 1 rfl) hx28)) rfl ?_
    rintro _ _ ⟨_, ⟨rfl, rfl⟩, rfl⟩
    refine JL.val (yl_not rfl) rfl ?_
    refine JL.val (yl_move rfl) rfl ?_
    refine JL.cut (K := fun J => J [(1, .int .i64 q1), (2, .int .i64 q2), (3, .int .i64 q3), (4, ptrAt (some ⟨g1, 0, none⟩) 0), (10, .slice a9 x8.1.length cp10), (11, .int .i64 x8.2), (12, ptrAt (some ⟨g19, 0, none⟩) 0), (13, .slice a22 x21.1.length cp23), (14, .int .i64 x21.2), (52, .bool (!x28 || (x21.2 != x8.2)))] [boxO 35 g1 [.int .i64 q0.W, .int .i64 q0.H, .slice a_0_2 q0.Breaks.length c_0_2], rowT 22 eHd a9 x8.1.length cp10 hs12, innO 93 eSPoint none hs12 x8.1, boxO 39 g19 [.int .i64 x15.W, .int .i64 x15.H, .slice a16 x15.Breaks.length cp17], rowT 2 eI64 a16 x15.Breaks.length cp17 x15.Breaks, rowT 22 eHd a22 x21.1.length cp23 hs25, innO 93 eSPoint none hs25 x21.1]) 4 ?_ ?_
    · refine JL.nil ?_
      refine JE.weak (env' := [(1, .int .i64 q1), (2, .int .i64 q2), (3, .int .i64 q3), (4, ptrAt (some ⟨g1, 0, none⟩) 0), (10, .slice a9 x8.1.length cp10), (11, .int .i64 x8.2), (12, ptrAt (some ⟨g19, 0, none⟩) 0), (13, .slice a22 x21.1.length cp23), (14, .int .i64 x21.2), (52, .bool (!x28 || (x21.2 != x8.2)))]) (es' := [boxO 35 g1 [.int .i64 q0.W, .int .i64 q0.H, .slice a_0_2 q0.Breaks.length c_0_2], rowT 22 eHd a9 x8.1.length cp10 hs12, innO 93 eSPoint none hs12 x8.1, boxO 39 g19 [.int .i64 x15.W, .int .i64 x15.H, .slice a16 x15.Breaks.length cp17], rowT 2 eI64 a16 x15.Breaks.length cp17 x15.Breaks, rowT 22 eHd a22 x21.1.length cp23 hs25, innO 93 eSPoint none hs25 x21.1]) [0, 1, 2, 3, 4, 5, 6] ?_ ⟨rfl, rfl, rfl, rfl, rfl, rfl, rfl, rfl, rfl, rfl, trivial⟩ (by decide) rfl
      refine JE.code ?_
      rcases cond_some hres with ⟨hb, hres⟩ | ⟨hb, hres⟩
      · refine JX.condT rfl hb ?_
        refine JX.seq ?_
        refine JX.region ?_
        refine JL.val (yl_assign rfl) rfl ?_
        refine JL.nil ?_
        refine JE.weak (env' := [(8, .bool false)]) (es' := []) [] ?_ ⟨rfl, trivial⟩ (by decide) rfl
        refine JE.code ?_
        refine JX.ret ?_
        obtain rfl := Option.some.inj hres
        refine JE.ret (rs := [.tmp 8]) (vs := [.bool false]) rfl ⟨rfl, trivial⟩ ?_
        exact fun w' hb hs => ⟨_, _, ⟨rfl, rfl⟩, rfl, hb, hs.sel [] _ (by decide) rfl⟩
      · refine JX.condF rfl hb ?_
        refine JX.skip ?_
        refine JE.code ?_
        refine JX.seq ?_
        refine JX.seq ?_
        refine JX.drawH [(0, .read), (1, .read), (2, .must), (3, .must), (4, .pure)] [] [] [0, 1, 2, 3, 4, 5, 6] [] [boxO 35 g1 [.int .i64 q0.W, .int .i64 q0.H, .slice a_0_2 q0.Breaks.length c_0_2], rowT 22 eHd a9 x8.1.length cp10 hs12, innO 93 eSPoint none hs12 x8.1, boxO 39 g19 [.int .i64 x15.W, .int .i64 x15.H, .slice a16 x15.Breaks.length cp17], rowT 2 eI64 a16 x15.Breaks.length cp17 x15.Breaks, rowT 22 eHd a22 x21.1.length cp23 hs25, innO 93 eSPoint none hs25 x21.1] mixedP (by kernel_rfl) (by kernel_rfl) (by decide) rfl rfl ?_
        intro wrr29 Nr29 hFr29
        refine JH.read rfl (yl_loadn Go.Proofs.Try.underlying39 rfl i39 rfl (fun w hw => hFr29.box 3 rfl rfl hw) rfl (i39s).symm i39p) rfl ?_
        refine JH.read rfl (yl_loadn Go.Proofs.Try.underlying35 rfl i35 rfl (fun w hw => hFr29.box 0 rfl rfl hw) rfl (i35s).symm i35p) rfl ?_
        obtain ⟨x30, hx30, hres⟩ := bind_some hres
        refine JH.must rfl (ef_call (vs := [.agg #[.int .i64 q0.W, .int .i64 q0.H, .slice a_0_2 q0.Breaks.length c_0_2]]) (T := T29 x30) Go.Proofs.Try.func29 rfl (by kernel_rfl) rfl (fun w hC => c29 (q0 := q0) (hFr29.arg g_0_2 hC.1) rfl k_0_2 hx30)) rfl rfl ?_
        rintro _ _ ⟨_, ⟨a31, _, cp32, rfl, rfl, rfl⟩, rfl⟩
        obtain ⟨x34, hx34, hres⟩ := bind_some hres
        refine JH.must rfl (ef_call (vs := [.agg #[.int .i64 x15.W, .int .i64 x15.H, .slice a16 x15.Breaks.length cp17], .agg #[.int .i64 x30.W, .int .i64 x30.H, .slice a31 x30.Breaks.length cp32]]) (T := T32 x34) Go.Proofs.Try.func32 rfl (by kernel_rfl) rfl (fun w hC => c32 (q0 := x15) (q1 := x30) (hFr29.row 4 rfl rfl hC.1) rfl (ln_row hFr29.cl 4 rfl) (rd_row hC 0 rfl) rfl (ln_row hC 0 rfl) hx34)) rfl rfl ?_
        rintro _ _ ⟨_, ⟨rfl, rfl⟩, rfl⟩
        refine JH.pure rfl (yl_not rfl) rfl ?_
        refine JH.nil ?_
        refine JE.weak (env' := [(1, .int .i64 q1), (2, .int .i64 q2), (3, .int .i64 q3), (4, ptrAt (some ⟨g1, 0, none⟩) 0), (10, .slice a9 x8.1.length cp10), (11, .int .i64 x8.2), (12, ptrAt (some ⟨g19, 0, none⟩) 0), (13, .slice a22 x21.1.length cp23), (14, .int .i64 x21.2), (57, .bool !x34)]) (es' := [boxO 35 g1 [.int .i64 q0.W, .int .i64 q0.H, .slice a_0_2 q0.Breaks.length c_0_2], rowT 22 eHd a9 x8.1.length cp10 hs12, innO 93 eSPoint none hs12 x8.1, boxO 39 g19 [.int .i64 x15.W, .int .i64 x15.H, .slice a16 x15.Breaks.length cp17], rowT 2 eI64 a16 x15.Breaks.length cp17 x15.Breaks, rowT 22 eHd a22 x21.1.length cp23 hs25, innO 93 eSPoint none hs25 x21.1]) [0, 1, 2, 3, 4, 5, 6] ?_ ⟨rfl, rfl, rfl, rfl, rfl, rfl, rfl, rfl, rfl, rfl, trivial⟩ (by decide) rfl
        refine JE.code ?_
        rcases cond_some hres with ⟨hb, hres⟩ | ⟨hb, hres⟩
        · refine JX.condT rfl hb ?_
          refine JX.seq ?_
          refine JX.region ?_
          refine JL.val (yl_assign rfl) rfl ?_
          refine JL.nil ?_
          refine JE.weak (env' := [(8, .bool false)]) (es' := []) [] ?_ ⟨rfl, trivial⟩ (by decide) rfl
          refine JE.code ?_
          refine JX.ret ?_
          obtain rfl := Option.some.inj hres
          refine JE.ret (rs := [.tmp 8]) (vs := [.bool false]) rfl ⟨rfl, trivial⟩ ?_
          exact fun w' hb hs => ⟨_, _, ⟨rfl, rfl⟩, rfl, hb, hs.sel [] _ (by decide) rfl⟩
        · refine JX.condF rfl hb ?_
          refine JX.skip ?_
          refine JE.code ?_
          refine JX.seq ?_
          refine JX.region ?_
          refine JL.val (yl_assign rfl) rfl ?_
          refine JL.nil ?_
          refine JE.code ?_
          refine JX.seq ?_
          refine JX.region ?_
          refine JL.val (yl_loadn Go.Proofs.Try.underlying39 rfl i39 rfl (fun w hC => rd_box hC 3 rfl) rfl (i39s).symm i39p) rfl ?_
          refine JL.val (yl_move rfl) rfl ?_
          obtain ⟨x35, hx35, hres⟩ := bind_some hres
          refine JL.eff (ef_callms (caps := []) (vs := [.agg #[.int .i64 x15.W, .int .i64 x15.H, .slice a16 x15.Breaks.length cp17], .int .i64 1]) (T := T33 a16 x15.Breaks.length cp17 x35) [4] [0, 1, 2, 3, 5, 6] [rowT 2 eI64 a16 x15.Breaks.length cp17 x15.Breaks] [boxO 35 g1 [.int .i64 q0.W, .int .i64 q0.H, .slice a_0_2 q0.Breaks.length c_0_2], rowT 22 eHd a9 x8.1.length cp10 hs12, innO 93 eSPoint none hs12 x8.1, boxO 39 g19 [.int .i64 x15.W, .int .i64 x15.H, .slice a16 x15.Breaks.length cp17], rowT 22 eHd a22 x21.1.length cp23 hs25, innO 93 eSPoint none hs25 x21.1] rfl Go.Proofs.Try.func33 rfl (by kernel_rfl) rfl (by decide) rfl rfl (fun w N hF hS => c33 (q0 := x15) rfl hS hx35)) rfl ?_
          rintro _ _ ⟨_, _, ⟨l36, rfl, rfl, rfl⟩, rfl⟩
          refine JL.val (yl_assign rfl) rfl ?_
          refine JL.nil ?_
          refine JE.weak (env' := [(1, .int .i64 q1), (2, .int .i64 q2), (3, .int .i64 q3), (4, ptrAt (some ⟨g1, 0, none⟩) 0), (10, .slice a9 x8.1.length cp10), (11, .int .i64 x8.2), (13, .slice a22 x21.1.length cp23), (14, .int .i64 x21.2), (15, .int .i64 x35.1)]) (es' := [boxO 35 g1 [.int .i64 q0.W, .int .i64 q0.H, .slice a_0_2 q0.Breaks.length c_0_2], rowT 22 eHd a9 x8.1.length cp10 hs12, innO 93 eSPoint none hs12 x8.1, rowT 22 eHd a22 x21.1.length cp23 hs25, innO 93 eSPoint none hs25 x21.1]) [0, 1, 2, 4, 5] ?_ ⟨rfl, rfl, rfl, rfl, rfl, rfl, rfl, rfl, rfl, trivial⟩ (by decide) rfl
          refine JE.code ?_
          refine JX.seq ?_
          refine JX.seq ?_
          refine JX.region ?_
          refine JL.val (yl_move rfl) rfl ?_
          refine JL.val (yl_lss rfl rfl) rfl ?_
          refine JL.val (yl_move rfl) rfl ?_
          obtain ⟨c37, hc37, hres⟩ := bind_some hres
          refine JL.cut (K := fun J => J [(1, .int .i64 q1), (2, .int .i64 q2), (3, .int .i64 q3), (4, ptrAt (some ⟨g1, 0, none⟩) 0), (10, .slice a9 x8.1.length cp10), (11, .int .i64 x8.2), (13, .slice a22 x21.1.length cp23), (14, .int .i64 x21.2), (68, .bool c37)] [boxO 35 g1 [.int .i64 q0.W, .int .i64 q0.H, .slice a_0_2 q0.Breaks.length c_0_2], rowT 22 eHd a9 x8.1.length cp10 hs12, innO 93 eSPoint none hs12 x8.1, rowT 22 eHd a22 x21.1.length cp23 hs25, innO 93 eSPoint none hs25 x21.1]) 5 ?_ ?_
          · refine JL.val (yl_move rfl) rfl ?_
            refine JL.cut (K := fun J => J [(1, .int .i64 q1), (2, .int .i64 q2), (3, .int .i64 q3), (4, ptrAt (some ⟨g1, 0, none⟩) 0), (10, .slice a9 x8.1.length cp10), (11, .int .i64 x8.2), (13, .slice a22 x21.1.length cp23), (73, .bool (c37 || (x21.2 != x8.2)))] [boxO 35 g1 [.int .i64 q0.W, .int .i64 q0.H, .slice a_0_2 q0.Breaks.length c_0_2], rowT 22 eHd a9 x8.1.length cp10 hs12, innO 93 eSPoint none hs12 x8.1, rowT 22 eHd a22 x21.1.length cp23 hs25, innO 93 eSPoint none hs25 x21.1]) 4 ?_ ?_
            · refine JL.nil ?_
              refine JE.weak (env' := [(1, .int .i64 q1), (2, .int .i64 q2), (3, .int .i64 q3), (4, ptrAt (some ⟨g1, 0, none⟩) 0), (10, .slice a9 x8.1.length cp10), (11, .int .i64 x8.2), (13, .slice a22 x21.1.length cp23), (73, .bool (c37 || (x21.2 != x8.2)))]) (es' := [boxO 35 g1 [.int .i64 q0.W, .int .i64 q0.H, .slice a_0_2 q0.Breaks.length c_0_2], rowT 22 eHd a9 x8.1.length cp10 hs12, innO 93 eSPoint none hs12 x8.1, rowT 22 eHd a22 x21.1.length cp23 hs25, innO 93 eSPoint none hs25 x21.1]) [0, 1, 2, 3, 4] ?_ ⟨rfl, rfl, rfl, rfl, rfl, rfl, rfl, rfl, trivial⟩ (by decide) rfl
              refine JE.code ?_
              rcases cond_some hres with ⟨hb, hres⟩ | ⟨hb, hres⟩
              · refine JX.condT rfl hb ?_
                refine JX.seq ?_
                refine JX.region ?_
                refine JL.val (yl_assign rfl) rfl ?_
                refine JL.nil ?_
                refine JE.weak (env' := [(8, .bool false)]) (es' := []) [] ?_ ⟨rfl, trivial⟩ (by decide) rfl
                refine JE.code ?_
                refine JX.ret ?_
                obtain rfl := Option.some.inj hres
                refine JE.ret (rs := [.tmp 8]) (vs := [.bool false]) rfl ⟨rfl, trivial⟩ ?_
                exact fun w' hb hs => ⟨_, _, ⟨rfl, rfl⟩, rfl, hb, hs.sel [] _ (by decide) rfl⟩
              · refine JX.condF rfl hb ?_
                refine JX.skip ?_
                refine JE.code ?_
                refine JX.seq ?_
                refine JX.region ?_
                refine JL.val (yl_assign rfl) rfl ?_
                refine JL.nil ?_
                refine JE.code ?_
                refine JX.seq ?_
                refine JX.region ?_
                refine JL.val (yl_move rfl) rfl ?_
                refine JL.val (yl_move rfl) rfl ?_
                obtain ⟨x39, hx39, hres⟩ := bind_some hres
                refine JL.eff (ef_callms (caps := []) (vs := [.slice a22 x21.1.length cp23, .int .i64 1]) (T := T49 a22 x21.1.length cp23 hs25 x39) [3, 4] [0, 1, 2] [rowT 22 eHd a22 x21.1.length cp23 hs25, innO 93 eSPoint none hs25 x21.1] [boxO 35 g1 [.int .i64 q0.W, .int .i64 q0.H, .slice a_0_2 q0.Breaks.length c_0_2], rowT 22 eHd a9 x8.1.length cp10 hs12, innO 93 eSPoint none hs12 x8.1] rfl Go.Proofs.Try.func49 rfl (by kernel_rfl) rfl (by decide) rfl rfl (fun w N hF hS => c49  hi26 rfl hS hx39)) rfl ?_
                rintro _ _ ⟨_, _, ⟨l40, hi41, rfl, rfl, rfl⟩, rfl⟩
                refine JL.val (yl_assign rfl) rfl ?_
                refine JL.nil ?_
                refine JE.weak (env' := [(1, .int .i64 q1), (2, .int .i64 q2), (3, .int .i64 q3), (4, ptrAt (some ⟨g1, 0, none⟩) 0), (10, .slice a9 x8.1.length cp10), (11, .int .i64 x8.2), (13, .slice a22 x21.1.length cp23), (16, .int .i64 x39.1)]) (es' := [boxO 35 g1 [.int .i64 q0.W, .int .i64 q0.H, .slice a_0_2 q0.Breaks.length c_0_2], rowT 22 eHd a9 x8.1.length cp10 hs12, innO 93 eSPoint none hs12 x8.1, rowT 22 eHd a22 x21.1.length cp23 hs25, innO 93 eSPoint none hs25 x39.2]) [0, 1, 2, 3, 4] ?_ ⟨rfl, rfl, rfl, rfl, rfl, rfl, rfl, rfl, trivial⟩ (by decide) rfl
                refine JE.code ?_
                refine JX.seq ?_
                refine JX.region ?_
                refine JL.val (yl_assign rfl) rfl ?_
                refine JL.nil ?_
                refine JE.code ?_
                refine JX.seq ?_
                refine JX.region ?_
                refine JL.val (yl_move rfl) rfl ?_
                refine JL.val (yl_move rfl) rfl ?_
                obtain ⟨x42, hx42, hres⟩ := bind_some hres
                refine JL.eff (ef_call (T := T50 x42) Go.Proofs.Try.func50 rfl (by kernel_rfl) rfl (fun w hC => c50 (rd_row hC 3 rfl) (rd_inn hC 4 rfl) hi41 ((Inn.len hi41).symm.trans (Inn.len hi26)) (ln_row hC 3 rfl) hx42)) rfl ?_
                rintro _ _ ⟨_, ⟨rfl, rfl⟩, rfl⟩
                refine JL.val (yl_assign rfl) rfl ?_
                refine JL.nil ?_
                refine JE.weak (env' := [(1, .int .i64 q1), (2, .int .i64 q2), (3, .int .i64 q3), (4, ptrAt (some ⟨g1, 0, none⟩) 0), (10, .slice a9 x8.1.length cp10), (11, .int .i64 x8.2), (13, .slice a22 x21.1.length cp23), (16, .int .i64 x39.1), (17, .int .i64 x42)]) (es' := [boxO 35 g1 [.int .i64 q0.W, .int .i64 q0.H, .slice a_0_2 q0.Breaks.length c_0_2], rowT 22 eHd a9 x8.1.length cp10 hs12, innO 93 eSPoint none hs12 x8.1, rowT 22 eHd a22 x21.1.length cp23 hs25, innO 93 eSPoint none hs25 x39.2]) [0, 1, 2, 3, 4] ?_ ⟨rfl, rfl, rfl, rfl, rfl, rfl, rfl, rfl, rfl, trivial⟩ (by decide) rfl
                refine JE.code ?_
                refine JX.seq ?_
                refine JX.seq ?_
                refine JX.region ?_
                refine JL.val (yl_move rfl) rfl ?_
                refine JL.val (yl_lss rfl rfl) rfl ?_
                refine JL.nil ?_
                refine JE.code ?_
                rcases cond_some hres with ⟨hb, hres⟩ | ⟨hb, hres⟩
                · refine JX.condT rfl hb ?_
                  refine JX.seq ?_
                  refine JX.region ?_
                  refine JL.val (yl_assign rfl) rfl ?_
                  refine JL.nil ?_
                  refine JE.weak (env' := [(8, .bool false)]) (es' := []) [] ?_ ⟨rfl, trivial⟩ (by decide) rfl
                  refine JE.code ?_
                  refine JX.ret ?_
                  obtain rfl := Option.some.inj hres
                  refine JE.ret (rs := [.tmp 8]) (vs := [.bool false]) rfl ⟨rfl, trivial⟩ ?_
                  exact fun w' hb hs => ⟨_, _, ⟨rfl, rfl⟩, rfl, hb, hs.sel [] _ (by decide) rfl⟩
                · refine JX.condF rfl hb ?_
                  refine JX.skip ?_
                  refine JE.code ?_
                  refine JX.seq ?_
                  refine JX.seq ?_
                  refine JX.region ?_
                  refine JL.val (yl_move rfl) rfl ?_
                  refine JL.val (yl_move rfl) rfl ?_
                  refine JL.val (yl_neq rfl rfl) rfl ?_
                  refine JL.nil ?_
                  refine JE.code ?_
                  rcases cond_some hres with ⟨hb, hres⟩ | ⟨hb, hres⟩
                  · refine JX.condT rfl hb ?_
                    refine JX.seq ?_
                    refine JX.region ?_
                    refine JL.val (yl_assign rfl) rfl ?_
                    refine JL.nil ?_
                    refine JE.weak (env' := [(8, .bool false)]) (es' := []) [] ?_ ⟨rfl, trivial⟩ (by decide) rfl
                    refine JE.code ?_
                    refine JX.ret ?_
                    obtain rfl := Option.some.inj hres
                    refine JE.ret (rs := [.tmp 8]) (vs := [.bool false]) rfl ⟨rfl, trivial⟩ ?_
                    exact fun w' hb hs => ⟨_, _, ⟨rfl, rfl⟩, rfl, hb, hs.sel [] _ (by decide) rfl⟩
                  · refine JX.condF rfl hb ?_
                    refine JX.skip ?_
                    refine JE.code ?_
                    refine JX.seq ?_
                    refine JX.region ?_
                    refine JL.val (yl_loadn Go.Proofs.Try.underlying35 rfl i35 rfl (fun w hC => rd_box hC 0 rfl) rfl (i35s).symm i35p) rfl ?_
                    obtain ⟨x43, hx43, hres⟩ := bind_some hres
                    refine JL.eff (ef_call (vs := [.agg #[.int .i64 q0.W, .int .i64 q0.H, .slice a_0_2 q0.Breaks.length c_0_2]]) (T := T29 x43) Go.Proofs.Try.func29 rfl (by kernel_rfl) rfl (fun w hC => c29 (q0 := q0) (rd_arg g_0_2 hC) rfl k_0_2 hx43)) rfl ?_
                    rintro _ _ ⟨_, ⟨a44, _, cp45, rfl, rfl, rfl⟩, rfl⟩
                    refine JL.val (yl_move rfl) rfl ?_
                    refine JL.val (yl_move rfl) rfl ?_
                    refine JL.val (yl_move rfl) rfl ?_
                    obtain ⟨x47, hx47, hres⟩ := bind_some hres
                    refine JL.eff (ef_call (vs := [.agg #[.int .i64 x43.W, .int .i64 x43.H, .slice a44 x43.Breaks.length cp45], .int .i64 q1, .int .i64 q2, .int .i64 q3]) (T := T47 x47) Go.Proofs.Try.func47 rfl (by kernel_rfl) rfl (fun w hC => c47 (q0 := x43) (rd_row hC 5 rfl) rfl (ln_row hC 5 rfl) hx47)) rfl ?_
                    rintro _ _ ⟨_, ⟨a48, _, cp49, hs51, rfl, hi52, rfl, rfl⟩, rfl⟩
                    refine JL.val (yl_move rfl) rfl ?_
                    refine JL.val (yl_extract rfl rfl) rfl ?_
                    refine JL.val (yl_extract rfl rfl) rfl ?_
                    refine JL.val (yl_assign rfl) rfl ?_
                    refine JL.val (yl_assign rfl) rfl ?_
                    refine JL.nil ?_
                    refine JE.weak (env' := [(10, .slice a9 x8.1.length cp10), (11, .int .i64 x8.2), (13, .slice a22 x21.1.length cp23), (16, .int .i64 x39.1), (18, .slice a48 x47.1.length cp49), (19, .int .i64 x47.2)]) (es' := [rowT 22 eHd a9 x8.1.length cp10 hs12, innO 93 eSPoint none hs12 x8.1, rowT 22 eHd a22 x21.1.length cp23 hs25, innO 93 eSPoint none hs25 x39.2, rowT 22 eHd a48 x47.1.length cp49 hs51, innO 93 eSPoint none hs51 x47.1]) [1, 2, 3, 4, 6, 7] ?_ ⟨rfl, rfl, rfl, rfl, rfl, rfl, trivial⟩ (by decide) rfl
                    refine JE.code ?_
                    refine JX.seq ?_
                    refine JX.seq ?_
                    refine JX.region ?_
                    refine JL.val (yl_move rfl) rfl ?_
                    refine JL.val (yl_move rfl) rfl ?_
                    obtain ⟨x54, hx54, hres⟩ := bind_some hres
                    refine JL.eff (ef_call (T := T48 x54) Go.Proofs.Try.func48 rfl (by kernel_rfl) rfl (fun w hC => c48 (rd_row hC 4 rfl) (rd_inn hC 5 rfl) hi52 rfl (ln_row hC 4 rfl) (rd_row hC 0 rfl) (rd_inn hC 1 rfl) hi13 rfl (ln_row hC 0 rfl) hx54)) rfl ?_
                    rintro _ _ ⟨_, ⟨rfl, rfl⟩, rfl⟩
                    refine JL.val (yl_not rfl) rfl ?_
                    refine JL.val (yl_move rfl) rfl ?_
                    refine JL.cut (K := fun J => J [(13, .slice a22 x21.1.length cp23), (16, .int .i64 x39.1), (102, .bool (!x54 || (x47.2 != x8.2)))] [rowT 22 eHd a22 x21.1.length cp23 hs25, innO 93 eSPoint none hs25 x39.2]) 4 ?_ ?_
                    · refine JL.nil ?_
                      refine JE.weak (env' := [(13, .slice a22 x21.1.length cp23), (16, .int .i64 x39.1), (102, .bool (!x54 || (x47.2 != x8.2)))]) (es' := [rowT 22 eHd a22 x21.1.length cp23 hs25, innO 93 eSPoint none hs25 x39.2]) [0, 1] ?_ ⟨rfl, rfl, rfl, trivial⟩ (by decide) rfl
                      refine JE.code ?_
                      rcases cond_some hres with ⟨hb, hres⟩ | ⟨hb, hres⟩
                      · refine JX.condT rfl hb ?_
                        refine JX.seq ?_
                        refine JX.region ?_
                        refine JL.val (yl_assign rfl) rfl ?_
                        refine JL.nil ?_
                        refine JE.weak (env' := [(8, .bool false)]) (es' := []) [] ?_ ⟨rfl, trivial⟩ (by decide) rfl
                        refine JE.code ?_
                        refine JX.ret ?_
                        obtain rfl := Option.some.inj hres
                        refine JE.ret (rs := [.tmp 8]) (vs := [.bool false]) rfl ⟨rfl, trivial⟩ ?_
                        exact fun w' hb hs => ⟨_, _, ⟨rfl, rfl⟩, rfl, hb, hs.sel [] _ (by decide) rfl⟩
                      · refine JX.condF rfl hb ?_
                        refine JX.skip ?_
                        refine JE.code ?_
                        refine JX.seq ?_
                        refine JX.region ?_
                        refine JL.val (yl_assign rfl) rfl ?_
                        refine JL.nil ?_
                        refine JE.code ?_
                        refine JX.seq ?_
                        refine JX.region ?_
                        refine JL.val (yl_move rfl) rfl ?_
                        refine JL.val (yl_move rfl) rfl ?_
                        obtain ⟨x55, hx55, hres⟩ := bind_some hres
                        refine JL.eff (ef_call (T := T50 x55) Go.Proofs.Try.func50 rfl (by kernel_rfl) rfl (fun w hC => c50 (rd_row hC 0 rfl) (rd_inn hC 1 rfl) hi41 ((Inn.len hi41).symm.trans (Inn.len hi26)) (ln_row hC 0 rfl) hx55)) rfl ?_
                        rintro _ _ ⟨_, ⟨rfl, rfl⟩, rfl⟩
                        refine JL.val (yl_assign rfl) rfl ?_
                        refine JL.nil ?_
                        refine JE.weak (env' := [(16, .int .i64 x39.1), (17, .int .i64 x55)]) (es' := []) [] ?_ ⟨rfl, rfl, trivial⟩ (by decide) rfl
                        refine JE.code ?_
                        refine JX.seq ?_
                        refine JX.seq ?_
                        refine JX.region ?_
                        refine JL.val (yl_move rfl) rfl ?_
                        refine JL.val (yl_lss rfl rfl) rfl ?_
                        refine JL.nil ?_
                        refine JE.code ?_
                        rcases cond_some hres with ⟨hb, hres⟩ | ⟨hb, hres⟩
                        · refine JX.condT rfl hb ?_
                          refine JX.seq ?_
                          refine JX.region ?_
                          refine JL.val (yl_assign rfl) rfl ?_
                          refine JL.nil ?_
                          refine JE.code ?_
                          refine JX.ret ?_
                          obtain rfl := Option.some.inj hres
                          refine JE.ret (rs := [.tmp 8]) (vs := [.bool false]) rfl ⟨rfl, trivial⟩ ?_
                          exact fun w' hb hs => ⟨_, _, ⟨rfl, rfl⟩, rfl, hb, hs.sel [] _ (by decide) rfl⟩
                        · refine JX.condF rfl hb ?_
                          refine JX.skip ?_
                          refine JE.code ?_
                          refine JX.seq ?_
                          refine JX.seq ?_
                          refine JX.region ?_
                          refine JL.val (yl_move rfl) rfl ?_
                          refine JL.val (yl_move rfl) rfl ?_
                          refine JL.val (yl_neq rfl rfl) rfl ?_
                          refine JL.nil ?_
                          refine JE.code ?_
                          rcases cond_some hres with ⟨hb, hres⟩ | ⟨hb, hres⟩
                          · refine JX.condT rfl hb ?_
                            refine JX.seq ?_
                            refine JX.region ?_
                            refine JL.val (yl_assign rfl) rfl ?_
                            refine JL.nil ?_
                            refine JE.code ?_
                            refine JX.ret ?_
                            obtain rfl := Option.some.inj hres
                            refine JE.ret (rs := [.tmp 8]) (vs := [.bool false]) rfl ⟨rfl, trivial⟩ ?_
                            exact fun w' hb hs => ⟨_, _, ⟨rfl, rfl⟩, rfl, hb, hs.sel [] _ (by decide) rfl⟩
                          · refine JX.condF rfl hb ?_
                            refine JX.skip ?_
                            refine JE.code ?_
                            refine JX.seq ?_
                            refine JX.region ?_
                            refine JL.val (yl_assign rfl) rfl ?_
                            refine JL.nil ?_
                            refine JE.code ?_
                            refine JX.ret ?_
                            obtain rfl := Option.some.inj hres
                            refine JE.ret (rs := [.tmp 8]) (vs := [.bool true]) rfl ⟨rfl, trivial⟩ ?_
                            exact fun w' hb hs => ⟨_, _, ⟨rfl, rfl⟩, rfl, hb, hs.sel [] _ (by decide) rfl⟩
                    · intro K
                      rcases Bool.eq_false_or_eq_true (!x54) with hb | hb
                      · refine JL.set (d := 98) (v := .bool true) (congrArg (fun b => some (Value.bool b)) hb) ?_
                        refine JL.gskip rfl rfl rfl rfl ?_
                        refine JL.gskip rfl rfl rfl rfl ?_
                        refine JL.gskip rfl rfl rfl rfl ?_
                        refine JL.val (yl_pick_true rfl rfl) rfl ?_
                        exact JL.weak [2, 3] K ⟨rfl, rfl, (by rw [hb]; rfl), trivial⟩ (by decide) rfl
                      · refine JL.set (d := 98) (v := .bool false) (congrArg (fun b => some (Value.bool b)) hb) ?_
                        refine JL.gval rfl rfl (yl_move rfl) rfl ?_
                        refine JL.gval rfl rfl (yl_move rfl) rfl ?_
                        refine JL.gval rfl rfl (yl_neq rfl rfl) rfl ?_
                        refine JL.val (yl_pick_false rfl rfl) rfl ?_
                        exact JL.weak [2, 3] K ⟨rfl, rfl, (by rw [hb]; rfl), trivial⟩ (by decide) rfl
            · intro K
              rcases Bool.eq_false_or_eq_true (c37) with hb | hb
              · refine JL.set (d := 69) (v := .bool true) (congrArg (fun b => some (Value.bool b)) hb) ?_
                refine JL.gskip rfl rfl rfl rfl ?_
                refine JL.gskip rfl rfl rfl rfl ?_
                refine JL.gskip rfl rfl rfl rfl ?_
                refine JL.val (yl_pick_true rfl rfl) rfl ?_
                exact JL.weak [0, 1, 2, 3, 4] K ⟨rfl, rfl, rfl, rfl, rfl, rfl, rfl, (by rw [hb]; rfl), trivial⟩ (by decide) rfl
              · refine JL.set (d := 69) (v := .bool false) (congrArg (fun b => some (Value.bool b)) hb) ?_
                refine JL.gval rfl rfl (yl_move rfl) rfl ?_
                refine JL.gval rfl rfl (yl_move rfl) rfl ?_
                refine JL.gval rfl rfl (yl_neq rfl rfl) rfl ?_
                refine JL.val (yl_pick_false rfl rfl) rfl ?_
                exact JL.weak [0, 1, 2, 3, 4] K ⟨rfl, rfl, rfl, rfl, rfl, rfl, rfl, (by rw [hb]; rfl), trivial⟩ (by decide) rfl
          · intro K
            rcases cond_some hc37 with ⟨hb, hres⟩ | ⟨hb, hres⟩
            · refine JL.set (d := 63) (v := .bool true) (congrArg (fun b => some (Value.bool b)) hb) ?_
              refine JL.gskip rfl rfl rfl rfl ?_
              refine JL.gskip rfl rfl rfl rfl ?_
              refine JL.gskip rfl rfl rfl rfl ?_
              refine JL.gskip rfl rfl rfl rfl ?_
              refine JL.val (yl_pick_true rfl rfl) rfl ?_
              have he := Option.some.inj hres
              exact JL.weak [0, 1, 2, 3, 4] K ⟨rfl, rfl, rfl, rfl, rfl, rfl, rfl, rfl, (by rw [← he]; rfl), trivial⟩ (by decide) rfl
            · refine JL.set (d := 63) (v := .bool false) (congrArg (fun b => some (Value.bool b)) hb) ?_
              refine JL.gval rfl rfl (yl_move rfl) rfl ?_
              refine JL.gval rfl rfl (yl_move rfl) rfl ?_
              obtain ⟨x38, hx38, hres⟩ := bind_some hres
              refine JL.geff rfl rfl (ef_call (T := T48 x38) Go.Proofs.Try.func48 rfl (by kernel_rfl) rfl (fun w hC => c48 (rd_row hC 3 rfl) (rd_inn hC 4 rfl) hi26 rfl (ln_row hC 3 rfl) (rd_row hC 1 rfl) (rd_inn hC 2 rfl) hi13 rfl (ln_row hC 1 rfl) hx38)) rfl ?_
              rintro _ _ ⟨_, ⟨rfl, rfl⟩, rfl⟩
              refine JL.gval rfl rfl (yl_not rfl) rfl ?_
              refine JL.val (yl_pick_false rfl rfl) rfl ?_
              have he := Option.some.inj hres
              exact JL.weak [0, 1, 2, 3, 4] K ⟨rfl, rfl, rfl, rfl, rfl, rfl, rfl, rfl, (by rw [← he]; rfl), trivial⟩ (by decide) rfl
    · intro K
      rcases Bool.eq_false_or_eq_true (!x28) with hb | hb
      · refine JL.set (d := 48) (v := .bool true) (congrArg (fun b => some (Value.bool b)) hb) ?_
        refine JL.gskip rfl rfl rfl rfl ?_
        refine JL.gskip rfl rfl rfl rfl ?_
        refine JL.gskip rfl rfl rfl rfl ?_
        refine JL.val (yl_pick_true rfl rfl) rfl ?_
        exact JL.weak [0, 1, 2, 3, 4, 5, 6] K ⟨rfl, rfl, rfl, rfl, rfl, rfl, rfl, rfl, rfl, (by rw [hb]; rfl), trivial⟩ (by decide) rfl
      · refine JL.set (d := 48) (v := .bool false) (congrArg (fun b => some (Value.bool b)) hb) ?_
        refine JL.gval rfl rfl (yl_move rfl) rfl ?_
        refine JL.gval rfl rfl (yl_move rfl) rfl ?_
        refine JL.gval rfl rfl (yl_neq rfl rfl) rfl ?_
        refine JL.val (yl_pick_false rfl rfl) rfl ?_
        exact JL.weak [0, 1, 2, 3, 4, 5, 6] K ⟨rfl, rfl, rfl, rfl, rfl, rfl, rfl, rfl, rfl, (by rw [hb]; rfl), trivial⟩ (by decide) rfl

end Go.Sh
