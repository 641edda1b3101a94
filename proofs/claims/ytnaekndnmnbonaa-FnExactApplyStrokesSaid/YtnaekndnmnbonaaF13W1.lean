/- Walks through functions that the law reaches, printed by program. -/
import Derived.Test.YtnaekndnmnbonaaF13W0
set_option linter.unusedVariables false
set_option linter.unusedSimpArgs false
namespace Go.Sh
open Go Go.RowKit
/- spec.l19Apply -/
def sh119 (q0 : SPanel) (q1 : List SPoint) (q2 : Int) : Option (Int × List Int) := Option.bind (sh164 q1 q2) fun x1 => bif x1 == 3 then (some (7, q0.Breaks)) else (Option.bind (sh165 q1) fun x2 => Option.bind (sh166 q0 (SPoint.mk (w64 ((w64 (x2.1.X + x2.2.X)).tdiv 2)) (w64 ((w64 (x2.1.Y + x2.2.Y)).tdiv 2))) q2) fun x7 => bif !x7.2 then (some (3, q0.Breaks)) else (Option.bind (sh167 q0 x7.1) fun x10 => bif x10 then (some (6, q0.Breaks)) else (Option.bind (sh168 q0 x7.1) fun x12 => Option.bind (getI q0.Breaks x12) fun x13 => some (0, q0.Breaks.set (x12).toNat x1))))
def T119 (a_0_2 : Option Addr) (n_0_2 c_0_2 : Nat) (r : Int × List Int) (v : Value) (es' rs : List Own) : Prop := r.2.length = n_0_2 ∧ es' = [rowT 2 eI64 a_0_2 n_0_2 c_0_2 r.2] ∧ v = rets [.int .i64 r.1] ∧ rs = []
set_option maxRecDepth 100000 in
theorem c119 {w : World} {M : List Nat} {q0 : SPanel} {a_0 : Option Addr} {n_0 : Nat} {a_0_2 : Option Addr} {n_0_2 c_0_2 : Nat} (g_0 : RdAtS M w a_0 n_0 [.int .i64 q0.W, .int .i64 q0.H, .slice a_0_2 n_0_2 c_0_2]) (l_0_2 : q0.Breaks.length = n_0_2) {q1 : List SPoint} {a_1 : Option Addr} {n_1 c_1 : Nat} (g_1 : RdS M w a_1 (eSPoint.fl q1)) (l_1 : q1.length = n_1) (k_1 : n_1 ≤ c_1) {q2 : Int} (gs : Sep w.heap.size M w [rowT 2 eI64 a_0_2 n_0_2 c_0_2 q0.Breaks]) {r : Int × List Int} (hres : sh119 q0 q1 q2 = some r) : Calls Go.Proofs.Try.prog 119 [ptrAt a_0 n_0, .slice a_1 n_1 c_1, .int .i64 q2].toArray w (RetMs w M (T119 a_0_2 n_0_2 c_0_2 r)) := by
  subst l_0_2
  obtain ⟨b_0, e_0, g_0⟩ := g_0.norm0
  rw [e_0]
  subst l_1
  unfold sh119 at hres
  refine calls_of (n := 55) (M := M) (es := [rowT 2 eI64 a_0_2 q0.Breaks.length c_0_2 q0.Breaks]) Go.Proofs.Try.func119 rfl rfl rfl gs ?_
  refine JX.seq ?_
  refine JX.region ?_
  refine JL.val (yl_assign rfl) rfl ?_
  refine JL.nil ?_
  refine JE.code ?_
  refine JX.seq ?_
  refine JX.region ?_
  refine JL.val (yl_move rfl) rfl ?_
  refine JL.val (yl_move rfl) rfl ?_
  obtain ⟨x1, hx1, hres⟩ := bind_some hres
  refine JL.eff (ef_call (T := T164 x1) Go.Proofs.Try.func164 rfl (by kernel_rfl) rfl (fun w hC => c164 (rd_argS g_1 hC) rfl k_1 hx1)) rfl ?_
  rintro _ _ ⟨_, ⟨rfl, rfl⟩, rfl⟩
  refine JL.val (yl_assign rfl) rfl ?_
  refine JL.nil ?_
  refine JE.weak (env' := [(0, ptrAt b_0 0), (1, .slice a_1 q1.length c_1), (2, .int .i64 q2), (7, .int .i64 x1)]) (es' := [rowT 2 eI64 a_0_2 q0.Breaks.length c_0_2 q0.Breaks]) [0] ?_ ⟨rfl, rfl, rfl, rfl, trivial⟩ (by decide) rfl
  refine JE.code ?_
  refine JX.seq ?_
  refine JX.seq ?_
  refine JX.region ?_
  refine JL.val (yl_move rfl) rfl ?_
  refine JL.val (yl_eql rfl rfl) rfl ?_
  refine JL.nil ?_
  refine JE.code ?_
  rcases cond_some hres with ⟨hb, hres⟩ | ⟨hb, hres⟩
  · refine JX.condT rfl hb ?_
    refine JX.seq ?_
    refine JX.region ?_
    refine JL.val (yl_assign rfl) rfl ?_
    refine JL.nil ?_
    refine JE.code ?_
    refine JX.ret ?_
    obtain rfl := Option.some.inj hres
    refine JE.ret (rs := [.tmp 6]) (vs := [.int .i64 7]) rfl ⟨rfl, trivial⟩ ?_
    exact fun w' hb hs => ⟨_, _, _, ⟨rfl, rfl, rfl, rfl⟩, rfl, hb, hs.sel [0] _ (by decide) rfl⟩
  · refine JX.condF rfl hb ?_
    refine JX.skip ?_
    refine JE.code ?_
    refine JX.seq ?_
    refine JX.region ?_
    refine JL.val (yl_move rfl) rfl ?_
    obtain ⟨x2, hx2, hres⟩ := bind_some hres
    refine JL.eff (ef_call (T := T165 x2) Go.Proofs.Try.func165 rfl (by kernel_rfl) rfl (fun w hC => c165 (rd_argS g_1 hC) rfl k_1 hx2)) rfl ?_
    rintro _ _ ⟨_, ⟨rfl, rfl⟩, rfl⟩
    refine JL.val (yl_move rfl) rfl ?_
    refine JL.val (yl_extract rfl rfl) rfl ?_
    refine JL.val (yl_extract rfl rfl) rfl ?_
    refine JL.eff (ef_alloc i93 i93z rfl) rfl ?_
    rintro _ _ ⟨g3, rfl, rfl⟩
    refine JL.eff (ef_alloc i93 i93z rfl) rfl ?_
    rintro _ _ ⟨g5, rfl, rfl⟩
    refine JL.eff (ef_store_box (i := 1) (v := .agg #[.int .i64 x2.1.X, .int .i64 x2.1.Y]) i93 rfl rfl rfl (i93s).symm (Nat.le_of_ble_eq_true rfl) (by simp [Value.cells, Value.oneCell'])) rfl ?_
    rintro _ _ rfl
    refine JL.eff (ef_store_box (i := 2) (v := .agg #[.int .i64 x2.2.X, .int .i64 x2.2.Y]) i93 rfl rfl rfl (i93s).symm (Nat.le_of_ble_eq_true rfl) (by simp [Value.cells, Value.oneCell'])) rfl ?_
    rintro _ _ rfl
    refine JL.nil ?_
    refine JE.weak (env' := [(0, ptrAt b_0 0), (2, .int .i64 q2), (7, .int .i64 x1), (8, ptrAt (some ⟨g3, 0, none⟩) 0), (9, ptrAt (some ⟨g5, 0, none⟩) 0)]) (es' := [rowT 2 eI64 a_0_2 q0.Breaks.length c_0_2 q0.Breaks, boxO 93 g3 [.int .i64 x2.1.X, .int .i64 x2.1.Y], boxO 93 g5 [.int .i64 x2.2.X, .int .i64 x2.2.Y]]) [0, 1, 2] ?_ ⟨rfl, rfl, rfl, rfl, rfl, trivial⟩ (by decide) rfl
    refine JE.code ?_
    refine JX.seq ?_
    refine JX.region ?_
    refine JL.val (yl_move rfl) rfl ?_
    refine JL.val (yl_fieldAt (a := some _) Go.Proofs.Try.underlying93 rfl i2 i2n rfl rfl) rfl ?_
    refine JL.val (yl_load1 Go.Proofs.Try.underlying2 rfl rfl (fun w hC => rd_box hC 1 rfl) rfl) rfl ?_
    refine JL.val (yl_fieldAt (a := some _) Go.Proofs.Try.underlying93 rfl i2 i2n rfl rfl) rfl ?_
    refine JL.val (yl_load1 Go.Proofs.Try.underlying2 rfl rfl (fun w hC => rd_box hC 2 rfl) rfl) rfl ?_
    refine JL.val (yl_add rfl rfl) rfl ?_
    refine JL.val (yl_quo rfl rfl (by decide)) rfl ?_
    refine JL.val (yl_fieldAt (a := some _) Go.Proofs.Try.underlying93 rfl i2 i2n rfl rfl) rfl ?_
    refine JL.val (yl_load1 Go.Proofs.Try.underlying2 rfl rfl (fun w hC => rd_box hC 1 rfl) rfl) rfl ?_
    refine JL.val (yl_fieldAt (a := some _) Go.Proofs.Try.underlying93 rfl i2 i2n rfl rfl) rfl ?_
    refine JL.val (yl_load1 Go.Proofs.Try.underlying2 rfl rfl (fun w hC => rd_box hC 2 rfl) rfl) rfl ?_
    refine JL.val (yl_add rfl rfl) rfl ?_
    refine JL.val (yl_quo rfl rfl (by decide)) rfl ?_
    refine JL.val (yl_build rfl (fun w => bld93_0_1 (w64 ((w64 (x2.1.X + x2.2.X)).tdiv 2)) (w64 ((w64 (x2.1.Y + x2.2.Y)).tdiv 2)) w)) rfl ?_
    refine JL.val (yl_move rfl) rfl ?_
    obtain ⟨x7, hx7, hres⟩ := bind_some hres
    refine JL.eff (ef_call (vs := [ptrAt b_0 0, .agg #[.int .i64 (w64 ((w64 (x2.1.X + x2.2.X)).tdiv 2)), .int .i64 (w64 ((w64 (x2.1.Y + x2.2.Y)).tdiv 2))], .int .i64 q2]) (T := T166 x7) Go.Proofs.Try.func166 rfl (by kernel_rfl) rfl (fun w hC => c166 (q1 := SPoint.mk (w64 ((w64 (x2.1.X + x2.2.X)).tdiv 2)) (w64 ((w64 (x2.1.Y + x2.2.Y)).tdiv 2))) (RdAt.of0 (rd_argS g_0 hC)) (rd_row hC 0 rfl) rfl (ln_row hC 0 rfl) hx7)) rfl ?_
    rintro _ _ ⟨_, ⟨rfl, rfl⟩, rfl⟩
    refine JL.val (yl_move rfl) rfl ?_
    refine JL.val (yl_extract rfl rfl) rfl ?_
    refine JL.val (yl_extract rfl rfl) rfl ?_
    refine JL.eff (ef_alloc i93 i93z rfl) rfl ?_
    rintro _ _ ⟨g8, rfl, rfl⟩
    refine JL.eff (ef_store_box (i := 3) (v := .agg #[.int .i64 x7.1.X, .int .i64 x7.1.Y]) i93 rfl rfl rfl (i93s).symm (Nat.le_of_ble_eq_true rfl) (by simp [Value.cells, Value.oneCell'])) rfl ?_
    rintro _ _ rfl
    refine JL.val (yl_assign rfl) rfl ?_
    refine JL.nil ?_
    refine JE.weak (env' := [(0, ptrAt b_0 0), (7, .int .i64 x1), (10, ptrAt (some ⟨g8, 0, none⟩) 0), (11, .bool x7.2)]) (es' := [rowT 2 eI64 a_0_2 q0.Breaks.length c_0_2 q0.Breaks, boxO 93 g8 [.int .i64 x7.1.X, .int .i64 x7.1.Y]]) [0, 3] ?_ ⟨rfl, rfl, rfl, rfl, trivial⟩ (by decide) rfl
    refine JE.code ?_
    refine JX.seq ?_
    refine JX.seq ?_
    refine JX.region ?_
    refine JL.val (yl_move rfl) rfl ?_
    refine JL.val (yl_not rfl) rfl ?_
    refine JL.nil ?_
    refine JE.code ?_
    rcases cond_some hres with ⟨hb, hres⟩ | ⟨hb, hres⟩
    · refine JX.condT rfl hb ?_
      refine JX.seq ?_
      refine JX.region ?_
      refine JL.val (yl_assign rfl) rfl ?_
      refine JL.nil ?_
      refine JE.weak (env' := [(6, .int .i64 3)]) (es' := [rowT 2 eI64 a_0_2 q0.Breaks.length c_0_2 q0.Breaks]) [0] ?_ ⟨rfl, trivial⟩ (by decide) rfl
      refine JE.code ?_
      refine JX.ret ?_
      obtain rfl := Option.some.inj hres
      refine JE.ret (rs := [.tmp 6]) (vs := [.int .i64 3]) rfl ⟨rfl, trivial⟩ ?_
      exact fun w' hb hs => ⟨_, _, _, ⟨rfl, rfl, rfl, rfl⟩, rfl, hb, hs.sel [0] _ (by decide) rfl⟩
    · refine JX.condF rfl hb ?_
      refine JX.skip ?_
      refine JE.code ?_
      refine JX.seq ?_
      refine JX.seq ?_
      refine JX.region ?_
      refine JL.val (yl_move rfl) rfl ?_
      refine JL.val (yl_loadn Go.Proofs.Try.underlying93 rfl i93 rfl (fun w hC => rd_box hC 1 rfl) rfl (i93s).symm i93p) rfl ?_
      obtain ⟨x10, hx10, hres⟩ := bind_some hres
      refine JL.eff (ef_call (vs := [ptrAt b_0 0, .agg #[.int .i64 x7.1.X, .int .i64 x7.1.Y]]) (T := T167 x10) Go.Proofs.Try.func167 rfl (by kernel_rfl) rfl (fun w hC => c167 (q1 := x7.1) (RdAt.of0 (rd_argS g_0 hC)) (rd_row hC 0 rfl) rfl (ln_row hC 0 rfl) hx10)) rfl ?_
      rintro _ _ ⟨_, ⟨rfl, rfl⟩, rfl⟩
      refine JL.nil ?_
      refine JE.code ?_
      rcases cond_some hres with ⟨hb, hres⟩ | ⟨hb, hres⟩
      · refine JX.condT rfl hb ?_
        refine JX.seq ?_
        refine JX.region ?_
        refine JL.val (yl_assign rfl) rfl ?_
        refine JL.nil ?_
        refine JE.weak (env' := [(6, .int .i64 6)]) (es' := [rowT 2 eI64 a_0_2 q0.Breaks.length c_0_2 q0.Breaks]) [0] ?_ ⟨rfl, trivial⟩ (by decide) rfl
        refine JE.code ?_
        refine JX.ret ?_
        obtain rfl := Option.some.inj hres
        refine JE.ret (rs := [.tmp 6]) (vs := [.int .i64 6]) rfl ⟨rfl, trivial⟩ ?_
        exact fun w' hb hs => ⟨_, _, _, ⟨rfl, rfl, rfl, rfl⟩, rfl, hb, hs.sel [0] _ (by decide) rfl⟩
      · refine JX.condF rfl hb ?_
        refine JX.skip ?_
        refine JE.code ?_
        refine JX.seq ?_
        refine JX.drawH [(0, .pure), (1, .pure), (2, .pure), (3, .read), (4, .pure), (5, .read), (7, .pure), (6, .must), (8, .pure), (9, .must)] [9] [0] [1] [rowT 2 eI64 a_0_2 q0.Breaks.length c_0_2 q0.Breaks] [boxO 93 g8 [.int .i64 x7.1.X, .int .i64 x7.1.Y]] mixedP (by kernel_rfl) (by kernel_rfl) (by decide) rfl rfl ?_
        intro wrr11 Nr11 hFr11
        refine JH.pure rfl (yl_move rfl) rfl ?_
        refine JH.pure rfl (yl_nilCheckAt rfl (Rd.some g_0.rd (j := 0) rfl)) rfl ?_
        refine JH.pure rfl (yl_fieldAt Go.Proofs.Try.underlying39 rfl i33 i33n rfl (Rd.some g_0.rd (j := 0) rfl)) rfl ?_
        refine JH.read rfl (yl_load1 Go.Proofs.Try.underlying33 rfl rfl (fun w hw => hFr11.argS g_0 hw) rfl) rfl ?_
        refine JH.pure rfl (yl_move rfl) rfl ?_
        refine JH.read rfl (yl_loadn Go.Proofs.Try.underlying93 rfl i93 rfl (fun w hw => hFr11.box 1 rfl rfl hw) rfl (i93s).symm i93p) rfl ?_
        refine JH.pure rfl (yl_move rfl) rfl ?_
        obtain ⟨x12, hx12, hres⟩ := bind_some hres
        refine JH.must rfl (ef_call (vs := [ptrAt b_0 0, .agg #[.int .i64 x7.1.X, .int .i64 x7.1.Y]]) (T := T168 x12) Go.Proofs.Try.func168 rfl (by kernel_rfl) rfl (fun w hC => c168 (q1 := x7.1) (RdAt.of0 (hFr11.argS g_0 hC.1)) (rd_row hC 0 rfl) rfl (ln_row hC 0 rfl) hx12)) rfl rfl ?_
        rintro _ _ ⟨_, ⟨rfl, rfl⟩, rfl⟩
        obtain ⟨x13, hx13, hres⟩ := bind_some hres
        refine JH.pure rfl (yl_idxQ Go.Proofs.Try.underlying33 i2 i2s rfl rfl hx13 rfl (rd_row hFr11.cl 0 rfl) rfl) rfl ?_
        refine JH.must rfl (ef_storeT (ix := 0) (u := x1) i2 i2s rfl rfl rfl hx13 rfl) rfl rfl ?_
        rintro _ _ rfl
        refine JH.nil ?_
        refine JE.weak (env' := []) (es' := [rowT 2 eI64 a_0_2 q0.Breaks.length c_0_2 (q0.Breaks.set (x12).toNat x1)]) [1] ?_ trivial (by decide) rfl
        refine JE.code ?_
        refine JX.seq ?_
        refine JX.region ?_
        refine JL.val (yl_assign rfl) rfl ?_
        refine JL.nil ?_
        refine JE.code ?_
        refine JX.ret ?_
        obtain rfl := Option.some.inj hres
        refine JE.ret (rs := [.tmp 6]) (vs := [.int .i64 0]) rfl ⟨rfl, trivial⟩ ?_
        exact fun w' hb hs => ⟨_, _, _, ⟨List.length_set, rfl, rfl, rfl⟩, rfl, hb, hs.sel [0] _ (by decide) rfl⟩

/- spec.ApplyStrokes -/
def sh59_1 (q1 : List (List SPoint)) (q2 : Int) (x8 : SPanel) : (Int × List Int × List Int) → Option ((Int × List Int × List Int) ⊕ (List Int × List Int))
  | (x19, x20, x21) => bif decide (x19 < ((q1.length : Nat) : Int)) then (Option.bind (getI q1 x19) fun x25 => Option.bind (sh79 x25) fun x29 => Option.bind (bif !x29 then (some (true, x20)) else (Option.bind (getI q1 x19) fun x40 => Option.bind (sh119 (SPanel.mk x8.W x8.H x20) x40 q2) fun x44 => some (x44.1 != 0, x44.2))) fun j30 => (Option.bind (bif j30.1 then (Option.bind (appL x21 [x19]) fun x37 => some x37) else (some x21)) fun j32 => (some (.inl (w64 (x19 + 1), j30.2, j32))))) else (some (.inr (x20, x21)))
def sh59 (q0 : SPanel) (q1 : List (List SPoint)) (q2 : Int) : Option (SPanel × List Int × Int) := Option.bind (sh117 q0 q2) fun x5 => bif x5 != 0 then (some (SPanel.mk 0 0 ([] : List Int), ([] : List Int), x5)) else (Option.bind (sh118 q0) fun x8 => Option.bind (iter (sh59_1 q1 q2 x8) (0, x8.Breaks, ([] : List Int))) fun b1 => (some (SPanel.mk x8.W x8.H b1.1, b1.2, 0)))
def T59 (r : SPanel × List Int × Int) (v : Value) (rs : List Own) : Prop := ∃ (a0_2 : Option Addr) (n0_2 c0_2 : Nat), r.1.Breaks.length = n0_2 ∧ ∃ (a1 : Option Addr) (n1 c1 : Nat), r.2.1.length = n1 ∧ v = rets [.agg #[.int .i64 r.1.W, .int .i64 r.1.H, .slice a0_2 n0_2 c0_2], .slice a1 n1 c1, .int .i64 r.2.2] ∧ rs = [rowT 2 eI64 a0_2 n0_2 c0_2 r.1.Breaks, rowT 2 eI64 a1 n1 c1 r.2.1]
set_option maxRecDepth 100000 in
theorem c59 {w : World} {q0 : SPanel} {a_0_2 : Option Addr} {n_0_2 c_0_2 : Nat} (g_0_2 : Rd w a_0_2 (eI64.fl q0.Breaks)) (l_0_2 : q0.Breaks.length = n_0_2) (k_0_2 : n_0_2 ≤ c_0_2) {q1 : List (List SPoint)} {a_1 : Option Addr} {n_1 c_1 : Nat} {h_1 : List Hd} (g_1 : Rd w a_1 (eHd.fl h_1)) (r_1 : RdI w eSPoint h_1 q1) (i_1 : Inn h_1 q1) (l_1 : q1.length = n_1) (k_1 : n_1 ≤ c_1) {q2 : Int} {r : SPanel × List Int × Int} (hres : sh59 q0 q1 q2 = some r) : Calls Go.Proofs.Try.prog 59 [.agg #[.int .i64 q0.W, .int .i64 q0.H, .slice a_0_2 n_0_2 c_0_2], .slice a_1 n_1 c_1, .int .i64 q2].toArray w (Ret w (T59 r)) := by
  subst l_0_2
  subst l_1
  unfold sh59 at hres
  refine calls_of (n := 48) (M := []) (es := []) Go.Proofs.Try.func59 rfl rfl rfl (Sep.nil _ _ _) ?_
  refine JX.seq ?_
  refine JX.region ?_
  refine JL.eff (ef_box rfl rfl) rfl ?_
  rintro _ _ ⟨g1, rfl, rfl⟩
  refine JL.eff (ef_alloc i39 i39z rfl) rfl ?_
  rintro _ _ ⟨g3, rfl, rfl⟩
  refine JL.val (yl_assign rfl) rfl ?_
  refine JL.val (yl_assign rfl) rfl ?_
  refine JL.nil ?_
  refine JE.weak (env' := [(1, .slice a_1 q1.length c_1), (2, .int .i64 q2), (3, ptrAt (some ⟨g1, 0, none⟩) 0), (6, ptrAt (some ⟨g3, 0, none⟩) 0)]) (es' := [boxO 39 g1 [.int .i64 q0.W, .int .i64 q0.H, .slice a_0_2 q0.Breaks.length c_0_2], boxO 39 g3 [.int .i64 0, .int .i64 0, .slice none 0 0]]) [0, 1] ?_ ⟨rfl, rfl, rfl, rfl, trivial⟩ (by decide) rfl
  refine JE.code ?_
  refine JX.seq ?_
  refine JX.region ?_
  refine JL.val (yl_move rfl) rfl ?_
  obtain ⟨x5, hx5, hres⟩ := bind_some hres
  refine JL.eff (ef_call (T := T117 x5) Go.Proofs.Try.func117 rfl (by kernel_rfl) rfl (fun w hC => c117 (RdAt.of0 (rd_box hC 0 rfl)) (rd_arg g_0_2 hC) rfl k_0_2 hx5)) rfl ?_
  rintro _ _ ⟨_, ⟨rfl, rfl⟩, rfl⟩
  refine JL.val (yl_assign rfl) rfl ?_
  refine JL.nil ?_
  refine JE.code ?_
  refine JX.seq ?_
  refine JX.seq ?_
  refine JX.region ?_
  refine JL.val (yl_move rfl) rfl ?_
  refine JL.val (yl_neq rfl rfl) rfl ?_
  refine JL.nil ?_
  refine JE.code ?_
  rcases cond_some hres with ⟨hb, hres⟩ | ⟨hb, hres⟩
  · refine JX.condT rfl hb ?_
    refine JX.seq ?_
    refine JX.region ?_
    refine JL.val (yl_build rfl (fun w => bld39_  w)) rfl ?_
    refine JL.val (yl_move rfl) rfl ?_
    refine JL.eff (ef_store_box (i := 1) (v := .agg #[.int .i64 0, .int .i64 0, .slice none 0 0]) i39 rfl rfl rfl (i39s).symm (Nat.le_of_ble_eq_true rfl) (by simp [Value.cells, Value.oneCell'])) rfl ?_
    rintro _ _ rfl
    refine JL.val (yl_assign rfl) rfl ?_
    refine JL.val (yl_assign rfl) rfl ?_
    refine JL.nil ?_
    refine JE.weak (env' := [(6, ptrAt (some ⟨g3, 0, none⟩) 0), (7, .slice none 0 0), (8, .int .i64 x5)]) (es' := [boxO 39 g3 [.int .i64 0, .int .i64 0, .slice none 0 0]]) [1] ?_ ⟨rfl, rfl, rfl, trivial⟩ (by decide) rfl
    refine JE.code ?_
    refine JX.ret ?_
    refine JE.nilrow 2 eI64 ?_
    refine JE.nilrow 2 eI64 ?_
    obtain rfl := Option.some.inj hres
    refine JE.ret (rs := [.cell 6 39, .tmp 7, .tmp 8]) (vs := [.agg #[.int .i64 0, .int .i64 0, .slice none 0 0], .slice none 0 0, .int .i64 x5]) rfl ⟨rv_box 0 rfl rfl Go.Proofs.Try.underlying39 rfl i39 (i39s).symm, rfl, rfl, trivial⟩ ?_
    exact fun w' hb hs => ⟨_, _, ⟨none, 0, 0, rfl, none, 0, 0, rfl, rfl, rfl⟩, rfl, hb, hs.sel [1, 2] _ (by decide) rfl⟩
  · refine JX.condF rfl hb ?_
    refine JX.skip ?_
    refine JE.code ?_
    refine JX.seq ?_
    refine JX.region ?_
    obtain ⟨x8, hx8, hres⟩ := bind_some hres
    refine JL.eff (ef_call (T := T118 x8) Go.Proofs.Try.func118 rfl (by kernel_rfl) rfl (fun w hC => c118 (RdAt.of0 (rd_box hC 0 rfl)) (rd_arg g_0_2 hC) rfl k_0_2 hx8)) rfl ?_
    rintro _ _ ⟨_, ⟨a9, _, cp10, rfl, rfl, rfl⟩, rfl⟩
    refine JL.eff (ef_alloc i39 i39z rfl) rfl ?_
    rintro _ _ ⟨g12, rfl, rfl⟩
    refine JL.eff (ef_store_box (i := 3) (v := .agg #[.int .i64 x8.W, .int .i64 x8.H, .slice a9 x8.Breaks.length cp10]) i39 rfl rfl rfl (i39s).symm (Nat.le_of_ble_eq_true rfl) (by simp [Value.cells, Value.oneCell'])) rfl ?_
    rintro _ _ rfl
    refine JL.nil ?_
    refine JE.weak (env' := [(1, .slice a_1 q1.length c_1), (2, .int .i64 q2), (6, ptrAt (some ⟨g3, 0, none⟩) 0), (10, ptrAt (some ⟨g12, 0, none⟩) 0)]) (es' := [boxO 39 g3 [.int .i64 0, .int .i64 0, .slice none 0 0], boxO 39 g12 [.int .i64 x8.W, .int .i64 x8.H, .slice a9 x8.Breaks.length cp10], rowT 2 eI64 a9 x8.Breaks.length cp10 x8.Breaks]) [1, 3, 2] ?_ ⟨rfl, rfl, rfl, rfl, trivial⟩ (by decide) rfl
    refine JE.code ?_
    refine JX.seq ?_
    refine JX.region ?_
    refine JL.eff (ef_buildSlice (E := 2) (k := eI64.k) (us := eI64.fl ([] : List Int)) rfl (fun w => bsl33_0  w) rfl (by decide)) rfl ?_
    rintro _ _ ⟨a14, rfl, rfl⟩
    refine JL.val (yl_assign rfl) rfl ?_
    refine JL.nil ?_
    refine JE.code ?_
    refine JX.seq ?_
    refine JX.seq ?_
    refine JX.region ?_
    refine JL.val (yl_assign rfl) rfl ?_
    refine JL.nil ?_
    refine JE.code ?_
    refine JX.block ?_
    obtain ⟨y1, hy1, hresO1⟩ := bind_some hres
    refine JX.loop (I := fun (s1 : Int × List Int × List Int) aa ww => ∃ (l16 : s1.2.1.length = x8.Breaks.length) (a17 : Option Addr) (cp18 : Nat), St w [] 48 [(1, .slice a_1 q1.length c_1), (2, .int .i64 q2), (6, ptrAt (some ⟨g3, 0, none⟩) 0), (10, ptrAt (some ⟨g12, 0, none⟩) 0), (11, .slice a17 s1.2.2.length cp18), (12, .int .i64 s1.1)] [boxO 39 g3 [.int .i64 0, .int .i64 0, .slice none 0 0], boxO 39 g12 [.int .i64 x8.W, .int .i64 x8.H, .slice a9 x8.Breaks.length cp10], rowT 2 eI64 a9 x8.Breaks.length cp10 s1.2.1, rowT 2 eI64 a17 s1.2.2.length cp18 s1.2.2] aa ww) (sh59_1 q1 q2 x8) hy1 (fun a w h => ⟨rfl, a14, 0, h.weak ⟨rfl, rfl, rfl, rfl, rfl, rfl, trivial⟩ [0, 1, 2, 3] (by decide) rfl⟩) ?_
    rintro ⟨x19, x20, x21⟩ o1 hres hox1 aa ww ⟨l22, a23, cp24, hS⟩
    refine (?_ : JX Go.Proofs.Try.prog w [] 48 _ _ [(1, .slice a_1 q1.length c_1), (2, .int .i64 q2), (6, ptrAt (some ⟨g3, 0, none⟩) 0), (10, ptrAt (some ⟨g12, 0, none⟩) 0), (11, .slice a23 x21.length cp24), (12, .int .i64 x19)] [boxO 39 g3 [.int .i64 0, .int .i64 0, .slice none 0 0], boxO 39 g12 [.int .i64 x8.W, .int .i64 x8.H, .slice a9 x8.Breaks.length cp10], rowT 2 eI64 a9 x8.Breaks.length cp10 x20, rowT 2 eI64 a23 x21.length cp24 x21] _) aa ww hS
    clear hS
    simp only [sh59_1] at hres
    refine JX.seq ?_
    refine JX.seq ?_
    refine JX.region ?_
    refine JL.val (yl_move rfl) rfl ?_
    refine JL.val (yl_move rfl) rfl ?_
    refine JL.val (yl_len_slice Go.Proofs.Try.underlying59 rfl) rfl ?_
    refine JL.val (yl_lss rfl rfl) rfl ?_
    refine JL.nil ?_
    refine JE.weak (env' := [(1, .slice a_1 q1.length c_1), (2, .int .i64 q2), (6, ptrAt (some ⟨g3, 0, none⟩) 0), (10, ptrAt (some ⟨g12, 0, none⟩) 0), (11, .slice a23 x21.length cp24), (12, .int .i64 x19), (24, .bool (decide (x19 < ((q1.length : Nat) : Int))))]) (es' := [boxO 39 g3 [.int .i64 0, .int .i64 0, .slice none 0 0], boxO 39 g12 [.int .i64 x8.W, .int .i64 x8.H, .slice a9 x8.Breaks.length cp10], rowT 2 eI64 a9 x8.Breaks.length cp10 x20, rowT 2 eI64 a23 x21.length cp24 x21]) [0, 1, 2, 3] ?_ ⟨rfl, rfl, rfl, rfl, rfl, rfl, rfl, trivial⟩ (by decide) rfl
    refine JE.code ?_
    rcases cond_some hres with ⟨hb, hres⟩ | ⟨hb, hres⟩
    · refine JX.condT rfl hb ?_
      refine JX.skip ?_
      refine JE.code ?_
      refine JX.seq ?_
      refine JX.block ?_
      refine JX.seq ?_
      refine JX.region ?_
      refine JL.val (yl_move rfl) rfl ?_
      refine JL.val (yl_move rfl) rfl ?_
      obtain ⟨x25, hx25, hres⟩ := bind_some hres
      obtain ⟨ha26, hc27, hhx25⟩ := Inn.sub i_1 hx25
      refine JL.val (yl_idxT Go.Proofs.Try.underlying59 i22 i22s rfl rfl hhx25 (Inn.len i_1) (fun w hC => rd_arg g_1 hC)) rfl ?_
      refine JL.val (yl_loadT0 (z := ⟨ha26, x25.length, hc27⟩) Go.Proofs.Try.underlying22 rfl rfl hhx25 (fun w hC => rd_arg g_1 hC) rfl) rfl ?_
      obtain ⟨x29, hx29, hres⟩ := bind_some hres
      refine JL.eff (ef_call (T := T79 x29) Go.Proofs.Try.func79 rfl (by kernel_rfl) rfl (fun w hC => c79 (rd_arg (RdI.sub r_1 hx25 hhx25) hC) rfl (RdI.ln r_1 hx25 hhx25) hx29)) rfl ?_
      rintro _ _ ⟨_, ⟨rfl, rfl⟩, rfl⟩
      refine JL.val (yl_not rfl) rfl ?_
      refine JL.val (yl_move rfl) rfl ?_
      obtain ⟨j30, hj30, hresj30⟩ := bind_some hres
      refine JL.cut (K := fun J => ∀ (l31 : j30.2.length = x8.Breaks.length), J [(1, .slice a_1 q1.length c_1), (2, .int .i64 q2), (6, ptrAt (some ⟨g3, 0, none⟩) 0), (10, ptrAt (some ⟨g12, 0, none⟩) 0), (11, .slice a23 x21.length cp24), (12, .int .i64 x19), (41, .bool j30.1)] [boxO 39 g3 [.int .i64 0, .int .i64 0, .slice none 0 0], boxO 39 g12 [.int .i64 x8.W, .int .i64 x8.H, .slice a9 x8.Breaks.length cp10], rowT 2 eI64 a9 x8.Breaks.length cp10 j30.2, rowT 2 eI64 a23 x21.length cp24 x21]) 8 ?_ ?_
      · intro l31
        have hres := hresj30
        refine JL.nil ?_
        refine JE.weak (env' := [(1, .slice a_1 q1.length c_1), (2, .int .i64 q2), (6, ptrAt (some ⟨g3, 0, none⟩) 0), (10, ptrAt (some ⟨g12, 0, none⟩) 0), (11, .slice a23 x21.length cp24), (12, .int .i64 x19), (41, .bool j30.1)]) (es' := [boxO 39 g3 [.int .i64 0, .int .i64 0, .slice none 0 0], boxO 39 g12 [.int .i64 x8.W, .int .i64 x8.H, .slice a9 x8.Breaks.length cp10], rowT 2 eI64 a9 x8.Breaks.length cp10 j30.2, rowT 2 eI64 a23 x21.length cp24 x21]) [0, 1, 2, 3] ?_ ⟨rfl, rfl, rfl, rfl, rfl, rfl, rfl, trivial⟩ (by decide) rfl
        refine JE.code ?_
        obtain ⟨j32, hj32, hresj32⟩ := bind_some hres
        refine JX.cut (K := fun J => ∀ (a33 : Option Addr) (cp34 : Nat), J [(1, .slice a_1 q1.length c_1), (2, .int .i64 q2), (6, ptrAt (some ⟨g3, 0, none⟩) 0), (10, ptrAt (some ⟨g12, 0, none⟩) 0), (11, .slice a33 j32.length cp34), (12, .int .i64 x19)] [boxO 39 g3 [.int .i64 0, .int .i64 0, .slice none 0 0], boxO 39 g12 [.int .i64 x8.W, .int .i64 x8.H, .slice a9 x8.Breaks.length cp10], rowT 2 eI64 a9 x8.Breaks.length cp10 j30.2, rowT 2 eI64 a33 j32.length cp34 j32]) ?_ ?_
        · intro a33 cp34
          have hres := hresj32
          refine JE.code ?_
          refine JX.region ?_
          refine JL.val (yl_move rfl) rfl ?_
          refine JL.val (yl_add rfl rfl) rfl ?_
          refine JL.val (yl_assign rfl) rfl ?_
          refine JL.nil ?_
          refine JE.cont hres ?_
          exact fun a w h => ⟨l31, a33, cp34, h.weak ⟨rfl, rfl, rfl, rfl, rfl, rfl, trivial⟩ [0, 1, 2, 3] (by decide) rfl⟩
        · intro K
          rcases cond_some hj32 with ⟨hb, hres⟩ | ⟨hb, hres⟩
          · refine JX.condT rfl hb ?_
            refine JX.region ?_
            refine JL.val (yl_move rfl) rfl ?_
            refine JL.val (yl_move rfl) rfl ?_
            refine JL.eff (ef_buildSlice (E := 2) (k := eI64.k) (us := eI64.fl [x19]) rfl (fun w => bsl33_1 x19 w) rfl (by decide)) rfl ?_
            rintro _ _ ⟨a35, rfl, rfl⟩
            obtain ⟨x37, hx37, hres⟩ := bind_some hres
            refine JL.eff (ef_appendT (ix := 3) Go.Proofs.Try.underlying33 i2 i2z i2s rfl i2b0 i2b1 rfl rfl rfl rfl rfl (fun w hC => rd_row hC 4 rfl) hx37) rfl ?_
            rintro _ _ ⟨a38, cp39, rfl, rfl⟩
            refine JL.val (yl_assign rfl) rfl ?_
            refine JL.nil ?_
            refine JE.weak (env' := [(1, .slice a_1 q1.length c_1), (2, .int .i64 q2), (6, ptrAt (some ⟨g3, 0, none⟩) 0), (10, ptrAt (some ⟨g12, 0, none⟩) 0), (11, .slice a38 x37.length cp39), (12, .int .i64 x19)]) (es' := [boxO 39 g3 [.int .i64 0, .int .i64 0, .slice none 0 0], boxO 39 g12 [.int .i64 x8.W, .int .i64 x8.H, .slice a9 x8.Breaks.length cp10], rowT 2 eI64 a9 x8.Breaks.length cp10 j30.2, rowT 2 eI64 a38 x37.length cp39 x37]) [0, 1, 2, 3] ?_ ⟨rfl, rfl, rfl, rfl, rfl, rfl, trivial⟩ (by decide) rfl
            have hj := Option.some.inj hres
            exact JE.weak [0, 1, 2, 3] (K a38 cp39) ⟨(by subst hj; rfl), (by subst hj; rfl), (by subst hj; rfl), (by subst hj; rfl), (by subst hj; rfl), (by subst hj; rfl), trivial⟩ (by decide) (by subst hj; rfl)
          · refine JX.condF rfl hb ?_
            refine JX.skip ?_
            have hj := Option.some.inj hres
            exact JE.weak [0, 1, 2, 3] (K a23 cp24) ⟨(by subst hj; rfl), (by subst hj; rfl), (by subst hj; rfl), (by subst hj; rfl), (by subst hj; rfl), (by subst hj; rfl), trivial⟩ (by decide) (by subst hj; rfl)
      · intro K
        rcases cond_some hj30 with ⟨hb, hres⟩ | ⟨hb, hres⟩
        · refine JL.set (d := 33) (v := .bool true) (congrArg (fun b => some (Value.bool b)) hb) ?_
          refine JL.gskip rfl rfl rfl rfl ?_
          refine JL.gskip rfl rfl rfl rfl ?_
          refine JL.gskip rfl rfl rfl rfl ?_
          refine JL.gskip rfl rfl rfl rfl ?_
          refine JL.gskip rfl rfl rfl rfl ?_
          refine JL.gskip rfl rfl rfl rfl ?_
          refine JL.gskip rfl rfl rfl rfl ?_
          refine JL.val (yl_pick_true rfl rfl) rfl ?_
          have hj := Option.some.inj hres
          exact JL.weak [0, 1, 2, 3] (K (by subst hj; exact l22)) ⟨(by subst hj; rfl), (by subst hj; rfl), (by subst hj; rfl), (by subst hj; rfl), (by subst hj; rfl), (by subst hj; rfl), (by subst hj; rfl), trivial⟩ (by decide) (by subst hj; rfl)
        · refine JL.set (d := 33) (v := .bool false) (congrArg (fun b => some (Value.bool b)) hb) ?_
          refine JL.gval rfl rfl (yl_move rfl) rfl ?_
          refine JL.gval rfl rfl (yl_move rfl) rfl ?_
          obtain ⟨x40, hx40, hres⟩ := bind_some hres
          obtain ⟨ha41, hc42, hhx40⟩ := Inn.sub i_1 hx40
          refine JL.gval rfl rfl (yl_idxT Go.Proofs.Try.underlying59 i22 i22s rfl rfl hhx40 (Inn.len i_1) (fun w hC => rd_arg g_1 hC)) rfl ?_
          refine JL.gval rfl rfl (yl_loadT0 (z := ⟨ha41, x40.length, hc42⟩) Go.Proofs.Try.underlying22 rfl rfl hhx40 (fun w hC => rd_arg g_1 hC) rfl) rfl ?_
          refine JL.gval rfl rfl (yl_move rfl) rfl ?_
          obtain ⟨x44, hx44, hres⟩ := bind_some hres
          refine JL.geff rfl rfl (ef_callms (caps := []) (vs := [ptrAt (some ⟨g12, 0, none⟩) 0, .slice ha41 x40.length hc42, .int .i64 q2]) (T := T119 a9 x8.Breaks.length cp10 x44) [2] [0, 1, 3] [rowT 2 eI64 a9 x8.Breaks.length cp10 x20] [boxO 39 g3 [.int .i64 0, .int .i64 0, .slice none 0 0], boxO 39 g12 [.int .i64 x8.W, .int .i64 x8.H, .slice a9 x8.Breaks.length cp10], rowT 2 eI64 a23 x21.length cp24 x21] rfl Go.Proofs.Try.func119 rfl (by kernel_rfl) rfl (by decide) rfl rfl (fun w N hF hS => c119 (q0 := SPanel.mk x8.W x8.H x20) (RdAtS.of0 (RdS.box hF 1 rfl rfl)) l22 (RdS.pass0 hF (RdI.sub r_1 hx40 hhx40)) rfl (RdI.ln r_1 hx40 hhx40) hS hx44)) rfl ?_
          rintro _ _ ⟨_, _, ⟨l45, rfl, rfl, rfl⟩, rfl⟩
          refine JL.gval rfl rfl (yl_neq rfl rfl) rfl ?_
          refine JL.val (yl_pick_false rfl rfl) rfl ?_
          have hj := Option.some.inj hres
          exact JL.weak [0, 1, 3, 2] (K (by subst hj; exact l45)) ⟨(by subst hj; rfl), (by subst hj; rfl), (by subst hj; rfl), (by subst hj; rfl), (by subst hj; rfl), (by subst hj; rfl), (by subst hj; rfl), trivial⟩ (by decide) (by subst hj; rfl)
    · refine JX.condF rfl hb ?_
      refine JX.exit ?_
      refine JE.qb rfl ?_
      obtain ⟨b1, hb1⟩ : ∃ b : List Int × List Int, b = (x20, x21) := ⟨_, rfl⟩
      have hy1 : b1 = y1 := by rw [hb1]; exact hox1 _ (Option.some.inj hres).symm
      have hres := hresO1
      rw [← hy1] at hres
      have l46 : b1.1.length = x8.Breaks.length := by subst hb1; exact l22
      refine JE.weak (env' := [(6, ptrAt (some ⟨g3, 0, none⟩) 0), (10, ptrAt (some ⟨g12, 0, none⟩) 0), (11, .slice a23 b1.2.length cp24)]) (es' := [boxO 39 g3 [.int .i64 0, .int .i64 0, .slice none 0 0], boxO 39 g12 [.int .i64 x8.W, .int .i64 x8.H, .slice a9 x8.Breaks.length cp10], rowT 2 eI64 a9 x8.Breaks.length cp10 b1.1, rowT 2 eI64 a23 b1.2.length cp24 b1.2]) [0, 1, 2, 3] ?_ ⟨(by subst hb1; rfl), (by subst hb1; rfl), (by subst hb1; rfl), trivial⟩ (by decide) (by subst hb1; rfl)
      refine JE.code ?_
      refine JX.seq ?_
      refine JX.region ?_
      refine JL.val (yl_loadn Go.Proofs.Try.underlying39 rfl i39 rfl (fun w hC => rd_box hC 1 rfl) rfl (i39s).symm i39p) rfl ?_
      refine JL.val (yl_move rfl) rfl ?_
      refine JL.eff (ef_store_box (i := 0) (v := .agg #[.int .i64 x8.W, .int .i64 x8.H, .slice a9 x8.Breaks.length cp10]) i39 rfl rfl rfl (i39s).symm (Nat.le_of_ble_eq_true rfl) (by simp [Value.cells, Value.oneCell'])) rfl ?_
      rintro _ _ rfl
      refine JL.val (yl_assign rfl) rfl ?_
      refine JL.val (yl_assign rfl) rfl ?_
      refine JL.nil ?_
      refine JE.weak (env' := [(6, ptrAt (some ⟨g3, 0, none⟩) 0), (7, .slice a23 b1.2.length cp24), (8, .int .i64 0)]) (es' := [boxO 39 g3 [.int .i64 x8.W, .int .i64 x8.H, .slice a9 x8.Breaks.length cp10], rowT 2 eI64 a9 x8.Breaks.length cp10 b1.1, rowT 2 eI64 a23 b1.2.length cp24 b1.2]) [0, 2, 3] ?_ ⟨rfl, rfl, rfl, trivial⟩ (by decide) rfl
      refine JE.code ?_
      refine JX.ret ?_
      obtain rfl := Option.some.inj hres
      refine JE.ret (rs := [.cell 6 39, .tmp 7, .tmp 8]) (vs := [.agg #[.int .i64 x8.W, .int .i64 x8.H, .slice a9 x8.Breaks.length cp10], .slice a23 b1.2.length cp24, .int .i64 0]) rfl ⟨rv_box 0 rfl rfl Go.Proofs.Try.underlying39 rfl i39 (i39s).symm, rfl, rfl, trivial⟩ ?_
      exact fun w' hb hs => ⟨_, _, ⟨a9, x8.Breaks.length, cp10, l46, a23, b1.2.length, cp24, rfl, rfl, rfl⟩, rfl, hb, hs.sel [1, 2] _ (by decide) rfl⟩

/- laws.toPoint -/
def sh120 (q0 : SPoint) : Option (SPoint) := some q0
def T120 (r : SPoint) (v : Value) (rs : List Own) : Prop := v = rets [.agg #[.int .i64 r.X, .int .i64 r.Y]] ∧ rs = []
set_option maxRecDepth 100000 in
theorem c120 {w : World} {q0 : SPoint} {r : SPoint} (hres : sh120 q0 = some r) : Calls Go.Proofs.Try.prog 120 [.agg #[.int .i64 q0.X, .int .i64 q0.Y]].toArray w (Ret w (T120 r)) := by
  unfold sh120 at hres
  refine calls_of (n := 11) (M := []) (es := []) Go.Proofs.Try.func120 rfl rfl rfl (Sep.nil _ _ _) ?_
  refine JX.seq ?_
  refine JX.region ?_
  refine JL.eff (ef_box rfl rfl) rfl ?_
  rintro _ _ ⟨g1, rfl, rfl⟩
  refine JL.eff (ef_alloc i93 i93z rfl) rfl ?_
  rintro _ _ ⟨g3, rfl, rfl⟩
  refine JL.nil ?_
  refine JE.code ?_
  refine JX.seq ?_
  refine JX.region ?_
  refine JL.eff (ef_alloc i93 i93z rfl) rfl ?_
  rintro _ _ ⟨g5, rfl, rfl⟩
  refine JL.nil ?_
  refine JE.code ?_
  refine JX.seq ?_
  refine JX.region ?_
  refine JL.val (yl_fieldAt (a := some _) Go.Proofs.Try.underlying134 rfl i2 i2n rfl rfl) rfl ?_
  refine JL.val (yl_load1 Go.Proofs.Try.underlying2 rfl rfl (fun w hC => rd_box hC 0 rfl) rfl) rfl ?_
  refine JL.val (yl_fieldAt (a := some _) Go.Proofs.Try.underlying93 rfl i2 i2n rfl rfl) rfl ?_
  refine JL.eff (ef_store_box (i := 2) (v := .int .i64 q0.X) i2 rfl rfl rfl (i2s).symm (Nat.le_of_ble_eq_true rfl) (by simp [Value.cells, Value.oneCell'])) rfl ?_
  rintro _ _ rfl
  refine JL.nil ?_
  refine JE.weak (env' := [(1, ptrAt (some ⟨g1, 0, none⟩) 0), (2, ptrAt (some ⟨g3, 0, none⟩) 0), (3, ptrAt (some ⟨g5, 0, none⟩) 0)]) (es' := [boxO 134 g1 [.int .i64 q0.X, .int .i64 q0.Y], boxO 93 g3 [.int .i64 0, .int .i64 0], boxO 93 g5 [.int .i64 q0.X, .int .i64 0]]) [0, 1, 2] ?_ ⟨rfl, rfl, rfl, trivial⟩ (by decide) rfl
  refine JE.code ?_
  refine JX.seq ?_
  refine JX.region ?_
  refine JL.val (yl_fieldAt (a := some _) Go.Proofs.Try.underlying134 rfl i2 i2n rfl rfl) rfl ?_
  refine JL.val (yl_load1 Go.Proofs.Try.underlying2 rfl rfl (fun w hC => rd_box hC 0 rfl) rfl) rfl ?_
  refine JL.val (yl_fieldAt (a := some _) Go.Proofs.Try.underlying93 rfl i2 i2n rfl rfl) rfl ?_
  refine JL.eff (ef_store_box (i := 2) (v := .int .i64 q0.Y) i2 rfl rfl rfl (i2s).symm (Nat.le_of_ble_eq_true rfl) (by simp [Value.cells, Value.oneCell'])) rfl ?_
  rintro _ _ rfl
  refine JL.nil ?_
  refine JE.weak (env' := [(2, ptrAt (some ⟨g3, 0, none⟩) 0), (3, ptrAt (some ⟨g5, 0, none⟩) 0)]) (es' := [boxO 93 g3 [.int .i64 0, .int .i64 0], boxO 93 g5 [.int .i64 q0.X, .int .i64 q0.Y]]) [1, 2] ?_ ⟨rfl, rfl, trivial⟩ (by decide) rfl
  refine JE.code ?_
  refine JX.seq ?_
  refine JX.region ?_
  refine JL.val (yl_loadn Go.Proofs.Try.underlying93 rfl i93 rfl (fun w hC => rd_box hC 1 rfl) rfl (i93s).symm i93p) rfl ?_
  refine JL.eff (ef_store_box (i := 0) (v := .agg #[.int .i64 q0.X, .int .i64 q0.Y]) i93 rfl rfl rfl (i93s).symm (Nat.le_of_ble_eq_true rfl) (by simp [Value.cells, Value.oneCell'])) rfl ?_
  rintro _ _ rfl
  refine JL.nil ?_
  refine JE.weak (env' := [(2, ptrAt (some ⟨g3, 0, none⟩) 0)]) (es' := [boxO 93 g3 [.int .i64 q0.X, .int .i64 q0.Y]]) [0] ?_ ⟨rfl, trivial⟩ (by decide) rfl
  refine JE.code ?_
  refine JX.ret ?_
  obtain rfl := Option.some.inj hres
  refine JE.ret (rs := [.cell 2 93]) (vs := [.agg #[.int .i64 q0.X, .int .i64 q0.Y]]) rfl ⟨rv_box 0 rfl rfl Go.Proofs.Try.underlying93 rfl i93 (i93s).symm, trivial⟩ ?_
  exact fun w' hb hs => ⟨_, _, ⟨rfl, rfl⟩, rfl, hb, hs.sel [] _ (by decide) rfl⟩

/- laws.toPointS -/
def sh53_1 (q0 : List SPoint) : (Int × List SPoint) → Option ((Int × List SPoint) ⊕ (List SPoint))
  | (x5, x6) => bif decide (x5 < (q0.length : Int)) then (Option.bind (getI q0 x5) fun x8 => Option.bind (sh120 x8) fun x9 => Option.bind (getI x6 x5) fun x10 => some (.inl (w64 (x5 + 1), x6.set (x5).toNat x9))) else (some (.inr x6))
def sh53 (q0 : List SPoint) : Option (List SPoint) := Option.bind (mkL (q0.length : Int) (SPoint.mk 0 0)) fun x1 => Option.bind (iter (sh53_1 q0) (0, x1)) fun b1 => (some b1)
def T53 (r : List SPoint) (v : Value) (rs : List Own) : Prop := ∃ (a0 : Option Addr) (n0 c0 : Nat), r.length = n0 ∧ v = rets [.slice a0 n0 c0] ∧ rs = [rowT 93 eSPoint a0 n0 c0 r]
set_option maxRecDepth 100000 in
theorem c53 {w : World} {q0 : List SPoint} {a_0 : Option Addr} {n_0 c_0 : Nat} (g_0 : Rd w a_0 (eSPoint.fl q0)) (l_0 : q0.length = n_0) (k_0 : n_0 ≤ c_0) {r : List SPoint} (hres : sh53 q0 = some r) : Calls Go.Proofs.Try.prog 53 [.slice a_0 n_0 c_0].toArray w (Ret w (T53 r)) := by
  subst l_0
  unfold sh53 at hres
  refine calls_of (n := 23) (M := []) (es := []) Go.Proofs.Try.func53 rfl rfl rfl (Sep.nil _ _ _) ?_
  refine JX.seq ?_
  refine JX.region ?_
  refine JL.val (yl_assign rfl) rfl ?_
  refine JL.nil ?_
  refine JE.code ?_
  refine JX.seq ?_
  refine JX.region ?_
  refine JL.val (yl_move rfl) rfl ?_
  refine JL.val (yl_len_slice Go.Proofs.Try.underlying65 rfl) rfl ?_
  obtain ⟨x1, hx1, hres⟩ := bind_some hres
  refine JL.eff (ef_makeS (e := eSPoint) Go.Proofs.Try.underlying22 i93 i93s i93z rfl i93b1 rfl rfl hx1) rfl ?_
  rintro _ _ ⟨a2, rfl, rfl⟩
  refine JL.val (yl_assign rfl) rfl ?_
  refine JL.nil ?_
  refine JE.weak (env' := [(0, .slice a_0 q0.length c_0), (3, .slice a2 x1.length x1.length)]) (es' := [rowT 93 eSPoint a2 x1.length x1.length x1]) [0] ?_ ⟨rfl, rfl, trivial⟩ (by decide) rfl
  refine JE.code ?_
  refine JX.seq ?_
  refine JX.seq ?_
  refine JX.region ?_
  refine JL.val (yl_assign rfl) rfl ?_
  refine JL.nil ?_
  refine JE.code ?_
  refine JX.block ?_
  obtain ⟨y1, hy1, hresO1⟩ := bind_some hres
  refine JX.loop (I := fun (s1 : Int × List SPoint) aa ww => ∃ (l4 : s1.2.length = x1.length), St w [] 23 [(0, .slice a_0 q0.length c_0), (3, .slice a2 x1.length x1.length), (4, .int .i64 s1.1)] [rowT 93 eSPoint a2 x1.length x1.length s1.2] aa ww) (sh53_1 q0) hy1 (fun a w h => ⟨rfl, h.weak ⟨rfl, rfl, rfl, trivial⟩ [0] (by decide) rfl⟩) ?_
  rintro ⟨x5, x6⟩ o1 hres hox1 aa ww ⟨l7, hS⟩
  refine (?_ : JX Go.Proofs.Try.prog w [] 23 _ _ [(0, .slice a_0 q0.length c_0), (3, .slice a2 x1.length x1.length), (4, .int .i64 x5)] [rowT 93 eSPoint a2 x1.length x1.length x6] _) aa ww hS
  clear hS
  simp only [sh53_1] at hres
  refine JX.seq ?_
  refine JX.seq ?_
  refine JX.region ?_
  refine JL.val (yl_move rfl) rfl ?_
  refine JL.val (yl_move rfl) rfl ?_
  refine JL.val (yl_len_slice Go.Proofs.Try.underlying65 rfl) rfl ?_
  refine JL.val (yl_lss rfl rfl) rfl ?_
  refine JL.nil ?_
  refine JE.weak (env' := [(0, .slice a_0 q0.length c_0), (3, .slice a2 x1.length x1.length), (4, .int .i64 x5), (11, .bool (decide (x5 < (q0.length : Int))))]) (es' := [rowT 93 eSPoint a2 x1.length x1.length x6]) [0] ?_ ⟨rfl, rfl, rfl, rfl, trivial⟩ (by decide) rfl
  refine JE.code ?_
  rcases cond_some hres with ⟨hb, hres⟩ | ⟨hb, hres⟩
  · refine JX.condT rfl hb ?_
    refine JX.skip ?_
    refine JE.code ?_
    refine JX.seq ?_
    refine JX.block ?_
    refine JX.region ?_
    refine JL.val (yl_move rfl) rfl ?_
    refine JL.val (yl_move rfl) rfl ?_
    refine JL.val (yl_move rfl) rfl ?_
    refine JL.val (yl_move rfl) rfl ?_
    obtain ⟨x8, hx8, hres⟩ := bind_some hres
    refine JL.val (yl_idxT Go.Proofs.Try.underlying65 i134 i134s rfl rfl hx8 rfl (fun w hC => rd_arg g_0 hC)) rfl ?_
    refine JL.val (yl_loadTn Go.Proofs.Try.underlying134 rfl i134 i134s rfl hx8 (fun w hC => rd_arg g_0 hC)) rfl ?_
    obtain ⟨x9, hx9, hres⟩ := bind_some hres
    refine JL.eff (ef_call (vs := [.agg #[.int .i64 x8.X, .int .i64 x8.Y]]) (T := T120 x9) Go.Proofs.Try.func120 rfl (by kernel_rfl) rfl (fun w hC => c120 (q0 := x8) hx9)) rfl ?_
    rintro _ _ ⟨_, ⟨rfl, rfl⟩, rfl⟩
    obtain ⟨x10, hx10, hres⟩ := bind_some hres
    refine JL.val (yl_idxT Go.Proofs.Try.underlying22 i93 i93s rfl rfl hx10 l7 (fun w hC => rd_row hC 0 rfl)) rfl ?_
    refine JL.eff (ef_storeT (ix := 0) (u := x9) i93 i93s rfl rfl rfl hx10 rfl) rfl ?_
    rintro _ _ rfl
    refine JL.nil ?_
    refine JE.weak (env' := [(0, .slice a_0 q0.length c_0), (3, .slice a2 x1.length x1.length), (4, .int .i64 x5)]) (es' := [rowT 93 eSPoint a2 x1.length x1.length (x6.set (x5).toNat x9)]) [0] ?_ ⟨rfl, rfl, rfl, trivial⟩ (by decide) rfl
    refine JE.code ?_
    refine JX.region ?_
    refine JL.val (yl_move rfl) rfl ?_
    refine JL.val (yl_add rfl rfl) rfl ?_
    refine JL.val (yl_assign rfl) rfl ?_
    refine JL.nil ?_
    refine JE.cont hres ?_
    exact fun a w h => ⟨(List.length_set.trans l7), h.weak ⟨rfl, rfl, rfl, trivial⟩ [0] (by decide) rfl⟩
  · refine JX.condF rfl hb ?_
    refine JX.exit ?_
    refine JE.qb rfl ?_
    obtain ⟨b1, hb1⟩ : ∃ b : List SPoint, b = x6 := ⟨_, rfl⟩
    have hy1 : b1 = y1 := by rw [hb1]; exact hox1 _ (Option.some.inj hres).symm
    have hres := hresO1
    rw [← hy1] at hres
    have l11 : b1.length = x1.length := by subst hb1; exact l7
    refine JE.weak (env' := [(3, .slice a2 x1.length x1.length)]) (es' := [rowT 93 eSPoint a2 x1.length x1.length b1]) [0] ?_ ⟨(by subst hb1; rfl), trivial⟩ (by decide) (by subst hb1; rfl)
    refine JE.code ?_
    refine JX.seq ?_
    refine JX.region ?_
    refine JL.val (yl_move rfl) rfl ?_
    refine JL.val (yl_assign rfl) rfl ?_
    refine JL.nil ?_
    refine JE.code ?_
    refine JX.ret ?_
    obtain rfl := Option.some.inj hres
    refine JE.ret (rs := [.tmp 2]) (vs := [.slice a2 x1.length x1.length]) rfl ⟨rfl, trivial⟩ ?_
    exact fun w' hb hs => ⟨_, _, ⟨a2, x1.length, x1.length, l11, rfl, rfl⟩, rfl, hb, hs.sel [0] _ (by decide) rfl⟩

/- laws.toPointSS -/
def sh60_1 (q0 : List (List SPoint)) : (Int × List (List SPoint)) → Option ((Int × List (List SPoint)) ⊕ (List (List SPoint)))
  | (x9, x10) => bif decide (x9 < ((q0.length : Nat) : Int)) then (Option.bind (getI q0 x9) fun x15 => Option.bind (sh53 x15) fun x19 => Option.bind (getI x10 x9) fun x23 => some (.inl (w64 (x9 + 1), x10.set (x9).toNat x19))) else (some (.inr x10))
def sh60 (q0 : List (List SPoint)) : Option (List (List SPoint)) := Option.bind (mkL ((q0.length : Nat) : Int) ([] : List SPoint)) fun x1 => Option.bind (iter (sh60_1 q0) (0, x1)) fun b1 => (some b1)
def T60 (r : List (List SPoint)) (v : Value) (rs : List Own) : Prop := ∃ (a0 : Option Addr) (n0 c0 : Nat) (h0 : List Hd), r.length = n0 ∧ Inn h0 r ∧ v = rets [.slice a0 n0 c0] ∧ rs = [rowT 22 eHd a0 n0 c0 h0, innO 93 eSPoint none h0 r]
set_option maxRecDepth 100000 in
theorem c60 {w : World} {q0 : List (List SPoint)} {a_0 : Option Addr} {n_0 c_0 : Nat} {h_0 : List Hd} (g_0 : Rd w a_0 (eHd.fl h_0)) (r_0 : RdI w eSPoint h_0 q0) (i_0 : Inn h_0 q0) (l_0 : q0.length = n_0) (k_0 : n_0 ≤ c_0) {r : List (List SPoint)} (hres : sh60 q0 = some r) : Calls Go.Proofs.Try.prog 60 [.slice a_0 n_0 c_0].toArray w (Ret w (T60 r)) := by
  subst l_0
  unfold sh60 at hres
  refine calls_of (n := 23) (M := []) (es := []) Go.Proofs.Try.func60 rfl rfl rfl (Sep.nil _ _ _) ?_
  refine JX.seq ?_
  refine JX.region ?_
  refine JL.val (yl_assign rfl) rfl ?_
  refine JL.nil ?_
  refine JE.code ?_
  refine JX.seq ?_
  refine JX.region ?_
  refine JL.val (yl_move rfl) rfl ?_
  refine JL.val (yl_len_slice Go.Proofs.Try.underlying72 rfl) rfl ?_
  obtain ⟨x1, hx1, hres⟩ := bind_some hres
  refine JL.eff (ef_makeH Go.Proofs.Try.underlying59 i22 i22s i22z rfl i22b1 rfl rfl hx1) rfl ?_
  rintro _ _ ⟨a2, rfl, rfl⟩
  refine JL.repinn hx1 93 eSPoint ?_
  refine JL.val (yl_assign rfl) rfl ?_
  refine JL.nil ?_
  refine JE.weak (env' := [(0, .slice a_0 q0.length c_0), (3, .slice a2 x1.length x1.length)]) (es' := [rowT 22 eHd a2 x1.length x1.length (List.replicate x1.length (⟨none, 0, 0⟩ : Hd)), innO 93 eSPoint none (List.replicate x1.length (⟨none, 0, 0⟩ : Hd)) x1]) [0, 1] ?_ ⟨rfl, rfl, trivial⟩ (by decide) rfl
  refine JE.code ?_
  refine JX.seq ?_
  refine JX.seq ?_
  refine JX.region ?_
  refine JL.val (yl_assign rfl) rfl ?_
  refine JL.nil ?_
  refine JE.code ?_
  refine JX.block ?_
  obtain ⟨y1, hy1, hresO1⟩ := bind_some hres
  refine JX.loop (I := fun (s1 : Int × List (List SPoint)) aa ww => ∃ (a5 : Option Addr) (cp6 : Nat) (hs7 : List Hd) (hi8 : Inn hs7 s1.2), St w [] 23 [(0, .slice a_0 q0.length c_0), (3, .slice a5 s1.2.length cp6), (4, .int .i64 s1.1)] [rowT 22 eHd a5 s1.2.length cp6 hs7, innO 93 eSPoint none hs7 s1.2] aa ww) (sh60_1 q0) hy1 (fun a w h => ⟨a2, x1.length, List.replicate x1.length (⟨none, 0, 0⟩ : Hd), (inn_rep hx1), h.weak ⟨rfl, (by first | rfl | (simp only [List.length_set]; rfl) | simp only [List.length_set]), rfl, trivial⟩ [0, 1] (by decide) (by first | rfl | (simp only [List.length_set]; rfl) | simp only [List.length_set])⟩) ?_
  rintro ⟨x9, x10⟩ o1 hres hox1 aa ww ⟨a11, cp12, hs13, hi14, hS⟩
  refine (?_ : JX Go.Proofs.Try.prog w [] 23 _ _ [(0, .slice a_0 q0.length c_0), (3, .slice a11 x10.length cp12), (4, .int .i64 x9)] [rowT 22 eHd a11 x10.length cp12 hs13, innO 93 eSPoint none hs13 x10] _) aa ww hS
  clear hS
  simp only [sh60_1] at hres
  refine JX.seq ?_
  refine JX.seq ?_
  refine JX.region ?_
  refine JL.val (yl_move rfl) rfl ?_
  refine JL.val (yl_move rfl) rfl ?_
  refine JL.val (yl_len_slice Go.Proofs.Try.underlying72 rfl) rfl ?_
  refine JL.val (yl_lss rfl rfl) rfl ?_
  refine JL.nil ?_
  refine JE.weak (env' := [(0, .slice a_0 q0.length c_0), (3, .slice a11 x10.length cp12), (4, .int .i64 x9), (11, .bool (decide (x9 < ((q0.length : Nat) : Int))))]) (es' := [rowT 22 eHd a11 x10.length cp12 hs13, innO 93 eSPoint none hs13 x10]) [0, 1] ?_ ⟨rfl, rfl, rfl, rfl, trivial⟩ (by decide) rfl
  refine JE.code ?_
  rcases cond_some hres with ⟨hb, hres⟩ | ⟨hb, hres⟩
  · refine JX.condT rfl hb ?_
    refine JX.skip ?_
    refine JE.code ?_
    refine JX.seq ?_
    refine JX.block ?_
    refine JX.region ?_
    refine JL.val (yl_move rfl) rfl ?_
    refine JL.val (yl_move rfl) rfl ?_
    refine JL.val (yl_move rfl) rfl ?_
    refine JL.val (yl_move rfl) rfl ?_
    obtain ⟨x15, hx15, hres⟩ := bind_some hres
    obtain ⟨ha16, hc17, hhx15⟩ := Inn.sub i_0 hx15
    refine JL.val (yl_idxT Go.Proofs.Try.underlying72 i65 i65s rfl rfl hhx15 (Inn.len i_0) (fun w hC => rd_arg g_0 hC)) rfl ?_
    refine JL.val (yl_loadT0 (z := ⟨ha16, x15.length, hc17⟩) Go.Proofs.Try.underlying65 rfl rfl hhx15 (fun w hC => rd_arg g_0 hC) rfl) rfl ?_
    obtain ⟨x19, hx19, hres⟩ := bind_some hres
    refine JL.eff (ef_call (T := T53 x19) Go.Proofs.Try.func53 rfl (by kernel_rfl) rfl (fun w hC => c53 (rd_arg (RdI.sub r_0 hx15 hhx15) hC) rfl (RdI.ln r_0 hx15 hhx15) hx19)) rfl ?_
    rintro _ _ ⟨_, ⟨a20, _, cp21, rfl, rfl, rfl⟩, rfl⟩
    obtain ⟨x23, hx23, hres⟩ := bind_some hres
    obtain ⟨ha24, hc25, hhx23⟩ := Inn.sub hi14 hx23
    refine JL.val (yl_idxT Go.Proofs.Try.underlying59 i22 i22s rfl rfl hhx23 (Inn.len hi14) (fun w hC => rd_row hC 0 rfl)) rfl ?_
    refine JL.focus (es' := [rowT 22 eHd a11 x10.length cp12 hs13, rowT 93 eSPoint a20 x19.length cp21 x19]) [0, 2, 1] (by decide) rfl hhx23 hx23 ?_
    refine JL.eff (ef_storeT (ix := 0) (u := ⟨a20, x19.length, cp21⟩) i22 i22s rfl rfl rfl hhx23 rfl) rfl ?_
    rintro _ _ rfl
    refine JL.unfocus (es' := [rowT 22 eHd a11 x10.length cp12 (hs13.set (x9).toNat ⟨a20, x19.length, cp21⟩), rowT 93 eSPoint ha24 x23.length hc25 x23]) [0, 3, 2, 1] (by decide) rfl hhx23 ?_
    refine JL.nil ?_
    refine JE.weak (env' := [(0, .slice a_0 q0.length c_0), (3, .slice a11 x10.length cp12), (4, .int .i64 x9)]) (es' := [rowT 22 eHd a11 x10.length cp12 (hs13.set (x9).toNat ⟨a20, x19.length, cp21⟩), innO 93 eSPoint none (hs13.set (x9).toNat ⟨a20, x19.length, cp21⟩) (x10.set (x9).toNat x19)]) [0, 2] ?_ ⟨rfl, rfl, rfl, trivial⟩ (by decide) rfl
    refine JE.code ?_
    refine JX.region ?_
    refine JL.val (yl_move rfl) rfl ?_
    refine JL.val (yl_add rfl rfl) rfl ?_
    refine JL.val (yl_assign rfl) rfl ?_
    refine JL.nil ?_
    refine JE.cont hres ?_
    exact fun a w h => ⟨a11, cp12, hs13.set (x9).toNat ⟨a20, x19.length, cp21⟩, (Inn.set hi14 rfl), h.weak ⟨rfl, (by first | rfl | (simp only [List.length_set]; rfl) | simp only [List.length_set]), rfl, trivial⟩ [0, 1] (by decide) (by first | rfl | (simp only [List.length_set]; rfl) | simp only [List.length_set])⟩
  · refine JX.condF rfl hb ?_
    refine JX.exit ?_
    refine JE.qb rfl ?_
    obtain ⟨b1, hb1⟩ : ∃ b : List (List SPoint), b = x10 := ⟨_, rfl⟩
    have hy1 : b1 = y1 := by rw [hb1]; exact hox1 _ (Option.some.inj hres).symm
    have hres := hresO1
    rw [← hy1] at hres
    have hi30 : Inn hs13 b1 := by subst hb1; exact hi14
    refine JE.weak (env' := [(3, .slice a11 b1.length cp12)]) (es' := [rowT 22 eHd a11 b1.length cp12 hs13, innO 93 eSPoint none hs13 b1]) [0, 1] ?_ ⟨(by subst hb1; first | rfl | (simp only [List.length_set]; rfl) | simp only [List.length_set]), trivial⟩ (by decide) (by subst hb1; first | rfl | (simp only [List.length_set]; rfl) | simp only [List.length_set])
    refine JE.code ?_
    refine JX.seq ?_
    refine JX.region ?_
    refine JL.val (yl_move rfl) rfl ?_
    refine JL.val (yl_assign rfl) rfl ?_
    refine JL.nil ?_
    refine JE.code ?_
    refine JX.ret ?_
    obtain rfl := Option.some.inj hres
    refine JE.ret (rs := [.tmp 2]) (vs := [.slice a11 b1.length cp12]) rfl ⟨rfl, trivial⟩ ?_
    exact fun w' hb hs => ⟨_, _, ⟨a11, b1.length, cp12, hs13, rfl, hi30, rfl, rfl⟩, rfl, hb, hs.sel [0, 1] _ (by decide) rfl⟩

/- impl.inRange -/
def sh136 (q0 : Int) (q1 : Int) (q2 : Int) : Option (Bool) := some ((decide (q1 ≤ q0)) && (decide (q0 ≤ q2)))
def T136 (r : Bool) (v : Value) (rs : List Own) : Prop := v = rets [.bool r] ∧ rs = []
set_option maxRecDepth 100000 in
theorem c136 {w : World} {q0 : Int} {q1 : Int} {q2 : Int} {r : Bool} (hres : sh136 q0 q1 q2 = some r) : Calls Go.Proofs.Try.prog 136 [.int .i64 q0, .int .i64 q1, .int .i64 q2].toArray w (Ret w (T136 r)) := by
  unfold sh136 at hres
  refine calls_of (n := 15) (M := []) (es := []) Go.Proofs.Try.func136 rfl rfl rfl (Sep.nil _ _ _) ?_
  refine JX.seq ?_
  refine JX.region ?_
  refine JL.val (yl_assign rfl) rfl ?_
  refine JL.nil ?_
  refine JE.code ?_
  refine JX.seq ?_
  refine JX.region ?_
  refine JL.val (yl_move rfl) rfl ?_
  refine JL.val (yl_move rfl) rfl ?_
  refine JL.val (yl_geq rfl rfl) rfl ?_
  refine JL.val (yl_move rfl) rfl ?_
  refine JL.cut (K := fun J => J [(14, .bool ((decide (q1 ≤ q0)) && (decide (q0 ≤ q2))))] []) 4 ?_ ?_
  · refine JL.val (yl_assign rfl) rfl ?_
    refine JL.nil ?_
    refine JE.weak (env' := [(6, .bool ((decide (q1 ≤ q0)) && (decide (q0 ≤ q2))))]) (es' := []) [] ?_ ⟨rfl, trivial⟩ (by decide) rfl
    refine JE.code ?_
    refine JX.ret ?_
    obtain rfl := Option.some.inj hres
    refine JE.ret (rs := [.tmp 6]) (vs := [.bool ((decide (q1 ≤ q0)) && (decide (q0 ≤ q2)))]) rfl ⟨rfl, trivial⟩ ?_
    exact fun w' hb hs => ⟨_, _, ⟨rfl, rfl⟩, rfl, hb, hs.sel [] _ (by decide) rfl⟩
  · intro K
    rcases Bool.eq_false_or_eq_true (decide (q1 ≤ q0)) with hb | hb
    · refine JL.set (d := 10) (v := .bool true) (congrArg (fun b => some (Value.bool b)) hb) ?_
      refine JL.gval rfl rfl (yl_move rfl) rfl ?_
      refine JL.gval rfl rfl (yl_move rfl) rfl ?_
      refine JL.gval rfl rfl (yl_leq rfl rfl) rfl ?_
      refine JL.val (yl_pick_true rfl rfl) rfl ?_
      exact JL.weak [] K ⟨(by rw [hb]; rfl), trivial⟩ (by decide) rfl
    · refine JL.set (d := 10) (v := .bool false) (congrArg (fun b => some (Value.bool b)) hb) ?_
      refine JL.gskip rfl rfl rfl rfl ?_
      refine JL.gskip rfl rfl rfl rfl ?_
      refine JL.gskip rfl rfl rfl rfl ?_
      refine JL.val (yl_pick_false rfl rfl) rfl ?_
      exact JL.weak [] K ⟨(by rw [hb]; rfl), trivial⟩ (by decide) rfl

/- impl.isPlace -/
def sh143 (q0 : SPoint) : Option (Bool) := Option.bind (sh136 q0.X 0 2000) fun x3 => Option.bind (bif x3 then (Option.bind (sh136 q0.Y 0 2000) fun x5 => some x5) else (some false)) fun cb4 => (some cb4)
def T143 (r : Bool) (v : Value) (rs : List Own) : Prop := v = rets [.bool r] ∧ rs = []
set_option maxRecDepth 100000 in
theorem c143 {w : World} {q0 : SPoint} {r : Bool} (hres : sh143 q0 = some r) : Calls Go.Proofs.Try.prog 143 [.agg #[.int .i64 q0.X, .int .i64 q0.Y]].toArray w (Ret w (T143 r)) := by
  unfold sh143 at hres
  refine calls_of (n := 11) (M := []) (es := []) Go.Proofs.Try.func143 rfl rfl rfl (Sep.nil _ _ _) ?_
  refine JX.seq ?_
  refine JX.region ?_
  refine JL.eff (ef_box rfl rfl) rfl ?_
  rintro _ _ ⟨g1, rfl, rfl⟩
  refine JL.val (yl_assign rfl) rfl ?_
  refine JL.nil ?_
  refine JE.code ?_
  refine JX.seq ?_
  refine JX.region ?_
  refine JL.val (yl_fieldAt (a := some _) Go.Proofs.Try.underlying93 rfl i2 i2n rfl rfl) rfl ?_
  refine JL.val (yl_load1 Go.Proofs.Try.underlying2 rfl rfl (fun w hC => rd_box hC 0 rfl) rfl) rfl ?_
  obtain ⟨x3, hx3, hres⟩ := bind_some hres
  refine JL.eff (ef_call (T := T136 x3) Go.Proofs.Try.func136 rfl (by kernel_rfl) rfl (fun w hC => c136  hx3)) rfl ?_
  rintro _ _ ⟨_, ⟨rfl, rfl⟩, rfl⟩
  refine JL.val (yl_move rfl) rfl ?_
  obtain ⟨cb4, hcb4, hres⟩ := bind_some hres
  refine JL.cut (K := fun J => J [(10, .bool cb4)] []) 4 ?_ ?_
  · refine JL.val (yl_assign rfl) rfl ?_
    refine JL.nil ?_
    refine JE.weak (env' := [(2, .bool cb4)]) (es' := []) [] ?_ ⟨rfl, trivial⟩ (by decide) rfl
    refine JE.code ?_
    refine JX.ret ?_
    obtain rfl := Option.some.inj hres
    refine JE.ret (rs := [.tmp 2]) (vs := [.bool cb4]) rfl ⟨rfl, trivial⟩ ?_
    exact fun w' hb hs => ⟨_, _, ⟨rfl, rfl⟩, rfl, hb, hs.sel [] _ (by decide) rfl⟩
  · intro K
    rcases cond_some hcb4 with ⟨hb, hres⟩ | ⟨hb, hres⟩
    · refine JL.set (d := 6) (v := .bool true) (congrArg (fun b => some (Value.bool b)) hb) ?_
      refine JL.gval rfl rfl (yl_fieldAt (a := some _) Go.Proofs.Try.underlying93 rfl i2 i2n rfl rfl) rfl ?_
      refine JL.gval rfl rfl (yl_load1 Go.Proofs.Try.underlying2 rfl rfl (fun w hC => rd_box hC 0 rfl) rfl) rfl ?_
      obtain ⟨x5, hx5, hres⟩ := bind_some hres
      refine JL.geff rfl rfl (ef_call (T := T136 x5) Go.Proofs.Try.func136 rfl (by kernel_rfl) rfl (fun w hC => c136  hx5)) rfl ?_
      rintro _ _ ⟨_, ⟨rfl, rfl⟩, rfl⟩
      refine JL.val (yl_pick_true rfl rfl) rfl ?_
      have he := Option.some.inj hres
      exact JL.weak [] K ⟨(by rw [← he]; rfl), trivial⟩ (by decide) rfl
    · refine JL.set (d := 6) (v := .bool false) (congrArg (fun b => some (Value.bool b)) hb) ?_
      refine JL.gskip rfl rfl rfl rfl ?_
      refine JL.gskip rfl rfl rfl rfl ?_
      refine JL.gskip rfl rfl rfl rfl ?_
      refine JL.val (yl_pick_false rfl rfl) rfl ?_
      have he := Option.some.inj hres
      exact JL.weak [] K ⟨(by rw [← he]; rfl), trivial⟩ (by decide) rfl

/- impl.ValidStroke$1 -/
def sh142 (q0 : SPoint) : Option (Bool) := Option.bind (sh143 q0) fun x3 => some !x3
def T142 (r : Bool) (v : Value) (rs : List Own) : Prop := v = rets [.bool r] ∧ rs = []
set_option maxRecDepth 100000 in
theorem c142 {w : World} {q0 : SPoint} {r : Bool} (hres : sh142 q0 = some r) : Calls Go.Proofs.Try.prog 142 [.agg #[.int .i64 q0.X, .int .i64 q0.Y]].toArray w (Ret w (T142 r)) := by
  unfold sh142 at hres
  refine calls_of (n := 6) (M := []) (es := []) Go.Proofs.Try.func142 rfl rfl rfl (Sep.nil _ _ _) ?_
  refine JX.seq ?_
  refine JX.region ?_
  refine JL.eff (ef_box rfl rfl) rfl ?_
  rintro _ _ ⟨g1, rfl, rfl⟩
  refine JL.val (yl_assign rfl) rfl ?_
  refine JL.nil ?_
  refine JE.code ?_
  refine JX.seq ?_
  refine JX.region ?_
  refine JL.val (yl_loadn Go.Proofs.Try.underlying93 rfl i93 rfl (fun w hC => rd_box hC 0 rfl) rfl (i93s).symm i93p) rfl ?_
  obtain ⟨x3, hx3, hres⟩ := bind_some hres
  refine JL.eff (ef_call (vs := [.agg #[.int .i64 q0.X, .int .i64 q0.Y]]) (T := T143 x3) Go.Proofs.Try.func143 rfl (by kernel_rfl) rfl (fun w hC => c143 (q0 := q0) hx3)) rfl ?_
  rintro _ _ ⟨_, ⟨rfl, rfl⟩, rfl⟩
  refine JL.val (yl_not rfl) rfl ?_
  refine JL.val (yl_assign rfl) rfl ?_
  refine JL.nil ?_
  refine JE.weak (env' := [(2, .bool !x3)]) (es' := []) [] ?_ ⟨rfl, trivial⟩ (by decide) rfl
  refine JE.code ?_
  refine JX.ret ?_
  obtain rfl := Option.some.inj hres
  refine JE.ret (rs := [.tmp 2]) (vs := [.bool !x3]) rfl ⟨rfl, trivial⟩ ?_
  exact fun w' hb hs => ⟨_, _, ⟨rfl, rfl⟩, rfl, hb, hs.sel [] _ (by decide) rfl⟩

/- slices.IndexFunc[[]impl.Point,impl.Point] -/
def sh182f142_1 (q0 : List SPoint) : Int → Option (Int ⊕ (Unit ⊕ Int))
  | x1 => bif decide (x1 < (q0.length : Int)) then (Option.bind (getI q0 x1) fun x2 => Option.bind (sh142 x2) fun x3 => bif x3 then (some (.inr (.inr x1))) else (some (.inl (w64 (x1 + 1))))) else (some (.inr (.inl ())))
def sh182f142 (q0 : List SPoint) : Option (Int) := Option.bind (iter (sh182f142_1 q0) 0) fun y1 => elimS y1 (fun r => some r) fun b1 => (some (-1))
def T182f142 (r : Int) (v : Value) (rs : List Own) : Prop := v = rets [.int .i64 r] ∧ rs = []
set_option maxRecDepth 100000 in
theorem c182f142 {w : World} {q0 : List SPoint} {a_0 : Option Addr} {n_0 c_0 : Nat} (g_0 : Rd w a_0 (eSPoint.fl q0)) (l_0 : q0.length = n_0) (k_0 : n_0 ≤ c_0) {r : Int} (hres : sh182f142 q0 = some r) : Calls Go.Proofs.Try.prog 182 [.slice a_0 n_0 c_0, .func (.func 142) #[] #[]].toArray w (Ret w (T182f142 r)) := by
  subst l_0
  unfold sh182f142 at hres
  refine calls_of (n := 19) (M := []) (es := []) Go.Proofs.Try.func182 rfl rfl rfl (Sep.nil _ _ _) ?_
  refine JX.seq ?_
  refine JX.region ?_
  refine JL.val (yl_assign rfl) rfl ?_
  refine JL.nil ?_
  refine JE.code ?_
  refine JX.seq ?_
  refine JX.seq ?_
  refine JX.region ?_
  refine JL.val (yl_move rfl) rfl ?_
  refine JL.val (yl_len_slice Go.Proofs.Try.underlying22 rfl) rfl ?_
  refine JL.val (yl_move rfl) rfl ?_
  refine JL.nil ?_
  refine JE.code ?_
  refine JX.block ?_
  obtain ⟨y1, hy1, hresO1⟩ := bind_some hres
  refine JX.loop (I := fun (s1 : Int) aa ww => St w [] 19 [(0, .slice a_0 q0.length c_0), (1, .func (.func 142) #[] #[]), (7, .int .i64 (q0.length : Int)), (8, .int .i64 s1)] [] aa ww) (sh182f142_1 q0) hy1 (fun a w h => h.weak ⟨rfl, rfl, rfl, rfl, trivial⟩ [] (by decide) rfl) ?_
  rintro x1 o1 hres hox1 aa ww hS
  refine (?_ : JX Go.Proofs.Try.prog w [] 19 _ _ [(0, .slice a_0 q0.length c_0), (1, .func (.func 142) #[] #[]), (7, .int .i64 (q0.length : Int)), (8, .int .i64 x1)] [] _) aa ww hS
  clear hS
  unfold sh182f142_1 at hres
  refine JX.seq ?_
  refine JX.region ?_
  refine JL.val (yl_lss rfl rfl) rfl ?_
  refine JL.nil ?_
  refine JE.code ?_
  refine JX.seq ?_
  rcases cond_some hres with ⟨hb, hres⟩ | ⟨hb, hres⟩
  · refine JX.condT rfl hb ?_
    refine JX.skip ?_
    refine JE.code ?_
    refine JX.seq ?_
    refine JX.block ?_
    refine JX.seq ?_
    refine JX.region ?_
    refine JL.val (yl_move rfl) rfl ?_
    refine JL.val (yl_assign rfl) rfl ?_
    refine JL.nil ?_
    refine JE.code ?_
    refine JX.seq ?_
    refine JX.region ?_
    refine JL.val (yl_move rfl) rfl ?_
    refine JL.val (yl_move rfl) rfl ?_
    refine JL.val (yl_move rfl) rfl ?_
    obtain ⟨x2, hx2, hres⟩ := bind_some hres
    refine JL.val (yl_idxT Go.Proofs.Try.underlying22 i93 i93s rfl rfl hx2 rfl (fun w hC => rd_arg g_0 hC)) rfl ?_
    refine JL.val (yl_loadTn Go.Proofs.Try.underlying93 rfl i93 i93s rfl hx2 (fun w hC => rd_arg g_0 hC)) rfl ?_
    obtain ⟨x3, hx3, hres⟩ := bind_some hres
    refine JL.eff (ef_callv (vs := [.agg #[.int .i64 x2.X, .int .i64 x2.Y]]) (T := T142 x3) rfl Go.Proofs.Try.func142 rfl (by kernel_rfl) rfl (fun w hC => c142 (q0 := x2) hx3)) rfl ?_
    rintro _ _ ⟨_, ⟨rfl, rfl⟩, rfl⟩
    refine JL.nil ?_
    refine JE.weak (env' := [(0, .slice a_0 q0.length c_0), (1, .func (.func 142) #[] #[]), (5, .int .i64 x1), (7, .int .i64 (q0.length : Int)), (8, .int .i64 x1), (16, .bool x3)]) (es' := []) [] ?_ ⟨rfl, rfl, rfl, rfl, rfl, rfl, trivial⟩ (by decide) rfl
    refine JE.code ?_
    rcases cond_some hres with ⟨hb, hres⟩ | ⟨hb, hres⟩
    · refine JX.condT rfl hb ?_
      refine JX.seq ?_
      refine JX.region ?_
      refine JL.val (yl_move rfl) rfl ?_
      refine JL.val (yl_assign rfl) rfl ?_
      refine JL.nil ?_
      refine JE.code ?_
      refine JX.ret ?_
      refine JE.qbr ?_
      refine JE.qbr ?_
      have hres := elimS_inr hresO1 (hox1 _ (Option.some.inj hres).symm)
      obtain rfl := Option.some.inj hres
      refine JE.ret (rs := [.tmp 4]) (vs := [.int .i64 x1]) rfl ⟨rfl, trivial⟩ ?_
      exact fun w' hb hs => ⟨_, _, ⟨rfl, rfl⟩, rfl, hb, hs.sel [] _ (by decide) rfl⟩
    · refine JX.condF rfl hb ?_
      refine JX.skip ?_
      refine JE.code ?_
      refine JX.region ?_
      refine JL.val (yl_add rfl rfl) rfl ?_
      refine JL.val (yl_move rfl) rfl ?_
      refine JL.nil ?_
      refine JE.cont hres ?_
      exact fun a w h => h.weak ⟨rfl, rfl, rfl, rfl, trivial⟩ [] (by decide) rfl
  · refine JX.condF rfl hb ?_
    refine JX.exit ?_
    refine JE.qb rfl ?_
    obtain ⟨b1, hb1⟩ : ∃ b : Unit, b = () := ⟨_, rfl⟩
    have hy1 : Sum.inl b1 = y1 := by rw [hb1]; exact hox1 _ (Option.some.inj hres).symm
    have hres := elimS_inl hresO1 hy1
    refine JE.weak (env' := []) (es' := []) [] ?_ trivial (by decide) (by subst hb1; rfl)
    refine JE.code ?_
    refine JX.seq ?_
    refine JX.region ?_
    refine JL.val (yl_assign rfl) rfl ?_
    refine JL.nil ?_
    refine JE.code ?_
    refine JX.ret ?_
    obtain rfl := Option.some.inj hres
    refine JE.ret (rs := [.tmp 4]) (vs := [.int .i64 (-1)]) rfl ⟨rfl, trivial⟩ ?_
    exact fun w' hb hs => ⟨_, _, ⟨rfl, rfl⟩, rfl, hb, hs.sel [] _ (by decide) rfl⟩

/- slices.ContainsFunc[[]impl.Point,impl.Point] -/
def sh141f142 (q0 : List SPoint) : Option (Bool) := Option.bind (sh182f142 q0) fun x1 => some (decide (0 ≤ x1))
def T141f142 (r : Bool) (v : Value) (rs : List Own) : Prop := v = rets [.bool r] ∧ rs = []
set_option maxRecDepth 100000 in
theorem c141f142 {w : World} {q0 : List SPoint} {a_0 : Option Addr} {n_0 c_0 : Nat} (g_0 : Rd w a_0 (eSPoint.fl q0)) (l_0 : q0.length = n_0) (k_0 : n_0 ≤ c_0) {r : Bool} (hres : sh141f142 q0 = some r) : Calls Go.Proofs.Try.prog 141 [.slice a_0 n_0 c_0, .func (.func 142) #[] #[]].toArray w (Ret w (T141f142 r)) := by
  subst l_0
  unfold sh141f142 at hres
  refine calls_of (n := 9) (M := []) (es := []) Go.Proofs.Try.func141 rfl rfl rfl (Sep.nil _ _ _) ?_
  refine JX.seq ?_
  refine JX.region ?_
  refine JL.val (yl_assign rfl) rfl ?_
  refine JL.nil ?_
  refine JE.code ?_
  refine JX.seq ?_
  refine JX.region ?_
  refine JL.val (yl_move rfl) rfl ?_
  refine JL.val (yl_move rfl) rfl ?_
  obtain ⟨x1, hx1, hres⟩ := bind_some hres
  refine JL.eff (ef_call (T := T182f142 x1) Go.Proofs.Try.func182 rfl (by kernel_rfl) rfl (fun w hC => c182f142 (rd_arg g_0 hC) rfl k_0 hx1)) rfl ?_
  rintro _ _ ⟨_, ⟨rfl, rfl⟩, rfl⟩
  refine JL.val (yl_geq rfl rfl) rfl ?_
  refine JL.val (yl_assign rfl) rfl ?_
  refine JL.nil ?_
  refine JE.weak (env' := [(4, .bool (decide (0 ≤ x1)))]) (es' := []) [] ?_ ⟨rfl, trivial⟩ (by decide) rfl
  refine JE.code ?_
  refine JX.ret ?_
  obtain rfl := Option.some.inj hres
  refine JE.ret (rs := [.tmp 4]) (vs := [.bool (decide (0 ≤ x1))]) rfl ⟨rfl, trivial⟩ ?_
  exact fun w' hb hs => ⟨_, _, ⟨rfl, rfl⟩, rfl, hb, hs.sel [] _ (by decide) rfl⟩

/- impl.ValidStroke -/
def sh83 (q0 : List SPoint) : Option (Bool) := Option.bind (sh136 (q0.length : Int) 1 60) fun x1 => Option.bind (bif x1 then (Option.bind (sh141f142 q0) fun x3 => some !x3) else (some false)) fun cb2 => (some cb2)
def T83 (r : Bool) (v : Value) (rs : List Own) : Prop := v = rets [.bool r] ∧ rs = []
set_option maxRecDepth 100000 in
theorem c83 {w : World} {q0 : List SPoint} {a_0 : Option Addr} {n_0 c_0 : Nat} (g_0 : Rd w a_0 (eSPoint.fl q0)) (l_0 : q0.length = n_0) (k_0 : n_0 ≤ c_0) {r : Bool} (hres : sh83 q0 = some r) : Calls Go.Proofs.Try.prog 83 [.slice a_0 n_0 c_0].toArray w (Ret w (T83 r)) := by
  subst l_0
  unfold sh83 at hres
  refine calls_of (n := 11) (M := []) (es := []) Go.Proofs.Try.func83 rfl rfl rfl (Sep.nil _ _ _) ?_
  refine JX.seq ?_
  refine JX.region ?_
  refine JL.val (yl_assign rfl) rfl ?_
  refine JL.nil ?_
  refine JE.code ?_
  refine JX.seq ?_
  refine JX.region ?_
  refine JL.val (yl_move rfl) rfl ?_
  refine JL.val (yl_len_slice Go.Proofs.Try.underlying22 rfl) rfl ?_
  obtain ⟨x1, hx1, hres⟩ := bind_some hres
  refine JL.eff (ef_call (T := T136 x1) Go.Proofs.Try.func136 rfl (by kernel_rfl) rfl (fun w hC => c136  hx1)) rfl ?_
  rintro _ _ ⟨_, ⟨rfl, rfl⟩, rfl⟩
  refine JL.val (yl_move rfl) rfl ?_
  obtain ⟨cb2, hcb2, hres⟩ := bind_some hres
  refine JL.cut (K := fun J => J [(10, .bool cb2)] []) 4 ?_ ?_
  · refine JL.val (yl_assign rfl) rfl ?_
    refine JL.nil ?_
    refine JE.weak (env' := [(2, .bool cb2)]) (es' := []) [] ?_ ⟨rfl, trivial⟩ (by decide) rfl
    refine JE.code ?_
    refine JX.ret ?_
    obtain rfl := Option.some.inj hres
    refine JE.ret (rs := [.tmp 2]) (vs := [.bool cb2]) rfl ⟨rfl, trivial⟩ ?_
    exact fun w' hb hs => ⟨_, _, ⟨rfl, rfl⟩, rfl, hb, hs.sel [] _ (by decide) rfl⟩
  · intro K
    rcases cond_some hcb2 with ⟨hb, hres⟩ | ⟨hb, hres⟩
    · refine JL.set (d := 6) (v := .bool true) (congrArg (fun b => some (Value.bool b)) hb) ?_
      refine JL.gval rfl rfl (yl_move rfl) rfl ?_
      obtain ⟨x3, hx3, hres⟩ := bind_some hres
      refine JL.geff rfl rfl (ef_call (T := T141f142 x3) Go.Proofs.Try.func141 rfl (by kernel_rfl) rfl (fun w hC => c141f142 (rd_arg g_0 hC) rfl k_0 hx3)) rfl ?_
      rintro _ _ ⟨_, ⟨rfl, rfl⟩, rfl⟩
      refine JL.gval rfl rfl (yl_not rfl) rfl ?_
      refine JL.val (yl_pick_true rfl rfl) rfl ?_
      have he := Option.some.inj hres
      exact JL.weak [] K ⟨(by rw [← he]; rfl), trivial⟩ (by decide) rfl
    · refine JL.set (d := 6) (v := .bool false) (congrArg (fun b => some (Value.bool b)) hb) ?_
      refine JL.gskip rfl rfl rfl rfl ?_
      refine JL.gskip rfl rfl rfl rfl ?_
      refine JL.gskip rfl rfl rfl rfl ?_
      refine JL.val (yl_pick_false rfl rfl) rfl ?_
      have he := Option.some.inj hres
      exact JL.weak [] K ⟨(by rw [← he]; rfl), trivial⟩ (by decide) rfl

/- impl.validSize -/
def sh152 (q0 : Int) (q1 : Int) : Option (Bool) := Option.bind (sh136 q0 1 8) fun x1 => Option.bind (bif x1 then (Option.bind (sh136 q1 1 8) fun x3 => some x3) else (some false)) fun cb2 => (some cb2)
def T152 (r : Bool) (v : Value) (rs : List Own) : Prop := v = rets [.bool r] ∧ rs = []
set_option maxRecDepth 100000 in
theorem c152 {w : World} {q0 : Int} {q1 : Int} {r : Bool} (hres : sh152 q0 q1 = some r) : Calls Go.Proofs.Try.prog 152 [.int .i64 q0, .int .i64 q1].toArray w (Ret w (T152 r)) := by
  unfold sh152 at hres
  refine calls_of (n := 11) (M := []) (es := []) Go.Proofs.Try.func152 rfl rfl rfl (Sep.nil _ _ _) ?_
  refine JX.seq ?_
  refine JX.region ?_
  refine JL.val (yl_assign rfl) rfl ?_
  refine JL.nil ?_
  refine JE.code ?_
  refine JX.seq ?_
  refine JX.region ?_
  refine JL.val (yl_move rfl) rfl ?_
  obtain ⟨x1, hx1, hres⟩ := bind_some hres
  refine JL.eff (ef_call (T := T136 x1) Go.Proofs.Try.func136 rfl (by kernel_rfl) rfl (fun w hC => c136  hx1)) rfl ?_
  rintro _ _ ⟨_, ⟨rfl, rfl⟩, rfl⟩
  refine JL.val (yl_move rfl) rfl ?_
  obtain ⟨cb2, hcb2, hres⟩ := bind_some hres
  refine JL.cut (K := fun J => J [(10, .bool cb2)] []) 3 ?_ ?_
  · refine JL.val (yl_assign rfl) rfl ?_
    refine JL.nil ?_
    refine JE.weak (env' := [(4, .bool cb2)]) (es' := []) [] ?_ ⟨rfl, trivial⟩ (by decide) rfl
    refine JE.code ?_
    refine JX.ret ?_
    obtain rfl := Option.some.inj hres
    refine JE.ret (rs := [.tmp 4]) (vs := [.bool cb2]) rfl ⟨rfl, trivial⟩ ?_
    exact fun w' hb hs => ⟨_, _, ⟨rfl, rfl⟩, rfl, hb, hs.sel [] _ (by decide) rfl⟩
  · intro K
    rcases cond_some hcb2 with ⟨hb, hres⟩ | ⟨hb, hres⟩
    · refine JL.set (d := 7) (v := .bool true) (congrArg (fun b => some (Value.bool b)) hb) ?_
      refine JL.gval rfl rfl (yl_move rfl) rfl ?_
      obtain ⟨x3, hx3, hres⟩ := bind_some hres
      refine JL.geff rfl rfl (ef_call (T := T136 x3) Go.Proofs.Try.func136 rfl (by kernel_rfl) rfl (fun w hC => c136  hx3)) rfl ?_
      rintro _ _ ⟨_, ⟨rfl, rfl⟩, rfl⟩
      refine JL.val (yl_pick_true rfl rfl) rfl ?_
      have he := Option.some.inj hres
      exact JL.weak [] K ⟨(by rw [← he]; rfl), trivial⟩ (by decide) rfl
    · refine JL.set (d := 7) (v := .bool false) (congrArg (fun b => some (Value.bool b)) hb) ?_
      refine JL.gskip rfl rfl rfl rfl ?_
      refine JL.gskip rfl rfl rfl rfl ?_
      refine JL.val (yl_pick_false rfl rfl) rfl ?_
      have he := Option.some.inj hres
      exact JL.weak [] K ⟨(by rw [← he]; rfl), trivial⟩ (by decide) rfl

/- impl.innerPoints -/
def sh153 (q0 : Int) (q1 : Int) : Option (Int) := some (w64 ((w64 (q0 * (w64 (q1 - 1)))) + (w64 (q1 * (w64 (q0 - 1))))))
def T153 (r : Int) (v : Value) (rs : List Own) : Prop := v = rets [.int .i64 r] ∧ rs = []
set_option maxRecDepth 100000 in
theorem c153 {w : World} {q0 : Int} {q1 : Int} {r : Int} (hres : sh153 q0 q1 = some r) : Calls Go.Proofs.Try.prog 153 [.int .i64 q0, .int .i64 q1].toArray w (Ret w (T153 r)) := by
  unfold sh153 at hres
  refine calls_of (n := 14) (M := []) (es := []) Go.Proofs.Try.func153 rfl rfl rfl (Sep.nil _ _ _) ?_
  refine JX.seq ?_
  refine JX.region ?_
  refine JL.val (yl_assign rfl) rfl ?_
  refine JL.nil ?_
  refine JE.code ?_
  refine JX.seq ?_
  refine JX.region ?_
  refine JL.val (yl_move rfl) rfl ?_
  refine JL.val (yl_move rfl) rfl ?_
  refine JL.val (yl_sub rfl rfl) rfl ?_
  refine JL.val (yl_mul rfl rfl) rfl ?_
  refine JL.val (yl_move rfl) rfl ?_
  refine JL.val (yl_move rfl) rfl ?_
  refine JL.val (yl_sub rfl rfl) rfl ?_
  refine JL.val (yl_mul rfl rfl) rfl ?_
  refine JL.val (yl_add rfl rfl) rfl ?_
  refine JL.val (yl_assign rfl) rfl ?_
  refine JL.nil ?_
  refine JE.weak (env' := [(4, .int .i64 (w64 ((w64 (q0 * (w64 (q1 - 1)))) + (w64 (q1 * (w64 (q0 - 1)))))))]) (es' := []) [] ?_ ⟨rfl, trivial⟩ (by decide) rfl
  refine JE.code ?_
  refine JX.ret ?_
  obtain rfl := Option.some.inj hres
  refine JE.ret (rs := [.tmp 4]) (vs := [.int .i64 (w64 ((w64 (q0 * (w64 (q1 - 1)))) + (w64 (q1 * (w64 (q0 - 1))))))]) rfl ⟨rfl, trivial⟩ ?_
  exact fun w' hb hs => ⟨_, _, ⟨rfl, rfl⟩, rfl, hb, hs.sel [] _ (by decide) rfl⟩

/- impl.validBreak -/
def sh154 (q0 : Int) : Option (Bool) := Option.bind (sh136 q0 0 2) fun x1 => some x1
def T154 (r : Bool) (v : Value) (rs : List Own) : Prop := v = rets [.bool r] ∧ rs = []
set_option maxRecDepth 100000 in
theorem c154 {w : World} {q0 : Int} {r : Bool} (hres : sh154 q0 = some r) : Calls Go.Proofs.Try.prog 154 [.int .i64 q0].toArray w (Ret w (T154 r)) := by
  unfold sh154 at hres
  refine calls_of (n := 5) (M := []) (es := []) Go.Proofs.Try.func154 rfl rfl rfl (Sep.nil _ _ _) ?_
  refine JX.seq ?_
  refine JX.region ?_
  refine JL.val (yl_assign rfl) rfl ?_
  refine JL.nil ?_
  refine JE.code ?_
  refine JX.seq ?_
  refine JX.region ?_
  refine JL.val (yl_move rfl) rfl ?_
  obtain ⟨x1, hx1, hres⟩ := bind_some hres
  refine JL.eff (ef_call (T := T136 x1) Go.Proofs.Try.func136 rfl (by kernel_rfl) rfl (fun w hC => c136  hx1)) rfl ?_
  rintro _ _ ⟨_, ⟨rfl, rfl⟩, rfl⟩
  refine JL.val (yl_assign rfl) rfl ?_
  refine JL.nil ?_
  refine JE.code ?_
  refine JX.ret ?_
  obtain rfl := Option.some.inj hres
  refine JE.ret (rs := [.tmp 2]) (vs := [.bool x1]) rfl ⟨rfl, trivial⟩ ?_
  exact fun w' hb hs => ⟨_, _, ⟨rfl, rfl⟩, rfl, hb, hs.sel [] _ (by decide) rfl⟩

/- impl.ValidPanel -/
def sh99_1 (q0 : SPanel) : Int → Option (Int ⊕ (Unit ⊕ Bool))
  | x7 => bif decide (x7 < (q0.Breaks.length : Int)) then (Option.bind (getI q0.Breaks x7) fun x8 => Option.bind (sh154 x8) fun x9 => bif !x9 then (some (.inr (.inr false))) else (some (.inl (w64 (x7 + 1))))) else (some (.inr (.inl ())))
def sh99 (q0 : SPanel) : Option (Bool) := Option.bind (sh152 q0.W q0.H) fun x4 => Option.bind (bif !x4 then (some true) else (Option.bind (sh153 q0.W q0.H) fun x6 => some ((q0.Breaks.length : Int) != x6))) fun cb5 => (bif cb5 then (some false) else (Option.bind (iter (sh99_1 q0) 0) fun y1 => elimS y1 (fun r => some r) fun b1 => (some true)))
def T99 (r : Bool) (v : Value) (rs : List Own) : Prop := v = rets [.bool r] ∧ rs = []
set_option maxRecDepth 100000 in
theorem c99 {w : World} {q0 : SPanel} {a_0_2 : Option Addr} {n_0_2 c_0_2 : Nat} (g_0_2 : Rd w a_0_2 (eI64.fl q0.Breaks)) (l_0_2 : q0.Breaks.length = n_0_2) (k_0_2 : n_0_2 ≤ c_0_2) {r : Bool} (hres : sh99 q0 = some r) : Calls Go.Proofs.Try.prog 99 [.agg #[.int .i64 q0.W, .int .i64 q0.H, .slice a_0_2 n_0_2 c_0_2]].toArray w (Ret w (T99 r)) := by
  subst l_0_2
  unfold sh99 at hres
  refine calls_of (n := 33) (M := []) (es := []) Go.Proofs.Try.func99 rfl rfl rfl (Sep.nil _ _ _) ?_
  refine JX.seq ?_
  refine JX.region ?_
  refine JL.eff (ef_box rfl rfl) rfl ?_
  rintro _ _ ⟨g1, rfl, rfl⟩
  refine JL.val (yl_assign rfl) rfl ?_
  refine JL.nil ?_
  refine JE.code ?_
  refine JX.seq ?_
  refine JX.seq ?_
  refine JX.drawH [(0, .pure), (1, .read), (2, .pure), (3, .read), (4, .must), (5, .pure), (6, .pure), (7, .pure), (8, .read), (9, .pure), (10, .pure), (11, .read), (12, .pure), (13, .read), (14, .must), (15, .pure), (16, .pure)] [] [] [0] [] [boxO 39 g1 [.int .i64 q0.W, .int .i64 q0.H, .slice a_0_2 q0.Breaks.length c_0_2]] mixedP (by kernel_rfl) (by kernel_rfl) (by decide) rfl rfl ?_
  intro wrr3 Nr3 hFr3
  refine JH.pure rfl (yl_fieldAt (a := some _) Go.Proofs.Try.underlying39 rfl i2 i2n rfl rfl) rfl ?_
  refine JH.read rfl (yl_load1 Go.Proofs.Try.underlying2 rfl rfl (fun w hw => hFr3.box 0 rfl rfl hw) rfl) rfl ?_
  refine JH.pure rfl (yl_fieldAt (a := some _) Go.Proofs.Try.underlying39 rfl i2 i2n rfl rfl) rfl ?_
  refine JH.read rfl (yl_load1 Go.Proofs.Try.underlying2 rfl rfl (fun w hw => hFr3.box 0 rfl rfl hw) rfl) rfl ?_
  obtain ⟨x4, hx4, hres⟩ := bind_some hres
  refine JH.must rfl (ef_call (T := T152 x4) Go.Proofs.Try.func152 rfl (by kernel_rfl) rfl (fun w hC => c152  hx4)) rfl rfl ?_
  rintro _ _ ⟨_, ⟨rfl, rfl⟩, rfl⟩
  refine JH.pure rfl (yl_not rfl) rfl ?_
  refine JH.pure rfl (yl_move rfl) rfl ?_
  obtain ⟨cb5, hcb5, hres⟩ := bind_some hres
  refine JH.cut (K := fun J => J [(1, ptrAt (some ⟨g1, 0, none⟩) 0), (21, .bool cb5)] []) 10 ?_ ?_
  · refine JH.nil ?_
    refine JE.weak (env' := [(1, ptrAt (some ⟨g1, 0, none⟩) 0), (21, .bool cb5)]) (es' := [boxO 39 g1 [.int .i64 q0.W, .int .i64 q0.H, .slice a_0_2 q0.Breaks.length c_0_2]]) [0] ?_ ⟨rfl, rfl, trivial⟩ (by decide) rfl
    refine JE.code ?_
    rcases cond_some hres with ⟨hb, hres⟩ | ⟨hb, hres⟩
    · refine JX.condT rfl hb ?_
      refine JX.seq ?_
      refine JX.region ?_
      refine JL.val (yl_assign rfl) rfl ?_
      refine JL.nil ?_
      refine JE.weak (env' := [(2, .bool false)]) (es' := []) [] ?_ ⟨rfl, trivial⟩ (by decide) rfl
      refine JE.code ?_
      refine JX.ret ?_
      obtain rfl := Option.some.inj hres
      refine JE.ret (rs := [.tmp 2]) (vs := [.bool false]) rfl ⟨rfl, trivial⟩ ?_
      exact fun w' hb hs => ⟨_, _, ⟨rfl, rfl⟩, rfl, hb, hs.sel [] _ (by decide) rfl⟩
    · refine JX.condF rfl hb ?_
      refine JX.skip ?_
      refine JE.code ?_
      refine JX.seq ?_
      refine JX.seq ?_
      refine JX.region ?_
      refine JL.val (yl_fieldAt (a := some _) Go.Proofs.Try.underlying39 rfl i33 i33n rfl rfl) rfl ?_
      refine JL.val (yl_load1 Go.Proofs.Try.underlying33 rfl rfl (fun w hC => rd_box hC 0 rfl) rfl) rfl ?_
      refine JL.val (yl_len_slice Go.Proofs.Try.underlying33 rfl) rfl ?_
      refine JL.val (yl_move rfl) rfl ?_
      refine JL.nil ?_
      refine JE.weak (env' := [(23, .slice a_0_2 q0.Breaks.length c_0_2), (24, .int .i64 (q0.Breaks.length : Int)), (25, .int .i64 0)]) (es' := []) [] ?_ ⟨rfl, rfl, rfl, trivial⟩ (by decide) rfl
      refine JE.code ?_
      refine JX.block ?_
      obtain ⟨y1, hy1, hresO1⟩ := bind_some hres
      refine JX.loop (I := fun (s1 : Int) aa ww => St w [] 33 [(23, .slice a_0_2 q0.Breaks.length c_0_2), (24, .int .i64 (q0.Breaks.length : Int)), (25, .int .i64 s1)] [] aa ww) (sh99_1 q0) hy1 (fun a w h => h.weak ⟨rfl, rfl, rfl, trivial⟩ [] (by decide) rfl) ?_
      rintro x7 o1 hres hox1 aa ww hS
      refine (?_ : JX Go.Proofs.Try.prog w [] 33 _ _ [(23, .slice a_0_2 q0.Breaks.length c_0_2), (24, .int .i64 (q0.Breaks.length : Int)), (25, .int .i64 x7)] [] _) aa ww hS
      clear hS
      unfold sh99_1 at hres
      refine JX.seq ?_
      refine JX.region ?_
      refine JL.val (yl_lss rfl rfl) rfl ?_
      refine JL.nil ?_
      refine JE.code ?_
      refine JX.seq ?_
      rcases cond_some hres with ⟨hb, hres⟩ | ⟨hb, hres⟩
      · refine JX.condT rfl hb ?_
        refine JX.skip ?_
        refine JE.code ?_
        refine JX.seq ?_
        refine JX.block ?_
        refine JX.seq ?_
        refine JX.region ?_
        obtain ⟨x8, hx8, hres⟩ := bind_some hres
        refine JL.val (yl_idxT Go.Proofs.Try.underlying33 i2 i2s rfl rfl hx8 rfl (fun w hC => rd_arg g_0_2 hC)) rfl ?_
        refine JL.val (yl_loadT0 Go.Proofs.Try.underlying2 rfl rfl hx8 (fun w hC => rd_arg g_0_2 hC) rfl) rfl ?_
        refine JL.val (yl_assign rfl) rfl ?_
        refine JL.nil ?_
        refine JE.code ?_
        refine JX.seq ?_
        refine JX.region ?_
        refine JL.val (yl_move rfl) rfl ?_
        obtain ⟨x9, hx9, hres⟩ := bind_some hres
        refine JL.eff (ef_call (T := T154 x9) Go.Proofs.Try.func154 rfl (by kernel_rfl) rfl (fun w hC => c154  hx9)) rfl ?_
        rintro _ _ ⟨_, ⟨rfl, rfl⟩, rfl⟩
        refine JL.val (yl_not rfl) rfl ?_
        refine JL.nil ?_
        refine JE.code ?_
        rcases cond_some hres with ⟨hb, hres⟩ | ⟨hb, hres⟩
        · refine JX.condT rfl hb ?_
          refine JX.seq ?_
          refine JX.region ?_
          refine JL.val (yl_assign rfl) rfl ?_
          refine JL.nil ?_
          refine JE.code ?_
          refine JX.ret ?_
          refine JE.qbr ?_
          refine JE.qbr ?_
          have hres := elimS_inr hresO1 (hox1 _ (Option.some.inj hres).symm)
          obtain rfl := Option.some.inj hres
          refine JE.ret (rs := [.tmp 2]) (vs := [.bool false]) rfl ⟨rfl, trivial⟩ ?_
          exact fun w' hb hs => ⟨_, _, ⟨rfl, rfl⟩, rfl, hb, hs.sel [] _ (by decide) rfl⟩
        · refine JX.condF rfl hb ?_
          refine JX.skip ?_
          refine JE.code ?_
          refine JX.region ?_
          refine JL.val (yl_add rfl rfl) rfl ?_
          refine JL.val (yl_move rfl) rfl ?_
          refine JL.nil ?_
          refine JE.cont hres ?_
          exact fun a w h => h.weak ⟨rfl, rfl, rfl, trivial⟩ [] (by decide) rfl
      · refine JX.condF rfl hb ?_
        refine JX.exit ?_
        refine JE.qb rfl ?_
        obtain ⟨b1, hb1⟩ : ∃ b : Unit, b = () := ⟨_, rfl⟩
        have hy1 : Sum.inl b1 = y1 := by rw [hb1]; exact hox1 _ (Option.some.inj hres).symm
        have hres := elimS_inl hresO1 hy1
        refine JE.weak (env' := []) (es' := []) [] ?_ trivial (by decide) (by subst hb1; rfl)
        refine JE.code ?_
        refine JX.seq ?_
        refine JX.region ?_
        refine JL.val (yl_assign rfl) rfl ?_
        refine JL.nil ?_
        refine JE.code ?_
        refine JX.ret ?_
        obtain rfl := Option.some.inj hres
        refine JE.ret (rs := [.tmp 2]) (vs := [.bool true]) rfl ⟨rfl, trivial⟩ ?_
        exact fun w' hb hs => ⟨_, _, ⟨rfl, rfl⟩, rfl, hb, hs.sel [] _ (by decide) rfl⟩
  · intro K
    rcases cond_some hcb5 with ⟨hb, hres⟩ | ⟨hb, hres⟩
    · refine JH.set (d := 11) (v := .bool true) (congrArg (fun b => some (Value.bool b)) hb) ?_
      refine JH.gskip rfl rfl rfl rfl rfl rfl ?_
      refine JH.gskip rfl rfl rfl rfl rfl rfl ?_
      refine JH.gskip rfl rfl rfl rfl rfl rfl ?_
      refine JH.gskip rfl rfl rfl rfl rfl rfl ?_
      refine JH.gskip rfl rfl rfl rfl rfl rfl ?_
      refine JH.gskip rfl rfl rfl rfl rfl rfl ?_
      refine JH.gskip rfl rfl rfl rfl rfl rfl ?_
      refine JH.gskip rfl rfl rfl rfl rfl rfl ?_
      refine JH.gskip rfl rfl rfl rfl rfl rfl ?_
      refine JH.pure rfl (yl_pick_true rfl rfl) rfl ?_
      have he := Option.some.inj hres
      exact JH.weak [] K ⟨rfl, (by rw [← he]; rfl), trivial⟩ (by decide) rfl
    · refine JH.set (d := 11) (v := .bool false) (congrArg (fun b => some (Value.bool b)) hb) ?_
      refine JH.gpure rfl rfl rfl (yl_fieldAt (a := some _) Go.Proofs.Try.underlying39 rfl i33 i33n rfl rfl) rfl ?_
      refine JH.gread rfl rfl rfl (yl_load1 Go.Proofs.Try.underlying33 rfl rfl (fun w hw => hFr3.box 0 rfl rfl hw) rfl) rfl ?_
      refine JH.gpure rfl rfl rfl (yl_len_slice Go.Proofs.Try.underlying33 rfl) rfl ?_
      refine JH.gpure rfl rfl rfl (yl_fieldAt (a := some _) Go.Proofs.Try.underlying39 rfl i2 i2n rfl rfl) rfl ?_
      refine JH.gread rfl rfl rfl (yl_load1 Go.Proofs.Try.underlying2 rfl rfl (fun w hw => hFr3.box 0 rfl rfl hw) rfl) rfl ?_
      refine JH.gpure rfl rfl rfl (yl_fieldAt (a := some _) Go.Proofs.Try.underlying39 rfl i2 i2n rfl rfl) rfl ?_
      refine JH.gread rfl rfl rfl (yl_load1 Go.Proofs.Try.underlying2 rfl rfl (fun w hw => hFr3.box 0 rfl rfl hw) rfl) rfl ?_
      obtain ⟨x6, hx6, hres⟩ := bind_some hres
      refine JH.gmust rfl rfl rfl (ef_call (T := T153 x6) Go.Proofs.Try.func153 rfl (by kernel_rfl) rfl (fun w hC => c153  hx6)) rfl rfl ?_
      rintro _ _ ⟨_, ⟨rfl, rfl⟩, rfl⟩
      refine JH.gpure rfl rfl rfl (yl_neq rfl rfl) rfl ?_
      refine JH.pure rfl (yl_pick_false rfl rfl) rfl ?_
      have he := Option.some.inj hres
      exact JH.weak [] K ⟨rfl, (by rw [← he]; rfl), trivial⟩ (by decide) rfl

/- impl.validScale -/
def sh121 (q0 : Int) : Option (Bool) := Option.bind (sh136 q0 2 100) fun x1 => some x1
def T121 (r : Bool) (v : Value) (rs : List Own) : Prop := v = rets [.bool r] ∧ rs = []
set_option maxRecDepth 100000 in
theorem c121 {w : World} {q0 : Int} {r : Bool} (hres : sh121 q0 = some r) : Calls Go.Proofs.Try.prog 121 [.int .i64 q0].toArray w (Ret w (T121 r)) := by
  unfold sh121 at hres
  refine calls_of (n := 5) (M := []) (es := []) Go.Proofs.Try.func121 rfl rfl rfl (Sep.nil _ _ _) ?_
  refine JX.seq ?_
  refine JX.region ?_
  refine JL.val (yl_assign rfl) rfl ?_
  refine JL.nil ?_
  refine JE.code ?_
  refine JX.seq ?_
  refine JX.region ?_
  refine JL.val (yl_move rfl) rfl ?_
  obtain ⟨x1, hx1, hres⟩ := bind_some hres
  refine JL.eff (ef_call (T := T136 x1) Go.Proofs.Try.func136 rfl (by kernel_rfl) rfl (fun w hC => c136  hx1)) rfl ?_
  rintro _ _ ⟨_, ⟨rfl, rfl⟩, rfl⟩
  refine JL.val (yl_assign rfl) rfl ?_
  refine JL.nil ?_
  refine JE.code ?_
  refine JX.ret ?_
  obtain rfl := Option.some.inj hres
  refine JE.ret (rs := [.tmp 2]) (vs := [.bool x1]) rfl ⟨rfl, trivial⟩ ?_
  exact fun w' hb hs => ⟨_, _, ⟨rfl, rfl⟩, rfl, hb, hs.sel [] _ (by decide) rfl⟩

/- impl.boxOf -/
def sh170_1 (q0 : List SPoint) : (Int × SPoint × SPoint) → Option ((Int × SPoint × SPoint) ⊕ (SPoint × SPoint))
  | (x12, x13, x14) => bif decide (x12 < (q0.length : Int)) then (Option.bind (getI q0 x12) fun x15 => some (.inl (w64 (x12 + 1), SPoint.mk (if x15.X < x13.X then x15.X else x13.X) (if x15.Y < x13.Y then x15.Y else x13.Y), SPoint.mk (if x14.X < x15.X then x15.X else x14.X) (if x14.Y < x15.Y then x15.Y else x14.Y)))) else (some (.inr (x13, x14)))
def sh170 (q0 : List SPoint) : Option (SPoint × SPoint) := Option.bind (getI q0 (0 : Int)) fun x6 => Option.bind (getI q0 (0 : Int)) fun x7 => Option.bind (iter (sh170_1 q0) (0, x6, x7)) fun b1 => (some (b1.1, b1.2))
def T170 (r : SPoint × SPoint) (v : Value) (rs : List Own) : Prop := v = rets [.agg #[.int .i64 r.1.X, .int .i64 r.1.Y], .agg #[.int .i64 r.2.X, .int .i64 r.2.Y]] ∧ rs = []
set_option maxRecDepth 100000 in
theorem c170 {w : World} {q0 : List SPoint} {a_0 : Option Addr} {n_0 c_0 : Nat} (g_0 : Rd w a_0 (eSPoint.fl q0)) (l_0 : q0.length = n_0) (k_0 : n_0 ≤ c_0) {r : SPoint × SPoint} (hres : sh170 q0 = some r) : Calls Go.Proofs.Try.prog 170 [.slice a_0 n_0 c_0].toArray w (Ret w (T170 r)) := by
  subst l_0
  unfold sh170 at hres
  refine calls_of (n := 45) (M := []) (es := []) Go.Proofs.Try.func170 rfl rfl rfl (Sep.nil _ _ _) ?_
  refine JX.seq ?_
  refine JX.region ?_
  refine JL.eff (ef_alloc i93 i93z rfl) rfl ?_
  rintro _ _ ⟨g1, rfl, rfl⟩
  refine JL.eff (ef_alloc i93 i93z rfl) rfl ?_
  rintro _ _ ⟨g3, rfl, rfl⟩
  refine JL.nil ?_
  refine JE.code ?_
  refine JX.seq ?_
  refine JX.drawH [(0, .pure), (1, .pure), (2, .read), (3, .pure), (4, .pure), (5, .read), (6, .two 7), (8, .must), (9, .must)] [8, 9] [] [0, 1] [] [boxO 93 g1 [.int .i64 0, .int .i64 0], boxO 93 g3 [.int .i64 0, .int .i64 0]] mixedP (by kernel_rfl) (by kernel_rfl) (by decide) rfl rfl ?_
  intro wrr5 Nr5 hFr5
  refine JH.pure rfl (yl_move rfl) rfl ?_
  obtain ⟨x6, hx6, hres⟩ := bind_some hres
  refine JH.pure rfl (yl_idxQ Go.Proofs.Try.underlying22 i93 i93s rfl rfl hx6 rfl (rd_arg g_0 hFr5.cl) rfl) rfl ?_
  refine JH.read rfl (yl_loadTn Go.Proofs.Try.underlying93 rfl i93 i93s rfl hx6 (fun w hw => hFr5.arg g_0 hw)) rfl ?_
  refine JH.pure rfl (yl_move rfl) rfl ?_
  obtain ⟨x7, hx7, hres⟩ := bind_some hres
  refine JH.pure rfl (yl_idxQ Go.Proofs.Try.underlying22 i93 i93s rfl rfl hx7 rfl (rd_arg g_0 hFr5.cl) rfl) rfl ?_
  refine JH.read rfl (yl_loadTn Go.Proofs.Try.underlying93 rfl i93 i93s rfl hx7 (fun w hw => hFr5.arg g_0 hw)) rfl ?_
  refine JH.cut (K := fun J => ∀ (g8 : Nat) (g10 : Nat), J [(0, .slice a_0 q0.length c_0), (2, ptrAt (some ⟨g1, 0, none⟩) 0), (3, ptrAt (some ⟨g3, 0, none⟩) 0), (4, ptrAt (some ⟨g8, 0, none⟩) 0), (5, ptrAt (some ⟨g10, 0, none⟩) 0), (10, .agg #[.int .i64 x6.X, .int .i64 x6.Y]), (13, .agg #[.int .i64 x7.X, .int .i64 x7.Y])] [boxO 93 g8 [.int .i64 0, .int .i64 0], boxO 93 g10 [.int .i64 0, .int .i64 0]]) 1 ?_ ?_
  · intro g8 g10
    refine JH.must rfl (ef_store_box (i := 0) (v := .agg #[.int .i64 x6.X, .int .i64 x6.Y]) i93 rfl rfl rfl (i93s).symm (Nat.le_of_ble_eq_true rfl) (by simp [Value.cells, Value.oneCell'])) rfl rfl ?_
    rintro _ _ rfl
    refine JH.must rfl (ef_store_box (i := 1) (v := .agg #[.int .i64 x7.X, .int .i64 x7.Y]) i93 rfl rfl rfl (i93s).symm (Nat.le_of_ble_eq_true rfl) (by simp [Value.cells, Value.oneCell'])) rfl rfl ?_
    rintro _ _ rfl
    refine JH.nil ?_
    refine JE.weak (env' := [(0, .slice a_0 q0.length c_0), (2, ptrAt (some ⟨g1, 0, none⟩) 0), (3, ptrAt (some ⟨g3, 0, none⟩) 0), (4, ptrAt (some ⟨g8, 0, none⟩) 0), (5, ptrAt (some ⟨g10, 0, none⟩) 0)]) (es' := [boxO 93 g1 [.int .i64 0, .int .i64 0], boxO 93 g3 [.int .i64 0, .int .i64 0], boxO 93 g8 [.int .i64 x6.X, .int .i64 x6.Y], boxO 93 g10 [.int .i64 x7.X, .int .i64 x7.Y]]) [0, 1, 2, 3] ?_ ⟨rfl, rfl, rfl, rfl, rfl, trivial⟩ (by decide) rfl
    refine JE.code ?_
    refine JX.seq ?_
    refine JX.seq ?_
    refine JX.region ?_
    refine JL.val (yl_move rfl) rfl ?_
    refine JL.val (yl_len_slice Go.Proofs.Try.underlying22 rfl) rfl ?_
    refine JL.val (yl_move rfl) rfl ?_
    refine JL.nil ?_
    refine JE.code ?_
    refine JX.block ?_
    obtain ⟨y1, hy1, hresO1⟩ := bind_some hres
    refine JX.loop (I := fun (s1 : Int × SPoint × SPoint) aa ww => St w [] 45 [(2, ptrAt (some ⟨g1, 0, none⟩) 0), (3, ptrAt (some ⟨g3, 0, none⟩) 0), (4, ptrAt (some ⟨g8, 0, none⟩) 0), (5, ptrAt (some ⟨g10, 0, none⟩) 0), (14, .slice a_0 q0.length c_0), (15, .int .i64 (q0.length : Int)), (16, .int .i64 s1.1)] [boxO 93 g1 [.int .i64 0, .int .i64 0], boxO 93 g3 [.int .i64 0, .int .i64 0], boxO 93 g8 [.int .i64 s1.2.1.X, .int .i64 s1.2.1.Y], boxO 93 g10 [.int .i64 s1.2.2.X, .int .i64 s1.2.2.Y]] aa ww) (sh170_1 q0) hy1 (fun a w h => h.weak ⟨rfl, rfl, rfl, rfl, rfl, rfl, rfl, trivial⟩ [0, 1, 2, 3] (by decide) rfl) ?_
    rintro ⟨x12, x13, x14⟩ o1 hres hox1 aa ww hS
    refine (?_ : JX Go.Proofs.Try.prog w [] 45 _ _ [(2, ptrAt (some ⟨g1, 0, none⟩) 0), (3, ptrAt (some ⟨g3, 0, none⟩) 0), (4, ptrAt (some ⟨g8, 0, none⟩) 0), (5, ptrAt (some ⟨g10, 0, none⟩) 0), (14, .slice a_0 q0.length c_0), (15, .int .i64 (q0.length : Int)), (16, .int .i64 x12)] [boxO 93 g1 [.int .i64 0, .int .i64 0], boxO 93 g3 [.int .i64 0, .int .i64 0], boxO 93 g8 [.int .i64 x13.X, .int .i64 x13.Y], boxO 93 g10 [.int .i64 x14.X, .int .i64 x14.Y]] _) aa ww hS
    clear hS
    simp only [sh170_1] at hres
    refine JX.seq ?_
    refine JX.region ?_
    refine JL.val (yl_lss rfl rfl) rfl ?_
    refine JL.nil ?_
    refine JE.code ?_
    refine JX.seq ?_
    rcases cond_some hres with ⟨hb, hres⟩ | ⟨hb, hres⟩
    · refine JX.condT rfl hb ?_
      refine JX.skip ?_
      refine JE.code ?_
      refine JX.seq ?_
      refine JX.block ?_
      refine JX.seq ?_
      refine JX.region ?_
      obtain ⟨x15, hx15, hres⟩ := bind_some hres
      refine JL.val (yl_idxT Go.Proofs.Try.underlying22 i93 i93s rfl rfl hx15 rfl (fun w hC => rd_arg g_0 hC)) rfl ?_
      refine JL.val (yl_loadTn Go.Proofs.Try.underlying93 rfl i93 i93s rfl hx15 (fun w hC => rd_arg g_0 hC)) rfl ?_
      refine JL.eff (ef_alloc i93 i93z rfl) rfl ?_
      rintro _ _ ⟨g16, rfl, rfl⟩
      refine JL.eff (ef_store_box (i := 4) (v := .agg #[.int .i64 x15.X, .int .i64 x15.Y]) i93 rfl rfl rfl (i93s).symm (Nat.le_of_ble_eq_true rfl) (by simp [Value.cells, Value.oneCell'])) rfl ?_
      rintro _ _ rfl
      refine JL.nil ?_
      refine JE.weak (env' := [(2, ptrAt (some ⟨g1, 0, none⟩) 0), (3, ptrAt (some ⟨g3, 0, none⟩) 0), (4, ptrAt (some ⟨g8, 0, none⟩) 0), (5, ptrAt (some ⟨g10, 0, none⟩) 0), (7, ptrAt (some ⟨g16, 0, none⟩) 0), (14, .slice a_0 q0.length c_0), (15, .int .i64 (q0.length : Int)), (16, .int .i64 x12)]) (es' := [boxO 93 g1 [.int .i64 0, .int .i64 0], boxO 93 g3 [.int .i64 0, .int .i64 0], boxO 93 g8 [.int .i64 x13.X, .int .i64 x13.Y], boxO 93 g10 [.int .i64 x14.X, .int .i64 x14.Y], boxO 93 g16 [.int .i64 x15.X, .int .i64 x15.Y]]) [0, 1, 2, 3, 4] ?_ ⟨rfl, rfl, rfl, rfl, rfl, rfl, rfl, rfl, trivial⟩ (by decide) rfl
      refine JE.code ?_
      refine JX.seq ?_
      refine JX.region ?_
      refine JL.val (yl_fieldAt (a := some _) Go.Proofs.Try.underlying93 rfl i2 i2n rfl rfl) rfl ?_
      refine JL.val (yl_load1 Go.Proofs.Try.underlying2 rfl rfl (fun w hC => rd_box hC 2 rfl) rfl) rfl ?_
      refine JL.val (yl_fieldAt (a := some _) Go.Proofs.Try.underlying93 rfl i2 i2n rfl rfl) rfl ?_
      refine JL.val (yl_load1 Go.Proofs.Try.underlying2 rfl rfl (fun w hC => rd_box hC 4 rfl) rfl) rfl ?_
      refine JL.val (yl_min rfl rfl) rfl ?_
      refine JL.val (yl_fieldAt (a := some _) Go.Proofs.Try.underlying93 rfl i2 i2n rfl rfl) rfl ?_
      refine JL.val (yl_load1 Go.Proofs.Try.underlying2 rfl rfl (fun w hC => rd_box hC 2 rfl) rfl) rfl ?_
      refine JL.val (yl_fieldAt (a := some _) Go.Proofs.Try.underlying93 rfl i2 i2n rfl rfl) rfl ?_
      refine JL.val (yl_load1 Go.Proofs.Try.underlying2 rfl rfl (fun w hC => rd_box hC 4 rfl) rfl) rfl ?_
      refine JL.val (yl_min rfl rfl) rfl ?_
      refine JL.val (yl_build rfl (fun w => bld93_0_1 (if x15.X < x13.X then x15.X else x13.X) (if x15.Y < x13.Y then x15.Y else x13.Y) w)) rfl ?_
      refine JL.eff (ef_store_box (i := 2) (v := .agg #[.int .i64 (if x15.X < x13.X then x15.X else x13.X), .int .i64 (if x15.Y < x13.Y then x15.Y else x13.Y)]) i93 rfl rfl rfl (i93s).symm (Nat.le_of_ble_eq_true rfl) (by simp [Value.cells, Value.oneCell'])) rfl ?_
      rintro _ _ rfl
      refine JL.nil ?_
      refine JE.weak (env' := [(2, ptrAt (some ⟨g1, 0, none⟩) 0), (3, ptrAt (some ⟨g3, 0, none⟩) 0), (4, ptrAt (some ⟨g8, 0, none⟩) 0), (5, ptrAt (some ⟨g10, 0, none⟩) 0), (7, ptrAt (some ⟨g16, 0, none⟩) 0), (14, .slice a_0 q0.length c_0), (15, .int .i64 (q0.length : Int)), (16, .int .i64 x12)]) (es' := [boxO 93 g1 [.int .i64 0, .int .i64 0], boxO 93 g3 [.int .i64 0, .int .i64 0], boxO 93 g8 [.int .i64 (if x15.X < x13.X then x15.X else x13.X), .int .i64 (if x15.Y < x13.Y then x15.Y else x13.Y)], boxO 93 g10 [.int .i64 x14.X, .int .i64 x14.Y], boxO 93 g16 [.int .i64 x15.X, .int .i64 x15.Y]]) [0, 1, 2, 3, 4] ?_ ⟨rfl, rfl, rfl, rfl, rfl, rfl, rfl, rfl, trivial⟩ (by decide) rfl
      refine JE.code ?_
      refine JX.region ?_
      refine JL.val (yl_fieldAt (a := some _) Go.Proofs.Try.underlying93 rfl i2 i2n rfl rfl) rfl ?_
      refine JL.val (yl_load1 Go.Proofs.Try.underlying2 rfl rfl (fun w hC => rd_box hC 3 rfl) rfl) rfl ?_
      refine JL.val (yl_fieldAt (a := some _) Go.Proofs.Try.underlying93 rfl i2 i2n rfl rfl) rfl ?_
      refine JL.val (yl_load1 Go.Proofs.Try.underlying2 rfl rfl (fun w hC => rd_box hC 4 rfl) rfl) rfl ?_
      refine JL.val (yl_max rfl rfl) rfl ?_
      refine JL.val (yl_fieldAt (a := some _) Go.Proofs.Try.underlying93 rfl i2 i2n rfl rfl) rfl ?_
      refine JL.val (yl_load1 Go.Proofs.Try.underlying2 rfl rfl (fun w hC => rd_box hC 3 rfl) rfl) rfl ?_
      refine JL.val (yl_fieldAt (a := some _) Go.Proofs.Try.underlying93 rfl i2 i2n rfl rfl) rfl ?_
      refine JL.val (yl_load1 Go.Proofs.Try.underlying2 rfl rfl (fun w hC => rd_box hC 4 rfl) rfl) rfl ?_
      refine JL.val (yl_max rfl rfl) rfl ?_
      refine JL.val (yl_build rfl (fun w => bld93_0_1 (if x14.X < x15.X then x15.X else x14.X) (if x14.Y < x15.Y then x15.Y else x14.Y) w)) rfl ?_
      refine JL.eff (ef_store_box (i := 3) (v := .agg #[.int .i64 (if x14.X < x15.X then x15.X else x14.X), .int .i64 (if x14.Y < x15.Y then x15.Y else x14.Y)]) i93 rfl rfl rfl (i93s).symm (Nat.le_of_ble_eq_true rfl) (by simp [Value.cells, Value.oneCell'])) rfl ?_
      rintro _ _ rfl
      refine JL.nil ?_
      refine JE.weak (env' := [(2, ptrAt (some ⟨g1, 0, none⟩) 0), (3, ptrAt (some ⟨g3, 0, none⟩) 0), (4, ptrAt (some ⟨g8, 0, none⟩) 0), (5, ptrAt (some ⟨g10, 0, none⟩) 0), (14, .slice a_0 q0.length c_0), (15, .int .i64 (q0.length : Int)), (16, .int .i64 x12)]) (es' := [boxO 93 g1 [.int .i64 0, .int .i64 0], boxO 93 g3 [.int .i64 0, .int .i64 0], boxO 93 g8 [.int .i64 (if x15.X < x13.X then x15.X else x13.X), .int .i64 (if x15.Y < x13.Y then x15.Y else x13.Y)], boxO 93 g10 [.int .i64 (if x14.X < x15.X then x15.X else x14.X), .int .i64 (if x14.Y < x15.Y then x15.Y else x14.Y)]]) [0, 1, 2, 3] ?_ ⟨rfl, rfl, rfl, rfl, rfl, rfl, rfl, trivial⟩ (by decide) rfl
      refine JE.code ?_
      refine JX.region ?_
      refine JL.val (yl_add rfl rfl) rfl ?_
      refine JL.val (yl_move rfl) rfl ?_
      refine JL.nil ?_
      refine JE.cont hres ?_
      exact fun a w h => h.weak ⟨rfl, rfl, rfl, rfl, rfl, rfl, rfl, trivial⟩ [0, 1, 2, 3] (by decide) rfl
    · refine JX.condF rfl hb ?_
      refine JX.exit ?_
      refine JE.qb rfl ?_
      obtain ⟨b1, hb1⟩ : ∃ b : SPoint × SPoint, b = (x13, x14) := ⟨_, rfl⟩
      have hy1 : b1 = y1 := by rw [hb1]; exact hox1 _ (Option.some.inj hres).symm
      have hres := hresO1
      rw [← hy1] at hres
      refine JE.weak (env' := [(2, ptrAt (some ⟨g1, 0, none⟩) 0), (3, ptrAt (some ⟨g3, 0, none⟩) 0), (4, ptrAt (some ⟨g8, 0, none⟩) 0), (5, ptrAt (some ⟨g10, 0, none⟩) 0)]) (es' := [boxO 93 g1 [.int .i64 0, .int .i64 0], boxO 93 g3 [.int .i64 0, .int .i64 0], boxO 93 g8 [.int .i64 b1.1.X, .int .i64 b1.1.Y], boxO 93 g10 [.int .i64 b1.2.X, .int .i64 b1.2.Y]]) [0, 1, 2, 3] ?_ ⟨(by subst hb1; rfl), (by subst hb1; rfl), (by subst hb1; rfl), (by subst hb1; rfl), trivial⟩ (by decide) (by subst hb1; rfl)
      refine JE.code ?_
      refine JX.seq ?_
      refine JX.drawH [(0, .read), (1, .read), (2, .must), (3, .must)] [2, 3] [0, 1] [2, 3] [boxO 93 g1 [.int .i64 0, .int .i64 0], boxO 93 g3 [.int .i64 0, .int .i64 0]] [boxO 93 g8 [.int .i64 b1.1.X, .int .i64 b1.1.Y], boxO 93 g10 [.int .i64 b1.2.X, .int .i64 b1.2.Y]] mixedP (by kernel_rfl) (by kernel_rfl) (by decide) rfl rfl ?_
      intro wrr18 Nr18 hFr18
      refine JH.read rfl (yl_loadn Go.Proofs.Try.underlying93 rfl i93 rfl (fun w hw => hFr18.box 2 rfl rfl hw) rfl (i93s).symm i93p) rfl ?_
      refine JH.read rfl (yl_loadn Go.Proofs.Try.underlying93 rfl i93 rfl (fun w hw => hFr18.box 3 rfl rfl hw) rfl (i93s).symm i93p) rfl ?_
      refine JH.must rfl (ef_store_box (i := 0) (v := .agg #[.int .i64 b1.1.X, .int .i64 b1.1.Y]) i93 rfl rfl rfl (i93s).symm (Nat.le_of_ble_eq_true rfl) (by simp [Value.cells, Value.oneCell'])) rfl rfl ?_
      rintro _ _ rfl
      refine JH.must rfl (ef_store_box (i := 1) (v := .agg #[.int .i64 b1.2.X, .int .i64 b1.2.Y]) i93 rfl rfl rfl (i93s).symm (Nat.le_of_ble_eq_true rfl) (by simp [Value.cells, Value.oneCell'])) rfl rfl ?_
      rintro _ _ rfl
      refine JH.nil ?_
      refine JE.weak (env' := [(2, ptrAt (some ⟨g1, 0, none⟩) 0), (3, ptrAt (some ⟨g3, 0, none⟩) 0)]) (es' := [boxO 93 g1 [.int .i64 b1.1.X, .int .i64 b1.1.Y], boxO 93 g3 [.int .i64 b1.2.X, .int .i64 b1.2.Y]]) [2, 3] ?_ ⟨rfl, rfl, trivial⟩ (by decide) rfl
      refine JE.code ?_
      refine JX.ret ?_
      obtain rfl := Option.some.inj hres
      refine JE.ret (rs := [.cell 2 93, .cell 3 93]) (vs := [.agg #[.int .i64 b1.1.X, .int .i64 b1.1.Y], .agg #[.int .i64 b1.2.X, .int .i64 b1.2.Y]]) rfl ⟨rv_box 0 rfl rfl Go.Proofs.Try.underlying93 rfl i93 (i93s).symm, rv_box 1 rfl rfl Go.Proofs.Try.underlying93 rfl i93 (i93s).symm, trivial⟩ ?_
      exact fun w' hb hs => ⟨_, _, ⟨rfl, rfl⟩, rfl, hb, hs.sel [] _ (by decide) rfl⟩
  · intro K
    refine JH.two ?_ ?_
    · refine JH.must rfl (ef_alloc i93 i93z rfl) rfl rfl ?_
      rintro _ _ ⟨g8, rfl, rfl⟩
      refine JH.must rfl (ef_alloc i93 i93z rfl) rfl rfl ?_
      rintro _ _ ⟨g10, rfl, rfl⟩
      exact JH.weak [0, 1] (K g8 g10) ⟨rfl, rfl, rfl, rfl, rfl, rfl, rfl, trivial⟩ (by decide) rfl
    · refine JH.must rfl (ef_alloc i93 i93z rfl) rfl rfl ?_
      rintro _ _ ⟨g10, rfl, rfl⟩
      refine JH.must rfl (ef_alloc i93 i93z rfl) rfl rfl ?_
      rintro _ _ ⟨g8, rfl, rfl⟩
      exact JH.weak [1, 0] (K g8 g10) ⟨rfl, rfl, rfl, rfl, rfl, rfl, rfl, trivial⟩ (by decide) rfl

/- impl.strokeKind -/
def sh169 (q0 : List SPoint) (q1 : Int) : Option (Int) := Option.bind (sh170 q0) fun x1 => bif (decide ((w64 (2 * (w64 (x1.2.X - x1.1.X)))) < q1)) && (decide ((w64 (2 * (w64 (x1.2.Y - x1.1.Y)))) < q1)) then (some 0) else (bif decide ((w64 (2 * (w64 (x1.2.X - x1.1.X)))) ≤ (w64 (x1.2.Y - x1.1.Y))) then (some 1) else (bif decide ((w64 (2 * (w64 (x1.2.Y - x1.1.Y)))) ≤ (w64 (x1.2.X - x1.1.X))) then (some 2) else (some 3)))
def T169 (r : Int) (v : Value) (rs : List Own) : Prop := v = rets [.int .i64 r] ∧ rs = []
set_option maxRecDepth 100000 in
theorem c169 {w : World} {q0 : List SPoint} {a_0 : Option Addr} {n_0 c_0 : Nat} (g_0 : Rd w a_0 (eSPoint.fl q0)) (l_0 : q0.length = n_0) (k_0 : n_0 ≤ c_0) {q1 : Int} {r : Int} (hres : sh169 q0 q1 = some r) : Calls Go.Proofs.Try.prog 169 [.slice a_0 n_0 c_0, .int .i64 q1].toArray w (Ret w (T169 r)) := by
  subst l_0
  unfold sh169 at hres
  refine calls_of (n := 45) (M := []) (es := []) Go.Proofs.Try.func169 rfl rfl rfl (Sep.nil _ _ _) ?_
  refine JX.seq ?_
  refine JX.region ?_
  refine JL.val (yl_assign rfl) rfl ?_
  refine JL.nil ?_
  refine JE.code ?_
  refine JX.seq ?_
  refine JX.region ?_
  refine JL.val (yl_move rfl) rfl ?_
  obtain ⟨x1, hx1, hres⟩ := bind_some hres
  refine JL.eff (ef_call (T := T170 x1) Go.Proofs.Try.func170 rfl (by kernel_rfl) rfl (fun w hC => c170 (rd_arg g_0 hC) rfl k_0 hx1)) rfl ?_
  rintro _ _ ⟨_, ⟨rfl, rfl⟩, rfl⟩
  refine JL.val (yl_move rfl) rfl ?_
  refine JL.val (yl_extract rfl rfl) rfl ?_
  refine JL.val (yl_extract rfl rfl) rfl ?_
  refine JL.eff (ef_alloc i93 i93z rfl) rfl ?_
  rintro _ _ ⟨g2, rfl, rfl⟩
  refine JL.eff (ef_alloc i93 i93z rfl) rfl ?_
  rintro _ _ ⟨g4, rfl, rfl⟩
  refine JL.eff (ef_store_box (i := 0) (v := .agg #[.int .i64 x1.1.X, .int .i64 x1.1.Y]) i93 rfl rfl rfl (i93s).symm (Nat.le_of_ble_eq_true rfl) (by simp [Value.cells, Value.oneCell'])) rfl ?_
  rintro _ _ rfl
  refine JL.eff (ef_store_box (i := 1) (v := .agg #[.int .i64 x1.2.X, .int .i64 x1.2.Y]) i93 rfl rfl rfl (i93s).symm (Nat.le_of_ble_eq_true rfl) (by simp [Value.cells, Value.oneCell'])) rfl ?_
  rintro _ _ rfl
  refine JL.nil ?_
  refine JE.weak (env' := [(1, .int .i64 q1), (5, ptrAt (some ⟨g2, 0, none⟩) 0), (6, ptrAt (some ⟨g4, 0, none⟩) 0)]) (es' := [boxO 93 g2 [.int .i64 x1.1.X, .int .i64 x1.1.Y], boxO 93 g4 [.int .i64 x1.2.X, .int .i64 x1.2.Y]]) [0, 1] ?_ ⟨rfl, rfl, rfl, trivial⟩ (by decide) rfl
  refine JE.code ?_
  refine JX.seq ?_
  refine JX.drawH [(0, .pure), (1, .read), (2, .pure), (3, .read), (4, .pure), (5, .pure), (6, .read), (7, .pure), (8, .read), (9, .pure), (10, .pure), (11, .pure)] [] [] [0, 1] [] [boxO 93 g2 [.int .i64 x1.1.X, .int .i64 x1.1.Y], boxO 93 g4 [.int .i64 x1.2.X, .int .i64 x1.2.Y]] mixedP (by kernel_rfl) (by kernel_rfl) (by decide) rfl rfl ?_
  intro wrr6 Nr6 hFr6
  refine JH.pure rfl (yl_fieldAt (a := some _) Go.Proofs.Try.underlying93 rfl i2 i2n rfl rfl) rfl ?_
  refine JH.read rfl (yl_load1 Go.Proofs.Try.underlying2 rfl rfl (fun w hw => hFr6.box 1 rfl rfl hw) rfl) rfl ?_
  refine JH.pure rfl (yl_fieldAt (a := some _) Go.Proofs.Try.underlying93 rfl i2 i2n rfl rfl) rfl ?_
  refine JH.read rfl (yl_load1 Go.Proofs.Try.underlying2 rfl rfl (fun w hw => hFr6.box 0 rfl rfl hw) rfl) rfl ?_
  refine JH.pure rfl (yl_sub rfl rfl) rfl ?_
  refine JH.pure rfl (yl_fieldAt (a := some _) Go.Proofs.Try.underlying93 rfl i2 i2n rfl rfl) rfl ?_
  refine JH.read rfl (yl_load1 Go.Proofs.Try.underlying2 rfl rfl (fun w hw => hFr6.box 1 rfl rfl hw) rfl) rfl ?_
  refine JH.pure rfl (yl_fieldAt (a := some _) Go.Proofs.Try.underlying93 rfl i2 i2n rfl rfl) rfl ?_
  refine JH.read rfl (yl_load1 Go.Proofs.Try.underlying2 rfl rfl (fun w hw => hFr6.box 0 rfl rfl hw) rfl) rfl ?_
  refine JH.pure rfl (yl_sub rfl rfl) rfl ?_
  refine JH.pure rfl (yl_assign rfl) rfl ?_
  refine JH.pure rfl (yl_assign rfl) rfl ?_
  refine JH.nil ?_
  refine JE.weak (env' := [(1, .int .i64 q1), (7, .int .i64 (w64 (x1.2.X - x1.1.X))), (8, .int .i64 (w64 (x1.2.Y - x1.1.Y)))]) (es' := []) [] ?_ ⟨rfl, rfl, rfl, trivial⟩ (by decide) rfl
  refine JE.code ?_
  refine JX.seq ?_
  refine JX.block ?_
  refine JX.seq ?_
  refine JX.region ?_
  refine JL.val (yl_move rfl) rfl ?_
  refine JL.val (yl_mul rfl rfl) rfl ?_
  refine JL.val (yl_move rfl) rfl ?_
  refine JL.val (yl_lss rfl rfl) rfl ?_
  refine JL.val (yl_move rfl) rfl ?_
  refine JL.cut (K := fun J => J [(7, .int .i64 (w64 (x1.2.X - x1.1.X))), (8, .int .i64 (w64 (x1.2.Y - x1.1.Y))), (34, .bool ((decide ((w64 (2 * (w64 (x1.2.X - x1.1.X)))) < q1)) && (decide ((w64 (2 * (w64 (x1.2.Y - x1.1.Y)))) < q1))))] []) 5 ?_ ?_
  · refine JL.val (yl_assign rfl) rfl ?_
    refine JL.nil ?_
    refine JE.weak (env' := [(7, .int .i64 (w64 (x1.2.X - x1.1.X))), (8, .int .i64 (w64 (x1.2.Y - x1.1.Y))), (24, .bool ((decide ((w64 (2 * (w64 (x1.2.X - x1.1.X)))) < q1)) && (decide ((w64 (2 * (w64 (x1.2.Y - x1.1.Y)))) < q1))))]) (es' := []) [] ?_ ⟨rfl, rfl, rfl, trivial⟩ (by decide) rfl
    refine JE.code ?_
    rcases cond_some hres with ⟨hb, hres⟩ | ⟨hb, hres⟩
    · refine JX.condT rfl hb ?_
      refine JX.seq ?_
      refine JX.region ?_
      refine JL.val (yl_assign rfl) rfl ?_
      refine JL.nil ?_
      refine JE.code ?_
      refine JX.ret ?_
      refine JE.qbr ?_
      obtain rfl := Option.some.inj hres
      refine JE.ret (rs := [.tmp 4]) (vs := [.int .i64 0]) rfl ⟨rfl, trivial⟩ ?_
      exact fun w' hb hs => ⟨_, _, ⟨rfl, rfl⟩, rfl, hb, hs.sel [] _ (by decide) rfl⟩
    · refine JX.condF rfl hb ?_
      refine JX.seq ?_
      refine JX.region ?_
      refine JL.val (yl_move rfl) rfl ?_
      refine JL.val (yl_move rfl) rfl ?_
      refine JL.val (yl_mul rfl rfl) rfl ?_
      refine JL.val (yl_geq rfl rfl) rfl ?_
      refine JL.val (yl_assign rfl) rfl ?_
      refine JL.nil ?_
      refine JE.weak (env' := [(7, .int .i64 (w64 (x1.2.X - x1.1.X))), (8, .int .i64 (w64 (x1.2.Y - x1.1.Y))), (35, .bool (decide ((w64 (2 * (w64 (x1.2.X - x1.1.X)))) ≤ (w64 (x1.2.Y - x1.1.Y)))))]) (es' := []) [] ?_ ⟨rfl, rfl, rfl, trivial⟩ (by decide) rfl
      refine JE.code ?_
      rcases cond_some hres with ⟨hb, hres⟩ | ⟨hb, hres⟩
      · refine JX.condT rfl hb ?_
        refine JX.seq ?_
        refine JX.region ?_
        refine JL.val (yl_assign rfl) rfl ?_
        refine JL.nil ?_
        refine JE.code ?_
        refine JX.ret ?_
        refine JE.qbr ?_
        obtain rfl := Option.some.inj hres
        refine JE.ret (rs := [.tmp 4]) (vs := [.int .i64 1]) rfl ⟨rfl, trivial⟩ ?_
        exact fun w' hb hs => ⟨_, _, ⟨rfl, rfl⟩, rfl, hb, hs.sel [] _ (by decide) rfl⟩
      · refine JX.condF rfl hb ?_
        refine JX.seq ?_
        refine JX.region ?_
        refine JL.val (yl_move rfl) rfl ?_
        refine JL.val (yl_move rfl) rfl ?_
        refine JL.val (yl_mul rfl rfl) rfl ?_
        refine JL.val (yl_geq rfl rfl) rfl ?_
        refine JL.val (yl_assign rfl) rfl ?_
        refine JL.nil ?_
        refine JE.weak (env' := [(40, .bool (decide ((w64 (2 * (w64 (x1.2.Y - x1.1.Y)))) ≤ (w64 (x1.2.X - x1.1.X)))))]) (es' := []) [] ?_ ⟨rfl, trivial⟩ (by decide) rfl
        refine JE.code ?_
        rcases cond_some hres with ⟨hb, hres⟩ | ⟨hb, hres⟩
        · refine JX.condT rfl hb ?_
          refine JX.seq ?_
          refine JX.region ?_
          refine JL.val (yl_assign rfl) rfl ?_
          refine JL.nil ?_
          refine JE.code ?_
          refine JX.ret ?_
          refine JE.qbr ?_
          obtain rfl := Option.some.inj hres
          refine JE.ret (rs := [.tmp 4]) (vs := [.int .i64 2]) rfl ⟨rfl, trivial⟩ ?_
          exact fun w' hb hs => ⟨_, _, ⟨rfl, rfl⟩, rfl, hb, hs.sel [] _ (by decide) rfl⟩
        · refine JX.condF rfl hb ?_
          refine JX.skip ?_
          refine JE.code ?_
          refine JX.seq ?_
          refine JX.region ?_
          refine JL.val (yl_assign rfl) rfl ?_
          refine JL.nil ?_
          refine JE.code ?_
          refine JX.ret ?_
          obtain rfl := Option.some.inj hres
          refine JE.ret (rs := [.tmp 4]) (vs := [.int .i64 3]) rfl ⟨rfl, trivial⟩ ?_
          exact fun w' hb hs => ⟨_, _, ⟨rfl, rfl⟩, rfl, hb, hs.sel [] _ (by decide) rfl⟩
  · intro K
    rcases Bool.eq_false_or_eq_true (decide ((w64 (2 * (w64 (x1.2.X - x1.1.X)))) < q1)) with hb | hb
    · refine JL.set (d := 29) (v := .bool true) (congrArg (fun b => some (Value.bool b)) hb) ?_
      refine JL.gval rfl rfl (yl_move rfl) rfl ?_
      refine JL.gval rfl rfl (yl_mul rfl rfl) rfl ?_
      refine JL.gval rfl rfl (yl_move rfl) rfl ?_
      refine JL.gval rfl rfl (yl_lss rfl rfl) rfl ?_
      refine JL.val (yl_pick_true rfl rfl) rfl ?_
      exact JL.weak [] K ⟨rfl, rfl, (by rw [hb]; rfl), trivial⟩ (by decide) rfl
    · refine JL.set (d := 29) (v := .bool false) (congrArg (fun b => some (Value.bool b)) hb) ?_
      refine JL.gskip rfl rfl rfl rfl ?_
      refine JL.gskip rfl rfl rfl rfl ?_
      refine JL.gskip rfl rfl rfl rfl ?_
      refine JL.gskip rfl rfl rfl rfl ?_
      refine JL.val (yl_pick_false rfl rfl) rfl ?_
      exact JL.weak [] K ⟨rfl, rfl, (by rw [hb]; rfl), trivial⟩ (by decide) rfl

/- (impl.Panel).allPoints -/
def sh188_2 (q0 : SPanel) (x7 : Int) : (Int × List SPoint) → Option ((Int × List SPoint) ⊕ (List SPoint))
  | (x13, x14) => bif decide (x13 < (w64 ((w64 (2 * q0.W)) + 1))) then (Option.bind (bif ((w64 (x13 + x7)).tmod 2) == 1 then (Option.bind (appL x14 [SPoint.mk x13 x7]) fun x22 => some x22) else (some x14)) fun j17 => (some (.inl (w64 (x13 + 1), j17)))) else (some (.inr x14))
def sh188_1 (q0 : SPanel) : (Int × List SPoint) → Option ((Int × List SPoint) ⊕ (List SPoint))
  | (x7, x8) => bif decide (x7 < (w64 ((w64 (2 * q0.H)) + 1))) then (Option.bind (iter (sh188_2 q0 x7) (0, x8)) fun b2 => (some (.inl (w64 (x7 + 1), b2)))) else (some (.inr x8))
def sh188 (q0 : SPanel) : Option (List SPoint) := Option.bind (iter (sh188_1 q0) (0, ([] : List SPoint))) fun b1 => (some b1)
def T188 (r : List SPoint) (v : Value) (rs : List Own) : Prop := ∃ (a0 : Option Addr) (n0 c0 : Nat), r.length = n0 ∧ v = rets [.slice a0 n0 c0] ∧ rs = [rowT 93 eSPoint a0 n0 c0 r]
set_option maxRecDepth 100000 in
theorem c188 {w : World} {q0 : SPanel} {a_0_2 : Option Addr} {n_0_2 c_0_2 : Nat} (g_0_2 : Rd w a_0_2 (eI64.fl q0.Breaks)) (l_0_2 : q0.Breaks.length = n_0_2) (k_0_2 : n_0_2 ≤ c_0_2) {r : List SPoint} (hres : sh188 q0 = some r) : Calls Go.Proofs.Try.prog 188 [.agg #[.int .i64 q0.W, .int .i64 q0.H, .slice a_0_2 n_0_2 c_0_2]].toArray w (Ret w (T188 r)) := by
  subst l_0_2
  unfold sh188 at hres
  refine calls_of (n := 35) (M := []) (es := []) Go.Proofs.Try.func188 rfl rfl rfl (Sep.nil _ _ _) ?_
  refine JX.seq ?_
  refine JX.region ?_
  refine JL.eff (ef_box rfl rfl) rfl ?_
  rintro _ _ ⟨g1, rfl, rfl⟩
  refine JL.val (yl_assign rfl) rfl ?_
  refine JL.nil ?_
  refine JE.code ?_
  refine JX.seq ?_
  refine JX.region ?_
  refine JL.eff (ef_buildSlice (E := 93) (k := eSPoint.k) (us := eSPoint.fl ([] : List SPoint)) rfl (fun w => bsl22_0  w) rfl (by decide)) rfl ?_
  rintro _ _ ⟨a3, rfl, rfl⟩
  refine JL.val (yl_assign rfl) rfl ?_
  refine JL.nil ?_
  refine JE.code ?_
  refine JX.seq ?_
  refine JX.seq ?_
  refine JX.region ?_
  refine JL.val (yl_fieldAt (a := some _) Go.Proofs.Try.underlying39 rfl i2 i2n rfl rfl) rfl ?_
  refine JL.val (yl_load1 Go.Proofs.Try.underlying2 rfl rfl (fun w hC => rd_box hC 0 rfl) rfl) rfl ?_
  refine JL.val (yl_mul rfl rfl) rfl ?_
  refine JL.val (yl_add rfl rfl) rfl ?_
  refine JL.val (yl_move rfl) rfl ?_
  refine JL.nil ?_
  refine JE.weak (env' := [(1, ptrAt (some ⟨g1, 0, none⟩) 0), (3, .slice a3 0 0), (10, .int .i64 (w64 ((w64 (2 * q0.H)) + 1))), (11, .int .i64 0)]) (es' := [boxO 39 g1 [.int .i64 q0.W, .int .i64 q0.H, .slice a_0_2 q0.Breaks.length c_0_2], rowT 93 eSPoint a3 0 0 ([] : List SPoint)]) [0, 1] ?_ ⟨rfl, rfl, rfl, rfl, trivial⟩ (by decide) rfl
  refine JE.code ?_
  refine JX.block ?_
  obtain ⟨y1, hy1, hresO1⟩ := bind_some hres
  refine JX.loop (I := fun (s1 : Int × List SPoint) aa ww => ∃ (a5 : Option Addr) (cp6 : Nat), St w [] 35 [(1, ptrAt (some ⟨g1, 0, none⟩) 0), (3, .slice a5 s1.2.length cp6), (10, .int .i64 (w64 ((w64 (2 * q0.H)) + 1))), (11, .int .i64 s1.1)] [boxO 39 g1 [.int .i64 q0.W, .int .i64 q0.H, .slice a_0_2 q0.Breaks.length c_0_2], rowT 93 eSPoint a5 s1.2.length cp6 s1.2] aa ww) (sh188_1 q0) hy1 (fun a w h => ⟨a3, 0, h.weak ⟨rfl, rfl, rfl, rfl, trivial⟩ [0, 1] (by decide) rfl⟩) ?_
  rintro ⟨x7, x8⟩ o1 hres hox1 aa ww ⟨a9, cp10, hS⟩
  refine (?_ : JX Go.Proofs.Try.prog w [] 35 _ _ [(1, ptrAt (some ⟨g1, 0, none⟩) 0), (3, .slice a9 x8.length cp10), (10, .int .i64 (w64 ((w64 (2 * q0.H)) + 1))), (11, .int .i64 x7)] [boxO 39 g1 [.int .i64 q0.W, .int .i64 q0.H, .slice a_0_2 q0.Breaks.length c_0_2], rowT 93 eSPoint a9 x8.length cp10 x8] _) aa ww hS
  clear hS
  simp only [sh188_1] at hres
  refine JX.seq ?_
  refine JX.region ?_
  refine JL.val (yl_lss rfl rfl) rfl ?_
  refine JL.nil ?_
  refine JE.code ?_
  refine JX.seq ?_
  rcases cond_some hres with ⟨hb, hres⟩ | ⟨hb, hres⟩
  · refine JX.condT rfl hb ?_
    refine JX.skip ?_
    refine JE.code ?_
    refine JX.seq ?_
    refine JX.block ?_
    refine JX.seq ?_
    refine JX.region ?_
    refine JL.val (yl_move rfl) rfl ?_
    refine JL.val (yl_assign rfl) rfl ?_
    refine JL.nil ?_
    refine JE.code ?_
    refine JX.seq ?_
    refine JX.region ?_
    refine JL.val (yl_fieldAt (a := some _) Go.Proofs.Try.underlying39 rfl i2 i2n rfl rfl) rfl ?_
    refine JL.val (yl_load1 Go.Proofs.Try.underlying2 rfl rfl (fun w hC => rd_box hC 0 rfl) rfl) rfl ?_
    refine JL.val (yl_mul rfl rfl) rfl ?_
    refine JL.val (yl_add rfl rfl) rfl ?_
    refine JL.val (yl_move rfl) rfl ?_
    refine JL.nil ?_
    refine JE.weak (env' := [(1, ptrAt (some ⟨g1, 0, none⟩) 0), (3, .slice a9 x8.length cp10), (4, .int .i64 x7), (10, .int .i64 (w64 ((w64 (2 * q0.H)) + 1))), (11, .int .i64 x7), (17, .int .i64 (w64 ((w64 (2 * q0.W)) + 1))), (18, .int .i64 0)]) (es' := [boxO 39 g1 [.int .i64 q0.W, .int .i64 q0.H, .slice a_0_2 q0.Breaks.length c_0_2], rowT 93 eSPoint a9 x8.length cp10 x8]) [0, 1] ?_ ⟨rfl, rfl, rfl, rfl, rfl, rfl, rfl, trivial⟩ (by decide) rfl
    refine JE.code ?_
    refine JX.block ?_
    obtain ⟨y2, hy2, hresO2⟩ := bind_some hres
    refine JX.loop (I := fun (s2 : Int × List SPoint) aa ww => ∃ (a11 : Option Addr) (cp12 : Nat), St w [] 35 [(1, ptrAt (some ⟨g1, 0, none⟩) 0), (3, .slice a11 s2.2.length cp12), (4, .int .i64 x7), (10, .int .i64 (w64 ((w64 (2 * q0.H)) + 1))), (11, .int .i64 x7), (17, .int .i64 (w64 ((w64 (2 * q0.W)) + 1))), (18, .int .i64 s2.1)] [boxO 39 g1 [.int .i64 q0.W, .int .i64 q0.H, .slice a_0_2 q0.Breaks.length c_0_2], rowT 93 eSPoint a11 s2.2.length cp12 s2.2] aa ww) (sh188_2 q0 x7) hy2 (fun a w h => ⟨a9, cp10, h.weak ⟨rfl, rfl, rfl, rfl, rfl, rfl, rfl, trivial⟩ [0, 1] (by decide) rfl⟩) ?_
    rintro ⟨x13, x14⟩ o2 hres hox2 aa ww ⟨a15, cp16, hS⟩
    refine (?_ : JX Go.Proofs.Try.prog w [] 35 _ _ [(1, ptrAt (some ⟨g1, 0, none⟩) 0), (3, .slice a15 x14.length cp16), (4, .int .i64 x7), (10, .int .i64 (w64 ((w64 (2 * q0.H)) + 1))), (11, .int .i64 x7), (17, .int .i64 (w64 ((w64 (2 * q0.W)) + 1))), (18, .int .i64 x13)] [boxO 39 g1 [.int .i64 q0.W, .int .i64 q0.H, .slice a_0_2 q0.Breaks.length c_0_2], rowT 93 eSPoint a15 x14.length cp16 x14] _) aa ww hS
    clear hS
    simp only [sh188_2] at hres
    refine JX.seq ?_
    refine JX.region ?_
    refine JL.val (yl_lss rfl rfl) rfl ?_
    refine JL.nil ?_
    refine JE.code ?_
    refine JX.seq ?_
    rcases cond_some hres with ⟨hb, hres⟩ | ⟨hb, hres⟩
    · refine JX.condT rfl hb ?_
      refine JX.skip ?_
      refine JE.code ?_
      refine JX.seq ?_
      refine JX.block ?_
      refine JX.seq ?_
      refine JX.region ?_
      refine JL.val (yl_move rfl) rfl ?_
      refine JL.val (yl_assign rfl) rfl ?_
      refine JL.nil ?_
      refine JE.code ?_
      refine JX.seq ?_
      refine JX.region ?_
      refine JL.val (yl_move rfl) rfl ?_
      refine JL.val (yl_move rfl) rfl ?_
      refine JL.val (yl_add rfl rfl) rfl ?_
      refine JL.val (yl_rem rfl rfl (by decide)) rfl ?_
      refine JL.val (yl_eql rfl rfl) rfl ?_
      refine JL.nil ?_
      refine JE.weak (env' := [(1, ptrAt (some ⟨g1, 0, none⟩) 0), (3, .slice a15 x14.length cp16), (4, .int .i64 x7), (5, .int .i64 x13), (10, .int .i64 (w64 ((w64 (2 * q0.H)) + 1))), (11, .int .i64 x7), (17, .int .i64 (w64 ((w64 (2 * q0.W)) + 1))), (18, .int .i64 x13), (25, .bool (((w64 (x13 + x7)).tmod 2) == 1))]) (es' := [boxO 39 g1 [.int .i64 q0.W, .int .i64 q0.H, .slice a_0_2 q0.Breaks.length c_0_2], rowT 93 eSPoint a15 x14.length cp16 x14]) [0, 1] ?_ ⟨rfl, rfl, rfl, rfl, rfl, rfl, rfl, rfl, rfl, trivial⟩ (by decide) rfl
      refine JE.code ?_
      obtain ⟨j17, hj17, hresj17⟩ := bind_some hres
      refine JX.cut (K := fun J => ∀ (a18 : Option Addr) (cp19 : Nat), J [(1, ptrAt (some ⟨g1, 0, none⟩) 0), (3, .slice a18 j17.length cp19), (4, .int .i64 x7), (10, .int .i64 (w64 ((w64 (2 * q0.H)) + 1))), (11, .int .i64 x7), (17, .int .i64 (w64 ((w64 (2 * q0.W)) + 1))), (18, .int .i64 x13)] [boxO 39 g1 [.int .i64 q0.W, .int .i64 q0.H, .slice a_0_2 q0.Breaks.length c_0_2], rowT 93 eSPoint a18 j17.length cp19 j17]) ?_ ?_
      · intro a18 cp19
        have hres := hresj17
        refine JE.code ?_
        refine JX.region ?_
        refine JL.val (yl_add rfl rfl) rfl ?_
        refine JL.val (yl_move rfl) rfl ?_
        refine JL.nil ?_
        refine JE.cont hres ?_
        exact fun a w h => ⟨a18, cp19, h.weak ⟨rfl, rfl, rfl, rfl, rfl, rfl, rfl, trivial⟩ [0, 1] (by decide) rfl⟩
      · intro K
        rcases cond_some hj17 with ⟨hb, hres⟩ | ⟨hb, hres⟩
        · refine JX.condT rfl hb ?_
          refine JX.region ?_
          refine JL.val (yl_move rfl) rfl ?_
          refine JL.val (yl_move rfl) rfl ?_
          refine JL.val (yl_move rfl) rfl ?_
          refine JL.val (yl_build rfl (fun w => bld93_0_1 x13 x7 w)) rfl ?_
          refine JL.eff (ef_buildSlice (E := 93) (k := eSPoint.k) (us := eSPoint.fl [SPoint.mk x13 x7]) rfl (fun w => bsl22_1 x13 x7 w) rfl (by decide)) rfl ?_
          rintro _ _ ⟨a20, rfl, rfl⟩
          obtain ⟨x22, hx22, hres⟩ := bind_some hres
          refine JL.eff (ef_appendT (ix := 1) Go.Proofs.Try.underlying22 i93 i93z i93s rfl i93b0 i93b1 rfl rfl rfl rfl rfl (fun w hC => rd_row hC 2 rfl) hx22) rfl ?_
          rintro _ _ ⟨a23, cp24, rfl, rfl⟩
          refine JL.val (yl_assign rfl) rfl ?_
          refine JL.nil ?_
          refine JE.weak (env' := [(1, ptrAt (some ⟨g1, 0, none⟩) 0), (3, .slice a23 x22.length cp24), (4, .int .i64 x7), (10, .int .i64 (w64 ((w64 (2 * q0.H)) + 1))), (11, .int .i64 x7), (17, .int .i64 (w64 ((w64 (2 * q0.W)) + 1))), (18, .int .i64 x13)]) (es' := [boxO 39 g1 [.int .i64 q0.W, .int .i64 q0.H, .slice a_0_2 q0.Breaks.length c_0_2], rowT 93 eSPoint a23 x22.length cp24 x22]) [0, 1] ?_ ⟨rfl, rfl, rfl, rfl, rfl, rfl, rfl, trivial⟩ (by decide) rfl
          have hj := Option.some.inj hres
          exact JE.weak [0, 1] (K a23 cp24) ⟨(by subst hj; rfl), (by subst hj; rfl), (by subst hj; rfl), (by subst hj; rfl), (by subst hj; rfl), (by subst hj; rfl), (by subst hj; rfl), trivial⟩ (by decide) (by subst hj; rfl)
        · refine JX.condF rfl hb ?_
          refine JX.skip ?_
          have hj := Option.some.inj hres
          exact JE.weak [0, 1] (K a15 cp16) ⟨(by subst hj; rfl), (by subst hj; rfl), (by subst hj; rfl), (by subst hj; rfl), (by subst hj; rfl), (by subst hj; rfl), (by subst hj; rfl), trivial⟩ (by decide) (by subst hj; rfl)
    · refine JX.condF rfl hb ?_
      refine JX.exit ?_
      refine JE.qb rfl ?_
      obtain ⟨b2, hb2⟩ : ∃ b : List SPoint, b = x14 := ⟨_, rfl⟩
      have hy2 : b2 = y2 := by rw [hb2]; exact hox2 _ (Option.some.inj hres).symm
      have hres := hresO2
      rw [← hy2] at hres
      refine JE.weak (env' := [(1, ptrAt (some ⟨g1, 0, none⟩) 0), (3, .slice a15 b2.length cp16), (10, .int .i64 (w64 ((w64 (2 * q0.H)) + 1))), (11, .int .i64 x7)]) (es' := [boxO 39 g1 [.int .i64 q0.W, .int .i64 q0.H, .slice a_0_2 q0.Breaks.length c_0_2], rowT 93 eSPoint a15 b2.length cp16 b2]) [0, 1] ?_ ⟨(by subst hb2; rfl), (by subst hb2; rfl), (by subst hb2; rfl), (by subst hb2; rfl), trivial⟩ (by decide) (by subst hb2; rfl)
      refine JE.code ?_
      refine JX.region ?_
      refine JL.val (yl_add rfl rfl) rfl ?_
      refine JL.val (yl_move rfl) rfl ?_
      refine JL.nil ?_
      refine JE.cont hres ?_
      exact fun a w h => ⟨a15, cp16, h.weak ⟨rfl, rfl, rfl, rfl, trivial⟩ [0, 1] (by decide) rfl⟩
  · refine JX.condF rfl hb ?_
    refine JX.exit ?_
    refine JE.qb rfl ?_
    obtain ⟨b1, hb1⟩ : ∃ b : List SPoint, b = x8 := ⟨_, rfl⟩
    have hy1 : b1 = y1 := by rw [hb1]; exact hox1 _ (Option.some.inj hres).symm
    have hres := hresO1
    rw [← hy1] at hres
    refine JE.weak (env' := [(3, .slice a9 b1.length cp10)]) (es' := [rowT 93 eSPoint a9 b1.length cp10 b1]) [1] ?_ ⟨(by subst hb1; rfl), trivial⟩ (by decide) (by subst hb1; rfl)
    refine JE.code ?_
    refine JX.seq ?_
    refine JX.region ?_
    refine JL.val (yl_move rfl) rfl ?_
    refine JL.val (yl_assign rfl) rfl ?_
    refine JL.nil ?_
    refine JE.code ?_
    refine JX.ret ?_
    obtain rfl := Option.some.inj hres
    refine JE.ret (rs := [.tmp 2]) (vs := [.slice a9 b1.length cp10]) rfl ⟨rfl, trivial⟩ ?_
    exact fun w' hb hs => ⟨_, _, ⟨a9, b1.length, cp10, rfl, rfl, rfl⟩, rfl, hb, hs.sel [0] _ (by decide) rfl⟩

/- (impl.Panel).nearest -/
def sh171_1 (q1 : SPoint) (q2 : Int) (x9 : List SPoint) : (Int × Int × SPoint) → Option ((Int × Int × SPoint) ⊕ (Int × SPoint))
  | (x13, x14, x15) => bif decide (x14 < (x9.length : Int)) then (Option.bind (getI x9 x14) fun x16 => Option.bind (bif (decide (x13 < 0)) || (decide ((w64 ((w64 ((w64 ((w64 (x16.X * q2)) - q1.X)) * (w64 ((w64 (x16.X * q2)) - q1.X)))) + (w64 ((w64 ((w64 (x16.Y * q2)) - q1.Y)) * (w64 ((w64 (x16.Y * q2)) - q1.Y)))))) < x13)) then (some (w64 ((w64 ((w64 ((w64 (x16.X * q2)) - q1.X)) * (w64 ((w64 (x16.X * q2)) - q1.X)))) + (w64 ((w64 ((w64 (x16.Y * q2)) - q1.Y)) * (w64 ((w64 (x16.Y * q2)) - q1.Y))))), x16)) else (some (x13, x15))) fun j20 => (some (.inl (j20.1, w64 (x14 + 1), j20.2)))) else (some (.inr (x13, x15)))
def sh171 (q0 : SPanel) (q1 : SPoint) (q2 : Int) : Option (SPoint × Bool) := Option.bind (sh188 q0) fun x9 => Option.bind (iter (sh171_1 q1 q2 x9) ((-1), 0, SPoint.mk 0 0)) fun b1 => (some (b1.2, decide (b1.1 ≤ (w64 (q2 * q2)))))
def T171 (r : SPoint × Bool) (v : Value) (rs : List Own) : Prop := v = rets [.agg #[.int .i64 r.1.X, .int .i64 r.1.Y], .bool r.2] ∧ rs = []
set_option maxRecDepth 100000 in
theorem c171 {w : World} {q0 : SPanel} {a_0_2 : Option Addr} {n_0_2 c_0_2 : Nat} (g_0_2 : Rd w a_0_2 (eI64.fl q0.Breaks)) (l_0_2 : q0.Breaks.length = n_0_2) (k_0_2 : n_0_2 ≤ c_0_2) {q1 : SPoint} {q2 : Int} {r : SPoint × Bool} (hres : sh171 q0 q1 q2 = some r) : Calls Go.Proofs.Try.prog 171 [.agg #[.int .i64 q0.W, .int .i64 q0.H, .slice a_0_2 n_0_2 c_0_2], .agg #[.int .i64 q1.X, .int .i64 q1.Y], .int .i64 q2].toArray w (Ret w (T171 r)) := by
  subst l_0_2
  unfold sh171 at hres
  refine calls_of (n := 60) (M := []) (es := []) Go.Proofs.Try.func171 rfl rfl rfl (Sep.nil _ _ _) ?_
  refine JX.seq ?_
  refine JX.region ?_
  refine JL.eff (ef_box rfl rfl) rfl ?_
  rintro _ _ ⟨g1, rfl, rfl⟩
  refine JL.eff (ef_box rfl rfl) rfl ?_
  rintro _ _ ⟨g3, rfl, rfl⟩
  refine JL.eff (ef_alloc i93 i93z rfl) rfl ?_
  rintro _ _ ⟨g5, rfl, rfl⟩
  refine JL.val (yl_assign rfl) rfl ?_
  refine JL.nil ?_
  refine JE.weak (env' := [(2, .int .i64 q2), (3, ptrAt (some ⟨g1, 0, none⟩) 0), (4, ptrAt (some ⟨g3, 0, none⟩) 0), (6, ptrAt (some ⟨g5, 0, none⟩) 0)]) (es' := [boxO 39 g1 [.int .i64 q0.W, .int .i64 q0.H, .slice a_0_2 q0.Breaks.length c_0_2], boxO 93 g3 [.int .i64 q1.X, .int .i64 q1.Y], boxO 93 g5 [.int .i64 0, .int .i64 0]]) [0, 1, 2] ?_ ⟨rfl, rfl, rfl, rfl, trivial⟩ (by decide) rfl
  refine JE.code ?_
  refine JX.seq ?_
  refine JX.region ?_
  refine JL.val (yl_build rfl (fun w => bld93_  w)) rfl ?_
  refine JL.eff (ef_alloc i93 i93z rfl) rfl ?_
  rintro _ _ ⟨g7, rfl, rfl⟩
  refine JL.eff (ef_store_box (i := 3) (v := .agg #[.int .i64 0, .int .i64 0]) i93 rfl rfl rfl (i93s).symm (Nat.le_of_ble_eq_true rfl) (by simp [Value.cells, Value.oneCell'])) rfl ?_
  rintro _ _ rfl
  refine JL.val (yl_assign rfl) rfl ?_
  refine JL.nil ?_
  refine JE.weak (env' := [(2, .int .i64 q2), (3, ptrAt (some ⟨g1, 0, none⟩) 0), (4, ptrAt (some ⟨g3, 0, none⟩) 0), (6, ptrAt (some ⟨g5, 0, none⟩) 0), (8, ptrAt (some ⟨g7, 0, none⟩) 0), (9, .int .i64 (-1))]) (es' := [boxO 39 g1 [.int .i64 q0.W, .int .i64 q0.H, .slice a_0_2 q0.Breaks.length c_0_2], boxO 93 g3 [.int .i64 q1.X, .int .i64 q1.Y], boxO 93 g5 [.int .i64 0, .int .i64 0], boxO 93 g7 [.int .i64 0, .int .i64 0]]) [0, 1, 2, 3] ?_ ⟨rfl, rfl, rfl, rfl, rfl, rfl, trivial⟩ (by decide) rfl
  refine JE.code ?_
  refine JX.seq ?_
  refine JX.seq ?_
  refine JX.region ?_
  refine JL.val (yl_loadn Go.Proofs.Try.underlying39 rfl i39 rfl (fun w hC => rd_box hC 0 rfl) rfl (i39s).symm i39p) rfl ?_
  obtain ⟨x9, hx9, hres⟩ := bind_some hres
  refine JL.eff (ef_call (vs := [.agg #[.int .i64 q0.W, .int .i64 q0.H, .slice a_0_2 q0.Breaks.length c_0_2]]) (T := T188 x9) Go.Proofs.Try.func188 rfl (by kernel_rfl) rfl (fun w hC => c188 (q0 := q0) (rd_arg g_0_2 hC) rfl k_0_2 hx9)) rfl ?_
  rintro _ _ ⟨_, ⟨a10, _, cp11, rfl, rfl, rfl⟩, rfl⟩
  refine JL.val (yl_len_slice Go.Proofs.Try.underlying22 rfl) rfl ?_
  refine JL.val (yl_move rfl) rfl ?_
  refine JL.nil ?_
  refine JE.weak (env' := [(2, .int .i64 q2), (4, ptrAt (some ⟨g3, 0, none⟩) 0), (6, ptrAt (some ⟨g5, 0, none⟩) 0), (8, ptrAt (some ⟨g7, 0, none⟩) 0), (9, .int .i64 (-1)), (17, .slice a10 x9.length cp11), (18, .int .i64 (x9.length : Int)), (19, .int .i64 0)]) (es' := [boxO 93 g3 [.int .i64 q1.X, .int .i64 q1.Y], boxO 93 g5 [.int .i64 0, .int .i64 0], boxO 93 g7 [.int .i64 0, .int .i64 0], rowT 93 eSPoint a10 x9.length cp11 x9]) [1, 2, 3, 4] ?_ ⟨rfl, rfl, rfl, rfl, rfl, rfl, rfl, rfl, trivial⟩ (by decide) rfl
  refine JE.code ?_
  refine JX.block ?_
  obtain ⟨y1, hy1, hresO1⟩ := bind_some hres
  refine JX.loop (I := fun (s1 : Int × Int × SPoint) aa ww => St w [] 60 [(2, .int .i64 q2), (4, ptrAt (some ⟨g3, 0, none⟩) 0), (6, ptrAt (some ⟨g5, 0, none⟩) 0), (8, ptrAt (some ⟨g7, 0, none⟩) 0), (9, .int .i64 s1.1), (17, .slice a10 x9.length cp11), (18, .int .i64 (x9.length : Int)), (19, .int .i64 s1.2.1)] [boxO 93 g3 [.int .i64 q1.X, .int .i64 q1.Y], boxO 93 g5 [.int .i64 0, .int .i64 0], boxO 93 g7 [.int .i64 s1.2.2.X, .int .i64 s1.2.2.Y], rowT 93 eSPoint a10 x9.length cp11 x9] aa ww) (sh171_1 q1 q2 x9) hy1 (fun a w h => h.weak ⟨rfl, rfl, rfl, rfl, rfl, rfl, rfl, rfl, trivial⟩ [0, 1, 2, 3] (by decide) rfl) ?_
  rintro ⟨x13, x14, x15⟩ o1 hres hox1 aa ww hS
  refine (?_ : JX Go.Proofs.Try.prog w [] 60 _ _ [(2, .int .i64 q2), (4, ptrAt (some ⟨g3, 0, none⟩) 0), (6, ptrAt (some ⟨g5, 0, none⟩) 0), (8, ptrAt (some ⟨g7, 0, none⟩) 0), (9, .int .i64 x13), (17, .slice a10 x9.length cp11), (18, .int .i64 (x9.length : Int)), (19, .int .i64 x14)] [boxO 93 g3 [.int .i64 q1.X, .int .i64 q1.Y], boxO 93 g5 [.int .i64 0, .int .i64 0], boxO 93 g7 [.int .i64 x15.X, .int .i64 x15.Y], rowT 93 eSPoint a10 x9.length cp11 x9] _) aa ww hS
  clear hS
  simp only [sh171_1] at hres
  refine JX.seq ?_
  refine JX.region ?_
  refine JL.val (yl_lss rfl rfl) rfl ?_
  refine JL.nil ?_
  refine JE.code ?_
  refine JX.seq ?_
  rcases cond_some hres with ⟨hb, hres⟩ | ⟨hb, hres⟩
  · refine JX.condT rfl hb ?_
    refine JX.skip ?_
    refine JE.code ?_
    refine JX.seq ?_
    refine JX.block ?_
    refine JX.seq ?_
    refine JX.region ?_
    obtain ⟨x16, hx16, hres⟩ := bind_some hres
    refine JL.val (yl_idxT Go.Proofs.Try.underlying22 i93 i93s rfl rfl hx16 rfl (fun w hC => rd_row hC 3 rfl)) rfl ?_
    refine JL.val (yl_loadTn Go.Proofs.Try.underlying93 rfl i93 i93s rfl hx16 (fun w hC => rd_row hC 3 rfl)) rfl ?_
    refine JL.eff (ef_alloc i93 i93z rfl) rfl ?_
    rintro _ _ ⟨g17, rfl, rfl⟩
    refine JL.eff (ef_store_box (i := 4) (v := .agg #[.int .i64 x16.X, .int .i64 x16.Y]) i93 rfl rfl rfl (i93s).symm (Nat.le_of_ble_eq_true rfl) (by simp [Value.cells, Value.oneCell'])) rfl ?_
    rintro _ _ rfl
    refine JL.nil ?_
    refine JE.weak (env' := [(2, .int .i64 q2), (4, ptrAt (some ⟨g3, 0, none⟩) 0), (6, ptrAt (some ⟨g5, 0, none⟩) 0), (8, ptrAt (some ⟨g7, 0, none⟩) 0), (9, .int .i64 x13), (11, ptrAt (some ⟨g17, 0, none⟩) 0), (17, .slice a10 x9.length cp11), (18, .int .i64 (x9.length : Int)), (19, .int .i64 x14)]) (es' := [boxO 93 g3 [.int .i64 q1.X, .int .i64 q1.Y], boxO 93 g5 [.int .i64 0, .int .i64 0], boxO 93 g7 [.int .i64 x15.X, .int .i64 x15.Y], boxO 93 g17 [.int .i64 x16.X, .int .i64 x16.Y], rowT 93 eSPoint a10 x9.length cp11 x9]) [0, 1, 2, 4, 3] ?_ ⟨rfl, rfl, rfl, rfl, rfl, rfl, rfl, rfl, rfl, trivial⟩ (by decide) rfl
    refine JE.code ?_
    refine JX.seq ?_
    refine JX.drawH [(0, .pure), (1, .read), (2, .pure), (3, .pure), (4, .pure), (5, .read), (6, .pure), (7, .pure), (8, .read), (9, .pure), (10, .pure), (11, .pure), (12, .read), (13, .pure), (14, .pure), (15, .pure)] [] [] [0, 1, 2, 3, 4] [] [boxO 93 g3 [.int .i64 q1.X, .int .i64 q1.Y], boxO 93 g5 [.int .i64 0, .int .i64 0], boxO 93 g7 [.int .i64 x15.X, .int .i64 x15.Y], boxO 93 g17 [.int .i64 x16.X, .int .i64 x16.Y], rowT 93 eSPoint a10 x9.length cp11 x9] mixedP (by kernel_rfl) (by kernel_rfl) (by decide) rfl rfl ?_
    intro wrr19 Nr19 hFr19
    refine JH.pure rfl (yl_fieldAt (a := some _) Go.Proofs.Try.underlying93 rfl i2 i2n rfl rfl) rfl ?_
    refine JH.read rfl (yl_load1 Go.Proofs.Try.underlying2 rfl rfl (fun w hw => hFr19.box 3 rfl rfl hw) rfl) rfl ?_
    refine JH.pure rfl (yl_move rfl) rfl ?_
    refine JH.pure rfl (yl_mul rfl rfl) rfl ?_
    refine JH.pure rfl (yl_fieldAt (a := some _) Go.Proofs.Try.underlying93 rfl i2 i2n rfl rfl) rfl ?_
    refine JH.read rfl (yl_load1 Go.Proofs.Try.underlying2 rfl rfl (fun w hw => hFr19.box 0 rfl rfl hw) rfl) rfl ?_
    refine JH.pure rfl (yl_sub rfl rfl) rfl ?_
    refine JH.pure rfl (yl_fieldAt (a := some _) Go.Proofs.Try.underlying93 rfl i2 i2n rfl rfl) rfl ?_
    refine JH.read rfl (yl_load1 Go.Proofs.Try.underlying2 rfl rfl (fun w hw => hFr19.box 3 rfl rfl hw) rfl) rfl ?_
    refine JH.pure rfl (yl_move rfl) rfl ?_
    refine JH.pure rfl (yl_mul rfl rfl) rfl ?_
    refine JH.pure rfl (yl_fieldAt (a := some _) Go.Proofs.Try.underlying93 rfl i2 i2n rfl rfl) rfl ?_
    refine JH.read rfl (yl_load1 Go.Proofs.Try.underlying2 rfl rfl (fun w hw => hFr19.box 0 rfl rfl hw) rfl) rfl ?_
    refine JH.pure rfl (yl_sub rfl rfl) rfl ?_
    refine JH.pure rfl (yl_assign rfl) rfl ?_
    refine JH.pure rfl (yl_assign rfl) rfl ?_
    refine JH.nil ?_
    refine JE.weak (env' := [(2, .int .i64 q2), (4, ptrAt (some ⟨g3, 0, none⟩) 0), (6, ptrAt (some ⟨g5, 0, none⟩) 0), (8, ptrAt (some ⟨g7, 0, none⟩) 0), (9, .int .i64 x13), (11, ptrAt (some ⟨g17, 0, none⟩) 0), (12, .int .i64 (w64 ((w64 (x16.X * q2)) - q1.X))), (13, .int .i64 (w64 ((w64 (x16.Y * q2)) - q1.Y))), (17, .slice a10 x9.length cp11), (18, .int .i64 (x9.length : Int)), (19, .int .i64 x14)]) (es' := [boxO 93 g3 [.int .i64 q1.X, .int .i64 q1.Y], boxO 93 g5 [.int .i64 0, .int .i64 0], boxO 93 g7 [.int .i64 x15.X, .int .i64 x15.Y], boxO 93 g17 [.int .i64 x16.X, .int .i64 x16.Y], rowT 93 eSPoint a10 x9.length cp11 x9]) [0, 1, 2, 3, 4] ?_ ⟨rfl, rfl, rfl, rfl, rfl, rfl, rfl, rfl, rfl, rfl, rfl, trivial⟩ (by decide) rfl
    refine JE.code ?_
    refine JX.seq ?_
    refine JX.region ?_
    refine JL.val (yl_move rfl) rfl ?_
    refine JL.val (yl_move rfl) rfl ?_
    refine JL.val (yl_mul rfl rfl) rfl ?_
    refine JL.val (yl_move rfl) rfl ?_
    refine JL.val (yl_move rfl) rfl ?_
    refine JL.val (yl_mul rfl rfl) rfl ?_
    refine JL.val (yl_add rfl rfl) rfl ?_
    refine JL.val (yl_assign rfl) rfl ?_
    refine JL.nil ?_
    refine JE.weak (env' := [(2, .int .i64 q2), (4, ptrAt (some ⟨g3, 0, none⟩) 0), (6, ptrAt (some ⟨g5, 0, none⟩) 0), (8, ptrAt (some ⟨g7, 0, none⟩) 0), (9, .int .i64 x13), (11, ptrAt (some ⟨g17, 0, none⟩) 0), (14, .int .i64 (w64 ((w64 ((w64 ((w64 (x16.X * q2)) - q1.X)) * (w64 ((w64 (x16.X * q2)) - q1.X)))) + (w64 ((w64 ((w64 (x16.Y * q2)) - q1.Y)) * (w64 ((w64 (x16.Y * q2)) - q1.Y))))))), (17, .slice a10 x9.length cp11), (18, .int .i64 (x9.length : Int)), (19, .int .i64 x14)]) (es' := [boxO 93 g3 [.int .i64 q1.X, .int .i64 q1.Y], boxO 93 g5 [.int .i64 0, .int .i64 0], boxO 93 g7 [.int .i64 x15.X, .int .i64 x15.Y], boxO 93 g17 [.int .i64 x16.X, .int .i64 x16.Y], rowT 93 eSPoint a10 x9.length cp11 x9]) [0, 1, 2, 3, 4] ?_ ⟨rfl, rfl, rfl, rfl, rfl, rfl, rfl, rfl, rfl, rfl, trivial⟩ (by decide) rfl
    refine JE.code ?_
    refine JX.seq ?_
    refine JX.region ?_
    refine JL.val (yl_move rfl) rfl ?_
    refine JL.val (yl_lss rfl rfl) rfl ?_
    refine JL.val (yl_move rfl) rfl ?_
    refine JL.cut (K := fun J => J [(2, .int .i64 q2), (4, ptrAt (some ⟨g3, 0, none⟩) 0), (6, ptrAt (some ⟨g5, 0, none⟩) 0), (8, ptrAt (some ⟨g7, 0, none⟩) 0), (9, .int .i64 x13), (11, ptrAt (some ⟨g17, 0, none⟩) 0), (14, .int .i64 (w64 ((w64 ((w64 ((w64 (x16.X * q2)) - q1.X)) * (w64 ((w64 (x16.X * q2)) - q1.X)))) + (w64 ((w64 ((w64 (x16.Y * q2)) - q1.Y)) * (w64 ((w64 (x16.Y * q2)) - q1.Y))))))), (17, .slice a10 x9.length cp11), (18, .int .i64 (x9.length : Int)), (19, .int .i64 x14), (50, .bool ((decide (x13 < 0)) || (decide ((w64 ((w64 ((w64 ((w64 (x16.X * q2)) - q1.X)) * (w64 ((w64 (x16.X * q2)) - q1.X)))) + (w64 ((w64 ((w64 (x16.Y * q2)) - q1.Y)) * (w64 ((w64 (x16.Y * q2)) - q1.Y)))))) < x13))))] [boxO 93 g3 [.int .i64 q1.X, .int .i64 q1.Y], boxO 93 g5 [.int .i64 0, .int .i64 0], boxO 93 g7 [.int .i64 x15.X, .int .i64 x15.Y], boxO 93 g17 [.int .i64 x16.X, .int .i64 x16.Y], rowT 93 eSPoint a10 x9.length cp11 x9]) 4 ?_ ?_
    · refine JL.nil ?_
      refine JE.weak (env' := [(2, .int .i64 q2), (4, ptrAt (some ⟨g3, 0, none⟩) 0), (6, ptrAt (some ⟨g5, 0, none⟩) 0), (8, ptrAt (some ⟨g7, 0, none⟩) 0), (9, .int .i64 x13), (11, ptrAt (some ⟨g17, 0, none⟩) 0), (14, .int .i64 (w64 ((w64 ((w64 ((w64 (x16.X * q2)) - q1.X)) * (w64 ((w64 (x16.X * q2)) - q1.X)))) + (w64 ((w64 ((w64 (x16.Y * q2)) - q1.Y)) * (w64 ((w64 (x16.Y * q2)) - q1.Y))))))), (17, .slice a10 x9.length cp11), (18, .int .i64 (x9.length : Int)), (19, .int .i64 x14), (50, .bool ((decide (x13 < 0)) || (decide ((w64 ((w64 ((w64 ((w64 (x16.X * q2)) - q1.X)) * (w64 ((w64 (x16.X * q2)) - q1.X)))) + (w64 ((w64 ((w64 (x16.Y * q2)) - q1.Y)) * (w64 ((w64 (x16.Y * q2)) - q1.Y)))))) < x13))))]) (es' := [boxO 93 g3 [.int .i64 q1.X, .int .i64 q1.Y], boxO 93 g5 [.int .i64 0, .int .i64 0], boxO 93 g7 [.int .i64 x15.X, .int .i64 x15.Y], boxO 93 g17 [.int .i64 x16.X, .int .i64 x16.Y], rowT 93 eSPoint a10 x9.length cp11 x9]) [0, 1, 2, 3, 4] ?_ ⟨rfl, rfl, rfl, rfl, rfl, rfl, rfl, rfl, rfl, rfl, rfl, trivial⟩ (by decide) rfl
      refine JE.code ?_
      obtain ⟨j20, hj20, hresj20⟩ := bind_some hres
      refine JX.cut (K := fun J => J [(2, .int .i64 q2), (4, ptrAt (some ⟨g3, 0, none⟩) 0), (6, ptrAt (some ⟨g5, 0, none⟩) 0), (8, ptrAt (some ⟨g7, 0, none⟩) 0), (9, .int .i64 j20.1), (17, .slice a10 x9.length cp11), (18, .int .i64 (x9.length : Int)), (19, .int .i64 x14)] [boxO 93 g3 [.int .i64 q1.X, .int .i64 q1.Y], boxO 93 g5 [.int .i64 0, .int .i64 0], boxO 93 g7 [.int .i64 j20.2.X, .int .i64 j20.2.Y], rowT 93 eSPoint a10 x9.length cp11 x9]) ?_ ?_
      · have hres := hresj20
        refine JE.code ?_
        refine JX.region ?_
        refine JL.val (yl_add rfl rfl) rfl ?_
        refine JL.val (yl_move rfl) rfl ?_
        refine JL.nil ?_
        refine JE.cont hres ?_
        exact fun a w h => h.weak ⟨rfl, rfl, rfl, rfl, rfl, rfl, rfl, rfl, trivial⟩ [0, 1, 2, 3] (by decide) rfl
      · intro K
        rcases cond_some hj20 with ⟨hb, hres⟩ | ⟨hb, hres⟩
        · refine JX.condT rfl hb ?_
          refine JX.region ?_
          refine JL.val (yl_loadn Go.Proofs.Try.underlying93 rfl i93 rfl (fun w hC => rd_box hC 3 rfl) rfl (i93s).symm i93p) rfl ?_
          refine JL.val (yl_move rfl) rfl ?_
          refine JL.eff (ef_store_box (i := 2) (v := .agg #[.int .i64 x16.X, .int .i64 x16.Y]) i93 rfl rfl rfl (i93s).symm (Nat.le_of_ble_eq_true rfl) (by simp [Value.cells, Value.oneCell'])) rfl ?_
          rintro _ _ rfl
          refine JL.val (yl_assign rfl) rfl ?_
          refine JL.nil ?_
          refine JE.weak (env' := [(2, .int .i64 q2), (4, ptrAt (some ⟨g3, 0, none⟩) 0), (6, ptrAt (some ⟨g5, 0, none⟩) 0), (8, ptrAt (some ⟨g7, 0, none⟩) 0), (9, .int .i64 (w64 ((w64 ((w64 ((w64 (x16.X * q2)) - q1.X)) * (w64 ((w64 (x16.X * q2)) - q1.X)))) + (w64 ((w64 ((w64 (x16.Y * q2)) - q1.Y)) * (w64 ((w64 (x16.Y * q2)) - q1.Y))))))), (17, .slice a10 x9.length cp11), (18, .int .i64 (x9.length : Int)), (19, .int .i64 x14)]) (es' := [boxO 93 g3 [.int .i64 q1.X, .int .i64 q1.Y], boxO 93 g5 [.int .i64 0, .int .i64 0], boxO 93 g7 [.int .i64 x16.X, .int .i64 x16.Y], rowT 93 eSPoint a10 x9.length cp11 x9]) [0, 1, 2, 4] ?_ ⟨rfl, rfl, rfl, rfl, rfl, rfl, rfl, rfl, trivial⟩ (by decide) rfl
          have hj := Option.some.inj hres
          exact JE.weak [0, 1, 2, 3] (K) ⟨(by subst hj; rfl), (by subst hj; rfl), (by subst hj; rfl), (by subst hj; rfl), (by subst hj; rfl), (by subst hj; rfl), (by subst hj; rfl), (by subst hj; rfl), trivial⟩ (by decide) (by subst hj; rfl)
        · refine JX.condF rfl hb ?_
          refine JX.skip ?_
          have hj := Option.some.inj hres
          exact JE.weak [0, 1, 2, 4] (K) ⟨(by subst hj; rfl), (by subst hj; rfl), (by subst hj; rfl), (by subst hj; rfl), (by subst hj; rfl), (by subst hj; rfl), (by subst hj; rfl), (by subst hj; rfl), trivial⟩ (by decide) (by subst hj; rfl)
    · intro K
      rcases Bool.eq_false_or_eq_true (decide (x13 < 0)) with hb | hb
      · refine JL.set (d := 46) (v := .bool true) (congrArg (fun b => some (Value.bool b)) hb) ?_
        refine JL.gskip rfl rfl rfl rfl ?_
        refine JL.gskip rfl rfl rfl rfl ?_
        refine JL.gskip rfl rfl rfl rfl ?_
        refine JL.val (yl_pick_true rfl rfl) rfl ?_
        exact JL.weak [0, 1, 2, 3, 4] K ⟨rfl, rfl, rfl, rfl, rfl, rfl, rfl, rfl, rfl, rfl, (by rw [hb]; rfl), trivial⟩ (by decide) rfl
      · refine JL.set (d := 46) (v := .bool false) (congrArg (fun b => some (Value.bool b)) hb) ?_
        refine JL.gval rfl rfl (yl_move rfl) rfl ?_
        refine JL.gval rfl rfl (yl_move rfl) rfl ?_
        refine JL.gval rfl rfl (yl_lss rfl rfl) rfl ?_
        refine JL.val (yl_pick_false rfl rfl) rfl ?_
        exact JL.weak [0, 1, 2, 3, 4] K ⟨rfl, rfl, rfl, rfl, rfl, rfl, rfl, rfl, rfl, rfl, (by rw [hb]; rfl), trivial⟩ (by decide) rfl
  · refine JX.condF rfl hb ?_
    refine JX.exit ?_
    refine JE.qb rfl ?_
    obtain ⟨b1, hb1⟩ : ∃ b : Int × SPoint, b = (x13, x15) := ⟨_, rfl⟩
    have hy1 : b1 = y1 := by rw [hb1]; exact hox1 _ (Option.some.inj hres).symm
    have hres := hresO1
    rw [← hy1] at hres
    refine JE.weak (env' := [(2, .int .i64 q2), (6, ptrAt (some ⟨g5, 0, none⟩) 0), (8, ptrAt (some ⟨g7, 0, none⟩) 0), (9, .int .i64 b1.1)]) (es' := [boxO 93 g5 [.int .i64 0, .int .i64 0], boxO 93 g7 [.int .i64 b1.2.X, .int .i64 b1.2.Y]]) [1, 2] ?_ ⟨(by subst hb1; rfl), (by subst hb1; rfl), (by subst hb1; rfl), (by subst hb1; rfl), trivial⟩ (by decide) (by subst hb1; rfl)
    refine JE.code ?_
    refine JX.seq ?_
    refine JX.region ?_
    refine JL.val (yl_loadn Go.Proofs.Try.underlying93 rfl i93 rfl (fun w hC => rd_box hC 1 rfl) rfl (i93s).symm i93p) rfl ?_
    refine JL.val (yl_move rfl) rfl ?_
    refine JL.val (yl_move rfl) rfl ?_
    refine JL.val (yl_move rfl) rfl ?_
    refine JL.val (yl_mul rfl rfl) rfl ?_
    refine JL.val (yl_leq rfl rfl) rfl ?_
    refine JL.eff (ef_store_box (i := 0) (v := .agg #[.int .i64 b1.2.X, .int .i64 b1.2.Y]) i93 rfl rfl rfl (i93s).symm (Nat.le_of_ble_eq_true rfl) (by simp [Value.cells, Value.oneCell'])) rfl ?_
    rintro _ _ rfl
    refine JL.val (yl_assign rfl) rfl ?_
    refine JL.nil ?_
    refine JE.weak (env' := [(6, ptrAt (some ⟨g5, 0, none⟩) 0), (7, .bool (decide (b1.1 ≤ (w64 (q2 * q2)))))]) (es' := [boxO 93 g5 [.int .i64 b1.2.X, .int .i64 b1.2.Y]]) [0] ?_ ⟨rfl, rfl, trivial⟩ (by decide) rfl
    refine JE.code ?_
    refine JX.ret ?_
    obtain rfl := Option.some.inj hres
    refine JE.ret (rs := [.cell 6 93, .tmp 7]) (vs := [.agg #[.int .i64 b1.2.X, .int .i64 b1.2.Y], .bool (decide (b1.1 ≤ (w64 (q2 * q2))))]) rfl ⟨rv_box 0 rfl rfl Go.Proofs.Try.underlying93 rfl i93 (i93s).symm, rfl, trivial⟩ ?_
    exact fun w' hb hs => ⟨_, _, ⟨rfl, rfl⟩, rfl, hb, hs.sel [] _ (by decide) rfl⟩

/- (impl.Panel).isBorder -/
def sh172 (q0 : SPanel) (q1 : SPoint) : Option (Bool) := some ((((q1.X == 0) || (q1.X == (w64 (2 * q0.W)))) || (q1.Y == 0)) || (q1.Y == (w64 (2 * q0.H))))
def T172 (r : Bool) (v : Value) (rs : List Own) : Prop := v = rets [.bool r] ∧ rs = []
set_option maxRecDepth 100000 in
theorem c172 {w : World} {q0 : SPanel} {a_0_2 : Option Addr} {n_0_2 c_0_2 : Nat} (g_0_2 : Rd w a_0_2 (eI64.fl q0.Breaks)) (l_0_2 : q0.Breaks.length = n_0_2) (k_0_2 : n_0_2 ≤ c_0_2) {q1 : SPoint} {r : Bool} (hres : sh172 q0 q1 = some r) : Calls Go.Proofs.Try.prog 172 [.agg #[.int .i64 q0.W, .int .i64 q0.H, .slice a_0_2 n_0_2 c_0_2], .agg #[.int .i64 q1.X, .int .i64 q1.Y]].toArray w (Ret w (T172 r)) := by
  subst l_0_2
  unfold sh172 at hres
  refine calls_of (n := 29) (M := []) (es := []) Go.Proofs.Try.func172 rfl rfl rfl (Sep.nil _ _ _) ?_
  refine JX.seq ?_
  refine JX.region ?_
  refine JL.eff (ef_box rfl rfl) rfl ?_
  rintro _ _ ⟨g1, rfl, rfl⟩
  refine JL.eff (ef_box rfl rfl) rfl ?_
  rintro _ _ ⟨g3, rfl, rfl⟩
  refine JL.val (yl_assign rfl) rfl ?_
  refine JL.nil ?_
  refine JE.code ?_
  refine JX.seq ?_
  refine JX.region ?_
  refine JL.val (yl_fieldAt (a := some _) Go.Proofs.Try.underlying93 rfl i2 i2n rfl rfl) rfl ?_
  refine JL.val (yl_load1 Go.Proofs.Try.underlying2 rfl rfl (fun w hC => rd_box hC 1 rfl) rfl) rfl ?_
  refine JL.val (yl_eql rfl rfl) rfl ?_
  refine JL.val (yl_move rfl) rfl ?_
  refine JL.cut (K := fun J => J [(2, ptrAt (some ⟨g1, 0, none⟩) 0), (3, ptrAt (some ⟨g3, 0, none⟩) 0), (15, .bool ((q1.X == 0) || (q1.X == (w64 (2 * q0.W)))))] [boxO 39 g1 [.int .i64 q0.W, .int .i64 q0.H, .slice a_0_2 q0.Breaks.length c_0_2], boxO 93 g3 [.int .i64 q1.X, .int .i64 q1.Y]]) 7 ?_ ?_
  · refine JL.val (yl_move rfl) rfl ?_
    refine JL.cut (K := fun J => J [(2, ptrAt (some ⟨g1, 0, none⟩) 0), (3, ptrAt (some ⟨g3, 0, none⟩) 0), (20, .bool (((q1.X == 0) || (q1.X == (w64 (2 * q0.W)))) || (q1.Y == 0)))] [boxO 39 g1 [.int .i64 q0.W, .int .i64 q0.H, .slice a_0_2 q0.Breaks.length c_0_2], boxO 93 g3 [.int .i64 q1.X, .int .i64 q1.Y]]) 4 ?_ ?_
    · refine JL.val (yl_move rfl) rfl ?_
      refine JL.cut (K := fun J => J [(28, .bool ((((q1.X == 0) || (q1.X == (w64 (2 * q0.W)))) || (q1.Y == 0)) || (q1.Y == (w64 (2 * q0.H)))))] []) 7 ?_ ?_
      · refine JL.val (yl_assign rfl) rfl ?_
        refine JL.nil ?_
        refine JE.weak (env' := [(4, .bool ((((q1.X == 0) || (q1.X == (w64 (2 * q0.W)))) || (q1.Y == 0)) || (q1.Y == (w64 (2 * q0.H)))))]) (es' := []) [] ?_ ⟨rfl, trivial⟩ (by decide) rfl
        refine JE.code ?_
        refine JX.ret ?_
        obtain rfl := Option.some.inj hres
        refine JE.ret (rs := [.tmp 4]) (vs := [.bool ((((q1.X == 0) || (q1.X == (w64 (2 * q0.W)))) || (q1.Y == 0)) || (q1.Y == (w64 (2 * q0.H))))]) rfl ⟨rfl, trivial⟩ ?_
        exact fun w' hb hs => ⟨_, _, ⟨rfl, rfl⟩, rfl, hb, hs.sel [] _ (by decide) rfl⟩
      · intro K
        rcases Bool.eq_false_or_eq_true (((q1.X == 0) || (q1.X == (w64 (2 * q0.W)))) || (q1.Y == 0)) with hb | hb
        · refine JL.set (d := 21) (v := .bool true) (congrArg (fun b => some (Value.bool b)) hb) ?_
          refine JL.gskip rfl rfl rfl rfl ?_
          refine JL.gskip rfl rfl rfl rfl ?_
          refine JL.gskip rfl rfl rfl rfl ?_
          refine JL.gskip rfl rfl rfl rfl ?_
          refine JL.gskip rfl rfl rfl rfl ?_
          refine JL.gskip rfl rfl rfl rfl ?_
          refine JL.val (yl_pick_true rfl rfl) rfl ?_
          exact JL.weak [] K ⟨(by rw [hb]; rfl), trivial⟩ (by decide) rfl
        · refine JL.set (d := 21) (v := .bool false) (congrArg (fun b => some (Value.bool b)) hb) ?_
          refine JL.gval rfl rfl (yl_fieldAt (a := some _) Go.Proofs.Try.underlying93 rfl i2 i2n rfl rfl) rfl ?_
          refine JL.gval rfl rfl (yl_load1 Go.Proofs.Try.underlying2 rfl rfl (fun w hC => rd_box hC 1 rfl) rfl) rfl ?_
          refine JL.gval rfl rfl (yl_fieldAt (a := some _) Go.Proofs.Try.underlying39 rfl i2 i2n rfl rfl) rfl ?_
          refine JL.gval rfl rfl (yl_load1 Go.Proofs.Try.underlying2 rfl rfl (fun w hC => rd_box hC 0 rfl) rfl) rfl ?_
          refine JL.gval rfl rfl (yl_mul rfl rfl) rfl ?_
          refine JL.gval rfl rfl (yl_eql rfl rfl) rfl ?_
          refine JL.val (yl_pick_false rfl rfl) rfl ?_
          exact JL.weak [] K ⟨(by rw [hb]; rfl), trivial⟩ (by decide) rfl
    · intro K
      rcases Bool.eq_false_or_eq_true ((q1.X == 0) || (q1.X == (w64 (2 * q0.W)))) with hb | hb
      · refine JL.set (d := 16) (v := .bool true) (congrArg (fun b => some (Value.bool b)) hb) ?_
        refine JL.gskip rfl rfl rfl rfl ?_
        refine JL.gskip rfl rfl rfl rfl ?_
        refine JL.gskip rfl rfl rfl rfl ?_
        refine JL.val (yl_pick_true rfl rfl) rfl ?_
        exact JL.weak [0, 1] K ⟨rfl, rfl, (by rw [hb]; rfl), trivial⟩ (by decide) rfl
      · refine JL.set (d := 16) (v := .bool false) (congrArg (fun b => some (Value.bool b)) hb) ?_
        refine JL.gval rfl rfl (yl_fieldAt (a := some _) Go.Proofs.Try.underlying93 rfl i2 i2n rfl rfl) rfl ?_
        refine JL.gval rfl rfl (yl_load1 Go.Proofs.Try.underlying2 rfl rfl (fun w hC => rd_box hC 1 rfl) rfl) rfl ?_
        refine JL.gval rfl rfl (yl_eql rfl rfl) rfl ?_
        refine JL.val (yl_pick_false rfl rfl) rfl ?_
        exact JL.weak [0, 1] K ⟨rfl, rfl, (by rw [hb]; rfl), trivial⟩ (by decide) rfl
  · intro K
    rcases Bool.eq_false_or_eq_true (q1.X == 0) with hb | hb
    · refine JL.set (d := 8) (v := .bool true) (congrArg (fun b => some (Value.bool b)) hb) ?_
      refine JL.gskip rfl rfl rfl rfl ?_
      refine JL.gskip rfl rfl rfl rfl ?_
      refine JL.gskip rfl rfl rfl rfl ?_
      refine JL.gskip rfl rfl rfl rfl ?_
      refine JL.gskip rfl rfl rfl rfl ?_
      refine JL.gskip rfl rfl rfl rfl ?_
      refine JL.val (yl_pick_true rfl rfl) rfl ?_
      exact JL.weak [0, 1] K ⟨rfl, rfl, (by rw [hb]; rfl), trivial⟩ (by decide) rfl
    · refine JL.set (d := 8) (v := .bool false) (congrArg (fun b => some (Value.bool b)) hb) ?_
      refine JL.gval rfl rfl (yl_fieldAt (a := some _) Go.Proofs.Try.underlying93 rfl i2 i2n rfl rfl) rfl ?_
      refine JL.gval rfl rfl (yl_load1 Go.Proofs.Try.underlying2 rfl rfl (fun w hC => rd_box hC 1 rfl) rfl) rfl ?_
      refine JL.gval rfl rfl (yl_fieldAt (a := some _) Go.Proofs.Try.underlying39 rfl i2 i2n rfl rfl) rfl ?_
      refine JL.gval rfl rfl (yl_load1 Go.Proofs.Try.underlying2 rfl rfl (fun w hC => rd_box hC 0 rfl) rfl) rfl ?_
      refine JL.gval rfl rfl (yl_mul rfl rfl) rfl ?_
      refine JL.gval rfl rfl (yl_eql rfl rfl) rfl ?_
      refine JL.val (yl_pick_false rfl rfl) rfl ?_
      exact JL.weak [0, 1] K ⟨rfl, rfl, (by rw [hb]; rfl), trivial⟩ (by decide) rfl

/- slices.Clone[[]int64,int64] -/
def sh175 (q0 : List Int) : Option (List Int) := Option.bind (appL ([] : List Int) q0) fun x4 => some x4
def T175 (r : List Int) (v : Value) (rs : List Own) : Prop := ∃ (a0 : Option Addr) (n0 c0 : Nat), r.length = n0 ∧ v = rets [.slice a0 n0 c0] ∧ rs = [rowT 2 eI64 a0 n0 c0 r]
set_option maxRecDepth 100000 in
theorem c175 {w : World} {q0 : List Int} {a_0 : Option Addr} {n_0 c_0 : Nat} (g_0 : Rd w a_0 (eI64.fl q0)) (l_0 : q0.length = n_0) (k_0 : n_0 ≤ c_0) {r : List Int} (hres : sh175 q0 = some r) : Calls Go.Proofs.Try.prog 175 [.slice a_0 n_0 c_0].toArray w (Ret w (T175 r)) := by
  subst l_0
  unfold sh175 at hres
  refine calls_of (n := 8) (M := []) (es := []) Go.Proofs.Try.func175 rfl rfl rfl (Sep.nil _ _ _) ?_
  refine JX.seq ?_
  refine JX.region ?_
  refine JL.val (yl_assign rfl) rfl ?_
  refine JL.nil ?_
  refine JE.code ?_
  refine JX.seq ?_
  refine JX.seq ?_
  refine JX.region ?_
  refine JL.val (yl_move rfl) rfl ?_
  refine JL.val (yl_nilQ Go.Proofs.Try.underlying33 rfl rfl) rfl ?_
  refine JL.nil ?_
  refine JE.code ?_
  rcases nilQ g_0 with ⟨hb, hx⟩ | hb
  · replace hres : some ([] : List Int) = some r := by rw [hx] at hres; simpa [appL] using hres
    refine JX.condT rfl hb ?_
    refine JX.seq ?_
    refine JX.region ?_
    refine JL.val (yl_assign rfl) rfl ?_
    refine JL.nil ?_
    refine JE.code ?_
    refine JX.ret ?_
    refine JE.nilrow 2 eI64 ?_
    obtain rfl := Option.some.inj hres
    refine JE.ret (rs := [.tmp 2]) (vs := [.slice none 0 0]) rfl ⟨rfl, trivial⟩ ?_
    exact fun w' hb hs => ⟨_, _, ⟨none, 0, 0, rfl, rfl, rfl⟩, rfl, hb, hs.sel [0] _ (by decide) rfl⟩
  · refine JX.condF rfl hb ?_
    refine JX.skip ?_
    refine JE.code ?_
    refine JX.seq ?_
    refine JX.region ?_
    refine JL.eff (ef_buildSlice (E := 2) (k := eI64.k) (us := eI64.fl ([] : List Int)) rfl (fun w => bsl33_0  w) rfl (by decide)) rfl ?_
    rintro _ _ ⟨a2, rfl, rfl⟩
    refine JL.val (yl_move rfl) rfl ?_
    obtain ⟨x4, hx4, hres⟩ := bind_some hres
    refine JL.eff (ef_appendT (ix := 0) Go.Proofs.Try.underlying33 i2 i2z i2s rfl i2b0 i2b1 rfl rfl rfl rfl rfl (fun w hC => rd_arg g_0 hC) hx4) rfl ?_
    rintro _ _ ⟨a5, cp6, rfl, rfl⟩
    refine JL.val (yl_assign rfl) rfl ?_
    refine JL.nil ?_
    refine JE.weak (env' := [(2, .slice a5 x4.length cp6)]) (es' := [rowT 2 eI64 a5 x4.length cp6 x4]) [0] ?_ ⟨rfl, trivial⟩ (by decide) rfl
    refine JE.code ?_
    refine JX.ret ?_
    obtain rfl := Option.some.inj hres
    refine JE.ret (rs := [.tmp 2]) (vs := [.slice a5 x4.length cp6]) rfl ⟨rfl, trivial⟩ ?_
    exact fun w' hb hs => ⟨_, _, ⟨a5, x4.length, cp6, rfl, rfl, rfl⟩, rfl, hb, hs.sel [0] _ (by decide) rfl⟩

/- impl.clonePanel -/
def sh123 (q0 : SPanel) : Option (SPanel) := Option.bind (sh175 q0.Breaks) fun x5 => some (SPanel.mk q0.W q0.H x5)
def T123 (r : SPanel) (v : Value) (rs : List Own) : Prop := ∃ (a0_2 : Option Addr) (n0_2 c0_2 : Nat), r.Breaks.length = n0_2 ∧ v = rets [.agg #[.int .i64 r.W, .int .i64 r.H, .slice a0_2 n0_2 c0_2]] ∧ rs = [rowT 2 eI64 a0_2 n0_2 c0_2 r.Breaks]
set_option maxRecDepth 100000 in
theorem c123 {w : World} {q0 : SPanel} {a_0_2 : Option Addr} {n_0_2 c_0_2 : Nat} (g_0_2 : Rd w a_0_2 (eI64.fl q0.Breaks)) (l_0_2 : q0.Breaks.length = n_0_2) (k_0_2 : n_0_2 ≤ c_0_2) {r : SPanel} (hres : sh123 q0 = some r) : Calls Go.Proofs.Try.prog 123 [.agg #[.int .i64 q0.W, .int .i64 q0.H, .slice a_0_2 n_0_2 c_0_2]].toArray w (Ret w (T123 r)) := by
  subst l_0_2
  unfold sh123 at hres
  refine calls_of (n := 8) (M := []) (es := []) Go.Proofs.Try.func123 rfl rfl rfl (Sep.nil _ _ _) ?_
  refine JX.seq ?_
  refine JX.region ?_
  refine JL.eff (ef_box rfl rfl) rfl ?_
  rintro _ _ ⟨g1, rfl, rfl⟩
  refine JL.eff (ef_alloc i39 i39z rfl) rfl ?_
  rintro _ _ ⟨g3, rfl, rfl⟩
  refine JL.nil ?_
  refine JE.code ?_
  refine JX.seq ?_
  refine JX.region ?_
  refine JL.val (yl_fieldAt (a := some _) Go.Proofs.Try.underlying39 rfl i33 i33n rfl rfl) rfl ?_
  refine JL.val (yl_load1 Go.Proofs.Try.underlying33 rfl rfl (fun w hC => rd_box hC 0 rfl) rfl) rfl ?_
  obtain ⟨x5, hx5, hres⟩ := bind_some hres
  refine JL.eff (ef_call (T := T175 x5) Go.Proofs.Try.func175 rfl (by kernel_rfl) rfl (fun w hC => c175 (rd_arg g_0_2 hC) rfl k_0_2 hx5)) rfl ?_
  rintro _ _ ⟨_, ⟨a6, _, cp7, rfl, rfl, rfl⟩, rfl⟩
  refine JL.val (yl_fieldAt (a := some _) Go.Proofs.Try.underlying39 rfl i33 i33n rfl rfl) rfl ?_
  refine JL.eff (ef_store_box (i := 0) (v := .slice a6 x5.length cp7) i33 rfl rfl rfl (i33s).symm (Nat.le_of_ble_eq_true rfl) (by simp [Value.cells, Value.oneCell'])) rfl ?_
  rintro _ _ rfl
  refine JL.nil ?_
  refine JE.weak (env' := [(1, ptrAt (some ⟨g1, 0, none⟩) 0), (2, ptrAt (some ⟨g3, 0, none⟩) 0)]) (es' := [boxO 39 g1 [.int .i64 q0.W, .int .i64 q0.H, .slice a6 x5.length cp7], rowT 2 eI64 a6 x5.length cp7 x5, boxO 39 g3 [.int .i64 0, .int .i64 0, .slice none 0 0]]) [0, 2, 1] ?_ ⟨rfl, rfl, trivial⟩ (by decide) rfl
  refine JE.code ?_
  refine JX.seq ?_
  refine JX.region ?_
  refine JL.val (yl_loadn Go.Proofs.Try.underlying39 rfl i39 rfl (fun w hC => rd_box hC 0 rfl) rfl (i39s).symm i39p) rfl ?_
  refine JL.eff (ef_store_box (i := 2) (v := .agg #[.int .i64 q0.W, .int .i64 q0.H, .slice a6 x5.length cp7]) i39 rfl rfl rfl (i39s).symm (Nat.le_of_ble_eq_true rfl) (by simp [Value.cells, Value.oneCell'])) rfl ?_
  rintro _ _ rfl
  refine JL.nil ?_
  refine JE.weak (env' := [(2, ptrAt (some ⟨g3, 0, none⟩) 0)]) (es' := [boxO 39 g3 [.int .i64 q0.W, .int .i64 q0.H, .slice a6 x5.length cp7], rowT 2 eI64 a6 x5.length cp7 x5]) [2, 1] ?_ ⟨rfl, trivial⟩ (by decide) rfl
  refine JE.code ?_
  refine JX.ret ?_
  obtain rfl := Option.some.inj hres
  refine JE.ret (rs := [.cell 2 39]) (vs := [.agg #[.int .i64 q0.W, .int .i64 q0.H, .slice a6 x5.length cp7]]) rfl ⟨rv_box 0 rfl rfl Go.Proofs.Try.underlying39 rfl i39 (i39s).symm, trivial⟩ ?_
  exact fun w' hb hs => ⟨_, _, ⟨a6, x5.length, cp7, rfl, rfl, rfl⟩, rfl, hb, hs.sel [1] _ (by decide) rfl⟩

/- (impl.Panel).changed -/
def sh173 (q0 : SPanel) (q1 : Int) (q2 : Int) : Option (SPanel) := Option.bind (sh123 q0) fun x5 => Option.bind (getI x5.Breaks q1) fun x11 => some (SPanel.mk x5.W x5.H (x5.Breaks.set (q1).toNat q2))
def T173 (r : SPanel) (v : Value) (rs : List Own) : Prop := ∃ (a0_2 : Option Addr) (n0_2 c0_2 : Nat), r.Breaks.length = n0_2 ∧ v = rets [.agg #[.int .i64 r.W, .int .i64 r.H, .slice a0_2 n0_2 c0_2]] ∧ rs = [rowT 2 eI64 a0_2 n0_2 c0_2 r.Breaks]
set_option maxRecDepth 100000 in
theorem c173 {w : World} {q0 : SPanel} {a_0_2 : Option Addr} {n_0_2 c_0_2 : Nat} (g_0_2 : Rd w a_0_2 (eI64.fl q0.Breaks)) (l_0_2 : q0.Breaks.length = n_0_2) (k_0_2 : n_0_2 ≤ c_0_2) {q1 : Int} {q2 : Int} {r : SPanel} (hres : sh173 q0 q1 q2 = some r) : Calls Go.Proofs.Try.prog 173 [.agg #[.int .i64 q0.W, .int .i64 q0.H, .slice a_0_2 n_0_2 c_0_2], .int .i64 q1, .int .i64 q2].toArray w (Ret w (T173 r)) := by
  subst l_0_2
  unfold sh173 at hres
  refine calls_of (n := 16) (M := []) (es := []) Go.Proofs.Try.func173 rfl rfl rfl (Sep.nil _ _ _) ?_
  refine JX.seq ?_
  refine JX.region ?_
  refine JL.eff (ef_box rfl rfl) rfl ?_
  rintro _ _ ⟨g1, rfl, rfl⟩
  refine JL.eff (ef_alloc i39 i39z rfl) rfl ?_
  rintro _ _ ⟨g3, rfl, rfl⟩
  refine JL.nil ?_
  refine JE.code ?_
  refine JX.seq ?_
  refine JX.region ?_
  refine JL.val (yl_loadn Go.Proofs.Try.underlying39 rfl i39 rfl (fun w hC => rd_box hC 0 rfl) rfl (i39s).symm i39p) rfl ?_
  obtain ⟨x5, hx5, hres⟩ := bind_some hres
  refine JL.eff (ef_call (vs := [.agg #[.int .i64 q0.W, .int .i64 q0.H, .slice a_0_2 q0.Breaks.length c_0_2]]) (T := T123 x5) Go.Proofs.Try.func123 rfl (by kernel_rfl) rfl (fun w hC => c123 (q0 := q0) (rd_arg g_0_2 hC) rfl k_0_2 hx5)) rfl ?_
  rintro _ _ ⟨_, ⟨a6, _, cp7, rfl, rfl, rfl⟩, rfl⟩
  refine JL.eff (ef_alloc i39 i39z rfl) rfl ?_
  rintro _ _ ⟨g9, rfl, rfl⟩
  refine JL.eff (ef_store_box (i := 3) (v := .agg #[.int .i64 x5.W, .int .i64 x5.H, .slice a6 x5.Breaks.length cp7]) i39 rfl rfl rfl (i39s).symm (Nat.le_of_ble_eq_true rfl) (by simp [Value.cells, Value.oneCell'])) rfl ?_
  rintro _ _ rfl
  refine JL.nil ?_
  refine JE.weak (env' := [(1, .int .i64 q1), (2, .int .i64 q2), (6, ptrAt (some ⟨g3, 0, none⟩) 0), (7, ptrAt (some ⟨g9, 0, none⟩) 0)]) (es' := [boxO 39 g3 [.int .i64 0, .int .i64 0, .slice none 0 0], boxO 39 g9 [.int .i64 x5.W, .int .i64 x5.H, .slice a6 x5.Breaks.length cp7], rowT 2 eI64 a6 x5.Breaks.length cp7 x5.Breaks]) [1, 3, 2] ?_ ⟨rfl, rfl, rfl, rfl, trivial⟩ (by decide) rfl
  refine JE.code ?_
  refine JX.seq ?_
  refine JX.region ?_
  refine JL.val (yl_fieldAt (a := some _) Go.Proofs.Try.underlying39 rfl i33 i33n rfl rfl) rfl ?_
  refine JL.val (yl_load1 Go.Proofs.Try.underlying33 rfl rfl (fun w hC => rd_box hC 1 rfl) rfl) rfl ?_
  refine JL.val (yl_move rfl) rfl ?_
  refine JL.val (yl_move rfl) rfl ?_
  obtain ⟨x11, hx11, hres⟩ := bind_some hres
  refine JL.val (yl_idxT Go.Proofs.Try.underlying33 i2 i2s rfl rfl hx11 rfl (fun w hC => rd_row hC 2 rfl)) rfl ?_
  refine JL.eff (ef_storeT (ix := 2) (u := q2) i2 i2s rfl rfl rfl hx11 rfl) rfl ?_
  rintro _ _ rfl
  refine JL.nil ?_
  refine JE.weak (env' := [(6, ptrAt (some ⟨g3, 0, none⟩) 0), (7, ptrAt (some ⟨g9, 0, none⟩) 0)]) (es' := [boxO 39 g3 [.int .i64 0, .int .i64 0, .slice none 0 0], boxO 39 g9 [.int .i64 x5.W, .int .i64 x5.H, .slice a6 x5.Breaks.length cp7], rowT 2 eI64 a6 x5.Breaks.length cp7 (x5.Breaks.set (q1).toNat q2)]) [0, 1, 2] ?_ ⟨rfl, rfl, trivial⟩ (by decide) rfl
  refine JE.code ?_
  refine JX.seq ?_
  refine JX.region ?_
  refine JL.val (yl_loadn Go.Proofs.Try.underlying39 rfl i39 rfl (fun w hC => rd_box hC 1 rfl) rfl (i39s).symm i39p) rfl ?_
  refine JL.eff (ef_store_box (i := 0) (v := .agg #[.int .i64 x5.W, .int .i64 x5.H, .slice a6 x5.Breaks.length cp7]) i39 rfl rfl rfl (i39s).symm (Nat.le_of_ble_eq_true rfl) (by simp [Value.cells, Value.oneCell'])) rfl ?_
  rintro _ _ rfl
  refine JL.nil ?_
  refine JE.weak (env' := [(6, ptrAt (some ⟨g3, 0, none⟩) 0)]) (es' := [boxO 39 g3 [.int .i64 x5.W, .int .i64 x5.H, .slice a6 x5.Breaks.length cp7], rowT 2 eI64 a6 x5.Breaks.length cp7 (x5.Breaks.set (q1).toNat q2)]) [0, 2] ?_ ⟨rfl, trivial⟩ (by decide) rfl
  refine JE.code ?_
  refine JX.ret ?_
  obtain rfl := Option.some.inj hres
  refine JE.ret (rs := [.cell 6 39]) (vs := [.agg #[.int .i64 x5.W, .int .i64 x5.H, .slice a6 x5.Breaks.length cp7]]) rfl ⟨rv_box 0 rfl rfl Go.Proofs.Try.underlying39 rfl i39 (i39s).symm, trivial⟩ ?_
  exact fun w' hb hs => ⟨_, _, ⟨a6, x5.Breaks.length, cp7, List.length_set, rfl, rfl⟩, rfl, hb, hs.sel [1] _ (by decide) rfl⟩

/- (impl.Panel).number -/
def sh174 (q0 : SPanel) (q1 : SPoint) : Option (Int) := bif (q1.Y.tmod 2) == 1 then (some (w64 ((w64 ((w64 ((w64 ((w64 (q1.Y.tdiv 2)) * (w64 (q0.W - 1)))) + (w64 ((w64 ((w64 (q1.Y - 1)).tdiv 2)) * q0.W)))) + (w64 (q1.X.tdiv 2)))) - 1))) else (some (w64 ((w64 ((w64 ((w64 (q1.Y.tdiv 2)) * (w64 (q0.W - 1)))) + (w64 ((w64 ((w64 (q1.Y - 1)).tdiv 2)) * q0.W)))) + (w64 (q1.X.tdiv 2)))))
def T174 (r : Int) (v : Value) (rs : List Own) : Prop := v = rets [.int .i64 r] ∧ rs = []
set_option maxRecDepth 100000 in
theorem c174 {w : World} {q0 : SPanel} {a_0_2 : Option Addr} {n_0_2 c_0_2 : Nat} (g_0_2 : Rd w a_0_2 (eI64.fl q0.Breaks)) (l_0_2 : q0.Breaks.length = n_0_2) (k_0_2 : n_0_2 ≤ c_0_2) {q1 : SPoint} {r : Int} (hres : sh174 q0 q1 = some r) : Calls Go.Proofs.Try.prog 174 [.agg #[.int .i64 q0.W, .int .i64 q0.H, .slice a_0_2 n_0_2 c_0_2], .agg #[.int .i64 q1.X, .int .i64 q1.Y]].toArray w (Ret w (T174 r)) := by
  subst l_0_2
  unfold sh174 at hres
  refine calls_of (n := 36) (M := []) (es := []) Go.Proofs.Try.func174 rfl rfl rfl (Sep.nil _ _ _) ?_
  refine JX.seq ?_
  refine JX.region ?_
  refine JL.eff (ef_box rfl rfl) rfl ?_
  rintro _ _ ⟨g1, rfl, rfl⟩
  refine JL.eff (ef_box rfl rfl) rfl ?_
  rintro _ _ ⟨g3, rfl, rfl⟩
  refine JL.val (yl_assign rfl) rfl ?_
  refine JL.nil ?_
  refine JE.code ?_
  refine JX.seq ?_
  refine JX.region ?_
  refine JL.val (yl_fieldAt (a := some _) Go.Proofs.Try.underlying93 rfl i2 i2n rfl rfl) rfl ?_
  refine JL.val (yl_load1 Go.Proofs.Try.underlying2 rfl rfl (fun w hC => rd_box hC 1 rfl) rfl) rfl ?_
  refine JL.val (yl_quo rfl rfl (by decide)) rfl ?_
  refine JL.val (yl_fieldAt (a := some _) Go.Proofs.Try.underlying39 rfl i2 i2n rfl rfl) rfl ?_
  refine JL.val (yl_load1 Go.Proofs.Try.underlying2 rfl rfl (fun w hC => rd_box hC 0 rfl) rfl) rfl ?_
  refine JL.val (yl_sub rfl rfl) rfl ?_
  refine JL.val (yl_mul rfl rfl) rfl ?_
  refine JL.val (yl_fieldAt (a := some _) Go.Proofs.Try.underlying93 rfl i2 i2n rfl rfl) rfl ?_
  refine JL.val (yl_load1 Go.Proofs.Try.underlying2 rfl rfl (fun w hC => rd_box hC 1 rfl) rfl) rfl ?_
  refine JL.val (yl_sub rfl rfl) rfl ?_
  refine JL.val (yl_quo rfl rfl (by decide)) rfl ?_
  refine JL.val (yl_fieldAt (a := some _) Go.Proofs.Try.underlying39 rfl i2 i2n rfl rfl) rfl ?_
  refine JL.val (yl_load1 Go.Proofs.Try.underlying2 rfl rfl (fun w hC => rd_box hC 0 rfl) rfl) rfl ?_
  refine JL.val (yl_mul rfl rfl) rfl ?_
  refine JL.val (yl_add rfl rfl) rfl ?_
  refine JL.val (yl_assign rfl) rfl ?_
  refine JL.nil ?_
  refine JE.weak (env' := [(3, ptrAt (some ⟨g3, 0, none⟩) 0), (5, .int .i64 (w64 ((w64 ((w64 (q1.Y.tdiv 2)) * (w64 (q0.W - 1)))) + (w64 ((w64 ((w64 (q1.Y - 1)).tdiv 2)) * q0.W)))))]) (es' := [boxO 93 g3 [.int .i64 q1.X, .int .i64 q1.Y]]) [1] ?_ ⟨rfl, rfl, trivial⟩ (by decide) rfl
  refine JE.code ?_
  refine JX.seq ?_
  refine JX.seq ?_
  refine JX.region ?_
  refine JL.val (yl_fieldAt (a := some _) Go.Proofs.Try.underlying93 rfl i2 i2n rfl rfl) rfl ?_
  refine JL.val (yl_load1 Go.Proofs.Try.underlying2 rfl rfl (fun w hC => rd_box hC 0 rfl) rfl) rfl ?_
  refine JL.val (yl_rem rfl rfl (by decide)) rfl ?_
  refine JL.val (yl_eql rfl rfl) rfl ?_
  refine JL.nil ?_
  refine JE.weak (env' := [(3, ptrAt (some ⟨g3, 0, none⟩) 0), (5, .int .i64 (w64 ((w64 ((w64 (q1.Y.tdiv 2)) * (w64 (q0.W - 1)))) + (w64 ((w64 ((w64 (q1.Y - 1)).tdiv 2)) * q0.W))))), (24, .bool ((q1.Y.tmod 2) == 1))]) (es' := [boxO 93 g3 [.int .i64 q1.X, .int .i64 q1.Y]]) [0] ?_ ⟨rfl, rfl, rfl, trivial⟩ (by decide) rfl
  refine JE.code ?_
  rcases cond_some hres with ⟨hb, hres⟩ | ⟨hb, hres⟩
  · refine JX.condT rfl hb ?_
    refine JX.seq ?_
    refine JX.region ?_
    refine JL.val (yl_move rfl) rfl ?_
    refine JL.val (yl_fieldAt (a := some _) Go.Proofs.Try.underlying93 rfl i2 i2n rfl rfl) rfl ?_
    refine JL.val (yl_load1 Go.Proofs.Try.underlying2 rfl rfl (fun w hC => rd_box hC 0 rfl) rfl) rfl ?_
    refine JL.val (yl_quo rfl rfl (by decide)) rfl ?_
    refine JL.val (yl_add rfl rfl) rfl ?_
    refine JL.val (yl_sub rfl rfl) rfl ?_
    refine JL.val (yl_assign rfl) rfl ?_
    refine JL.nil ?_
    refine JE.weak (env' := [(4, .int .i64 (w64 ((w64 ((w64 ((w64 ((w64 (q1.Y.tdiv 2)) * (w64 (q0.W - 1)))) + (w64 ((w64 ((w64 (q1.Y - 1)).tdiv 2)) * q0.W)))) + (w64 (q1.X.tdiv 2)))) - 1)))]) (es' := []) [] ?_ ⟨rfl, trivial⟩ (by decide) rfl
    refine JE.code ?_
    refine JX.ret ?_
    obtain rfl := Option.some.inj hres
    refine JE.ret (rs := [.tmp 4]) (vs := [.int .i64 (w64 ((w64 ((w64 ((w64 ((w64 (q1.Y.tdiv 2)) * (w64 (q0.W - 1)))) + (w64 ((w64 ((w64 (q1.Y - 1)).tdiv 2)) * q0.W)))) + (w64 (q1.X.tdiv 2)))) - 1))]) rfl ⟨rfl, trivial⟩ ?_
    exact fun w' hb hs => ⟨_, _, ⟨rfl, rfl⟩, rfl, hb, hs.sel [] _ (by decide) rfl⟩
  · refine JX.condF rfl hb ?_
    refine JX.skip ?_
    refine JE.code ?_
    refine JX.seq ?_
    refine JX.region ?_
    refine JL.val (yl_move rfl) rfl ?_
    refine JL.val (yl_fieldAt (a := some _) Go.Proofs.Try.underlying93 rfl i2 i2n rfl rfl) rfl ?_
    refine JL.val (yl_load1 Go.Proofs.Try.underlying2 rfl rfl (fun w hC => rd_box hC 0 rfl) rfl) rfl ?_
    refine JL.val (yl_quo rfl rfl (by decide)) rfl ?_
    refine JL.val (yl_add rfl rfl) rfl ?_
    refine JL.val (yl_assign rfl) rfl ?_
    refine JL.nil ?_
    refine JE.weak (env' := [(4, .int .i64 (w64 ((w64 ((w64 ((w64 (q1.Y.tdiv 2)) * (w64 (q0.W - 1)))) + (w64 ((w64 ((w64 (q1.Y - 1)).tdiv 2)) * q0.W)))) + (w64 (q1.X.tdiv 2)))))]) (es' := []) [] ?_ ⟨rfl, trivial⟩ (by decide) rfl
    refine JE.code ?_
    refine JX.ret ?_
    obtain rfl := Option.some.inj hres
    refine JE.ret (rs := [.tmp 4]) (vs := [.int .i64 (w64 ((w64 ((w64 ((w64 (q1.Y.tdiv 2)) * (w64 (q0.W - 1)))) + (w64 ((w64 ((w64 (q1.Y - 1)).tdiv 2)) * q0.W)))) + (w64 (q1.X.tdiv 2))))]) rfl ⟨rfl, trivial⟩ ?_
    exact fun w' hb hs => ⟨_, _, ⟨rfl, rfl⟩, rfl, hb, hs.sel [] _ (by decide) rfl⟩

/- impl.applyStroke -/
def sh122 (q0 : SPanel) (q1 : List SPoint) (q2 : Int) : Option (SPanel × Int) := Option.bind (sh169 q1 q2) fun x5 => bif x5 == 3 then (some (SPanel.mk 0 0 ([] : List Int), 7)) else (Option.bind (sh170 q1) fun x7 => Option.bind (sh171 q0 (SPoint.mk (w64 ((w64 (x7.1.X + x7.2.X)).tdiv 2)) (w64 ((w64 (x7.1.Y + x7.2.Y)).tdiv 2))) q2) fun x12 => bif !x12.2 then (some (SPanel.mk 0 0 ([] : List Int), 3)) else (Option.bind (sh172 q0 x12.1) fun x16 => bif x16 then (some (SPanel.mk 0 0 ([] : List Int), 6)) else (Option.bind (getI ([0, 1, 2] : List Int) x5) fun x19 => Option.bind (sh174 q0 x12.1) fun x20 => Option.bind (sh173 q0 x20 x19) fun x21 => some (x21, 0))))
def T122 (r : SPanel × Int) (v : Value) (rs : List Own) : Prop := ∃ (a0_2 : Option Addr) (n0_2 c0_2 : Nat), r.1.Breaks.length = n0_2 ∧ v = rets [.agg #[.int .i64 r.1.W, .int .i64 r.1.H, .slice a0_2 n0_2 c0_2], .int .i64 r.2] ∧ rs = [rowT 2 eI64 a0_2 n0_2 c0_2 r.1.Breaks]
set_option maxRecDepth 100000 in
theorem c122 {w : World} {q0 : SPanel} {a_0_2 : Option Addr} {n_0_2 c_0_2 : Nat} (g_0_2 : Rd w a_0_2 (eI64.fl q0.Breaks)) (l_0_2 : q0.Breaks.length = n_0_2) (k_0_2 : n_0_2 ≤ c_0_2) {q1 : List SPoint} {a_1 : Option Addr} {n_1 c_1 : Nat} (g_1 : Rd w a_1 (eSPoint.fl q1)) (l_1 : q1.length = n_1) (k_1 : n_1 ≤ c_1) {q2 : Int} {r : SPanel × Int} (hres : sh122 q0 q1 q2 = some r) : Calls Go.Proofs.Try.prog 122 [.agg #[.int .i64 q0.W, .int .i64 q0.H, .slice a_0_2 n_0_2 c_0_2], .slice a_1 n_1 c_1, .int .i64 q2].toArray w (Ret w (T122 r)) := by
  subst l_0_2
  subst l_1
  unfold sh122 at hres
  refine calls_of (n := 58) (M := []) (es := []) Go.Proofs.Try.func122 rfl rfl rfl (Sep.nil _ _ _) ?_
  refine JX.seq ?_
  refine JX.region ?_
  refine JL.eff (ef_box rfl rfl) rfl ?_
  rintro _ _ ⟨g1, rfl, rfl⟩
  refine JL.eff (ef_alloc i39 i39z rfl) rfl ?_
  rintro _ _ ⟨g3, rfl, rfl⟩
  refine JL.val (yl_assign rfl) rfl ?_
  refine JL.nil ?_
  refine JE.code ?_
  refine JX.seq ?_
  refine JX.region ?_
  refine JL.val (yl_move rfl) rfl ?_
  refine JL.val (yl_move rfl) rfl ?_
  obtain ⟨x5, hx5, hres⟩ := bind_some hres
  refine JL.eff (ef_call (T := T169 x5) Go.Proofs.Try.func169 rfl (by kernel_rfl) rfl (fun w hC => c169 (rd_arg g_1 hC) rfl k_1 hx5)) rfl ?_
  rintro _ _ ⟨_, ⟨rfl, rfl⟩, rfl⟩
  refine JL.val (yl_assign rfl) rfl ?_
  refine JL.nil ?_
  refine JE.weak (env' := [(1, .slice a_1 q1.length c_1), (2, .int .i64 q2), (3, ptrAt (some ⟨g1, 0, none⟩) 0), (6, ptrAt (some ⟨g3, 0, none⟩) 0), (8, .int .i64 x5)]) (es' := [boxO 39 g1 [.int .i64 q0.W, .int .i64 q0.H, .slice a_0_2 q0.Breaks.length c_0_2], boxO 39 g3 [.int .i64 0, .int .i64 0, .slice none 0 0]]) [0, 1] ?_ ⟨rfl, rfl, rfl, rfl, rfl, trivial⟩ (by decide) rfl
  refine JE.code ?_
  refine JX.seq ?_
  refine JX.seq ?_
  refine JX.region ?_
  refine JL.val (yl_move rfl) rfl ?_
  refine JL.val (yl_eql rfl rfl) rfl ?_
  refine JL.nil ?_
  refine JE.code ?_
  rcases cond_some hres with ⟨hb, hres⟩ | ⟨hb, hres⟩
  · refine JX.condT rfl hb ?_
    refine JX.seq ?_
    refine JX.region ?_
    refine JL.val (yl_build rfl (fun w => bld39_  w)) rfl ?_
    refine JL.eff (ef_store_box (i := 1) (v := .agg #[.int .i64 0, .int .i64 0, .slice none 0 0]) i39 rfl rfl rfl (i39s).symm (Nat.le_of_ble_eq_true rfl) (by simp [Value.cells, Value.oneCell'])) rfl ?_
    rintro _ _ rfl
    refine JL.val (yl_assign rfl) rfl ?_
    refine JL.nil ?_
    refine JE.weak (env' := [(6, ptrAt (some ⟨g3, 0, none⟩) 0), (7, .int .i64 7)]) (es' := [boxO 39 g3 [.int .i64 0, .int .i64 0, .slice none 0 0]]) [1] ?_ ⟨rfl, rfl, trivial⟩ (by decide) rfl
    refine JE.code ?_
    refine JX.ret ?_
    refine JE.nilrow 2 eI64 ?_
    obtain rfl := Option.some.inj hres
    refine JE.ret (rs := [.cell 6 39, .tmp 7]) (vs := [.agg #[.int .i64 0, .int .i64 0, .slice none 0 0], .int .i64 7]) rfl ⟨rv_box 0 rfl rfl Go.Proofs.Try.underlying39 rfl i39 (i39s).symm, rfl, trivial⟩ ?_
    exact fun w' hb hs => ⟨_, _, ⟨none, 0, 0, rfl, rfl, rfl⟩, rfl, hb, hs.sel [1] _ (by decide) rfl⟩
  · refine JX.condF rfl hb ?_
    refine JX.skip ?_
    refine JE.code ?_
    refine JX.seq ?_
    refine JX.region ?_
    refine JL.val (yl_move rfl) rfl ?_
    obtain ⟨x7, hx7, hres⟩ := bind_some hres
    refine JL.eff (ef_call (T := T170 x7) Go.Proofs.Try.func170 rfl (by kernel_rfl) rfl (fun w hC => c170 (rd_arg g_1 hC) rfl k_1 hx7)) rfl ?_
    rintro _ _ ⟨_, ⟨rfl, rfl⟩, rfl⟩
    refine JL.val (yl_move rfl) rfl ?_
    refine JL.val (yl_extract rfl rfl) rfl ?_
    refine JL.val (yl_extract rfl rfl) rfl ?_
    refine JL.eff (ef_alloc i93 i93z rfl) rfl ?_
    rintro _ _ ⟨g8, rfl, rfl⟩
    refine JL.eff (ef_alloc i93 i93z rfl) rfl ?_
    rintro _ _ ⟨g10, rfl, rfl⟩
    refine JL.eff (ef_store_box (i := 2) (v := .agg #[.int .i64 x7.1.X, .int .i64 x7.1.Y]) i93 rfl rfl rfl (i93s).symm (Nat.le_of_ble_eq_true rfl) (by simp [Value.cells, Value.oneCell'])) rfl ?_
    rintro _ _ rfl
    refine JL.eff (ef_store_box (i := 3) (v := .agg #[.int .i64 x7.2.X, .int .i64 x7.2.Y]) i93 rfl rfl rfl (i93s).symm (Nat.le_of_ble_eq_true rfl) (by simp [Value.cells, Value.oneCell'])) rfl ?_
    rintro _ _ rfl
    refine JL.nil ?_
    refine JE.weak (env' := [(2, .int .i64 q2), (3, ptrAt (some ⟨g1, 0, none⟩) 0), (6, ptrAt (some ⟨g3, 0, none⟩) 0), (8, .int .i64 x5), (9, ptrAt (some ⟨g8, 0, none⟩) 0), (10, ptrAt (some ⟨g10, 0, none⟩) 0)]) (es' := [boxO 39 g1 [.int .i64 q0.W, .int .i64 q0.H, .slice a_0_2 q0.Breaks.length c_0_2], boxO 39 g3 [.int .i64 0, .int .i64 0, .slice none 0 0], boxO 93 g8 [.int .i64 x7.1.X, .int .i64 x7.1.Y], boxO 93 g10 [.int .i64 x7.2.X, .int .i64 x7.2.Y]]) [0, 1, 2, 3] ?_ ⟨rfl, rfl, rfl, rfl, rfl, rfl, trivial⟩ (by decide) rfl
    refine JE.code ?_
    refine JX.seq ?_
    refine JX.region ?_
    refine JL.val (yl_loadn Go.Proofs.Try.underlying39 rfl i39 rfl (fun w hC => rd_box hC 0 rfl) rfl (i39s).symm i39p) rfl ?_
    refine JL.val (yl_fieldAt (a := some _) Go.Proofs.Try.underlying93 rfl i2 i2n rfl rfl) rfl ?_
    refine JL.val (yl_load1 Go.Proofs.Try.underlying2 rfl rfl (fun w hC => rd_box hC 2 rfl) rfl) rfl ?_
    refine JL.val (yl_fieldAt (a := some _) Go.Proofs.Try.underlying93 rfl i2 i2n rfl rfl) rfl ?_
    refine JL.val (yl_load1 Go.Proofs.Try.underlying2 rfl rfl (fun w hC => rd_box hC 3 rfl) rfl) rfl ?_
    refine JL.val (yl_add rfl rfl) rfl ?_
    refine JL.val (yl_quo rfl rfl (by decide)) rfl ?_
    refine JL.val (yl_fieldAt (a := some _) Go.Proofs.Try.underlying93 rfl i2 i2n rfl rfl) rfl ?_
    refine JL.val (yl_load1 Go.Proofs.Try.underlying2 rfl rfl (fun w hC => rd_box hC 2 rfl) rfl) rfl ?_
    refine JL.val (yl_fieldAt (a := some _) Go.Proofs.Try.underlying93 rfl i2 i2n rfl rfl) rfl ?_
    refine JL.val (yl_load1 Go.Proofs.Try.underlying2 rfl rfl (fun w hC => rd_box hC 3 rfl) rfl) rfl ?_
    refine JL.val (yl_add rfl rfl) rfl ?_
    refine JL.val (yl_quo rfl rfl (by decide)) rfl ?_
    refine JL.val (yl_build rfl (fun w => bld93_0_1 (w64 ((w64 (x7.1.X + x7.2.X)).tdiv 2)) (w64 ((w64 (x7.1.Y + x7.2.Y)).tdiv 2)) w)) rfl ?_
    refine JL.val (yl_move rfl) rfl ?_
    obtain ⟨x12, hx12, hres⟩ := bind_some hres
    refine JL.eff (ef_call (vs := [.agg #[.int .i64 q0.W, .int .i64 q0.H, .slice a_0_2 q0.Breaks.length c_0_2], .agg #[.int .i64 (w64 ((w64 (x7.1.X + x7.2.X)).tdiv 2)), .int .i64 (w64 ((w64 (x7.1.Y + x7.2.Y)).tdiv 2))], .int .i64 q2]) (T := T171 x12) Go.Proofs.Try.func171 rfl (by kernel_rfl) rfl (fun w hC => c171 (q0 := q0) (q1 := SPoint.mk (w64 ((w64 (x7.1.X + x7.2.X)).tdiv 2)) (w64 ((w64 (x7.1.Y + x7.2.Y)).tdiv 2))) (rd_arg g_0_2 hC) rfl k_0_2 hx12)) rfl ?_
    rintro _ _ ⟨_, ⟨rfl, rfl⟩, rfl⟩
    refine JL.val (yl_move rfl) rfl ?_
    refine JL.val (yl_extract rfl rfl) rfl ?_
    refine JL.val (yl_extract rfl rfl) rfl ?_
    refine JL.eff (ef_alloc i93 i93z rfl) rfl ?_
    rintro _ _ ⟨g13, rfl, rfl⟩
    refine JL.eff (ef_store_box (i := 4) (v := .agg #[.int .i64 x12.1.X, .int .i64 x12.1.Y]) i93 rfl rfl rfl (i93s).symm (Nat.le_of_ble_eq_true rfl) (by simp [Value.cells, Value.oneCell'])) rfl ?_
    rintro _ _ rfl
    refine JL.val (yl_assign rfl) rfl ?_
    refine JL.nil ?_
    refine JE.weak (env' := [(3, ptrAt (some ⟨g1, 0, none⟩) 0), (6, ptrAt (some ⟨g3, 0, none⟩) 0), (8, .int .i64 x5), (11, ptrAt (some ⟨g13, 0, none⟩) 0), (12, .bool x12.2)]) (es' := [boxO 39 g1 [.int .i64 q0.W, .int .i64 q0.H, .slice a_0_2 q0.Breaks.length c_0_2], boxO 39 g3 [.int .i64 0, .int .i64 0, .slice none 0 0], boxO 93 g13 [.int .i64 x12.1.X, .int .i64 x12.1.Y]]) [0, 1, 4] ?_ ⟨rfl, rfl, rfl, rfl, rfl, trivial⟩ (by decide) rfl
    refine JE.code ?_
    refine JX.seq ?_
    refine JX.seq ?_
    refine JX.region ?_
    refine JL.val (yl_move rfl) rfl ?_
    refine JL.val (yl_not rfl) rfl ?_
    refine JL.nil ?_
    refine JE.code ?_
    rcases cond_some hres with ⟨hb, hres⟩ | ⟨hb, hres⟩
    · refine JX.condT rfl hb ?_
      refine JX.seq ?_
      refine JX.region ?_
      refine JL.val (yl_build rfl (fun w => bld39_  w)) rfl ?_
      refine JL.eff (ef_store_box (i := 1) (v := .agg #[.int .i64 0, .int .i64 0, .slice none 0 0]) i39 rfl rfl rfl (i39s).symm (Nat.le_of_ble_eq_true rfl) (by simp [Value.cells, Value.oneCell'])) rfl ?_
      rintro _ _ rfl
      refine JL.val (yl_assign rfl) rfl ?_
      refine JL.nil ?_
      refine JE.weak (env' := [(6, ptrAt (some ⟨g3, 0, none⟩) 0), (7, .int .i64 3)]) (es' := [boxO 39 g3 [.int .i64 0, .int .i64 0, .slice none 0 0]]) [1] ?_ ⟨rfl, rfl, trivial⟩ (by decide) rfl
      refine JE.code ?_
      refine JX.ret ?_
      refine JE.nilrow 2 eI64 ?_
      obtain rfl := Option.some.inj hres
      refine JE.ret (rs := [.cell 6 39, .tmp 7]) (vs := [.agg #[.int .i64 0, .int .i64 0, .slice none 0 0], .int .i64 3]) rfl ⟨rv_box 0 rfl rfl Go.Proofs.Try.underlying39 rfl i39 (i39s).symm, rfl, trivial⟩ ?_
      exact fun w' hb hs => ⟨_, _, ⟨none, 0, 0, rfl, rfl, rfl⟩, rfl, hb, hs.sel [1] _ (by decide) rfl⟩
    · refine JX.condF rfl hb ?_
      refine JX.skip ?_
      refine JE.code ?_
      refine JX.seq ?_
      refine JX.seq ?_
      refine JX.region ?_
      refine JL.val (yl_loadn Go.Proofs.Try.underlying39 rfl i39 rfl (fun w hC => rd_box hC 0 rfl) rfl (i39s).symm i39p) rfl ?_
      refine JL.val (yl_loadn Go.Proofs.Try.underlying93 rfl i93 rfl (fun w hC => rd_box hC 2 rfl) rfl (i93s).symm i93p) rfl ?_
      obtain ⟨x16, hx16, hres⟩ := bind_some hres
      refine JL.eff (ef_call (vs := [.agg #[.int .i64 q0.W, .int .i64 q0.H, .slice a_0_2 q0.Breaks.length c_0_2], .agg #[.int .i64 x12.1.X, .int .i64 x12.1.Y]]) (T := T172 x16) Go.Proofs.Try.func172 rfl (by kernel_rfl) rfl (fun w hC => c172 (q0 := q0) (q1 := x12.1) (rd_arg g_0_2 hC) rfl k_0_2 hx16)) rfl ?_
      rintro _ _ ⟨_, ⟨rfl, rfl⟩, rfl⟩
      refine JL.nil ?_
      refine JE.code ?_
      rcases cond_some hres with ⟨hb, hres⟩ | ⟨hb, hres⟩
      · refine JX.condT rfl hb ?_
        refine JX.seq ?_
        refine JX.region ?_
        refine JL.val (yl_build rfl (fun w => bld39_  w)) rfl ?_
        refine JL.eff (ef_store_box (i := 1) (v := .agg #[.int .i64 0, .int .i64 0, .slice none 0 0]) i39 rfl rfl rfl (i39s).symm (Nat.le_of_ble_eq_true rfl) (by simp [Value.cells, Value.oneCell'])) rfl ?_
        rintro _ _ rfl
        refine JL.val (yl_assign rfl) rfl ?_
        refine JL.nil ?_
        refine JE.weak (env' := [(6, ptrAt (some ⟨g3, 0, none⟩) 0), (7, .int .i64 6)]) (es' := [boxO 39 g3 [.int .i64 0, .int .i64 0, .slice none 0 0]]) [1] ?_ ⟨rfl, rfl, trivial⟩ (by decide) rfl
        refine JE.code ?_
        refine JX.ret ?_
        refine JE.nilrow 2 eI64 ?_
        obtain rfl := Option.some.inj hres
        refine JE.ret (rs := [.cell 6 39, .tmp 7]) (vs := [.agg #[.int .i64 0, .int .i64 0, .slice none 0 0], .int .i64 6]) rfl ⟨rv_box 0 rfl rfl Go.Proofs.Try.underlying39 rfl i39 (i39s).symm, rfl, trivial⟩ ?_
        exact fun w' hb hs => ⟨_, _, ⟨none, 0, 0, rfl, rfl, rfl⟩, rfl, hb, hs.sel [1] _ (by decide) rfl⟩
      · refine JX.condF rfl hb ?_
        refine JX.skip ?_
        refine JE.code ?_
        refine JX.seq ?_
        refine JX.drawH [(0, .read), (1, .read), (2, .read), (4, .pure), (5, .pure), (6, .pure), (3, .must), (7, .must), (8, .must), (9, .pure)] [8] [1] [0, 2] [boxO 39 g3 [.int .i64 0, .int .i64 0, .slice none 0 0]] [boxO 39 g1 [.int .i64 q0.W, .int .i64 q0.H, .slice a_0_2 q0.Breaks.length c_0_2], boxO 93 g13 [.int .i64 x12.1.X, .int .i64 x12.1.Y]] mixedP (by kernel_rfl) (by kernel_rfl) (by decide) rfl rfl ?_
        intro wrr18 Nr18 hFr18
        refine JH.read rfl (yl_loadn Go.Proofs.Try.underlying39 rfl i39 rfl (fun w hw => hFr18.box 0 rfl rfl hw) rfl (i39s).symm i39p) rfl ?_
        refine JH.read rfl (yl_loadn Go.Proofs.Try.underlying39 rfl i39 rfl (fun w hw => hFr18.box 0 rfl rfl hw) rfl (i39s).symm i39p) rfl ?_
        refine JH.read rfl (yl_loadn Go.Proofs.Try.underlying93 rfl i93 rfl (fun w hw => hFr18.box 2 rfl rfl hw) rfl (i93s).symm i93p) rfl ?_
        refine JH.pure rfl (yl_build rfl (fun w => bld101_0_1_2 0 1 2 w)) rfl ?_
        refine JH.pure rfl (yl_move rfl) rfl ?_
        obtain ⟨x19, hx19, hres⟩ := bind_some hres
        refine JH.pure rfl (yl_idxV (xs := [0, 1, 2]) Go.Proofs.Try.underlying101 Go.Proofs.Try.underlying2 rfl i2 i2s rfl rfl rfl hx19) rfl ?_
        obtain ⟨x20, hx20, hres⟩ := bind_some hres
        refine JH.must rfl (ef_call (vs := [.agg #[.int .i64 q0.W, .int .i64 q0.H, .slice a_0_2 q0.Breaks.length c_0_2], .agg #[.int .i64 x12.1.X, .int .i64 x12.1.Y]]) (T := T174 x20) Go.Proofs.Try.func174 rfl (by kernel_rfl) rfl (fun w hC => c174 (q0 := q0) (q1 := x12.1) (hFr18.arg g_0_2 hC.1) rfl k_0_2 hx20)) rfl rfl ?_
        rintro _ _ ⟨_, ⟨rfl, rfl⟩, rfl⟩
        obtain ⟨x21, hx21, hres⟩ := bind_some hres
        refine JH.must rfl (ef_call (vs := [.agg #[.int .i64 q0.W, .int .i64 q0.H, .slice a_0_2 q0.Breaks.length c_0_2], .int .i64 x20, .int .i64 x19]) (T := T173 x21) Go.Proofs.Try.func173 rfl (by kernel_rfl) rfl (fun w hC => c173 (q0 := q0) (hFr18.arg g_0_2 hC.1) rfl k_0_2 hx21)) rfl rfl ?_
        rintro _ _ ⟨_, ⟨a22, _, cp23, rfl, rfl, rfl⟩, rfl⟩
        refine JH.must rfl (ef_store_box (i := 0) (v := .agg #[.int .i64 x21.W, .int .i64 x21.H, .slice a22 x21.Breaks.length cp23]) i39 rfl rfl rfl (i39s).symm (Nat.le_of_ble_eq_true rfl) (by simp [Value.cells, Value.oneCell'])) rfl rfl ?_
        rintro _ _ rfl
        refine JH.pure rfl (yl_assign rfl) rfl ?_
        refine JH.nil ?_
        refine JE.weak (env' := [(6, ptrAt (some ⟨g3, 0, none⟩) 0), (7, .int .i64 0)]) (es' := [boxO 39 g3 [.int .i64 x21.W, .int .i64 x21.H, .slice a22 x21.Breaks.length cp23], rowT 2 eI64 a22 x21.Breaks.length cp23 x21.Breaks]) [2, 3] ?_ ⟨rfl, rfl, trivial⟩ (by decide) rfl
        refine JE.code ?_
        refine JX.ret ?_
        obtain rfl := Option.some.inj hres
        refine JE.ret (rs := [.cell 6 39, .tmp 7]) (vs := [.agg #[.int .i64 x21.W, .int .i64 x21.H, .slice a22 x21.Breaks.length cp23], .int .i64 0]) rfl ⟨rv_box 0 rfl rfl Go.Proofs.Try.underlying39 rfl i39 (i39s).symm, rfl, trivial⟩ ?_
        exact fun w' hb hs => ⟨_, _, ⟨a22, x21.Breaks.length, cp23, rfl, rfl, rfl⟩, rfl, hb, hs.sel [1] _ (by decide) rfl⟩

/- impl.ApplyStroke -/
def sh54 (q0 : SPanel) (q1 : List SPoint) (q2 : Int) : Option (SPanel × Int) := Option.bind (sh99 q0) fun x5 => Option.bind (bif !x5 then (some true) else (Option.bind (sh83 q1) fun x7 => some !x7)) fun cb6 => (bif cb6 then (some (SPanel.mk 0 0 ([] : List Int), 1)) else (Option.bind (sh121 q2) fun x9 => bif !x9 then (some (SPanel.mk 0 0 ([] : List Int), 2)) else (Option.bind (sh122 q0 q1 q2) fun x11 => some (x11.1, x11.2))))
def T54 (r : SPanel × Int) (v : Value) (rs : List Own) : Prop := ∃ (a0_2 : Option Addr) (n0_2 c0_2 : Nat), r.1.Breaks.length = n0_2 ∧ v = rets [.agg #[.int .i64 r.1.W, .int .i64 r.1.H, .slice a0_2 n0_2 c0_2], .int .i64 r.2] ∧ rs = [rowT 2 eI64 a0_2 n0_2 c0_2 r.1.Breaks]
set_option maxRecDepth 100000 in
theorem c54 {w : World} {q0 : SPanel} {a_0_2 : Option Addr} {n_0_2 c_0_2 : Nat} (g_0_2 : Rd w a_0_2 (eI64.fl q0.Breaks)) (l_0_2 : q0.Breaks.length = n_0_2) (k_0_2 : n_0_2 ≤ c_0_2) {q1 : List SPoint} {a_1 : Option Addr} {n_1 c_1 : Nat} (g_1 : Rd w a_1 (eSPoint.fl q1)) (l_1 : q1.length = n_1) (k_1 : n_1 ≤ c_1) {q2 : Int} {r : SPanel × Int} (hres : sh54 q0 q1 q2 = some r) : Calls Go.Proofs.Try.prog 54 [.agg #[.int .i64 q0.W, .int .i64 q0.H, .slice a_0_2 n_0_2 c_0_2], .slice a_1 n_1 c_1, .int .i64 q2].toArray w (Ret w (T54 r)) := by
  subst l_0_2
  subst l_1
  unfold sh54 at hres
  refine calls_of (n := 27) (M := []) (es := []) Go.Proofs.Try.func54 rfl rfl rfl (Sep.nil _ _ _) ?_
  refine JX.seq ?_
  refine JX.region ?_
  refine JL.eff (ef_box rfl rfl) rfl ?_
  rintro _ _ ⟨g1, rfl, rfl⟩
  refine JL.eff (ef_alloc i39 i39z rfl) rfl ?_
  rintro _ _ ⟨g3, rfl, rfl⟩
  refine JL.val (yl_assign rfl) rfl ?_
  refine JL.nil ?_
  refine JE.code ?_
  refine JX.seq ?_
  refine JX.seq ?_
  refine JX.region ?_
  refine JL.val (yl_loadn Go.Proofs.Try.underlying39 rfl i39 rfl (fun w hC => rd_box hC 0 rfl) rfl (i39s).symm i39p) rfl ?_
  obtain ⟨x5, hx5, hres⟩ := bind_some hres
  refine JL.eff (ef_call (vs := [.agg #[.int .i64 q0.W, .int .i64 q0.H, .slice a_0_2 q0.Breaks.length c_0_2]]) (T := T99 x5) Go.Proofs.Try.func99 rfl (by kernel_rfl) rfl (fun w hC => c99 (q0 := q0) (rd_arg g_0_2 hC) rfl k_0_2 hx5)) rfl ?_
  rintro _ _ ⟨_, ⟨rfl, rfl⟩, rfl⟩
  refine JL.val (yl_not rfl) rfl ?_
  refine JL.val (yl_move rfl) rfl ?_
  obtain ⟨cb6, hcb6, hres⟩ := bind_some hres
  refine JL.cut (K := fun J => J [(1, .slice a_1 q1.length c_1), (2, .int .i64 q2), (3, ptrAt (some ⟨g1, 0, none⟩) 0), (6, ptrAt (some ⟨g3, 0, none⟩) 0), (15, .bool cb6)] [boxO 39 g1 [.int .i64 q0.W, .int .i64 q0.H, .slice a_0_2 q0.Breaks.length c_0_2], boxO 39 g3 [.int .i64 0, .int .i64 0, .slice none 0 0]]) 4 ?_ ?_
  · refine JL.nil ?_
    refine JE.weak (env' := [(1, .slice a_1 q1.length c_1), (2, .int .i64 q2), (3, ptrAt (some ⟨g1, 0, none⟩) 0), (6, ptrAt (some ⟨g3, 0, none⟩) 0), (15, .bool cb6)]) (es' := [boxO 39 g1 [.int .i64 q0.W, .int .i64 q0.H, .slice a_0_2 q0.Breaks.length c_0_2], boxO 39 g3 [.int .i64 0, .int .i64 0, .slice none 0 0]]) [0, 1] ?_ ⟨rfl, rfl, rfl, rfl, rfl, trivial⟩ (by decide) rfl
    refine JE.code ?_
    rcases cond_some hres with ⟨hb, hres⟩ | ⟨hb, hres⟩
    · refine JX.condT rfl hb ?_
      refine JX.seq ?_
      refine JX.region ?_
      refine JL.val (yl_build rfl (fun w => bld39_  w)) rfl ?_
      refine JL.eff (ef_store_box (i := 1) (v := .agg #[.int .i64 0, .int .i64 0, .slice none 0 0]) i39 rfl rfl rfl (i39s).symm (Nat.le_of_ble_eq_true rfl) (by simp [Value.cells, Value.oneCell'])) rfl ?_
      rintro _ _ rfl
      refine JL.val (yl_assign rfl) rfl ?_
      refine JL.nil ?_
      refine JE.weak (env' := [(6, ptrAt (some ⟨g3, 0, none⟩) 0), (7, .int .i64 1)]) (es' := [boxO 39 g3 [.int .i64 0, .int .i64 0, .slice none 0 0]]) [1] ?_ ⟨rfl, rfl, trivial⟩ (by decide) rfl
      refine JE.code ?_
      refine JX.ret ?_
      refine JE.nilrow 2 eI64 ?_
      obtain rfl := Option.some.inj hres
      refine JE.ret (rs := [.cell 6 39, .tmp 7]) (vs := [.agg #[.int .i64 0, .int .i64 0, .slice none 0 0], .int .i64 1]) rfl ⟨rv_box 0 rfl rfl Go.Proofs.Try.underlying39 rfl i39 (i39s).symm, rfl, trivial⟩ ?_
      exact fun w' hb hs => ⟨_, _, ⟨none, 0, 0, rfl, rfl, rfl⟩, rfl, hb, hs.sel [1] _ (by decide) rfl⟩
    · refine JX.condF rfl hb ?_
      refine JX.skip ?_
      refine JE.code ?_
      refine JX.seq ?_
      refine JX.seq ?_
      refine JX.region ?_
      refine JL.val (yl_move rfl) rfl ?_
      obtain ⟨x9, hx9, hres⟩ := bind_some hres
      refine JL.eff (ef_call (T := T121 x9) Go.Proofs.Try.func121 rfl (by kernel_rfl) rfl (fun w hC => c121  hx9)) rfl ?_
      rintro _ _ ⟨_, ⟨rfl, rfl⟩, rfl⟩
      refine JL.val (yl_not rfl) rfl ?_
      refine JL.nil ?_
      refine JE.code ?_
      rcases cond_some hres with ⟨hb, hres⟩ | ⟨hb, hres⟩
      · refine JX.condT rfl hb ?_
        refine JX.seq ?_
        refine JX.region ?_
        refine JL.val (yl_build rfl (fun w => bld39_  w)) rfl ?_
        refine JL.eff (ef_store_box (i := 1) (v := .agg #[.int .i64 0, .int .i64 0, .slice none 0 0]) i39 rfl rfl rfl (i39s).symm (Nat.le_of_ble_eq_true rfl) (by simp [Value.cells, Value.oneCell'])) rfl ?_
        rintro _ _ rfl
        refine JL.val (yl_assign rfl) rfl ?_
        refine JL.nil ?_
        refine JE.weak (env' := [(6, ptrAt (some ⟨g3, 0, none⟩) 0), (7, .int .i64 2)]) (es' := [boxO 39 g3 [.int .i64 0, .int .i64 0, .slice none 0 0]]) [1] ?_ ⟨rfl, rfl, trivial⟩ (by decide) rfl
        refine JE.code ?_
        refine JX.ret ?_
        refine JE.nilrow 2 eI64 ?_
        obtain rfl := Option.some.inj hres
        refine JE.ret (rs := [.cell 6 39, .tmp 7]) (vs := [.agg #[.int .i64 0, .int .i64 0, .slice none 0 0], .int .i64 2]) rfl ⟨rv_box 0 rfl rfl Go.Proofs.Try.underlying39 rfl i39 (i39s).symm, rfl, trivial⟩ ?_
        exact fun w' hb hs => ⟨_, _, ⟨none, 0, 0, rfl, rfl, rfl⟩, rfl, hb, hs.sel [1] _ (by decide) rfl⟩
      · refine JX.condF rfl hb ?_
        refine JX.skip ?_
        refine JE.code ?_
        refine JX.seq ?_
        refine JX.region ?_
        refine JL.val (yl_loadn Go.Proofs.Try.underlying39 rfl i39 rfl (fun w hC => rd_box hC 0 rfl) rfl (i39s).symm i39p) rfl ?_
        refine JL.val (yl_move rfl) rfl ?_
        refine JL.val (yl_move rfl) rfl ?_
        obtain ⟨x11, hx11, hres⟩ := bind_some hres
        refine JL.eff (ef_call (vs := [.agg #[.int .i64 q0.W, .int .i64 q0.H, .slice a_0_2 q0.Breaks.length c_0_2], .slice a_1 q1.length c_1, .int .i64 q2]) (T := T122 x11) Go.Proofs.Try.func122 rfl (by kernel_rfl) rfl (fun w hC => c122 (q0 := q0) (rd_arg g_0_2 hC) rfl k_0_2 (rd_arg g_1 hC) rfl k_1 hx11)) rfl ?_
        rintro _ _ ⟨_, ⟨a12, _, cp13, rfl, rfl, rfl⟩, rfl⟩
        refine JL.val (yl_extract rfl rfl) rfl ?_
        refine JL.val (yl_extract rfl rfl) rfl ?_
        refine JL.eff (ef_store_box (i := 1) (v := .agg #[.int .i64 x11.1.W, .int .i64 x11.1.H, .slice a12 x11.1.Breaks.length cp13]) i39 rfl rfl rfl (i39s).symm (Nat.le_of_ble_eq_true rfl) (by simp [Value.cells, Value.oneCell'])) rfl ?_
        rintro _ _ rfl
        refine JL.val (yl_assign rfl) rfl ?_
        refine JL.nil ?_
        refine JE.weak (env' := [(6, ptrAt (some ⟨g3, 0, none⟩) 0), (7, .int .i64 x11.2)]) (es' := [boxO 39 g3 [.int .i64 x11.1.W, .int .i64 x11.1.H, .slice a12 x11.1.Breaks.length cp13], rowT 2 eI64 a12 x11.1.Breaks.length cp13 x11.1.Breaks]) [1, 2] ?_ ⟨rfl, rfl, trivial⟩ (by decide) rfl
        refine JE.code ?_
        refine JX.ret ?_
        obtain rfl := Option.some.inj hres
        refine JE.ret (rs := [.cell 6 39, .tmp 7]) (vs := [.agg #[.int .i64 x11.1.W, .int .i64 x11.1.H, .slice a12 x11.1.Breaks.length cp13], .int .i64 x11.2]) rfl ⟨rv_box 0 rfl rfl Go.Proofs.Try.underlying39 rfl i39 (i39s).symm, rfl, trivial⟩ ?_
        exact fun w' hb hs => ⟨_, _, ⟨a12, x11.1.Breaks.length, cp13, rfl, rfl, rfl⟩, rfl, hb, hs.sel [1] _ (by decide) rfl⟩
  · intro K
    rcases cond_some hcb6 with ⟨hb, hres⟩ | ⟨hb, hres⟩
    · refine JL.set (d := 11) (v := .bool true) (congrArg (fun b => some (Value.bool b)) hb) ?_
      refine JL.gskip rfl rfl rfl rfl ?_
      refine JL.gskip rfl rfl rfl rfl ?_
      refine JL.gskip rfl rfl rfl rfl ?_
      refine JL.val (yl_pick_true rfl rfl) rfl ?_
      have he := Option.some.inj hres
      exact JL.weak [0, 1] K ⟨rfl, rfl, rfl, rfl, (by rw [← he]; rfl), trivial⟩ (by decide) rfl
    · refine JL.set (d := 11) (v := .bool false) (congrArg (fun b => some (Value.bool b)) hb) ?_
      refine JL.gval rfl rfl (yl_move rfl) rfl ?_
      obtain ⟨x7, hx7, hres⟩ := bind_some hres
      refine JL.geff rfl rfl (ef_call (T := T83 x7) Go.Proofs.Try.func83 rfl (by kernel_rfl) rfl (fun w hC => c83 (rd_arg g_1 hC) rfl k_1 hx7)) rfl ?_
      rintro _ _ ⟨_, ⟨rfl, rfl⟩, rfl⟩
      refine JL.gval rfl rfl (yl_not rfl) rfl ?_
      refine JL.val (yl_pick_false rfl rfl) rfl ?_
      have he := Option.some.inj hres
      exact JL.weak [0, 1] K ⟨rfl, rfl, rfl, rfl, (by rw [← he]; rfl), trivial⟩ (by decide) rfl

end Go.Sh
