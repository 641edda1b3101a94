/- Walks through functions that the law reaches, printed by program. -/
import Derived.Test.YtnifcedmpilldaaF5W1
set_option linter.unusedVariables false
set_option linter.unusedSimpArgs false
namespace Go.Sh
open Go Go.RowKit
/- spec.l19Code -/
def sh131 (q0 : SPanel) (q1 : Int) : Option (Int) := Option.bind (sh139 q0) fun x1 => bif !x1 then (some 1) else (Option.bind (sh126 q1) fun x2 => bif !x2 then (some 2) else (some 0))
def T131 (r : Int) (v : Value) (rs : List Own) : Prop := v = rets [.int .i64 r] ∧ rs = []
set_option maxRecDepth 100000 in
theorem c131 {w : World} {q0 : SPanel} {a_0 : Option Addr} {n_0 : Nat} {a_0_2 : Option Addr} {n_0_2 c_0_2 : Nat} (g_0 : RdAt w a_0 n_0 [.int .i64 q0.W, .int .i64 q0.H, .slice a_0_2 n_0_2 c_0_2]) (g_0_2 : Rd w a_0_2 (eI64.fl q0.Breaks)) (l_0_2 : q0.Breaks.length = n_0_2) (k_0_2 : n_0_2 ≤ c_0_2) {q1 : Int} {r : Int} (hres : sh131 q0 q1 = some r) : Calls Go.Proofs.Try.prog 131 [ptrAt a_0 n_0, .int .i64 q1].toArray w (Ret w (T131 r)) := by
  subst l_0_2
  obtain ⟨b_0, e_0, g_0⟩ := g_0.norm0
  rw [e_0]
  unfold sh131 at hres
  refine calls_of (n := 11) (M := []) (es := []) Go.Proofs.Try.func131 rfl rfl rfl (Sep.nil _ _ _) ?_
  refine JX.seq ?_
  refine JX.region ?_
  refine JL.val (yl_assign rfl) rfl ?_
  refine JL.nil ?_
  refine JE.code ?_
  refine JX.seq ?_
  refine JX.seq ?_
  refine JX.region ?_
  refine JL.val (yl_move rfl) rfl ?_
  obtain ⟨x1, hx1, hres⟩ := bind_some hres
  refine JL.eff (ef_call (T := T139 x1) Go.Proofs.Try.func139 rfl (by kernel_rfl) rfl (fun w hC => c139 (RdAt.of0 (rd_arg g_0 hC)) (rd_arg g_0_2 hC) rfl k_0_2 hx1)) rfl ?_
  rintro _ _ ⟨_, ⟨rfl, rfl⟩, rfl⟩
  refine JL.val (yl_not rfl) rfl ?_
  refine JL.nil ?_
  refine JE.code ?_
  rcases cond_some hres with ⟨hb, hres⟩ | ⟨hb, hres⟩
  · refine JX.condT rfl hb ?_
    refine JX.seq ?_
    refine JX.region ?_
    refine JL.val (yl_assign rfl) rfl ?_
    refine JL.nil ?_
    refine JE.code ?_
    refine JX.ret ?_
    obtain rfl := Option.some.inj hres
    refine JE.ret (rs := [.tmp 4]) (vs := [.int .i64 1]) rfl ⟨rfl, trivial⟩ ?_
    exact fun w' hb hs => ⟨_, _, ⟨rfl, rfl⟩, rfl, hb, hs.sel [] _ (by decide) rfl⟩
  · refine JX.condF rfl hb ?_
    refine JX.skip ?_
    refine JE.code ?_
    refine JX.seq ?_
    refine JX.seq ?_
    refine JX.region ?_
    refine JL.val (yl_move rfl) rfl ?_
    obtain ⟨x2, hx2, hres⟩ := bind_some hres
    refine JL.eff (ef_call (T := T126 x2) Go.Proofs.Try.func126 rfl (by kernel_rfl) rfl (fun w hC => c126  hx2)) rfl ?_
    rintro _ _ ⟨_, ⟨rfl, rfl⟩, rfl⟩
    refine JL.val (yl_not rfl) rfl ?_
    refine JL.nil ?_
    refine JE.code ?_
    rcases cond_some hres with ⟨hb, hres⟩ | ⟨hb, hres⟩
    · refine JX.condT rfl hb ?_
      refine JX.seq ?_
      refine JX.region ?_
      refine JL.val (yl_assign rfl) rfl ?_
      refine JL.nil ?_
      refine JE.code ?_
      refine JX.ret ?_
      obtain rfl := Option.some.inj hres
      refine JE.ret (rs := [.tmp 4]) (vs := [.int .i64 2]) rfl ⟨rfl, trivial⟩ ?_
      exact fun w' hb hs => ⟨_, _, ⟨rfl, rfl⟩, rfl, hb, hs.sel [] _ (by decide) rfl⟩
    · refine JX.condF rfl hb ?_
      refine JX.skip ?_
      refine JE.code ?_
      refine JX.seq ?_
      refine JX.region ?_
      refine JL.val (yl_assign rfl) rfl ?_
      refine JL.nil ?_
      refine JE.code ?_
      refine JX.ret ?_
      obtain rfl := Option.some.inj hres
      refine JE.ret (rs := [.tmp 4]) (vs := [.int .i64 0]) rfl ⟨rfl, trivial⟩ ?_
      exact fun w' hb hs => ⟨_, _, ⟨rfl, rfl⟩, rfl, hb, hs.sel [] _ (by decide) rfl⟩

/- spec.l00Own -/
def sh195 (q0 : List Int) : Option (List Int) := Option.bind (appL ([] : List Int) q0) fun x3 => some x3
def T195 (r : List Int) (v : Value) (rs : List Own) : Prop := ∃ (a0 : Option Addr) (n0 c0 : Nat), r.length = n0 ∧ v = rets [.slice a0 n0 c0] ∧ rs = [rowT 2 eI64 a0 n0 c0 r]
set_option maxRecDepth 100000 in
theorem c195 {w : World} {q0 : List Int} {a_0 : Option Addr} {n_0 c_0 : Nat} (g_0 : Rd w a_0 (eI64.fl q0)) (l_0 : q0.length = n_0) (k_0 : n_0 ≤ c_0) {r : List Int} (hres : sh195 q0 = some r) : Calls Go.Proofs.Try.prog 195 [.slice a_0 n_0 c_0].toArray w (Ret w (T195 r)) := by
  subst l_0
  unfold sh195 at hres
  refine calls_of (n := 6) (M := []) (es := []) Go.Proofs.Try.func195 rfl rfl rfl (Sep.nil _ _ _) ?_
  refine JX.seq ?_
  refine JX.region ?_
  refine JL.val (yl_assign rfl) rfl ?_
  refine JL.nil ?_
  refine JE.code ?_
  refine JX.seq ?_
  refine JX.region ?_
  refine JL.eff (ef_buildSlice (E := 2) (k := eI64.k) (us := eI64.fl ([] : List Int)) rfl (fun w => bsl24_0  w) rfl (by decide)) rfl ?_
  rintro _ _ ⟨a1, rfl, rfl⟩
  refine JL.val (yl_move rfl) rfl ?_
  obtain ⟨x3, hx3, hres⟩ := bind_some hres
  refine JL.eff (ef_appendT (ix := 0) Go.Proofs.Try.underlying24 i2 i2z i2s rfl i2b0 i2b1 rfl rfl rfl rfl rfl (fun w hC => rd_arg g_0 hC) hx3) rfl ?_
  rintro _ _ ⟨a4, cp5, rfl, rfl⟩
  refine JL.val (yl_assign rfl) rfl ?_
  refine JL.nil ?_
  refine JE.weak (env' := [(2, .slice a4 x3.length cp5)]) (es' := [rowT 2 eI64 a4 x3.length cp5 x3]) [0] ?_ ⟨rfl, trivial⟩ (by decide) rfl
  refine JE.code ?_
  refine JX.ret ?_
  obtain rfl := Option.some.inj hres
  refine JE.ret (rs := [.tmp 2]) (vs := [.slice a4 x3.length cp5]) rfl ⟨rfl, trivial⟩ ?_
  exact fun w' hb hs => ⟨_, _, ⟨a4, x3.length, cp5, rfl, rfl, rfl⟩, rfl, hb, hs.sel [0] _ (by decide) rfl⟩

/- spec.l02Own -/
def sh132 (q0 : SPanel) : Option (SPanel) := Option.bind (sh195 q0.Breaks) fun x4 => some (SPanel.mk q0.W q0.H x4)
def T132 (r : SPanel) (v : Value) (rs : List Own) : Prop := ∃ (a0_2 : Option Addr) (n0_2 c0_2 : Nat), r.Breaks.length = n0_2 ∧ v = rets [.agg #[.int .i64 r.W, .int .i64 r.H, .slice a0_2 n0_2 c0_2]] ∧ rs = [rowT 2 eI64 a0_2 n0_2 c0_2 r.Breaks]
set_option maxRecDepth 100000 in
theorem c132 {w : World} {q0 : SPanel} {a_0 : Option Addr} {n_0 : Nat} {a_0_2 : Option Addr} {n_0_2 c_0_2 : Nat} (g_0 : RdAt w a_0 n_0 [.int .i64 q0.W, .int .i64 q0.H, .slice a_0_2 n_0_2 c_0_2]) (g_0_2 : Rd w a_0_2 (eI64.fl q0.Breaks)) (l_0_2 : q0.Breaks.length = n_0_2) (k_0_2 : n_0_2 ≤ c_0_2) {r : SPanel} (hres : sh132 q0 = some r) : Calls Go.Proofs.Try.prog 132 [ptrAt a_0 n_0].toArray w (Ret w (T132 r)) := by
  subst l_0_2
  obtain ⟨b_0, e_0, g_0⟩ := g_0.norm0
  rw [e_0]
  unfold sh132 at hres
  refine calls_of (n := 17) (M := []) (es := []) Go.Proofs.Try.func132 rfl rfl rfl (Sep.nil _ _ _) ?_
  refine JX.seq ?_
  refine JX.region ?_
  refine JL.eff (ef_alloc i26 i26z rfl) rfl ?_
  rintro _ _ ⟨g1, rfl, rfl⟩
  refine JL.nil ?_
  refine JE.code ?_
  refine JX.seq ?_
  refine JX.drawH [(0, .pure), (1, .pure), (2, .pure), (3, .read), (4, .pure), (5, .pure), (6, .pure), (7, .read), (8, .pure), (9, .pure), (10, .pure), (11, .read), (12, .must), (13, .pure), (14, .must)] [14] [0] [] [boxO 26 g1 [.int .i64 0, .int .i64 0, .slice none 0 0]] [] mixedP (by kernel_rfl) (by kernel_rfl) (by decide) rfl rfl ?_
  intro wrr3 Nr3 hFr3
  refine JH.pure rfl (yl_move rfl) rfl ?_
  refine JH.pure rfl (yl_nilCheckAt rfl (Rd.some g_0 (j := 0) rfl)) rfl ?_
  refine JH.pure rfl (yl_fieldAt Go.Proofs.Try.underlying26 rfl i2 i2n rfl (Rd.some g_0 (j := 0) rfl)) rfl ?_
  refine JH.read rfl (yl_load1 Go.Proofs.Try.underlying2 rfl rfl (fun w hw => hFr3.arg g_0 hw) rfl) rfl ?_
  refine JH.pure rfl (yl_move rfl) rfl ?_
  refine JH.pure rfl (yl_nilCheckAt rfl (Rd.some g_0 (j := 0) rfl)) rfl ?_
  refine JH.pure rfl (yl_fieldAt Go.Proofs.Try.underlying26 rfl i2 i2n rfl (Rd.some g_0 (j := 0) rfl)) rfl ?_
  refine JH.read rfl (yl_load1 Go.Proofs.Try.underlying2 rfl rfl (fun w hw => hFr3.arg g_0 hw) rfl) rfl ?_
  refine JH.pure rfl (yl_move rfl) rfl ?_
  refine JH.pure rfl (yl_nilCheckAt rfl (Rd.some g_0 (j := 0) rfl)) rfl ?_
  refine JH.pure rfl (yl_fieldAt Go.Proofs.Try.underlying26 rfl i24 i24n rfl (Rd.some g_0 (j := 0) rfl)) rfl ?_
  refine JH.read rfl (yl_load1 Go.Proofs.Try.underlying24 rfl rfl (fun w hw => hFr3.arg g_0 hw) rfl) rfl ?_
  obtain ⟨x4, hx4, hres⟩ := bind_some hres
  refine JH.must rfl (ef_call (T := T195 x4) Go.Proofs.Try.func195 rfl (by kernel_rfl) rfl (fun w hC => c195 (hFr3.arg g_0_2 hC.1) rfl k_0_2 hx4)) rfl rfl ?_
  rintro _ _ ⟨_, ⟨a5, _, cp6, rfl, rfl, rfl⟩, rfl⟩
  refine JH.pure rfl (yl_build rfl (fun w => bld26_0_1_2 q0.W q0.H a5 x4.length cp6 w)) rfl ?_
  refine JH.must rfl (ef_store_box (i := 0) (v := .agg #[.int .i64 q0.W, .int .i64 q0.H, .slice a5 x4.length cp6]) i26 rfl rfl rfl (i26s).symm (Nat.le_of_ble_eq_true rfl) (by simp [Value.cells, Value.oneCell'])) rfl rfl ?_
  rintro _ _ rfl
  refine JH.nil ?_
  refine JE.weak (env' := [(2, ptrAt (some ⟨g1, 0, none⟩) 0)]) (es' := [boxO 26 g1 [.int .i64 q0.W, .int .i64 q0.H, .slice a5 x4.length cp6], rowT 2 eI64 a5 x4.length cp6 x4]) [0, 1] ?_ ⟨rfl, trivial⟩ (by decide) rfl
  refine JE.code ?_
  refine JX.ret ?_
  obtain rfl := Option.some.inj hres
  refine JE.ret (rs := [.cell 2 26]) (vs := [.agg #[.int .i64 q0.W, .int .i64 q0.H, .slice a5 x4.length cp6]]) rfl ⟨rv_box 0 rfl rfl Go.Proofs.Try.underlying26 rfl i26 (i26s).symm, trivial⟩ ?_
  exact fun w' hb hs => ⟨_, _, ⟨a5, x4.length, cp6, rfl, rfl, rfl⟩, rfl, hb, hs.sel [1] _ (by decide) rfl⟩

/- spec.l00Min -/
def sh181 (q0 : Int) (q1 : Int) : Option (Int) := bif decide (q0 < q1) then (some q0) else (some q1)
def T181 (r : Int) (v : Value) (rs : List Own) : Prop := v = rets [.int .i64 r] ∧ rs = []
set_option maxRecDepth 100000 in
theorem c181 {w : World} {q0 : Int} {q1 : Int} {r : Int} (hres : sh181 q0 q1 = some r) : Calls Go.Proofs.Try.prog 181 [.int .i64 q0, .int .i64 q1].toArray w (Ret w (T181 r)) := by
  unfold sh181 at hres
  refine calls_of (n := 10) (M := []) (es := []) Go.Proofs.Try.func181 rfl rfl rfl (Sep.nil _ _ _) ?_
  refine JX.seq ?_
  refine JX.region ?_
  refine JL.val (yl_assign rfl) rfl ?_
  refine JL.nil ?_
  refine JE.code ?_
  refine JX.seq ?_
  refine JX.seq ?_
  refine JX.region ?_
  refine JL.val (yl_move rfl) rfl ?_
  refine JL.val (yl_move rfl) rfl ?_
  refine JL.val (yl_lss rfl rfl) rfl ?_
  refine JL.nil ?_
  refine JE.code ?_
  rcases cond_some hres with ⟨hb, hres⟩ | ⟨hb, hres⟩
  · refine JX.condT rfl hb ?_
    refine JX.seq ?_
    refine JX.region ?_
    refine JL.val (yl_move rfl) rfl ?_
    refine JL.val (yl_assign rfl) rfl ?_
    refine JL.nil ?_
    refine JE.code ?_
    refine JX.ret ?_
    obtain rfl := Option.some.inj hres
    refine JE.ret (rs := [.tmp 4]) (vs := [.int .i64 q0]) rfl ⟨rfl, trivial⟩ ?_
    exact fun w' hb hs => ⟨_, _, ⟨rfl, rfl⟩, rfl, hb, hs.sel [] _ (by decide) rfl⟩
  · refine JX.condF rfl hb ?_
    refine JX.skip ?_
    refine JE.code ?_
    refine JX.seq ?_
    refine JX.region ?_
    refine JL.val (yl_move rfl) rfl ?_
    refine JL.val (yl_assign rfl) rfl ?_
    refine JL.nil ?_
    refine JE.code ?_
    refine JX.ret ?_
    obtain rfl := Option.some.inj hres
    refine JE.ret (rs := [.tmp 4]) (vs := [.int .i64 q1]) rfl ⟨rfl, trivial⟩ ?_
    exact fun w' hb hs => ⟨_, _, ⟨rfl, rfl⟩, rfl, hb, hs.sel [] _ (by decide) rfl⟩

/- spec.l19Box -/
def sh113_1 (q0 : List SPoint) : (Int × SPoint × SPoint) → Option ((Int × SPoint × SPoint) ⊕ (SPoint × SPoint))
  | (x11, x12, x13) => bif decide (x11 < (q0.length : Int)) then (Option.bind (getI q0 x11) fun x15 => Option.bind (sh181 x12.X x15.X) fun x16 => Option.bind (getI q0 x11) fun x18 => Option.bind (sh181 x12.Y x18.Y) fun x19 => Option.bind (getI q0 x11) fun x21 => Option.bind (sh182 x13.X x21.X) fun x22 => Option.bind (getI q0 x11) fun x24 => Option.bind (sh182 x13.Y x24.Y) fun x25 => some (.inl (w64 (x11 + 1), SPoint.mk x16 x19, SPoint.mk x22 x25))) else (some (.inr (x12, x13)))
def sh113 (q0 : List SPoint) : Option (SPoint × SPoint) := Option.bind (getI q0 (0 : Int)) fun x5 => Option.bind (getI q0 (0 : Int)) fun x8 => Option.bind (iter (sh113_1 q0) (1, x5, x8)) fun b1 => (some (b1.1, b1.2))
def T113 (r : SPoint × SPoint) (v : Value) (rs : List Own) : Prop := v = rets [.agg #[.int .i64 r.1.X, .int .i64 r.1.Y], .agg #[.int .i64 r.2.X, .int .i64 r.2.Y]] ∧ rs = []
set_option maxRecDepth 100000 in
theorem c113 {w : World} {q0 : List SPoint} {a_0 : Option Addr} {n_0 c_0 : Nat} (g_0 : Rd w a_0 (eSPoint.fl q0)) (l_0 : q0.length = n_0) (k_0 : n_0 ≤ c_0) {r : SPoint × SPoint} (hres : sh113 q0 = some r) : Calls Go.Proofs.Try.prog 113 [.slice a_0 n_0 c_0].toArray w (Ret w (T113 r)) := by
  subst l_0
  unfold sh113 at hres
  refine calls_of (n := 57) (M := []) (es := []) Go.Proofs.Try.func113 rfl rfl rfl (Sep.nil _ _ _) ?_
  refine JX.seq ?_
  refine JX.region ?_
  refine JL.eff (ef_alloc i42 i42z rfl) rfl ?_
  rintro _ _ ⟨g1, rfl, rfl⟩
  refine JL.eff (ef_alloc i42 i42z rfl) rfl ?_
  rintro _ _ ⟨g3, rfl, rfl⟩
  refine JL.nil ?_
  refine JE.code ?_
  refine JX.seq ?_
  refine JX.region ?_
  refine JL.val (yl_move rfl) rfl ?_
  obtain ⟨x5, hx5, hres⟩ := bind_some hres
  refine JL.val (yl_idxT Go.Proofs.Try.underlying34 i42 i42s rfl rfl hx5 rfl (fun w hC => rd_arg g_0 hC)) rfl ?_
  refine JL.val (yl_loadTn Go.Proofs.Try.underlying42 rfl i42 i42s rfl hx5 (fun w hC => rd_arg g_0 hC)) rfl ?_
  refine JL.eff (ef_alloc i42 i42z rfl) rfl ?_
  rintro _ _ ⟨g6, rfl, rfl⟩
  refine JL.eff (ef_store_box (i := 2) (v := .agg #[.int .i64 x5.X, .int .i64 x5.Y]) i42 rfl rfl rfl (i42s).symm (Nat.le_of_ble_eq_true rfl) (by simp [Value.cells, Value.oneCell'])) rfl ?_
  rintro _ _ rfl
  refine JL.nil ?_
  refine JE.weak (env' := [(0, .slice a_0 q0.length c_0), (2, ptrAt (some ⟨g1, 0, none⟩) 0), (3, ptrAt (some ⟨g3, 0, none⟩) 0), (4, ptrAt (some ⟨g6, 0, none⟩) 0)]) (es' := [boxO 42 g1 [.int .i64 0, .int .i64 0], boxO 42 g3 [.int .i64 0, .int .i64 0], boxO 42 g6 [.int .i64 x5.X, .int .i64 x5.Y]]) [0, 1, 2] ?_ ⟨rfl, rfl, rfl, rfl, trivial⟩ (by decide) rfl
  refine JE.code ?_
  refine JX.seq ?_
  refine JX.region ?_
  refine JL.val (yl_move rfl) rfl ?_
  obtain ⟨x8, hx8, hres⟩ := bind_some hres
  refine JL.val (yl_idxT Go.Proofs.Try.underlying34 i42 i42s rfl rfl hx8 rfl (fun w hC => rd_arg g_0 hC)) rfl ?_
  refine JL.val (yl_loadTn Go.Proofs.Try.underlying42 rfl i42 i42s rfl hx8 (fun w hC => rd_arg g_0 hC)) rfl ?_
  refine JL.eff (ef_alloc i42 i42z rfl) rfl ?_
  rintro _ _ ⟨g9, rfl, rfl⟩
  refine JL.eff (ef_store_box (i := 3) (v := .agg #[.int .i64 x8.X, .int .i64 x8.Y]) i42 rfl rfl rfl (i42s).symm (Nat.le_of_ble_eq_true rfl) (by simp [Value.cells, Value.oneCell'])) rfl ?_
  rintro _ _ rfl
  refine JL.nil ?_
  refine JE.weak (env' := [(0, .slice a_0 q0.length c_0), (2, ptrAt (some ⟨g1, 0, none⟩) 0), (3, ptrAt (some ⟨g3, 0, none⟩) 0), (4, ptrAt (some ⟨g6, 0, none⟩) 0), (5, ptrAt (some ⟨g9, 0, none⟩) 0)]) (es' := [boxO 42 g1 [.int .i64 0, .int .i64 0], boxO 42 g3 [.int .i64 0, .int .i64 0], boxO 42 g6 [.int .i64 x5.X, .int .i64 x5.Y], boxO 42 g9 [.int .i64 x8.X, .int .i64 x8.Y]]) [0, 1, 2, 3] ?_ ⟨rfl, rfl, rfl, rfl, rfl, trivial⟩ (by decide) rfl
  refine JE.code ?_
  refine JX.seq ?_
  refine JX.seq ?_
  refine JX.region ?_
  refine JL.val (yl_assign rfl) rfl ?_
  refine JL.nil ?_
  refine JE.code ?_
  refine JX.block ?_
  obtain ⟨y1, hy1, hresO1⟩ := bind_some hres
  refine JX.loop (I := fun (s1 : Int × SPoint × SPoint) aa ww => St w [] 57 [(0, .slice a_0 q0.length c_0), (2, ptrAt (some ⟨g1, 0, none⟩) 0), (3, ptrAt (some ⟨g3, 0, none⟩) 0), (4, ptrAt (some ⟨g6, 0, none⟩) 0), (5, ptrAt (some ⟨g9, 0, none⟩) 0), (6, .int .i64 s1.1)] [boxO 42 g1 [.int .i64 0, .int .i64 0], boxO 42 g3 [.int .i64 0, .int .i64 0], boxO 42 g6 [.int .i64 s1.2.1.X, .int .i64 s1.2.1.Y], boxO 42 g9 [.int .i64 s1.2.2.X, .int .i64 s1.2.2.Y]] aa ww) (sh113_1 q0) hy1 (fun a w h => h.weak ⟨rfl, rfl, rfl, rfl, rfl, rfl, trivial⟩ [0, 1, 2, 3] (by decide) rfl) ?_
  rintro ⟨x11, x12, x13⟩ o1 hres hox1 aa ww hS
  refine (?_ : JX Go.Proofs.Try.prog w [] 57 _ _ [(0, .slice a_0 q0.length c_0), (2, ptrAt (some ⟨g1, 0, none⟩) 0), (3, ptrAt (some ⟨g3, 0, none⟩) 0), (4, ptrAt (some ⟨g6, 0, none⟩) 0), (5, ptrAt (some ⟨g9, 0, none⟩) 0), (6, .int .i64 x11)] [boxO 42 g1 [.int .i64 0, .int .i64 0], boxO 42 g3 [.int .i64 0, .int .i64 0], boxO 42 g6 [.int .i64 x12.X, .int .i64 x12.Y], boxO 42 g9 [.int .i64 x13.X, .int .i64 x13.Y]] _) aa ww hS
  clear hS
  simp only [sh113_1] at hres
  refine JX.seq ?_
  refine JX.seq ?_
  refine JX.region ?_
  refine JL.val (yl_move rfl) rfl ?_
  refine JL.val (yl_move rfl) rfl ?_
  refine JL.val (yl_len_slice Go.Proofs.Try.underlying34 rfl) rfl ?_
  refine JL.val (yl_lss rfl rfl) rfl ?_
  refine JL.nil ?_
  refine JE.weak (env' := [(0, .slice a_0 q0.length c_0), (2, ptrAt (some ⟨g1, 0, none⟩) 0), (3, ptrAt (some ⟨g3, 0, none⟩) 0), (4, ptrAt (some ⟨g6, 0, none⟩) 0), (5, ptrAt (some ⟨g9, 0, none⟩) 0), (6, .int .i64 x11), (16, .bool (decide (x11 < (q0.length : Int))))]) (es' := [boxO 42 g1 [.int .i64 0, .int .i64 0], boxO 42 g3 [.int .i64 0, .int .i64 0], boxO 42 g6 [.int .i64 x12.X, .int .i64 x12.Y], boxO 42 g9 [.int .i64 x13.X, .int .i64 x13.Y]]) [0, 1, 2, 3] ?_ ⟨rfl, rfl, rfl, rfl, rfl, rfl, rfl, trivial⟩ (by decide) rfl
  refine JE.code ?_
  rcases cond_some hres with ⟨hb, hres⟩ | ⟨hb, hres⟩
  · refine JX.condT rfl hb ?_
    refine JX.skip ?_
    refine JE.code ?_
    refine JX.seq ?_
    refine JX.block ?_
    refine JX.seq ?_
    refine JX.drawH [(0, .pure), (1, .read0), (2, .pure), (3, .pure), (4, .pure), (5, .pure), (6, .read), (7, .must), (8, .pure), (9, .must)] [9] [2] [0, 1, 3] [boxO 42 g6 [.int .i64 x12.X, .int .i64 x12.Y]] [boxO 42 g1 [.int .i64 0, .int .i64 0], boxO 42 g3 [.int .i64 0, .int .i64 0], boxO 42 g9 [.int .i64 x13.X, .int .i64 x13.Y]] mixedP (by kernel_rfl) (by kernel_rfl) (by decide) rfl rfl ?_
    intro wrr14 Nr14 hFr14
    refine JH.pure rfl (yl_fieldAt (a := some _) Go.Proofs.Try.underlying42 rfl i2 i2n rfl rfl) rfl ?_
    refine JH.read0 rfl (yl_load1 Go.Proofs.Try.underlying2 rfl rfl (fun w hw => (rd_box hFr14.cl 2 rfl).bw hw) rfl) rfl ?_
    refine JH.pure rfl (yl_move rfl) rfl ?_
    refine JH.pure rfl (yl_move rfl) rfl ?_
    obtain ⟨x15, hx15, hres⟩ := bind_some hres
    refine JH.pure rfl (yl_idxQ Go.Proofs.Try.underlying34 i42 i42s rfl rfl hx15 rfl (rd_arg g_0 hFr14.cl) rfl) rfl ?_
    refine JH.pure rfl (yl_fieldAt Go.Proofs.Try.underlying42 rfl i2 i2n rfl (RdT.someQ (rd_arg g_0 hFr14.cl) hx15 rfl rfl)) rfl ?_
    refine JH.read rfl (yl_loadT1 Go.Proofs.Try.underlying2 rfl rfl hx15 (fun w hw => hFr14.arg g_0 hw) rfl) rfl ?_
    obtain ⟨x16, hx16, hres⟩ := bind_some hres
    refine JH.must rfl (ef_call (T := T181 x16) Go.Proofs.Try.func181 rfl (by kernel_rfl) rfl (fun w hC => c181  hx16)) rfl rfl ?_
    rintro _ _ ⟨_, ⟨rfl, rfl⟩, rfl⟩
    refine JH.pure rfl (yl_fieldAt (a := some _) Go.Proofs.Try.underlying42 rfl i2 i2n rfl rfl) rfl ?_
    refine JH.must rfl (ef_store_box (i := 0) (v := .int .i64 x16) i2 rfl rfl rfl (i2s).symm (Nat.le_of_ble_eq_true rfl) (by simp [Value.cells, Value.oneCell'])) rfl rfl ?_
    rintro _ _ rfl
    refine JH.nil ?_
    refine JE.weak (env' := [(0, .slice a_0 q0.length c_0), (2, ptrAt (some ⟨g1, 0, none⟩) 0), (3, ptrAt (some ⟨g3, 0, none⟩) 0), (4, ptrAt (some ⟨g6, 0, none⟩) 0), (5, ptrAt (some ⟨g9, 0, none⟩) 0), (6, .int .i64 x11)]) (es' := [boxO 42 g1 [.int .i64 0, .int .i64 0], boxO 42 g3 [.int .i64 0, .int .i64 0], boxO 42 g6 [.int .i64 x16, .int .i64 x12.Y], boxO 42 g9 [.int .i64 x13.X, .int .i64 x13.Y]]) [0, 1, 3, 2] ?_ ⟨rfl, rfl, rfl, rfl, rfl, rfl, trivial⟩ (by decide) rfl
    refine JE.code ?_
    refine JX.seq ?_
    refine JX.drawH [(0, .pure), (1, .read0), (2, .pure), (3, .pure), (4, .pure), (5, .pure), (6, .read), (7, .must), (8, .pure), (9, .must)] [9] [2] [0, 1, 3] [boxO 42 g6 [.int .i64 x16, .int .i64 x12.Y]] [boxO 42 g1 [.int .i64 0, .int .i64 0], boxO 42 g3 [.int .i64 0, .int .i64 0], boxO 42 g9 [.int .i64 x13.X, .int .i64 x13.Y]] mixedP (by kernel_rfl) (by kernel_rfl) (by decide) rfl rfl ?_
    intro wrr17 Nr17 hFr17
    refine JH.pure rfl (yl_fieldAt (a := some _) Go.Proofs.Try.underlying42 rfl i2 i2n rfl rfl) rfl ?_
    refine JH.read0 rfl (yl_load1 Go.Proofs.Try.underlying2 rfl rfl (fun w hw => (rd_box hFr17.cl 2 rfl).bw hw) rfl) rfl ?_
    refine JH.pure rfl (yl_move rfl) rfl ?_
    refine JH.pure rfl (yl_move rfl) rfl ?_
    obtain ⟨x18, hx18, hres⟩ := bind_some hres
    refine JH.pure rfl (yl_idxQ Go.Proofs.Try.underlying34 i42 i42s rfl rfl hx18 rfl (rd_arg g_0 hFr17.cl) rfl) rfl ?_
    refine JH.pure rfl (yl_fieldAt Go.Proofs.Try.underlying42 rfl i2 i2n rfl (RdT.someQ (rd_arg g_0 hFr17.cl) hx18 rfl rfl)) rfl ?_
    refine JH.read rfl (yl_loadT1 Go.Proofs.Try.underlying2 rfl rfl hx18 (fun w hw => hFr17.arg g_0 hw) rfl) rfl ?_
    obtain ⟨x19, hx19, hres⟩ := bind_some hres
    refine JH.must rfl (ef_call (T := T181 x19) Go.Proofs.Try.func181 rfl (by kernel_rfl) rfl (fun w hC => c181  hx19)) rfl rfl ?_
    rintro _ _ ⟨_, ⟨rfl, rfl⟩, rfl⟩
    refine JH.pure rfl (yl_fieldAt (a := some _) Go.Proofs.Try.underlying42 rfl i2 i2n rfl rfl) rfl ?_
    refine JH.must rfl (ef_store_box (i := 0) (v := .int .i64 x19) i2 rfl rfl rfl (i2s).symm (Nat.le_of_ble_eq_true rfl) (by simp [Value.cells, Value.oneCell'])) rfl rfl ?_
    rintro _ _ rfl
    refine JH.nil ?_
    refine JE.weak (env' := [(0, .slice a_0 q0.length c_0), (2, ptrAt (some ⟨g1, 0, none⟩) 0), (3, ptrAt (some ⟨g3, 0, none⟩) 0), (4, ptrAt (some ⟨g6, 0, none⟩) 0), (5, ptrAt (some ⟨g9, 0, none⟩) 0), (6, .int .i64 x11)]) (es' := [boxO 42 g1 [.int .i64 0, .int .i64 0], boxO 42 g3 [.int .i64 0, .int .i64 0], boxO 42 g6 [.int .i64 x16, .int .i64 x19], boxO 42 g9 [.int .i64 x13.X, .int .i64 x13.Y]]) [0, 1, 3, 2] ?_ ⟨rfl, rfl, rfl, rfl, rfl, rfl, trivial⟩ (by decide) rfl
    refine JE.code ?_
    refine JX.seq ?_
    refine JX.drawH [(0, .pure), (1, .read0), (2, .pure), (3, .pure), (4, .pure), (5, .pure), (6, .read), (7, .must), (8, .pure), (9, .must)] [9] [3] [0, 1, 2] [boxO 42 g9 [.int .i64 x13.X, .int .i64 x13.Y]] [boxO 42 g1 [.int .i64 0, .int .i64 0], boxO 42 g3 [.int .i64 0, .int .i64 0], boxO 42 g6 [.int .i64 x16, .int .i64 x19]] mixedP (by kernel_rfl) (by kernel_rfl) (by decide) rfl rfl ?_
    intro wrr20 Nr20 hFr20
    refine JH.pure rfl (yl_fieldAt (a := some _) Go.Proofs.Try.underlying42 rfl i2 i2n rfl rfl) rfl ?_
    refine JH.read0 rfl (yl_load1 Go.Proofs.Try.underlying2 rfl rfl (fun w hw => (rd_box hFr20.cl 3 rfl).bw hw) rfl) rfl ?_
    refine JH.pure rfl (yl_move rfl) rfl ?_
    refine JH.pure rfl (yl_move rfl) rfl ?_
    obtain ⟨x21, hx21, hres⟩ := bind_some hres
    refine JH.pure rfl (yl_idxQ Go.Proofs.Try.underlying34 i42 i42s rfl rfl hx21 rfl (rd_arg g_0 hFr20.cl) rfl) rfl ?_
    refine JH.pure rfl (yl_fieldAt Go.Proofs.Try.underlying42 rfl i2 i2n rfl (RdT.someQ (rd_arg g_0 hFr20.cl) hx21 rfl rfl)) rfl ?_
    refine JH.read rfl (yl_loadT1 Go.Proofs.Try.underlying2 rfl rfl hx21 (fun w hw => hFr20.arg g_0 hw) rfl) rfl ?_
    obtain ⟨x22, hx22, hres⟩ := bind_some hres
    refine JH.must rfl (ef_call (T := T182 x22) Go.Proofs.Try.func182 rfl (by kernel_rfl) rfl (fun w hC => c182  hx22)) rfl rfl ?_
    rintro _ _ ⟨_, ⟨rfl, rfl⟩, rfl⟩
    refine JH.pure rfl (yl_fieldAt (a := some _) Go.Proofs.Try.underlying42 rfl i2 i2n rfl rfl) rfl ?_
    refine JH.must rfl (ef_store_box (i := 0) (v := .int .i64 x22) i2 rfl rfl rfl (i2s).symm (Nat.le_of_ble_eq_true rfl) (by simp [Value.cells, Value.oneCell'])) rfl rfl ?_
    rintro _ _ rfl
    refine JH.nil ?_
    refine JE.weak (env' := [(0, .slice a_0 q0.length c_0), (2, ptrAt (some ⟨g1, 0, none⟩) 0), (3, ptrAt (some ⟨g3, 0, none⟩) 0), (4, ptrAt (some ⟨g6, 0, none⟩) 0), (5, ptrAt (some ⟨g9, 0, none⟩) 0), (6, .int .i64 x11)]) (es' := [boxO 42 g1 [.int .i64 0, .int .i64 0], boxO 42 g3 [.int .i64 0, .int .i64 0], boxO 42 g6 [.int .i64 x16, .int .i64 x19], boxO 42 g9 [.int .i64 x22, .int .i64 x13.Y]]) [0, 1, 2, 3] ?_ ⟨rfl, rfl, rfl, rfl, rfl, rfl, trivial⟩ (by decide) rfl
    refine JE.code ?_
    refine JX.drawH [(0, .pure), (1, .read0), (2, .pure), (3, .pure), (4, .pure), (5, .pure), (6, .read), (7, .must), (8, .pure), (9, .must)] [9] [3] [0, 1, 2] [boxO 42 g9 [.int .i64 x22, .int .i64 x13.Y]] [boxO 42 g1 [.int .i64 0, .int .i64 0], boxO 42 g3 [.int .i64 0, .int .i64 0], boxO 42 g6 [.int .i64 x16, .int .i64 x19]] mixedP (by kernel_rfl) (by kernel_rfl) (by decide) rfl rfl ?_
    intro wrr23 Nr23 hFr23
    refine JH.pure rfl (yl_fieldAt (a := some _) Go.Proofs.Try.underlying42 rfl i2 i2n rfl rfl) rfl ?_
    refine JH.read0 rfl (yl_load1 Go.Proofs.Try.underlying2 rfl rfl (fun w hw => (rd_box hFr23.cl 3 rfl).bw hw) rfl) rfl ?_
    refine JH.pure rfl (yl_move rfl) rfl ?_
    refine JH.pure rfl (yl_move rfl) rfl ?_
    obtain ⟨x24, hx24, hres⟩ := bind_some hres
    refine JH.pure rfl (yl_idxQ Go.Proofs.Try.underlying34 i42 i42s rfl rfl hx24 rfl (rd_arg g_0 hFr23.cl) rfl) rfl ?_
    refine JH.pure rfl (yl_fieldAt Go.Proofs.Try.underlying42 rfl i2 i2n rfl (RdT.someQ (rd_arg g_0 hFr23.cl) hx24 rfl rfl)) rfl ?_
    refine JH.read rfl (yl_loadT1 Go.Proofs.Try.underlying2 rfl rfl hx24 (fun w hw => hFr23.arg g_0 hw) rfl) rfl ?_
    obtain ⟨x25, hx25, hres⟩ := bind_some hres
    refine JH.must rfl (ef_call (T := T182 x25) Go.Proofs.Try.func182 rfl (by kernel_rfl) rfl (fun w hC => c182  hx25)) rfl rfl ?_
    rintro _ _ ⟨_, ⟨rfl, rfl⟩, rfl⟩
    refine JH.pure rfl (yl_fieldAt (a := some _) Go.Proofs.Try.underlying42 rfl i2 i2n rfl rfl) rfl ?_
    refine JH.must rfl (ef_store_box (i := 0) (v := .int .i64 x25) i2 rfl rfl rfl (i2s).symm (Nat.le_of_ble_eq_true rfl) (by simp [Value.cells, Value.oneCell'])) rfl rfl ?_
    rintro _ _ rfl
    refine JH.nil ?_
    refine JE.weak (env' := [(0, .slice a_0 q0.length c_0), (2, ptrAt (some ⟨g1, 0, none⟩) 0), (3, ptrAt (some ⟨g3, 0, none⟩) 0), (4, ptrAt (some ⟨g6, 0, none⟩) 0), (5, ptrAt (some ⟨g9, 0, none⟩) 0), (6, .int .i64 x11)]) (es' := [boxO 42 g1 [.int .i64 0, .int .i64 0], boxO 42 g3 [.int .i64 0, .int .i64 0], boxO 42 g6 [.int .i64 x16, .int .i64 x19], boxO 42 g9 [.int .i64 x22, .int .i64 x25]]) [0, 1, 2, 3] ?_ ⟨rfl, rfl, rfl, rfl, rfl, rfl, trivial⟩ (by decide) rfl
    refine JE.code ?_
    refine JX.region ?_
    refine JL.val (yl_move rfl) rfl ?_
    refine JL.val (yl_add rfl rfl) rfl ?_
    refine JL.val (yl_assign rfl) rfl ?_
    refine JL.nil ?_
    refine JE.cont hres ?_
    exact fun a w h => h.weak ⟨rfl, rfl, rfl, rfl, rfl, rfl, trivial⟩ [0, 1, 2, 3] (by decide) rfl
  · refine JX.condF rfl hb ?_
    refine JX.exit ?_
    refine JE.qb rfl ?_
    obtain ⟨b1, hb1⟩ : ∃ b : SPoint × SPoint, b = (x12, x13) := ⟨_, rfl⟩
    have hy1 : b1 = y1 := by rw [hb1]; exact hox1 _ (Option.some.inj hres).symm
    have hres := hresO1
    rw [← hy1] at hres
    refine JE.weak (env' := [(2, ptrAt (some ⟨g1, 0, none⟩) 0), (3, ptrAt (some ⟨g3, 0, none⟩) 0), (4, ptrAt (some ⟨g6, 0, none⟩) 0), (5, ptrAt (some ⟨g9, 0, none⟩) 0)]) (es' := [boxO 42 g1 [.int .i64 0, .int .i64 0], boxO 42 g3 [.int .i64 0, .int .i64 0], boxO 42 g6 [.int .i64 b1.1.X, .int .i64 b1.1.Y], boxO 42 g9 [.int .i64 b1.2.X, .int .i64 b1.2.Y]]) [0, 1, 2, 3] ?_ ⟨(by subst hb1; rfl), (by subst hb1; rfl), (by subst hb1; rfl), (by subst hb1; rfl), trivial⟩ (by decide) (by subst hb1; rfl)
    refine JE.code ?_
    refine JX.seq ?_
    refine JX.drawH [(0, .read), (1, .read), (2, .must), (3, .must)] [2, 3] [0, 1] [2, 3] [boxO 42 g1 [.int .i64 0, .int .i64 0], boxO 42 g3 [.int .i64 0, .int .i64 0]] [boxO 42 g6 [.int .i64 b1.1.X, .int .i64 b1.1.Y], boxO 42 g9 [.int .i64 b1.2.X, .int .i64 b1.2.Y]] mixedP (by kernel_rfl) (by kernel_rfl) (by decide) rfl rfl ?_
    intro wrr26 Nr26 hFr26
    refine JH.read rfl (yl_loadn Go.Proofs.Try.underlying42 rfl i42 rfl (fun w hw => hFr26.box 2 rfl rfl hw) rfl (i42s).symm i42p) rfl ?_
    refine JH.read rfl (yl_loadn Go.Proofs.Try.underlying42 rfl i42 rfl (fun w hw => hFr26.box 3 rfl rfl hw) rfl (i42s).symm i42p) rfl ?_
    refine JH.must rfl (ef_store_box (i := 0) (v := .agg #[.int .i64 b1.1.X, .int .i64 b1.1.Y]) i42 rfl rfl rfl (i42s).symm (Nat.le_of_ble_eq_true rfl) (by simp [Value.cells, Value.oneCell'])) rfl rfl ?_
    rintro _ _ rfl
    refine JH.must rfl (ef_store_box (i := 1) (v := .agg #[.int .i64 b1.2.X, .int .i64 b1.2.Y]) i42 rfl rfl rfl (i42s).symm (Nat.le_of_ble_eq_true rfl) (by simp [Value.cells, Value.oneCell'])) rfl rfl ?_
    rintro _ _ rfl
    refine JH.nil ?_
    refine JE.weak (env' := [(2, ptrAt (some ⟨g1, 0, none⟩) 0), (3, ptrAt (some ⟨g3, 0, none⟩) 0)]) (es' := [boxO 42 g1 [.int .i64 b1.1.X, .int .i64 b1.1.Y], boxO 42 g3 [.int .i64 b1.2.X, .int .i64 b1.2.Y]]) [2, 3] ?_ ⟨rfl, rfl, trivial⟩ (by decide) rfl
    refine JE.code ?_
    refine JX.ret ?_
    obtain rfl := Option.some.inj hres
    refine JE.ret (rs := [.cell 2 42, .cell 3 42]) (vs := [.agg #[.int .i64 b1.1.X, .int .i64 b1.1.Y], .agg #[.int .i64 b1.2.X, .int .i64 b1.2.Y]]) rfl ⟨rv_box 0 rfl rfl Go.Proofs.Try.underlying42 rfl i42 (i42s).symm, rv_box 1 rfl rfl Go.Proofs.Try.underlying42 rfl i42 (i42s).symm, trivial⟩ ?_
    exact fun w' hb hs => ⟨_, _, ⟨rfl, rfl⟩, rfl, hb, hs.sel [] _ (by decide) rfl⟩

/- spec.l02Number -/
def sh141 (q0 : SPanel) (q1 : SPoint) : Option (Int) := Option.bind (sh203 q0 q1.Y) fun x4 => some (w64 (x4 + (w64 ((w64 (q1.X - 1)).tdiv 2))))
def T141 (r : Int) (v : Value) (rs : List Own) : Prop := v = rets [.int .i64 r] ∧ rs = []
set_option maxRecDepth 100000 in
theorem c141 {w : World} {q0 : SPanel} {a_0 : Option Addr} {n_0 : Nat} {a_0_2 : Option Addr} {n_0_2 c_0_2 : Nat} (g_0 : RdAt w a_0 n_0 [.int .i64 q0.W, .int .i64 q0.H, .slice a_0_2 n_0_2 c_0_2]) (g_0_2 : Rd w a_0_2 (eI64.fl q0.Breaks)) (l_0_2 : q0.Breaks.length = n_0_2) (k_0_2 : n_0_2 ≤ c_0_2) {q1 : SPoint} {r : Int} (hres : sh141 q0 q1 = some r) : Calls Go.Proofs.Try.prog 141 [ptrAt a_0 n_0, .agg #[.int .i64 q1.X, .int .i64 q1.Y]].toArray w (Ret w (T141 r)) := by
  subst l_0_2
  obtain ⟨b_0, e_0, g_0⟩ := g_0.norm0
  rw [e_0]
  unfold sh141 at hres
  refine calls_of (n := 14) (M := []) (es := []) Go.Proofs.Try.func141 rfl rfl rfl (Sep.nil _ _ _) ?_
  refine JX.seq ?_
  refine JX.region ?_
  refine JL.eff (ef_box rfl rfl) rfl ?_
  rintro _ _ ⟨g1, rfl, rfl⟩
  refine JL.val (yl_assign rfl) rfl ?_
  refine JL.nil ?_
  refine JE.code ?_
  refine JX.seq ?_
  refine JX.drawH [(0, .pure), (1, .pure), (2, .read), (4, .pure), (5, .read), (6, .pure), (7, .pure), (3, .must), (8, .pure), (9, .pure)] [] [] [0] [] [boxO 42 g1 [.int .i64 q1.X, .int .i64 q1.Y]] mixedP (by kernel_rfl) (by kernel_rfl) (by decide) rfl rfl ?_
  intro wrr3 Nr3 hFr3
  refine JH.pure rfl (yl_move rfl) rfl ?_
  refine JH.pure rfl (yl_fieldAt (a := some _) Go.Proofs.Try.underlying42 rfl i2 i2n rfl rfl) rfl ?_
  refine JH.read rfl (yl_load1 Go.Proofs.Try.underlying2 rfl rfl (fun w hw => hFr3.box 0 rfl rfl hw) rfl) rfl ?_
  refine JH.pure rfl (yl_fieldAt (a := some _) Go.Proofs.Try.underlying42 rfl i2 i2n rfl rfl) rfl ?_
  refine JH.read rfl (yl_load1 Go.Proofs.Try.underlying2 rfl rfl (fun w hw => hFr3.box 0 rfl rfl hw) rfl) rfl ?_
  refine JH.pure rfl (yl_sub rfl rfl) rfl ?_
  refine JH.pure rfl (yl_quo rfl rfl (by decide)) rfl ?_
  obtain ⟨x4, hx4, hres⟩ := bind_some hres
  refine JH.must rfl (ef_call (T := T203 x4) Go.Proofs.Try.func203 rfl (by kernel_rfl) rfl (fun w hC => c203 (RdAt.of0 (hFr3.arg g_0 hC.1)) (hFr3.arg g_0_2 hC.1) rfl k_0_2 hx4)) rfl rfl ?_
  rintro _ _ ⟨_, ⟨rfl, rfl⟩, rfl⟩
  refine JH.pure rfl (yl_add rfl rfl) rfl ?_
  refine JH.pure rfl (yl_assign rfl) rfl ?_
  refine JH.nil ?_
  refine JE.weak (env' := [(4, .int .i64 (w64 (x4 + (w64 ((w64 (q1.X - 1)).tdiv 2)))))]) (es' := []) [] ?_ ⟨rfl, trivial⟩ (by decide) rfl
  refine JE.code ?_
  refine JX.ret ?_
  obtain rfl := Option.some.inj hres
  refine JE.ret (rs := [.tmp 4]) (vs := [.int .i64 (w64 (x4 + (w64 ((w64 (q1.X - 1)).tdiv 2))))]) rfl ⟨rfl, trivial⟩ ?_
  exact fun w' hb hs => ⟨_, _, ⟨rfl, rfl⟩, rfl, hb, hs.sel [] _ (by decide) rfl⟩

/- spec.l19Kind -/
def sh196 (q0 : List SPoint) (q1 : Int) : Option (Int) := Option.bind (sh113 q0) fun x1 => bif (decide ((w64 (2 * (w64 (x1.2.X - x1.1.X)))) < q1)) && (decide ((w64 (2 * (w64 (x1.2.Y - x1.1.Y)))) < q1)) then (some 0) else (bif decide ((w64 (2 * (w64 (x1.2.X - x1.1.X)))) ≤ (w64 (x1.2.Y - x1.1.Y))) then (some 1) else (bif decide ((w64 (2 * (w64 (x1.2.Y - x1.1.Y)))) ≤ (w64 (x1.2.X - x1.1.X))) then (some 2) else (some 3)))
def T196 (r : Int) (v : Value) (rs : List Own) : Prop := v = rets [.int .i64 r] ∧ rs = []
set_option maxRecDepth 100000 in
theorem c196 {w : World} {q0 : List SPoint} {a_0 : Option Addr} {n_0 c_0 : Nat} (g_0 : Rd w a_0 (eSPoint.fl q0)) (l_0 : q0.length = n_0) (k_0 : n_0 ≤ c_0) {q1 : Int} {r : Int} (hres : sh196 q0 q1 = some r) : Calls Go.Proofs.Try.prog 196 [.slice a_0 n_0 c_0, .int .i64 q1].toArray w (Ret w (T196 r)) := by
  subst l_0
  unfold sh196 at hres
  refine calls_of (n := 45) (M := []) (es := []) Go.Proofs.Try.func196 rfl rfl rfl (Sep.nil _ _ _) ?_
  refine JX.seq ?_
  refine JX.region ?_
  refine JL.val (yl_assign rfl) rfl ?_
  refine JL.nil ?_
  refine JE.code ?_
  refine JX.seq ?_
  refine JX.region ?_
  refine JL.val (yl_move rfl) rfl ?_
  obtain ⟨x1, hx1, hres⟩ := bind_some hres
  refine JL.eff (ef_call (T := T113 x1) Go.Proofs.Try.func113 rfl (by kernel_rfl) rfl (fun w hC => c113 (rd_arg g_0 hC) rfl k_0 hx1)) rfl ?_
  rintro _ _ ⟨_, ⟨rfl, rfl⟩, rfl⟩
  refine JL.val (yl_move rfl) rfl ?_
  refine JL.val (yl_extract rfl rfl) rfl ?_
  refine JL.val (yl_extract rfl rfl) rfl ?_
  refine JL.eff (ef_alloc i42 i42z rfl) rfl ?_
  rintro _ _ ⟨g2, rfl, rfl⟩
  refine JL.eff (ef_alloc i42 i42z rfl) rfl ?_
  rintro _ _ ⟨g4, rfl, rfl⟩
  refine JL.eff (ef_store_box (i := 0) (v := .agg #[.int .i64 x1.1.X, .int .i64 x1.1.Y]) i42 rfl rfl rfl (i42s).symm (Nat.le_of_ble_eq_true rfl) (by simp [Value.cells, Value.oneCell'])) rfl ?_
  rintro _ _ rfl
  refine JL.eff (ef_store_box (i := 1) (v := .agg #[.int .i64 x1.2.X, .int .i64 x1.2.Y]) i42 rfl rfl rfl (i42s).symm (Nat.le_of_ble_eq_true rfl) (by simp [Value.cells, Value.oneCell'])) rfl ?_
  rintro _ _ rfl
  refine JL.nil ?_
  refine JE.weak (env' := [(1, .int .i64 q1), (5, ptrAt (some ⟨g2, 0, none⟩) 0), (6, ptrAt (some ⟨g4, 0, none⟩) 0)]) (es' := [boxO 42 g2 [.int .i64 x1.1.X, .int .i64 x1.1.Y], boxO 42 g4 [.int .i64 x1.2.X, .int .i64 x1.2.Y]]) [0, 1] ?_ ⟨rfl, rfl, rfl, trivial⟩ (by decide) rfl
  refine JE.code ?_
  refine JX.seq ?_
  refine JX.region ?_
  refine JL.val (yl_fieldAt (a := some _) Go.Proofs.Try.underlying42 rfl i2 i2n rfl rfl) rfl ?_
  refine JL.val (yl_load1 Go.Proofs.Try.underlying2 rfl rfl (fun w hC => rd_box hC 1 rfl) rfl) rfl ?_
  refine JL.val (yl_fieldAt (a := some _) Go.Proofs.Try.underlying42 rfl i2 i2n rfl rfl) rfl ?_
  refine JL.val (yl_load1 Go.Proofs.Try.underlying2 rfl rfl (fun w hC => rd_box hC 0 rfl) rfl) rfl ?_
  refine JL.val (yl_sub rfl rfl) rfl ?_
  refine JL.val (yl_assign rfl) rfl ?_
  refine JL.nil ?_
  refine JE.weak (env' := [(1, .int .i64 q1), (5, ptrAt (some ⟨g2, 0, none⟩) 0), (6, ptrAt (some ⟨g4, 0, none⟩) 0), (7, .int .i64 (w64 (x1.2.X - x1.1.X)))]) (es' := [boxO 42 g2 [.int .i64 x1.1.X, .int .i64 x1.1.Y], boxO 42 g4 [.int .i64 x1.2.X, .int .i64 x1.2.Y]]) [0, 1] ?_ ⟨rfl, rfl, rfl, rfl, trivial⟩ (by decide) rfl
  refine JE.code ?_
  refine JX.seq ?_
  refine JX.region ?_
  refine JL.val (yl_fieldAt (a := some _) Go.Proofs.Try.underlying42 rfl i2 i2n rfl rfl) rfl ?_
  refine JL.val (yl_load1 Go.Proofs.Try.underlying2 rfl rfl (fun w hC => rd_box hC 1 rfl) rfl) rfl ?_
  refine JL.val (yl_fieldAt (a := some _) Go.Proofs.Try.underlying42 rfl i2 i2n rfl rfl) rfl ?_
  refine JL.val (yl_load1 Go.Proofs.Try.underlying2 rfl rfl (fun w hC => rd_box hC 0 rfl) rfl) rfl ?_
  refine JL.val (yl_sub rfl rfl) rfl ?_
  refine JL.val (yl_assign rfl) rfl ?_
  refine JL.nil ?_
  refine JE.weak (env' := [(1, .int .i64 q1), (7, .int .i64 (w64 (x1.2.X - x1.1.X))), (8, .int .i64 (w64 (x1.2.Y - x1.1.Y)))]) (es' := []) [] ?_ ⟨rfl, rfl, rfl, trivial⟩ (by decide) rfl
  refine JE.code ?_
  refine JX.seq ?_
  refine JX.block ?_
  refine JX.seq ?_
  refine JX.region ?_
  refine JL.val (yl_move rfl) rfl ?_
  refine JL.val (yl_mul rfl rfl) rfl ?_
  refine JL.val (yl_move rfl) rfl ?_
  refine JL.val (yl_lss rfl rfl) rfl ?_
  refine JL.val (yl_move rfl) rfl ?_
  refine JL.cut (K := fun J => J [(7, .int .i64 (w64 (x1.2.X - x1.1.X))), (8, .int .i64 (w64 (x1.2.Y - x1.1.Y))), (34, .bool ((decide ((w64 (2 * (w64 (x1.2.X - x1.1.X)))) < q1)) && (decide ((w64 (2 * (w64 (x1.2.Y - x1.1.Y)))) < q1))))] []) 5 ?_ ?_
  · refine JL.val (yl_assign rfl) rfl ?_
    refine JL.nil ?_
    refine JE.weak (env' := [(7, .int .i64 (w64 (x1.2.X - x1.1.X))), (8, .int .i64 (w64 (x1.2.Y - x1.1.Y))), (24, .bool ((decide ((w64 (2 * (w64 (x1.2.X - x1.1.X)))) < q1)) && (decide ((w64 (2 * (w64 (x1.2.Y - x1.1.Y)))) < q1))))]) (es' := []) [] ?_ ⟨rfl, rfl, rfl, trivial⟩ (by decide) rfl
    refine JE.code ?_
    rcases cond_some hres with ⟨hb, hres⟩ | ⟨hb, hres⟩
    · refine JX.condT rfl hb ?_
      refine JX.seq ?_
      refine JX.region ?_
      refine JL.val (yl_assign rfl) rfl ?_
      refine JL.nil ?_
      refine JE.code ?_
      refine JX.ret ?_
      refine JE.qbr ?_
      obtain rfl := Option.some.inj hres
      refine JE.ret (rs := [.tmp 4]) (vs := [.int .i64 0]) rfl ⟨rfl, trivial⟩ ?_
      exact fun w' hb hs => ⟨_, _, ⟨rfl, rfl⟩, rfl, hb, hs.sel [] _ (by decide) rfl⟩
    · refine JX.condF rfl hb ?_
      refine JX.seq ?_
      refine JX.region ?_
      refine JL.val (yl_move rfl) rfl ?_
      refine JL.val (yl_move rfl) rfl ?_
      refine JL.val (yl_mul rfl rfl) rfl ?_
      refine JL.val (yl_geq rfl rfl) rfl ?_
      refine JL.val (yl_assign rfl) rfl ?_
      refine JL.nil ?_
      refine JE.weak (env' := [(7, .int .i64 (w64 (x1.2.X - x1.1.X))), (8, .int .i64 (w64 (x1.2.Y - x1.1.Y))), (35, .bool (decide ((w64 (2 * (w64 (x1.2.X - x1.1.X)))) ≤ (w64 (x1.2.Y - x1.1.Y)))))]) (es' := []) [] ?_ ⟨rfl, rfl, rfl, trivial⟩ (by decide) rfl
      refine JE.code ?_
      rcases cond_some hres with ⟨hb, hres⟩ | ⟨hb, hres⟩
      · refine JX.condT rfl hb ?_
        refine JX.seq ?_
        refine JX.region ?_
        refine JL.val (yl_assign rfl) rfl ?_
        refine JL.nil ?_
        refine JE.code ?_
        refine JX.ret ?_
        refine JE.qbr ?_
        obtain rfl := Option.some.inj hres
        refine JE.ret (rs := [.tmp 4]) (vs := [.int .i64 1]) rfl ⟨rfl, trivial⟩ ?_
        exact fun w' hb hs => ⟨_, _, ⟨rfl, rfl⟩, rfl, hb, hs.sel [] _ (by decide) rfl⟩
      · refine JX.condF rfl hb ?_
        refine JX.seq ?_
        refine JX.region ?_
        refine JL.val (yl_move rfl) rfl ?_
        refine JL.val (yl_move rfl) rfl ?_
        refine JL.val (yl_mul rfl rfl) rfl ?_
        refine JL.val (yl_geq rfl rfl) rfl ?_
        refine JL.val (yl_assign rfl) rfl ?_
        refine JL.nil ?_
        refine JE.weak (env' := [(40, .bool (decide ((w64 (2 * (w64 (x1.2.Y - x1.1.Y)))) ≤ (w64 (x1.2.X - x1.1.X)))))]) (es' := []) [] ?_ ⟨rfl, trivial⟩ (by decide) rfl
        refine JE.code ?_
        rcases cond_some hres with ⟨hb, hres⟩ | ⟨hb, hres⟩
        · refine JX.condT rfl hb ?_
          refine JX.seq ?_
          refine JX.region ?_
          refine JL.val (yl_assign rfl) rfl ?_
          refine JL.nil ?_
          refine JE.code ?_
          refine JX.ret ?_
          refine JE.qbr ?_
          obtain rfl := Option.some.inj hres
          refine JE.ret (rs := [.tmp 4]) (vs := [.int .i64 2]) rfl ⟨rfl, trivial⟩ ?_
          exact fun w' hb hs => ⟨_, _, ⟨rfl, rfl⟩, rfl, hb, hs.sel [] _ (by decide) rfl⟩
        · refine JX.condF rfl hb ?_
          refine JX.skip ?_
          refine JE.code ?_
          refine JX.seq ?_
          refine JX.region ?_
          refine JL.val (yl_assign rfl) rfl ?_
          refine JL.nil ?_
          refine JE.code ?_
          refine JX.ret ?_
          obtain rfl := Option.some.inj hres
          refine JE.ret (rs := [.tmp 4]) (vs := [.int .i64 3]) rfl ⟨rfl, trivial⟩ ?_
          exact fun w' hb hs => ⟨_, _, ⟨rfl, rfl⟩, rfl, hb, hs.sel [] _ (by decide) rfl⟩
  · intro K
    rcases Bool.eq_false_or_eq_true (decide ((w64 (2 * (w64 (x1.2.X - x1.1.X)))) < q1)) with hb | hb
    · refine JL.set (d := 29) (v := .bool true) (congrArg (fun b => some (Value.bool b)) hb) ?_
      refine JL.gval rfl rfl (yl_move rfl) rfl ?_
      refine JL.gval rfl rfl (yl_mul rfl rfl) rfl ?_
      refine JL.gval rfl rfl (yl_move rfl) rfl ?_
      refine JL.gval rfl rfl (yl_lss rfl rfl) rfl ?_
      refine JL.val (yl_pick_true rfl rfl) rfl ?_
      exact JL.weak [] K ⟨rfl, rfl, (by rw [hb]; rfl), trivial⟩ (by decide) rfl
    · refine JL.set (d := 29) (v := .bool false) (congrArg (fun b => some (Value.bool b)) hb) ?_
      refine JL.gskip rfl rfl rfl rfl ?_
      refine JL.gskip rfl rfl rfl rfl ?_
      refine JL.gskip rfl rfl rfl rfl ?_
      refine JL.gskip rfl rfl rfl rfl ?_
      refine JL.val (yl_pick_false rfl rfl) rfl ?_
      exact JL.weak [] K ⟨rfl, rfl, (by rw [hb]; rfl), trivial⟩ (by decide) rfl

/- spec.l19Square -/
def sh212 (q0 : SPoint) (q1 : SPoint) (q2 : Int) : Option (Int) := some (w64 ((w64 ((w64 (q0.X - (w64 (q1.X * q2)))) * (w64 (q0.X - (w64 (q1.X * q2)))))) + (w64 ((w64 (q0.Y - (w64 (q1.Y * q2)))) * (w64 (q0.Y - (w64 (q1.Y * q2))))))))
def T212 (r : Int) (v : Value) (rs : List Own) : Prop := v = rets [.int .i64 r] ∧ rs = []
set_option maxRecDepth 100000 in
theorem c212 {w : World} {q0 : SPoint} {q1 : SPoint} {q2 : Int} {r : Int} (hres : sh212 q0 q1 q2 = some r) : Calls Go.Proofs.Try.prog 212 [.agg #[.int .i64 q0.X, .int .i64 q0.Y], .agg #[.int .i64 q1.X, .int .i64 q1.Y], .int .i64 q2].toArray w (Ret w (T212 r)) := by
  unfold sh212 at hres
  refine calls_of (n := 30) (M := []) (es := []) Go.Proofs.Try.func212 rfl rfl rfl (Sep.nil _ _ _) ?_
  refine JX.seq ?_
  refine JX.region ?_
  refine JL.eff (ef_box rfl rfl) rfl ?_
  rintro _ _ ⟨g1, rfl, rfl⟩
  refine JL.eff (ef_box rfl rfl) rfl ?_
  rintro _ _ ⟨g3, rfl, rfl⟩
  refine JL.val (yl_assign rfl) rfl ?_
  refine JL.nil ?_
  refine JE.code ?_
  refine JX.seq ?_
  refine JX.region ?_
  refine JL.val (yl_fieldAt (a := some _) Go.Proofs.Try.underlying42 rfl i2 i2n rfl rfl) rfl ?_
  refine JL.val (yl_load1 Go.Proofs.Try.underlying2 rfl rfl (fun w hC => rd_box hC 0 rfl) rfl) rfl ?_
  refine JL.val (yl_fieldAt (a := some _) Go.Proofs.Try.underlying42 rfl i2 i2n rfl rfl) rfl ?_
  refine JL.val (yl_load1 Go.Proofs.Try.underlying2 rfl rfl (fun w hC => rd_box hC 1 rfl) rfl) rfl ?_
  refine JL.val (yl_move rfl) rfl ?_
  refine JL.val (yl_mul rfl rfl) rfl ?_
  refine JL.val (yl_sub rfl rfl) rfl ?_
  refine JL.val (yl_assign rfl) rfl ?_
  refine JL.nil ?_
  refine JE.weak (env' := [(2, .int .i64 q2), (3, ptrAt (some ⟨g1, 0, none⟩) 0), (4, ptrAt (some ⟨g3, 0, none⟩) 0), (7, .int .i64 (w64 (q0.X - (w64 (q1.X * q2)))))]) (es' := [boxO 42 g1 [.int .i64 q0.X, .int .i64 q0.Y], boxO 42 g3 [.int .i64 q1.X, .int .i64 q1.Y]]) [0, 1] ?_ ⟨rfl, rfl, rfl, rfl, trivial⟩ (by decide) rfl
  refine JE.code ?_
  refine JX.seq ?_
  refine JX.region ?_
  refine JL.val (yl_fieldAt (a := some _) Go.Proofs.Try.underlying42 rfl i2 i2n rfl rfl) rfl ?_
  refine JL.val (yl_load1 Go.Proofs.Try.underlying2 rfl rfl (fun w hC => rd_box hC 0 rfl) rfl) rfl ?_
  refine JL.val (yl_fieldAt (a := some _) Go.Proofs.Try.underlying42 rfl i2 i2n rfl rfl) rfl ?_
  refine JL.val (yl_load1 Go.Proofs.Try.underlying2 rfl rfl (fun w hC => rd_box hC 1 rfl) rfl) rfl ?_
  refine JL.val (yl_move rfl) rfl ?_
  refine JL.val (yl_mul rfl rfl) rfl ?_
  refine JL.val (yl_sub rfl rfl) rfl ?_
  refine JL.val (yl_assign rfl) rfl ?_
  refine JL.nil ?_
  refine JE.weak (env' := [(7, .int .i64 (w64 (q0.X - (w64 (q1.X * q2))))), (8, .int .i64 (w64 (q0.Y - (w64 (q1.Y * q2)))))]) (es' := []) [] ?_ ⟨rfl, rfl, trivial⟩ (by decide) rfl
  refine JE.code ?_
  refine JX.seq ?_
  refine JX.region ?_
  refine JL.val (yl_move rfl) rfl ?_
  refine JL.val (yl_move rfl) rfl ?_
  refine JL.val (yl_mul rfl rfl) rfl ?_
  refine JL.val (yl_move rfl) rfl ?_
  refine JL.val (yl_move rfl) rfl ?_
  refine JL.val (yl_mul rfl rfl) rfl ?_
  refine JL.val (yl_add rfl rfl) rfl ?_
  refine JL.val (yl_assign rfl) rfl ?_
  refine JL.nil ?_
  refine JE.weak (env' := [(6, .int .i64 (w64 ((w64 ((w64 (q0.X - (w64 (q1.X * q2)))) * (w64 (q0.X - (w64 (q1.X * q2)))))) + (w64 ((w64 (q0.Y - (w64 (q1.Y * q2)))) * (w64 (q0.Y - (w64 (q1.Y * q2)))))))))]) (es' := []) [] ?_ ⟨rfl, trivial⟩ (by decide) rfl
  refine JE.code ?_
  refine JX.ret ?_
  obtain rfl := Option.some.inj hres
  refine JE.ret (rs := [.tmp 6]) (vs := [.int .i64 (w64 ((w64 ((w64 (q0.X - (w64 (q1.X * q2)))) * (w64 (q0.X - (w64 (q1.X * q2)))))) + (w64 ((w64 (q0.Y - (w64 (q1.Y * q2)))) * (w64 (q0.Y - (w64 (q1.Y * q2))))))))]) rfl ⟨rfl, trivial⟩ ?_
  exact fun w' hb hs => ⟨_, _, ⟨rfl, rfl⟩, rfl, hb, hs.sel [] _ (by decide) rfl⟩

/- spec.l19Near -/
def sh197_2 (q0 : SPanel) (q1 : SPoint) (q2 : Int) (x8 : Int) : (Int × Int × SPoint) → Option ((Int × Int × SPoint) ⊕ (Int × SPoint))
  | (x10, x11, x12) => bif decide (x11 ≤ (w64 (2 * q0.W))) then (Option.bind (sh212 q1 (SPoint.mk x11 x8) q2) fun x13 => Option.bind (bif decide (x13 < x10) then (some (x13, SPoint.mk x11 x8)) else (some (x10, x12))) fun j14 => (some (.inl (j14.1, w64 (x11 + 2), j14.2)))) else (some (.inr (x10, x12)))
def sh197_1 (q0 : SPanel) (q1 : SPoint) (q2 : Int) : (Int × Int × SPoint) → Option ((Int × Int × SPoint) ⊕ (Int × SPoint))
  | (x7, x8, x9) => bif decide (x8 ≤ (w64 (2 * q0.H))) then (Option.bind (iter (sh197_2 q0 q1 q2 x8) (x7, w64 (1 - (x8.tmod 2)), x9)) fun b2 => (some (.inl (b2.1, w64 (x8 + 1), b2.2)))) else (some (.inr (x7, x9)))
def sh197 (q0 : SPanel) (q1 : SPoint) (q2 : Int) : Option (SPoint × Bool) := Option.bind (iter (sh197_1 q0 q1 q2) (w64 ((w64 (q2 * q2)) + 1), 0, SPoint.mk 0 0)) fun b1 => (some (b1.2, decide (b1.1 ≤ (w64 (q2 * q2)))))
def T197 (r : SPoint × Bool) (v : Value) (rs : List Own) : Prop := v = rets [.agg #[.int .i64 r.1.X, .int .i64 r.1.Y], .bool r.2] ∧ rs = []
set_option maxRecDepth 100000 in
theorem c197 {w : World} {q0 : SPanel} {a_0 : Option Addr} {n_0 : Nat} {a_0_2 : Option Addr} {n_0_2 c_0_2 : Nat} (g_0 : RdAt w a_0 n_0 [.int .i64 q0.W, .int .i64 q0.H, .slice a_0_2 n_0_2 c_0_2]) (g_0_2 : Rd w a_0_2 (eI64.fl q0.Breaks)) (l_0_2 : q0.Breaks.length = n_0_2) (k_0_2 : n_0_2 ≤ c_0_2) {q1 : SPoint} {q2 : Int} {r : SPoint × Bool} (hres : sh197 q0 q1 q2 = some r) : Calls Go.Proofs.Try.prog 197 [ptrAt a_0 n_0, .agg #[.int .i64 q1.X, .int .i64 q1.Y], .int .i64 q2].toArray w (Ret w (T197 r)) := by
  subst l_0_2
  obtain ⟨b_0, e_0, g_0⟩ := g_0.norm0
  rw [e_0]
  unfold sh197 at hres
  refine calls_of (n := 58) (M := []) (es := []) Go.Proofs.Try.func197 rfl rfl rfl (Sep.nil _ _ _) ?_
  refine JX.seq ?_
  refine JX.region ?_
  refine JL.eff (ef_box rfl rfl) rfl ?_
  rintro _ _ ⟨g1, rfl, rfl⟩
  refine JL.eff (ef_alloc i42 i42z rfl) rfl ?_
  rintro _ _ ⟨g3, rfl, rfl⟩
  refine JL.val (yl_assign rfl) rfl ?_
  refine JL.nil ?_
  refine JE.code ?_
  refine JX.seq ?_
  refine JX.region ?_
  refine JL.val (yl_build rfl (fun w => bld42_  w)) rfl ?_
  refine JL.eff (ef_alloc i42 i42z rfl) rfl ?_
  rintro _ _ ⟨g5, rfl, rfl⟩
  refine JL.eff (ef_store_box (i := 2) (v := .agg #[.int .i64 0, .int .i64 0]) i42 rfl rfl rfl (i42s).symm (Nat.le_of_ble_eq_true rfl) (by simp [Value.cells, Value.oneCell'])) rfl ?_
  rintro _ _ rfl
  refine JL.nil ?_
  refine JE.code ?_
  refine JX.seq ?_
  refine JX.region ?_
  refine JL.val (yl_move rfl) rfl ?_
  refine JL.val (yl_move rfl) rfl ?_
  refine JL.val (yl_mul rfl rfl) rfl ?_
  refine JL.val (yl_add rfl rfl) rfl ?_
  refine JL.val (yl_assign rfl) rfl ?_
  refine JL.nil ?_
  refine JE.weak (env' := [(0, ptrAt b_0 0), (2, .int .i64 q2), (4, ptrAt (some ⟨g1, 0, none⟩) 0), (6, ptrAt (some ⟨g3, 0, none⟩) 0), (8, ptrAt (some ⟨g5, 0, none⟩) 0), (9, .int .i64 (w64 ((w64 (q2 * q2)) + 1)))]) (es' := [boxO 42 g1 [.int .i64 q1.X, .int .i64 q1.Y], boxO 42 g3 [.int .i64 0, .int .i64 0], boxO 42 g5 [.int .i64 0, .int .i64 0]]) [0, 1, 2] ?_ ⟨rfl, rfl, rfl, rfl, rfl, rfl, trivial⟩ (by decide) rfl
  refine JE.code ?_
  refine JX.seq ?_
  refine JX.seq ?_
  refine JX.region ?_
  refine JL.val (yl_assign rfl) rfl ?_
  refine JL.nil ?_
  refine JE.code ?_
  refine JX.block ?_
  obtain ⟨y1, hy1, hresO1⟩ := bind_some hres
  refine JX.loop (I := fun (s1 : Int × Int × SPoint) aa ww => St w [] 58 [(0, ptrAt b_0 0), (2, .int .i64 q2), (4, ptrAt (some ⟨g1, 0, none⟩) 0), (6, ptrAt (some ⟨g3, 0, none⟩) 0), (8, ptrAt (some ⟨g5, 0, none⟩) 0), (9, .int .i64 s1.1), (10, .int .i64 s1.2.1)] [boxO 42 g1 [.int .i64 q1.X, .int .i64 q1.Y], boxO 42 g3 [.int .i64 0, .int .i64 0], boxO 42 g5 [.int .i64 s1.2.2.X, .int .i64 s1.2.2.Y]] aa ww) (sh197_1 q0 q1 q2) hy1 (fun a w h => h.weak ⟨rfl, rfl, rfl, rfl, rfl, rfl, rfl, trivial⟩ [0, 1, 2] (by decide) rfl) ?_
  rintro ⟨x7, x8, x9⟩ o1 hres hox1 aa ww hS
  refine (?_ : JX Go.Proofs.Try.prog w [] 58 _ _ [(0, ptrAt b_0 0), (2, .int .i64 q2), (4, ptrAt (some ⟨g1, 0, none⟩) 0), (6, ptrAt (some ⟨g3, 0, none⟩) 0), (8, ptrAt (some ⟨g5, 0, none⟩) 0), (9, .int .i64 x7), (10, .int .i64 x8)] [boxO 42 g1 [.int .i64 q1.X, .int .i64 q1.Y], boxO 42 g3 [.int .i64 0, .int .i64 0], boxO 42 g5 [.int .i64 x9.X, .int .i64 x9.Y]] _) aa ww hS
  clear hS
  simp only [sh197_1] at hres
  refine JX.seq ?_
  refine JX.seq ?_
  refine JX.region ?_
  refine JL.val (yl_move rfl) rfl ?_
  refine JL.val (yl_move rfl) rfl ?_
  refine JL.val (yl_nilCheckAt rfl (Rd.some g_0 (j := 0) rfl)) rfl ?_
  refine JL.val (yl_fieldAt Go.Proofs.Try.underlying26 rfl i2 i2n rfl (Rd.some g_0 (j := 0) rfl)) rfl ?_
  refine JL.val (yl_load1 Go.Proofs.Try.underlying2 rfl rfl (fun w hC => rd_arg g_0 hC) rfl) rfl ?_
  refine JL.val (yl_mul rfl rfl) rfl ?_
  refine JL.val (yl_leq rfl rfl) rfl ?_
  refine JL.nil ?_
  refine JE.weak (env' := [(0, ptrAt b_0 0), (2, .int .i64 q2), (4, ptrAt (some ⟨g1, 0, none⟩) 0), (6, ptrAt (some ⟨g3, 0, none⟩) 0), (8, ptrAt (some ⟨g5, 0, none⟩) 0), (9, .int .i64 x7), (10, .int .i64 x8), (24, .bool (decide (x8 ≤ (w64 (2 * q0.H)))))]) (es' := [boxO 42 g1 [.int .i64 q1.X, .int .i64 q1.Y], boxO 42 g3 [.int .i64 0, .int .i64 0], boxO 42 g5 [.int .i64 x9.X, .int .i64 x9.Y]]) [0, 1, 2] ?_ ⟨rfl, rfl, rfl, rfl, rfl, rfl, rfl, rfl, trivial⟩ (by decide) rfl
  refine JE.code ?_
  rcases cond_some hres with ⟨hb, hres⟩ | ⟨hb, hres⟩
  · refine JX.condT rfl hb ?_
    refine JX.skip ?_
    refine JE.code ?_
    refine JX.seq ?_
    refine JX.block ?_
    refine JX.seq ?_
    refine JX.region ?_
    refine JL.val (yl_move rfl) rfl ?_
    refine JL.val (yl_rem rfl rfl (by decide)) rfl ?_
    refine JL.val (yl_sub rfl rfl) rfl ?_
    refine JL.val (yl_assign rfl) rfl ?_
    refine JL.nil ?_
    refine JE.weak (env' := [(0, ptrAt b_0 0), (2, .int .i64 q2), (4, ptrAt (some ⟨g1, 0, none⟩) 0), (6, ptrAt (some ⟨g3, 0, none⟩) 0), (8, ptrAt (some ⟨g5, 0, none⟩) 0), (9, .int .i64 x7), (10, .int .i64 x8), (11, .int .i64 (w64 (1 - (x8.tmod 2))))]) (es' := [boxO 42 g1 [.int .i64 q1.X, .int .i64 q1.Y], boxO 42 g3 [.int .i64 0, .int .i64 0], boxO 42 g5 [.int .i64 x9.X, .int .i64 x9.Y]]) [0, 1, 2] ?_ ⟨rfl, rfl, rfl, rfl, rfl, rfl, rfl, rfl, trivial⟩ (by decide) rfl
    refine JE.code ?_
    refine JX.block ?_
    obtain ⟨y2, hy2, hresO2⟩ := bind_some hres
    refine JX.loop (I := fun (s2 : Int × Int × SPoint) aa ww => St w [] 58 [(0, ptrAt b_0 0), (2, .int .i64 q2), (4, ptrAt (some ⟨g1, 0, none⟩) 0), (6, ptrAt (some ⟨g3, 0, none⟩) 0), (8, ptrAt (some ⟨g5, 0, none⟩) 0), (9, .int .i64 s2.1), (10, .int .i64 x8), (11, .int .i64 s2.2.1)] [boxO 42 g1 [.int .i64 q1.X, .int .i64 q1.Y], boxO 42 g3 [.int .i64 0, .int .i64 0], boxO 42 g5 [.int .i64 s2.2.2.X, .int .i64 s2.2.2.Y]] aa ww) (sh197_2 q0 q1 q2 x8) hy2 (fun a w h => h.weak ⟨rfl, rfl, rfl, rfl, rfl, rfl, rfl, rfl, trivial⟩ [0, 1, 2] (by decide) rfl) ?_
    rintro ⟨x10, x11, x12⟩ o2 hres hox2 aa ww hS
    refine (?_ : JX Go.Proofs.Try.prog w [] 58 _ _ [(0, ptrAt b_0 0), (2, .int .i64 q2), (4, ptrAt (some ⟨g1, 0, none⟩) 0), (6, ptrAt (some ⟨g3, 0, none⟩) 0), (8, ptrAt (some ⟨g5, 0, none⟩) 0), (9, .int .i64 x10), (10, .int .i64 x8), (11, .int .i64 x11)] [boxO 42 g1 [.int .i64 q1.X, .int .i64 q1.Y], boxO 42 g3 [.int .i64 0, .int .i64 0], boxO 42 g5 [.int .i64 x12.X, .int .i64 x12.Y]] _) aa ww hS
    clear hS
    simp only [sh197_2] at hres
    refine JX.seq ?_
    refine JX.seq ?_
    refine JX.region ?_
    refine JL.val (yl_move rfl) rfl ?_
    refine JL.val (yl_move rfl) rfl ?_
    refine JL.val (yl_nilCheckAt rfl (Rd.some g_0 (j := 0) rfl)) rfl ?_
    refine JL.val (yl_fieldAt Go.Proofs.Try.underlying26 rfl i2 i2n rfl (Rd.some g_0 (j := 0) rfl)) rfl ?_
    refine JL.val (yl_load1 Go.Proofs.Try.underlying2 rfl rfl (fun w hC => rd_arg g_0 hC) rfl) rfl ?_
    refine JL.val (yl_mul rfl rfl) rfl ?_
    refine JL.val (yl_leq rfl rfl) rfl ?_
    refine JL.nil ?_
    refine JE.weak (env' := [(0, ptrAt b_0 0), (2, .int .i64 q2), (4, ptrAt (some ⟨g1, 0, none⟩) 0), (6, ptrAt (some ⟨g3, 0, none⟩) 0), (8, ptrAt (some ⟨g5, 0, none⟩) 0), (9, .int .i64 x10), (10, .int .i64 x8), (11, .int .i64 x11), (36, .bool (decide (x11 ≤ (w64 (2 * q0.W)))))]) (es' := [boxO 42 g1 [.int .i64 q1.X, .int .i64 q1.Y], boxO 42 g3 [.int .i64 0, .int .i64 0], boxO 42 g5 [.int .i64 x12.X, .int .i64 x12.Y]]) [0, 1, 2] ?_ ⟨rfl, rfl, rfl, rfl, rfl, rfl, rfl, rfl, rfl, trivial⟩ (by decide) rfl
    refine JE.code ?_
    rcases cond_some hres with ⟨hb, hres⟩ | ⟨hb, hres⟩
    · refine JX.condT rfl hb ?_
      refine JX.skip ?_
      refine JE.code ?_
      refine JX.seq ?_
      refine JX.block ?_
      refine JX.seq ?_
      refine JX.region ?_
      refine JL.val (yl_loadn Go.Proofs.Try.underlying42 rfl i42 rfl (fun w hC => rd_box hC 0 rfl) rfl (i42s).symm i42p) rfl ?_
      refine JL.val (yl_move rfl) rfl ?_
      refine JL.val (yl_move rfl) rfl ?_
      refine JL.val (yl_build rfl (fun w => bld42_0_1 x11 x8 w)) rfl ?_
      refine JL.val (yl_move rfl) rfl ?_
      obtain ⟨x13, hx13, hres⟩ := bind_some hres
      refine JL.eff (ef_call (vs := [.agg #[.int .i64 q1.X, .int .i64 q1.Y], .agg #[.int .i64 x11, .int .i64 x8], .int .i64 q2]) (T := T212 x13) Go.Proofs.Try.func212 rfl (by kernel_rfl) rfl (fun w hC => c212 (q0 := q1) (q1 := SPoint.mk x11 x8) hx13)) rfl ?_
      rintro _ _ ⟨_, ⟨rfl, rfl⟩, rfl⟩
      refine JL.val (yl_assign rfl) rfl ?_
      refine JL.nil ?_
      refine JE.weak (env' := [(0, ptrAt b_0 0), (2, .int .i64 q2), (4, ptrAt (some ⟨g1, 0, none⟩) 0), (6, ptrAt (some ⟨g3, 0, none⟩) 0), (8, ptrAt (some ⟨g5, 0, none⟩) 0), (9, .int .i64 x10), (10, .int .i64 x8), (11, .int .i64 x11), (12, .int .i64 x13)]) (es' := [boxO 42 g1 [.int .i64 q1.X, .int .i64 q1.Y], boxO 42 g3 [.int .i64 0, .int .i64 0], boxO 42 g5 [.int .i64 x12.X, .int .i64 x12.Y]]) [0, 1, 2] ?_ ⟨rfl, rfl, rfl, rfl, rfl, rfl, rfl, rfl, rfl, trivial⟩ (by decide) rfl
      refine JE.code ?_
      refine JX.seq ?_
      refine JX.region ?_
      refine JL.val (yl_move rfl) rfl ?_
      refine JL.val (yl_move rfl) rfl ?_
      refine JL.val (yl_lss rfl rfl) rfl ?_
      refine JL.nil ?_
      refine JE.code ?_
      obtain ⟨j14, hj14, hresj14⟩ := bind_some hres
      refine JX.cut (K := fun J => J [(0, ptrAt b_0 0), (2, .int .i64 q2), (4, ptrAt (some ⟨g1, 0, none⟩) 0), (6, ptrAt (some ⟨g3, 0, none⟩) 0), (8, ptrAt (some ⟨g5, 0, none⟩) 0), (9, .int .i64 j14.1), (10, .int .i64 x8), (11, .int .i64 x11)] [boxO 42 g1 [.int .i64 q1.X, .int .i64 q1.Y], boxO 42 g3 [.int .i64 0, .int .i64 0], boxO 42 g5 [.int .i64 j14.2.X, .int .i64 j14.2.Y]]) ?_ ?_
      · have hres := hresj14
        refine JE.code ?_
        refine JX.region ?_
        refine JL.val (yl_move rfl) rfl ?_
        refine JL.val (yl_add rfl rfl) rfl ?_
        refine JL.val (yl_assign rfl) rfl ?_
        refine JL.nil ?_
        refine JE.cont hres ?_
        exact fun a w h => h.weak ⟨rfl, rfl, rfl, rfl, rfl, rfl, rfl, rfl, trivial⟩ [0, 1, 2] (by decide) rfl
      · intro K
        rcases cond_some hj14 with ⟨hb, hres⟩ | ⟨hb, hres⟩
        · refine JX.condT rfl hb ?_
          refine JX.seq ?_
          refine JX.region ?_
          refine JL.val (yl_move rfl) rfl ?_
          refine JL.val (yl_assign rfl) rfl ?_
          refine JL.nil ?_
          refine JE.code ?_
          refine JX.region ?_
          refine JL.val (yl_move rfl) rfl ?_
          refine JL.val (yl_move rfl) rfl ?_
          refine JL.val (yl_build rfl (fun w => bld42_0_1 x11 x8 w)) rfl ?_
          refine JL.eff (ef_store_box (i := 2) (v := .agg #[.int .i64 x11, .int .i64 x8]) i42 rfl rfl rfl (i42s).symm (Nat.le_of_ble_eq_true rfl) (by simp [Value.cells, Value.oneCell'])) rfl ?_
          rintro _ _ rfl
          refine JL.nil ?_
          refine JE.weak (env' := [(0, ptrAt b_0 0), (2, .int .i64 q2), (4, ptrAt (some ⟨g1, 0, none⟩) 0), (6, ptrAt (some ⟨g3, 0, none⟩) 0), (8, ptrAt (some ⟨g5, 0, none⟩) 0), (9, .int .i64 x13), (10, .int .i64 x8), (11, .int .i64 x11)]) (es' := [boxO 42 g1 [.int .i64 q1.X, .int .i64 q1.Y], boxO 42 g3 [.int .i64 0, .int .i64 0], boxO 42 g5 [.int .i64 x11, .int .i64 x8]]) [0, 1, 2] ?_ ⟨rfl, rfl, rfl, rfl, rfl, rfl, rfl, rfl, trivial⟩ (by decide) rfl
          have hj := Option.some.inj hres
          exact JE.weak [0, 1, 2] (K) ⟨(by subst hj; rfl), (by subst hj; rfl), (by subst hj; rfl), (by subst hj; rfl), (by subst hj; rfl), (by subst hj; rfl), (by subst hj; rfl), (by subst hj; rfl), trivial⟩ (by decide) (by subst hj; rfl)
        · refine JX.condF rfl hb ?_
          refine JX.skip ?_
          have hj := Option.some.inj hres
          exact JE.weak [0, 1, 2] (K) ⟨(by subst hj; rfl), (by subst hj; rfl), (by subst hj; rfl), (by subst hj; rfl), (by subst hj; rfl), (by subst hj; rfl), (by subst hj; rfl), (by subst hj; rfl), trivial⟩ (by decide) (by subst hj; rfl)
    · refine JX.condF rfl hb ?_
      refine JX.exit ?_
      refine JE.qb rfl ?_
      obtain ⟨b2, hb2⟩ : ∃ b : Int × SPoint, b = (x10, x12) := ⟨_, rfl⟩
      have hy2 : b2 = y2 := by rw [hb2]; exact hox2 _ (Option.some.inj hres).symm
      have hres := hresO2
      rw [← hy2] at hres
      refine JE.weak (env' := [(0, ptrAt b_0 0), (2, .int .i64 q2), (4, ptrAt (some ⟨g1, 0, none⟩) 0), (6, ptrAt (some ⟨g3, 0, none⟩) 0), (8, ptrAt (some ⟨g5, 0, none⟩) 0), (9, .int .i64 b2.1), (10, .int .i64 x8)]) (es' := [boxO 42 g1 [.int .i64 q1.X, .int .i64 q1.Y], boxO 42 g3 [.int .i64 0, .int .i64 0], boxO 42 g5 [.int .i64 b2.2.X, .int .i64 b2.2.Y]]) [0, 1, 2] ?_ ⟨(by subst hb2; rfl), (by subst hb2; rfl), (by subst hb2; rfl), (by subst hb2; rfl), (by subst hb2; rfl), (by subst hb2; rfl), (by subst hb2; rfl), trivial⟩ (by decide) (by subst hb2; rfl)
      refine JE.code ?_
      refine JX.region ?_
      refine JL.val (yl_move rfl) rfl ?_
      refine JL.val (yl_add rfl rfl) rfl ?_
      refine JL.val (yl_assign rfl) rfl ?_
      refine JL.nil ?_
      refine JE.cont hres ?_
      exact fun a w h => h.weak ⟨rfl, rfl, rfl, rfl, rfl, rfl, rfl, trivial⟩ [0, 1, 2] (by decide) rfl
  · refine JX.condF rfl hb ?_
    refine JX.exit ?_
    refine JE.qb rfl ?_
    obtain ⟨b1, hb1⟩ : ∃ b : Int × SPoint, b = (x7, x9) := ⟨_, rfl⟩
    have hy1 : b1 = y1 := by rw [hb1]; exact hox1 _ (Option.some.inj hres).symm
    have hres := hresO1
    rw [← hy1] at hres
    refine JE.weak (env' := [(2, .int .i64 q2), (6, ptrAt (some ⟨g3, 0, none⟩) 0), (8, ptrAt (some ⟨g5, 0, none⟩) 0), (9, .int .i64 b1.1)]) (es' := [boxO 42 g3 [.int .i64 0, .int .i64 0], boxO 42 g5 [.int .i64 b1.2.X, .int .i64 b1.2.Y]]) [1, 2] ?_ ⟨(by subst hb1; rfl), (by subst hb1; rfl), (by subst hb1; rfl), (by subst hb1; rfl), trivial⟩ (by decide) (by subst hb1; rfl)
    refine JE.code ?_
    refine JX.seq ?_
    refine JX.region ?_
    refine JL.val (yl_loadn Go.Proofs.Try.underlying42 rfl i42 rfl (fun w hC => rd_box hC 1 rfl) rfl (i42s).symm i42p) rfl ?_
    refine JL.val (yl_move rfl) rfl ?_
    refine JL.val (yl_move rfl) rfl ?_
    refine JL.val (yl_move rfl) rfl ?_
    refine JL.val (yl_mul rfl rfl) rfl ?_
    refine JL.val (yl_leq rfl rfl) rfl ?_
    refine JL.eff (ef_store_box (i := 0) (v := .agg #[.int .i64 b1.2.X, .int .i64 b1.2.Y]) i42 rfl rfl rfl (i42s).symm (Nat.le_of_ble_eq_true rfl) (by simp [Value.cells, Value.oneCell'])) rfl ?_
    rintro _ _ rfl
    refine JL.val (yl_assign rfl) rfl ?_
    refine JL.nil ?_
    refine JE.weak (env' := [(6, ptrAt (some ⟨g3, 0, none⟩) 0), (7, .bool (decide (b1.1 ≤ (w64 (q2 * q2)))))]) (es' := [boxO 42 g3 [.int .i64 b1.2.X, .int .i64 b1.2.Y]]) [0] ?_ ⟨rfl, rfl, trivial⟩ (by decide) rfl
    refine JE.code ?_
    refine JX.ret ?_
    obtain rfl := Option.some.inj hres
    refine JE.ret (rs := [.cell 6 42, .tmp 7]) (vs := [.agg #[.int .i64 b1.2.X, .int .i64 b1.2.Y], .bool (decide (b1.1 ≤ (w64 (q2 * q2))))]) rfl ⟨rv_box 0 rfl rfl Go.Proofs.Try.underlying42 rfl i42 (i42s).symm, rfl, trivial⟩ ?_
    exact fun w' hb hs => ⟨_, _, ⟨rfl, rfl⟩, rfl, hb, hs.sel [] _ (by decide) rfl⟩

/- spec.l19Apply -/
def sh133 (q0 : SPanel) (q1 : List SPoint) (q2 : Int) : Option (Int × List Int) := Option.bind (sh196 q1 q2) fun x1 => bif x1 == 3 then (some (7, q0.Breaks)) else (Option.bind (sh113 q1) fun x2 => Option.bind (sh197 q0 (SPoint.mk (w64 ((w64 (x2.1.X + x2.2.X)).tdiv 2)) (w64 ((w64 (x2.1.Y + x2.2.Y)).tdiv 2))) q2) fun x7 => bif !x7.2 then (some (3, q0.Breaks)) else (Option.bind (sh188 q0 x7.1) fun x10 => bif x10 then (some (6, q0.Breaks)) else (Option.bind (sh141 q0 x7.1) fun x12 => Option.bind (getI q0.Breaks x12) fun x13 => some (0, q0.Breaks.set (x12).toNat x1))))
def T133 (a_0_2 : Option Addr) (n_0_2 c_0_2 : Nat) (r : Int × List Int) (v : Value) (es' rs : List Own) : Prop := r.2.length = n_0_2 ∧ es' = [rowT 2 eI64 a_0_2 n_0_2 c_0_2 r.2] ∧ v = rets [.int .i64 r.1] ∧ rs = []
set_option maxRecDepth 100000 in
theorem c133 {w : World} {M : List Nat} {q0 : SPanel} {a_0 : Option Addr} {n_0 : Nat} {a_0_2 : Option Addr} {n_0_2 c_0_2 : Nat} (g_0 : RdAtS M w a_0 n_0 [.int .i64 q0.W, .int .i64 q0.H, .slice a_0_2 n_0_2 c_0_2]) (l_0_2 : q0.Breaks.length = n_0_2) {q1 : List SPoint} {a_1 : Option Addr} {n_1 c_1 : Nat} (g_1 : RdS M w a_1 (eSPoint.fl q1)) (l_1 : q1.length = n_1) (k_1 : n_1 ≤ c_1) {q2 : Int} (gs : Sep w.heap.size M w [rowT 2 eI64 a_0_2 n_0_2 c_0_2 q0.Breaks]) {r : Int × List Int} (hres : sh133 q0 q1 q2 = some r) : Calls Go.Proofs.Try.prog 133 [ptrAt a_0 n_0, .slice a_1 n_1 c_1, .int .i64 q2].toArray w (RetMs w M (T133 a_0_2 n_0_2 c_0_2 r)) := by
  subst l_0_2
  obtain ⟨b_0, e_0, g_0⟩ := g_0.norm0
  rw [e_0]
  subst l_1
  unfold sh133 at hres
  refine calls_of (n := 55) (M := M) (es := [rowT 2 eI64 a_0_2 q0.Breaks.length c_0_2 q0.Breaks]) Go.Proofs.Try.func133 rfl rfl rfl gs ?_
  refine JX.seq ?_
  refine JX.region ?_
  refine JL.val (yl_assign rfl) rfl ?_
  refine JL.nil ?_
  refine JE.code ?_
  refine JX.seq ?_
  refine JX.region ?_
  refine JL.val (yl_move rfl) rfl ?_
  refine JL.val (yl_move rfl) rfl ?_
  obtain ⟨x1, hx1, hres⟩ := bind_some hres
  refine JL.eff (ef_call (T := T196 x1) Go.Proofs.Try.func196 rfl (by kernel_rfl) rfl (fun w hC => c196 (rd_argS g_1 hC) rfl k_1 hx1)) rfl ?_
  rintro _ _ ⟨_, ⟨rfl, rfl⟩, rfl⟩
  refine JL.val (yl_assign rfl) rfl ?_
  refine JL.nil ?_
  refine JE.weak (env' := [(0, ptrAt b_0 0), (1, .slice a_1 q1.length c_1), (2, .int .i64 q2), (7, .int .i64 x1)]) (es' := [rowT 2 eI64 a_0_2 q0.Breaks.length c_0_2 q0.Breaks]) [0] ?_ ⟨rfl, rfl, rfl, rfl, trivial⟩ (by decide) rfl
  refine JE.code ?_
  refine JX.seq ?_
  refine JX.seq ?_
  refine JX.region ?_
  refine JL.val (yl_move rfl) rfl ?_
  refine JL.val (yl_eql rfl rfl) rfl ?_
  refine JL.nil ?_
  refine JE.code ?_
  rcases cond_some hres with ⟨hb, hres⟩ | ⟨hb, hres⟩
  · refine JX.condT rfl hb ?_
    refine JX.seq ?_
    refine JX.region ?_
    refine JL.val (yl_assign rfl) rfl ?_
    refine JL.nil ?_
    refine JE.code ?_
    refine JX.ret ?_
    obtain rfl := Option.some.inj hres
    refine JE.ret (rs := [.tmp 6]) (vs := [.int .i64 7]) rfl ⟨rfl, trivial⟩ ?_
    exact fun w' hb hs => ⟨_, _, _, ⟨rfl, rfl, rfl, rfl⟩, rfl, hb, hs.sel [0] _ (by decide) rfl⟩
  · refine JX.condF rfl hb ?_
    refine JX.skip ?_
    refine JE.code ?_
    refine JX.seq ?_
    refine JX.region ?_
    refine JL.val (yl_move rfl) rfl ?_
    obtain ⟨x2, hx2, hres⟩ := bind_some hres
    refine JL.eff (ef_call (T := T113 x2) Go.Proofs.Try.func113 rfl (by kernel_rfl) rfl (fun w hC => c113 (rd_argS g_1 hC) rfl k_1 hx2)) rfl ?_
    rintro _ _ ⟨_, ⟨rfl, rfl⟩, rfl⟩
    refine JL.val (yl_move rfl) rfl ?_
    refine JL.val (yl_extract rfl rfl) rfl ?_
    refine JL.val (yl_extract rfl rfl) rfl ?_
    refine JL.eff (ef_alloc i42 i42z rfl) rfl ?_
    rintro _ _ ⟨g3, rfl, rfl⟩
    refine JL.eff (ef_alloc i42 i42z rfl) rfl ?_
    rintro _ _ ⟨g5, rfl, rfl⟩
    refine JL.eff (ef_store_box (i := 1) (v := .agg #[.int .i64 x2.1.X, .int .i64 x2.1.Y]) i42 rfl rfl rfl (i42s).symm (Nat.le_of_ble_eq_true rfl) (by simp [Value.cells, Value.oneCell'])) rfl ?_
    rintro _ _ rfl
    refine JL.eff (ef_store_box (i := 2) (v := .agg #[.int .i64 x2.2.X, .int .i64 x2.2.Y]) i42 rfl rfl rfl (i42s).symm (Nat.le_of_ble_eq_true rfl) (by simp [Value.cells, Value.oneCell'])) rfl ?_
    rintro _ _ rfl
    refine JL.nil ?_
    refine JE.weak (env' := [(0, ptrAt b_0 0), (2, .int .i64 q2), (7, .int .i64 x1), (8, ptrAt (some ⟨g3, 0, none⟩) 0), (9, ptrAt (some ⟨g5, 0, none⟩) 0)]) (es' := [rowT 2 eI64 a_0_2 q0.Breaks.length c_0_2 q0.Breaks, boxO 42 g3 [.int .i64 x2.1.X, .int .i64 x2.1.Y], boxO 42 g5 [.int .i64 x2.2.X, .int .i64 x2.2.Y]]) [0, 1, 2] ?_ ⟨rfl, rfl, rfl, rfl, rfl, trivial⟩ (by decide) rfl
    refine JE.code ?_
    refine JX.seq ?_
    refine JX.region ?_
    refine JL.val (yl_move rfl) rfl ?_
    refine JL.val (yl_fieldAt (a := some _) Go.Proofs.Try.underlying42 rfl i2 i2n rfl rfl) rfl ?_
    refine JL.val (yl_load1 Go.Proofs.Try.underlying2 rfl rfl (fun w hC => rd_box hC 1 rfl) rfl) rfl ?_
    refine JL.val (yl_fieldAt (a := some _) Go.Proofs.Try.underlying42 rfl i2 i2n rfl rfl) rfl ?_
    refine JL.val (yl_load1 Go.Proofs.Try.underlying2 rfl rfl (fun w hC => rd_box hC 2 rfl) rfl) rfl ?_
    refine JL.val (yl_add rfl rfl) rfl ?_
    refine JL.val (yl_quo rfl rfl (by decide)) rfl ?_
    refine JL.val (yl_fieldAt (a := some _) Go.Proofs.Try.underlying42 rfl i2 i2n rfl rfl) rfl ?_
    refine JL.val (yl_load1 Go.Proofs.Try.underlying2 rfl rfl (fun w hC => rd_box hC 1 rfl) rfl) rfl ?_
    refine JL.val (yl_fieldAt (a := some _) Go.Proofs.Try.underlying42 rfl i2 i2n rfl rfl) rfl ?_
    refine JL.val (yl_load1 Go.Proofs.Try.underlying2 rfl rfl (fun w hC => rd_box hC 2 rfl) rfl) rfl ?_
    refine JL.val (yl_add rfl rfl) rfl ?_
    refine JL.val (yl_quo rfl rfl (by decide)) rfl ?_
    refine JL.val (yl_build rfl (fun w => bld42_0_1 (w64 ((w64 (x2.1.X + x2.2.X)).tdiv 2)) (w64 ((w64 (x2.1.Y + x2.2.Y)).tdiv 2)) w)) rfl ?_
    refine JL.val (yl_move rfl) rfl ?_
    obtain ⟨x7, hx7, hres⟩ := bind_some hres
    refine JL.eff (ef_call (vs := [ptrAt b_0 0, .agg #[.int .i64 (w64 ((w64 (x2.1.X + x2.2.X)).tdiv 2)), .int .i64 (w64 ((w64 (x2.1.Y + x2.2.Y)).tdiv 2))], .int .i64 q2]) (T := T197 x7) Go.Proofs.Try.func197 rfl (by kernel_rfl) rfl (fun w hC => c197 (q1 := SPoint.mk (w64 ((w64 (x2.1.X + x2.2.X)).tdiv 2)) (w64 ((w64 (x2.1.Y + x2.2.Y)).tdiv 2))) (RdAt.of0 (rd_argS g_0 hC)) (rd_row hC 0 rfl) rfl (ln_row hC 0 rfl) hx7)) rfl ?_
    rintro _ _ ⟨_, ⟨rfl, rfl⟩, rfl⟩
    refine JL.val (yl_move rfl) rfl ?_
    refine JL.val (yl_extract rfl rfl) rfl ?_
    refine JL.val (yl_extract rfl rfl) rfl ?_
    refine JL.eff (ef_alloc i42 i42z rfl) rfl ?_
    rintro _ _ ⟨g8, rfl, rfl⟩
    refine JL.eff (ef_store_box (i := 3) (v := .agg #[.int .i64 x7.1.X, .int .i64 x7.1.Y]) i42 rfl rfl rfl (i42s).symm (Nat.le_of_ble_eq_true rfl) (by simp [Value.cells, Value.oneCell'])) rfl ?_
    rintro _ _ rfl
    refine JL.val (yl_assign rfl) rfl ?_
    refine JL.nil ?_
    refine JE.weak (env' := [(0, ptrAt b_0 0), (7, .int .i64 x1), (10, ptrAt (some ⟨g8, 0, none⟩) 0), (11, .bool x7.2)]) (es' := [rowT 2 eI64 a_0_2 q0.Breaks.length c_0_2 q0.Breaks, boxO 42 g8 [.int .i64 x7.1.X, .int .i64 x7.1.Y]]) [0, 3] ?_ ⟨rfl, rfl, rfl, rfl, trivial⟩ (by decide) rfl
    refine JE.code ?_
    refine JX.seq ?_
    refine JX.seq ?_
    refine JX.region ?_
    refine JL.val (yl_move rfl) rfl ?_
    refine JL.val (yl_not rfl) rfl ?_
    refine JL.nil ?_
    refine JE.code ?_
    rcases cond_some hres with ⟨hb, hres⟩ | ⟨hb, hres⟩
    · refine JX.condT rfl hb ?_
      refine JX.seq ?_
      refine JX.region ?_
      refine JL.val (yl_assign rfl) rfl ?_
      refine JL.nil ?_
      refine JE.weak (env' := [(6, .int .i64 3)]) (es' := [rowT 2 eI64 a_0_2 q0.Breaks.length c_0_2 q0.Breaks]) [0] ?_ ⟨rfl, trivial⟩ (by decide) rfl
      refine JE.code ?_
      refine JX.ret ?_
      obtain rfl := Option.some.inj hres
      refine JE.ret (rs := [.tmp 6]) (vs := [.int .i64 3]) rfl ⟨rfl, trivial⟩ ?_
      exact fun w' hb hs => ⟨_, _, _, ⟨rfl, rfl, rfl, rfl⟩, rfl, hb, hs.sel [0] _ (by decide) rfl⟩
    · refine JX.condF rfl hb ?_
      refine JX.skip ?_
      refine JE.code ?_
      refine JX.seq ?_
      refine JX.seq ?_
      refine JX.region ?_
      refine JL.val (yl_move rfl) rfl ?_
      refine JL.val (yl_loadn Go.Proofs.Try.underlying42 rfl i42 rfl (fun w hC => rd_box hC 1 rfl) rfl (i42s).symm i42p) rfl ?_
      obtain ⟨x10, hx10, hres⟩ := bind_some hres
      refine JL.eff (ef_call (vs := [ptrAt b_0 0, .agg #[.int .i64 x7.1.X, .int .i64 x7.1.Y]]) (T := T188 x10) Go.Proofs.Try.func188 rfl (by kernel_rfl) rfl (fun w hC => c188 (q1 := x7.1) (RdAt.of0 (rd_argS g_0 hC)) (rd_row hC 0 rfl) rfl (ln_row hC 0 rfl) hx10)) rfl ?_
      rintro _ _ ⟨_, ⟨rfl, rfl⟩, rfl⟩
      refine JL.nil ?_
      refine JE.code ?_
      rcases cond_some hres with ⟨hb, hres⟩ | ⟨hb, hres⟩
      · refine JX.condT rfl hb ?_
        refine JX.seq ?_
        refine JX.region ?_
        refine JL.val (yl_assign rfl) rfl ?_
        refine JL.nil ?_
        refine JE.weak (env' := [(6, .int .i64 6)]) (es' := [rowT 2 eI64 a_0_2 q0.Breaks.length c_0_2 q0.Breaks]) [0] ?_ ⟨rfl, trivial⟩ (by decide) rfl
        refine JE.code ?_
        refine JX.ret ?_
        obtain rfl := Option.some.inj hres
        refine JE.ret (rs := [.tmp 6]) (vs := [.int .i64 6]) rfl ⟨rfl, trivial⟩ ?_
        exact fun w' hb hs => ⟨_, _, _, ⟨rfl, rfl, rfl, rfl⟩, rfl, hb, hs.sel [0] _ (by decide) rfl⟩
      · refine JX.condF rfl hb ?_
        refine JX.skip ?_
        refine JE.code ?_
        refine JX.seq ?_
        refine JX.drawH [(0, .pure), (1, .pure), (2, .pure), (3, .read), (4, .pure), (5, .read), (7, .pure), (6, .must), (8, .pure), (9, .must)] [9] [0] [1] [rowT 2 eI64 a_0_2 q0.Breaks.length c_0_2 q0.Breaks] [boxO 42 g8 [.int .i64 x7.1.X, .int .i64 x7.1.Y]] mixedP (by kernel_rfl) (by kernel_rfl) (by decide) rfl rfl ?_
        intro wrr11 Nr11 hFr11
        refine JH.pure rfl (yl_move rfl) rfl ?_
        refine JH.pure rfl (yl_nilCheckAt rfl (Rd.some g_0.rd (j := 0) rfl)) rfl ?_
        refine JH.pure rfl (yl_fieldAt Go.Proofs.Try.underlying26 rfl i24 i24n rfl (Rd.some g_0.rd (j := 0) rfl)) rfl ?_
        refine JH.read rfl (yl_load1 Go.Proofs.Try.underlying24 rfl rfl (fun w hw => hFr11.argS g_0 hw) rfl) rfl ?_
        refine JH.pure rfl (yl_move rfl) rfl ?_
        refine JH.read rfl (yl_loadn Go.Proofs.Try.underlying42 rfl i42 rfl (fun w hw => hFr11.box 1 rfl rfl hw) rfl (i42s).symm i42p) rfl ?_
        refine JH.pure rfl (yl_move rfl) rfl ?_
        obtain ⟨x12, hx12, hres⟩ := bind_some hres
        refine JH.must rfl (ef_call (vs := [ptrAt b_0 0, .agg #[.int .i64 x7.1.X, .int .i64 x7.1.Y]]) (T := T141 x12) Go.Proofs.Try.func141 rfl (by kernel_rfl) rfl (fun w hC => c141 (q1 := x7.1) (RdAt.of0 (hFr11.argS g_0 hC.1)) (rd_row hC 0 rfl) rfl (ln_row hC 0 rfl) hx12)) rfl rfl ?_
        rintro _ _ ⟨_, ⟨rfl, rfl⟩, rfl⟩
        obtain ⟨x13, hx13, hres⟩ := bind_some hres
        refine JH.pure rfl (yl_idxQ Go.Proofs.Try.underlying24 i2 i2s rfl rfl hx13 rfl (rd_row hFr11.cl 0 rfl) rfl) rfl ?_
        refine JH.must rfl (ef_storeT (ix := 0) (u := x1) i2 i2s rfl rfl rfl hx13 rfl) rfl rfl ?_
        rintro _ _ rfl
        refine JH.nil ?_
        refine JE.weak (env' := []) (es' := [rowT 2 eI64 a_0_2 q0.Breaks.length c_0_2 (q0.Breaks.set (x12).toNat x1)]) [1] ?_ trivial (by decide) rfl
        refine JE.code ?_
        refine JX.seq ?_
        refine JX.region ?_
        refine JL.val (yl_assign rfl) rfl ?_
        refine JL.nil ?_
        refine JE.code ?_
        refine JX.ret ?_
        obtain rfl := Option.some.inj hres
        refine JE.ret (rs := [.tmp 6]) (vs := [.int .i64 0]) rfl ⟨rfl, trivial⟩ ?_
        exact fun w' hb hs => ⟨_, _, _, ⟨List.length_set, rfl, rfl, rfl⟩, rfl, hb, hs.sel [0] _ (by decide) rfl⟩

/- spec.ApplyStroke -/
def sh41 (q0 : SPanel) (q1 : List SPoint) (q2 : Int) : Option (SPanel × Int) := Option.bind (sh130 q1) fun x5 => bif !x5 then (some (SPanel.mk 0 0 ([] : List Int), 1)) else (Option.bind (sh131 q0 q2) fun x7 => bif x7 != 0 then (some (SPanel.mk 0 0 ([] : List Int), x7)) else (Option.bind (sh132 q0) fun x9 => Option.bind (sh133 x9 q1 q2) fun x15 => bif x15.1 != 0 then (some (SPanel.mk 0 0 ([] : List Int), x15.1)) else (some (SPanel.mk x9.W x9.H x15.2, 0))))
def T41 (r : SPanel × Int) (v : Value) (rs : List Own) : Prop := ∃ (a0_2 : Option Addr) (n0_2 c0_2 : Nat), r.1.Breaks.length = n0_2 ∧ v = rets [.agg #[.int .i64 r.1.W, .int .i64 r.1.H, .slice a0_2 n0_2 c0_2], .int .i64 r.2] ∧ rs = [rowT 2 eI64 a0_2 n0_2 c0_2 r.1.Breaks]
set_option maxRecDepth 100000 in
theorem c41 {w : World} {q0 : SPanel} {a_0_2 : Option Addr} {n_0_2 c_0_2 : Nat} (g_0_2 : Rd w a_0_2 (eI64.fl q0.Breaks)) (l_0_2 : q0.Breaks.length = n_0_2) (k_0_2 : n_0_2 ≤ c_0_2) {q1 : List SPoint} {a_1 : Option Addr} {n_1 c_1 : Nat} (g_1 : Rd w a_1 (eSPoint.fl q1)) (l_1 : q1.length = n_1) (k_1 : n_1 ≤ c_1) {q2 : Int} {r : SPanel × Int} (hres : sh41 q0 q1 q2 = some r) : Calls Go.Proofs.Try.prog 41 [.agg #[.int .i64 q0.W, .int .i64 q0.H, .slice a_0_2 n_0_2 c_0_2], .slice a_1 n_1 c_1, .int .i64 q2].toArray w (Ret w (T41 r)) := by
  subst l_0_2
  subst l_1
  unfold sh41 at hres
  refine calls_of (n := 29) (M := []) (es := []) Go.Proofs.Try.func41 rfl rfl rfl (Sep.nil _ _ _) ?_
  refine JX.seq ?_
  refine JX.region ?_
  refine JL.eff (ef_box rfl rfl) rfl ?_
  rintro _ _ ⟨g1, rfl, rfl⟩
  refine JL.eff (ef_alloc i26 i26z rfl) rfl ?_
  rintro _ _ ⟨g3, rfl, rfl⟩
  refine JL.val (yl_assign rfl) rfl ?_
  refine JL.nil ?_
  refine JE.code ?_
  refine JX.seq ?_
  refine JX.seq ?_
  refine JX.region ?_
  refine JL.val (yl_move rfl) rfl ?_
  obtain ⟨x5, hx5, hres⟩ := bind_some hres
  refine JL.eff (ef_call (T := T130 x5) Go.Proofs.Try.func130 rfl (by kernel_rfl) rfl (fun w hC => c130 (rd_arg g_1 hC) rfl k_1 hx5)) rfl ?_
  rintro _ _ ⟨_, ⟨rfl, rfl⟩, rfl⟩
  refine JL.val (yl_not rfl) rfl ?_
  refine JL.nil ?_
  refine JE.code ?_
  rcases cond_some hres with ⟨hb, hres⟩ | ⟨hb, hres⟩
  · refine JX.condT rfl hb ?_
    refine JX.seq ?_
    refine JX.region ?_
    refine JL.val (yl_build rfl (fun w => bld26_  w)) rfl ?_
    refine JL.eff (ef_store_box (i := 1) (v := .agg #[.int .i64 0, .int .i64 0, .slice none 0 0]) i26 rfl rfl rfl (i26s).symm (Nat.le_of_ble_eq_true rfl) (by simp [Value.cells, Value.oneCell'])) rfl ?_
    rintro _ _ rfl
    refine JL.val (yl_assign rfl) rfl ?_
    refine JL.nil ?_
    refine JE.weak (env' := [(6, ptrAt (some ⟨g3, 0, none⟩) 0), (7, .int .i64 1)]) (es' := [boxO 26 g3 [.int .i64 0, .int .i64 0, .slice none 0 0]]) [1] ?_ ⟨rfl, rfl, trivial⟩ (by decide) rfl
    refine JE.code ?_
    refine JX.ret ?_
    refine JE.nilrow 2 eI64 ?_
    obtain rfl := Option.some.inj hres
    refine JE.ret (rs := [.cell 6 26, .tmp 7]) (vs := [.agg #[.int .i64 0, .int .i64 0, .slice none 0 0], .int .i64 1]) rfl ⟨rv_box 0 rfl rfl Go.Proofs.Try.underlying26 rfl i26 (i26s).symm, rfl, trivial⟩ ?_
    exact fun w' hb hs => ⟨_, _, ⟨none, 0, 0, rfl, rfl, rfl⟩, rfl, hb, hs.sel [1] _ (by decide) rfl⟩
  · refine JX.condF rfl hb ?_
    refine JX.skip ?_
    refine JE.code ?_
    refine JX.seq ?_
    refine JX.region ?_
    refine JL.val (yl_move rfl) rfl ?_
    obtain ⟨x7, hx7, hres⟩ := bind_some hres
    refine JL.eff (ef_call (T := T131 x7) Go.Proofs.Try.func131 rfl (by kernel_rfl) rfl (fun w hC => c131 (RdAt.of0 (rd_box hC 0 rfl)) (rd_arg g_0_2 hC) rfl k_0_2 hx7)) rfl ?_
    rintro _ _ ⟨_, ⟨rfl, rfl⟩, rfl⟩
    refine JL.val (yl_assign rfl) rfl ?_
    refine JL.nil ?_
    refine JE.code ?_
    refine JX.seq ?_
    refine JX.seq ?_
    refine JX.region ?_
    refine JL.val (yl_move rfl) rfl ?_
    refine JL.val (yl_neq rfl rfl) rfl ?_
    refine JL.nil ?_
    refine JE.code ?_
    rcases cond_some hres with ⟨hb, hres⟩ | ⟨hb, hres⟩
    · refine JX.condT rfl hb ?_
      refine JX.seq ?_
      refine JX.region ?_
      refine JL.val (yl_build rfl (fun w => bld26_  w)) rfl ?_
      refine JL.val (yl_move rfl) rfl ?_
      refine JL.eff (ef_store_box (i := 1) (v := .agg #[.int .i64 0, .int .i64 0, .slice none 0 0]) i26 rfl rfl rfl (i26s).symm (Nat.le_of_ble_eq_true rfl) (by simp [Value.cells, Value.oneCell'])) rfl ?_
      rintro _ _ rfl
      refine JL.val (yl_assign rfl) rfl ?_
      refine JL.nil ?_
      refine JE.weak (env' := [(6, ptrAt (some ⟨g3, 0, none⟩) 0), (7, .int .i64 x7)]) (es' := [boxO 26 g3 [.int .i64 0, .int .i64 0, .slice none 0 0]]) [1] ?_ ⟨rfl, rfl, trivial⟩ (by decide) rfl
      refine JE.code ?_
      refine JX.ret ?_
      refine JE.nilrow 2 eI64 ?_
      obtain rfl := Option.some.inj hres
      refine JE.ret (rs := [.cell 6 26, .tmp 7]) (vs := [.agg #[.int .i64 0, .int .i64 0, .slice none 0 0], .int .i64 x7]) rfl ⟨rv_box 0 rfl rfl Go.Proofs.Try.underlying26 rfl i26 (i26s).symm, rfl, trivial⟩ ?_
      exact fun w' hb hs => ⟨_, _, ⟨none, 0, 0, rfl, rfl, rfl⟩, rfl, hb, hs.sel [1] _ (by decide) rfl⟩
    · refine JX.condF rfl hb ?_
      refine JX.skip ?_
      refine JE.code ?_
      refine JX.seq ?_
      refine JX.region ?_
      obtain ⟨x9, hx9, hres⟩ := bind_some hres
      refine JL.eff (ef_call (T := T132 x9) Go.Proofs.Try.func132 rfl (by kernel_rfl) rfl (fun w hC => c132 (RdAt.of0 (rd_box hC 0 rfl)) (rd_arg g_0_2 hC) rfl k_0_2 hx9)) rfl ?_
      rintro _ _ ⟨_, ⟨a10, _, cp11, rfl, rfl, rfl⟩, rfl⟩
      refine JL.eff (ef_alloc i26 i26z rfl) rfl ?_
      rintro _ _ ⟨g13, rfl, rfl⟩
      refine JL.eff (ef_store_box (i := 3) (v := .agg #[.int .i64 x9.W, .int .i64 x9.H, .slice a10 x9.Breaks.length cp11]) i26 rfl rfl rfl (i26s).symm (Nat.le_of_ble_eq_true rfl) (by simp [Value.cells, Value.oneCell'])) rfl ?_
      rintro _ _ rfl
      refine JL.nil ?_
      refine JE.weak (env' := [(1, .slice a_1 q1.length c_1), (2, .int .i64 q2), (6, ptrAt (some ⟨g3, 0, none⟩) 0), (9, ptrAt (some ⟨g13, 0, none⟩) 0)]) (es' := [boxO 26 g3 [.int .i64 0, .int .i64 0, .slice none 0 0], boxO 26 g13 [.int .i64 x9.W, .int .i64 x9.H, .slice a10 x9.Breaks.length cp11], rowT 2 eI64 a10 x9.Breaks.length cp11 x9.Breaks]) [1, 3, 2] ?_ ⟨rfl, rfl, rfl, rfl, trivial⟩ (by decide) rfl
      refine JE.code ?_
      refine JX.seq ?_
      refine JX.region ?_
      refine JL.val (yl_move rfl) rfl ?_
      refine JL.val (yl_move rfl) rfl ?_
      obtain ⟨x15, hx15, hres⟩ := bind_some hres
      refine JL.eff (ef_callms (caps := []) (vs := [ptrAt (some ⟨g13, 0, none⟩) 0, .slice a_1 q1.length c_1, .int .i64 q2]) (T := T133 a10 x9.Breaks.length cp11 x15) [2] [0, 1] [rowT 2 eI64 a10 x9.Breaks.length cp11 x9.Breaks] [boxO 26 g3 [.int .i64 0, .int .i64 0, .slice none 0 0], boxO 26 g13 [.int .i64 x9.W, .int .i64 x9.H, .slice a10 x9.Breaks.length cp11]] rfl Go.Proofs.Try.func133 rfl (by kernel_rfl) rfl (by decide) rfl rfl (fun w N hF hS => c133 (q0 := x9) (RdAtS.of0 (RdS.box hF 1 rfl rfl)) rfl (RdS.pass0 hF g_1) rfl k_1 hS hx15)) rfl ?_
      rintro _ _ ⟨_, _, ⟨l16, rfl, rfl, rfl⟩, rfl⟩
      refine JL.val (yl_assign rfl) rfl ?_
      refine JL.nil ?_
      refine JE.weak (env' := [(6, ptrAt (some ⟨g3, 0, none⟩) 0), (8, .int .i64 x15.1), (9, ptrAt (some ⟨g13, 0, none⟩) 0)]) (es' := [boxO 26 g3 [.int .i64 0, .int .i64 0, .slice none 0 0], boxO 26 g13 [.int .i64 x9.W, .int .i64 x9.H, .slice a10 x9.Breaks.length cp11], rowT 2 eI64 a10 x9.Breaks.length cp11 x15.2]) [0, 1, 2] ?_ ⟨rfl, rfl, rfl, trivial⟩ (by decide) rfl
      refine JE.code ?_
      refine JX.seq ?_
      refine JX.seq ?_
      refine JX.region ?_
      refine JL.val (yl_move rfl) rfl ?_
      refine JL.val (yl_neq rfl rfl) rfl ?_
      refine JL.nil ?_
      refine JE.code ?_
      rcases cond_some hres with ⟨hb, hres⟩ | ⟨hb, hres⟩
      · refine JX.condT rfl hb ?_
        refine JX.seq ?_
        refine JX.region ?_
        refine JL.val (yl_build rfl (fun w => bld26_  w)) rfl ?_
        refine JL.val (yl_move rfl) rfl ?_
        refine JL.eff (ef_store_box (i := 0) (v := .agg #[.int .i64 0, .int .i64 0, .slice none 0 0]) i26 rfl rfl rfl (i26s).symm (Nat.le_of_ble_eq_true rfl) (by simp [Value.cells, Value.oneCell'])) rfl ?_
        rintro _ _ rfl
        refine JL.val (yl_assign rfl) rfl ?_
        refine JL.nil ?_
        refine JE.weak (env' := [(6, ptrAt (some ⟨g3, 0, none⟩) 0), (7, .int .i64 x15.1)]) (es' := [boxO 26 g3 [.int .i64 0, .int .i64 0, .slice none 0 0]]) [0] ?_ ⟨rfl, rfl, trivial⟩ (by decide) rfl
        refine JE.code ?_
        refine JX.ret ?_
        refine JE.nilrow 2 eI64 ?_
        obtain rfl := Option.some.inj hres
        refine JE.ret (rs := [.cell 6 26, .tmp 7]) (vs := [.agg #[.int .i64 0, .int .i64 0, .slice none 0 0], .int .i64 x15.1]) rfl ⟨rv_box 0 rfl rfl Go.Proofs.Try.underlying26 rfl i26 (i26s).symm, rfl, trivial⟩ ?_
        exact fun w' hb hs => ⟨_, _, ⟨none, 0, 0, rfl, rfl, rfl⟩, rfl, hb, hs.sel [1] _ (by decide) rfl⟩
      · refine JX.condF rfl hb ?_
        refine JX.skip ?_
        refine JE.code ?_
        refine JX.seq ?_
        refine JX.region ?_
        refine JL.val (yl_loadn Go.Proofs.Try.underlying26 rfl i26 rfl (fun w hC => rd_box hC 1 rfl) rfl (i26s).symm i26p) rfl ?_
        refine JL.eff (ef_store_box (i := 0) (v := .agg #[.int .i64 x9.W, .int .i64 x9.H, .slice a10 x9.Breaks.length cp11]) i26 rfl rfl rfl (i26s).symm (Nat.le_of_ble_eq_true rfl) (by simp [Value.cells, Value.oneCell'])) rfl ?_
        rintro _ _ rfl
        refine JL.val (yl_assign rfl) rfl ?_
        refine JL.nil ?_
        refine JE.weak (env' := [(6, ptrAt (some ⟨g3, 0, none⟩) 0), (7, .int .i64 0)]) (es' := [boxO 26 g3 [.int .i64 x9.W, .int .i64 x9.H, .slice a10 x9.Breaks.length cp11], rowT 2 eI64 a10 x9.Breaks.length cp11 x15.2]) [0, 2] ?_ ⟨rfl, rfl, trivial⟩ (by decide) rfl
        refine JE.code ?_
        refine JX.ret ?_
        obtain rfl := Option.some.inj hres
        refine JE.ret (rs := [.cell 6 26, .tmp 7]) (vs := [.agg #[.int .i64 x9.W, .int .i64 x9.H, .slice a10 x9.Breaks.length cp11], .int .i64 0]) rfl ⟨rv_box 0 rfl rfl Go.Proofs.Try.underlying26 rfl i26 (i26s).symm, rfl, trivial⟩ ?_
        exact fun w' hb hs => ⟨_, _, ⟨a10, x9.Breaks.length, cp11, l16, rfl, rfl⟩, rfl, hb, hs.sel [1] _ (by decide) rfl⟩

/- spec.DrawApplyStrokes -/
def sh42_1 (q0 : List Int) : (Int × (Int × Int) × List (List SPoint)) → Option ((Int × (Int × Int) × List (List SPoint)) ⊕ ((Int × Int) × List (List SPoint)))
  | (x20, x21, x22) => bif decide (0 < x20) then (Option.bind (sh127 (Sl00Src.mk q0 x21.1 x21.2)) fun x27 => Option.bind (appL x22 [x27.1]) fun x33 => some (.inl (w64 (x20 - 1), (x27.2.1, x27.2.2), x33))) else (some (.inr ((x21.1, x21.2), x22)))
def sh42 (q0 : List Int) : Option (SPanel × List (List SPoint) × Int) := Option.bind (sh90 q0) fun x3 => Option.bind (sh118 (Sl00Src.mk q0 x3.at_ x3.seed)) fun x6 => Option.bind (sh92 (Sl00Src.mk q0 x6.2.1 x6.2.2) 6) fun x15 => Option.bind (iter (sh42_1 q0) (x15.1, (x15.2.1, x15.2.2), ([] : List (List SPoint)))) fun b1 => (Option.bind (sh120 (Sl00Src.mk q0 b1.1.1 b1.1.2)) fun x41 => some (x6.1, b1.2, x41.1))
def T42 (r : SPanel × List (List SPoint) × Int) (v : Value) (rs : List Own) : Prop := ∃ (a0_2 : Option Addr) (n0_2 c0_2 : Nat), r.1.Breaks.length = n0_2 ∧ ∃ (a1 : Option Addr) (n1 c1 : Nat) (h1 : List Hd), r.2.1.length = n1 ∧ Inn h1 r.2.1 ∧ v = rets [.agg #[.int .i64 r.1.W, .int .i64 r.1.H, .slice a0_2 n0_2 c0_2], .slice a1 n1 c1, .int .i64 r.2.2] ∧ rs = [rowT 2 eI64 a0_2 n0_2 c0_2 r.1.Breaks, rowT 34 eHd a1 n1 c1 h1, innO 42 eSPoint none h1 r.2.1]
set_option maxRecDepth 100000 in
theorem c42 {w : World} {q0 : List Int} {a_0 : Option Addr} {n_0 c_0 : Nat} (g_0 : Rd w a_0 (eU8.fl q0)) (l_0 : q0.length = n_0) (k_0 : n_0 ≤ c_0) {r : SPanel × List (List SPoint) × Int} (hres : sh42 q0 = some r) : Calls Go.Proofs.Try.prog 42 [.slice a_0 n_0 c_0].toArray w (Ret w (T42 r)) := by
  subst l_0
  unfold sh42 at hres
  refine calls_of (n := 29) (M := []) (es := []) Go.Proofs.Try.func42 rfl rfl rfl (Sep.nil _ _ _) ?_
  refine JX.seq ?_
  refine JX.region ?_
  refine JL.eff (ef_alloc i26 i26z rfl) rfl ?_
  rintro _ _ ⟨g1, rfl, rfl⟩
  refine JL.val (yl_assign rfl) rfl ?_
  refine JL.val (yl_assign rfl) rfl ?_
  refine JL.nil ?_
  refine JE.code ?_
  refine JX.seq ?_
  refine JX.region ?_
  refine JL.val (yl_move rfl) rfl ?_
  obtain ⟨x3, hx3, hres⟩ := bind_some hres
  refine JL.eff (ef_call (T := T90 a_0 q0.length c_0 x3) Go.Proofs.Try.func90 rfl (by kernel_rfl) rfl (fun w hC => c90 (rd_arg g_0 hC) rfl k_0 hx3)) rfl ?_
  rintro _ _ ⟨_, ⟨g4, rfl, rfl⟩, rfl⟩
  refine JL.val (yl_assign rfl) rfl ?_
  refine JL.nil ?_
  refine JE.code ?_
  refine JX.seq ?_
  refine JX.region ?_
  refine JL.val (yl_move rfl) rfl ?_
  obtain ⟨x6, hx6, hres⟩ := bind_some hres
  refine JL.eff (ef_callms (caps := []) (vs := [ptrAt (some ⟨g4, 0, none⟩) 0]) (T := T118 g4 a_0 q0.length c_0 x6) [1] [0] [boxO 163 g4 [.slice a_0 q0.length c_0, .int .i64 x3.at_, .int .u64 x3.seed]] [boxO 26 g1 [.int .i64 0, .int .i64 0, .slice none 0 0]] rfl Go.Proofs.Try.func118 rfl (by kernel_rfl) rfl (by decide) rfl rfl (fun w N hF hS => c118 (q0 := Sl00Src.mk q0 x3.at_ x3.seed) (RdS.pass0 hF g_0) rfl k_0 hS hx6)) rfl ?_
  rintro _ _ ⟨_, _, ⟨rfl, a7, _, cp8, rfl, rfl, rfl⟩, rfl⟩
  refine JL.eff (ef_alloc i26 i26z rfl) rfl ?_
  rintro _ _ ⟨g10, rfl, rfl⟩
  refine JL.eff (ef_store_box (i := 3) (v := .agg #[.int .i64 x6.1.W, .int .i64 x6.1.H, .slice a7 x6.1.Breaks.length cp8]) i26 rfl rfl rfl (i26s).symm (Nat.le_of_ble_eq_true rfl) (by simp [Value.cells, Value.oneCell'])) rfl ?_
  rintro _ _ rfl
  refine JL.nil ?_
  refine JE.weak (env' := [(2, ptrAt (some ⟨g1, 0, none⟩) 0), (5, ptrAt (some ⟨g4, 0, none⟩) 0), (6, ptrAt (some ⟨g10, 0, none⟩) 0)]) (es' := [boxO 26 g1 [.int .i64 0, .int .i64 0, .slice none 0 0], boxO 163 g4 [.slice a_0 q0.length c_0, .int .i64 x6.2.1, .int .u64 x6.2.2], boxO 26 g10 [.int .i64 x6.1.W, .int .i64 x6.1.H, .slice a7 x6.1.Breaks.length cp8], rowT 2 eI64 a7 x6.1.Breaks.length cp8 x6.1.Breaks]) [0, 1, 3, 2] ?_ ⟨rfl, rfl, rfl, trivial⟩ (by decide) rfl
  refine JE.code ?_
  refine JX.seq ?_
  refine JX.region ?_
  refine JL.eff (ef_buildSlice (E := 34) (k := eHd.k) (us := eHd.fl ([] : List Hd)) rfl (fun w => bsl29_0  w) rfl (by decide)) rfl ?_
  rintro _ _ ⟨a12, rfl, rfl⟩
  refine JL.nilinn 42 eSPoint ?_
  refine JL.val (yl_assign rfl) rfl ?_
  refine JL.nil ?_
  refine JE.code ?_
  refine JX.seq ?_
  refine JX.seq ?_
  refine JX.region ?_
  refine JL.val (yl_move rfl) rfl ?_
  obtain ⟨x15, hx15, hres⟩ := bind_some hres
  refine JL.eff (ef_callms (caps := []) (vs := [ptrAt (some ⟨g4, 0, none⟩) 0, .int .i64 6]) (T := T92 g4 a_0 q0.length c_0 x15) [1] [0, 2, 3, 4, 5] [boxO 163 g4 [.slice a_0 q0.length c_0, .int .i64 x6.2.1, .int .u64 x6.2.2]] [boxO 26 g1 [.int .i64 0, .int .i64 0, .slice none 0 0], boxO 26 g10 [.int .i64 x6.1.W, .int .i64 x6.1.H, .slice a7 x6.1.Breaks.length cp8], rowT 2 eI64 a7 x6.1.Breaks.length cp8 x6.1.Breaks, rowT 34 eHd a12 0 0 ([] : List Hd), innO 42 eSPoint none ([] : List Hd) ([] : List (List SPoint))] rfl Go.Proofs.Try.func92 rfl (by kernel_rfl) rfl (by decide) rfl rfl (fun w N hF hS => c92 (q0 := Sl00Src.mk q0 x6.2.1 x6.2.2) (RdS.pass0 hF g_0) rfl k_0 hS hx15)) rfl ?_
  rintro _ _ ⟨_, _, ⟨rfl, rfl, rfl⟩, rfl⟩
  refine JL.val (yl_assign rfl) rfl ?_
  refine JL.nil ?_
  refine JE.code ?_
  refine JX.block ?_
  obtain ⟨y1, hy1, hresO1⟩ := bind_some hres
  refine JX.loop (I := fun (s1 : Int × (Int × Int) × List (List SPoint)) aa ww => ∃ (a16 : Option Addr) (cp17 : Nat) (hs18 : List Hd) (hi19 : Inn hs18 s1.2.2), St w [] 29 [(2, ptrAt (some ⟨g1, 0, none⟩) 0), (5, ptrAt (some ⟨g4, 0, none⟩) 0), (6, ptrAt (some ⟨g10, 0, none⟩) 0), (7, .slice a16 s1.2.2.length cp17), (8, .int .i64 s1.1)] [boxO 26 g1 [.int .i64 0, .int .i64 0, .slice none 0 0], boxO 163 g4 [.slice a_0 q0.length c_0, .int .i64 s1.2.1.1, .int .u64 s1.2.1.2], boxO 26 g10 [.int .i64 x6.1.W, .int .i64 x6.1.H, .slice a7 x6.1.Breaks.length cp8], rowT 2 eI64 a7 x6.1.Breaks.length cp8 x6.1.Breaks, rowT 34 eHd a16 s1.2.2.length cp17 hs18, innO 42 eSPoint none hs18 s1.2.2] aa ww) (sh42_1 q0) hy1 (fun a w h => ⟨a12, 0, ([] : List Hd), (Inn.nil (T := SPoint)), h.weak ⟨rfl, rfl, rfl, rfl, rfl, trivial⟩ [0, 5, 1, 2, 3, 4] (by decide) rfl⟩) ?_
  rintro ⟨x20, x21, x22⟩ o1 hres hox1 aa ww ⟨a23, cp24, hs25, hi26, hS⟩
  refine (?_ : JX Go.Proofs.Try.prog w [] 29 _ _ [(2, ptrAt (some ⟨g1, 0, none⟩) 0), (5, ptrAt (some ⟨g4, 0, none⟩) 0), (6, ptrAt (some ⟨g10, 0, none⟩) 0), (7, .slice a23 x22.length cp24), (8, .int .i64 x20)] [boxO 26 g1 [.int .i64 0, .int .i64 0, .slice none 0 0], boxO 163 g4 [.slice a_0 q0.length c_0, .int .i64 x21.1, .int .u64 x21.2], boxO 26 g10 [.int .i64 x6.1.W, .int .i64 x6.1.H, .slice a7 x6.1.Breaks.length cp8], rowT 2 eI64 a7 x6.1.Breaks.length cp8 x6.1.Breaks, rowT 34 eHd a23 x22.length cp24 hs25, innO 42 eSPoint none hs25 x22] _) aa ww hS
  clear hS
  simp only [sh42_1] at hres
  refine JX.seq ?_
  refine JX.seq ?_
  refine JX.region ?_
  refine JL.val (yl_move rfl) rfl ?_
  refine JL.val (yl_gtr rfl rfl) rfl ?_
  refine JL.nil ?_
  refine JE.code ?_
  rcases cond_some hres with ⟨hb, hres⟩ | ⟨hb, hres⟩
  · refine JX.condT rfl hb ?_
    refine JX.skip ?_
    refine JE.code ?_
    refine JX.seq ?_
    refine JX.block ?_
    refine JX.region ?_
    refine JL.val (yl_move rfl) rfl ?_
    refine JL.val (yl_move rfl) rfl ?_
    obtain ⟨x27, hx27, hres⟩ := bind_some hres
    refine JL.eff (ef_callms (caps := []) (vs := [ptrAt (some ⟨g4, 0, none⟩) 0]) (T := T127 g4 a_0 q0.length c_0 x27) [1] [0, 2, 3, 4, 5] [boxO 163 g4 [.slice a_0 q0.length c_0, .int .i64 x21.1, .int .u64 x21.2]] [boxO 26 g1 [.int .i64 0, .int .i64 0, .slice none 0 0], boxO 26 g10 [.int .i64 x6.1.W, .int .i64 x6.1.H, .slice a7 x6.1.Breaks.length cp8], rowT 2 eI64 a7 x6.1.Breaks.length cp8 x6.1.Breaks, rowT 34 eHd a23 x22.length cp24 hs25, innO 42 eSPoint none hs25 x22] rfl Go.Proofs.Try.func127 rfl (by kernel_rfl) rfl (by decide) rfl rfl (fun w N hF hS => c127 (q0 := Sl00Src.mk q0 x21.1 x21.2) (RdS.pass0 hF g_0) rfl k_0 hS hx27)) rfl ?_
    rintro _ _ ⟨_, _, ⟨rfl, a28, _, cp29, rfl, rfl, rfl⟩, rfl⟩
    refine JL.eff (ef_buildSlice (E := 34) (k := eHd.k) (us := eHd.fl [⟨a28, x27.1.length, cp29⟩]) rfl (fun w => bsl29_1 a28 x27.1.length cp29 w) rfl (by decide)) rfl ?_
    rintro _ _ ⟨a31, rfl, rfl⟩
    obtain ⟨x33, hx33, hres⟩ := bind_some hres
    refine JL.eff (ef_appendH (ix := 3) Go.Proofs.Try.underlying29 i34 i34z i34s rfl i34b0 i34b1 rfl rfl (Inn.len hi26) rfl rfl (fun w hC => rd_row hC 7 rfl) hx33 hi26) rfl ?_
    rintro _ _ ⟨a34, cp35, rfl, rfl⟩
    refine JL.absorb (es' := [boxO 26 g1 [.int .i64 0, .int .i64 0, .slice none 0 0], boxO 26 g10 [.int .i64 x6.1.W, .int .i64 x6.1.H, .slice a7 x6.1.Breaks.length cp8], rowT 2 eI64 a7 x6.1.Breaks.length cp8 x6.1.Breaks, rowT 34 eHd a34 x33.length cp35 (hs25 ++ [⟨a28, x27.1.length, cp29⟩]), boxO 163 g4 [.slice a_0 q0.length c_0, .int .i64 x27.2.1, .int .u64 x27.2.2], rowT 34 eHd a31 1 1 [⟨a28, x27.1.length, cp29⟩]]) [0, 1, 2, 3, 5, 7, 4, 6] (by decide) rfl (appL_some hx33).2 ?_
    refine JL.val (yl_assign rfl) rfl ?_
    refine JL.nil ?_
    refine JE.weak (env' := [(2, ptrAt (some ⟨g1, 0, none⟩) 0), (5, ptrAt (some ⟨g4, 0, none⟩) 0), (6, ptrAt (some ⟨g10, 0, none⟩) 0), (7, .slice a34 x33.length cp35), (8, .int .i64 x20)]) (es' := [boxO 26 g1 [.int .i64 0, .int .i64 0, .slice none 0 0], boxO 163 g4 [.slice a_0 q0.length c_0, .int .i64 x27.2.1, .int .u64 x27.2.2], boxO 26 g10 [.int .i64 x6.1.W, .int .i64 x6.1.H, .slice a7 x6.1.Breaks.length cp8], rowT 2 eI64 a7 x6.1.Breaks.length cp8 x6.1.Breaks, rowT 34 eHd a34 x33.length cp35 (hs25 ++ [⟨a28, x27.1.length, cp29⟩]), innO 42 eSPoint none (hs25 ++ [⟨a28, x27.1.length, cp29⟩]) x33]) [0, 4, 1, 2, 3, 6] ?_ ⟨rfl, rfl, rfl, rfl, rfl, trivial⟩ (by decide) rfl
    refine JE.code ?_
    refine JX.region ?_
    refine JL.val (yl_move rfl) rfl ?_
    refine JL.val (yl_sub rfl rfl) rfl ?_
    refine JL.val (yl_assign rfl) rfl ?_
    refine JL.nil ?_
    refine JE.cont hres ?_
    exact fun a w h => ⟨a34, cp35, hs25 ++ [⟨a28, x27.1.length, cp29⟩], (Inn.appZ hi26 rfl (appL_some hx33).2), h.weak ⟨rfl, rfl, rfl, (by first | rfl | (simp only [List.length_set]; rfl) | simp only [List.length_set]), rfl, trivial⟩ [0, 1, 2, 3, 4, 5] (by decide) (by first | rfl | (simp only [List.length_set]; rfl) | simp only [List.length_set])⟩
  · refine JX.condF rfl hb ?_
    refine JX.exit ?_
    refine JE.qb rfl ?_
    obtain ⟨b1, hb1⟩ : ∃ b : (Int × Int) × List (List SPoint), b = ((x21.1, x21.2), x22) := ⟨_, rfl⟩
    have hy1 : b1 = y1 := by rw [hb1]; exact hox1 _ (Option.some.inj hres).symm
    have hres := hresO1
    rw [← hy1] at hres
    have hi39 : Inn hs25 b1.2 := by subst hb1; exact hi26
    refine JE.weak (env' := [(2, ptrAt (some ⟨g1, 0, none⟩) 0), (5, ptrAt (some ⟨g4, 0, none⟩) 0), (6, ptrAt (some ⟨g10, 0, none⟩) 0), (7, .slice a23 b1.2.length cp24)]) (es' := [boxO 26 g1 [.int .i64 0, .int .i64 0, .slice none 0 0], boxO 163 g4 [.slice a_0 q0.length c_0, .int .i64 b1.1.1, .int .u64 b1.1.2], boxO 26 g10 [.int .i64 x6.1.W, .int .i64 x6.1.H, .slice a7 x6.1.Breaks.length cp8], rowT 2 eI64 a7 x6.1.Breaks.length cp8 x6.1.Breaks, rowT 34 eHd a23 b1.2.length cp24 hs25, innO 42 eSPoint none hs25 b1.2]) [0, 1, 2, 3, 4, 5] ?_ ⟨(by subst hb1; rfl), (by subst hb1; rfl), (by subst hb1; rfl), (by subst hb1; first | rfl | (simp only [List.length_set]; rfl) | simp only [List.length_set]), trivial⟩ (by decide) (by subst hb1; first | rfl | (simp only [List.length_set]; rfl) | simp only [List.length_set])
    refine JE.code ?_
    refine JX.seq ?_
    refine JX.drawH [(0, .read), (1, .pure), (2, .pure), (3, .must), (4, .must), (5, .pure), (6, .pure)] [3, 4] [1, 0] [2, 3, 4, 5] [boxO 163 g4 [.slice a_0 q0.length c_0, .int .i64 b1.1.1, .int .u64 b1.1.2], boxO 26 g1 [.int .i64 0, .int .i64 0, .slice none 0 0]] [boxO 26 g10 [.int .i64 x6.1.W, .int .i64 x6.1.H, .slice a7 x6.1.Breaks.length cp8], rowT 2 eI64 a7 x6.1.Breaks.length cp8 x6.1.Breaks, rowT 34 eHd a23 b1.2.length cp24 hs25, innO 42 eSPoint none hs25 b1.2] mixedP (by kernel_rfl) (by kernel_rfl) (by decide) rfl rfl ?_
    intro wrr40 Nr40 hFr40
    refine JH.read rfl (yl_loadn Go.Proofs.Try.underlying26 rfl i26 rfl (fun w hw => hFr40.box 2 rfl rfl hw) rfl (i26s).symm i26p) rfl ?_
    refine JH.pure rfl (yl_move rfl) rfl ?_
    refine JH.pure rfl (yl_move rfl) rfl ?_
    obtain ⟨x41, hx41, hres⟩ := bind_some hres
    refine JH.must rfl (ef_callms (caps := []) (vs := [ptrAt (some ⟨g4, 0, none⟩) 0]) (T := T120 g4 a_0 q0.length c_0 x41) [0] [1] [boxO 163 g4 [.slice a_0 q0.length c_0, .int .i64 b1.1.1, .int .u64 b1.1.2]] [boxO 26 g1 [.int .i64 0, .int .i64 0, .slice none 0 0]] rfl Go.Proofs.Try.func120 rfl (by kernel_rfl) rfl (by decide) rfl rfl (fun w N hF hS => c120 (q0 := Sl00Src.mk q0 b1.1.1 b1.1.2) (RdS.pass hF (RdS.pass0 hFr40 g_0)) rfl k_0 hS hx41)) rfl rfl ?_
    rintro _ _ ⟨_, _, ⟨rfl, rfl, rfl⟩, rfl⟩
    refine JH.must rfl (ef_store_box (i := 0) (v := .agg #[.int .i64 x6.1.W, .int .i64 x6.1.H, .slice a7 x6.1.Breaks.length cp8]) i26 rfl rfl rfl (i26s).symm (Nat.le_of_ble_eq_true rfl) (by simp [Value.cells, Value.oneCell'])) rfl rfl ?_
    rintro _ _ rfl
    refine JH.pure rfl (yl_assign rfl) rfl ?_
    refine JH.pure rfl (yl_assign rfl) rfl ?_
    refine JH.nil ?_
    refine JE.weak (env' := [(2, ptrAt (some ⟨g1, 0, none⟩) 0), (3, .slice a23 b1.2.length cp24), (4, .int .i64 x41.1)]) (es' := [boxO 26 g1 [.int .i64 x6.1.W, .int .i64 x6.1.H, .slice a7 x6.1.Breaks.length cp8], rowT 2 eI64 a7 x6.1.Breaks.length cp8 x6.1.Breaks, rowT 34 eHd a23 b1.2.length cp24 hs25, innO 42 eSPoint none hs25 b1.2]) [4, 1, 2, 3] ?_ ⟨rfl, rfl, rfl, trivial⟩ (by decide) rfl
    refine JE.code ?_
    refine JX.ret ?_
    obtain rfl := Option.some.inj hres
    refine JE.ret (rs := [.cell 2 26, .tmp 3, .tmp 4]) (vs := [.agg #[.int .i64 x6.1.W, .int .i64 x6.1.H, .slice a7 x6.1.Breaks.length cp8], .slice a23 b1.2.length cp24, .int .i64 x41.1]) rfl ⟨rv_box 0 rfl rfl Go.Proofs.Try.underlying26 rfl i26 (i26s).symm, rfl, rfl, trivial⟩ ?_
    exact fun w' hb hs => ⟨_, _, ⟨a7, x6.1.Breaks.length, cp8, rfl, a23, b1.2.length, cp24, hs25, rfl, hi39, rfl, rfl⟩, rfl, hb, hs.sel [1, 2, 3] _ (by decide) rfl⟩

/- impl.ApplyStrokes -/
def sh43_1 (q1 : List (List SPoint)) (q2 : Int) : (Int × (Int × Int) × List Int × List Int) → Option ((Int × (Int × Int) × List Int × List Int) ⊕ ((Int × Int) × List Int × List Int))
  | (x23, x24, x25, x26) => bif decide (x23 < ((q1.length : Nat) : Int)) then (Option.bind (getI q1 x23) fun x31 => Option.bind (sh40 (SPanel.mk x24.1 x24.2 x25) x31 q2) fun x35 => bif x35.2 != 0 then (Option.bind (appL x26 [x23]) fun x43 => some (.inl (w64 (x23 + 1), (x24.1, x24.2), x25, x43))) else (some (.inl (w64 (x23 + 1), (x35.1.W, x35.1.H), x35.1.Breaks, x26)))) else (some (.inr ((x24.1, x24.2), x25, x26)))
def sh43 (q0 : SPanel) (q1 : List (List SPoint)) (q2 : Int) : Option (SPanel × List Int × Int) := Option.bind (sh128 q0) fun x5 => bif !x5 then (some (SPanel.mk 0 0 ([] : List Int), ([] : List Int), 1)) else (Option.bind (sh123 q2) fun x8 => bif !x8 then (some (SPanel.mk 0 0 ([] : List Int), ([] : List Int), 2)) else (Option.bind (sh134 q0) fun x11 => Option.bind (iter (sh43_1 q1 q2) (0, (x11.W, x11.H), x11.Breaks, ([] : List Int))) fun b1 => (some (SPanel.mk b1.1.1 b1.1.2 b1.2.1, b1.2.2, 0))))
def T43 (r : SPanel × List Int × Int) (v : Value) (rs : List Own) : Prop := ∃ (a0_2 : Option Addr) (n0_2 c0_2 : Nat), r.1.Breaks.length = n0_2 ∧ ∃ (a1 : Option Addr) (n1 c1 : Nat), r.2.1.length = n1 ∧ v = rets [.agg #[.int .i64 r.1.W, .int .i64 r.1.H, .slice a0_2 n0_2 c0_2], .slice a1 n1 c1, .int .i64 r.2.2] ∧ rs = [rowT 2 eI64 a0_2 n0_2 c0_2 r.1.Breaks, rowT 2 eI64 a1 n1 c1 r.2.1]
set_option maxRecDepth 100000 in
theorem c43 {w : World} {q0 : SPanel} {a_0_2 : Option Addr} {n_0_2 c_0_2 : Nat} (g_0_2 : Rd w a_0_2 (eI64.fl q0.Breaks)) (l_0_2 : q0.Breaks.length = n_0_2) (k_0_2 : n_0_2 ≤ c_0_2) {q1 : List (List SPoint)} {a_1 : Option Addr} {n_1 c_1 : Nat} {h_1 : List Hd} (g_1 : Rd w a_1 (eHd.fl h_1)) (r_1 : RdI w eSPoint h_1 q1) (i_1 : Inn h_1 q1) (l_1 : q1.length = n_1) (k_1 : n_1 ≤ c_1) {q2 : Int} {r : SPanel × List Int × Int} (hres : sh43 q0 q1 q2 = some r) : Calls Go.Proofs.Try.prog 43 [.agg #[.int .i64 q0.W, .int .i64 q0.H, .slice a_0_2 n_0_2 c_0_2], .slice a_1 n_1 c_1, .int .i64 q2].toArray w (Ret w (T43 r)) := by
  subst l_0_2
  subst l_1
  unfold sh43 at hres
  refine calls_of (n := 50) (M := []) (es := []) Go.Proofs.Try.func43 rfl rfl rfl (Sep.nil _ _ _) ?_
  refine JX.seq ?_
  refine JX.region ?_
  refine JL.eff (ef_box rfl rfl) rfl ?_
  rintro _ _ ⟨g1, rfl, rfl⟩
  refine JL.eff (ef_alloc i26 i26z rfl) rfl ?_
  rintro _ _ ⟨g3, rfl, rfl⟩
  refine JL.val (yl_assign rfl) rfl ?_
  refine JL.val (yl_assign rfl) rfl ?_
  refine JL.nil ?_
  refine JE.weak (env' := [(1, .slice a_1 q1.length c_1), (2, .int .i64 q2), (3, ptrAt (some ⟨g1, 0, none⟩) 0), (6, ptrAt (some ⟨g3, 0, none⟩) 0)]) (es' := [boxO 26 g1 [.int .i64 q0.W, .int .i64 q0.H, .slice a_0_2 q0.Breaks.length c_0_2], boxO 26 g3 [.int .i64 0, .int .i64 0, .slice none 0 0]]) [0, 1] ?_ ⟨rfl, rfl, rfl, rfl, trivial⟩ (by decide) rfl
  refine JE.code ?_
  refine JX.seq ?_
  refine JX.seq ?_
  refine JX.region ?_
  refine JL.val (yl_loadn Go.Proofs.Try.underlying26 rfl i26 rfl (fun w hC => rd_box hC 0 rfl) rfl (i26s).symm i26p) rfl ?_
  obtain ⟨x5, hx5, hres⟩ := bind_some hres
  refine JL.eff (ef_call (vs := [.agg #[.int .i64 q0.W, .int .i64 q0.H, .slice a_0_2 q0.Breaks.length c_0_2]]) (T := T128 x5) Go.Proofs.Try.func128 rfl (by kernel_rfl) rfl (fun w hC => c128 (q0 := q0) (rd_arg g_0_2 hC) rfl k_0_2 hx5)) rfl ?_
  rintro _ _ ⟨_, ⟨rfl, rfl⟩, rfl⟩
  refine JL.val (yl_not rfl) rfl ?_
  refine JL.nil ?_
  refine JE.code ?_
  rcases cond_some hres with ⟨hb, hres⟩ | ⟨hb, hres⟩
  · refine JX.condT rfl hb ?_
    refine JX.seq ?_
    refine JX.region ?_
    refine JL.val (yl_build rfl (fun w => bld26_  w)) rfl ?_
    refine JL.eff (ef_store_box (i := 1) (v := .agg #[.int .i64 0, .int .i64 0, .slice none 0 0]) i26 rfl rfl rfl (i26s).symm (Nat.le_of_ble_eq_true rfl) (by simp [Value.cells, Value.oneCell'])) rfl ?_
    rintro _ _ rfl
    refine JL.val (yl_assign rfl) rfl ?_
    refine JL.val (yl_assign rfl) rfl ?_
    refine JL.nil ?_
    refine JE.weak (env' := [(6, ptrAt (some ⟨g3, 0, none⟩) 0), (7, .slice none 0 0), (8, .int .i64 1)]) (es' := [boxO 26 g3 [.int .i64 0, .int .i64 0, .slice none 0 0]]) [1] ?_ ⟨rfl, rfl, rfl, trivial⟩ (by decide) rfl
    refine JE.code ?_
    refine JX.ret ?_
    refine JE.nilrow 2 eI64 ?_
    refine JE.nilrow 2 eI64 ?_
    obtain rfl := Option.some.inj hres
    refine JE.ret (rs := [.cell 6 26, .tmp 7, .tmp 8]) (vs := [.agg #[.int .i64 0, .int .i64 0, .slice none 0 0], .slice none 0 0, .int .i64 1]) rfl ⟨rv_box 0 rfl rfl Go.Proofs.Try.underlying26 rfl i26 (i26s).symm, rfl, rfl, trivial⟩ ?_
    exact fun w' hb hs => ⟨_, _, ⟨none, 0, 0, rfl, none, 0, 0, rfl, rfl, rfl⟩, rfl, hb, hs.sel [1, 2] _ (by decide) rfl⟩
  · refine JX.condF rfl hb ?_
    refine JX.skip ?_
    refine JE.code ?_
    refine JX.seq ?_
    refine JX.seq ?_
    refine JX.region ?_
    refine JL.val (yl_move rfl) rfl ?_
    obtain ⟨x8, hx8, hres⟩ := bind_some hres
    refine JL.eff (ef_call (T := T123 x8) Go.Proofs.Try.func123 rfl (by kernel_rfl) rfl (fun w hC => c123  hx8)) rfl ?_
    rintro _ _ ⟨_, ⟨rfl, rfl⟩, rfl⟩
    refine JL.val (yl_not rfl) rfl ?_
    refine JL.nil ?_
    refine JE.code ?_
    rcases cond_some hres with ⟨hb, hres⟩ | ⟨hb, hres⟩
    · refine JX.condT rfl hb ?_
      refine JX.seq ?_
      refine JX.region ?_
      refine JL.val (yl_build rfl (fun w => bld26_  w)) rfl ?_
      refine JL.eff (ef_store_box (i := 1) (v := .agg #[.int .i64 0, .int .i64 0, .slice none 0 0]) i26 rfl rfl rfl (i26s).symm (Nat.le_of_ble_eq_true rfl) (by simp [Value.cells, Value.oneCell'])) rfl ?_
      rintro _ _ rfl
      refine JL.val (yl_assign rfl) rfl ?_
      refine JL.val (yl_assign rfl) rfl ?_
      refine JL.nil ?_
      refine JE.weak (env' := [(6, ptrAt (some ⟨g3, 0, none⟩) 0), (7, .slice none 0 0), (8, .int .i64 2)]) (es' := [boxO 26 g3 [.int .i64 0, .int .i64 0, .slice none 0 0]]) [1] ?_ ⟨rfl, rfl, rfl, trivial⟩ (by decide) rfl
      refine JE.code ?_
      refine JX.ret ?_
      refine JE.nilrow 2 eI64 ?_
      refine JE.nilrow 2 eI64 ?_
      obtain rfl := Option.some.inj hres
      refine JE.ret (rs := [.cell 6 26, .tmp 7, .tmp 8]) (vs := [.agg #[.int .i64 0, .int .i64 0, .slice none 0 0], .slice none 0 0, .int .i64 2]) rfl ⟨rv_box 0 rfl rfl Go.Proofs.Try.underlying26 rfl i26 (i26s).symm, rfl, rfl, trivial⟩ ?_
      exact fun w' hb hs => ⟨_, _, ⟨none, 0, 0, rfl, none, 0, 0, rfl, rfl, rfl⟩, rfl, hb, hs.sel [1, 2] _ (by decide) rfl⟩
    · refine JX.condF rfl hb ?_
      refine JX.skip ?_
      refine JE.code ?_
      refine JX.seq ?_
      refine JX.region ?_
      refine JL.val (yl_loadn Go.Proofs.Try.underlying26 rfl i26 rfl (fun w hC => rd_box hC 0 rfl) rfl (i26s).symm i26p) rfl ?_
      obtain ⟨x11, hx11, hres⟩ := bind_some hres
      refine JL.eff (ef_call (vs := [.agg #[.int .i64 q0.W, .int .i64 q0.H, .slice a_0_2 q0.Breaks.length c_0_2]]) (T := T134 x11) Go.Proofs.Try.func134 rfl (by kernel_rfl) rfl (fun w hC => c134 (q0 := q0) (rd_arg g_0_2 hC) rfl k_0_2 hx11)) rfl ?_
      rintro _ _ ⟨_, ⟨a12, _, cp13, rfl, rfl, rfl⟩, rfl⟩
      refine JL.eff (ef_buildSlice (E := 2) (k := eI64.k) (us := eI64.fl ([] : List Int)) rfl (fun w => bsl24_0  w) rfl (by decide)) rfl ?_
      rintro _ _ ⟨a15, rfl, rfl⟩
      refine JL.eff (ef_alloc i26 i26z rfl) rfl ?_
      rintro _ _ ⟨g17, rfl, rfl⟩
      refine JL.eff (ef_store_box (i := 4) (v := .agg #[.int .i64 x11.W, .int .i64 x11.H, .slice a12 x11.Breaks.length cp13]) i26 rfl rfl rfl (i26s).symm (Nat.le_of_ble_eq_true rfl) (by simp [Value.cells, Value.oneCell'])) rfl ?_
      rintro _ _ rfl
      refine JL.val (yl_assign rfl) rfl ?_
      refine JL.nil ?_
      refine JE.weak (env' := [(1, .slice a_1 q1.length c_1), (2, .int .i64 q2), (6, ptrAt (some ⟨g3, 0, none⟩) 0), (9, ptrAt (some ⟨g17, 0, none⟩) 0), (10, .slice a15 0 0)]) (es' := [boxO 26 g3 [.int .i64 0, .int .i64 0, .slice none 0 0], boxO 26 g17 [.int .i64 x11.W, .int .i64 x11.H, .slice a12 x11.Breaks.length cp13], rowT 2 eI64 a12 x11.Breaks.length cp13 x11.Breaks, rowT 2 eI64 a15 0 0 ([] : List Int)]) [1, 4, 2, 3] ?_ ⟨rfl, rfl, rfl, rfl, rfl, trivial⟩ (by decide) rfl
      refine JE.code ?_
      refine JX.seq ?_
      refine JX.seq ?_
      refine JX.region ?_
      refine JL.val (yl_move rfl) rfl ?_
      refine JL.val (yl_len_slice Go.Proofs.Try.underlying29 rfl) rfl ?_
      refine JL.val (yl_move rfl) rfl ?_
      refine JL.nil ?_
      refine JE.code ?_
      refine JX.block ?_
      obtain ⟨y1, hy1, hresO1⟩ := bind_some hres
      refine JX.loop (I := fun (s1 : Int × (Int × Int) × List Int × List Int) aa ww => ∃ (a19 : Option Addr) (cp20 : Nat) (a21 : Option Addr) (cp22 : Nat), St w [] 50 [(2, .int .i64 q2), (6, ptrAt (some ⟨g3, 0, none⟩) 0), (9, ptrAt (some ⟨g17, 0, none⟩) 0), (10, .slice a21 s1.2.2.2.length cp22), (26, .slice a_1 q1.length c_1), (27, .int .i64 ((q1.length : Nat) : Int)), (28, .int .i64 s1.1)] [boxO 26 g3 [.int .i64 0, .int .i64 0, .slice none 0 0], boxO 26 g17 [.int .i64 s1.2.1.1, .int .i64 s1.2.1.2, .slice a19 s1.2.2.1.length cp20], rowT 2 eI64 a19 s1.2.2.1.length cp20 s1.2.2.1, rowT 2 eI64 a21 s1.2.2.2.length cp22 s1.2.2.2] aa ww) (sh43_1 q1 q2) hy1 (fun a w h => ⟨a12, cp13, a15, 0, h.weak ⟨rfl, rfl, rfl, rfl, rfl, rfl, rfl, trivial⟩ [0, 1, 2, 3] (by decide) rfl⟩) ?_
      rintro ⟨x23, x24, x25, x26⟩ o1 hres hox1 aa ww ⟨a27, cp28, a29, cp30, hS⟩
      refine (?_ : JX Go.Proofs.Try.prog w [] 50 _ _ [(2, .int .i64 q2), (6, ptrAt (some ⟨g3, 0, none⟩) 0), (9, ptrAt (some ⟨g17, 0, none⟩) 0), (10, .slice a29 x26.length cp30), (26, .slice a_1 q1.length c_1), (27, .int .i64 ((q1.length : Nat) : Int)), (28, .int .i64 x23)] [boxO 26 g3 [.int .i64 0, .int .i64 0, .slice none 0 0], boxO 26 g17 [.int .i64 x24.1, .int .i64 x24.2, .slice a27 x25.length cp28], rowT 2 eI64 a27 x25.length cp28 x25, rowT 2 eI64 a29 x26.length cp30 x26] _) aa ww hS
      clear hS
      simp only [sh43_1] at hres
      refine JX.seq ?_
      refine JX.region ?_
      refine JL.val (yl_lss rfl rfl) rfl ?_
      refine JL.nil ?_
      refine JE.code ?_
      refine JX.seq ?_
      rcases cond_some hres with ⟨hb, hres⟩ | ⟨hb, hres⟩
      · refine JX.condT rfl hb ?_
        refine JX.skip ?_
        refine JE.code ?_
        refine JX.seq ?_
        refine JX.block ?_
        refine JX.seq ?_
        refine JX.region ?_
        refine JL.val (yl_move rfl) rfl ?_
        obtain ⟨x31, hx31, hres⟩ := bind_some hres
        obtain ⟨ha32, hc33, hhx31⟩ := Inn.sub i_1 hx31
        refine JL.val (yl_idxT Go.Proofs.Try.underlying29 i34 i34s rfl rfl hhx31 (Inn.len i_1) (fun w hC => rd_arg g_1 hC)) rfl ?_
        refine JL.val (yl_loadT0 (z := ⟨ha32, x31.length, hc33⟩) Go.Proofs.Try.underlying34 rfl rfl hhx31 (fun w hC => rd_arg g_1 hC) rfl) rfl ?_
        refine JL.val (yl_assign rfl) rfl ?_
        refine JL.val (yl_assign rfl) rfl ?_
        refine JL.nil ?_
        refine JE.weak (env' := [(2, .int .i64 q2), (6, ptrAt (some ⟨g3, 0, none⟩) 0), (9, ptrAt (some ⟨g17, 0, none⟩) 0), (10, .slice a29 x26.length cp30), (11, .int .i64 x23), (12, .slice ha32 x31.length hc33), (26, .slice a_1 q1.length c_1), (27, .int .i64 ((q1.length : Nat) : Int)), (28, .int .i64 x23)]) (es' := [boxO 26 g3 [.int .i64 0, .int .i64 0, .slice none 0 0], boxO 26 g17 [.int .i64 x24.1, .int .i64 x24.2, .slice a27 x25.length cp28], rowT 2 eI64 a27 x25.length cp28 x25, rowT 2 eI64 a29 x26.length cp30 x26]) [0, 1, 2, 3] ?_ ⟨rfl, rfl, rfl, rfl, rfl, rfl, rfl, rfl, rfl, trivial⟩ (by decide) rfl
        refine JE.code ?_
        refine JX.seq ?_
        refine JX.region ?_
        refine JL.val (yl_loadn Go.Proofs.Try.underlying26 rfl i26 rfl (fun w hC => rd_box hC 1 rfl) rfl (i26s).symm i26p) rfl ?_
        refine JL.val (yl_move rfl) rfl ?_
        refine JL.val (yl_move rfl) rfl ?_
        obtain ⟨x35, hx35, hres⟩ := bind_some hres
        refine JL.eff (ef_call (vs := [.agg #[.int .i64 x24.1, .int .i64 x24.2, .slice a27 x25.length cp28], .slice ha32 x31.length hc33, .int .i64 q2]) (T := T40 x35) Go.Proofs.Try.func40 rfl (by kernel_rfl) rfl (fun w hC => c40 (q0 := SPanel.mk x24.1 x24.2 x25) (rd_row hC 2 rfl) rfl (ln_row hC 2 rfl) (rd_arg (RdI.sub r_1 hx31 hhx31) hC) rfl (RdI.ln r_1 hx31 hhx31) hx35)) rfl ?_
        rintro _ _ ⟨_, ⟨a36, _, cp37, rfl, rfl, rfl⟩, rfl⟩
        refine JL.val (yl_move rfl) rfl ?_
        refine JL.val (yl_extract rfl rfl) rfl ?_
        refine JL.val (yl_extract rfl rfl) rfl ?_
        refine JL.eff (ef_alloc i26 i26z rfl) rfl ?_
        rintro _ _ ⟨g39, rfl, rfl⟩
        refine JL.eff (ef_store_box (i := 5) (v := .agg #[.int .i64 x35.1.W, .int .i64 x35.1.H, .slice a36 x35.1.Breaks.length cp37]) i26 rfl rfl rfl (i26s).symm (Nat.le_of_ble_eq_true rfl) (by simp [Value.cells, Value.oneCell'])) rfl ?_
        rintro _ _ rfl
        refine JL.val (yl_assign rfl) rfl ?_
        refine JL.nil ?_
        refine JE.weak (env' := [(2, .int .i64 q2), (6, ptrAt (some ⟨g3, 0, none⟩) 0), (9, ptrAt (some ⟨g17, 0, none⟩) 0), (10, .slice a29 x26.length cp30), (11, .int .i64 x23), (13, ptrAt (some ⟨g39, 0, none⟩) 0), (14, .int .i64 x35.2), (26, .slice a_1 q1.length c_1), (27, .int .i64 ((q1.length : Nat) : Int)), (28, .int .i64 x23)]) (es' := [boxO 26 g3 [.int .i64 0, .int .i64 0, .slice none 0 0], boxO 26 g17 [.int .i64 x24.1, .int .i64 x24.2, .slice a27 x25.length cp28], rowT 2 eI64 a27 x25.length cp28 x25, rowT 2 eI64 a29 x26.length cp30 x26, boxO 26 g39 [.int .i64 x35.1.W, .int .i64 x35.1.H, .slice a36 x35.1.Breaks.length cp37], rowT 2 eI64 a36 x35.1.Breaks.length cp37 x35.1.Breaks]) [0, 1, 2, 3, 5, 4] ?_ ⟨rfl, rfl, rfl, rfl, rfl, rfl, rfl, rfl, rfl, rfl, trivial⟩ (by decide) rfl
        refine JE.code ?_
        refine JX.seq ?_
        refine JX.seq ?_
        refine JX.region ?_
        refine JL.val (yl_move rfl) rfl ?_
        refine JL.val (yl_neq rfl rfl) rfl ?_
        refine JL.nil ?_
        refine JE.code ?_
        rcases cond_some hres with ⟨hb, hres⟩ | ⟨hb, hres⟩
        · refine JX.condT rfl hb ?_
          refine JX.seq ?_
          refine JX.region ?_
          refine JL.val (yl_move rfl) rfl ?_
          refine JL.val (yl_move rfl) rfl ?_
          refine JL.eff (ef_buildSlice (E := 2) (k := eI64.k) (us := eI64.fl [x23]) rfl (fun w => bsl24_1 x23 w) rfl (by decide)) rfl ?_
          rintro _ _ ⟨a41, rfl, rfl⟩
          obtain ⟨x43, hx43, hres⟩ := bind_some hres
          refine JL.eff (ef_appendT (ix := 3) Go.Proofs.Try.underlying24 i2 i2z i2s rfl i2b0 i2b1 rfl rfl rfl rfl rfl (fun w hC => rd_row hC 6 rfl) hx43) rfl ?_
          rintro _ _ ⟨a44, cp45, rfl, rfl⟩
          refine JL.val (yl_assign rfl) rfl ?_
          refine JL.nil ?_
          refine JE.weak (env' := [(2, .int .i64 q2), (6, ptrAt (some ⟨g3, 0, none⟩) 0), (9, ptrAt (some ⟨g17, 0, none⟩) 0), (10, .slice a44 x43.length cp45), (26, .slice a_1 q1.length c_1), (27, .int .i64 ((q1.length : Nat) : Int)), (28, .int .i64 x23)]) (es' := [boxO 26 g3 [.int .i64 0, .int .i64 0, .slice none 0 0], boxO 26 g17 [.int .i64 x24.1, .int .i64 x24.2, .slice a27 x25.length cp28], rowT 2 eI64 a27 x25.length cp28 x25, rowT 2 eI64 a44 x43.length cp45 x43]) [0, 1, 2, 3] ?_ ⟨rfl, rfl, rfl, rfl, rfl, rfl, rfl, trivial⟩ (by decide) rfl
          refine JE.code ?_
          refine JX.exit ?_
          refine JE.qb rfl ?_
          refine JE.code ?_
          refine JX.region ?_
          refine JL.val (yl_add rfl rfl) rfl ?_
          refine JL.val (yl_move rfl) rfl ?_
          refine JL.nil ?_
          refine JE.cont hres ?_
          exact fun a w h => ⟨a27, cp28, a44, cp45, h.weak ⟨rfl, rfl, rfl, rfl, rfl, rfl, rfl, trivial⟩ [0, 1, 2, 3] (by decide) rfl⟩
        · refine JX.condF rfl hb ?_
          refine JX.skip ?_
          refine JE.code ?_
          refine JX.region ?_
          refine JL.val (yl_loadn Go.Proofs.Try.underlying26 rfl i26 rfl (fun w hC => rd_box hC 4 rfl) rfl (i26s).symm i26p) rfl ?_
          refine JL.eff (ef_store_box (i := 1) (v := .agg #[.int .i64 x35.1.W, .int .i64 x35.1.H, .slice a36 x35.1.Breaks.length cp37]) i26 rfl rfl rfl (i26s).symm (Nat.le_of_ble_eq_true rfl) (by simp [Value.cells, Value.oneCell'])) rfl ?_
          rintro _ _ rfl
          refine JL.nil ?_
          refine JE.weak (env' := [(2, .int .i64 q2), (6, ptrAt (some ⟨g3, 0, none⟩) 0), (9, ptrAt (some ⟨g17, 0, none⟩) 0), (10, .slice a29 x26.length cp30), (26, .slice a_1 q1.length c_1), (27, .int .i64 ((q1.length : Nat) : Int)), (28, .int .i64 x23)]) (es' := [boxO 26 g3 [.int .i64 0, .int .i64 0, .slice none 0 0], boxO 26 g17 [.int .i64 x35.1.W, .int .i64 x35.1.H, .slice a36 x35.1.Breaks.length cp37], rowT 2 eI64 a36 x35.1.Breaks.length cp37 x35.1.Breaks, rowT 2 eI64 a29 x26.length cp30 x26]) [0, 1, 5, 3] ?_ ⟨rfl, rfl, rfl, rfl, rfl, rfl, rfl, trivial⟩ (by decide) rfl
          refine JE.code ?_
          refine JX.region ?_
          refine JL.val (yl_add rfl rfl) rfl ?_
          refine JL.val (yl_move rfl) rfl ?_
          refine JL.nil ?_
          refine JE.cont hres ?_
          exact fun a w h => ⟨a36, cp37, a29, cp30, h.weak ⟨rfl, rfl, rfl, rfl, rfl, rfl, rfl, trivial⟩ [0, 1, 2, 3] (by decide) rfl⟩
      · refine JX.condF rfl hb ?_
        refine JX.exit ?_
        refine JE.qb rfl ?_
        obtain ⟨b1, hb1⟩ : ∃ b : (Int × Int) × List Int × List Int, b = ((x24.1, x24.2), x25, x26) := ⟨_, rfl⟩
        have hy1 : b1 = y1 := by rw [hb1]; exact hox1 _ (Option.some.inj hres).symm
        have hres := hresO1
        rw [← hy1] at hres
        refine JE.weak (env' := [(6, ptrAt (some ⟨g3, 0, none⟩) 0), (9, ptrAt (some ⟨g17, 0, none⟩) 0), (10, .slice a29 b1.2.2.length cp30)]) (es' := [boxO 26 g3 [.int .i64 0, .int .i64 0, .slice none 0 0], boxO 26 g17 [.int .i64 b1.1.1, .int .i64 b1.1.2, .slice a27 b1.2.1.length cp28], rowT 2 eI64 a27 b1.2.1.length cp28 b1.2.1, rowT 2 eI64 a29 b1.2.2.length cp30 b1.2.2]) [0, 1, 2, 3] ?_ ⟨(by subst hb1; rfl), (by subst hb1; rfl), (by subst hb1; rfl), trivial⟩ (by decide) (by subst hb1; rfl)
        refine JE.code ?_
        refine JX.seq ?_
        refine JX.region ?_
        refine JL.val (yl_loadn Go.Proofs.Try.underlying26 rfl i26 rfl (fun w hC => rd_box hC 1 rfl) rfl (i26s).symm i26p) rfl ?_
        refine JL.val (yl_move rfl) rfl ?_
        refine JL.eff (ef_store_box (i := 0) (v := .agg #[.int .i64 b1.1.1, .int .i64 b1.1.2, .slice a27 b1.2.1.length cp28]) i26 rfl rfl rfl (i26s).symm (Nat.le_of_ble_eq_true rfl) (by simp [Value.cells, Value.oneCell'])) rfl ?_
        rintro _ _ rfl
        refine JL.val (yl_assign rfl) rfl ?_
        refine JL.val (yl_assign rfl) rfl ?_
        refine JL.nil ?_
        refine JE.weak (env' := [(6, ptrAt (some ⟨g3, 0, none⟩) 0), (7, .slice a29 b1.2.2.length cp30), (8, .int .i64 0)]) (es' := [boxO 26 g3 [.int .i64 b1.1.1, .int .i64 b1.1.2, .slice a27 b1.2.1.length cp28], rowT 2 eI64 a27 b1.2.1.length cp28 b1.2.1, rowT 2 eI64 a29 b1.2.2.length cp30 b1.2.2]) [0, 2, 3] ?_ ⟨rfl, rfl, rfl, trivial⟩ (by decide) rfl
        refine JE.code ?_
        refine JX.ret ?_
        obtain rfl := Option.some.inj hres
        refine JE.ret (rs := [.cell 6 26, .tmp 7, .tmp 8]) (vs := [.agg #[.int .i64 b1.1.1, .int .i64 b1.1.2, .slice a27 b1.2.1.length cp28], .slice a29 b1.2.2.length cp30, .int .i64 0]) rfl ⟨rv_box 0 rfl rfl Go.Proofs.Try.underlying26 rfl i26 (i26s).symm, rfl, rfl, trivial⟩ ?_
        exact fun w' hb hs => ⟨_, _, ⟨a27, b1.2.1.length, cp28, rfl, a29, b1.2.2.length, cp30, rfl, rfl, rfl⟩, rfl, hb, hs.sel [1, 2] _ (by decide) rfl⟩

/- spec.ApplyStrokes -/
def sh44_1 (q1 : List (List SPoint)) (q2 : Int) (x8 : SPanel) : (Int × List Int × List Int) → Option ((Int × List Int × List Int) ⊕ (List Int × List Int))
  | (x19, x20, x21) => bif decide (x19 < ((q1.length : Nat) : Int)) then (Option.bind (getI q1 x19) fun x25 => Option.bind (sh130 x25) fun x29 => Option.bind (bif !x29 then (some (true, x20)) else (Option.bind (getI q1 x19) fun x40 => Option.bind (sh133 (SPanel.mk x8.W x8.H x20) x40 q2) fun x44 => some (x44.1 != 0, x44.2))) fun j30 => (Option.bind (bif j30.1 then (Option.bind (appL x21 [x19]) fun x37 => some x37) else (some x21)) fun j32 => (some (.inl (w64 (x19 + 1), j30.2, j32))))) else (some (.inr (x20, x21)))
def sh44 (q0 : SPanel) (q1 : List (List SPoint)) (q2 : Int) : Option (SPanel × List Int × Int) := Option.bind (sh131 q0 q2) fun x5 => bif x5 != 0 then (some (SPanel.mk 0 0 ([] : List Int), ([] : List Int), x5)) else (Option.bind (sh132 q0) fun x8 => Option.bind (iter (sh44_1 q1 q2 x8) (0, x8.Breaks, ([] : List Int))) fun b1 => (some (SPanel.mk x8.W x8.H b1.1, b1.2, 0)))
def T44 (r : SPanel × List Int × Int) (v : Value) (rs : List Own) : Prop := ∃ (a0_2 : Option Addr) (n0_2 c0_2 : Nat), r.1.Breaks.length = n0_2 ∧ ∃ (a1 : Option Addr) (n1 c1 : Nat), r.2.1.length = n1 ∧ v = rets [.agg #[.int .i64 r.1.W, .int .i64 r.1.H, .slice a0_2 n0_2 c0_2], .slice a1 n1 c1, .int .i64 r.2.2] ∧ rs = [rowT 2 eI64 a0_2 n0_2 c0_2 r.1.Breaks, rowT 2 eI64 a1 n1 c1 r.2.1]
set_option maxRecDepth 100000 in
theorem c44 {w : World} {q0 : SPanel} {a_0_2 : Option Addr} {n_0_2 c_0_2 : Nat} (g_0_2 : Rd w a_0_2 (eI64.fl q0.Breaks)) (l_0_2 : q0.Breaks.length = n_0_2) (k_0_2 : n_0_2 ≤ c_0_2) {q1 : List (List SPoint)} {a_1 : Option Addr} {n_1 c_1 : Nat} {h_1 : List Hd} (g_1 : Rd w a_1 (eHd.fl h_1)) (r_1 : RdI w eSPoint h_1 q1) (i_1 : Inn h_1 q1) (l_1 : q1.length = n_1) (k_1 : n_1 ≤ c_1) {q2 : Int} {r : SPanel × List Int × Int} (hres : sh44 q0 q1 q2 = some r) : Calls Go.Proofs.Try.prog 44 [.agg #[.int .i64 q0.W, .int .i64 q0.H, .slice a_0_2 n_0_2 c_0_2], .slice a_1 n_1 c_1, .int .i64 q2].toArray w (Ret w (T44 r)) := by
  subst l_0_2
  subst l_1
  unfold sh44 at hres
  refine calls_of (n := 48) (M := []) (es := []) Go.Proofs.Try.func44 rfl rfl rfl (Sep.nil _ _ _) ?_
  refine JX.seq ?_
  refine JX.region ?_
  refine JL.eff (ef_box rfl rfl) rfl ?_
  rintro _ _ ⟨g1, rfl, rfl⟩
  refine JL.eff (ef_alloc i26 i26z rfl) rfl ?_
  rintro _ _ ⟨g3, rfl, rfl⟩
  refine JL.val (yl_assign rfl) rfl ?_
  refine JL.val (yl_assign rfl) rfl ?_
  refine JL.nil ?_
  refine JE.weak (env' := [(1, .slice a_1 q1.length c_1), (2, .int .i64 q2), (3, ptrAt (some ⟨g1, 0, none⟩) 0), (6, ptrAt (some ⟨g3, 0, none⟩) 0)]) (es' := [boxO 26 g1 [.int .i64 q0.W, .int .i64 q0.H, .slice a_0_2 q0.Breaks.length c_0_2], boxO 26 g3 [.int .i64 0, .int .i64 0, .slice none 0 0]]) [0, 1] ?_ ⟨rfl, rfl, rfl, rfl, trivial⟩ (by decide) rfl
  refine JE.code ?_
  refine JX.seq ?_
  refine JX.region ?_
  refine JL.val (yl_move rfl) rfl ?_
  obtain ⟨x5, hx5, hres⟩ := bind_some hres
  refine JL.eff (ef_call (T := T131 x5) Go.Proofs.Try.func131 rfl (by kernel_rfl) rfl (fun w hC => c131 (RdAt.of0 (rd_box hC 0 rfl)) (rd_arg g_0_2 hC) rfl k_0_2 hx5)) rfl ?_
  rintro _ _ ⟨_, ⟨rfl, rfl⟩, rfl⟩
  refine JL.val (yl_assign rfl) rfl ?_
  refine JL.nil ?_
  refine JE.code ?_
  refine JX.seq ?_
  refine JX.seq ?_
  refine JX.region ?_
  refine JL.val (yl_move rfl) rfl ?_
  refine JL.val (yl_neq rfl rfl) rfl ?_
  refine JL.nil ?_
  refine JE.code ?_
  rcases cond_some hres with ⟨hb, hres⟩ | ⟨hb, hres⟩
  · refine JX.condT rfl hb ?_
    refine JX.seq ?_
    refine JX.region ?_
    refine JL.val (yl_build rfl (fun w => bld26_  w)) rfl ?_
    refine JL.val (yl_move rfl) rfl ?_
    refine JL.eff (ef_store_box (i := 1) (v := .agg #[.int .i64 0, .int .i64 0, .slice none 0 0]) i26 rfl rfl rfl (i26s).symm (Nat.le_of_ble_eq_true rfl) (by simp [Value.cells, Value.oneCell'])) rfl ?_
    rintro _ _ rfl
    refine JL.val (yl_assign rfl) rfl ?_
    refine JL.val (yl_assign rfl) rfl ?_
    refine JL.nil ?_
    refine JE.weak (env' := [(6, ptrAt (some ⟨g3, 0, none⟩) 0), (7, .slice none 0 0), (8, .int .i64 x5)]) (es' := [boxO 26 g3 [.int .i64 0, .int .i64 0, .slice none 0 0]]) [1] ?_ ⟨rfl, rfl, rfl, trivial⟩ (by decide) rfl
    refine JE.code ?_
    refine JX.ret ?_
    refine JE.nilrow 2 eI64 ?_
    refine JE.nilrow 2 eI64 ?_
    obtain rfl := Option.some.inj hres
    refine JE.ret (rs := [.cell 6 26, .tmp 7, .tmp 8]) (vs := [.agg #[.int .i64 0, .int .i64 0, .slice none 0 0], .slice none 0 0, .int .i64 x5]) rfl ⟨rv_box 0 rfl rfl Go.Proofs.Try.underlying26 rfl i26 (i26s).symm, rfl, rfl, trivial⟩ ?_
    exact fun w' hb hs => ⟨_, _, ⟨none, 0, 0, rfl, none, 0, 0, rfl, rfl, rfl⟩, rfl, hb, hs.sel [1, 2] _ (by decide) rfl⟩
  · refine JX.condF rfl hb ?_
    refine JX.skip ?_
    refine JE.code ?_
    refine JX.seq ?_
    refine JX.region ?_
    obtain ⟨x8, hx8, hres⟩ := bind_some hres
    refine JL.eff (ef_call (T := T132 x8) Go.Proofs.Try.func132 rfl (by kernel_rfl) rfl (fun w hC => c132 (RdAt.of0 (rd_box hC 0 rfl)) (rd_arg g_0_2 hC) rfl k_0_2 hx8)) rfl ?_
    rintro _ _ ⟨_, ⟨a9, _, cp10, rfl, rfl, rfl⟩, rfl⟩
    refine JL.eff (ef_alloc i26 i26z rfl) rfl ?_
    rintro _ _ ⟨g12, rfl, rfl⟩
    refine JL.eff (ef_store_box (i := 3) (v := .agg #[.int .i64 x8.W, .int .i64 x8.H, .slice a9 x8.Breaks.length cp10]) i26 rfl rfl rfl (i26s).symm (Nat.le_of_ble_eq_true rfl) (by simp [Value.cells, Value.oneCell'])) rfl ?_
    rintro _ _ rfl
    refine JL.nil ?_
    refine JE.weak (env' := [(1, .slice a_1 q1.length c_1), (2, .int .i64 q2), (6, ptrAt (some ⟨g3, 0, none⟩) 0), (10, ptrAt (some ⟨g12, 0, none⟩) 0)]) (es' := [boxO 26 g3 [.int .i64 0, .int .i64 0, .slice none 0 0], boxO 26 g12 [.int .i64 x8.W, .int .i64 x8.H, .slice a9 x8.Breaks.length cp10], rowT 2 eI64 a9 x8.Breaks.length cp10 x8.Breaks]) [1, 3, 2] ?_ ⟨rfl, rfl, rfl, rfl, trivial⟩ (by decide) rfl
    refine JE.code ?_
    refine JX.seq ?_
    refine JX.region ?_
    refine JL.eff (ef_buildSlice (E := 2) (k := eI64.k) (us := eI64.fl ([] : List Int)) rfl (fun w => bsl24_0  w) rfl (by decide)) rfl ?_
    rintro _ _ ⟨a14, rfl, rfl⟩
    refine JL.val (yl_assign rfl) rfl ?_
    refine JL.nil ?_
    refine JE.code ?_
    refine JX.seq ?_
    refine JX.seq ?_
    refine JX.region ?_
    refine JL.val (yl_assign rfl) rfl ?_
    refine JL.nil ?_
    refine JE.code ?_
    refine JX.block ?_
    obtain ⟨y1, hy1, hresO1⟩ := bind_some hres
    refine JX.loop (I := fun (s1 : Int × List Int × List Int) aa ww => ∃ (l16 : s1.2.1.length = x8.Breaks.length) (a17 : Option Addr) (cp18 : Nat), St w [] 48 [(1, .slice a_1 q1.length c_1), (2, .int .i64 q2), (6, ptrAt (some ⟨g3, 0, none⟩) 0), (10, ptrAt (some ⟨g12, 0, none⟩) 0), (11, .slice a17 s1.2.2.length cp18), (12, .int .i64 s1.1)] [boxO 26 g3 [.int .i64 0, .int .i64 0, .slice none 0 0], boxO 26 g12 [.int .i64 x8.W, .int .i64 x8.H, .slice a9 x8.Breaks.length cp10], rowT 2 eI64 a9 x8.Breaks.length cp10 s1.2.1, rowT 2 eI64 a17 s1.2.2.length cp18 s1.2.2] aa ww) (sh44_1 q1 q2 x8) hy1 (fun a w h => ⟨rfl, a14, 0, h.weak ⟨rfl, rfl, rfl, rfl, rfl, rfl, trivial⟩ [0, 1, 2, 3] (by decide) rfl⟩) ?_
    rintro ⟨x19, x20, x21⟩ o1 hres hox1 aa ww ⟨l22, a23, cp24, hS⟩
    refine (?_ : JX Go.Proofs.Try.prog w [] 48 _ _ [(1, .slice a_1 q1.length c_1), (2, .int .i64 q2), (6, ptrAt (some ⟨g3, 0, none⟩) 0), (10, ptrAt (some ⟨g12, 0, none⟩) 0), (11, .slice a23 x21.length cp24), (12, .int .i64 x19)] [boxO 26 g3 [.int .i64 0, .int .i64 0, .slice none 0 0], boxO 26 g12 [.int .i64 x8.W, .int .i64 x8.H, .slice a9 x8.Breaks.length cp10], rowT 2 eI64 a9 x8.Breaks.length cp10 x20, rowT 2 eI64 a23 x21.length cp24 x21] _) aa ww hS
    clear hS
    simp only [sh44_1] at hres
    refine JX.seq ?_
    refine JX.seq ?_
    refine JX.region ?_
    refine JL.val (yl_move rfl) rfl ?_
    refine JL.val (yl_move rfl) rfl ?_
    refine JL.val (yl_len_slice Go.Proofs.Try.underlying29 rfl) rfl ?_
    refine JL.val (yl_lss rfl rfl) rfl ?_
    refine JL.nil ?_
    refine JE.weak (env' := [(1, .slice a_1 q1.length c_1), (2, .int .i64 q2), (6, ptrAt (some ⟨g3, 0, none⟩) 0), (10, ptrAt (some ⟨g12, 0, none⟩) 0), (11, .slice a23 x21.length cp24), (12, .int .i64 x19), (24, .bool (decide (x19 < ((q1.length : Nat) : Int))))]) (es' := [boxO 26 g3 [.int .i64 0, .int .i64 0, .slice none 0 0], boxO 26 g12 [.int .i64 x8.W, .int .i64 x8.H, .slice a9 x8.Breaks.length cp10], rowT 2 eI64 a9 x8.Breaks.length cp10 x20, rowT 2 eI64 a23 x21.length cp24 x21]) [0, 1, 2, 3] ?_ ⟨rfl, rfl, rfl, rfl, rfl, rfl, rfl, trivial⟩ (by decide) rfl
    refine JE.code ?_
    rcases cond_some hres with ⟨hb, hres⟩ | ⟨hb, hres⟩
    · refine JX.condT rfl hb ?_
      refine JX.skip ?_
      refine JE.code ?_
      refine JX.seq ?_
      refine JX.block ?_
      refine JX.seq ?_
      refine JX.region ?_
      refine JL.val (yl_move rfl) rfl ?_
      refine JL.val (yl_move rfl) rfl ?_
      obtain ⟨x25, hx25, hres⟩ := bind_some hres
      obtain ⟨ha26, hc27, hhx25⟩ := Inn.sub i_1 hx25
      refine JL.val (yl_idxT Go.Proofs.Try.underlying29 i34 i34s rfl rfl hhx25 (Inn.len i_1) (fun w hC => rd_arg g_1 hC)) rfl ?_
      refine JL.val (yl_loadT0 (z := ⟨ha26, x25.length, hc27⟩) Go.Proofs.Try.underlying34 rfl rfl hhx25 (fun w hC => rd_arg g_1 hC) rfl) rfl ?_
      obtain ⟨x29, hx29, hres⟩ := bind_some hres
      refine JL.eff (ef_call (T := T130 x29) Go.Proofs.Try.func130 rfl (by kernel_rfl) rfl (fun w hC => c130 (rd_arg (RdI.sub r_1 hx25 hhx25) hC) rfl (RdI.ln r_1 hx25 hhx25) hx29)) rfl ?_
      rintro _ _ ⟨_, ⟨rfl, rfl⟩, rfl⟩
      refine JL.val (yl_not rfl) rfl ?_
      refine JL.val (yl_move rfl) rfl ?_
      obtain ⟨j30, hj30, hresj30⟩ := bind_some hres
      refine JL.cut (K := fun J => ∀ (l31 : j30.2.length = x8.Breaks.length), J [(1, .slice a_1 q1.length c_1), (2, .int .i64 q2), (6, ptrAt (some ⟨g3, 0, none⟩) 0), (10, ptrAt (some ⟨g12, 0, none⟩) 0), (11, .slice a23 x21.length cp24), (12, .int .i64 x19), (41, .bool j30.1)] [boxO 26 g3 [.int .i64 0, .int .i64 0, .slice none 0 0], boxO 26 g12 [.int .i64 x8.W, .int .i64 x8.H, .slice a9 x8.Breaks.length cp10], rowT 2 eI64 a9 x8.Breaks.length cp10 j30.2, rowT 2 eI64 a23 x21.length cp24 x21]) 8 ?_ ?_
      · intro l31
        have hres := hresj30
        refine JL.nil ?_
        refine JE.weak (env' := [(1, .slice a_1 q1.length c_1), (2, .int .i64 q2), (6, ptrAt (some ⟨g3, 0, none⟩) 0), (10, ptrAt (some ⟨g12, 0, none⟩) 0), (11, .slice a23 x21.length cp24), (12, .int .i64 x19), (41, .bool j30.1)]) (es' := [boxO 26 g3 [.int .i64 0, .int .i64 0, .slice none 0 0], boxO 26 g12 [.int .i64 x8.W, .int .i64 x8.H, .slice a9 x8.Breaks.length cp10], rowT 2 eI64 a9 x8.Breaks.length cp10 j30.2, rowT 2 eI64 a23 x21.length cp24 x21]) [0, 1, 2, 3] ?_ ⟨rfl, rfl, rfl, rfl, rfl, rfl, rfl, trivial⟩ (by decide) rfl
        refine JE.code ?_
        obtain ⟨j32, hj32, hresj32⟩ := bind_some hres
        refine JX.cut (K := fun J => ∀ (a33 : Option Addr) (cp34 : Nat), J [(1, .slice a_1 q1.length c_1), (2, .int .i64 q2), (6, ptrAt (some ⟨g3, 0, none⟩) 0), (10, ptrAt (some ⟨g12, 0, none⟩) 0), (11, .slice a33 j32.length cp34), (12, .int .i64 x19)] [boxO 26 g3 [.int .i64 0, .int .i64 0, .slice none 0 0], boxO 26 g12 [.int .i64 x8.W, .int .i64 x8.H, .slice a9 x8.Breaks.length cp10], rowT 2 eI64 a9 x8.Breaks.length cp10 j30.2, rowT 2 eI64 a33 j32.length cp34 j32]) ?_ ?_
        · intro a33 cp34
          have hres := hresj32
          refine JE.code ?_
          refine JX.region ?_
          refine JL.val (yl_move rfl) rfl ?_
          refine JL.val (yl_add rfl rfl) rfl ?_
          refine JL.val (yl_assign rfl) rfl ?_
          refine JL.nil ?_
          refine JE.cont hres ?_
          exact fun a w h => ⟨l31, a33, cp34, h.weak ⟨rfl, rfl, rfl, rfl, rfl, rfl, trivial⟩ [0, 1, 2, 3] (by decide) rfl⟩
        · intro K
          rcases cond_some hj32 with ⟨hb, hres⟩ | ⟨hb, hres⟩
          · refine JX.condT rfl hb ?_
            refine JX.region ?_
            refine JL.val (yl_move rfl) rfl ?_
            refine JL.val (yl_move rfl) rfl ?_
            refine JL.eff (ef_buildSlice (E := 2) (k := eI64.k) (us := eI64.fl [x19]) rfl (fun w => bsl24_1 x19 w) rfl (by decide)) rfl ?_
            rintro _ _ ⟨a35, rfl, rfl⟩
            obtain ⟨x37, hx37, hres⟩ := bind_some hres
            refine JL.eff (ef_appendT (ix := 3) Go.Proofs.Try.underlying24 i2 i2z i2s rfl i2b0 i2b1 rfl rfl rfl rfl rfl (fun w hC => rd_row hC 4 rfl) hx37) rfl ?_
            rintro _ _ ⟨a38, cp39, rfl, rfl⟩
            refine JL.val (yl_assign rfl) rfl ?_
            refine JL.nil ?_
            refine JE.weak (env' := [(1, .slice a_1 q1.length c_1), (2, .int .i64 q2), (6, ptrAt (some ⟨g3, 0, none⟩) 0), (10, ptrAt (some ⟨g12, 0, none⟩) 0), (11, .slice a38 x37.length cp39), (12, .int .i64 x19)]) (es' := [boxO 26 g3 [.int .i64 0, .int .i64 0, .slice none 0 0], boxO 26 g12 [.int .i64 x8.W, .int .i64 x8.H, .slice a9 x8.Breaks.length cp10], rowT 2 eI64 a9 x8.Breaks.length cp10 j30.2, rowT 2 eI64 a38 x37.length cp39 x37]) [0, 1, 2, 3] ?_ ⟨rfl, rfl, rfl, rfl, rfl, rfl, trivial⟩ (by decide) rfl
            have hj := Option.some.inj hres
            exact JE.weak [0, 1, 2, 3] (K a38 cp39) ⟨(by subst hj; rfl), (by subst hj; rfl), (by subst hj; rfl), (by subst hj; rfl), (by subst hj; rfl), (by subst hj; rfl), trivial⟩ (by decide) (by subst hj; rfl)
          · refine JX.condF rfl hb ?_
            refine JX.skip ?_
            have hj := Option.some.inj hres
            exact JE.weak [0, 1, 2, 3] (K a23 cp24) ⟨(by subst hj; rfl), (by subst hj; rfl), (by subst hj; rfl), (by subst hj; rfl), (by subst hj; rfl), (by subst hj; rfl), trivial⟩ (by decide) (by subst hj; rfl)
      · intro K
        rcases cond_some hj30 with ⟨hb, hres⟩ | ⟨hb, hres⟩
        · refine JL.set (d := 33) (v := .bool true) (congrArg (fun b => some (Value.bool b)) hb) ?_
          refine JL.gskip rfl rfl rfl rfl ?_
          refine JL.gskip rfl rfl rfl rfl ?_
          refine JL.gskip rfl rfl rfl rfl ?_
          refine JL.gskip rfl rfl rfl rfl ?_
          refine JL.gskip rfl rfl rfl rfl ?_
          refine JL.gskip rfl rfl rfl rfl ?_
          refine JL.gskip rfl rfl rfl rfl ?_
          refine JL.val (yl_pick_true rfl rfl) rfl ?_
          have hj := Option.some.inj hres
          exact JL.weak [0, 1, 2, 3] (K (by subst hj; exact l22)) ⟨(by subst hj; rfl), (by subst hj; rfl), (by subst hj; rfl), (by subst hj; rfl), (by subst hj; rfl), (by subst hj; rfl), (by subst hj; rfl), trivial⟩ (by decide) (by subst hj; rfl)
        · refine JL.set (d := 33) (v := .bool false) (congrArg (fun b => some (Value.bool b)) hb) ?_
          refine JL.gval rfl rfl (yl_move rfl) rfl ?_
          refine JL.gval rfl rfl (yl_move rfl) rfl ?_
          obtain ⟨x40, hx40, hres⟩ := bind_some hres
          obtain ⟨ha41, hc42, hhx40⟩ := Inn.sub i_1 hx40
          refine JL.gval rfl rfl (yl_idxT Go.Proofs.Try.underlying29 i34 i34s rfl rfl hhx40 (Inn.len i_1) (fun w hC => rd_arg g_1 hC)) rfl ?_
          refine JL.gval rfl rfl (yl_loadT0 (z := ⟨ha41, x40.length, hc42⟩) Go.Proofs.Try.underlying34 rfl rfl hhx40 (fun w hC => rd_arg g_1 hC) rfl) rfl ?_
          refine JL.gval rfl rfl (yl_move rfl) rfl ?_
          obtain ⟨x44, hx44, hres⟩ := bind_some hres
          refine JL.geff rfl rfl (ef_callms (caps := []) (vs := [ptrAt (some ⟨g12, 0, none⟩) 0, .slice ha41 x40.length hc42, .int .i64 q2]) (T := T133 a9 x8.Breaks.length cp10 x44) [2] [0, 1, 3] [rowT 2 eI64 a9 x8.Breaks.length cp10 x20] [boxO 26 g3 [.int .i64 0, .int .i64 0, .slice none 0 0], boxO 26 g12 [.int .i64 x8.W, .int .i64 x8.H, .slice a9 x8.Breaks.length cp10], rowT 2 eI64 a23 x21.length cp24 x21] rfl Go.Proofs.Try.func133 rfl (by kernel_rfl) rfl (by decide) rfl rfl (fun w N hF hS => c133 (q0 := SPanel.mk x8.W x8.H x20) (RdAtS.of0 (RdS.box hF 1 rfl rfl)) l22 (RdS.pass0 hF (RdI.sub r_1 hx40 hhx40)) rfl (RdI.ln r_1 hx40 hhx40) hS hx44)) rfl ?_
          rintro _ _ ⟨_, _, ⟨l45, rfl, rfl, rfl⟩, rfl⟩
          refine JL.gval rfl rfl (yl_neq rfl rfl) rfl ?_
          refine JL.val (yl_pick_false rfl rfl) rfl ?_
          have hj := Option.some.inj hres
          exact JL.weak [0, 1, 3, 2] (K (by subst hj; exact l45)) ⟨(by subst hj; rfl), (by subst hj; rfl), (by subst hj; rfl), (by subst hj; rfl), (by subst hj; rfl), (by subst hj; rfl), (by subst hj; rfl), trivial⟩ (by decide) (by subst hj; rfl)
    · refine JX.condF rfl hb ?_
      refine JX.exit ?_
      refine JE.qb rfl ?_
      obtain ⟨b1, hb1⟩ : ∃ b : List Int × List Int, b = (x20, x21) := ⟨_, rfl⟩
      have hy1 : b1 = y1 := by rw [hb1]; exact hox1 _ (Option.some.inj hres).symm
      have hres := hresO1
      rw [← hy1] at hres
      have l46 : b1.1.length = x8.Breaks.length := by subst hb1; exact l22
      refine JE.weak (env' := [(6, ptrAt (some ⟨g3, 0, none⟩) 0), (10, ptrAt (some ⟨g12, 0, none⟩) 0), (11, .slice a23 b1.2.length cp24)]) (es' := [boxO 26 g3 [.int .i64 0, .int .i64 0, .slice none 0 0], boxO 26 g12 [.int .i64 x8.W, .int .i64 x8.H, .slice a9 x8.Breaks.length cp10], rowT 2 eI64 a9 x8.Breaks.length cp10 b1.1, rowT 2 eI64 a23 b1.2.length cp24 b1.2]) [0, 1, 2, 3] ?_ ⟨(by subst hb1; rfl), (by subst hb1; rfl), (by subst hb1; rfl), trivial⟩ (by decide) (by subst hb1; rfl)
      refine JE.code ?_
      refine JX.seq ?_
      refine JX.region ?_
      refine JL.val (yl_loadn Go.Proofs.Try.underlying26 rfl i26 rfl (fun w hC => rd_box hC 1 rfl) rfl (i26s).symm i26p) rfl ?_
      refine JL.val (yl_move rfl) rfl ?_
      refine JL.eff (ef_store_box (i := 0) (v := .agg #[.int .i64 x8.W, .int .i64 x8.H, .slice a9 x8.Breaks.length cp10]) i26 rfl rfl rfl (i26s).symm (Nat.le_of_ble_eq_true rfl) (by simp [Value.cells, Value.oneCell'])) rfl ?_
      rintro _ _ rfl
      refine JL.val (yl_assign rfl) rfl ?_
      refine JL.val (yl_assign rfl) rfl ?_
      refine JL.nil ?_
      refine JE.weak (env' := [(6, ptrAt (some ⟨g3, 0, none⟩) 0), (7, .slice a23 b1.2.length cp24), (8, .int .i64 0)]) (es' := [boxO 26 g3 [.int .i64 x8.W, .int .i64 x8.H, .slice a9 x8.Breaks.length cp10], rowT 2 eI64 a9 x8.Breaks.length cp10 b1.1, rowT 2 eI64 a23 b1.2.length cp24 b1.2]) [0, 2, 3] ?_ ⟨rfl, rfl, rfl, trivial⟩ (by decide) rfl
      refine JE.code ?_
      refine JX.ret ?_
      obtain rfl := Option.some.inj hres
      refine JE.ret (rs := [.cell 6 26, .tmp 7, .tmp 8]) (vs := [.agg #[.int .i64 x8.W, .int .i64 x8.H, .slice a9 x8.Breaks.length cp10], .slice a23 b1.2.length cp24, .int .i64 0]) rfl ⟨rv_box 0 rfl rfl Go.Proofs.Try.underlying26 rfl i26 (i26s).symm, rfl, rfl, trivial⟩ ?_
      exact fun w' hb hs => ⟨_, _, ⟨a9, x8.Breaks.length, cp10, l46, a23, b1.2.length, cp24, rfl, rfl, rfl⟩, rfl, hb, hs.sel [1, 2] _ (by decide) rfl⟩

/- spec.l00Same -/
def sh199_1 (q0 : List Int) (q1 : List Int) : Int → Option (Int ⊕ (Unit ⊕ Bool))
  | x1 => bif decide (x1 < (q0.length : Int)) then (Option.bind (getI q0 x1) fun x3 => Option.bind (getI q1 x1) fun x4 => bif x3 != x4 then (some (.inr (.inr false))) else (some (.inl (w64 (x1 + 1))))) else (some (.inr (.inl ())))
def sh199 (q0 : List Int) (q1 : List Int) : Option (Bool) := bif (q0.length : Int) != (q1.length : Int) then (some false) else (Option.bind (iter (sh199_1 q0 q1) 0) fun y1 => elimS y1 (fun r => some r) fun b1 => (some true))
def T199 (r : Bool) (v : Value) (rs : List Own) : Prop := v = rets [.bool r] ∧ rs = []
set_option maxRecDepth 100000 in
theorem c199 {w : World} {q0 : List Int} {a_0 : Option Addr} {n_0 c_0 : Nat} (g_0 : Rd w a_0 (eI64.fl q0)) (l_0 : q0.length = n_0) (k_0 : n_0 ≤ c_0) {q1 : List Int} {a_1 : Option Addr} {n_1 c_1 : Nat} (g_1 : Rd w a_1 (eI64.fl q1)) (l_1 : q1.length = n_1) (k_1 : n_1 ≤ c_1) {r : Bool} (hres : sh199 q0 q1 = some r) : Calls Go.Proofs.Try.prog 199 [.slice a_0 n_0 c_0, .slice a_1 n_1 c_1].toArray w (Ret w (T199 r)) := by
  subst l_0
  subst l_1
  unfold sh199 at hres
  refine calls_of (n := 26) (M := []) (es := []) Go.Proofs.Try.func199 rfl rfl rfl (Sep.nil _ _ _) ?_
  refine JX.seq ?_
  refine JX.region ?_
  refine JL.val (yl_assign rfl) rfl ?_
  refine JL.nil ?_
  refine JE.code ?_
  refine JX.seq ?_
  refine JX.seq ?_
  refine JX.region ?_
  refine JL.val (yl_move rfl) rfl ?_
  refine JL.val (yl_len_slice Go.Proofs.Try.underlying24 rfl) rfl ?_
  refine JL.val (yl_move rfl) rfl ?_
  refine JL.val (yl_len_slice Go.Proofs.Try.underlying24 rfl) rfl ?_
  refine JL.val (yl_neq rfl rfl) rfl ?_
  refine JL.nil ?_
  refine JE.weak (env' := [(0, .slice a_0 q0.length c_0), (1, .slice a_1 q1.length c_1), (10, .bool ((q0.length : Int) != (q1.length : Int)))]) (es' := []) [] ?_ ⟨rfl, rfl, rfl, trivial⟩ (by decide) rfl
  refine JE.code ?_
  rcases cond_some hres with ⟨hb, hres⟩ | ⟨hb, hres⟩
  · refine JX.condT rfl hb ?_
    refine JX.seq ?_
    refine JX.region ?_
    refine JL.val (yl_assign rfl) rfl ?_
    refine JL.nil ?_
    refine JE.code ?_
    refine JX.ret ?_
    obtain rfl := Option.some.inj hres
    refine JE.ret (rs := [.tmp 4]) (vs := [.bool false]) rfl ⟨rfl, trivial⟩ ?_
    exact fun w' hb hs => ⟨_, _, ⟨rfl, rfl⟩, rfl, hb, hs.sel [] _ (by decide) rfl⟩
  · refine JX.condF rfl hb ?_
    refine JX.skip ?_
    refine JE.code ?_
    refine JX.seq ?_
    refine JX.seq ?_
    refine JX.region ?_
    refine JL.val (yl_assign rfl) rfl ?_
    refine JL.nil ?_
    refine JE.code ?_
    refine JX.block ?_
    obtain ⟨y1, hy1, hresO1⟩ := bind_some hres
    refine JX.loop (I := fun (s1 : Int) aa ww => St w [] 26 [(0, .slice a_0 q0.length c_0), (1, .slice a_1 q1.length c_1), (5, .int .i64 s1)] [] aa ww) (sh199_1 q0 q1) hy1 (fun a w h => h.weak ⟨rfl, rfl, rfl, trivial⟩ [] (by decide) rfl) ?_
    rintro x1 o1 hres hox1 aa ww hS
    refine (?_ : JX Go.Proofs.Try.prog w [] 26 _ _ [(0, .slice a_0 q0.length c_0), (1, .slice a_1 q1.length c_1), (5, .int .i64 x1)] [] _) aa ww hS
    clear hS
    unfold sh199_1 at hres
    refine JX.seq ?_
    refine JX.seq ?_
    refine JX.region ?_
    refine JL.val (yl_move rfl) rfl ?_
    refine JL.val (yl_move rfl) rfl ?_
    refine JL.val (yl_len_slice Go.Proofs.Try.underlying24 rfl) rfl ?_
    refine JL.val (yl_lss rfl rfl) rfl ?_
    refine JL.nil ?_
    refine JE.weak (env' := [(0, .slice a_0 q0.length c_0), (1, .slice a_1 q1.length c_1), (5, .int .i64 x1), (14, .bool (decide (x1 < (q0.length : Int))))]) (es' := []) [] ?_ ⟨rfl, rfl, rfl, rfl, trivial⟩ (by decide) rfl
    refine JE.code ?_
    rcases cond_some hres with ⟨hb, hres⟩ | ⟨hb, hres⟩
    · refine JX.condT rfl hb ?_
      refine JX.skip ?_
      refine JE.code ?_
      refine JX.seq ?_
      refine JX.block ?_
      refine JX.seq ?_
      refine JX.drawH [(0, .pure), (1, .pure), (2, .pure), (3, .read), (4, .pure), (5, .pure), (6, .pure), (7, .read), (8, .pure)] [] [] [] [] [] mixedP (by kernel_rfl) (by kernel_rfl) (by decide) rfl rfl ?_
      intro wrr2 Nr2 hFr2
      refine JH.pure rfl (yl_move rfl) rfl ?_
      refine JH.pure rfl (yl_move rfl) rfl ?_
      obtain ⟨x3, hx3, hres⟩ := bind_some hres
      refine JH.pure rfl (yl_idxQ Go.Proofs.Try.underlying24 i2 i2s rfl rfl hx3 rfl (rd_arg g_0 hFr2.cl) rfl) rfl ?_
      refine JH.read rfl (yl_loadT0 Go.Proofs.Try.underlying2 rfl rfl hx3 (fun w hw => hFr2.arg g_0 hw) rfl) rfl ?_
      refine JH.pure rfl (yl_move rfl) rfl ?_
      refine JH.pure rfl (yl_move rfl) rfl ?_
      obtain ⟨x4, hx4, hres⟩ := bind_some hres
      refine JH.pure rfl (yl_idxQ Go.Proofs.Try.underlying24 i2 i2s rfl rfl hx4 rfl (rd_arg g_1 hFr2.cl) rfl) rfl ?_
      refine JH.read rfl (yl_loadT0 Go.Proofs.Try.underlying2 rfl rfl hx4 (fun w hw => hFr2.arg g_1 hw) rfl) rfl ?_
      refine JH.pure rfl (yl_neq rfl rfl) rfl ?_
      refine JH.nil ?_
      refine JE.weak (env' := [(0, .slice a_0 q0.length c_0), (1, .slice a_1 q1.length c_1), (5, .int .i64 x1), (25, .bool (x3 != x4))]) (es' := []) [] ?_ ⟨rfl, rfl, rfl, rfl, trivial⟩ (by decide) rfl
      refine JE.code ?_
      rcases cond_some hres with ⟨hb, hres⟩ | ⟨hb, hres⟩
      · refine JX.condT rfl hb ?_
        refine JX.seq ?_
        refine JX.region ?_
        refine JL.val (yl_assign rfl) rfl ?_
        refine JL.nil ?_
        refine JE.code ?_
        refine JX.ret ?_
        refine JE.qbr ?_
        refine JE.qbr ?_
        have hres := elimS_inr hresO1 (hox1 _ (Option.some.inj hres).symm)
        obtain rfl := Option.some.inj hres
        refine JE.ret (rs := [.tmp 4]) (vs := [.bool false]) rfl ⟨rfl, trivial⟩ ?_
        exact fun w' hb hs => ⟨_, _, ⟨rfl, rfl⟩, rfl, hb, hs.sel [] _ (by decide) rfl⟩
      · refine JX.condF rfl hb ?_
        refine JX.skip ?_
        refine JE.code ?_
        refine JX.region ?_
        refine JL.val (yl_move rfl) rfl ?_
        refine JL.val (yl_add rfl rfl) rfl ?_
        refine JL.val (yl_assign rfl) rfl ?_
        refine JL.nil ?_
        refine JE.cont hres ?_
        exact fun a w h => h.weak ⟨rfl, rfl, rfl, trivial⟩ [] (by decide) rfl
    · refine JX.condF rfl hb ?_
      refine JX.exit ?_
      refine JE.qb rfl ?_
      obtain ⟨b1, hb1⟩ : ∃ b : Unit, b = () := ⟨_, rfl⟩
      have hy1 : Sum.inl b1 = y1 := by rw [hb1]; exact hox1 _ (Option.some.inj hres).symm
      have hres := elimS_inl hresO1 hy1
      refine JE.weak (env' := []) (es' := []) [] ?_ trivial (by decide) (by subst hb1; rfl)
      refine JE.code ?_
      refine JX.seq ?_
      refine JX.region ?_
      refine JL.val (yl_assign rfl) rfl ?_
      refine JL.nil ?_
      refine JE.code ?_
      refine JX.ret ?_
      obtain rfl := Option.some.inj hres
      refine JE.ret (rs := [.tmp 4]) (vs := [.bool true]) rfl ⟨rfl, trivial⟩ ?_
      exact fun w' hb hs => ⟨_, _, ⟨rfl, rfl⟩, rfl, hb, hs.sel [] _ (by decide) rfl⟩

/- spec.l02Same -/
def sh135 (q0 : SPanel) (q1 : SPanel) : Option (Bool) := Option.bind (bif (q0.W == q1.W) && (q0.H == q1.H) then (Option.bind (sh199 q0.Breaks q1.Breaks) fun x3 => some x3) else (some false)) fun cb2 => (some cb2)
def T135 (r : Bool) (v : Value) (rs : List Own) : Prop := v = rets [.bool r] ∧ rs = []
set_option maxRecDepth 100000 in
theorem c135 {w : World} {q0 : SPanel} {a_0 : Option Addr} {n_0 : Nat} {a_0_2 : Option Addr} {n_0_2 c_0_2 : Nat} (g_0 : RdAt w a_0 n_0 [.int .i64 q0.W, .int .i64 q0.H, .slice a_0_2 n_0_2 c_0_2]) (g_0_2 : Rd w a_0_2 (eI64.fl q0.Breaks)) (l_0_2 : q0.Breaks.length = n_0_2) (k_0_2 : n_0_2 ≤ c_0_2) {q1 : SPanel} {a_1 : Option Addr} {n_1 : Nat} {a_1_2 : Option Addr} {n_1_2 c_1_2 : Nat} (g_1 : RdAt w a_1 n_1 [.int .i64 q1.W, .int .i64 q1.H, .slice a_1_2 n_1_2 c_1_2]) (g_1_2 : Rd w a_1_2 (eI64.fl q1.Breaks)) (l_1_2 : q1.Breaks.length = n_1_2) (k_1_2 : n_1_2 ≤ c_1_2) {r : Bool} (hres : sh135 q0 q1 = some r) : Calls Go.Proofs.Try.prog 135 [ptrAt a_0 n_0, ptrAt a_1 n_1].toArray w (Ret w (T135 r)) := by
  subst l_0_2
  obtain ⟨b_0, e_0, g_0⟩ := g_0.norm0
  rw [e_0]
  subst l_1_2
  obtain ⟨b_1, e_1, g_1⟩ := g_1.norm0
  rw [e_1]
  unfold sh135 at hres
  refine calls_of (n := 36) (M := []) (es := []) Go.Proofs.Try.func135 rfl rfl rfl (Sep.nil _ _ _) ?_
  refine JX.seq ?_
  refine JX.region ?_
  refine JL.val (yl_assign rfl) rfl ?_
  refine JL.nil ?_
  refine JE.code ?_
  refine JX.seq ?_
  refine JX.drawH [(0, .pure), (1, .pure), (2, .pure), (3, .read), (4, .pure), (5, .pure), (6, .pure), (7, .read), (8, .pure), (9, .pure), (10, .pure), (11, .pure), (12, .pure), (13, .read), (14, .pure), (15, .pure), (16, .pure), (17, .read), (18, .pure), (19, .pure), (20, .pure), (21, .pure), (22, .pure), (23, .pure), (24, .read), (25, .pure), (26, .pure), (27, .pure), (28, .read), (29, .must), (30, .pure), (31, .pure)] [] [] [] [] [] mixedP (by kernel_rfl) (by kernel_rfl) (by decide) rfl rfl ?_
  intro wrr1 Nr1 hFr1
  refine JH.pure rfl (yl_move rfl) rfl ?_
  refine JH.pure rfl (yl_nilCheckAt rfl (Rd.some g_0 (j := 0) rfl)) rfl ?_
  refine JH.pure rfl (yl_fieldAt Go.Proofs.Try.underlying26 rfl i2 i2n rfl (Rd.some g_0 (j := 0) rfl)) rfl ?_
  refine JH.read rfl (yl_load1 Go.Proofs.Try.underlying2 rfl rfl (fun w hw => hFr1.arg g_0 hw) rfl) rfl ?_
  refine JH.pure rfl (yl_move rfl) rfl ?_
  refine JH.pure rfl (yl_nilCheckAt rfl (Rd.some g_1 (j := 0) rfl)) rfl ?_
  refine JH.pure rfl (yl_fieldAt Go.Proofs.Try.underlying26 rfl i2 i2n rfl (Rd.some g_1 (j := 0) rfl)) rfl ?_
  refine JH.read rfl (yl_load1 Go.Proofs.Try.underlying2 rfl rfl (fun w hw => hFr1.arg g_1 hw) rfl) rfl ?_
  refine JH.pure rfl (yl_eql rfl rfl) rfl ?_
  refine JH.pure rfl (yl_move rfl) rfl ?_
  refine JH.cut (K := fun J => J [(0, ptrAt b_0 0), (1, ptrAt b_1 0), (24, .bool ((q0.W == q1.W) && (q0.H == q1.H)))] []) 10 ?_ ?_
  · refine JH.pure rfl (yl_move rfl) rfl ?_
    obtain ⟨cb2, hcb2, hres⟩ := bind_some hres
    refine JH.cut (K := fun J => J [(35, .bool cb2)] []) 10 ?_ ?_
    · refine JH.pure rfl (yl_assign rfl) rfl ?_
      refine JH.nil ?_
      refine JE.weak (env' := [(4, .bool cb2)]) (es' := []) [] ?_ ⟨rfl, trivial⟩ (by decide) rfl
      refine JE.code ?_
      refine JX.ret ?_
      obtain rfl := Option.some.inj hres
      refine JE.ret (rs := [.tmp 4]) (vs := [.bool cb2]) rfl ⟨rfl, trivial⟩ ?_
      exact fun w' hb hs => ⟨_, _, ⟨rfl, rfl⟩, rfl, hb, hs.sel [] _ (by decide) rfl⟩
    · intro K
      rcases cond_some hcb2 with ⟨hb, hres⟩ | ⟨hb, hres⟩
      · refine JH.set (d := 25) (v := .bool true) (congrArg (fun b => some (Value.bool b)) hb) ?_
        refine JH.gpure rfl rfl rfl (yl_move rfl) rfl ?_
        refine JH.gpure rfl rfl rfl (yl_nilCheckAt rfl (Rd.some g_0 (j := 0) rfl)) rfl ?_
        refine JH.gpure rfl rfl rfl (yl_fieldAt Go.Proofs.Try.underlying26 rfl i24 i24n rfl (Rd.some g_0 (j := 0) rfl)) rfl ?_
        refine JH.gread rfl rfl rfl (yl_load1 Go.Proofs.Try.underlying24 rfl rfl (fun w hw => hFr1.arg g_0 hw) rfl) rfl ?_
        refine JH.gpure rfl rfl rfl (yl_move rfl) rfl ?_
        refine JH.gpure rfl rfl rfl (yl_nilCheckAt rfl (Rd.some g_1 (j := 0) rfl)) rfl ?_
        refine JH.gpure rfl rfl rfl (yl_fieldAt Go.Proofs.Try.underlying26 rfl i24 i24n rfl (Rd.some g_1 (j := 0) rfl)) rfl ?_
        refine JH.gread rfl rfl rfl (yl_load1 Go.Proofs.Try.underlying24 rfl rfl (fun w hw => hFr1.arg g_1 hw) rfl) rfl ?_
        obtain ⟨x3, hx3, hres⟩ := bind_some hres
        refine JH.gmust rfl rfl rfl (ef_call (T := T199 x3) Go.Proofs.Try.func199 rfl (by kernel_rfl) rfl (fun w hC => c199 (hFr1.arg g_0_2 hC.1) rfl k_0_2 (hFr1.arg g_1_2 hC.1) rfl k_1_2 hx3)) rfl rfl ?_
        rintro _ _ ⟨_, ⟨rfl, rfl⟩, rfl⟩
        refine JH.pure rfl (yl_pick_true rfl rfl) rfl ?_
        have he := Option.some.inj hres
        exact JH.weak [] K ⟨(by rw [← he]; rfl), trivial⟩ (by decide) rfl
      · refine JH.set (d := 25) (v := .bool false) (congrArg (fun b => some (Value.bool b)) hb) ?_
        refine JH.gskip rfl rfl rfl rfl rfl rfl ?_
        refine JH.gskip rfl rfl rfl rfl rfl rfl ?_
        refine JH.gskip rfl rfl rfl rfl rfl rfl ?_
        refine JH.gskip rfl rfl rfl rfl rfl rfl ?_
        refine JH.gskip rfl rfl rfl rfl rfl rfl ?_
        refine JH.gskip rfl rfl rfl rfl rfl rfl ?_
        refine JH.gskip rfl rfl rfl rfl rfl rfl ?_
        refine JH.gskip rfl rfl rfl rfl rfl rfl ?_
        refine JH.gskip rfl rfl rfl rfl rfl rfl ?_
        refine JH.pure rfl (yl_pick_false rfl rfl) rfl ?_
        have he := Option.some.inj hres
        exact JH.weak [] K ⟨(by rw [← he]; rfl), trivial⟩ (by decide) rfl
  · intro K
    rcases Bool.eq_false_or_eq_true (q0.W == q1.W) with hb | hb
    · refine JH.set (d := 14) (v := .bool true) (congrArg (fun b => some (Value.bool b)) hb) ?_
      refine JH.gpure rfl rfl rfl (yl_move rfl) rfl ?_
      refine JH.gpure rfl rfl rfl (yl_nilCheckAt rfl (Rd.some g_0 (j := 0) rfl)) rfl ?_
      refine JH.gpure rfl rfl rfl (yl_fieldAt Go.Proofs.Try.underlying26 rfl i2 i2n rfl (Rd.some g_0 (j := 0) rfl)) rfl ?_
      refine JH.gread rfl rfl rfl (yl_load1 Go.Proofs.Try.underlying2 rfl rfl (fun w hw => hFr1.arg g_0 hw) rfl) rfl ?_
      refine JH.gpure rfl rfl rfl (yl_move rfl) rfl ?_
      refine JH.gpure rfl rfl rfl (yl_nilCheckAt rfl (Rd.some g_1 (j := 0) rfl)) rfl ?_
      refine JH.gpure rfl rfl rfl (yl_fieldAt Go.Proofs.Try.underlying26 rfl i2 i2n rfl (Rd.some g_1 (j := 0) rfl)) rfl ?_
      refine JH.gread rfl rfl rfl (yl_load1 Go.Proofs.Try.underlying2 rfl rfl (fun w hw => hFr1.arg g_1 hw) rfl) rfl ?_
      refine JH.gpure rfl rfl rfl (yl_eql rfl rfl) rfl ?_
      refine JH.pure rfl (yl_pick_true rfl rfl) rfl ?_
      exact JH.weak [] K ⟨rfl, rfl, (by rw [hb]; rfl), trivial⟩ (by decide) rfl
    · refine JH.set (d := 14) (v := .bool false) (congrArg (fun b => some (Value.bool b)) hb) ?_
      refine JH.gskip rfl rfl rfl rfl rfl rfl ?_
      refine JH.gskip rfl rfl rfl rfl rfl rfl ?_
      refine JH.gskip rfl rfl rfl rfl rfl rfl ?_
      refine JH.gskip rfl rfl rfl rfl rfl rfl ?_
      refine JH.gskip rfl rfl rfl rfl rfl rfl ?_
      refine JH.gskip rfl rfl rfl rfl rfl rfl ?_
      refine JH.gskip rfl rfl rfl rfl rfl rfl ?_
      refine JH.gskip rfl rfl rfl rfl rfl rfl ?_
      refine JH.gskip rfl rfl rfl rfl rfl rfl ?_
      refine JH.pure rfl (yl_pick_false rfl rfl) rfl ?_
      exact JH.weak [] K ⟨rfl, rfl, (by rw [hb]; rfl), trivial⟩ (by decide) rfl

/- spec.SamePanel -/
def sh45 (q0 : SPanel) (q1 : SPanel) : Option (Bool) := Option.bind (sh135 q0 q1) fun x5 => some x5
def T45 (r : Bool) (v : Value) (rs : List Own) : Prop := v = rets [.bool r] ∧ rs = []
set_option maxRecDepth 100000 in
theorem c45 {w : World} {q0 : SPanel} {a_0_2 : Option Addr} {n_0_2 c_0_2 : Nat} (g_0_2 : Rd w a_0_2 (eI64.fl q0.Breaks)) (l_0_2 : q0.Breaks.length = n_0_2) (k_0_2 : n_0_2 ≤ c_0_2) {q1 : SPanel} {a_1_2 : Option Addr} {n_1_2 c_1_2 : Nat} (g_1_2 : Rd w a_1_2 (eI64.fl q1.Breaks)) (l_1_2 : q1.Breaks.length = n_1_2) (k_1_2 : n_1_2 ≤ c_1_2) {r : Bool} (hres : sh45 q0 q1 = some r) : Calls Go.Proofs.Try.prog 45 [.agg #[.int .i64 q0.W, .int .i64 q0.H, .slice a_0_2 n_0_2 c_0_2], .agg #[.int .i64 q1.W, .int .i64 q1.H, .slice a_1_2 n_1_2 c_1_2]].toArray w (Ret w (T45 r)) := by
  subst l_0_2
  subst l_1_2
  unfold sh45 at hres
  refine calls_of (n := 6) (M := []) (es := []) Go.Proofs.Try.func45 rfl rfl rfl (Sep.nil _ _ _) ?_
  refine JX.seq ?_
  refine JX.region ?_
  refine JL.eff (ef_box rfl rfl) rfl ?_
  rintro _ _ ⟨g1, rfl, rfl⟩
  refine JL.eff (ef_box rfl rfl) rfl ?_
  rintro _ _ ⟨g3, rfl, rfl⟩
  refine JL.val (yl_assign rfl) rfl ?_
  refine JL.nil ?_
  refine JE.code ?_
  refine JX.seq ?_
  refine JX.region ?_
  obtain ⟨x5, hx5, hres⟩ := bind_some hres
  refine JL.eff (ef_call (T := T135 x5) Go.Proofs.Try.func135 rfl (by kernel_rfl) rfl (fun w hC => c135 (RdAt.of0 (rd_box hC 0 rfl)) (rd_arg g_0_2 hC) rfl k_0_2 (RdAt.of0 (rd_box hC 1 rfl)) (rd_arg g_1_2 hC) rfl k_1_2 hx5)) rfl ?_
  rintro _ _ ⟨_, ⟨rfl, rfl⟩, rfl⟩
  refine JL.val (yl_assign rfl) rfl ?_
  refine JL.nil ?_
  refine JE.weak (env' := [(4, .bool x5)]) (es' := []) [] ?_ ⟨rfl, trivial⟩ (by decide) rfl
  refine JE.code ?_
  refine JX.ret ?_
  obtain rfl := Option.some.inj hres
  refine JE.ret (rs := [.tmp 4]) (vs := [.bool x5]) rfl ⟨rfl, trivial⟩ ?_
  exact fun w' hb hs => ⟨_, _, ⟨rfl, rfl⟩, rfl, hb, hs.sel [] _ (by decide) rfl⟩

/- laws.f6ints -/
def sh46_1 (q0 : List Int) (q1 : List Int) : Int → Option (Int ⊕ (Unit ⊕ Bool))
  | x1 => bif decide (x1 < (q0.length : Int)) then (Option.bind (getI q0 x1) fun x3 => Option.bind (getI q1 x1) fun x4 => bif x3 != x4 then (some (.inr (.inr false))) else (some (.inl (w64 (x1 + 1))))) else (some (.inr (.inl ())))
def sh46 (q0 : List Int) (q1 : List Int) : Option (Bool) := bif (q0.length : Int) != (q1.length : Int) then (some false) else (Option.bind (iter (sh46_1 q0 q1) 0) fun y1 => elimS y1 (fun r => some r) fun b1 => (some true))
def T46 (r : Bool) (v : Value) (rs : List Own) : Prop := v = rets [.bool r] ∧ rs = []
set_option maxRecDepth 100000 in
theorem c46 {w : World} {q0 : List Int} {a_0 : Option Addr} {n_0 c_0 : Nat} (g_0 : Rd w a_0 (eI64.fl q0)) (l_0 : q0.length = n_0) (k_0 : n_0 ≤ c_0) {q1 : List Int} {a_1 : Option Addr} {n_1 c_1 : Nat} (g_1 : Rd w a_1 (eI64.fl q1)) (l_1 : q1.length = n_1) (k_1 : n_1 ≤ c_1) {r : Bool} (hres : sh46 q0 q1 = some r) : Calls Go.Proofs.Try.prog 46 [.slice a_0 n_0 c_0, .slice a_1 n_1 c_1].toArray w (Ret w (T46 r)) := by
  subst l_0
  subst l_1
  unfold sh46 at hres
  refine calls_of (n := 26) (M := []) (es := []) Go.Proofs.Try.func46 rfl rfl rfl (Sep.nil _ _ _) ?_
  refine JX.seq ?_
  refine JX.region ?_
  refine JL.val (yl_assign rfl) rfl ?_
  refine JL.nil ?_
  refine JE.code ?_
  refine JX.seq ?_
  refine JX.seq ?_
  refine JX.region ?_
  refine JL.val (yl_move rfl) rfl ?_
  refine JL.val (yl_len_slice Go.Proofs.Try.underlying24 rfl) rfl ?_
  refine JL.val (yl_move rfl) rfl ?_
  refine JL.val (yl_len_slice Go.Proofs.Try.underlying24 rfl) rfl ?_
  refine JL.val (yl_neq rfl rfl) rfl ?_
  refine JL.nil ?_
  refine JE.weak (env' := [(0, .slice a_0 q0.length c_0), (1, .slice a_1 q1.length c_1), (10, .bool ((q0.length : Int) != (q1.length : Int)))]) (es' := []) [] ?_ ⟨rfl, rfl, rfl, trivial⟩ (by decide) rfl
  refine JE.code ?_
  rcases cond_some hres with ⟨hb, hres⟩ | ⟨hb, hres⟩
  · refine JX.condT rfl hb ?_
    refine JX.seq ?_
    refine JX.region ?_
    refine JL.val (yl_assign rfl) rfl ?_
    refine JL.nil ?_
    refine JE.code ?_
    refine JX.ret ?_
    obtain rfl := Option.some.inj hres
    refine JE.ret (rs := [.tmp 4]) (vs := [.bool false]) rfl ⟨rfl, trivial⟩ ?_
    exact fun w' hb hs => ⟨_, _, ⟨rfl, rfl⟩, rfl, hb, hs.sel [] _ (by decide) rfl⟩
  · refine JX.condF rfl hb ?_
    refine JX.skip ?_
    refine JE.code ?_
    refine JX.seq ?_
    refine JX.seq ?_
    refine JX.region ?_
    refine JL.val (yl_assign rfl) rfl ?_
    refine JL.nil ?_
    refine JE.code ?_
    refine JX.block ?_
    obtain ⟨y1, hy1, hresO1⟩ := bind_some hres
    refine JX.loop (I := fun (s1 : Int) aa ww => St w [] 26 [(0, .slice a_0 q0.length c_0), (1, .slice a_1 q1.length c_1), (5, .int .i64 s1)] [] aa ww) (sh46_1 q0 q1) hy1 (fun a w h => h.weak ⟨rfl, rfl, rfl, trivial⟩ [] (by decide) rfl) ?_
    rintro x1 o1 hres hox1 aa ww hS
    refine (?_ : JX Go.Proofs.Try.prog w [] 26 _ _ [(0, .slice a_0 q0.length c_0), (1, .slice a_1 q1.length c_1), (5, .int .i64 x1)] [] _) aa ww hS
    clear hS
    unfold sh46_1 at hres
    refine JX.seq ?_
    refine JX.seq ?_
    refine JX.region ?_
    refine JL.val (yl_move rfl) rfl ?_
    refine JL.val (yl_move rfl) rfl ?_
    refine JL.val (yl_len_slice Go.Proofs.Try.underlying24 rfl) rfl ?_
    refine JL.val (yl_lss rfl rfl) rfl ?_
    refine JL.nil ?_
    refine JE.weak (env' := [(0, .slice a_0 q0.length c_0), (1, .slice a_1 q1.length c_1), (5, .int .i64 x1), (14, .bool (decide (x1 < (q0.length : Int))))]) (es' := []) [] ?_ ⟨rfl, rfl, rfl, rfl, trivial⟩ (by decide) rfl
    refine JE.code ?_
    rcases cond_some hres with ⟨hb, hres⟩ | ⟨hb, hres⟩
    · refine JX.condT rfl hb ?_
      refine JX.skip ?_
      refine JE.code ?_
      refine JX.seq ?_
      refine JX.block ?_
      refine JX.seq ?_
      refine JX.drawH [(0, .pure), (1, .pure), (2, .pure), (3, .read), (4, .pure), (5, .pure), (6, .pure), (7, .read), (8, .pure)] [] [] [] [] [] mixedP (by kernel_rfl) (by kernel_rfl) (by decide) rfl rfl ?_
      intro wrr2 Nr2 hFr2
      refine JH.pure rfl (yl_move rfl) rfl ?_
      refine JH.pure rfl (yl_move rfl) rfl ?_
      obtain ⟨x3, hx3, hres⟩ := bind_some hres
      refine JH.pure rfl (yl_idxQ Go.Proofs.Try.underlying24 i2 i2s rfl rfl hx3 rfl (rd_arg g_0 hFr2.cl) rfl) rfl ?_
      refine JH.read rfl (yl_loadT0 Go.Proofs.Try.underlying2 rfl rfl hx3 (fun w hw => hFr2.arg g_0 hw) rfl) rfl ?_
      refine JH.pure rfl (yl_move rfl) rfl ?_
      refine JH.pure rfl (yl_move rfl) rfl ?_
      obtain ⟨x4, hx4, hres⟩ := bind_some hres
      refine JH.pure rfl (yl_idxQ Go.Proofs.Try.underlying24 i2 i2s rfl rfl hx4 rfl (rd_arg g_1 hFr2.cl) rfl) rfl ?_
      refine JH.read rfl (yl_loadT0 Go.Proofs.Try.underlying2 rfl rfl hx4 (fun w hw => hFr2.arg g_1 hw) rfl) rfl ?_
      refine JH.pure rfl (yl_neq rfl rfl) rfl ?_
      refine JH.nil ?_
      refine JE.weak (env' := [(0, .slice a_0 q0.length c_0), (1, .slice a_1 q1.length c_1), (5, .int .i64 x1), (25, .bool (x3 != x4))]) (es' := []) [] ?_ ⟨rfl, rfl, rfl, rfl, trivial⟩ (by decide) rfl
      refine JE.code ?_
      rcases cond_some hres with ⟨hb, hres⟩ | ⟨hb, hres⟩
      · refine JX.condT rfl hb ?_
        refine JX.seq ?_
        refine JX.region ?_
        refine JL.val (yl_assign rfl) rfl ?_
        refine JL.nil ?_
        refine JE.code ?_
        refine JX.ret ?_
        refine JE.qbr ?_
        refine JE.qbr ?_
        have hres := elimS_inr hresO1 (hox1 _ (Option.some.inj hres).symm)
        obtain rfl := Option.some.inj hres
        refine JE.ret (rs := [.tmp 4]) (vs := [.bool false]) rfl ⟨rfl, trivial⟩ ?_
        exact fun w' hb hs => ⟨_, _, ⟨rfl, rfl⟩, rfl, hb, hs.sel [] _ (by decide) rfl⟩
      · refine JX.condF rfl hb ?_
        refine JX.skip ?_
        refine JE.code ?_
        refine JX.region ?_
        refine JL.val (yl_move rfl) rfl ?_
        refine JL.val (yl_add rfl rfl) rfl ?_
        refine JL.val (yl_assign rfl) rfl ?_
        refine JL.nil ?_
        refine JE.cont hres ?_
        exact fun a w h => h.weak ⟨rfl, rfl, rfl, trivial⟩ [] (by decide) rfl
    · refine JX.condF rfl hb ?_
      refine JX.exit ?_
      refine JE.qb rfl ?_
      obtain ⟨b1, hb1⟩ : ∃ b : Unit, b = () := ⟨_, rfl⟩
      have hy1 : Sum.inl b1 = y1 := by rw [hb1]; exact hox1 _ (Option.some.inj hres).symm
      have hres := elimS_inl hresO1 hy1
      refine JE.weak (env' := []) (es' := []) [] ?_ trivial (by decide) (by subst hb1; rfl)
      refine JE.code ?_
      refine JX.seq ?_
      refine JX.region ?_
      refine JL.val (yl_assign rfl) rfl ?_
      refine JL.nil ?_
      refine JE.code ?_
      refine JX.ret ?_
      obtain rfl := Option.some.inj hres
      refine JE.ret (rs := [.tmp 4]) (vs := [.bool true]) rfl ⟨rfl, trivial⟩ ?_
      exact fun w' hb hs => ⟨_, _, ⟨rfl, rfl⟩, rfl, hb, hs.sel [] _ (by decide) rfl⟩

/- spec.SetBreak -/
def sh48 (q0 : SPanel) (q1 : SPoint) (q2 : Int) : Option (SPanel × Int) := Option.bind (sh139 q0) fun x7 => Option.bind (bif x7 then (Option.bind (sh140 q0 q1) fun x9 => some x9) else (some false)) fun cb8 => (Option.bind (bif cb8 then (Option.bind (sh125 q2) fun x11 => some !x11) else (some false)) fun cb10 => (bif cb10 then (some (SPanel.mk 0 0 ([] : List Int), 2)) else (Option.bind (sh124 q0 q1) fun x13 => bif x13 != 0 then (some (SPanel.mk 0 0 ([] : List Int), x13)) else (Option.bind (sh132 q0) fun x15 => Option.bind (sh141 q0 q1) fun x22 => Option.bind (getI x15.Breaks x22) fun x23 => some (SPanel.mk x15.W x15.H (x15.Breaks.set (x22).toNat q2), 0)))))
def T48 (r : SPanel × Int) (v : Value) (rs : List Own) : Prop := ∃ (a0_2 : Option Addr) (n0_2 c0_2 : Nat), r.1.Breaks.length = n0_2 ∧ v = rets [.agg #[.int .i64 r.1.W, .int .i64 r.1.H, .slice a0_2 n0_2 c0_2], .int .i64 r.2] ∧ rs = [rowT 2 eI64 a0_2 n0_2 c0_2 r.1.Breaks]
set_option maxRecDepth 100000 in
theorem c48 {w : World} {q0 : SPanel} {a_0_2 : Option Addr} {n_0_2 c_0_2 : Nat} (g_0_2 : Rd w a_0_2 (eI64.fl q0.Breaks)) (l_0_2 : q0.Breaks.length = n_0_2) (k_0_2 : n_0_2 ≤ c_0_2) {q1 : SPoint} {q2 : Int} {r : SPanel × Int} (hres : sh48 q0 q1 q2 = some r) : Calls Go.Proofs.Try.prog 48 [.agg #[.int .i64 q0.W, .int .i64 q0.H, .slice a_0_2 n_0_2 c_0_2], .agg #[.int .i64 q1.X, .int .i64 q1.Y], .int .i64 q2].toArray w (Ret w (T48 r)) := by
  subst l_0_2
  unfold sh48 at hres
  refine calls_of (n := 35) (M := []) (es := []) Go.Proofs.Try.func48 rfl rfl rfl (Sep.nil _ _ _) ?_
  refine JX.seq ?_
  refine JX.region ?_
  refine JL.eff (ef_box rfl rfl) rfl ?_
  rintro _ _ ⟨g1, rfl, rfl⟩
  refine JL.eff (ef_box rfl rfl) rfl ?_
  rintro _ _ ⟨g3, rfl, rfl⟩
  refine JL.eff (ef_alloc i26 i26z rfl) rfl ?_
  rintro _ _ ⟨g5, rfl, rfl⟩
  refine JL.val (yl_assign rfl) rfl ?_
  refine JL.nil ?_
  refine JE.weak (env' := [(2, .int .i64 q2), (3, ptrAt (some ⟨g1, 0, none⟩) 0), (4, ptrAt (some ⟨g3, 0, none⟩) 0), (6, ptrAt (some ⟨g5, 0, none⟩) 0)]) (es' := [boxO 26 g1 [.int .i64 q0.W, .int .i64 q0.H, .slice a_0_2 q0.Breaks.length c_0_2], boxO 42 g3 [.int .i64 q1.X, .int .i64 q1.Y], boxO 26 g5 [.int .i64 0, .int .i64 0, .slice none 0 0]]) [0, 1, 2] ?_ ⟨rfl, rfl, rfl, rfl, trivial⟩ (by decide) rfl
  refine JE.code ?_
  refine JX.seq ?_
  refine JX.seq ?_
  refine JX.region ?_
  obtain ⟨x7, hx7, hres⟩ := bind_some hres
  refine JL.eff (ef_call (T := T139 x7) Go.Proofs.Try.func139 rfl (by kernel_rfl) rfl (fun w hC => c139 (RdAt.of0 (rd_box hC 0 rfl)) (rd_arg g_0_2 hC) rfl k_0_2 hx7)) rfl ?_
  rintro _ _ ⟨_, ⟨rfl, rfl⟩, rfl⟩
  refine JL.val (yl_move rfl) rfl ?_
  obtain ⟨cb8, hcb8, hres⟩ := bind_some hres
  refine JL.cut (K := fun J => J [(2, .int .i64 q2), (3, ptrAt (some ⟨g1, 0, none⟩) 0), (4, ptrAt (some ⟨g3, 0, none⟩) 0), (6, ptrAt (some ⟨g5, 0, none⟩) 0), (14, .bool cb8)] [boxO 26 g1 [.int .i64 q0.W, .int .i64 q0.H, .slice a_0_2 q0.Breaks.length c_0_2], boxO 42 g3 [.int .i64 q1.X, .int .i64 q1.Y], boxO 26 g5 [.int .i64 0, .int .i64 0, .slice none 0 0]]) 3 ?_ ?_
  · refine JL.val (yl_move rfl) rfl ?_
    obtain ⟨cb10, hcb10, hres⟩ := bind_some hres
    refine JL.cut (K := fun J => J [(2, .int .i64 q2), (3, ptrAt (some ⟨g1, 0, none⟩) 0), (4, ptrAt (some ⟨g3, 0, none⟩) 0), (6, ptrAt (some ⟨g5, 0, none⟩) 0), (19, .bool cb10)] [boxO 26 g1 [.int .i64 q0.W, .int .i64 q0.H, .slice a_0_2 q0.Breaks.length c_0_2], boxO 42 g3 [.int .i64 q1.X, .int .i64 q1.Y], boxO 26 g5 [.int .i64 0, .int .i64 0, .slice none 0 0]]) 4 ?_ ?_
    · refine JL.nil ?_
      refine JE.weak (env' := [(2, .int .i64 q2), (3, ptrAt (some ⟨g1, 0, none⟩) 0), (4, ptrAt (some ⟨g3, 0, none⟩) 0), (6, ptrAt (some ⟨g5, 0, none⟩) 0), (19, .bool cb10)]) (es' := [boxO 26 g1 [.int .i64 q0.W, .int .i64 q0.H, .slice a_0_2 q0.Breaks.length c_0_2], boxO 42 g3 [.int .i64 q1.X, .int .i64 q1.Y], boxO 26 g5 [.int .i64 0, .int .i64 0, .slice none 0 0]]) [0, 1, 2] ?_ ⟨rfl, rfl, rfl, rfl, rfl, trivial⟩ (by decide) rfl
      refine JE.code ?_
      rcases cond_some hres with ⟨hb, hres⟩ | ⟨hb, hres⟩
      · refine JX.condT rfl hb ?_
        refine JX.seq ?_
        refine JX.region ?_
        refine JL.val (yl_build rfl (fun w => bld26_  w)) rfl ?_
        refine JL.eff (ef_store_box (i := 2) (v := .agg #[.int .i64 0, .int .i64 0, .slice none 0 0]) i26 rfl rfl rfl (i26s).symm (Nat.le_of_ble_eq_true rfl) (by simp [Value.cells, Value.oneCell'])) rfl ?_
        rintro _ _ rfl
        refine JL.val (yl_assign rfl) rfl ?_
        refine JL.nil ?_
        refine JE.weak (env' := [(6, ptrAt (some ⟨g5, 0, none⟩) 0), (7, .int .i64 2)]) (es' := [boxO 26 g5 [.int .i64 0, .int .i64 0, .slice none 0 0]]) [2] ?_ ⟨rfl, rfl, trivial⟩ (by decide) rfl
        refine JE.code ?_
        refine JX.ret ?_
        refine JE.nilrow 2 eI64 ?_
        obtain rfl := Option.some.inj hres
        refine JE.ret (rs := [.cell 6 26, .tmp 7]) (vs := [.agg #[.int .i64 0, .int .i64 0, .slice none 0 0], .int .i64 2]) rfl ⟨rv_box 0 rfl rfl Go.Proofs.Try.underlying26 rfl i26 (i26s).symm, rfl, trivial⟩ ?_
        exact fun w' hb hs => ⟨_, _, ⟨none, 0, 0, rfl, rfl, rfl⟩, rfl, hb, hs.sel [1] _ (by decide) rfl⟩
      · refine JX.condF rfl hb ?_
        refine JX.skip ?_
        refine JE.code ?_
        refine JX.seq ?_
        refine JX.region ?_
        refine JL.val (yl_loadn Go.Proofs.Try.underlying42 rfl i42 rfl (fun w hC => rd_box hC 1 rfl) rfl (i42s).symm i42p) rfl ?_
        obtain ⟨x13, hx13, hres⟩ := bind_some hres
        refine JL.eff (ef_call (vs := [ptrAt (some ⟨g1, 0, none⟩) 0, .agg #[.int .i64 q1.X, .int .i64 q1.Y]]) (T := T124 x13) Go.Proofs.Try.func124 rfl (by kernel_rfl) rfl (fun w hC => c124 (q1 := q1) (RdAt.of0 (rd_box hC 0 rfl)) (rd_arg g_0_2 hC) rfl k_0_2 hx13)) rfl ?_
        rintro _ _ ⟨_, ⟨rfl, rfl⟩, rfl⟩
        refine JL.val (yl_assign rfl) rfl ?_
        refine JL.nil ?_
        refine JE.code ?_
        refine JX.seq ?_
        refine JX.seq ?_
        refine JX.region ?_
        refine JL.val (yl_move rfl) rfl ?_
        refine JL.val (yl_neq rfl rfl) rfl ?_
        refine JL.nil ?_
        refine JE.code ?_
        rcases cond_some hres with ⟨hb, hres⟩ | ⟨hb, hres⟩
        · refine JX.condT rfl hb ?_
          refine JX.seq ?_
          refine JX.region ?_
          refine JL.val (yl_build rfl (fun w => bld26_  w)) rfl ?_
          refine JL.val (yl_move rfl) rfl ?_
          refine JL.eff (ef_store_box (i := 2) (v := .agg #[.int .i64 0, .int .i64 0, .slice none 0 0]) i26 rfl rfl rfl (i26s).symm (Nat.le_of_ble_eq_true rfl) (by simp [Value.cells, Value.oneCell'])) rfl ?_
          rintro _ _ rfl
          refine JL.val (yl_assign rfl) rfl ?_
          refine JL.nil ?_
          refine JE.weak (env' := [(6, ptrAt (some ⟨g5, 0, none⟩) 0), (7, .int .i64 x13)]) (es' := [boxO 26 g5 [.int .i64 0, .int .i64 0, .slice none 0 0]]) [2] ?_ ⟨rfl, rfl, trivial⟩ (by decide) rfl
          refine JE.code ?_
          refine JX.ret ?_
          refine JE.nilrow 2 eI64 ?_
          obtain rfl := Option.some.inj hres
          refine JE.ret (rs := [.cell 6 26, .tmp 7]) (vs := [.agg #[.int .i64 0, .int .i64 0, .slice none 0 0], .int .i64 x13]) rfl ⟨rv_box 0 rfl rfl Go.Proofs.Try.underlying26 rfl i26 (i26s).symm, rfl, trivial⟩ ?_
          exact fun w' hb hs => ⟨_, _, ⟨none, 0, 0, rfl, rfl, rfl⟩, rfl, hb, hs.sel [1] _ (by decide) rfl⟩
        · refine JX.condF rfl hb ?_
          refine JX.skip ?_
          refine JE.code ?_
          refine JX.seq ?_
          refine JX.region ?_
          obtain ⟨x15, hx15, hres⟩ := bind_some hres
          refine JL.eff (ef_call (T := T132 x15) Go.Proofs.Try.func132 rfl (by kernel_rfl) rfl (fun w hC => c132 (RdAt.of0 (rd_box hC 0 rfl)) (rd_arg g_0_2 hC) rfl k_0_2 hx15)) rfl ?_
          rintro _ _ ⟨_, ⟨a16, _, cp17, rfl, rfl, rfl⟩, rfl⟩
          refine JL.eff (ef_alloc i26 i26z rfl) rfl ?_
          rintro _ _ ⟨g19, rfl, rfl⟩
          refine JL.eff (ef_store_box (i := 4) (v := .agg #[.int .i64 x15.W, .int .i64 x15.H, .slice a16 x15.Breaks.length cp17]) i26 rfl rfl rfl (i26s).symm (Nat.le_of_ble_eq_true rfl) (by simp [Value.cells, Value.oneCell'])) rfl ?_
          rintro _ _ rfl
          refine JL.nil ?_
          refine JE.code ?_
          refine JX.seq ?_
          refine JX.drawH [(0, .pure), (1, .read), (2, .read), (4, .pure), (3, .must), (5, .pure), (6, .must)] [6] [3] [0, 1, 2, 4] [rowT 2 eI64 a16 x15.Breaks.length cp17 x15.Breaks] [boxO 26 g1 [.int .i64 q0.W, .int .i64 q0.H, .slice a_0_2 q0.Breaks.length c_0_2], boxO 42 g3 [.int .i64 q1.X, .int .i64 q1.Y], boxO 26 g5 [.int .i64 0, .int .i64 0, .slice none 0 0], boxO 26 g19 [.int .i64 x15.W, .int .i64 x15.H, .slice a16 x15.Breaks.length cp17]] mixedP (by kernel_rfl) (by kernel_rfl) (by decide) rfl rfl ?_
          intro wrr21 Nr21 hFr21
          refine JH.pure rfl (yl_fieldAt (a := some _) Go.Proofs.Try.underlying26 rfl i24 i24n rfl rfl) rfl ?_
          refine JH.read rfl (yl_load1 Go.Proofs.Try.underlying24 rfl rfl (fun w hw => hFr21.box 4 rfl rfl hw) rfl) rfl ?_
          refine JH.read rfl (yl_loadn Go.Proofs.Try.underlying42 rfl i42 rfl (fun w hw => hFr21.box 1 rfl rfl hw) rfl (i42s).symm i42p) rfl ?_
          refine JH.pure rfl (yl_move rfl) rfl ?_
          obtain ⟨x22, hx22, hres⟩ := bind_some hres
          refine JH.must rfl (ef_call (vs := [ptrAt (some ⟨g1, 0, none⟩) 0, .agg #[.int .i64 q1.X, .int .i64 q1.Y]]) (T := T141 x22) Go.Proofs.Try.func141 rfl (by kernel_rfl) rfl (fun w hC => c141 (q1 := q1) (RdAt.of0 (hFr21.box 0 rfl rfl hC.1)) (hFr21.arg g_0_2 hC.1) rfl k_0_2 hx22)) rfl rfl ?_
          rintro _ _ ⟨_, ⟨rfl, rfl⟩, rfl⟩
          obtain ⟨x23, hx23, hres⟩ := bind_some hres
          refine JH.pure rfl (yl_idxQ Go.Proofs.Try.underlying24 i2 i2s rfl rfl hx23 rfl (rd_row hFr21.cl 3 rfl) rfl) rfl ?_
          refine JH.must rfl (ef_storeT (ix := 0) (u := q2) i2 i2s rfl rfl rfl hx23 rfl) rfl rfl ?_
          rintro _ _ rfl
          refine JH.nil ?_
          refine JE.weak (env' := [(6, ptrAt (some ⟨g5, 0, none⟩) 0), (9, ptrAt (some ⟨g19, 0, none⟩) 0)]) (es' := [boxO 26 g5 [.int .i64 0, .int .i64 0, .slice none 0 0], boxO 26 g19 [.int .i64 x15.W, .int .i64 x15.H, .slice a16 x15.Breaks.length cp17], rowT 2 eI64 a16 x15.Breaks.length cp17 (x15.Breaks.set (x22).toNat q2)]) [2, 3, 4] ?_ ⟨rfl, rfl, trivial⟩ (by decide) rfl
          refine JE.code ?_
          refine JX.seq ?_
          refine JX.region ?_
          refine JL.val (yl_loadn Go.Proofs.Try.underlying26 rfl i26 rfl (fun w hC => rd_box hC 1 rfl) rfl (i26s).symm i26p) rfl ?_
          refine JL.eff (ef_store_box (i := 0) (v := .agg #[.int .i64 x15.W, .int .i64 x15.H, .slice a16 x15.Breaks.length cp17]) i26 rfl rfl rfl (i26s).symm (Nat.le_of_ble_eq_true rfl) (by simp [Value.cells, Value.oneCell'])) rfl ?_
          rintro _ _ rfl
          refine JL.val (yl_assign rfl) rfl ?_
          refine JL.nil ?_
          refine JE.weak (env' := [(6, ptrAt (some ⟨g5, 0, none⟩) 0), (7, .int .i64 0)]) (es' := [boxO 26 g5 [.int .i64 x15.W, .int .i64 x15.H, .slice a16 x15.Breaks.length cp17], rowT 2 eI64 a16 x15.Breaks.length cp17 (x15.Breaks.set (x22).toNat q2)]) [0, 2] ?_ ⟨rfl, rfl, trivial⟩ (by decide) rfl
          refine JE.code ?_
          refine JX.ret ?_
          obtain rfl := Option.some.inj hres
          refine JE.ret (rs := [.cell 6 26, .tmp 7]) (vs := [.agg #[.int .i64 x15.W, .int .i64 x15.H, .slice a16 x15.Breaks.length cp17], .int .i64 0]) rfl ⟨rv_box 0 rfl rfl Go.Proofs.Try.underlying26 rfl i26 (i26s).symm, rfl, trivial⟩ ?_
          exact fun w' hb hs => ⟨_, _, ⟨a16, x15.Breaks.length, cp17, List.length_set, rfl, rfl⟩, rfl, hb, hs.sel [1] _ (by decide) rfl⟩
    · intro K
      rcases cond_some hcb10 with ⟨hb, hres⟩ | ⟨hb, hres⟩
      · refine JL.set (d := 15) (v := .bool true) (congrArg (fun b => some (Value.bool b)) hb) ?_
        refine JL.gval rfl rfl (yl_move rfl) rfl ?_
        obtain ⟨x11, hx11, hres⟩ := bind_some hres
        refine JL.geff rfl rfl (ef_call (T := T125 x11) Go.Proofs.Try.func125 rfl (by kernel_rfl) rfl (fun w hC => c125  hx11)) rfl ?_
        rintro _ _ ⟨_, ⟨rfl, rfl⟩, rfl⟩
        refine JL.gval rfl rfl (yl_not rfl) rfl ?_
        refine JL.val (yl_pick_true rfl rfl) rfl ?_
        have he := Option.some.inj hres
        exact JL.weak [0, 1, 2] K ⟨rfl, rfl, rfl, rfl, (by rw [← he]; rfl), trivial⟩ (by decide) rfl
      · refine JL.set (d := 15) (v := .bool false) (congrArg (fun b => some (Value.bool b)) hb) ?_
        refine JL.gskip rfl rfl rfl rfl ?_
        refine JL.gskip rfl rfl rfl rfl ?_
        refine JL.gskip rfl rfl rfl rfl ?_
        refine JL.val (yl_pick_false rfl rfl) rfl ?_
        have he := Option.some.inj hres
        exact JL.weak [0, 1, 2] K ⟨rfl, rfl, rfl, rfl, (by rw [← he]; rfl), trivial⟩ (by decide) rfl
  · intro K
    rcases cond_some hcb8 with ⟨hb, hres⟩ | ⟨hb, hres⟩
    · refine JL.set (d := 11) (v := .bool true) (congrArg (fun b => some (Value.bool b)) hb) ?_
      refine JL.gval rfl rfl (yl_loadn Go.Proofs.Try.underlying42 rfl i42 rfl (fun w hC => rd_box hC 1 rfl) rfl (i42s).symm i42p) rfl ?_
      obtain ⟨x9, hx9, hres⟩ := bind_some hres
      refine JL.geff rfl rfl (ef_call (vs := [ptrAt (some ⟨g1, 0, none⟩) 0, .agg #[.int .i64 q1.X, .int .i64 q1.Y]]) (T := T140 x9) Go.Proofs.Try.func140 rfl (by kernel_rfl) rfl (fun w hC => c140 (q1 := q1) (RdAt.of0 (rd_box hC 0 rfl)) (rd_arg g_0_2 hC) rfl k_0_2 hx9)) rfl ?_
      rintro _ _ ⟨_, ⟨rfl, rfl⟩, rfl⟩
      refine JL.val (yl_pick_true rfl rfl) rfl ?_
      have he := Option.some.inj hres
      exact JL.weak [0, 1, 2] K ⟨rfl, rfl, rfl, rfl, (by rw [← he]; rfl), trivial⟩ (by decide) rfl
    · refine JL.set (d := 11) (v := .bool false) (congrArg (fun b => some (Value.bool b)) hb) ?_
      refine JL.gskip rfl rfl rfl rfl ?_
      refine JL.gskip rfl rfl rfl rfl ?_
      refine JL.val (yl_pick_false rfl rfl) rfl ?_
      have he := Option.some.inj hres
      exact JL.weak [0, 1, 2] K ⟨rfl, rfl, rfl, rfl, (by rw [← he]; rfl), trivial⟩ (by decide) rfl

end Go.Sh
