/- Walks through functions that the law reaches, printed by program. -/
import Derived.Test.YtinipjijgggjkaaF14W0
set_option linter.unusedVariables false
set_option linter.unusedSimpArgs false
namespace Go.Sh
open Go Go.RowKit
/- spec.SmoothStroke -/
def sh69_1 (q0 : List SPoint) : (Int × List SPoint) → Option ((Int × List SPoint) ⊕ (List SPoint))
  | (x7, x8) => bif decide (x7 < (q0.length : Int)) then (bif (x7 == 0) || (x7 == (w64 ((q0.length : Int) - 1))) then (Option.bind (getI q0 x7) fun x11 => Option.bind (appL x8 [x11]) fun x14 => some (.inl (w64 (x7 + 1), x14))) else (Option.bind (getI q0 (w64 (x7 - 1))) fun x17 => Option.bind (getI q0 x7) fun x20 => Option.bind (getI q0 (w64 (x7 + 1))) fun x23 => Option.bind (appL x8 [SPoint.mk (w64 ((w64 ((w64 (x17.X + (w64 (2 * x20.X)))) + x23.X)).tdiv 4)) (w64 ((w64 ((w64 (x17.Y + (w64 (2 * x20.Y)))) + x23.Y)).tdiv 4))]) fun x28 => some (.inl (w64 (x7 + 1), x28)))) else (some (.inr x8))
def sh69 (q0 : List SPoint) : Option (List SPoint × Int) := Option.bind (sh121 q0) fun x1 => bif !x1 then (some (([] : List SPoint), 1)) else (Option.bind (iter (sh69_1 q0) (0, ([] : List SPoint))) fun b1 => (some (b1, 0)))
def T69 (r : List SPoint × Int) (v : Value) (rs : List Own) : Prop := ∃ (a0 : Option Addr) (n0 c0 : Nat), r.1.length = n0 ∧ v = rets [.slice a0 n0 c0, .int .i64 r.2] ∧ rs = [rowT 35 eSPoint a0 n0 c0 r.1]
set_option maxRecDepth 100000 in
theorem c69 {w : World} {q0 : List SPoint} {a_0 : Option Addr} {n_0 c_0 : Nat} (g_0 : Rd w a_0 (eSPoint.fl q0)) (l_0 : q0.length = n_0) (k_0 : n_0 ≤ c_0) {r : List SPoint × Int} (hres : sh69 q0 = some r) : Calls Go.Proofs.Try.prog 69 [.slice a_0 n_0 c_0].toArray w (Ret w (T69 r)) := by
  subst l_0
  unfold sh69 at hres
  refine calls_of (n := 74) (M := []) (es := []) Go.Proofs.Try.func69 rfl rfl rfl (Sep.nil _ _ _) ?_
  refine JX.seq ?_
  refine JX.region ?_
  refine JL.val (yl_assign rfl) rfl ?_
  refine JL.val (yl_assign rfl) rfl ?_
  refine JL.nil ?_
  refine JE.code ?_
  refine JX.seq ?_
  refine JX.seq ?_
  refine JX.region ?_
  refine JL.val (yl_move rfl) rfl ?_
  obtain ⟨x1, hx1, hres⟩ := bind_some hres
  refine JL.eff (ef_call (T := T121 x1) Go.Proofs.Try.func121 rfl (by kernel_rfl) rfl (fun w hC => c121 (rd_arg g_0 hC) rfl k_0 hx1)) rfl ?_
  rintro _ _ ⟨_, ⟨rfl, rfl⟩, rfl⟩
  refine JL.val (yl_not rfl) rfl ?_
  refine JL.nil ?_
  refine JE.code ?_
  rcases cond_some hres with ⟨hb, hres⟩ | ⟨hb, hres⟩
  · refine JX.condT rfl hb ?_
    refine JX.seq ?_
    refine JX.region ?_
    refine JL.val (yl_assign rfl) rfl ?_
    refine JL.val (yl_assign rfl) rfl ?_
    refine JL.nil ?_
    refine JE.code ?_
    refine JX.ret ?_
    refine JE.nilrow 35 eSPoint ?_
    obtain rfl := Option.some.inj hres
    refine JE.ret (rs := [.tmp 2, .tmp 3]) (vs := [.slice none 0 0, .int .i64 1]) rfl ⟨rfl, rfl, trivial⟩ ?_
    exact fun w' hb hs => ⟨_, _, ⟨none, 0, 0, rfl, rfl, rfl⟩, rfl, hb, hs.sel [0] _ (by decide) rfl⟩
  · refine JX.condF rfl hb ?_
    refine JX.skip ?_
    refine JE.code ?_
    refine JX.seq ?_
    refine JX.region ?_
    refine JL.eff (ef_buildSlice (E := 35) (k := eSPoint.k) (us := eSPoint.fl ([] : List SPoint)) rfl (fun w => bsl61_0  w) rfl (by decide)) rfl ?_
    rintro _ _ ⟨a3, rfl, rfl⟩
    refine JL.val (yl_assign rfl) rfl ?_
    refine JL.nil ?_
    refine JE.code ?_
    refine JX.seq ?_
    refine JX.seq ?_
    refine JX.region ?_
    refine JL.val (yl_assign rfl) rfl ?_
    refine JL.nil ?_
    refine JE.code ?_
    refine JX.block ?_
    obtain ⟨y1, hy1, hresO1⟩ := bind_some hres
    refine JX.loop (I := fun (s1 : Int × List SPoint) aa ww => ∃ (a5 : Option Addr) (cp6 : Nat), St w [] 74 [(0, .slice a_0 q0.length c_0), (4, .slice a5 s1.2.length cp6), (5, .int .i64 s1.1)] [rowT 35 eSPoint a5 s1.2.length cp6 s1.2] aa ww) (sh69_1 q0) hy1 (fun a w h => ⟨a3, 0, h.weak ⟨rfl, rfl, rfl, trivial⟩ [0] (by decide) rfl⟩) ?_
    rintro ⟨x7, x8⟩ o1 hres hox1 aa ww ⟨a9, cp10, hS⟩
    refine (?_ : JX Go.Proofs.Try.prog w [] 74 _ _ [(0, .slice a_0 q0.length c_0), (4, .slice a9 x8.length cp10), (5, .int .i64 x7)] [rowT 35 eSPoint a9 x8.length cp10 x8] _) aa ww hS
    clear hS
    simp only [sh69_1] at hres
    refine JX.seq ?_
    refine JX.seq ?_
    refine JX.region ?_
    refine JL.val (yl_move rfl) rfl ?_
    refine JL.val (yl_move rfl) rfl ?_
    refine JL.val (yl_len_slice Go.Proofs.Try.underlying61 rfl) rfl ?_
    refine JL.val (yl_lss rfl rfl) rfl ?_
    refine JL.nil ?_
    refine JE.weak (env' := [(0, .slice a_0 q0.length c_0), (4, .slice a9 x8.length cp10), (5, .int .i64 x7), (16, .bool (decide (x7 < (q0.length : Int))))]) (es' := [rowT 35 eSPoint a9 x8.length cp10 x8]) [0] ?_ ⟨rfl, rfl, rfl, rfl, trivial⟩ (by decide) rfl
    refine JE.code ?_
    rcases cond_some hres with ⟨hb, hres⟩ | ⟨hb, hres⟩
    · refine JX.condT rfl hb ?_
      refine JX.skip ?_
      refine JE.code ?_
      refine JX.seq ?_
      refine JX.block ?_
      refine JX.seq ?_
      refine JX.seq ?_
      refine JX.region ?_
      refine JL.val (yl_move rfl) rfl ?_
      refine JL.val (yl_eql rfl rfl) rfl ?_
      refine JL.val (yl_move rfl) rfl ?_
      refine JL.cut (K := fun J => J [(0, .slice a_0 q0.length c_0), (4, .slice a9 x8.length cp10), (5, .int .i64 x7), (27, .bool ((x7 == 0) || (x7 == (w64 ((q0.length : Int) - 1)))))] [rowT 35 eSPoint a9 x8.length cp10 x8]) 6 ?_ ?_
      · refine JL.nil ?_
        refine JE.weak (env' := [(0, .slice a_0 q0.length c_0), (4, .slice a9 x8.length cp10), (5, .int .i64 x7), (27, .bool ((x7 == 0) || (x7 == (w64 ((q0.length : Int) - 1)))))]) (es' := [rowT 35 eSPoint a9 x8.length cp10 x8]) [0] ?_ ⟨rfl, rfl, rfl, rfl, trivial⟩ (by decide) rfl
        refine JE.code ?_
        rcases cond_some hres with ⟨hb, hres⟩ | ⟨hb, hres⟩
        · refine JX.condT rfl hb ?_
          refine JX.seq ?_
          refine JX.region ?_
          refine JL.val (yl_move rfl) rfl ?_
          refine JL.val (yl_move rfl) rfl ?_
          refine JL.val (yl_move rfl) rfl ?_
          obtain ⟨x11, hx11, hres⟩ := bind_some hres
          refine JL.val (yl_idxT Go.Proofs.Try.underlying61 i35 i35s rfl rfl hx11 rfl (fun w hC => rd_arg g_0 hC)) rfl ?_
          refine JL.val (yl_loadTn Go.Proofs.Try.underlying35 rfl i35 i35s rfl hx11 (fun w hC => rd_arg g_0 hC)) rfl ?_
          refine JL.eff (ef_buildSlice (E := 35) (k := eSPoint.k) (us := eSPoint.fl [x11]) rfl (fun w => bsl61_1 x11.X x11.Y w) rfl (by decide)) rfl ?_
          rintro _ _ ⟨a12, rfl, rfl⟩
          obtain ⟨x14, hx14, hres⟩ := bind_some hres
          refine JL.eff (ef_appendT (ix := 0) Go.Proofs.Try.underlying61 i35 i35z i35s rfl i35b0 i35b1 rfl rfl rfl rfl rfl (fun w hC => rd_row hC 1 rfl) hx14) rfl ?_
          rintro _ _ ⟨a15, cp16, rfl, rfl⟩
          refine JL.val (yl_assign rfl) rfl ?_
          refine JL.nil ?_
          refine JE.weak (env' := [(0, .slice a_0 q0.length c_0), (4, .slice a15 x14.length cp16), (5, .int .i64 x7)]) (es' := [rowT 35 eSPoint a15 x14.length cp16 x14]) [0] ?_ ⟨rfl, rfl, rfl, trivial⟩ (by decide) rfl
          refine JE.code ?_
          refine JX.exit ?_
          refine JE.qb rfl ?_
          refine JE.code ?_
          refine JX.region ?_
          refine JL.val (yl_move rfl) rfl ?_
          refine JL.val (yl_add rfl rfl) rfl ?_
          refine JL.val (yl_assign rfl) rfl ?_
          refine JL.nil ?_
          refine JE.cont hres ?_
          exact fun a w h => ⟨a15, cp16, h.weak ⟨rfl, rfl, rfl, trivial⟩ [0] (by decide) rfl⟩
        · refine JX.condF rfl hb ?_
          refine JX.skip ?_
          refine JE.code ?_
          refine JX.seq ?_
          refine JX.region ?_
          refine JL.val (yl_move rfl) rfl ?_
          refine JL.val (yl_move rfl) rfl ?_
          refine JL.val (yl_sub rfl rfl) rfl ?_
          obtain ⟨x17, hx17, hres⟩ := bind_some hres
          refine JL.val (yl_idxT Go.Proofs.Try.underlying61 i35 i35s rfl rfl hx17 rfl (fun w hC => rd_arg g_0 hC)) rfl ?_
          refine JL.val (yl_loadTn Go.Proofs.Try.underlying35 rfl i35 i35s rfl hx17 (fun w hC => rd_arg g_0 hC)) rfl ?_
          refine JL.eff (ef_alloc i35 i35z rfl) rfl ?_
          rintro _ _ ⟨g18, rfl, rfl⟩
          refine JL.eff (ef_store_box (i := 1) (v := .agg #[.int .i64 x17.X, .int .i64 x17.Y]) i35 rfl rfl rfl (i35s).symm (Nat.le_of_ble_eq_true rfl) (by simp [Value.cells, Value.oneCell'])) rfl ?_
          rintro _ _ rfl
          refine JL.nil ?_
          refine JE.weak (env' := [(0, .slice a_0 q0.length c_0), (4, .slice a9 x8.length cp10), (5, .int .i64 x7), (6, ptrAt (some ⟨g18, 0, none⟩) 0)]) (es' := [rowT 35 eSPoint a9 x8.length cp10 x8, boxO 35 g18 [.int .i64 x17.X, .int .i64 x17.Y]]) [0, 1] ?_ ⟨rfl, rfl, rfl, rfl, trivial⟩ (by decide) rfl
          refine JE.code ?_
          refine JX.seq ?_
          refine JX.region ?_
          refine JL.val (yl_move rfl) rfl ?_
          refine JL.val (yl_move rfl) rfl ?_
          obtain ⟨x20, hx20, hres⟩ := bind_some hres
          refine JL.val (yl_idxT Go.Proofs.Try.underlying61 i35 i35s rfl rfl hx20 rfl (fun w hC => rd_arg g_0 hC)) rfl ?_
          refine JL.val (yl_loadTn Go.Proofs.Try.underlying35 rfl i35 i35s rfl hx20 (fun w hC => rd_arg g_0 hC)) rfl ?_
          refine JL.eff (ef_alloc i35 i35z rfl) rfl ?_
          rintro _ _ ⟨g21, rfl, rfl⟩
          refine JL.eff (ef_store_box (i := 2) (v := .agg #[.int .i64 x20.X, .int .i64 x20.Y]) i35 rfl rfl rfl (i35s).symm (Nat.le_of_ble_eq_true rfl) (by simp [Value.cells, Value.oneCell'])) rfl ?_
          rintro _ _ rfl
          refine JL.nil ?_
          refine JE.weak (env' := [(0, .slice a_0 q0.length c_0), (4, .slice a9 x8.length cp10), (5, .int .i64 x7), (6, ptrAt (some ⟨g18, 0, none⟩) 0), (7, ptrAt (some ⟨g21, 0, none⟩) 0)]) (es' := [rowT 35 eSPoint a9 x8.length cp10 x8, boxO 35 g18 [.int .i64 x17.X, .int .i64 x17.Y], boxO 35 g21 [.int .i64 x20.X, .int .i64 x20.Y]]) [0, 1, 2] ?_ ⟨rfl, rfl, rfl, rfl, rfl, trivial⟩ (by decide) rfl
          refine JE.code ?_
          refine JX.seq ?_
          refine JX.region ?_
          refine JL.val (yl_move rfl) rfl ?_
          refine JL.val (yl_move rfl) rfl ?_
          refine JL.val (yl_add rfl rfl) rfl ?_
          obtain ⟨x23, hx23, hres⟩ := bind_some hres
          refine JL.val (yl_idxT Go.Proofs.Try.underlying61 i35 i35s rfl rfl hx23 rfl (fun w hC => rd_arg g_0 hC)) rfl ?_
          refine JL.val (yl_loadTn Go.Proofs.Try.underlying35 rfl i35 i35s rfl hx23 (fun w hC => rd_arg g_0 hC)) rfl ?_
          refine JL.eff (ef_alloc i35 i35z rfl) rfl ?_
          rintro _ _ ⟨g24, rfl, rfl⟩
          refine JL.eff (ef_store_box (i := 3) (v := .agg #[.int .i64 x23.X, .int .i64 x23.Y]) i35 rfl rfl rfl (i35s).symm (Nat.le_of_ble_eq_true rfl) (by simp [Value.cells, Value.oneCell'])) rfl ?_
          rintro _ _ rfl
          refine JL.nil ?_
          refine JE.weak (env' := [(0, .slice a_0 q0.length c_0), (4, .slice a9 x8.length cp10), (5, .int .i64 x7), (6, ptrAt (some ⟨g18, 0, none⟩) 0), (7, ptrAt (some ⟨g21, 0, none⟩) 0), (8, ptrAt (some ⟨g24, 0, none⟩) 0)]) (es' := [rowT 35 eSPoint a9 x8.length cp10 x8, boxO 35 g18 [.int .i64 x17.X, .int .i64 x17.Y], boxO 35 g21 [.int .i64 x20.X, .int .i64 x20.Y], boxO 35 g24 [.int .i64 x23.X, .int .i64 x23.Y]]) [0, 1, 2, 3] ?_ ⟨rfl, rfl, rfl, rfl, rfl, rfl, trivial⟩ (by decide) rfl
          refine JE.code ?_
          refine JX.region ?_
          refine JL.val (yl_move rfl) rfl ?_
          refine JL.val (yl_fieldAt (a := some _) Go.Proofs.Try.underlying35 rfl i2 i2n rfl rfl) rfl ?_
          refine JL.val (yl_load1 Go.Proofs.Try.underlying2 rfl rfl (fun w hC => rd_box hC 1 rfl) rfl) rfl ?_
          refine JL.val (yl_fieldAt (a := some _) Go.Proofs.Try.underlying35 rfl i2 i2n rfl rfl) rfl ?_
          refine JL.val (yl_load1 Go.Proofs.Try.underlying2 rfl rfl (fun w hC => rd_box hC 2 rfl) rfl) rfl ?_
          refine JL.val (yl_mul rfl rfl) rfl ?_
          refine JL.val (yl_add rfl rfl) rfl ?_
          refine JL.val (yl_fieldAt (a := some _) Go.Proofs.Try.underlying35 rfl i2 i2n rfl rfl) rfl ?_
          refine JL.val (yl_load1 Go.Proofs.Try.underlying2 rfl rfl (fun w hC => rd_box hC 3 rfl) rfl) rfl ?_
          refine JL.val (yl_add rfl rfl) rfl ?_
          refine JL.val (yl_quo rfl rfl (by decide)) rfl ?_
          refine JL.val (yl_fieldAt (a := some _) Go.Proofs.Try.underlying35 rfl i2 i2n rfl rfl) rfl ?_
          refine JL.val (yl_load1 Go.Proofs.Try.underlying2 rfl rfl (fun w hC => rd_box hC 1 rfl) rfl) rfl ?_
          refine JL.val (yl_fieldAt (a := some _) Go.Proofs.Try.underlying35 rfl i2 i2n rfl rfl) rfl ?_
          refine JL.val (yl_load1 Go.Proofs.Try.underlying2 rfl rfl (fun w hC => rd_box hC 2 rfl) rfl) rfl ?_
          refine JL.val (yl_mul rfl rfl) rfl ?_
          refine JL.val (yl_add rfl rfl) rfl ?_
          refine JL.val (yl_fieldAt (a := some _) Go.Proofs.Try.underlying35 rfl i2 i2n rfl rfl) rfl ?_
          refine JL.val (yl_load1 Go.Proofs.Try.underlying2 rfl rfl (fun w hC => rd_box hC 3 rfl) rfl) rfl ?_
          refine JL.val (yl_add rfl rfl) rfl ?_
          refine JL.val (yl_quo rfl rfl (by decide)) rfl ?_
          refine JL.val (yl_build rfl (fun w => bld35_0_1 (w64 ((w64 ((w64 (x17.X + (w64 (2 * x20.X)))) + x23.X)).tdiv 4)) (w64 ((w64 ((w64 (x17.Y + (w64 (2 * x20.Y)))) + x23.Y)).tdiv 4)) w)) rfl ?_
          refine JL.eff (ef_buildSlice (E := 35) (k := eSPoint.k) (us := eSPoint.fl [SPoint.mk (w64 ((w64 ((w64 (x17.X + (w64 (2 * x20.X)))) + x23.X)).tdiv 4)) (w64 ((w64 ((w64 (x17.Y + (w64 (2 * x20.Y)))) + x23.Y)).tdiv 4))]) rfl (fun w => bsl61_1 (w64 ((w64 ((w64 (x17.X + (w64 (2 * x20.X)))) + x23.X)).tdiv 4)) (w64 ((w64 ((w64 (x17.Y + (w64 (2 * x20.Y)))) + x23.Y)).tdiv 4)) w) rfl (by decide)) rfl ?_
          rintro _ _ ⟨a26, rfl, rfl⟩
          obtain ⟨x28, hx28, hres⟩ := bind_some hres
          refine JL.eff (ef_appendT (ix := 0) Go.Proofs.Try.underlying61 i35 i35z i35s rfl i35b0 i35b1 rfl rfl rfl rfl rfl (fun w hC => rd_row hC 4 rfl) hx28) rfl ?_
          rintro _ _ ⟨a29, cp30, rfl, rfl⟩
          refine JL.val (yl_assign rfl) rfl ?_
          refine JL.nil ?_
          refine JE.weak (env' := [(0, .slice a_0 q0.length c_0), (4, .slice a29 x28.length cp30), (5, .int .i64 x7)]) (es' := [rowT 35 eSPoint a29 x28.length cp30 x28]) [0] ?_ ⟨rfl, rfl, rfl, trivial⟩ (by decide) rfl
          refine JE.code ?_
          refine JX.region ?_
          refine JL.val (yl_move rfl) rfl ?_
          refine JL.val (yl_add rfl rfl) rfl ?_
          refine JL.val (yl_assign rfl) rfl ?_
          refine JL.nil ?_
          refine JE.cont hres ?_
          exact fun a w h => ⟨a29, cp30, h.weak ⟨rfl, rfl, rfl, trivial⟩ [0] (by decide) rfl⟩
      · intro K
        rcases Bool.eq_false_or_eq_true (x7 == 0) with hb | hb
        · refine JL.set (d := 21) (v := .bool true) (congrArg (fun b => some (Value.bool b)) hb) ?_
          refine JL.gskip rfl rfl rfl rfl ?_
          refine JL.gskip rfl rfl rfl rfl ?_
          refine JL.gskip rfl rfl rfl rfl ?_
          refine JL.gskip rfl rfl rfl rfl ?_
          refine JL.gskip rfl rfl rfl rfl ?_
          refine JL.val (yl_pick_true rfl rfl) rfl ?_
          exact JL.weak [0] K ⟨rfl, rfl, rfl, (by rw [hb]; rfl), trivial⟩ (by decide) rfl
        · refine JL.set (d := 21) (v := .bool false) (congrArg (fun b => some (Value.bool b)) hb) ?_
          refine JL.gval rfl rfl (yl_move rfl) rfl ?_
          refine JL.gval rfl rfl (yl_move rfl) rfl ?_
          refine JL.gval rfl rfl (yl_len_slice Go.Proofs.Try.underlying61 rfl) rfl ?_
          refine JL.gval rfl rfl (yl_sub rfl rfl) rfl ?_
          refine JL.gval rfl rfl (yl_eql rfl rfl) rfl ?_
          refine JL.val (yl_pick_false rfl rfl) rfl ?_
          exact JL.weak [0] K ⟨rfl, rfl, rfl, (by rw [hb]; rfl), trivial⟩ (by decide) rfl
    · refine JX.condF rfl hb ?_
      refine JX.exit ?_
      refine JE.qb rfl ?_
      obtain ⟨b1, hb1⟩ : ∃ b : List SPoint, b = x8 := ⟨_, rfl⟩
      have hy1 : b1 = y1 := by rw [hb1]; exact hox1 _ (Option.some.inj hres).symm
      have hres := hresO1
      rw [← hy1] at hres
      refine JE.weak (env' := [(4, .slice a9 b1.length cp10)]) (es' := [rowT 35 eSPoint a9 b1.length cp10 b1]) [0] ?_ ⟨(by subst hb1; rfl), trivial⟩ (by decide) (by subst hb1; rfl)
      refine JE.code ?_
      refine JX.seq ?_
      refine JX.region ?_
      refine JL.val (yl_move rfl) rfl ?_
      refine JL.val (yl_assign rfl) rfl ?_
      refine JL.val (yl_assign rfl) rfl ?_
      refine JL.nil ?_
      refine JE.code ?_
      refine JX.ret ?_
      obtain rfl := Option.some.inj hres
      refine JE.ret (rs := [.tmp 2, .tmp 3]) (vs := [.slice a9 b1.length cp10, .int .i64 0]) rfl ⟨rfl, rfl, trivial⟩ ?_
      exact fun w' hb hs => ⟨_, _, ⟨a9, b1.length, cp10, rfl, rfl, rfl⟩, rfl, hb, hs.sel [0] _ (by decide) rfl⟩

/- spec.l02Inner -/
def sh144 (q0 : Int) (q1 : Int) : Option (Int) := some (w64 ((w64 (q0 * (w64 (q1 - 1)))) + (w64 (q1 * (w64 (q0 - 1))))))
def T144 (r : Int) (v : Value) (rs : List Own) : Prop := v = rets [.int .i64 r] ∧ rs = []
set_option maxRecDepth 100000 in
theorem c144 {w : World} {q0 : Int} {q1 : Int} {r : Int} (hres : sh144 q0 q1 = some r) : Calls Go.Proofs.Try.prog 144 [.int .i64 q0, .int .i64 q1].toArray w (Ret w (T144 r)) := by
  unfold sh144 at hres
  refine calls_of (n := 14) (M := []) (es := []) Go.Proofs.Try.func144 rfl rfl rfl (Sep.nil _ _ _) ?_
  refine JX.seq ?_
  refine JX.region ?_
  refine JL.val (yl_assign rfl) rfl ?_
  refine JL.nil ?_
  refine JE.code ?_
  refine JX.seq ?_
  refine JX.region ?_
  refine JL.val (yl_move rfl) rfl ?_
  refine JL.val (yl_move rfl) rfl ?_
  refine JL.val (yl_sub rfl rfl) rfl ?_
  refine JL.val (yl_mul rfl rfl) rfl ?_
  refine JL.val (yl_move rfl) rfl ?_
  refine JL.val (yl_move rfl) rfl ?_
  refine JL.val (yl_sub rfl rfl) rfl ?_
  refine JL.val (yl_mul rfl rfl) rfl ?_
  refine JL.val (yl_add rfl rfl) rfl ?_
  refine JL.val (yl_assign rfl) rfl ?_
  refine JL.nil ?_
  refine JE.weak (env' := [(4, .int .i64 (w64 ((w64 (q0 * (w64 (q1 - 1)))) + (w64 (q1 * (w64 (q0 - 1)))))))]) (es' := []) [] ?_ ⟨rfl, trivial⟩ (by decide) rfl
  refine JE.code ?_
  refine JX.ret ?_
  obtain rfl := Option.some.inj hres
  refine JE.ret (rs := [.tmp 4]) (vs := [.int .i64 (w64 ((w64 (q0 * (w64 (q1 - 1)))) + (w64 (q1 * (w64 (q0 - 1))))))]) rfl ⟨rfl, trivial⟩ ?_
  exact fun w' hb hs => ⟨_, _, ⟨rfl, rfl⟩, rfl, hb, hs.sel [] _ (by decide) rfl⟩

/- spec.l02New -/
def sh163 (q0 : Int) (q1 : Int) : Option (SPanel) := Option.bind (sh144 q0 q1) fun x3 => Option.bind (mkL x3 0) fun x4 => some (SPanel.mk q0 q1 x4)
def T163 (r : SPanel) (v : Value) (rs : List Own) : Prop := ∃ (a0_2 : Option Addr) (n0_2 c0_2 : Nat), r.Breaks.length = n0_2 ∧ v = rets [.agg #[.int .i64 r.W, .int .i64 r.H, .slice a0_2 n0_2 c0_2]] ∧ rs = [rowT 2 eI64 a0_2 n0_2 c0_2 r.Breaks]
set_option maxRecDepth 100000 in
theorem c163 {w : World} {q0 : Int} {q1 : Int} {r : SPanel} (hres : sh163 q0 q1 = some r) : Calls Go.Proofs.Try.prog 163 [.int .i64 q0, .int .i64 q1].toArray w (Ret w (T163 r)) := by
  unfold sh163 at hres
  refine calls_of (n := 12) (M := []) (es := []) Go.Proofs.Try.func163 rfl rfl rfl (Sep.nil _ _ _) ?_
  refine JX.seq ?_
  refine JX.region ?_
  refine JL.eff (ef_alloc i28 i28z rfl) rfl ?_
  rintro _ _ ⟨g1, rfl, rfl⟩
  refine JL.nil ?_
  refine JE.code ?_
  refine JX.seq ?_
  refine JX.region ?_
  refine JL.val (yl_move rfl) rfl ?_
  refine JL.val (yl_move rfl) rfl ?_
  refine JL.val (yl_move rfl) rfl ?_
  refine JL.val (yl_move rfl) rfl ?_
  obtain ⟨x3, hx3, hres⟩ := bind_some hres
  refine JL.eff (ef_call (T := T144 x3) Go.Proofs.Try.func144 rfl (by kernel_rfl) rfl (fun w hC => c144  hx3)) rfl ?_
  rintro _ _ ⟨_, ⟨rfl, rfl⟩, rfl⟩
  obtain ⟨x4, hx4, hres⟩ := bind_some hres
  refine JL.eff (ef_makeS (e := eI64) Go.Proofs.Try.underlying22 i2 i2s i2z rfl i2b1 rfl rfl hx4) rfl ?_
  rintro _ _ ⟨a5, rfl, rfl⟩
  refine JL.val (yl_build rfl (fun w => bld28_0_1_2 q0 q1 a5 x4.length x4.length w)) rfl ?_
  refine JL.eff (ef_store_box (i := 0) (v := .agg #[.int .i64 q0, .int .i64 q1, .slice a5 x4.length x4.length]) i28 rfl rfl rfl (i28s).symm (Nat.le_of_ble_eq_true rfl) (by simp [Value.cells, Value.oneCell'])) rfl ?_
  rintro _ _ rfl
  refine JL.nil ?_
  refine JE.weak (env' := [(4, ptrAt (some ⟨g1, 0, none⟩) 0)]) (es' := [boxO 28 g1 [.int .i64 q0, .int .i64 q1, .slice a5 x4.length x4.length], rowT 2 eI64 a5 x4.length x4.length x4]) [0, 1] ?_ ⟨rfl, trivial⟩ (by decide) rfl
  refine JE.code ?_
  refine JX.ret ?_
  obtain rfl := Option.some.inj hres
  refine JE.ret (rs := [.cell 4 28]) (vs := [.agg #[.int .i64 q0, .int .i64 q1, .slice a5 x4.length x4.length]]) rfl ⟨rv_box 0 rfl rfl Go.Proofs.Try.underlying28 rfl i28 (i28s).symm, trivial⟩ ?_
  exact fun w' hb hs => ⟨_, _, ⟨a5, x4.length, x4.length, rfl, rfl, rfl⟩, rfl, hb, hs.sel [1] _ (by decide) rfl⟩

/- spec.l02Draw -/
def sh162_1 (q0 : Sl00Src) (x5 : SPanel) (x11 : Int × Int × Int) : (Int × (Int × Int) × List Int) → Option ((Int × (Int × Int) × List Int) ⊕ ((Int × Int) × List Int))
  | (x13, x14, x15) => bif decide (x13 < ((x5.Breaks.length : Nat) : Int)) then (Option.bind (sh113 (Sl00Src.mk q0.code x14.1 x14.2) 4) fun x17 => Option.bind (bif decide (x17.1 < x11.1) then (Option.bind (sh113 (Sl00Src.mk q0.code x17.2.1 x17.2.2) 2) fun x21 => Option.bind (getI x15 x13) fun x22 => some ((x21.2.1, x21.2.2), x15.set (x13).toNat (w64 (1 + x21.1)))) else (some ((x17.2.1, x17.2.2), x15))) fun j18 => (some (.inl (w64 (x13 + 1), (j18.1.1, j18.1.2), j18.2)))) else (some (.inr ((x14.1, x14.2), x15)))
def sh162 (q0 : Sl00Src) (q1 : Int) : Option (SPanel × Int × Int) := Option.bind (sh113 q0 q1) fun x3 => Option.bind (sh113 (Sl00Src.mk q0.code x3.2.1 x3.2.2) q1) fun x4 => Option.bind (sh163 (w64 (1 + x3.1)) (w64 (1 + x4.1))) fun x5 => Option.bind (sh113 (Sl00Src.mk q0.code x4.2.1 x4.2.2) 4) fun x11 => Option.bind (iter (sh162_1 q0 x5 x11) (0, (x11.2.1, x11.2.2), x5.Breaks)) fun b1 => (some (SPanel.mk x5.W x5.H b1.2, b1.1.1, b1.1.2))
def T162 (gb_0 : Nat) (a_0_0 : Option Addr) (n_0_0 c_0_0 : Nat) (r : SPanel × Int × Int) (v : Value) (es' rs : List Own) : Prop := es' = [boxO 162 gb_0 [.slice a_0_0 n_0_0 c_0_0, .int .i64 r.2.1, .int .u64 r.2.2]] ∧ ∃ (a0_2 : Option Addr) (n0_2 c0_2 : Nat), r.1.Breaks.length = n0_2 ∧ v = rets [.agg #[.int .i64 r.1.W, .int .i64 r.1.H, .slice a0_2 n0_2 c0_2]] ∧ rs = [rowT 2 eI64 a0_2 n0_2 c0_2 r.1.Breaks]
set_option maxRecDepth 100000 in
theorem c162 {w : World} {M : List Nat} {q0 : Sl00Src} {gb_0 : Nat} {a_0_0 : Option Addr} {n_0_0 c_0_0 : Nat} (g_0_0 : RdS M w a_0_0 (eU8.fl q0.code)) (l_0_0 : q0.code.length = n_0_0) (k_0_0 : n_0_0 ≤ c_0_0) {q1 : Int} (gs : Sep w.heap.size M w [boxO 162 gb_0 [.slice a_0_0 n_0_0 c_0_0, .int .i64 q0.at_, .int .u64 q0.seed]]) {r : SPanel × Int × Int} (hres : sh162 q0 q1 = some r) : Calls Go.Proofs.Try.prog 162 [ptrAt (some ⟨gb_0, 0, none⟩) 0, .int .i64 q1].toArray w (RetMs w M (T162 gb_0 a_0_0 n_0_0 c_0_0 r)) := by
  subst l_0_0
  unfold sh162 at hres
  refine calls_of (n := 40) (M := M) (es := [boxO 162 gb_0 [.slice a_0_0 q0.code.length c_0_0, .int .i64 q0.at_, .int .u64 q0.seed]]) Go.Proofs.Try.func162 rfl rfl rfl gs ?_
  refine JX.seq ?_
  refine JX.region ?_
  refine JL.eff (ef_alloc i28 i28z rfl) rfl ?_
  rintro _ _ ⟨g1, rfl, rfl⟩
  refine JL.nil ?_
  refine JE.code ?_
  refine JX.seq ?_
  refine JX.region ?_
  refine JL.val (yl_move rfl) rfl ?_
  refine JL.val (yl_move rfl) rfl ?_
  obtain ⟨x3, hx3, hres⟩ := bind_some hres
  refine JL.eff (ef_callms (caps := []) (vs := [ptrAt (some ⟨gb_0, 0, none⟩) 0, .int .i64 q1]) (T := T113 gb_0 a_0_0 q0.code.length c_0_0 x3) [0] [1] [boxO 162 gb_0 [.slice a_0_0 q0.code.length c_0_0, .int .i64 q0.at_, .int .u64 q0.seed]] [boxO 28 g1 [.int .i64 0, .int .i64 0, .slice none 0 0]] rfl Go.Proofs.Try.func113 rfl (by kernel_rfl) rfl (by decide) rfl rfl (fun w N hF hS => c113 (q0 := q0) (RdS.pass hF g_0_0) rfl k_0_0 hS hx3)) rfl ?_
  rintro _ _ ⟨_, _, ⟨rfl, rfl, rfl⟩, rfl⟩
  refine JL.val (yl_add rfl rfl) rfl ?_
  refine JL.val (yl_assign rfl) rfl ?_
  refine JL.nil ?_
  refine JE.weak (env' := [(0, ptrAt (some ⟨gb_0, 0, none⟩) 0), (1, .int .i64 q1), (4, ptrAt (some ⟨g1, 0, none⟩) 0), (5, .int .i64 (w64 (1 + x3.1)))]) (es' := [boxO 162 gb_0 [.slice a_0_0 q0.code.length c_0_0, .int .i64 x3.2.1, .int .u64 x3.2.2], boxO 28 g1 [.int .i64 0, .int .i64 0, .slice none 0 0]]) [1, 0] ?_ ⟨rfl, rfl, rfl, rfl, trivial⟩ (by decide) rfl
  refine JE.code ?_
  refine JX.seq ?_
  refine JX.region ?_
  refine JL.val (yl_move rfl) rfl ?_
  refine JL.val (yl_move rfl) rfl ?_
  refine JL.val (yl_move rfl) rfl ?_
  obtain ⟨x4, hx4, hres⟩ := bind_some hres
  refine JL.eff (ef_callms (caps := []) (vs := [ptrAt (some ⟨gb_0, 0, none⟩) 0, .int .i64 q1]) (T := T113 gb_0 a_0_0 q0.code.length c_0_0 x4) [0] [1] [boxO 162 gb_0 [.slice a_0_0 q0.code.length c_0_0, .int .i64 x3.2.1, .int .u64 x3.2.2]] [boxO 28 g1 [.int .i64 0, .int .i64 0, .slice none 0 0]] rfl Go.Proofs.Try.func113 rfl (by kernel_rfl) rfl (by decide) rfl rfl (fun w N hF hS => c113 (q0 := Sl00Src.mk q0.code x3.2.1 x3.2.2) (RdS.pass hF g_0_0) rfl k_0_0 hS hx4)) rfl ?_
  rintro _ _ ⟨_, _, ⟨rfl, rfl, rfl⟩, rfl⟩
  refine JL.val (yl_add rfl rfl) rfl ?_
  obtain ⟨x5, hx5, hres⟩ := bind_some hres
  refine JL.eff (ef_call (T := T163 x5) Go.Proofs.Try.func163 rfl (by kernel_rfl) rfl (fun w hC => c163  hx5)) rfl ?_
  rintro _ _ ⟨_, ⟨a6, _, cp7, rfl, rfl, rfl⟩, rfl⟩
  refine JL.eff (ef_alloc i28 i28z rfl) rfl ?_
  rintro _ _ ⟨g9, rfl, rfl⟩
  refine JL.eff (ef_store_box (i := 3) (v := .agg #[.int .i64 x5.W, .int .i64 x5.H, .slice a6 x5.Breaks.length cp7]) i28 rfl rfl rfl (i28s).symm (Nat.le_of_ble_eq_true rfl) (by simp [Value.cells, Value.oneCell'])) rfl ?_
  rintro _ _ rfl
  refine JL.nil ?_
  refine JE.weak (env' := [(0, ptrAt (some ⟨gb_0, 0, none⟩) 0), (4, ptrAt (some ⟨g1, 0, none⟩) 0), (6, ptrAt (some ⟨g9, 0, none⟩) 0)]) (es' := [boxO 162 gb_0 [.slice a_0_0 q0.code.length c_0_0, .int .i64 x4.2.1, .int .u64 x4.2.2], boxO 28 g1 [.int .i64 0, .int .i64 0, .slice none 0 0], boxO 28 g9 [.int .i64 x5.W, .int .i64 x5.H, .slice a6 x5.Breaks.length cp7], rowT 2 eI64 a6 x5.Breaks.length cp7 x5.Breaks]) [1, 0, 3, 2] ?_ ⟨rfl, rfl, rfl, trivial⟩ (by decide) rfl
  refine JE.code ?_
  refine JX.seq ?_
  refine JX.region ?_
  refine JL.val (yl_move rfl) rfl ?_
  obtain ⟨x11, hx11, hres⟩ := bind_some hres
  refine JL.eff (ef_callms (caps := []) (vs := [ptrAt (some ⟨gb_0, 0, none⟩) 0, .int .i64 4]) (T := T113 gb_0 a_0_0 q0.code.length c_0_0 x11) [0] [1, 2, 3] [boxO 162 gb_0 [.slice a_0_0 q0.code.length c_0_0, .int .i64 x4.2.1, .int .u64 x4.2.2]] [boxO 28 g1 [.int .i64 0, .int .i64 0, .slice none 0 0], boxO 28 g9 [.int .i64 x5.W, .int .i64 x5.H, .slice a6 x5.Breaks.length cp7], rowT 2 eI64 a6 x5.Breaks.length cp7 x5.Breaks] rfl Go.Proofs.Try.func113 rfl (by kernel_rfl) rfl (by decide) rfl rfl (fun w N hF hS => c113 (q0 := Sl00Src.mk q0.code x4.2.1 x4.2.2) (RdS.pass hF g_0_0) rfl k_0_0 hS hx11)) rfl ?_
  rintro _ _ ⟨_, _, ⟨rfl, rfl, rfl⟩, rfl⟩
  refine JL.val (yl_assign rfl) rfl ?_
  refine JL.nil ?_
  refine JE.code ?_
  refine JX.seq ?_
  refine JX.seq ?_
  refine JX.region ?_
  refine JL.val (yl_assign rfl) rfl ?_
  refine JL.nil ?_
  refine JE.code ?_
  refine JX.block ?_
  obtain ⟨y1, hy1, hresO1⟩ := bind_some hres
  refine JX.loop (I := fun (s1 : Int × (Int × Int) × List Int) aa ww => ∃ (l12 : s1.2.2.length = x5.Breaks.length), St w M 40 [(0, ptrAt (some ⟨gb_0, 0, none⟩) 0), (4, ptrAt (some ⟨g1, 0, none⟩) 0), (6, ptrAt (some ⟨g9, 0, none⟩) 0), (7, .int .i64 x11.1), (8, .int .i64 s1.1)] [boxO 162 gb_0 [.slice a_0_0 q0.code.length c_0_0, .int .i64 s1.2.1.1, .int .u64 s1.2.1.2], boxO 28 g1 [.int .i64 0, .int .i64 0, .slice none 0 0], boxO 28 g9 [.int .i64 x5.W, .int .i64 x5.H, .slice a6 x5.Breaks.length cp7], rowT 2 eI64 a6 x5.Breaks.length cp7 s1.2.2] aa ww) (sh162_1 q0 x5 x11) hy1 (fun a w h => ⟨rfl, h.weak ⟨rfl, rfl, rfl, rfl, rfl, trivial⟩ [3, 0, 1, 2] (by decide) rfl⟩) ?_
  rintro ⟨x13, x14, x15⟩ o1 hres hox1 aa ww ⟨l16, hS⟩
  refine (?_ : JX Go.Proofs.Try.prog w M 40 _ _ [(0, ptrAt (some ⟨gb_0, 0, none⟩) 0), (4, ptrAt (some ⟨g1, 0, none⟩) 0), (6, ptrAt (some ⟨g9, 0, none⟩) 0), (7, .int .i64 x11.1), (8, .int .i64 x13)] [boxO 162 gb_0 [.slice a_0_0 q0.code.length c_0_0, .int .i64 x14.1, .int .u64 x14.2], boxO 28 g1 [.int .i64 0, .int .i64 0, .slice none 0 0], boxO 28 g9 [.int .i64 x5.W, .int .i64 x5.H, .slice a6 x5.Breaks.length cp7], rowT 2 eI64 a6 x5.Breaks.length cp7 x15] _) aa ww hS
  clear hS
  simp only [sh162_1] at hres
  refine JX.seq ?_
  refine JX.seq ?_
  refine JX.region ?_
  refine JL.val (yl_move rfl) rfl ?_
  refine JL.val (yl_fieldAt (a := some _) Go.Proofs.Try.underlying28 rfl i22 i22n rfl rfl) rfl ?_
  refine JL.val (yl_load1 Go.Proofs.Try.underlying22 rfl rfl (fun w hC => rd_box hC 2 rfl) rfl) rfl ?_
  refine JL.val (yl_len_slice Go.Proofs.Try.underlying22 rfl) rfl ?_
  refine JL.val (yl_lss rfl rfl) rfl ?_
  refine JL.nil ?_
  refine JE.weak (env' := [(0, ptrAt (some ⟨gb_0, 0, none⟩) 0), (4, ptrAt (some ⟨g1, 0, none⟩) 0), (6, ptrAt (some ⟨g9, 0, none⟩) 0), (7, .int .i64 x11.1), (8, .int .i64 x13), (25, .bool (decide (x13 < ((x5.Breaks.length : Nat) : Int))))]) (es' := [boxO 162 gb_0 [.slice a_0_0 q0.code.length c_0_0, .int .i64 x14.1, .int .u64 x14.2], boxO 28 g1 [.int .i64 0, .int .i64 0, .slice none 0 0], boxO 28 g9 [.int .i64 x5.W, .int .i64 x5.H, .slice a6 x5.Breaks.length cp7], rowT 2 eI64 a6 x5.Breaks.length cp7 x15]) [0, 1, 2, 3] ?_ ⟨rfl, rfl, rfl, rfl, rfl, rfl, trivial⟩ (by decide) rfl
  refine JE.code ?_
  rcases cond_some hres with ⟨hb, hres⟩ | ⟨hb, hres⟩
  · refine JX.condT rfl hb ?_
    refine JX.skip ?_
    refine JE.code ?_
    refine JX.seq ?_
    refine JX.block ?_
    refine JX.seq ?_
    refine JX.region ?_
    refine JL.val (yl_move rfl) rfl ?_
    obtain ⟨x17, hx17, hres⟩ := bind_some hres
    refine JL.eff (ef_callms (caps := []) (vs := [ptrAt (some ⟨gb_0, 0, none⟩) 0, .int .i64 4]) (T := T113 gb_0 a_0_0 q0.code.length c_0_0 x17) [0] [1, 2, 3] [boxO 162 gb_0 [.slice a_0_0 q0.code.length c_0_0, .int .i64 x14.1, .int .u64 x14.2]] [boxO 28 g1 [.int .i64 0, .int .i64 0, .slice none 0 0], boxO 28 g9 [.int .i64 x5.W, .int .i64 x5.H, .slice a6 x5.Breaks.length cp7], rowT 2 eI64 a6 x5.Breaks.length cp7 x15] rfl Go.Proofs.Try.func113 rfl (by kernel_rfl) rfl (by decide) rfl rfl (fun w N hF hS => c113 (q0 := Sl00Src.mk q0.code x14.1 x14.2) (RdS.pass hF g_0_0) rfl k_0_0 hS hx17)) rfl ?_
    rintro _ _ ⟨_, _, ⟨rfl, rfl, rfl⟩, rfl⟩
    refine JL.val (yl_move rfl) rfl ?_
    refine JL.val (yl_lss rfl rfl) rfl ?_
    refine JL.nil ?_
    refine JE.weak (env' := [(0, ptrAt (some ⟨gb_0, 0, none⟩) 0), (4, ptrAt (some ⟨g1, 0, none⟩) 0), (6, ptrAt (some ⟨g9, 0, none⟩) 0), (7, .int .i64 x11.1), (8, .int .i64 x13), (31, .bool (decide (x17.1 < x11.1)))]) (es' := [boxO 162 gb_0 [.slice a_0_0 q0.code.length c_0_0, .int .i64 x17.2.1, .int .u64 x17.2.2], boxO 28 g1 [.int .i64 0, .int .i64 0, .slice none 0 0], boxO 28 g9 [.int .i64 x5.W, .int .i64 x5.H, .slice a6 x5.Breaks.length cp7], rowT 2 eI64 a6 x5.Breaks.length cp7 x15]) [3, 0, 1, 2] ?_ ⟨rfl, rfl, rfl, rfl, rfl, rfl, trivial⟩ (by decide) rfl
    refine JE.code ?_
    obtain ⟨j18, hj18, hresj18⟩ := bind_some hres
    refine JX.cut (K := fun J => ∀ (l19 : j18.2.length = x5.Breaks.length), J [(0, ptrAt (some ⟨gb_0, 0, none⟩) 0), (4, ptrAt (some ⟨g1, 0, none⟩) 0), (6, ptrAt (some ⟨g9, 0, none⟩) 0), (7, .int .i64 x11.1), (8, .int .i64 x13)] [boxO 162 gb_0 [.slice a_0_0 q0.code.length c_0_0, .int .i64 j18.1.1, .int .u64 j18.1.2], boxO 28 g1 [.int .i64 0, .int .i64 0, .slice none 0 0], boxO 28 g9 [.int .i64 x5.W, .int .i64 x5.H, .slice a6 x5.Breaks.length cp7], rowT 2 eI64 a6 x5.Breaks.length cp7 j18.2]) ?_ ?_
    · intro l19
      have hres := hresj18
      refine JE.code ?_
      refine JX.region ?_
      refine JL.val (yl_move rfl) rfl ?_
      refine JL.val (yl_add rfl rfl) rfl ?_
      refine JL.val (yl_assign rfl) rfl ?_
      refine JL.nil ?_
      refine JE.cont hres ?_
      exact fun a w h => ⟨l19, h.weak ⟨rfl, rfl, rfl, rfl, rfl, trivial⟩ [0, 1, 2, 3] (by decide) rfl⟩
    · intro K
      rcases cond_some hj18 with ⟨hb, hres⟩ | ⟨hb, hres⟩
      · refine JX.condT rfl hb ?_
        refine JX.drawH [(0, .pure), (1, .read), (2, .pure), (3, .pure), (4, .must), (5, .pure), (6, .pure), (7, .must)] [4, 7] [0, 3] [1, 2] [boxO 162 gb_0 [.slice a_0_0 q0.code.length c_0_0, .int .i64 x17.2.1, .int .u64 x17.2.2], rowT 2 eI64 a6 x5.Breaks.length cp7 x15] [boxO 28 g1 [.int .i64 0, .int .i64 0, .slice none 0 0], boxO 28 g9 [.int .i64 x5.W, .int .i64 x5.H, .slice a6 x5.Breaks.length cp7]] mixedP (by kernel_rfl) (by kernel_rfl) (by decide) rfl rfl ?_
        intro wrr20 Nr20 hFr20
        refine JH.pure rfl (yl_fieldAt (a := some _) Go.Proofs.Try.underlying28 rfl i22 i22n rfl rfl) rfl ?_
        refine JH.read rfl (yl_load1 Go.Proofs.Try.underlying22 rfl rfl (fun w hw => hFr20.box 2 rfl rfl hw) rfl) rfl ?_
        refine JH.pure rfl (yl_move rfl) rfl ?_
        refine JH.pure rfl (yl_move rfl) rfl ?_
        obtain ⟨x21, hx21, hres⟩ := bind_some hres
        refine JH.must rfl (ef_callms (caps := []) (vs := [ptrAt (some ⟨gb_0, 0, none⟩) 0, .int .i64 2]) (T := T113 gb_0 a_0_0 q0.code.length c_0_0 x21) [0] [1] [boxO 162 gb_0 [.slice a_0_0 q0.code.length c_0_0, .int .i64 x17.2.1, .int .u64 x17.2.2]] [rowT 2 eI64 a6 x5.Breaks.length cp7 x15] rfl Go.Proofs.Try.func113 rfl (by kernel_rfl) rfl (by decide) rfl rfl (fun w N hF hS => c113 (q0 := Sl00Src.mk q0.code x17.2.1 x17.2.2) (RdS.pass hF (RdS.pass hFr20 g_0_0)) rfl k_0_0 hS hx21)) rfl rfl ?_
        rintro _ _ ⟨_, _, ⟨rfl, rfl, rfl⟩, rfl⟩
        refine JH.pure rfl (yl_add rfl rfl) rfl ?_
        obtain ⟨x22, hx22, hres⟩ := bind_some hres
        refine JH.pure rfl (yl_idxQ Go.Proofs.Try.underlying22 i2 i2s rfl rfl hx22 l16 (rd_row hFr20.cl 3 rfl) l16) rfl ?_
        refine JH.must rfl (ef_storeT (ix := 0) (u := w64 (1 + x21.1)) i2 i2s rfl rfl rfl hx22 rfl) rfl rfl ?_
        rintro _ _ rfl
        refine JH.nil ?_
        refine JE.weak (env' := [(0, ptrAt (some ⟨gb_0, 0, none⟩) 0), (4, ptrAt (some ⟨g1, 0, none⟩) 0), (6, ptrAt (some ⟨g9, 0, none⟩) 0), (7, .int .i64 x11.1), (8, .int .i64 x13)]) (es' := [boxO 162 gb_0 [.slice a_0_0 q0.code.length c_0_0, .int .i64 x21.2.1, .int .u64 x21.2.2], boxO 28 g1 [.int .i64 0, .int .i64 0, .slice none 0 0], boxO 28 g9 [.int .i64 x5.W, .int .i64 x5.H, .slice a6 x5.Breaks.length cp7], rowT 2 eI64 a6 x5.Breaks.length cp7 (x15.set (x13).toNat (w64 (1 + x21.1)))]) [3, 0, 1, 2] ?_ ⟨rfl, rfl, rfl, rfl, rfl, trivial⟩ (by decide) rfl
        have hj := Option.some.inj hres
        exact JE.weak [0, 1, 2, 3] (K (by subst hj; exact (List.length_set.trans l16))) ⟨(by subst hj; rfl), (by subst hj; rfl), (by subst hj; rfl), (by subst hj; rfl), (by subst hj; rfl), trivial⟩ (by decide) (by subst hj; rfl)
      · refine JX.condF rfl hb ?_
        refine JX.skip ?_
        have hj := Option.some.inj hres
        exact JE.weak [0, 1, 2, 3] (K (by subst hj; exact l16)) ⟨(by subst hj; rfl), (by subst hj; rfl), (by subst hj; rfl), (by subst hj; rfl), (by subst hj; rfl), trivial⟩ (by decide) (by subst hj; rfl)
  · refine JX.condF rfl hb ?_
    refine JX.exit ?_
    refine JE.qb rfl ?_
    obtain ⟨b1, hb1⟩ : ∃ b : (Int × Int) × List Int, b = ((x14.1, x14.2), x15) := ⟨_, rfl⟩
    have hy1 : b1 = y1 := by rw [hb1]; exact hox1 _ (Option.some.inj hres).symm
    have hres := hresO1
    rw [← hy1] at hres
    have l23 : b1.2.length = x5.Breaks.length := by subst hb1; exact l16
    refine JE.weak (env' := [(4, ptrAt (some ⟨g1, 0, none⟩) 0), (6, ptrAt (some ⟨g9, 0, none⟩) 0)]) (es' := [boxO 162 gb_0 [.slice a_0_0 q0.code.length c_0_0, .int .i64 b1.1.1, .int .u64 b1.1.2], boxO 28 g1 [.int .i64 0, .int .i64 0, .slice none 0 0], boxO 28 g9 [.int .i64 x5.W, .int .i64 x5.H, .slice a6 x5.Breaks.length cp7], rowT 2 eI64 a6 x5.Breaks.length cp7 b1.2]) [0, 1, 2, 3] ?_ ⟨(by subst hb1; rfl), (by subst hb1; rfl), trivial⟩ (by decide) (by subst hb1; rfl)
    refine JE.code ?_
    refine JX.seq ?_
    refine JX.region ?_
    refine JL.val (yl_loadn Go.Proofs.Try.underlying28 rfl i28 rfl (fun w hC => rd_box hC 2 rfl) rfl (i28s).symm i28p) rfl ?_
    refine JL.eff (ef_store_box (i := 1) (v := .agg #[.int .i64 x5.W, .int .i64 x5.H, .slice a6 x5.Breaks.length cp7]) i28 rfl rfl rfl (i28s).symm (Nat.le_of_ble_eq_true rfl) (by simp [Value.cells, Value.oneCell'])) rfl ?_
    rintro _ _ rfl
    refine JL.nil ?_
    refine JE.weak (env' := [(4, ptrAt (some ⟨g1, 0, none⟩) 0)]) (es' := [boxO 162 gb_0 [.slice a_0_0 q0.code.length c_0_0, .int .i64 b1.1.1, .int .u64 b1.1.2], boxO 28 g1 [.int .i64 x5.W, .int .i64 x5.H, .slice a6 x5.Breaks.length cp7], rowT 2 eI64 a6 x5.Breaks.length cp7 b1.2]) [0, 1, 3] ?_ ⟨rfl, trivial⟩ (by decide) rfl
    refine JE.code ?_
    refine JX.ret ?_
    obtain rfl := Option.some.inj hres
    refine JE.ret (rs := [.cell 4 28]) (vs := [.agg #[.int .i64 x5.W, .int .i64 x5.H, .slice a6 x5.Breaks.length cp7]]) rfl ⟨rv_box 1 rfl rfl Go.Proofs.Try.underlying28 rfl i28 (i28s).symm, trivial⟩ ?_
    exact fun w' hb hs => ⟨_, _, _, ⟨rfl, a6, x5.Breaks.length, cp7, l23, rfl, rfl⟩, rfl, hb, hs.sel [0, 2] _ (by decide) rfl⟩

/- spec.l02Bent -/
def sh108 (q0 : Sl00Src) : Option (SPanel × Int × Int) := Option.bind (sh162 q0 5) fun x3 => Option.bind (sh113 (Sl00Src.mk q0.code x3.2.1 x3.2.2) 20) fun x9 => Option.bind (bif x9.1 == 0 then (Option.bind (sh124 (Sl00Src.mk q0.code x9.2.1 x9.2.2) [0, 8, 9, (-9223372036854775808)]) fun x15 => some ((x15.2.1, x15.2.2), (x15.1, x3.1.H), x3.1.Breaks)) else (Option.bind (bif x9.1 == 1 then (Option.bind (appL x3.1.Breaks [0]) fun x21 => some ((x9.2.1, x9.2.2), (x3.1.W, x3.1.H), x21)) else (Option.bind (bif x9.1 == 2 then (Option.bind (bif decide (0 < (x3.1.Breaks.length : Int)) then (Option.bind (sh113 (Sl00Src.mk q0.code x9.2.1 x9.2.2) (x3.1.Breaks.length : Int)) fun x30 => Option.bind (sh124 (Sl00Src.mk q0.code x30.2.1 x30.2.2) [(-1), 2, 3]) fun x630 => Option.bind (getI x3.1.Breaks x30.1) fun x631 => some ((x630.2.1, x630.2.2), x3.1.Breaks.set (x30.1).toNat x630.1)) else (some ((x9.2.1, x9.2.2), x3.1.Breaks))) fun j27 => (some ((j27.1.1, j27.1.2), (x3.1.W, x3.1.H), j27.2))) else (Option.bind (bif x9.1 == 3 then (Option.bind (sh163 8 8) fun x635 => some ((x635.W, x635.H), x635.Breaks)) else (some ((x3.1.W, x3.1.H), x3.1.Breaks))) fun j632 => (some ((x9.2.1, x9.2.2), (j632.1.1, j632.1.2), j632.2)))) fun j24 => (some ((j24.1.1, j24.1.2), (j24.2.1.1, j24.2.1.2), j24.2.2)))) fun j16 => (some ((j16.1.1, j16.1.2), (j16.2.1.1, j16.2.1.2), j16.2.2)))) fun j10 => (some (SPanel.mk j10.2.1.1 j10.2.1.2 j10.2.2, j10.1.1, j10.1.2))
def T108 (gb_0 : Nat) (a_0_0 : Option Addr) (n_0_0 c_0_0 : Nat) (r : SPanel × Int × Int) (v : Value) (es' rs : List Own) : Prop := es' = [boxO 162 gb_0 [.slice a_0_0 n_0_0 c_0_0, .int .i64 r.2.1, .int .u64 r.2.2]] ∧ ∃ (a0_2 : Option Addr) (n0_2 c0_2 : Nat), r.1.Breaks.length = n0_2 ∧ v = rets [.agg #[.int .i64 r.1.W, .int .i64 r.1.H, .slice a0_2 n0_2 c0_2]] ∧ rs = [rowT 2 eI64 a0_2 n0_2 c0_2 r.1.Breaks]
set_option maxRecDepth 100000 in
theorem c108 {w : World} {M : List Nat} {q0 : Sl00Src} {gb_0 : Nat} {a_0_0 : Option Addr} {n_0_0 c_0_0 : Nat} (g_0_0 : RdS M w a_0_0 (eU8.fl q0.code)) (l_0_0 : q0.code.length = n_0_0) (k_0_0 : n_0_0 ≤ c_0_0) (gs : Sep w.heap.size M w [boxO 162 gb_0 [.slice a_0_0 n_0_0 c_0_0, .int .i64 q0.at_, .int .u64 q0.seed]]) {r : SPanel × Int × Int} (hres : sh108 q0 = some r) : Calls Go.Proofs.Try.prog 108 [ptrAt (some ⟨gb_0, 0, none⟩) 0].toArray w (RetMs w M (T108 gb_0 a_0_0 n_0_0 c_0_0 r)) := by
  subst l_0_0
  unfold sh108 at hres
  refine calls_of (n := 42) (M := M) (es := [boxO 162 gb_0 [.slice a_0_0 q0.code.length c_0_0, .int .i64 q0.at_, .int .u64 q0.seed]]) Go.Proofs.Try.func108 rfl rfl rfl gs ?_
  refine JX.seq ?_
  refine JX.region ?_
  refine JL.eff (ef_alloc i28 i28z rfl) rfl ?_
  rintro _ _ ⟨g1, rfl, rfl⟩
  refine JL.nil ?_
  refine JE.code ?_
  refine JX.seq ?_
  refine JX.region ?_
  refine JL.val (yl_move rfl) rfl ?_
  obtain ⟨x3, hx3, hres⟩ := bind_some hres
  refine JL.eff (ef_callms (caps := []) (vs := [ptrAt (some ⟨gb_0, 0, none⟩) 0, .int .i64 5]) (T := T162 gb_0 a_0_0 q0.code.length c_0_0 x3) [0] [1] [boxO 162 gb_0 [.slice a_0_0 q0.code.length c_0_0, .int .i64 q0.at_, .int .u64 q0.seed]] [boxO 28 g1 [.int .i64 0, .int .i64 0, .slice none 0 0]] rfl Go.Proofs.Try.func162 rfl (by kernel_rfl) rfl (by decide) rfl rfl (fun w N hF hS => c162 (q0 := q0) (RdS.pass hF g_0_0) rfl k_0_0 hS hx3)) rfl ?_
  rintro _ _ ⟨_, _, ⟨rfl, a4, _, cp5, rfl, rfl, rfl⟩, rfl⟩
  refine JL.eff (ef_alloc i28 i28z rfl) rfl ?_
  rintro _ _ ⟨g7, rfl, rfl⟩
  refine JL.eff (ef_store_box (i := 3) (v := .agg #[.int .i64 x3.1.W, .int .i64 x3.1.H, .slice a4 x3.1.Breaks.length cp5]) i28 rfl rfl rfl (i28s).symm (Nat.le_of_ble_eq_true rfl) (by simp [Value.cells, Value.oneCell'])) rfl ?_
  rintro _ _ rfl
  refine JL.nil ?_
  refine JE.weak (env' := [(0, ptrAt (some ⟨gb_0, 0, none⟩) 0), (2, ptrAt (some ⟨g1, 0, none⟩) 0), (3, ptrAt (some ⟨g7, 0, none⟩) 0)]) (es' := [boxO 162 gb_0 [.slice a_0_0 q0.code.length c_0_0, .int .i64 x3.2.1, .int .u64 x3.2.2], boxO 28 g1 [.int .i64 0, .int .i64 0, .slice none 0 0], boxO 28 g7 [.int .i64 x3.1.W, .int .i64 x3.1.H, .slice a4 x3.1.Breaks.length cp5], rowT 2 eI64 a4 x3.1.Breaks.length cp5 x3.1.Breaks]) [1, 0, 3, 2] ?_ ⟨rfl, rfl, rfl, trivial⟩ (by decide) rfl
  refine JE.code ?_
  refine JX.seq ?_
  refine JX.seq ?_
  refine JX.region ?_
  refine JL.val (yl_move rfl) rfl ?_
  obtain ⟨x9, hx9, hres⟩ := bind_some hres
  refine JL.eff (ef_callms (caps := []) (vs := [ptrAt (some ⟨gb_0, 0, none⟩) 0, .int .i64 20]) (T := T113 gb_0 a_0_0 q0.code.length c_0_0 x9) [0] [1, 2, 3] [boxO 162 gb_0 [.slice a_0_0 q0.code.length c_0_0, .int .i64 x3.2.1, .int .u64 x3.2.2]] [boxO 28 g1 [.int .i64 0, .int .i64 0, .slice none 0 0], boxO 28 g7 [.int .i64 x3.1.W, .int .i64 x3.1.H, .slice a4 x3.1.Breaks.length cp5], rowT 2 eI64 a4 x3.1.Breaks.length cp5 x3.1.Breaks] rfl Go.Proofs.Try.func113 rfl (by kernel_rfl) rfl (by decide) rfl rfl (fun w N hF hS => c113 (q0 := Sl00Src.mk q0.code x3.2.1 x3.2.2) (RdS.pass hF g_0_0) rfl k_0_0 hS hx9)) rfl ?_
  rintro _ _ ⟨_, _, ⟨rfl, rfl, rfl⟩, rfl⟩
  refine JL.nil ?_
  refine JE.code ?_
  refine JX.block ?_
  refine JX.seq ?_
  refine JX.region ?_
  refine JL.val (yl_eql rfl rfl) rfl ?_
  refine JL.val (yl_assign rfl) rfl ?_
  refine JL.nil ?_
  refine JE.code ?_
  obtain ⟨j10, hj10, hresj10⟩ := bind_some hres
  refine JX.cut (K := fun J => ∀ (a11 : Option Addr) (cp12 : Nat), J [(2, ptrAt (some ⟨g1, 0, none⟩) 0), (3, ptrAt (some ⟨g7, 0, none⟩) 0)] [boxO 162 gb_0 [.slice a_0_0 q0.code.length c_0_0, .int .i64 j10.1.1, .int .u64 j10.1.2], boxO 28 g1 [.int .i64 0, .int .i64 0, .slice none 0 0], boxO 28 g7 [.int .i64 j10.2.1.1, .int .i64 j10.2.1.2, .slice a11 j10.2.2.length cp12], rowT 2 eI64 a11 j10.2.2.length cp12 j10.2.2]) ?_ ?_
  · intro a11 cp12
    have hres := hresj10
    refine JE.code ?_
    refine JX.seq ?_
    refine JX.region ?_
    refine JL.val (yl_loadn Go.Proofs.Try.underlying28 rfl i28 rfl (fun w hC => rd_box hC 2 rfl) rfl (i28s).symm i28p) rfl ?_
    refine JL.eff (ef_store_box (i := 1) (v := .agg #[.int .i64 j10.2.1.1, .int .i64 j10.2.1.2, .slice a11 j10.2.2.length cp12]) i28 rfl rfl rfl (i28s).symm (Nat.le_of_ble_eq_true rfl) (by simp [Value.cells, Value.oneCell'])) rfl ?_
    rintro _ _ rfl
    refine JL.nil ?_
    refine JE.weak (env' := [(2, ptrAt (some ⟨g1, 0, none⟩) 0)]) (es' := [boxO 162 gb_0 [.slice a_0_0 q0.code.length c_0_0, .int .i64 j10.1.1, .int .u64 j10.1.2], boxO 28 g1 [.int .i64 j10.2.1.1, .int .i64 j10.2.1.2, .slice a11 j10.2.2.length cp12], rowT 2 eI64 a11 j10.2.2.length cp12 j10.2.2]) [0, 1, 3] ?_ ⟨rfl, trivial⟩ (by decide) rfl
    refine JE.code ?_
    refine JX.ret ?_
    obtain rfl := Option.some.inj hres
    refine JE.ret (rs := [.cell 2 28]) (vs := [.agg #[.int .i64 j10.2.1.1, .int .i64 j10.2.1.2, .slice a11 j10.2.2.length cp12]]) rfl ⟨rv_box 1 rfl rfl Go.Proofs.Try.underlying28 rfl i28 (i28s).symm, trivial⟩ ?_
    exact fun w' hb hs => ⟨_, _, _, ⟨rfl, a11, j10.2.2.length, cp12, rfl, rfl, rfl⟩, rfl, hb, hs.sel [0, 2] _ (by decide) rfl⟩
  · intro K
    rcases cond_some hj10 with ⟨hb, hres⟩ | ⟨hb, hres⟩
    · refine JX.condT rfl hb ?_
      refine JX.region ?_
      refine JL.val (yl_move rfl) rfl ?_
      refine JL.eff (ef_buildSlice (E := 2) (k := eI64.k) (us := eI64.fl [0, 8, 9, (-9223372036854775808)]) rfl (fun w => bsl22_4 0 8 9 (-9223372036854775808) w) rfl (by decide)) rfl ?_
      rintro _ _ ⟨a13, rfl, rfl⟩
      obtain ⟨x15, hx15, hres⟩ := bind_some hres
      refine JL.eff (ef_callms (caps := []) (vs := [ptrAt (some ⟨gb_0, 0, none⟩) 0, .slice a13 4 4]) (T := T124 gb_0 a_0_0 q0.code.length c_0_0 x15) [3] [0, 1, 2, 4] [boxO 162 gb_0 [.slice a_0_0 q0.code.length c_0_0, .int .i64 x9.2.1, .int .u64 x9.2.2]] [boxO 28 g1 [.int .i64 0, .int .i64 0, .slice none 0 0], boxO 28 g7 [.int .i64 x3.1.W, .int .i64 x3.1.H, .slice a4 x3.1.Breaks.length cp5], rowT 2 eI64 a4 x3.1.Breaks.length cp5 x3.1.Breaks, rowT 2 eI64 a13 4 4 [0, 8, 9, (-9223372036854775808)]] rfl Go.Proofs.Try.func124 rfl (by kernel_rfl) rfl (by decide) rfl rfl (fun w N hF hS => c124 (q0 := Sl00Src.mk q0.code x9.2.1 x9.2.2) (RdS.pass hF g_0_0) rfl k_0_0 (RdS.row hF 4 rfl rfl) rfl (ln_row hF.cl 4 rfl) hS hx15)) rfl ?_
      rintro _ _ ⟨_, _, ⟨rfl, rfl, rfl⟩, rfl⟩
      refine JL.val (yl_fieldAt (a := some _) Go.Proofs.Try.underlying28 rfl i2 i2n rfl rfl) rfl ?_
      refine JL.eff (ef_store_box (i := 1) (v := .int .i64 x15.1) i2 rfl rfl rfl (i2s).symm (Nat.le_of_ble_eq_true rfl) (by simp [Value.cells, Value.oneCell'])) rfl ?_
      rintro _ _ rfl
      refine JL.nil ?_
      refine JE.weak (env' := [(2, ptrAt (some ⟨g1, 0, none⟩) 0), (3, ptrAt (some ⟨g7, 0, none⟩) 0)]) (es' := [boxO 162 gb_0 [.slice a_0_0 q0.code.length c_0_0, .int .i64 x15.2.1, .int .u64 x15.2.2], boxO 28 g1 [.int .i64 0, .int .i64 0, .slice none 0 0], boxO 28 g7 [.int .i64 x15.1, .int .i64 x3.1.H, .slice a4 x3.1.Breaks.length cp5], rowT 2 eI64 a4 x3.1.Breaks.length cp5 x3.1.Breaks]) [4, 0, 1, 2] ?_ ⟨rfl, rfl, trivial⟩ (by decide) rfl
      have hj := Option.some.inj hres
      exact JE.weak [0, 1, 2, 3] (K a4 cp5) ⟨(by subst hj; rfl), (by subst hj; rfl), trivial⟩ (by decide) (by subst hj; rfl)
    · refine JX.condF rfl hb ?_
      refine JX.seq ?_
      refine JX.region ?_
      refine JL.val (yl_eql rfl rfl) rfl ?_
      refine JL.val (yl_assign rfl) rfl ?_
      refine JL.nil ?_
      refine JE.code ?_
      obtain ⟨j16, hj16, hresj16⟩ := bind_some hres
      refine JX.cut (K := fun J => ∀ (a17 : Option Addr) (cp18 : Nat), J [(2, ptrAt (some ⟨g1, 0, none⟩) 0), (3, ptrAt (some ⟨g7, 0, none⟩) 0)] [boxO 162 gb_0 [.slice a_0_0 q0.code.length c_0_0, .int .i64 j16.1.1, .int .u64 j16.1.2], boxO 28 g1 [.int .i64 0, .int .i64 0, .slice none 0 0], boxO 28 g7 [.int .i64 j16.2.1.1, .int .i64 j16.2.1.2, .slice a17 j16.2.2.length cp18], rowT 2 eI64 a17 j16.2.2.length cp18 j16.2.2]) ?_ ?_
      · intro a17 cp18
        have hres := hresj16
        have hj := Option.some.inj hres
        exact JE.weak [0, 1, 2, 3] (K a17 cp18) ⟨(by subst hj; rfl), (by subst hj; rfl), trivial⟩ (by decide) (by subst hj; rfl)
      · intro K
        rcases cond_some hj16 with ⟨hb, hres⟩ | ⟨hb, hres⟩
        · refine JX.condT rfl hb ?_
          refine JX.region ?_
          refine JL.val (yl_fieldAt (a := some _) Go.Proofs.Try.underlying28 rfl i22 i22n rfl rfl) rfl ?_
          refine JL.val (yl_load1 Go.Proofs.Try.underlying22 rfl rfl (fun w hC => rd_box hC 1 rfl) rfl) rfl ?_
          refine JL.eff (ef_buildSlice (E := 2) (k := eI64.k) (us := eI64.fl [0]) rfl (fun w => bsl22_1 0 w) rfl (by decide)) rfl ?_
          rintro _ _ ⟨a19, rfl, rfl⟩
          obtain ⟨x21, hx21, hres⟩ := bind_some hres
          refine JL.eff (ef_appendT (ix := 2) Go.Proofs.Try.underlying22 i2 i2z i2s rfl i2b0 i2b1 rfl rfl rfl rfl rfl (fun w hC => rd_row hC 4 rfl) hx21) rfl ?_
          rintro _ _ ⟨a22, cp23, rfl, rfl⟩
          refine JL.val (yl_fieldAt (a := some _) Go.Proofs.Try.underlying28 rfl i22 i22n rfl rfl) rfl ?_
          refine JL.eff (ef_store_box (i := 1) (v := .slice a22 x21.length cp23) i22 rfl rfl rfl (i22s).symm (Nat.le_of_ble_eq_true rfl) (by simp [Value.cells, Value.oneCell'])) rfl ?_
          rintro _ _ rfl
          refine JL.nil ?_
          refine JE.weak (env' := [(2, ptrAt (some ⟨g1, 0, none⟩) 0), (3, ptrAt (some ⟨g7, 0, none⟩) 0)]) (es' := [boxO 162 gb_0 [.slice a_0_0 q0.code.length c_0_0, .int .i64 x9.2.1, .int .u64 x9.2.2], boxO 28 g1 [.int .i64 0, .int .i64 0, .slice none 0 0], boxO 28 g7 [.int .i64 x3.1.W, .int .i64 x3.1.H, .slice a22 x21.length cp23], rowT 2 eI64 a22 x21.length cp23 x21]) [3, 0, 1, 2] ?_ ⟨rfl, rfl, trivial⟩ (by decide) rfl
          have hj := Option.some.inj hres
          exact JE.weak [0, 1, 2, 3] (K a22 cp23) ⟨(by subst hj; rfl), (by subst hj; rfl), trivial⟩ (by decide) (by subst hj; rfl)
        · refine JX.condF rfl hb ?_
          refine JX.seq ?_
          refine JX.region ?_
          refine JL.val (yl_eql rfl rfl) rfl ?_
          refine JL.val (yl_assign rfl) rfl ?_
          refine JL.nil ?_
          refine JE.code ?_
          obtain ⟨j24, hj24, hresj24⟩ := bind_some hres
          refine JX.cut (K := fun J => ∀ (a25 : Option Addr) (cp26 : Nat), J [(2, ptrAt (some ⟨g1, 0, none⟩) 0), (3, ptrAt (some ⟨g7, 0, none⟩) 0)] [boxO 162 gb_0 [.slice a_0_0 q0.code.length c_0_0, .int .i64 j24.1.1, .int .u64 j24.1.2], boxO 28 g1 [.int .i64 0, .int .i64 0, .slice none 0 0], boxO 28 g7 [.int .i64 j24.2.1.1, .int .i64 j24.2.1.2, .slice a25 j24.2.2.length cp26], rowT 2 eI64 a25 j24.2.2.length cp26 j24.2.2]) ?_ ?_
          · intro a25 cp26
            have hres := hresj24
            have hj := Option.some.inj hres
            exact JE.weak [0, 1, 2, 3] (K a25 cp26) ⟨(by subst hj; rfl), (by subst hj; rfl), trivial⟩ (by decide) (by subst hj; rfl)
          · intro K
            rcases cond_some hj24 with ⟨hb, hres⟩ | ⟨hb, hres⟩
            · refine JX.condT rfl hb ?_
              refine JX.seq ?_
              refine JX.region ?_
              refine JL.val (yl_fieldAt (a := some _) Go.Proofs.Try.underlying28 rfl i22 i22n rfl rfl) rfl ?_
              refine JL.val (yl_load1 Go.Proofs.Try.underlying22 rfl rfl (fun w hC => rd_box hC 1 rfl) rfl) rfl ?_
              refine JL.val (yl_len_slice Go.Proofs.Try.underlying22 rfl) rfl ?_
              refine JL.val (yl_gtr rfl rfl) rfl ?_
              refine JL.nil ?_
              refine JE.weak (env' := [(0, ptrAt (some ⟨gb_0, 0, none⟩) 0), (2, ptrAt (some ⟨g1, 0, none⟩) 0), (3, ptrAt (some ⟨g7, 0, none⟩) 0), (26, .bool (decide (0 < (x3.1.Breaks.length : Int))))]) (es' := [boxO 162 gb_0 [.slice a_0_0 q0.code.length c_0_0, .int .i64 x9.2.1, .int .u64 x9.2.2], boxO 28 g1 [.int .i64 0, .int .i64 0, .slice none 0 0], boxO 28 g7 [.int .i64 x3.1.W, .int .i64 x3.1.H, .slice a4 x3.1.Breaks.length cp5], rowT 2 eI64 a4 x3.1.Breaks.length cp5 x3.1.Breaks]) [3, 0, 1, 2] ?_ ⟨rfl, rfl, rfl, rfl, trivial⟩ (by decide) rfl
              refine JE.code ?_
              obtain ⟨j27, hj27, hresj27⟩ := bind_some hres
              refine JX.cut (K := fun J => ∀ (l28 : j27.2.length = x3.1.Breaks.length), J [(2, ptrAt (some ⟨g1, 0, none⟩) 0), (3, ptrAt (some ⟨g7, 0, none⟩) 0)] [boxO 162 gb_0 [.slice a_0_0 q0.code.length c_0_0, .int .i64 j27.1.1, .int .u64 j27.1.2], boxO 28 g1 [.int .i64 0, .int .i64 0, .slice none 0 0], boxO 28 g7 [.int .i64 x3.1.W, .int .i64 x3.1.H, .slice a4 x3.1.Breaks.length cp5], rowT 2 eI64 a4 x3.1.Breaks.length cp5 j27.2]) ?_ ?_
              · intro l28
                have hres := hresj27
                have hj := Option.some.inj hres
                exact JE.weak [0, 1, 2, 3] (K a4 cp5) ⟨(by subst hj; rfl), (by subst hj; rfl), trivial⟩ (by decide) (by subst hj; first | rfl | (simp only [List.length_set, l28]; rfl) | simp only [List.length_set, l28])
              · intro K
                rcases cond_some hj27 with ⟨hb, hres⟩ | ⟨hb, hres⟩
                · refine JX.condT rfl hb ?_
                  refine JX.drawH [(0, .pure), (1, .read), (2, .pure), (3, .pure), (4, .read), (5, .pure), (7, .pure), (0, .tree (.alt 6 (.alt 8 .done .nil) (.alt 8 (.alt 6 .done .nil) .nil))), (9, .must), (10, .pure), (11, .must)] [6, 9, 11] [0, 3] [1, 2] [boxO 162 gb_0 [.slice a_0_0 q0.code.length c_0_0, .int .i64 x9.2.1, .int .u64 x9.2.2], rowT 2 eI64 a4 x3.1.Breaks.length cp5 x3.1.Breaks] [boxO 28 g1 [.int .i64 0, .int .i64 0, .slice none 0 0], boxO 28 g7 [.int .i64 x3.1.W, .int .i64 x3.1.H, .slice a4 x3.1.Breaks.length cp5]] mixedP (by kernel_rfl) (by kernel_rfl) (by decide) rfl rfl ?_
                  intro wrr29 Nr29 hFr29
                  refine JH.pure rfl (yl_fieldAt (a := some _) Go.Proofs.Try.underlying28 rfl i22 i22n rfl rfl) rfl ?_
                  refine JH.read rfl (yl_load1 Go.Proofs.Try.underlying22 rfl rfl (fun w hw => hFr29.box 2 rfl rfl hw) rfl) rfl ?_
                  refine JH.pure rfl (yl_move rfl) rfl ?_
                  refine JH.pure rfl (yl_fieldAt (a := some _) Go.Proofs.Try.underlying28 rfl i22 i22n rfl rfl) rfl ?_
                  refine JH.read rfl (yl_load1 Go.Proofs.Try.underlying22 rfl rfl (fun w hw => hFr29.box 2 rfl rfl hw) rfl) rfl ?_
                  refine JH.pure rfl (yl_len_slice Go.Proofs.Try.underlying22 rfl) rfl ?_
                  refine JH.pure rfl (yl_move rfl) rfl ?_
                  obtain ⟨x30, hx30, hres⟩ := bind_some hres
                  refine JH.cutS (K := fun J => ∀ (a330 : Option Addr), J [(2, ptrAt (some ⟨g1, 0, none⟩) 0), (3, ptrAt (some ⟨g7, 0, none⟩) 0), (28, .slice a4 x3.1.Breaks.length cp5), (33, .int .i64 x30.1), (34, ptrAt (some ⟨gb_0, 0, none⟩) 0), (35, .slice a330 3 3)] [rowT 2 eI64 a4 x3.1.Breaks.length cp5 x3.1.Breaks, boxO 162 gb_0 [.slice a_0_0 q0.code.length c_0_0, .int .i64 x30.2.1, .int .u64 x30.2.2], rowT 2 eI64 a330 3 3 [(-1), 2, 3]]) false 1 ?_ ?_
                  · intro a330
                    obtain ⟨x630, hx630, hres⟩ := bind_some hres
                    refine JH.must rfl (ef_callms (caps := []) (vs := [ptrAt (some ⟨gb_0, 0, none⟩) 0, .slice a330 3 3]) (T := T124 gb_0 a_0_0 q0.code.length c_0_0 x630) [1] [0, 2] [boxO 162 gb_0 [.slice a_0_0 q0.code.length c_0_0, .int .i64 x30.2.1, .int .u64 x30.2.2]] [rowT 2 eI64 a4 x3.1.Breaks.length cp5 x3.1.Breaks, rowT 2 eI64 a330 3 3 [(-1), 2, 3]] rfl Go.Proofs.Try.func124 rfl (by kernel_rfl) rfl (by decide) rfl rfl (fun w N hF hS => c124 (q0 := Sl00Src.mk q0.code x30.2.1 x30.2.2) (RdS.pass hF (RdS.pass hFr29 g_0_0)) rfl k_0_0 (RdS.row hF 2 rfl rfl) rfl (ln_row hF.cl 2 rfl) hS hx630)) rfl rfl ?_
                    rintro _ _ ⟨_, _, ⟨rfl, rfl, rfl⟩, rfl⟩
                    obtain ⟨x631, hx631, hres⟩ := bind_some hres
                    refine JH.pure rfl (yl_idxQ Go.Proofs.Try.underlying22 i2 i2s rfl rfl hx631 rfl (rd_row hFr29.cl 3 rfl) rfl) rfl ?_
                    refine JH.must rfl (ef_storeT (ix := 0) (u := x630.1) i2 i2s rfl rfl rfl hx631 rfl) rfl rfl ?_
                    rintro _ _ rfl
                    refine JH.nil ?_
                    refine JE.weak (env' := [(2, ptrAt (some ⟨g1, 0, none⟩) 0), (3, ptrAt (some ⟨g7, 0, none⟩) 0)]) (es' := [boxO 162 gb_0 [.slice a_0_0 q0.code.length c_0_0, .int .i64 x630.2.1, .int .u64 x630.2.2], boxO 28 g1 [.int .i64 0, .int .i64 0, .slice none 0 0], boxO 28 g7 [.int .i64 x3.1.W, .int .i64 x3.1.H, .slice a4 x3.1.Breaks.length cp5], rowT 2 eI64 a4 x3.1.Breaks.length cp5 (x3.1.Breaks.set (x30.1).toNat x630.1)]) [4, 0, 1, 2] ?_ ⟨rfl, rfl, trivial⟩ (by decide) rfl
                    have hj := Option.some.inj hres
                    exact JE.weak [0, 1, 2, 3] (K (by subst hj; exact List.length_set)) ⟨(by subst hj; rfl), (by subst hj; rfl), trivial⟩ (by decide) (by subst hj; rfl)
                  · intro K
                    refine JH.talt ?_ ?_
                    · refine JH.must rfl (ef_callms (caps := []) (vs := [ptrAt (some ⟨gb_0, 0, none⟩) 0, .int .i64 (x3.1.Breaks.length : Int)]) (T := T113 gb_0 a_0_0 q0.code.length c_0_0 x30) [0] [1] [boxO 162 gb_0 [.slice a_0_0 q0.code.length c_0_0, .int .i64 x9.2.1, .int .u64 x9.2.2]] [rowT 2 eI64 a4 x3.1.Breaks.length cp5 x3.1.Breaks] rfl Go.Proofs.Try.func113 rfl (by kernel_rfl) rfl (by decide) rfl rfl (fun w N hF hS => c113 (q0 := Sl00Src.mk q0.code x9.2.1 x9.2.2) (RdS.pass hF (RdS.pass hFr29 g_0_0)) rfl k_0_0 hS hx30)) rfl rfl ?_
                      rintro _ _ ⟨_, _, ⟨rfl, rfl, rfl⟩, rfl⟩
                      refine JH.talt ?_ ?_
                      · refine JH.must rfl (ef_buildSlice (E := 2) (k := eI64.k) (us := eI64.fl [(-1), 2, 3]) rfl (fun w => bsl22_3 (-1) 2 3 w) rfl (by decide)) rfl rfl ?_
                        rintro _ _ ⟨a330, rfl, rfl⟩
                        refine JH.tdone ?_
                        exact JH.weak [0, 1, 2] (K a330) ⟨rfl, rfl, rfl, rfl, rfl, rfl, trivial⟩ (by decide) rfl
                      · exact JH.tnil
                    · refine JH.talt ?_ ?_
                      · refine JH.must rfl (ef_buildSlice (E := 2) (k := eI64.k) (us := eI64.fl [(-1), 2, 3]) rfl (fun w => bsl22_3 (-1) 2 3 w) rfl (by decide)) rfl rfl ?_
                        rintro _ _ ⟨a330, rfl, rfl⟩
                        refine JH.talt ?_ ?_
                        · refine JH.must rfl (ef_callms (caps := []) (vs := [ptrAt (some ⟨gb_0, 0, none⟩) 0, .int .i64 (x3.1.Breaks.length : Int)]) (T := T113 gb_0 a_0_0 q0.code.length c_0_0 x30) [0] [1, 2] [boxO 162 gb_0 [.slice a_0_0 q0.code.length c_0_0, .int .i64 x9.2.1, .int .u64 x9.2.2]] [rowT 2 eI64 a4 x3.1.Breaks.length cp5 x3.1.Breaks, rowT 2 eI64 a330 3 3 [(-1), 2, 3]] rfl Go.Proofs.Try.func113 rfl (by kernel_rfl) rfl (by decide) rfl rfl (fun w N hF hS => c113 (q0 := Sl00Src.mk q0.code x9.2.1 x9.2.2) (RdS.pass hF (RdS.pass hFr29 g_0_0)) rfl k_0_0 hS hx30)) rfl rfl ?_
                          rintro _ _ ⟨_, _, ⟨rfl, rfl, rfl⟩, rfl⟩
                          refine JH.tdone ?_
                          exact JH.weak [0, 2, 1] (K a330) ⟨rfl, rfl, rfl, rfl, rfl, rfl, trivial⟩ (by decide) rfl
                        · exact JH.tnil
                      · exact JH.tnil
                · refine JX.condF rfl hb ?_
                  refine JX.skip ?_
                  have hj := Option.some.inj hres
                  exact JE.weak [0, 1, 2, 3] (K (by subst hj; exact rfl)) ⟨(by subst hj; rfl), (by subst hj; rfl), trivial⟩ (by decide) (by subst hj; rfl)
            · refine JX.condF rfl hb ?_
              refine JX.seq ?_
              refine JX.region ?_
              refine JL.val (yl_eql rfl rfl) rfl ?_
              refine JL.val (yl_assign rfl) rfl ?_
              refine JL.nil ?_
              refine JE.code ?_
              obtain ⟨j632, hj632, hresj632⟩ := bind_some hres
              refine JX.cut (K := fun J => ∀ (a633 : Option Addr) (cp634 : Nat), J [(2, ptrAt (some ⟨g1, 0, none⟩) 0), (3, ptrAt (some ⟨g7, 0, none⟩) 0)] [boxO 162 gb_0 [.slice a_0_0 q0.code.length c_0_0, .int .i64 x9.2.1, .int .u64 x9.2.2], boxO 28 g1 [.int .i64 0, .int .i64 0, .slice none 0 0], boxO 28 g7 [.int .i64 j632.1.1, .int .i64 j632.1.2, .slice a633 j632.2.length cp634], rowT 2 eI64 a633 j632.2.length cp634 j632.2]) ?_ ?_
              · intro a633 cp634
                have hres := hresj632
                have hj := Option.some.inj hres
                exact JE.weak [0, 1, 2, 3] (K a633 cp634) ⟨(by subst hj; rfl), (by subst hj; rfl), trivial⟩ (by decide) (by subst hj; rfl)
              · intro K
                rcases cond_some hj632 with ⟨hb, hres⟩ | ⟨hb, hres⟩
                · refine JX.condT rfl hb ?_
                  refine JX.region ?_
                  obtain ⟨x635, hx635, hres⟩ := bind_some hres
                  refine JL.eff (ef_call (T := T163 x635) Go.Proofs.Try.func163 rfl (by kernel_rfl) rfl (fun w hC => c163  hx635)) rfl ?_
                  rintro _ _ ⟨_, ⟨a636, _, cp637, rfl, rfl, rfl⟩, rfl⟩
                  refine JL.eff (ef_store_box (i := 1) (v := .agg #[.int .i64 x635.W, .int .i64 x635.H, .slice a636 x635.Breaks.length cp637]) i28 rfl rfl rfl (i28s).symm (Nat.le_of_ble_eq_true rfl) (by simp [Value.cells, Value.oneCell'])) rfl ?_
                  rintro _ _ rfl
                  refine JL.nil ?_
                  refine JE.weak (env' := [(2, ptrAt (some ⟨g1, 0, none⟩) 0), (3, ptrAt (some ⟨g7, 0, none⟩) 0)]) (es' := [boxO 162 gb_0 [.slice a_0_0 q0.code.length c_0_0, .int .i64 x9.2.1, .int .u64 x9.2.2], boxO 28 g1 [.int .i64 0, .int .i64 0, .slice none 0 0], boxO 28 g7 [.int .i64 x635.W, .int .i64 x635.H, .slice a636 x635.Breaks.length cp637], rowT 2 eI64 a636 x635.Breaks.length cp637 x635.Breaks]) [3, 0, 1, 4] ?_ ⟨rfl, rfl, trivial⟩ (by decide) rfl
                  have hj := Option.some.inj hres
                  exact JE.weak [0, 1, 2, 3] (K a636 cp637) ⟨(by subst hj; rfl), (by subst hj; rfl), trivial⟩ (by decide) (by subst hj; rfl)
                · refine JX.condF rfl hb ?_
                  refine JX.skip ?_
                  have hj := Option.some.inj hres
                  exact JE.weak [3, 0, 1, 2] (K a4 cp5) ⟨(by subst hj; rfl), (by subst hj; rfl), trivial⟩ (by decide) (by subst hj; rfl)

/- spec.l19DrawScale -/
def sh131 (q0 : Sl00Src) : Option (Int × Int × Int) := Option.bind (sh123 q0 10) fun x1 => bif x1.1 then (Option.bind (sh124 (Sl00Src.mk q0.code x1.2.1 x1.2.2) [1, 2, 100, 101]) fun x4 => some (x4.1, x4.2.1, x4.2.2)) else (Option.bind (sh113 (Sl00Src.mk q0.code x1.2.1 x1.2.2) 16) fun x5 => some (w64 (8 + x5.1), x5.2.1, x5.2.2))
def T131 (gb_0 : Nat) (a_0_0 : Option Addr) (n_0_0 c_0_0 : Nat) (r : Int × Int × Int) (v : Value) (es' rs : List Own) : Prop := es' = [boxO 162 gb_0 [.slice a_0_0 n_0_0 c_0_0, .int .i64 r.2.1, .int .u64 r.2.2]] ∧ v = rets [.int .i64 r.1] ∧ rs = []
set_option maxRecDepth 100000 in
theorem c131 {w : World} {M : List Nat} {q0 : Sl00Src} {gb_0 : Nat} {a_0_0 : Option Addr} {n_0_0 c_0_0 : Nat} (g_0_0 : RdS M w a_0_0 (eU8.fl q0.code)) (l_0_0 : q0.code.length = n_0_0) (k_0_0 : n_0_0 ≤ c_0_0) (gs : Sep w.heap.size M w [boxO 162 gb_0 [.slice a_0_0 n_0_0 c_0_0, .int .i64 q0.at_, .int .u64 q0.seed]]) {r : Int × Int × Int} (hres : sh131 q0 = some r) : Calls Go.Proofs.Try.prog 131 [ptrAt (some ⟨gb_0, 0, none⟩) 0].toArray w (RetMs w M (T131 gb_0 a_0_0 n_0_0 c_0_0 r)) := by
  subst l_0_0
  unfold sh131 at hres
  refine calls_of (n := 11) (M := M) (es := [boxO 162 gb_0 [.slice a_0_0 q0.code.length c_0_0, .int .i64 q0.at_, .int .u64 q0.seed]]) Go.Proofs.Try.func131 rfl rfl rfl gs ?_
  refine JX.seq ?_
  refine JX.region ?_
  refine JL.val (yl_assign rfl) rfl ?_
  refine JL.nil ?_
  refine JE.code ?_
  refine JX.seq ?_
  refine JX.seq ?_
  refine JX.region ?_
  refine JL.val (yl_move rfl) rfl ?_
  obtain ⟨x1, hx1, hres⟩ := bind_some hres
  refine JL.eff (ef_callms (caps := []) (vs := [ptrAt (some ⟨gb_0, 0, none⟩) 0, .int .i64 10]) (T := T123 gb_0 a_0_0 q0.code.length c_0_0 x1) [0] [] [boxO 162 gb_0 [.slice a_0_0 q0.code.length c_0_0, .int .i64 q0.at_, .int .u64 q0.seed]] [] rfl Go.Proofs.Try.func123 rfl (by kernel_rfl) rfl (by decide) rfl rfl (fun w N hF hS => c123 (q0 := q0) (RdS.pass hF g_0_0) rfl k_0_0 hS hx1)) rfl ?_
  rintro _ _ ⟨_, _, ⟨rfl, rfl, rfl⟩, rfl⟩
  refine JL.nil ?_
  refine JE.code ?_
  rcases cond_some hres with ⟨hb, hres⟩ | ⟨hb, hres⟩
  · refine JX.condT rfl hb ?_
    refine JX.seq ?_
    refine JX.region ?_
    refine JL.val (yl_move rfl) rfl ?_
    refine JL.eff (ef_buildSlice (E := 2) (k := eI64.k) (us := eI64.fl [1, 2, 100, 101]) rfl (fun w => bsl22_4 1 2 100 101 w) rfl (by decide)) rfl ?_
    rintro _ _ ⟨a2, rfl, rfl⟩
    obtain ⟨x4, hx4, hres⟩ := bind_some hres
    refine JL.eff (ef_callms (caps := []) (vs := [ptrAt (some ⟨gb_0, 0, none⟩) 0, .slice a2 4 4]) (T := T124 gb_0 a_0_0 q0.code.length c_0_0 x4) [0] [1] [boxO 162 gb_0 [.slice a_0_0 q0.code.length c_0_0, .int .i64 x1.2.1, .int .u64 x1.2.2]] [rowT 2 eI64 a2 4 4 [1, 2, 100, 101]] rfl Go.Proofs.Try.func124 rfl (by kernel_rfl) rfl (by decide) rfl rfl (fun w N hF hS => c124 (q0 := Sl00Src.mk q0.code x1.2.1 x1.2.2) (RdS.pass hF g_0_0) rfl k_0_0 (RdS.row hF 1 rfl rfl) rfl (ln_row hF.cl 1 rfl) hS hx4)) rfl ?_
    rintro _ _ ⟨_, _, ⟨rfl, rfl, rfl⟩, rfl⟩
    refine JL.val (yl_assign rfl) rfl ?_
    refine JL.nil ?_
    refine JE.weak (env' := [(2, .int .i64 x4.1)]) (es' := [boxO 162 gb_0 [.slice a_0_0 q0.code.length c_0_0, .int .i64 x4.2.1, .int .u64 x4.2.2]]) [1] ?_ ⟨rfl, trivial⟩ (by decide) rfl
    refine JE.code ?_
    refine JX.ret ?_
    obtain rfl := Option.some.inj hres
    refine JE.ret (rs := [.tmp 2]) (vs := [.int .i64 x4.1]) rfl ⟨rfl, trivial⟩ ?_
    exact fun w' hb hs => ⟨_, _, _, ⟨rfl, rfl, rfl⟩, rfl, hb, hs.sel [0] _ (by decide) rfl⟩
  · refine JX.condF rfl hb ?_
    refine JX.skip ?_
    refine JE.code ?_
    refine JX.seq ?_
    refine JX.region ?_
    refine JL.val (yl_move rfl) rfl ?_
    obtain ⟨x5, hx5, hres⟩ := bind_some hres
    refine JL.eff (ef_callms (caps := []) (vs := [ptrAt (some ⟨gb_0, 0, none⟩) 0, .int .i64 16]) (T := T113 gb_0 a_0_0 q0.code.length c_0_0 x5) [0] [] [boxO 162 gb_0 [.slice a_0_0 q0.code.length c_0_0, .int .i64 x1.2.1, .int .u64 x1.2.2]] [] rfl Go.Proofs.Try.func113 rfl (by kernel_rfl) rfl (by decide) rfl rfl (fun w N hF hS => c113 (q0 := Sl00Src.mk q0.code x1.2.1 x1.2.2) (RdS.pass hF g_0_0) rfl k_0_0 hS hx5)) rfl ?_
    rintro _ _ ⟨_, _, ⟨rfl, rfl, rfl⟩, rfl⟩
    refine JL.val (yl_add rfl rfl) rfl ?_
    refine JL.val (yl_assign rfl) rfl ?_
    refine JL.nil ?_
    refine JE.weak (env' := [(2, .int .i64 (w64 (8 + x5.1)))]) (es' := [boxO 162 gb_0 [.slice a_0_0 q0.code.length c_0_0, .int .i64 x5.2.1, .int .u64 x5.2.2]]) [0] ?_ ⟨rfl, trivial⟩ (by decide) rfl
    refine JE.code ?_
    refine JX.ret ?_
    obtain rfl := Option.some.inj hres
    refine JE.ret (rs := [.tmp 2]) (vs := [.int .i64 (w64 (8 + x5.1))]) rfl ⟨rfl, trivial⟩ ?_
    exact fun w' hb hs => ⟨_, _, _, ⟨rfl, rfl, rfl⟩, rfl, hb, hs.sel [0] _ (by decide) rfl⟩

/- spec.DrawNearestPoint -/
def sh70 (q0 : List Int) : Option (SPanel × SPoint × Int) := Option.bind (sh109 q0) fun x5 => Option.bind (sh108 (Sl00Src.mk q0 x5.at_ x5.seed)) fun x8 => Option.bind (sh113 (Sl00Src.mk q0 x8.2.1 x8.2.2) 150) fun x14 => Option.bind (sh113 (Sl00Src.mk q0 x14.2.1 x14.2.2) 150) fun x15 => Option.bind (sh123 (Sl00Src.mk q0 x15.2.1 x15.2.2) 16) fun x18 => Option.bind (bif x18.1 then (Option.bind (sh124 (Sl00Src.mk q0 x18.2.1 x18.2.2) [(-1), 2000, 2001]) fun x24 => some ((x24.2.1, x24.2.2), SPoint.mk x24.1 x15.1)) else (some ((x18.2.1, x18.2.2), SPoint.mk x14.1 x15.1))) fun j19 => (Option.bind (sh131 (Sl00Src.mk q0 j19.1.1 j19.1.2)) fun x21 => some (x8.1, j19.2, x21.1))
def T70 (r : SPanel × SPoint × Int) (v : Value) (rs : List Own) : Prop := ∃ (a0_2 : Option Addr) (n0_2 c0_2 : Nat), r.1.Breaks.length = n0_2 ∧ v = rets [.agg #[.int .i64 r.1.W, .int .i64 r.1.H, .slice a0_2 n0_2 c0_2], .agg #[.int .i64 r.2.1.X, .int .i64 r.2.1.Y], .int .i64 r.2.2] ∧ rs = [rowT 2 eI64 a0_2 n0_2 c0_2 r.1.Breaks]
set_option maxRecDepth 100000 in
theorem c70 {w : World} {q0 : List Int} {a_0 : Option Addr} {n_0 c_0 : Nat} (g_0 : Rd w a_0 (eU8.fl q0)) (l_0 : q0.length = n_0) (k_0 : n_0 ≤ c_0) {r : SPanel × SPoint × Int} (hres : sh70 q0 = some r) : Calls Go.Proofs.Try.prog 70 [.slice a_0 n_0 c_0].toArray w (Ret w (T70 r)) := by
  subst l_0
  unfold sh70 at hres
  refine calls_of (n := 27) (M := []) (es := []) Go.Proofs.Try.func70 rfl rfl rfl (Sep.nil _ _ _) ?_
  refine JX.seq ?_
  refine JX.region ?_
  refine JL.eff (ef_alloc i28 i28z rfl) rfl ?_
  rintro _ _ ⟨g1, rfl, rfl⟩
  refine JL.eff (ef_alloc i35 i35z rfl) rfl ?_
  rintro _ _ ⟨g3, rfl, rfl⟩
  refine JL.val (yl_assign rfl) rfl ?_
  refine JL.nil ?_
  refine JE.code ?_
  refine JX.seq ?_
  refine JX.region ?_
  refine JL.val (yl_move rfl) rfl ?_
  obtain ⟨x5, hx5, hres⟩ := bind_some hres
  refine JL.eff (ef_call (T := T109 a_0 q0.length c_0 x5) Go.Proofs.Try.func109 rfl (by kernel_rfl) rfl (fun w hC => c109 (rd_arg g_0 hC) rfl k_0 hx5)) rfl ?_
  rintro _ _ ⟨_, ⟨g6, rfl, rfl⟩, rfl⟩
  refine JL.val (yl_assign rfl) rfl ?_
  refine JL.nil ?_
  refine JE.code ?_
  refine JX.seq ?_
  refine JX.region ?_
  refine JL.val (yl_move rfl) rfl ?_
  obtain ⟨x8, hx8, hres⟩ := bind_some hres
  refine JL.eff (ef_callms (caps := []) (vs := [ptrAt (some ⟨g6, 0, none⟩) 0]) (T := T108 g6 a_0 q0.length c_0 x8) [2] [0, 1] [boxO 162 g6 [.slice a_0 q0.length c_0, .int .i64 x5.at_, .int .u64 x5.seed]] [boxO 28 g1 [.int .i64 0, .int .i64 0, .slice none 0 0], boxO 35 g3 [.int .i64 0, .int .i64 0]] rfl Go.Proofs.Try.func108 rfl (by kernel_rfl) rfl (by decide) rfl rfl (fun w N hF hS => c108 (q0 := Sl00Src.mk q0 x5.at_ x5.seed) (RdS.pass0 hF g_0) rfl k_0 hS hx8)) rfl ?_
  rintro _ _ ⟨_, _, ⟨rfl, a9, _, cp10, rfl, rfl, rfl⟩, rfl⟩
  refine JL.eff (ef_alloc i28 i28z rfl) rfl ?_
  rintro _ _ ⟨g12, rfl, rfl⟩
  refine JL.eff (ef_store_box (i := 4) (v := .agg #[.int .i64 x8.1.W, .int .i64 x8.1.H, .slice a9 x8.1.Breaks.length cp10]) i28 rfl rfl rfl (i28s).symm (Nat.le_of_ble_eq_true rfl) (by simp [Value.cells, Value.oneCell'])) rfl ?_
  rintro _ _ rfl
  refine JL.nil ?_
  refine JE.weak (env' := [(2, ptrAt (some ⟨g1, 0, none⟩) 0), (3, ptrAt (some ⟨g3, 0, none⟩) 0), (5, ptrAt (some ⟨g6, 0, none⟩) 0), (6, ptrAt (some ⟨g12, 0, none⟩) 0)]) (es' := [boxO 28 g1 [.int .i64 0, .int .i64 0, .slice none 0 0], boxO 35 g3 [.int .i64 0, .int .i64 0], boxO 162 g6 [.slice a_0 q0.length c_0, .int .i64 x8.2.1, .int .u64 x8.2.2], boxO 28 g12 [.int .i64 x8.1.W, .int .i64 x8.1.H, .slice a9 x8.1.Breaks.length cp10], rowT 2 eI64 a9 x8.1.Breaks.length cp10 x8.1.Breaks]) [0, 1, 2, 4, 3] ?_ ⟨rfl, rfl, rfl, rfl, trivial⟩ (by decide) rfl
  refine JE.code ?_
  refine JX.seq ?_
  refine JX.region ?_
  refine JL.val (yl_move rfl) rfl ?_
  obtain ⟨x14, hx14, hres⟩ := bind_some hres
  refine JL.eff (ef_callms (caps := []) (vs := [ptrAt (some ⟨g6, 0, none⟩) 0, .int .i64 150]) (T := T113 g6 a_0 q0.length c_0 x14) [2] [0, 1, 3, 4] [boxO 162 g6 [.slice a_0 q0.length c_0, .int .i64 x8.2.1, .int .u64 x8.2.2]] [boxO 28 g1 [.int .i64 0, .int .i64 0, .slice none 0 0], boxO 35 g3 [.int .i64 0, .int .i64 0], boxO 28 g12 [.int .i64 x8.1.W, .int .i64 x8.1.H, .slice a9 x8.1.Breaks.length cp10], rowT 2 eI64 a9 x8.1.Breaks.length cp10 x8.1.Breaks] rfl Go.Proofs.Try.func113 rfl (by kernel_rfl) rfl (by decide) rfl rfl (fun w N hF hS => c113 (q0 := Sl00Src.mk q0 x8.2.1 x8.2.2) (RdS.pass0 hF g_0) rfl k_0 hS hx14)) rfl ?_
  rintro _ _ ⟨_, _, ⟨rfl, rfl, rfl⟩, rfl⟩
  refine JL.val (yl_move rfl) rfl ?_
  obtain ⟨x15, hx15, hres⟩ := bind_some hres
  refine JL.eff (ef_callms (caps := []) (vs := [ptrAt (some ⟨g6, 0, none⟩) 0, .int .i64 150]) (T := T113 g6 a_0 q0.length c_0 x15) [4] [0, 1, 2, 3] [boxO 162 g6 [.slice a_0 q0.length c_0, .int .i64 x14.2.1, .int .u64 x14.2.2]] [boxO 28 g1 [.int .i64 0, .int .i64 0, .slice none 0 0], boxO 35 g3 [.int .i64 0, .int .i64 0], boxO 28 g12 [.int .i64 x8.1.W, .int .i64 x8.1.H, .slice a9 x8.1.Breaks.length cp10], rowT 2 eI64 a9 x8.1.Breaks.length cp10 x8.1.Breaks] rfl Go.Proofs.Try.func113 rfl (by kernel_rfl) rfl (by decide) rfl rfl (fun w N hF hS => c113 (q0 := Sl00Src.mk q0 x14.2.1 x14.2.2) (RdS.pass0 hF g_0) rfl k_0 hS hx15)) rfl ?_
  rintro _ _ ⟨_, _, ⟨rfl, rfl, rfl⟩, rfl⟩
  refine JL.val (yl_build rfl (fun w => bld35_0_1 x14.1 x15.1 w)) rfl ?_
  refine JL.eff (ef_alloc i35 i35z rfl) rfl ?_
  rintro _ _ ⟨g16, rfl, rfl⟩
  refine JL.eff (ef_store_box (i := 5) (v := .agg #[.int .i64 x14.1, .int .i64 x15.1]) i35 rfl rfl rfl (i35s).symm (Nat.le_of_ble_eq_true rfl) (by simp [Value.cells, Value.oneCell'])) rfl ?_
  rintro _ _ rfl
  refine JL.nil ?_
  refine JE.weak (env' := [(2, ptrAt (some ⟨g1, 0, none⟩) 0), (3, ptrAt (some ⟨g3, 0, none⟩) 0), (5, ptrAt (some ⟨g6, 0, none⟩) 0), (6, ptrAt (some ⟨g12, 0, none⟩) 0), (7, ptrAt (some ⟨g16, 0, none⟩) 0)]) (es' := [boxO 28 g1 [.int .i64 0, .int .i64 0, .slice none 0 0], boxO 35 g3 [.int .i64 0, .int .i64 0], boxO 162 g6 [.slice a_0 q0.length c_0, .int .i64 x15.2.1, .int .u64 x15.2.2], boxO 28 g12 [.int .i64 x8.1.W, .int .i64 x8.1.H, .slice a9 x8.1.Breaks.length cp10], rowT 2 eI64 a9 x8.1.Breaks.length cp10 x8.1.Breaks, boxO 35 g16 [.int .i64 x14.1, .int .i64 x15.1]]) [0, 1, 4, 2, 3, 5] ?_ ⟨rfl, rfl, rfl, rfl, rfl, trivial⟩ (by decide) rfl
  refine JE.code ?_
  refine JX.seq ?_
  refine JX.seq ?_
  refine JX.region ?_
  refine JL.val (yl_move rfl) rfl ?_
  obtain ⟨x18, hx18, hres⟩ := bind_some hres
  refine JL.eff (ef_callms (caps := []) (vs := [ptrAt (some ⟨g6, 0, none⟩) 0, .int .i64 16]) (T := T123 g6 a_0 q0.length c_0 x18) [2] [0, 1, 3, 4, 5] [boxO 162 g6 [.slice a_0 q0.length c_0, .int .i64 x15.2.1, .int .u64 x15.2.2]] [boxO 28 g1 [.int .i64 0, .int .i64 0, .slice none 0 0], boxO 35 g3 [.int .i64 0, .int .i64 0], boxO 28 g12 [.int .i64 x8.1.W, .int .i64 x8.1.H, .slice a9 x8.1.Breaks.length cp10], rowT 2 eI64 a9 x8.1.Breaks.length cp10 x8.1.Breaks, boxO 35 g16 [.int .i64 x14.1, .int .i64 x15.1]] rfl Go.Proofs.Try.func123 rfl (by kernel_rfl) rfl (by decide) rfl rfl (fun w N hF hS => c123 (q0 := Sl00Src.mk q0 x15.2.1 x15.2.2) (RdS.pass0 hF g_0) rfl k_0 hS hx18)) rfl ?_
  rintro _ _ ⟨_, _, ⟨rfl, rfl, rfl⟩, rfl⟩
  refine JL.nil ?_
  refine JE.code ?_
  obtain ⟨j19, hj19, hresj19⟩ := bind_some hres
  refine JX.cut (K := fun J => J [(2, ptrAt (some ⟨g1, 0, none⟩) 0), (3, ptrAt (some ⟨g3, 0, none⟩) 0), (5, ptrAt (some ⟨g6, 0, none⟩) 0), (6, ptrAt (some ⟨g12, 0, none⟩) 0), (7, ptrAt (some ⟨g16, 0, none⟩) 0)] [boxO 28 g1 [.int .i64 0, .int .i64 0, .slice none 0 0], boxO 35 g3 [.int .i64 0, .int .i64 0], boxO 162 g6 [.slice a_0 q0.length c_0, .int .i64 j19.1.1, .int .u64 j19.1.2], boxO 28 g12 [.int .i64 x8.1.W, .int .i64 x8.1.H, .slice a9 x8.1.Breaks.length cp10], rowT 2 eI64 a9 x8.1.Breaks.length cp10 x8.1.Breaks, boxO 35 g16 [.int .i64 j19.2.X, .int .i64 j19.2.Y]]) ?_ ?_
  · have hres := hresj19
    refine JE.code ?_
    refine JX.seq ?_
    refine JX.drawH [(0, .read), (1, .read), (2, .pure), (3, .must), (4, .must), (5, .must), (6, .pure)] [3, 4, 5] [2, 0, 1] [3, 4, 5] [boxO 162 g6 [.slice a_0 q0.length c_0, .int .i64 j19.1.1, .int .u64 j19.1.2], boxO 28 g1 [.int .i64 0, .int .i64 0, .slice none 0 0], boxO 35 g3 [.int .i64 0, .int .i64 0]] [boxO 28 g12 [.int .i64 x8.1.W, .int .i64 x8.1.H, .slice a9 x8.1.Breaks.length cp10], rowT 2 eI64 a9 x8.1.Breaks.length cp10 x8.1.Breaks, boxO 35 g16 [.int .i64 j19.2.X, .int .i64 j19.2.Y]] mixedP (by kernel_rfl) (by kernel_rfl) (by decide) rfl rfl ?_
    intro wrr20 Nr20 hFr20
    refine JH.read rfl (yl_loadn Go.Proofs.Try.underlying28 rfl i28 rfl (fun w hw => hFr20.box 3 rfl rfl hw) rfl (i28s).symm i28p) rfl ?_
    refine JH.read rfl (yl_loadn Go.Proofs.Try.underlying35 rfl i35 rfl (fun w hw => hFr20.box 5 rfl rfl hw) rfl (i35s).symm i35p) rfl ?_
    refine JH.pure rfl (yl_move rfl) rfl ?_
    obtain ⟨x21, hx21, hres⟩ := bind_some hres
    refine JH.must rfl (ef_callms (caps := []) (vs := [ptrAt (some ⟨g6, 0, none⟩) 0]) (T := T131 g6 a_0 q0.length c_0 x21) [0] [1, 2] [boxO 162 g6 [.slice a_0 q0.length c_0, .int .i64 j19.1.1, .int .u64 j19.1.2]] [boxO 28 g1 [.int .i64 0, .int .i64 0, .slice none 0 0], boxO 35 g3 [.int .i64 0, .int .i64 0]] rfl Go.Proofs.Try.func131 rfl (by kernel_rfl) rfl (by decide) rfl rfl (fun w N hF hS => c131 (q0 := Sl00Src.mk q0 j19.1.1 j19.1.2) (RdS.pass hF (RdS.pass0 hFr20 g_0)) rfl k_0 hS hx21)) rfl rfl ?_
    rintro _ _ ⟨_, _, ⟨rfl, rfl, rfl⟩, rfl⟩
    refine JH.must rfl (ef_store_box (i := 0) (v := .agg #[.int .i64 x8.1.W, .int .i64 x8.1.H, .slice a9 x8.1.Breaks.length cp10]) i28 rfl rfl rfl (i28s).symm (Nat.le_of_ble_eq_true rfl) (by simp [Value.cells, Value.oneCell'])) rfl rfl ?_
    rintro _ _ rfl
    refine JH.must rfl (ef_store_box (i := 1) (v := .agg #[.int .i64 j19.2.X, .int .i64 j19.2.Y]) i35 rfl rfl rfl (i35s).symm (Nat.le_of_ble_eq_true rfl) (by simp [Value.cells, Value.oneCell'])) rfl rfl ?_
    rintro _ _ rfl
    refine JH.pure rfl (yl_assign rfl) rfl ?_
    refine JH.nil ?_
    refine JE.weak (env' := [(2, ptrAt (some ⟨g1, 0, none⟩) 0), (3, ptrAt (some ⟨g3, 0, none⟩) 0), (4, .int .i64 x21.1)]) (es' := [boxO 28 g1 [.int .i64 x8.1.W, .int .i64 x8.1.H, .slice a9 x8.1.Breaks.length cp10], rowT 2 eI64 a9 x8.1.Breaks.length cp10 x8.1.Breaks, boxO 35 g3 [.int .i64 j19.2.X, .int .i64 j19.2.Y]]) [3, 1, 4] ?_ ⟨rfl, rfl, rfl, trivial⟩ (by decide) rfl
    refine JE.code ?_
    refine JX.ret ?_
    obtain rfl := Option.some.inj hres
    refine JE.ret (rs := [.cell 2 28, .cell 3 35, .tmp 4]) (vs := [.agg #[.int .i64 x8.1.W, .int .i64 x8.1.H, .slice a9 x8.1.Breaks.length cp10], .agg #[.int .i64 j19.2.X, .int .i64 j19.2.Y], .int .i64 x21.1]) rfl ⟨rv_box 0 rfl rfl Go.Proofs.Try.underlying28 rfl i28 (i28s).symm, rv_box 2 rfl rfl Go.Proofs.Try.underlying35 rfl i35 (i35s).symm, rfl, trivial⟩ ?_
    exact fun w' hb hs => ⟨_, _, ⟨a9, x8.1.Breaks.length, cp10, rfl, rfl, rfl⟩, rfl, hb, hs.sel [1] _ (by decide) rfl⟩
  · intro K
    rcases cond_some hj19 with ⟨hb, hres⟩ | ⟨hb, hres⟩
    · refine JX.condT rfl hb ?_
      refine JX.region ?_
      refine JL.val (yl_move rfl) rfl ?_
      refine JL.eff (ef_buildSlice (E := 2) (k := eI64.k) (us := eI64.fl [(-1), 2000, 2001]) rfl (fun w => bsl22_3 (-1) 2000 2001 w) rfl (by decide)) rfl ?_
      rintro _ _ ⟨a22, rfl, rfl⟩
      obtain ⟨x24, hx24, hres⟩ := bind_some hres
      refine JL.eff (ef_callms (caps := []) (vs := [ptrAt (some ⟨g6, 0, none⟩) 0, .slice a22 3 3]) (T := T124 g6 a_0 q0.length c_0 x24) [5] [0, 1, 2, 3, 4, 6] [boxO 162 g6 [.slice a_0 q0.length c_0, .int .i64 x18.2.1, .int .u64 x18.2.2]] [boxO 28 g1 [.int .i64 0, .int .i64 0, .slice none 0 0], boxO 35 g3 [.int .i64 0, .int .i64 0], boxO 28 g12 [.int .i64 x8.1.W, .int .i64 x8.1.H, .slice a9 x8.1.Breaks.length cp10], rowT 2 eI64 a9 x8.1.Breaks.length cp10 x8.1.Breaks, boxO 35 g16 [.int .i64 x14.1, .int .i64 x15.1], rowT 2 eI64 a22 3 3 [(-1), 2000, 2001]] rfl Go.Proofs.Try.func124 rfl (by kernel_rfl) rfl (by decide) rfl rfl (fun w N hF hS => c124 (q0 := Sl00Src.mk q0 x18.2.1 x18.2.2) (RdS.pass0 hF g_0) rfl k_0 (RdS.row hF 6 rfl rfl) rfl (ln_row hF.cl 6 rfl) hS hx24)) rfl ?_
      rintro _ _ ⟨_, _, ⟨rfl, rfl, rfl⟩, rfl⟩
      refine JL.val (yl_fieldAt (a := some _) Go.Proofs.Try.underlying35 rfl i2 i2n rfl rfl) rfl ?_
      refine JL.eff (ef_store_box (i := 4) (v := .int .i64 x24.1) i2 rfl rfl rfl (i2s).symm (Nat.le_of_ble_eq_true rfl) (by simp [Value.cells, Value.oneCell'])) rfl ?_
      rintro _ _ rfl
      refine JL.nil ?_
      refine JE.weak (env' := [(2, ptrAt (some ⟨g1, 0, none⟩) 0), (3, ptrAt (some ⟨g3, 0, none⟩) 0), (5, ptrAt (some ⟨g6, 0, none⟩) 0), (6, ptrAt (some ⟨g12, 0, none⟩) 0), (7, ptrAt (some ⟨g16, 0, none⟩) 0)]) (es' := [boxO 28 g1 [.int .i64 0, .int .i64 0, .slice none 0 0], boxO 35 g3 [.int .i64 0, .int .i64 0], boxO 162 g6 [.slice a_0 q0.length c_0, .int .i64 x24.2.1, .int .u64 x24.2.2], boxO 28 g12 [.int .i64 x8.1.W, .int .i64 x8.1.H, .slice a9 x8.1.Breaks.length cp10], rowT 2 eI64 a9 x8.1.Breaks.length cp10 x8.1.Breaks, boxO 35 g16 [.int .i64 x24.1, .int .i64 x15.1]]) [0, 1, 6, 2, 3, 4] ?_ ⟨rfl, rfl, rfl, rfl, rfl, trivial⟩ (by decide) rfl
      have hj := Option.some.inj hres
      exact JE.weak [0, 1, 2, 3, 4, 5] (K) ⟨(by subst hj; rfl), (by subst hj; rfl), (by subst hj; rfl), (by subst hj; rfl), (by subst hj; rfl), trivial⟩ (by decide) (by subst hj; rfl)
    · refine JX.condF rfl hb ?_
      refine JX.skip ?_
      have hj := Option.some.inj hres
      exact JE.weak [0, 1, 5, 2, 3, 4] (K) ⟨(by subst hj; rfl), (by subst hj; rfl), (by subst hj; rfl), (by subst hj; rfl), (by subst hj; rfl), trivial⟩ (by decide) (by subst hj; rfl)

/- impl.validSize -/
def sh146 (q0 : Int) (q1 : Int) : Option (Bool) := Option.bind (sh125 q0 1 8) fun x1 => Option.bind (bif x1 then (Option.bind (sh125 q1 1 8) fun x3 => some x3) else (some false)) fun cb2 => (some cb2)
def T146 (r : Bool) (v : Value) (rs : List Own) : Prop := v = rets [.bool r] ∧ rs = []
set_option maxRecDepth 100000 in
theorem c146 {w : World} {q0 : Int} {q1 : Int} {r : Bool} (hres : sh146 q0 q1 = some r) : Calls Go.Proofs.Try.prog 146 [.int .i64 q0, .int .i64 q1].toArray w (Ret w (T146 r)) := by
  unfold sh146 at hres
  refine calls_of (n := 11) (M := []) (es := []) Go.Proofs.Try.func146 rfl rfl rfl (Sep.nil _ _ _) ?_
  refine JX.seq ?_
  refine JX.region ?_
  refine JL.val (yl_assign rfl) rfl ?_
  refine JL.nil ?_
  refine JE.code ?_
  refine JX.seq ?_
  refine JX.region ?_
  refine JL.val (yl_move rfl) rfl ?_
  obtain ⟨x1, hx1, hres⟩ := bind_some hres
  refine JL.eff (ef_call (T := T125 x1) Go.Proofs.Try.func125 rfl (by kernel_rfl) rfl (fun w hC => c125  hx1)) rfl ?_
  rintro _ _ ⟨_, ⟨rfl, rfl⟩, rfl⟩
  refine JL.val (yl_move rfl) rfl ?_
  obtain ⟨cb2, hcb2, hres⟩ := bind_some hres
  refine JL.cut (K := fun J => J [(10, .bool cb2)] []) 3 ?_ ?_
  · refine JL.val (yl_assign rfl) rfl ?_
    refine JL.nil ?_
    refine JE.weak (env' := [(4, .bool cb2)]) (es' := []) [] ?_ ⟨rfl, trivial⟩ (by decide) rfl
    refine JE.code ?_
    refine JX.ret ?_
    obtain rfl := Option.some.inj hres
    refine JE.ret (rs := [.tmp 4]) (vs := [.bool cb2]) rfl ⟨rfl, trivial⟩ ?_
    exact fun w' hb hs => ⟨_, _, ⟨rfl, rfl⟩, rfl, hb, hs.sel [] _ (by decide) rfl⟩
  · intro K
    rcases cond_some hcb2 with ⟨hb, hres⟩ | ⟨hb, hres⟩
    · refine JL.set (d := 7) (v := .bool true) (congrArg (fun b => some (Value.bool b)) hb) ?_
      refine JL.gval rfl rfl (yl_move rfl) rfl ?_
      obtain ⟨x3, hx3, hres⟩ := bind_some hres
      refine JL.geff rfl rfl (ef_call (T := T125 x3) Go.Proofs.Try.func125 rfl (by kernel_rfl) rfl (fun w hC => c125  hx3)) rfl ?_
      rintro _ _ ⟨_, ⟨rfl, rfl⟩, rfl⟩
      refine JL.val (yl_pick_true rfl rfl) rfl ?_
      have he := Option.some.inj hres
      exact JL.weak [] K ⟨(by rw [← he]; rfl), trivial⟩ (by decide) rfl
    · refine JL.set (d := 7) (v := .bool false) (congrArg (fun b => some (Value.bool b)) hb) ?_
      refine JL.gskip rfl rfl rfl rfl ?_
      refine JL.gskip rfl rfl rfl rfl ?_
      refine JL.val (yl_pick_false rfl rfl) rfl ?_
      have he := Option.some.inj hres
      exact JL.weak [] K ⟨(by rw [← he]; rfl), trivial⟩ (by decide) rfl

/- impl.innerPoints -/
def sh147 (q0 : Int) (q1 : Int) : Option (Int) := some (w64 ((w64 (q0 * (w64 (q1 - 1)))) + (w64 (q1 * (w64 (q0 - 1))))))
def T147 (r : Int) (v : Value) (rs : List Own) : Prop := v = rets [.int .i64 r] ∧ rs = []
set_option maxRecDepth 100000 in
theorem c147 {w : World} {q0 : Int} {q1 : Int} {r : Int} (hres : sh147 q0 q1 = some r) : Calls Go.Proofs.Try.prog 147 [.int .i64 q0, .int .i64 q1].toArray w (Ret w (T147 r)) := by
  unfold sh147 at hres
  refine calls_of (n := 14) (M := []) (es := []) Go.Proofs.Try.func147 rfl rfl rfl (Sep.nil _ _ _) ?_
  refine JX.seq ?_
  refine JX.region ?_
  refine JL.val (yl_assign rfl) rfl ?_
  refine JL.nil ?_
  refine JE.code ?_
  refine JX.seq ?_
  refine JX.region ?_
  refine JL.val (yl_move rfl) rfl ?_
  refine JL.val (yl_move rfl) rfl ?_
  refine JL.val (yl_sub rfl rfl) rfl ?_
  refine JL.val (yl_mul rfl rfl) rfl ?_
  refine JL.val (yl_move rfl) rfl ?_
  refine JL.val (yl_move rfl) rfl ?_
  refine JL.val (yl_sub rfl rfl) rfl ?_
  refine JL.val (yl_mul rfl rfl) rfl ?_
  refine JL.val (yl_add rfl rfl) rfl ?_
  refine JL.val (yl_assign rfl) rfl ?_
  refine JL.nil ?_
  refine JE.weak (env' := [(4, .int .i64 (w64 ((w64 (q0 * (w64 (q1 - 1)))) + (w64 (q1 * (w64 (q0 - 1)))))))]) (es' := []) [] ?_ ⟨rfl, trivial⟩ (by decide) rfl
  refine JE.code ?_
  refine JX.ret ?_
  obtain rfl := Option.some.inj hres
  refine JE.ret (rs := [.tmp 4]) (vs := [.int .i64 (w64 ((w64 (q0 * (w64 (q1 - 1)))) + (w64 (q1 * (w64 (q0 - 1))))))]) rfl ⟨rfl, trivial⟩ ?_
  exact fun w' hb hs => ⟨_, _, ⟨rfl, rfl⟩, rfl, hb, hs.sel [] _ (by decide) rfl⟩

/- impl.validBreak -/
def sh148 (q0 : Int) : Option (Bool) := Option.bind (sh125 q0 0 2) fun x1 => some x1
def T148 (r : Bool) (v : Value) (rs : List Own) : Prop := v = rets [.bool r] ∧ rs = []
set_option maxRecDepth 100000 in
theorem c148 {w : World} {q0 : Int} {r : Bool} (hres : sh148 q0 = some r) : Calls Go.Proofs.Try.prog 148 [.int .i64 q0].toArray w (Ret w (T148 r)) := by
  unfold sh148 at hres
  refine calls_of (n := 5) (M := []) (es := []) Go.Proofs.Try.func148 rfl rfl rfl (Sep.nil _ _ _) ?_
  refine JX.seq ?_
  refine JX.region ?_
  refine JL.val (yl_assign rfl) rfl ?_
  refine JL.nil ?_
  refine JE.code ?_
  refine JX.seq ?_
  refine JX.region ?_
  refine JL.val (yl_move rfl) rfl ?_
  obtain ⟨x1, hx1, hres⟩ := bind_some hres
  refine JL.eff (ef_call (T := T125 x1) Go.Proofs.Try.func125 rfl (by kernel_rfl) rfl (fun w hC => c125  hx1)) rfl ?_
  rintro _ _ ⟨_, ⟨rfl, rfl⟩, rfl⟩
  refine JL.val (yl_assign rfl) rfl ?_
  refine JL.nil ?_
  refine JE.code ?_
  refine JX.ret ?_
  obtain rfl := Option.some.inj hres
  refine JE.ret (rs := [.tmp 2]) (vs := [.bool x1]) rfl ⟨rfl, trivial⟩ ?_
  exact fun w' hb hs => ⟨_, _, ⟨rfl, rfl⟩, rfl, hb, hs.sel [] _ (by decide) rfl⟩

/- impl.ValidPanel -/
def sh86_1 (q0 : SPanel) : Int → Option (Int ⊕ (Unit ⊕ Bool))
  | x7 => bif decide (x7 < (q0.Breaks.length : Int)) then (Option.bind (getI q0.Breaks x7) fun x8 => Option.bind (sh148 x8) fun x9 => bif !x9 then (some (.inr (.inr false))) else (some (.inl (w64 (x7 + 1))))) else (some (.inr (.inl ())))
def sh86 (q0 : SPanel) : Option (Bool) := Option.bind (sh146 q0.W q0.H) fun x4 => Option.bind (bif !x4 then (some true) else (Option.bind (sh147 q0.W q0.H) fun x6 => some ((q0.Breaks.length : Int) != x6))) fun cb5 => (bif cb5 then (some false) else (Option.bind (iter (sh86_1 q0) 0) fun y1 => elimS y1 (fun r => some r) fun b1 => (some true)))
def T86 (r : Bool) (v : Value) (rs : List Own) : Prop := v = rets [.bool r] ∧ rs = []
set_option maxRecDepth 100000 in
theorem c86 {w : World} {q0 : SPanel} {a_0_2 : Option Addr} {n_0_2 c_0_2 : Nat} (g_0_2 : Rd w a_0_2 (eI64.fl q0.Breaks)) (l_0_2 : q0.Breaks.length = n_0_2) (k_0_2 : n_0_2 ≤ c_0_2) {r : Bool} (hres : sh86 q0 = some r) : Calls Go.Proofs.Try.prog 86 [.agg #[.int .i64 q0.W, .int .i64 q0.H, .slice a_0_2 n_0_2 c_0_2]].toArray w (Ret w (T86 r)) := by
  subst l_0_2
  unfold sh86 at hres
  refine calls_of (n := 33) (M := []) (es := []) Go.Proofs.Try.func86 rfl rfl rfl (Sep.nil _ _ _) ?_
  refine JX.seq ?_
  refine JX.region ?_
  refine JL.eff (ef_box rfl rfl) rfl ?_
  rintro _ _ ⟨g1, rfl, rfl⟩
  refine JL.val (yl_assign rfl) rfl ?_
  refine JL.nil ?_
  refine JE.code ?_
  refine JX.seq ?_
  refine JX.seq ?_
  refine JX.drawH [(0, .pure), (1, .read), (2, .pure), (3, .read), (4, .must), (5, .pure), (6, .pure), (7, .pure), (8, .read), (9, .pure), (10, .pure), (11, .read), (12, .pure), (13, .read), (14, .must), (15, .pure), (16, .pure)] [] [] [0] [] [boxO 28 g1 [.int .i64 q0.W, .int .i64 q0.H, .slice a_0_2 q0.Breaks.length c_0_2]] mixedP (by kernel_rfl) (by kernel_rfl) (by decide) rfl rfl ?_
  intro wrr3 Nr3 hFr3
  refine JH.pure rfl (yl_fieldAt (a := some _) Go.Proofs.Try.underlying28 rfl i2 i2n rfl rfl) rfl ?_
  refine JH.read rfl (yl_load1 Go.Proofs.Try.underlying2 rfl rfl (fun w hw => hFr3.box 0 rfl rfl hw) rfl) rfl ?_
  refine JH.pure rfl (yl_fieldAt (a := some _) Go.Proofs.Try.underlying28 rfl i2 i2n rfl rfl) rfl ?_
  refine JH.read rfl (yl_load1 Go.Proofs.Try.underlying2 rfl rfl (fun w hw => hFr3.box 0 rfl rfl hw) rfl) rfl ?_
  obtain ⟨x4, hx4, hres⟩ := bind_some hres
  refine JH.must rfl (ef_call (T := T146 x4) Go.Proofs.Try.func146 rfl (by kernel_rfl) rfl (fun w hC => c146  hx4)) rfl rfl ?_
  rintro _ _ ⟨_, ⟨rfl, rfl⟩, rfl⟩
  refine JH.pure rfl (yl_not rfl) rfl ?_
  refine JH.pure rfl (yl_move rfl) rfl ?_
  obtain ⟨cb5, hcb5, hres⟩ := bind_some hres
  refine JH.cut (K := fun J => J [(1, ptrAt (some ⟨g1, 0, none⟩) 0), (21, .bool cb5)] []) 10 ?_ ?_
  · refine JH.nil ?_
    refine JE.weak (env' := [(1, ptrAt (some ⟨g1, 0, none⟩) 0), (21, .bool cb5)]) (es' := [boxO 28 g1 [.int .i64 q0.W, .int .i64 q0.H, .slice a_0_2 q0.Breaks.length c_0_2]]) [0] ?_ ⟨rfl, rfl, trivial⟩ (by decide) rfl
    refine JE.code ?_
    rcases cond_some hres with ⟨hb, hres⟩ | ⟨hb, hres⟩
    · refine JX.condT rfl hb ?_
      refine JX.seq ?_
      refine JX.region ?_
      refine JL.val (yl_assign rfl) rfl ?_
      refine JL.nil ?_
      refine JE.weak (env' := [(2, .bool false)]) (es' := []) [] ?_ ⟨rfl, trivial⟩ (by decide) rfl
      refine JE.code ?_
      refine JX.ret ?_
      obtain rfl := Option.some.inj hres
      refine JE.ret (rs := [.tmp 2]) (vs := [.bool false]) rfl ⟨rfl, trivial⟩ ?_
      exact fun w' hb hs => ⟨_, _, ⟨rfl, rfl⟩, rfl, hb, hs.sel [] _ (by decide) rfl⟩
    · refine JX.condF rfl hb ?_
      refine JX.skip ?_
      refine JE.code ?_
      refine JX.seq ?_
      refine JX.seq ?_
      refine JX.region ?_
      refine JL.val (yl_fieldAt (a := some _) Go.Proofs.Try.underlying28 rfl i22 i22n rfl rfl) rfl ?_
      refine JL.val (yl_load1 Go.Proofs.Try.underlying22 rfl rfl (fun w hC => rd_box hC 0 rfl) rfl) rfl ?_
      refine JL.val (yl_len_slice Go.Proofs.Try.underlying22 rfl) rfl ?_
      refine JL.val (yl_move rfl) rfl ?_
      refine JL.nil ?_
      refine JE.weak (env' := [(23, .slice a_0_2 q0.Breaks.length c_0_2), (24, .int .i64 (q0.Breaks.length : Int)), (25, .int .i64 0)]) (es' := []) [] ?_ ⟨rfl, rfl, rfl, trivial⟩ (by decide) rfl
      refine JE.code ?_
      refine JX.block ?_
      obtain ⟨y1, hy1, hresO1⟩ := bind_some hres
      refine JX.loop (I := fun (s1 : Int) aa ww => St w [] 33 [(23, .slice a_0_2 q0.Breaks.length c_0_2), (24, .int .i64 (q0.Breaks.length : Int)), (25, .int .i64 s1)] [] aa ww) (sh86_1 q0) hy1 (fun a w h => h.weak ⟨rfl, rfl, rfl, trivial⟩ [] (by decide) rfl) ?_
      rintro x7 o1 hres hox1 aa ww hS
      refine (?_ : JX Go.Proofs.Try.prog w [] 33 _ _ [(23, .slice a_0_2 q0.Breaks.length c_0_2), (24, .int .i64 (q0.Breaks.length : Int)), (25, .int .i64 x7)] [] _) aa ww hS
      clear hS
      unfold sh86_1 at hres
      refine JX.seq ?_
      refine JX.region ?_
      refine JL.val (yl_lss rfl rfl) rfl ?_
      refine JL.nil ?_
      refine JE.code ?_
      refine JX.seq ?_
      rcases cond_some hres with ⟨hb, hres⟩ | ⟨hb, hres⟩
      · refine JX.condT rfl hb ?_
        refine JX.skip ?_
        refine JE.code ?_
        refine JX.seq ?_
        refine JX.block ?_
        refine JX.seq ?_
        refine JX.region ?_
        obtain ⟨x8, hx8, hres⟩ := bind_some hres
        refine JL.val (yl_idxT Go.Proofs.Try.underlying22 i2 i2s rfl rfl hx8 rfl (fun w hC => rd_arg g_0_2 hC)) rfl ?_
        refine JL.val (yl_loadT0 Go.Proofs.Try.underlying2 rfl rfl hx8 (fun w hC => rd_arg g_0_2 hC) rfl) rfl ?_
        refine JL.val (yl_assign rfl) rfl ?_
        refine JL.nil ?_
        refine JE.code ?_
        refine JX.seq ?_
        refine JX.region ?_
        refine JL.val (yl_move rfl) rfl ?_
        obtain ⟨x9, hx9, hres⟩ := bind_some hres
        refine JL.eff (ef_call (T := T148 x9) Go.Proofs.Try.func148 rfl (by kernel_rfl) rfl (fun w hC => c148  hx9)) rfl ?_
        rintro _ _ ⟨_, ⟨rfl, rfl⟩, rfl⟩
        refine JL.val (yl_not rfl) rfl ?_
        refine JL.nil ?_
        refine JE.code ?_
        rcases cond_some hres with ⟨hb, hres⟩ | ⟨hb, hres⟩
        · refine JX.condT rfl hb ?_
          refine JX.seq ?_
          refine JX.region ?_
          refine JL.val (yl_assign rfl) rfl ?_
          refine JL.nil ?_
          refine JE.code ?_
          refine JX.ret ?_
          refine JE.qbr ?_
          refine JE.qbr ?_
          have hres := elimS_inr hresO1 (hox1 _ (Option.some.inj hres).symm)
          obtain rfl := Option.some.inj hres
          refine JE.ret (rs := [.tmp 2]) (vs := [.bool false]) rfl ⟨rfl, trivial⟩ ?_
          exact fun w' hb hs => ⟨_, _, ⟨rfl, rfl⟩, rfl, hb, hs.sel [] _ (by decide) rfl⟩
        · refine JX.condF rfl hb ?_
          refine JX.skip ?_
          refine JE.code ?_
          refine JX.region ?_
          refine JL.val (yl_add rfl rfl) rfl ?_
          refine JL.val (yl_move rfl) rfl ?_
          refine JL.nil ?_
          refine JE.cont hres ?_
          exact fun a w h => h.weak ⟨rfl, rfl, rfl, trivial⟩ [] (by decide) rfl
      · refine JX.condF rfl hb ?_
        refine JX.exit ?_
        refine JE.qb rfl ?_
        obtain ⟨b1, hb1⟩ : ∃ b : Unit, b = () := ⟨_, rfl⟩
        have hy1 : Sum.inl b1 = y1 := by rw [hb1]; exact hox1 _ (Option.some.inj hres).symm
        have hres := elimS_inl hresO1 hy1
        refine JE.weak (env' := []) (es' := []) [] ?_ trivial (by decide) (by subst hb1; rfl)
        refine JE.code ?_
        refine JX.seq ?_
        refine JX.region ?_
        refine JL.val (yl_assign rfl) rfl ?_
        refine JL.nil ?_
        refine JE.code ?_
        refine JX.ret ?_
        obtain rfl := Option.some.inj hres
        refine JE.ret (rs := [.tmp 2]) (vs := [.bool true]) rfl ⟨rfl, trivial⟩ ?_
        exact fun w' hb hs => ⟨_, _, ⟨rfl, rfl⟩, rfl, hb, hs.sel [] _ (by decide) rfl⟩
  · intro K
    rcases cond_some hcb5 with ⟨hb, hres⟩ | ⟨hb, hres⟩
    · refine JH.set (d := 11) (v := .bool true) (congrArg (fun b => some (Value.bool b)) hb) ?_
      refine JH.gskip rfl rfl rfl rfl rfl rfl ?_
      refine JH.gskip rfl rfl rfl rfl rfl rfl ?_
      refine JH.gskip rfl rfl rfl rfl rfl rfl ?_
      refine JH.gskip rfl rfl rfl rfl rfl rfl ?_
      refine JH.gskip rfl rfl rfl rfl rfl rfl ?_
      refine JH.gskip rfl rfl rfl rfl rfl rfl ?_
      refine JH.gskip rfl rfl rfl rfl rfl rfl ?_
      refine JH.gskip rfl rfl rfl rfl rfl rfl ?_
      refine JH.gskip rfl rfl rfl rfl rfl rfl ?_
      refine JH.pure rfl (yl_pick_true rfl rfl) rfl ?_
      have he := Option.some.inj hres
      exact JH.weak [] K ⟨rfl, (by rw [← he]; rfl), trivial⟩ (by decide) rfl
    · refine JH.set (d := 11) (v := .bool false) (congrArg (fun b => some (Value.bool b)) hb) ?_
      refine JH.gpure rfl rfl rfl (yl_fieldAt (a := some _) Go.Proofs.Try.underlying28 rfl i22 i22n rfl rfl) rfl ?_
      refine JH.gread rfl rfl rfl (yl_load1 Go.Proofs.Try.underlying22 rfl rfl (fun w hw => hFr3.box 0 rfl rfl hw) rfl) rfl ?_
      refine JH.gpure rfl rfl rfl (yl_len_slice Go.Proofs.Try.underlying22 rfl) rfl ?_
      refine JH.gpure rfl rfl rfl (yl_fieldAt (a := some _) Go.Proofs.Try.underlying28 rfl i2 i2n rfl rfl) rfl ?_
      refine JH.gread rfl rfl rfl (yl_load1 Go.Proofs.Try.underlying2 rfl rfl (fun w hw => hFr3.box 0 rfl rfl hw) rfl) rfl ?_
      refine JH.gpure rfl rfl rfl (yl_fieldAt (a := some _) Go.Proofs.Try.underlying28 rfl i2 i2n rfl rfl) rfl ?_
      refine JH.gread rfl rfl rfl (yl_load1 Go.Proofs.Try.underlying2 rfl rfl (fun w hw => hFr3.box 0 rfl rfl hw) rfl) rfl ?_
      obtain ⟨x6, hx6, hres⟩ := bind_some hres
      refine JH.gmust rfl rfl rfl (ef_call (T := T147 x6) Go.Proofs.Try.func147 rfl (by kernel_rfl) rfl (fun w hC => c147  hx6)) rfl rfl ?_
      rintro _ _ ⟨_, ⟨rfl, rfl⟩, rfl⟩
      refine JH.gpure rfl rfl rfl (yl_neq rfl rfl) rfl ?_
      refine JH.pure rfl (yl_pick_false rfl rfl) rfl ?_
      have he := Option.some.inj hres
      exact JH.weak [] K ⟨rfl, (by rw [← he]; rfl), trivial⟩ (by decide) rfl

/- impl.validScale -/
def sh133 (q0 : Int) : Option (Bool) := Option.bind (sh125 q0 2 100) fun x1 => some x1
def T133 (r : Bool) (v : Value) (rs : List Own) : Prop := v = rets [.bool r] ∧ rs = []
set_option maxRecDepth 100000 in
theorem c133 {w : World} {q0 : Int} {r : Bool} (hres : sh133 q0 = some r) : Calls Go.Proofs.Try.prog 133 [.int .i64 q0].toArray w (Ret w (T133 r)) := by
  unfold sh133 at hres
  refine calls_of (n := 5) (M := []) (es := []) Go.Proofs.Try.func133 rfl rfl rfl (Sep.nil _ _ _) ?_
  refine JX.seq ?_
  refine JX.region ?_
  refine JL.val (yl_assign rfl) rfl ?_
  refine JL.nil ?_
  refine JE.code ?_
  refine JX.seq ?_
  refine JX.region ?_
  refine JL.val (yl_move rfl) rfl ?_
  obtain ⟨x1, hx1, hres⟩ := bind_some hres
  refine JL.eff (ef_call (T := T125 x1) Go.Proofs.Try.func125 rfl (by kernel_rfl) rfl (fun w hC => c125  hx1)) rfl ?_
  rintro _ _ ⟨_, ⟨rfl, rfl⟩, rfl⟩
  refine JL.val (yl_assign rfl) rfl ?_
  refine JL.nil ?_
  refine JE.code ?_
  refine JX.ret ?_
  obtain rfl := Option.some.inj hres
  refine JE.ret (rs := [.tmp 2]) (vs := [.bool x1]) rfl ⟨rfl, trivial⟩ ?_
  exact fun w' hb hs => ⟨_, _, ⟨rfl, rfl⟩, rfl, hb, hs.sel [] _ (by decide) rfl⟩

/- (impl.Panel).allPoints -/
def sh174_2 (q0 : SPanel) (x7 : Int) : (Int × List SPoint) → Option ((Int × List SPoint) ⊕ (List SPoint))
  | (x13, x14) => bif decide (x13 < (w64 ((w64 (2 * q0.W)) + 1))) then (Option.bind (bif ((w64 (x13 + x7)).tmod 2) == 1 then (Option.bind (appL x14 [SPoint.mk x13 x7]) fun x22 => some x22) else (some x14)) fun j17 => (some (.inl (w64 (x13 + 1), j17)))) else (some (.inr x14))
def sh174_1 (q0 : SPanel) : (Int × List SPoint) → Option ((Int × List SPoint) ⊕ (List SPoint))
  | (x7, x8) => bif decide (x7 < (w64 ((w64 (2 * q0.H)) + 1))) then (Option.bind (iter (sh174_2 q0 x7) (0, x8)) fun b2 => (some (.inl (w64 (x7 + 1), b2)))) else (some (.inr x8))
def sh174 (q0 : SPanel) : Option (List SPoint) := Option.bind (iter (sh174_1 q0) (0, ([] : List SPoint))) fun b1 => (some b1)
def T174 (r : List SPoint) (v : Value) (rs : List Own) : Prop := ∃ (a0 : Option Addr) (n0 c0 : Nat), r.length = n0 ∧ v = rets [.slice a0 n0 c0] ∧ rs = [rowT 35 eSPoint a0 n0 c0 r]
set_option maxRecDepth 100000 in
theorem c174 {w : World} {q0 : SPanel} {a_0_2 : Option Addr} {n_0_2 c_0_2 : Nat} (g_0_2 : Rd w a_0_2 (eI64.fl q0.Breaks)) (l_0_2 : q0.Breaks.length = n_0_2) (k_0_2 : n_0_2 ≤ c_0_2) {r : List SPoint} (hres : sh174 q0 = some r) : Calls Go.Proofs.Try.prog 174 [.agg #[.int .i64 q0.W, .int .i64 q0.H, .slice a_0_2 n_0_2 c_0_2]].toArray w (Ret w (T174 r)) := by
  subst l_0_2
  unfold sh174 at hres
  refine calls_of (n := 35) (M := []) (es := []) Go.Proofs.Try.func174 rfl rfl rfl (Sep.nil _ _ _) ?_
  refine JX.seq ?_
  refine JX.region ?_
  refine JL.eff (ef_box rfl rfl) rfl ?_
  rintro _ _ ⟨g1, rfl, rfl⟩
  refine JL.val (yl_assign rfl) rfl ?_
  refine JL.nil ?_
  refine JE.code ?_
  refine JX.seq ?_
  refine JX.region ?_
  refine JL.eff (ef_buildSlice (E := 35) (k := eSPoint.k) (us := eSPoint.fl ([] : List SPoint)) rfl (fun w => bsl61_0  w) rfl (by decide)) rfl ?_
  rintro _ _ ⟨a3, rfl, rfl⟩
  refine JL.val (yl_assign rfl) rfl ?_
  refine JL.nil ?_
  refine JE.code ?_
  refine JX.seq ?_
  refine JX.seq ?_
  refine JX.region ?_
  refine JL.val (yl_fieldAt (a := some _) Go.Proofs.Try.underlying28 rfl i2 i2n rfl rfl) rfl ?_
  refine JL.val (yl_load1 Go.Proofs.Try.underlying2 rfl rfl (fun w hC => rd_box hC 0 rfl) rfl) rfl ?_
  refine JL.val (yl_mul rfl rfl) rfl ?_
  refine JL.val (yl_add rfl rfl) rfl ?_
  refine JL.val (yl_move rfl) rfl ?_
  refine JL.nil ?_
  refine JE.weak (env' := [(1, ptrAt (some ⟨g1, 0, none⟩) 0), (3, .slice a3 0 0), (10, .int .i64 (w64 ((w64 (2 * q0.H)) + 1))), (11, .int .i64 0)]) (es' := [boxO 28 g1 [.int .i64 q0.W, .int .i64 q0.H, .slice a_0_2 q0.Breaks.length c_0_2], rowT 35 eSPoint a3 0 0 ([] : List SPoint)]) [0, 1] ?_ ⟨rfl, rfl, rfl, rfl, trivial⟩ (by decide) rfl
  refine JE.code ?_
  refine JX.block ?_
  obtain ⟨y1, hy1, hresO1⟩ := bind_some hres
  refine JX.loop (I := fun (s1 : Int × List SPoint) aa ww => ∃ (a5 : Option Addr) (cp6 : Nat), St w [] 35 [(1, ptrAt (some ⟨g1, 0, none⟩) 0), (3, .slice a5 s1.2.length cp6), (10, .int .i64 (w64 ((w64 (2 * q0.H)) + 1))), (11, .int .i64 s1.1)] [boxO 28 g1 [.int .i64 q0.W, .int .i64 q0.H, .slice a_0_2 q0.Breaks.length c_0_2], rowT 35 eSPoint a5 s1.2.length cp6 s1.2] aa ww) (sh174_1 q0) hy1 (fun a w h => ⟨a3, 0, h.weak ⟨rfl, rfl, rfl, rfl, trivial⟩ [0, 1] (by decide) rfl⟩) ?_
  rintro ⟨x7, x8⟩ o1 hres hox1 aa ww ⟨a9, cp10, hS⟩
  refine (?_ : JX Go.Proofs.Try.prog w [] 35 _ _ [(1, ptrAt (some ⟨g1, 0, none⟩) 0), (3, .slice a9 x8.length cp10), (10, .int .i64 (w64 ((w64 (2 * q0.H)) + 1))), (11, .int .i64 x7)] [boxO 28 g1 [.int .i64 q0.W, .int .i64 q0.H, .slice a_0_2 q0.Breaks.length c_0_2], rowT 35 eSPoint a9 x8.length cp10 x8] _) aa ww hS
  clear hS
  simp only [sh174_1] at hres
  refine JX.seq ?_
  refine JX.region ?_
  refine JL.val (yl_lss rfl rfl) rfl ?_
  refine JL.nil ?_
  refine JE.code ?_
  refine JX.seq ?_
  rcases cond_some hres with ⟨hb, hres⟩ | ⟨hb, hres⟩
  · refine JX.condT rfl hb ?_
    refine JX.skip ?_
    refine JE.code ?_
    refine JX.seq ?_
    refine JX.block ?_
    refine JX.seq ?_
    refine JX.region ?_
    refine JL.val (yl_move rfl) rfl ?_
    refine JL.val (yl_assign rfl) rfl ?_
    refine JL.nil ?_
    refine JE.code ?_
    refine JX.seq ?_
    refine JX.region ?_
    refine JL.val (yl_fieldAt (a := some _) Go.Proofs.Try.underlying28 rfl i2 i2n rfl rfl) rfl ?_
    refine JL.val (yl_load1 Go.Proofs.Try.underlying2 rfl rfl (fun w hC => rd_box hC 0 rfl) rfl) rfl ?_
    refine JL.val (yl_mul rfl rfl) rfl ?_
    refine JL.val (yl_add rfl rfl) rfl ?_
    refine JL.val (yl_move rfl) rfl ?_
    refine JL.nil ?_
    refine JE.weak (env' := [(1, ptrAt (some ⟨g1, 0, none⟩) 0), (3, .slice a9 x8.length cp10), (4, .int .i64 x7), (10, .int .i64 (w64 ((w64 (2 * q0.H)) + 1))), (11, .int .i64 x7), (17, .int .i64 (w64 ((w64 (2 * q0.W)) + 1))), (18, .int .i64 0)]) (es' := [boxO 28 g1 [.int .i64 q0.W, .int .i64 q0.H, .slice a_0_2 q0.Breaks.length c_0_2], rowT 35 eSPoint a9 x8.length cp10 x8]) [0, 1] ?_ ⟨rfl, rfl, rfl, rfl, rfl, rfl, rfl, trivial⟩ (by decide) rfl
    refine JE.code ?_
    refine JX.block ?_
    obtain ⟨y2, hy2, hresO2⟩ := bind_some hres
    refine JX.loop (I := fun (s2 : Int × List SPoint) aa ww => ∃ (a11 : Option Addr) (cp12 : Nat), St w [] 35 [(1, ptrAt (some ⟨g1, 0, none⟩) 0), (3, .slice a11 s2.2.length cp12), (4, .int .i64 x7), (10, .int .i64 (w64 ((w64 (2 * q0.H)) + 1))), (11, .int .i64 x7), (17, .int .i64 (w64 ((w64 (2 * q0.W)) + 1))), (18, .int .i64 s2.1)] [boxO 28 g1 [.int .i64 q0.W, .int .i64 q0.H, .slice a_0_2 q0.Breaks.length c_0_2], rowT 35 eSPoint a11 s2.2.length cp12 s2.2] aa ww) (sh174_2 q0 x7) hy2 (fun a w h => ⟨a9, cp10, h.weak ⟨rfl, rfl, rfl, rfl, rfl, rfl, rfl, trivial⟩ [0, 1] (by decide) rfl⟩) ?_
    rintro ⟨x13, x14⟩ o2 hres hox2 aa ww ⟨a15, cp16, hS⟩
    refine (?_ : JX Go.Proofs.Try.prog w [] 35 _ _ [(1, ptrAt (some ⟨g1, 0, none⟩) 0), (3, .slice a15 x14.length cp16), (4, .int .i64 x7), (10, .int .i64 (w64 ((w64 (2 * q0.H)) + 1))), (11, .int .i64 x7), (17, .int .i64 (w64 ((w64 (2 * q0.W)) + 1))), (18, .int .i64 x13)] [boxO 28 g1 [.int .i64 q0.W, .int .i64 q0.H, .slice a_0_2 q0.Breaks.length c_0_2], rowT 35 eSPoint a15 x14.length cp16 x14] _) aa ww hS
    clear hS
    simp only [sh174_2] at hres
    refine JX.seq ?_
    refine JX.region ?_
    refine JL.val (yl_lss rfl rfl) rfl ?_
    refine JL.nil ?_
    refine JE.code ?_
    refine JX.seq ?_
    rcases cond_some hres with ⟨hb, hres⟩ | ⟨hb, hres⟩
    · refine JX.condT rfl hb ?_
      refine JX.skip ?_
      refine JE.code ?_
      refine JX.seq ?_
      refine JX.block ?_
      refine JX.seq ?_
      refine JX.region ?_
      refine JL.val (yl_move rfl) rfl ?_
      refine JL.val (yl_assign rfl) rfl ?_
      refine JL.nil ?_
      refine JE.code ?_
      refine JX.seq ?_
      refine JX.region ?_
      refine JL.val (yl_move rfl) rfl ?_
      refine JL.val (yl_move rfl) rfl ?_
      refine JL.val (yl_add rfl rfl) rfl ?_
      refine JL.val (yl_rem rfl rfl (by decide)) rfl ?_
      refine JL.val (yl_eql rfl rfl) rfl ?_
      refine JL.nil ?_
      refine JE.weak (env' := [(1, ptrAt (some ⟨g1, 0, none⟩) 0), (3, .slice a15 x14.length cp16), (4, .int .i64 x7), (5, .int .i64 x13), (10, .int .i64 (w64 ((w64 (2 * q0.H)) + 1))), (11, .int .i64 x7), (17, .int .i64 (w64 ((w64 (2 * q0.W)) + 1))), (18, .int .i64 x13), (25, .bool (((w64 (x13 + x7)).tmod 2) == 1))]) (es' := [boxO 28 g1 [.int .i64 q0.W, .int .i64 q0.H, .slice a_0_2 q0.Breaks.length c_0_2], rowT 35 eSPoint a15 x14.length cp16 x14]) [0, 1] ?_ ⟨rfl, rfl, rfl, rfl, rfl, rfl, rfl, rfl, rfl, trivial⟩ (by decide) rfl
      refine JE.code ?_
      obtain ⟨j17, hj17, hresj17⟩ := bind_some hres
      refine JX.cut (K := fun J => ∀ (a18 : Option Addr) (cp19 : Nat), J [(1, ptrAt (some ⟨g1, 0, none⟩) 0), (3, .slice a18 j17.length cp19), (4, .int .i64 x7), (10, .int .i64 (w64 ((w64 (2 * q0.H)) + 1))), (11, .int .i64 x7), (17, .int .i64 (w64 ((w64 (2 * q0.W)) + 1))), (18, .int .i64 x13)] [boxO 28 g1 [.int .i64 q0.W, .int .i64 q0.H, .slice a_0_2 q0.Breaks.length c_0_2], rowT 35 eSPoint a18 j17.length cp19 j17]) ?_ ?_
      · intro a18 cp19
        have hres := hresj17
        refine JE.code ?_
        refine JX.region ?_
        refine JL.val (yl_add rfl rfl) rfl ?_
        refine JL.val (yl_move rfl) rfl ?_
        refine JL.nil ?_
        refine JE.cont hres ?_
        exact fun a w h => ⟨a18, cp19, h.weak ⟨rfl, rfl, rfl, rfl, rfl, rfl, rfl, trivial⟩ [0, 1] (by decide) rfl⟩
      · intro K
        rcases cond_some hj17 with ⟨hb, hres⟩ | ⟨hb, hres⟩
        · refine JX.condT rfl hb ?_
          refine JX.region ?_
          refine JL.val (yl_move rfl) rfl ?_
          refine JL.val (yl_move rfl) rfl ?_
          refine JL.val (yl_move rfl) rfl ?_
          refine JL.val (yl_build rfl (fun w => bld35_0_1 x13 x7 w)) rfl ?_
          refine JL.eff (ef_buildSlice (E := 35) (k := eSPoint.k) (us := eSPoint.fl [SPoint.mk x13 x7]) rfl (fun w => bsl61_1 x13 x7 w) rfl (by decide)) rfl ?_
          rintro _ _ ⟨a20, rfl, rfl⟩
          obtain ⟨x22, hx22, hres⟩ := bind_some hres
          refine JL.eff (ef_appendT (ix := 1) Go.Proofs.Try.underlying61 i35 i35z i35s rfl i35b0 i35b1 rfl rfl rfl rfl rfl (fun w hC => rd_row hC 2 rfl) hx22) rfl ?_
          rintro _ _ ⟨a23, cp24, rfl, rfl⟩
          refine JL.val (yl_assign rfl) rfl ?_
          refine JL.nil ?_
          refine JE.weak (env' := [(1, ptrAt (some ⟨g1, 0, none⟩) 0), (3, .slice a23 x22.length cp24), (4, .int .i64 x7), (10, .int .i64 (w64 ((w64 (2 * q0.H)) + 1))), (11, .int .i64 x7), (17, .int .i64 (w64 ((w64 (2 * q0.W)) + 1))), (18, .int .i64 x13)]) (es' := [boxO 28 g1 [.int .i64 q0.W, .int .i64 q0.H, .slice a_0_2 q0.Breaks.length c_0_2], rowT 35 eSPoint a23 x22.length cp24 x22]) [0, 1] ?_ ⟨rfl, rfl, rfl, rfl, rfl, rfl, rfl, trivial⟩ (by decide) rfl
          have hj := Option.some.inj hres
          exact JE.weak [0, 1] (K a23 cp24) ⟨(by subst hj; rfl), (by subst hj; rfl), (by subst hj; rfl), (by subst hj; rfl), (by subst hj; rfl), (by subst hj; rfl), (by subst hj; rfl), trivial⟩ (by decide) (by subst hj; rfl)
        · refine JX.condF rfl hb ?_
          refine JX.skip ?_
          have hj := Option.some.inj hres
          exact JE.weak [0, 1] (K a15 cp16) ⟨(by subst hj; rfl), (by subst hj; rfl), (by subst hj; rfl), (by subst hj; rfl), (by subst hj; rfl), (by subst hj; rfl), (by subst hj; rfl), trivial⟩ (by decide) (by subst hj; rfl)
    · refine JX.condF rfl hb ?_
      refine JX.exit ?_
      refine JE.qb rfl ?_
      obtain ⟨b2, hb2⟩ : ∃ b : List SPoint, b = x14 := ⟨_, rfl⟩
      have hy2 : b2 = y2 := by rw [hb2]; exact hox2 _ (Option.some.inj hres).symm
      have hres := hresO2
      rw [← hy2] at hres
      refine JE.weak (env' := [(1, ptrAt (some ⟨g1, 0, none⟩) 0), (3, .slice a15 b2.length cp16), (10, .int .i64 (w64 ((w64 (2 * q0.H)) + 1))), (11, .int .i64 x7)]) (es' := [boxO 28 g1 [.int .i64 q0.W, .int .i64 q0.H, .slice a_0_2 q0.Breaks.length c_0_2], rowT 35 eSPoint a15 b2.length cp16 b2]) [0, 1] ?_ ⟨(by subst hb2; rfl), (by subst hb2; rfl), (by subst hb2; rfl), (by subst hb2; rfl), trivial⟩ (by decide) (by subst hb2; rfl)
      refine JE.code ?_
      refine JX.region ?_
      refine JL.val (yl_add rfl rfl) rfl ?_
      refine JL.val (yl_move rfl) rfl ?_
      refine JL.nil ?_
      refine JE.cont hres ?_
      exact fun a w h => ⟨a15, cp16, h.weak ⟨rfl, rfl, rfl, rfl, trivial⟩ [0, 1] (by decide) rfl⟩
  · refine JX.condF rfl hb ?_
    refine JX.exit ?_
    refine JE.qb rfl ?_
    obtain ⟨b1, hb1⟩ : ∃ b : List SPoint, b = x8 := ⟨_, rfl⟩
    have hy1 : b1 = y1 := by rw [hb1]; exact hox1 _ (Option.some.inj hres).symm
    have hres := hresO1
    rw [← hy1] at hres
    refine JE.weak (env' := [(3, .slice a9 b1.length cp10)]) (es' := [rowT 35 eSPoint a9 b1.length cp10 b1]) [1] ?_ ⟨(by subst hb1; rfl), trivial⟩ (by decide) (by subst hb1; rfl)
    refine JE.code ?_
    refine JX.seq ?_
    refine JX.region ?_
    refine JL.val (yl_move rfl) rfl ?_
    refine JL.val (yl_assign rfl) rfl ?_
    refine JL.nil ?_
    refine JE.code ?_
    refine JX.ret ?_
    obtain rfl := Option.some.inj hres
    refine JE.ret (rs := [.tmp 2]) (vs := [.slice a9 b1.length cp10]) rfl ⟨rfl, trivial⟩ ?_
    exact fun w' hb hs => ⟨_, _, ⟨a9, b1.length, cp10, rfl, rfl, rfl⟩, rfl, hb, hs.sel [0] _ (by decide) rfl⟩

/- (impl.Panel).nearest -/
def sh134_1 (q1 : SPoint) (q2 : Int) (x9 : List SPoint) : (Int × Int × SPoint) → Option ((Int × Int × SPoint) ⊕ (Int × SPoint))
  | (x13, x14, x15) => bif decide (x14 < (x9.length : Int)) then (Option.bind (getI x9 x14) fun x16 => Option.bind (bif (decide (x13 < 0)) || (decide ((w64 ((w64 ((w64 ((w64 (x16.X * q2)) - q1.X)) * (w64 ((w64 (x16.X * q2)) - q1.X)))) + (w64 ((w64 ((w64 (x16.Y * q2)) - q1.Y)) * (w64 ((w64 (x16.Y * q2)) - q1.Y)))))) < x13)) then (some (w64 ((w64 ((w64 ((w64 (x16.X * q2)) - q1.X)) * (w64 ((w64 (x16.X * q2)) - q1.X)))) + (w64 ((w64 ((w64 (x16.Y * q2)) - q1.Y)) * (w64 ((w64 (x16.Y * q2)) - q1.Y))))), x16)) else (some (x13, x15))) fun j20 => (some (.inl (j20.1, w64 (x14 + 1), j20.2)))) else (some (.inr (x13, x15)))
def sh134 (q0 : SPanel) (q1 : SPoint) (q2 : Int) : Option (SPoint × Bool) := Option.bind (sh174 q0) fun x9 => Option.bind (iter (sh134_1 q1 q2 x9) ((-1), 0, SPoint.mk 0 0)) fun b1 => (some (b1.2, decide (b1.1 ≤ (w64 (q2 * q2)))))
def T134 (r : SPoint × Bool) (v : Value) (rs : List Own) : Prop := v = rets [.agg #[.int .i64 r.1.X, .int .i64 r.1.Y], .bool r.2] ∧ rs = []
set_option maxRecDepth 100000 in
theorem c134 {w : World} {q0 : SPanel} {a_0_2 : Option Addr} {n_0_2 c_0_2 : Nat} (g_0_2 : Rd w a_0_2 (eI64.fl q0.Breaks)) (l_0_2 : q0.Breaks.length = n_0_2) (k_0_2 : n_0_2 ≤ c_0_2) {q1 : SPoint} {q2 : Int} {r : SPoint × Bool} (hres : sh134 q0 q1 q2 = some r) : Calls Go.Proofs.Try.prog 134 [.agg #[.int .i64 q0.W, .int .i64 q0.H, .slice a_0_2 n_0_2 c_0_2], .agg #[.int .i64 q1.X, .int .i64 q1.Y], .int .i64 q2].toArray w (Ret w (T134 r)) := by
  subst l_0_2
  unfold sh134 at hres
  refine calls_of (n := 60) (M := []) (es := []) Go.Proofs.Try.func134 rfl rfl rfl (Sep.nil _ _ _) ?_
  refine JX.seq ?_
  refine JX.region ?_
  refine JL.eff (ef_box rfl rfl) rfl ?_
  rintro _ _ ⟨g1, rfl, rfl⟩
  refine JL.eff (ef_box rfl rfl) rfl ?_
  rintro _ _ ⟨g3, rfl, rfl⟩
  refine JL.eff (ef_alloc i35 i35z rfl) rfl ?_
  rintro _ _ ⟨g5, rfl, rfl⟩
  refine JL.val (yl_assign rfl) rfl ?_
  refine JL.nil ?_
  refine JE.weak (env' := [(2, .int .i64 q2), (3, ptrAt (some ⟨g1, 0, none⟩) 0), (4, ptrAt (some ⟨g3, 0, none⟩) 0), (6, ptrAt (some ⟨g5, 0, none⟩) 0)]) (es' := [boxO 28 g1 [.int .i64 q0.W, .int .i64 q0.H, .slice a_0_2 q0.Breaks.length c_0_2], boxO 35 g3 [.int .i64 q1.X, .int .i64 q1.Y], boxO 35 g5 [.int .i64 0, .int .i64 0]]) [0, 1, 2] ?_ ⟨rfl, rfl, rfl, rfl, trivial⟩ (by decide) rfl
  refine JE.code ?_
  refine JX.seq ?_
  refine JX.region ?_
  refine JL.val (yl_build rfl (fun w => bld35_  w)) rfl ?_
  refine JL.eff (ef_alloc i35 i35z rfl) rfl ?_
  rintro _ _ ⟨g7, rfl, rfl⟩
  refine JL.eff (ef_store_box (i := 3) (v := .agg #[.int .i64 0, .int .i64 0]) i35 rfl rfl rfl (i35s).symm (Nat.le_of_ble_eq_true rfl) (by simp [Value.cells, Value.oneCell'])) rfl ?_
  rintro _ _ rfl
  refine JL.val (yl_assign rfl) rfl ?_
  refine JL.nil ?_
  refine JE.weak (env' := [(2, .int .i64 q2), (3, ptrAt (some ⟨g1, 0, none⟩) 0), (4, ptrAt (some ⟨g3, 0, none⟩) 0), (6, ptrAt (some ⟨g5, 0, none⟩) 0), (8, ptrAt (some ⟨g7, 0, none⟩) 0), (9, .int .i64 (-1))]) (es' := [boxO 28 g1 [.int .i64 q0.W, .int .i64 q0.H, .slice a_0_2 q0.Breaks.length c_0_2], boxO 35 g3 [.int .i64 q1.X, .int .i64 q1.Y], boxO 35 g5 [.int .i64 0, .int .i64 0], boxO 35 g7 [.int .i64 0, .int .i64 0]]) [0, 1, 2, 3] ?_ ⟨rfl, rfl, rfl, rfl, rfl, rfl, trivial⟩ (by decide) rfl
  refine JE.code ?_
  refine JX.seq ?_
  refine JX.seq ?_
  refine JX.region ?_
  refine JL.val (yl_loadn Go.Proofs.Try.underlying28 rfl i28 rfl (fun w hC => rd_box hC 0 rfl) rfl (i28s).symm i28p) rfl ?_
  obtain ⟨x9, hx9, hres⟩ := bind_some hres
  refine JL.eff (ef_call (vs := [.agg #[.int .i64 q0.W, .int .i64 q0.H, .slice a_0_2 q0.Breaks.length c_0_2]]) (T := T174 x9) Go.Proofs.Try.func174 rfl (by kernel_rfl) rfl (fun w hC => c174 (q0 := q0) (rd_arg g_0_2 hC) rfl k_0_2 hx9)) rfl ?_
  rintro _ _ ⟨_, ⟨a10, _, cp11, rfl, rfl, rfl⟩, rfl⟩
  refine JL.val (yl_len_slice Go.Proofs.Try.underlying61 rfl) rfl ?_
  refine JL.val (yl_move rfl) rfl ?_
  refine JL.nil ?_
  refine JE.weak (env' := [(2, .int .i64 q2), (4, ptrAt (some ⟨g3, 0, none⟩) 0), (6, ptrAt (some ⟨g5, 0, none⟩) 0), (8, ptrAt (some ⟨g7, 0, none⟩) 0), (9, .int .i64 (-1)), (17, .slice a10 x9.length cp11), (18, .int .i64 (x9.length : Int)), (19, .int .i64 0)]) (es' := [boxO 35 g3 [.int .i64 q1.X, .int .i64 q1.Y], boxO 35 g5 [.int .i64 0, .int .i64 0], boxO 35 g7 [.int .i64 0, .int .i64 0], rowT 35 eSPoint a10 x9.length cp11 x9]) [1, 2, 3, 4] ?_ ⟨rfl, rfl, rfl, rfl, rfl, rfl, rfl, rfl, trivial⟩ (by decide) rfl
  refine JE.code ?_
  refine JX.block ?_
  obtain ⟨y1, hy1, hresO1⟩ := bind_some hres
  refine JX.loop (I := fun (s1 : Int × Int × SPoint) aa ww => St w [] 60 [(2, .int .i64 q2), (4, ptrAt (some ⟨g3, 0, none⟩) 0), (6, ptrAt (some ⟨g5, 0, none⟩) 0), (8, ptrAt (some ⟨g7, 0, none⟩) 0), (9, .int .i64 s1.1), (17, .slice a10 x9.length cp11), (18, .int .i64 (x9.length : Int)), (19, .int .i64 s1.2.1)] [boxO 35 g3 [.int .i64 q1.X, .int .i64 q1.Y], boxO 35 g5 [.int .i64 0, .int .i64 0], boxO 35 g7 [.int .i64 s1.2.2.X, .int .i64 s1.2.2.Y], rowT 35 eSPoint a10 x9.length cp11 x9] aa ww) (sh134_1 q1 q2 x9) hy1 (fun a w h => h.weak ⟨rfl, rfl, rfl, rfl, rfl, rfl, rfl, rfl, trivial⟩ [0, 1, 2, 3] (by decide) rfl) ?_
  rintro ⟨x13, x14, x15⟩ o1 hres hox1 aa ww hS
  refine (?_ : JX Go.Proofs.Try.prog w [] 60 _ _ [(2, .int .i64 q2), (4, ptrAt (some ⟨g3, 0, none⟩) 0), (6, ptrAt (some ⟨g5, 0, none⟩) 0), (8, ptrAt (some ⟨g7, 0, none⟩) 0), (9, .int .i64 x13), (17, .slice a10 x9.length cp11), (18, .int .i64 (x9.length : Int)), (19, .int .i64 x14)] [boxO 35 g3 [.int .i64 q1.X, .int .i64 q1.Y], boxO 35 g5 [.int .i64 0, .int .i64 0], boxO 35 g7 [.int .i64 x15.X, .int .i64 x15.Y], rowT 35 eSPoint a10 x9.length cp11 x9] _) aa ww hS
  clear hS
  simp only [sh134_1] at hres
  refine JX.seq ?_
  refine JX.region ?_
  refine JL.val (yl_lss rfl rfl) rfl ?_
  refine JL.nil ?_
  refine JE.code ?_
  refine JX.seq ?_
  rcases cond_some hres with ⟨hb, hres⟩ | ⟨hb, hres⟩
  · refine JX.condT rfl hb ?_
    refine JX.skip ?_
    refine JE.code ?_
    refine JX.seq ?_
    refine JX.block ?_
    refine JX.seq ?_
    refine JX.region ?_
    obtain ⟨x16, hx16, hres⟩ := bind_some hres
    refine JL.val (yl_idxT Go.Proofs.Try.underlying61 i35 i35s rfl rfl hx16 rfl (fun w hC => rd_row hC 3 rfl)) rfl ?_
    refine JL.val (yl_loadTn Go.Proofs.Try.underlying35 rfl i35 i35s rfl hx16 (fun w hC => rd_row hC 3 rfl)) rfl ?_
    refine JL.eff (ef_alloc i35 i35z rfl) rfl ?_
    rintro _ _ ⟨g17, rfl, rfl⟩
    refine JL.eff (ef_store_box (i := 4) (v := .agg #[.int .i64 x16.X, .int .i64 x16.Y]) i35 rfl rfl rfl (i35s).symm (Nat.le_of_ble_eq_true rfl) (by simp [Value.cells, Value.oneCell'])) rfl ?_
    rintro _ _ rfl
    refine JL.nil ?_
    refine JE.weak (env' := [(2, .int .i64 q2), (4, ptrAt (some ⟨g3, 0, none⟩) 0), (6, ptrAt (some ⟨g5, 0, none⟩) 0), (8, ptrAt (some ⟨g7, 0, none⟩) 0), (9, .int .i64 x13), (11, ptrAt (some ⟨g17, 0, none⟩) 0), (17, .slice a10 x9.length cp11), (18, .int .i64 (x9.length : Int)), (19, .int .i64 x14)]) (es' := [boxO 35 g3 [.int .i64 q1.X, .int .i64 q1.Y], boxO 35 g5 [.int .i64 0, .int .i64 0], boxO 35 g7 [.int .i64 x15.X, .int .i64 x15.Y], boxO 35 g17 [.int .i64 x16.X, .int .i64 x16.Y], rowT 35 eSPoint a10 x9.length cp11 x9]) [0, 1, 2, 4, 3] ?_ ⟨rfl, rfl, rfl, rfl, rfl, rfl, rfl, rfl, rfl, trivial⟩ (by decide) rfl
    refine JE.code ?_
    refine JX.seq ?_
    refine JX.drawH [(0, .pure), (1, .read), (2, .pure), (3, .pure), (4, .pure), (5, .read), (6, .pure), (7, .pure), (8, .read), (9, .pure), (10, .pure), (11, .pure), (12, .read), (13, .pure), (14, .pure), (15, .pure)] [] [] [0, 1, 2, 3, 4] [] [boxO 35 g3 [.int .i64 q1.X, .int .i64 q1.Y], boxO 35 g5 [.int .i64 0, .int .i64 0], boxO 35 g7 [.int .i64 x15.X, .int .i64 x15.Y], boxO 35 g17 [.int .i64 x16.X, .int .i64 x16.Y], rowT 35 eSPoint a10 x9.length cp11 x9] mixedP (by kernel_rfl) (by kernel_rfl) (by decide) rfl rfl ?_
    intro wrr19 Nr19 hFr19
    refine JH.pure rfl (yl_fieldAt (a := some _) Go.Proofs.Try.underlying35 rfl i2 i2n rfl rfl) rfl ?_
    refine JH.read rfl (yl_load1 Go.Proofs.Try.underlying2 rfl rfl (fun w hw => hFr19.box 3 rfl rfl hw) rfl) rfl ?_
    refine JH.pure rfl (yl_move rfl) rfl ?_
    refine JH.pure rfl (yl_mul rfl rfl) rfl ?_
    refine JH.pure rfl (yl_fieldAt (a := some _) Go.Proofs.Try.underlying35 rfl i2 i2n rfl rfl) rfl ?_
    refine JH.read rfl (yl_load1 Go.Proofs.Try.underlying2 rfl rfl (fun w hw => hFr19.box 0 rfl rfl hw) rfl) rfl ?_
    refine JH.pure rfl (yl_sub rfl rfl) rfl ?_
    refine JH.pure rfl (yl_fieldAt (a := some _) Go.Proofs.Try.underlying35 rfl i2 i2n rfl rfl) rfl ?_
    refine JH.read rfl (yl_load1 Go.Proofs.Try.underlying2 rfl rfl (fun w hw => hFr19.box 3 rfl rfl hw) rfl) rfl ?_
    refine JH.pure rfl (yl_move rfl) rfl ?_
    refine JH.pure rfl (yl_mul rfl rfl) rfl ?_
    refine JH.pure rfl (yl_fieldAt (a := some _) Go.Proofs.Try.underlying35 rfl i2 i2n rfl rfl) rfl ?_
    refine JH.read rfl (yl_load1 Go.Proofs.Try.underlying2 rfl rfl (fun w hw => hFr19.box 0 rfl rfl hw) rfl) rfl ?_
    refine JH.pure rfl (yl_sub rfl rfl) rfl ?_
    refine JH.pure rfl (yl_assign rfl) rfl ?_
    refine JH.pure rfl (yl_assign rfl) rfl ?_
    refine JH.nil ?_
    refine JE.weak (env' := [(2, .int .i64 q2), (4, ptrAt (some ⟨g3, 0, none⟩) 0), (6, ptrAt (some ⟨g5, 0, none⟩) 0), (8, ptrAt (some ⟨g7, 0, none⟩) 0), (9, .int .i64 x13), (11, ptrAt (some ⟨g17, 0, none⟩) 0), (12, .int .i64 (w64 ((w64 (x16.X * q2)) - q1.X))), (13, .int .i64 (w64 ((w64 (x16.Y * q2)) - q1.Y))), (17, .slice a10 x9.length cp11), (18, .int .i64 (x9.length : Int)), (19, .int .i64 x14)]) (es' := [boxO 35 g3 [.int .i64 q1.X, .int .i64 q1.Y], boxO 35 g5 [.int .i64 0, .int .i64 0], boxO 35 g7 [.int .i64 x15.X, .int .i64 x15.Y], boxO 35 g17 [.int .i64 x16.X, .int .i64 x16.Y], rowT 35 eSPoint a10 x9.length cp11 x9]) [0, 1, 2, 3, 4] ?_ ⟨rfl, rfl, rfl, rfl, rfl, rfl, rfl, rfl, rfl, rfl, rfl, trivial⟩ (by decide) rfl
    refine JE.code ?_
    refine JX.seq ?_
    refine JX.region ?_
    refine JL.val (yl_move rfl) rfl ?_
    refine JL.val (yl_move rfl) rfl ?_
    refine JL.val (yl_mul rfl rfl) rfl ?_
    refine JL.val (yl_move rfl) rfl ?_
    refine JL.val (yl_move rfl) rfl ?_
    refine JL.val (yl_mul rfl rfl) rfl ?_
    refine JL.val (yl_add rfl rfl) rfl ?_
    refine JL.val (yl_assign rfl) rfl ?_
    refine JL.nil ?_
    refine JE.weak (env' := [(2, .int .i64 q2), (4, ptrAt (some ⟨g3, 0, none⟩) 0), (6, ptrAt (some ⟨g5, 0, none⟩) 0), (8, ptrAt (some ⟨g7, 0, none⟩) 0), (9, .int .i64 x13), (11, ptrAt (some ⟨g17, 0, none⟩) 0), (14, .int .i64 (w64 ((w64 ((w64 ((w64 (x16.X * q2)) - q1.X)) * (w64 ((w64 (x16.X * q2)) - q1.X)))) + (w64 ((w64 ((w64 (x16.Y * q2)) - q1.Y)) * (w64 ((w64 (x16.Y * q2)) - q1.Y))))))), (17, .slice a10 x9.length cp11), (18, .int .i64 (x9.length : Int)), (19, .int .i64 x14)]) (es' := [boxO 35 g3 [.int .i64 q1.X, .int .i64 q1.Y], boxO 35 g5 [.int .i64 0, .int .i64 0], boxO 35 g7 [.int .i64 x15.X, .int .i64 x15.Y], boxO 35 g17 [.int .i64 x16.X, .int .i64 x16.Y], rowT 35 eSPoint a10 x9.length cp11 x9]) [0, 1, 2, 3, 4] ?_ ⟨rfl, rfl, rfl, rfl, rfl, rfl, rfl, rfl, rfl, rfl, trivial⟩ (by decide) rfl
    refine JE.code ?_
    refine JX.seq ?_
    refine JX.region ?_
    refine JL.val (yl_move rfl) rfl ?_
    refine JL.val (yl_lss rfl rfl) rfl ?_
    refine JL.val (yl_move rfl) rfl ?_
    refine JL.cut (K := fun J => J [(2, .int .i64 q2), (4, ptrAt (some ⟨g3, 0, none⟩) 0), (6, ptrAt (some ⟨g5, 0, none⟩) 0), (8, ptrAt (some ⟨g7, 0, none⟩) 0), (9, .int .i64 x13), (11, ptrAt (some ⟨g17, 0, none⟩) 0), (14, .int .i64 (w64 ((w64 ((w64 ((w64 (x16.X * q2)) - q1.X)) * (w64 ((w64 (x16.X * q2)) - q1.X)))) + (w64 ((w64 ((w64 (x16.Y * q2)) - q1.Y)) * (w64 ((w64 (x16.Y * q2)) - q1.Y))))))), (17, .slice a10 x9.length cp11), (18, .int .i64 (x9.length : Int)), (19, .int .i64 x14), (50, .bool ((decide (x13 < 0)) || (decide ((w64 ((w64 ((w64 ((w64 (x16.X * q2)) - q1.X)) * (w64 ((w64 (x16.X * q2)) - q1.X)))) + (w64 ((w64 ((w64 (x16.Y * q2)) - q1.Y)) * (w64 ((w64 (x16.Y * q2)) - q1.Y)))))) < x13))))] [boxO 35 g3 [.int .i64 q1.X, .int .i64 q1.Y], boxO 35 g5 [.int .i64 0, .int .i64 0], boxO 35 g7 [.int .i64 x15.X, .int .i64 x15.Y], boxO 35 g17 [.int .i64 x16.X, .int .i64 x16.Y], rowT 35 eSPoint a10 x9.length cp11 x9]) 4 ?_ ?_
    · refine JL.nil ?_
      refine JE.weak (env' := [(2, .int .i64 q2), (4, ptrAt (some ⟨g3, 0, none⟩) 0), (6, ptrAt (some ⟨g5, 0, none⟩) 0), (8, ptrAt (some ⟨g7, 0, none⟩) 0), (9, .int .i64 x13), (11, ptrAt (some ⟨g17, 0, none⟩) 0), (14, .int .i64 (w64 ((w64 ((w64 ((w64 (x16.X * q2)) - q1.X)) * (w64 ((w64 (x16.X * q2)) - q1.X)))) + (w64 ((w64 ((w64 (x16.Y * q2)) - q1.Y)) * (w64 ((w64 (x16.Y * q2)) - q1.Y))))))), (17, .slice a10 x9.length cp11), (18, .int .i64 (x9.length : Int)), (19, .int .i64 x14), (50, .bool ((decide (x13 < 0)) || (decide ((w64 ((w64 ((w64 ((w64 (x16.X * q2)) - q1.X)) * (w64 ((w64 (x16.X * q2)) - q1.X)))) + (w64 ((w64 ((w64 (x16.Y * q2)) - q1.Y)) * (w64 ((w64 (x16.Y * q2)) - q1.Y)))))) < x13))))]) (es' := [boxO 35 g3 [.int .i64 q1.X, .int .i64 q1.Y], boxO 35 g5 [.int .i64 0, .int .i64 0], boxO 35 g7 [.int .i64 x15.X, .int .i64 x15.Y], boxO 35 g17 [.int .i64 x16.X, .int .i64 x16.Y], rowT 35 eSPoint a10 x9.length cp11 x9]) [0, 1, 2, 3, 4] ?_ ⟨rfl, rfl, rfl, rfl, rfl, rfl, rfl, rfl, rfl, rfl, rfl, trivial⟩ (by decide) rfl
      refine JE.code ?_
      obtain ⟨j20, hj20, hresj20⟩ := bind_some hres
      refine JX.cut (K := fun J => J [(2, .int .i64 q2), (4, ptrAt (some ⟨g3, 0, none⟩) 0), (6, ptrAt (some ⟨g5, 0, none⟩) 0), (8, ptrAt (some ⟨g7, 0, none⟩) 0), (9, .int .i64 j20.1), (17, .slice a10 x9.length cp11), (18, .int .i64 (x9.length : Int)), (19, .int .i64 x14)] [boxO 35 g3 [.int .i64 q1.X, .int .i64 q1.Y], boxO 35 g5 [.int .i64 0, .int .i64 0], boxO 35 g7 [.int .i64 j20.2.X, .int .i64 j20.2.Y], rowT 35 eSPoint a10 x9.length cp11 x9]) ?_ ?_
      · have hres := hresj20
        refine JE.code ?_
        refine JX.region ?_
        refine JL.val (yl_add rfl rfl) rfl ?_
        refine JL.val (yl_move rfl) rfl ?_
        refine JL.nil ?_
        refine JE.cont hres ?_
        exact fun a w h => h.weak ⟨rfl, rfl, rfl, rfl, rfl, rfl, rfl, rfl, trivial⟩ [0, 1, 2, 3] (by decide) rfl
      · intro K
        rcases cond_some hj20 with ⟨hb, hres⟩ | ⟨hb, hres⟩
        · refine JX.condT rfl hb ?_
          refine JX.region ?_
          refine JL.val (yl_loadn Go.Proofs.Try.underlying35 rfl i35 rfl (fun w hC => rd_box hC 3 rfl) rfl (i35s).symm i35p) rfl ?_
          refine JL.val (yl_move rfl) rfl ?_
          refine JL.eff (ef_store_box (i := 2) (v := .agg #[.int .i64 x16.X, .int .i64 x16.Y]) i35 rfl rfl rfl (i35s).symm (Nat.le_of_ble_eq_true rfl) (by simp [Value.cells, Value.oneCell'])) rfl ?_
          rintro _ _ rfl
          refine JL.val (yl_assign rfl) rfl ?_
          refine JL.nil ?_
          refine JE.weak (env' := [(2, .int .i64 q2), (4, ptrAt (some ⟨g3, 0, none⟩) 0), (6, ptrAt (some ⟨g5, 0, none⟩) 0), (8, ptrAt (some ⟨g7, 0, none⟩) 0), (9, .int .i64 (w64 ((w64 ((w64 ((w64 (x16.X * q2)) - q1.X)) * (w64 ((w64 (x16.X * q2)) - q1.X)))) + (w64 ((w64 ((w64 (x16.Y * q2)) - q1.Y)) * (w64 ((w64 (x16.Y * q2)) - q1.Y))))))), (17, .slice a10 x9.length cp11), (18, .int .i64 (x9.length : Int)), (19, .int .i64 x14)]) (es' := [boxO 35 g3 [.int .i64 q1.X, .int .i64 q1.Y], boxO 35 g5 [.int .i64 0, .int .i64 0], boxO 35 g7 [.int .i64 x16.X, .int .i64 x16.Y], rowT 35 eSPoint a10 x9.length cp11 x9]) [0, 1, 2, 4] ?_ ⟨rfl, rfl, rfl, rfl, rfl, rfl, rfl, rfl, trivial⟩ (by decide) rfl
          have hj := Option.some.inj hres
          exact JE.weak [0, 1, 2, 3] (K) ⟨(by subst hj; rfl), (by subst hj; rfl), (by subst hj; rfl), (by subst hj; rfl), (by subst hj; rfl), (by subst hj; rfl), (by subst hj; rfl), (by subst hj; rfl), trivial⟩ (by decide) (by subst hj; rfl)
        · refine JX.condF rfl hb ?_
          refine JX.skip ?_
          have hj := Option.some.inj hres
          exact JE.weak [0, 1, 2, 4] (K) ⟨(by subst hj; rfl), (by subst hj; rfl), (by subst hj; rfl), (by subst hj; rfl), (by subst hj; rfl), (by subst hj; rfl), (by subst hj; rfl), (by subst hj; rfl), trivial⟩ (by decide) (by subst hj; rfl)
    · intro K
      rcases Bool.eq_false_or_eq_true (decide (x13 < 0)) with hb | hb
      · refine JL.set (d := 46) (v := .bool true) (congrArg (fun b => some (Value.bool b)) hb) ?_
        refine JL.gskip rfl rfl rfl rfl ?_
        refine JL.gskip rfl rfl rfl rfl ?_
        refine JL.gskip rfl rfl rfl rfl ?_
        refine JL.val (yl_pick_true rfl rfl) rfl ?_
        exact JL.weak [0, 1, 2, 3, 4] K ⟨rfl, rfl, rfl, rfl, rfl, rfl, rfl, rfl, rfl, rfl, (by rw [hb]; rfl), trivial⟩ (by decide) rfl
      · refine JL.set (d := 46) (v := .bool false) (congrArg (fun b => some (Value.bool b)) hb) ?_
        refine JL.gval rfl rfl (yl_move rfl) rfl ?_
        refine JL.gval rfl rfl (yl_move rfl) rfl ?_
        refine JL.gval rfl rfl (yl_lss rfl rfl) rfl ?_
        refine JL.val (yl_pick_false rfl rfl) rfl ?_
        exact JL.weak [0, 1, 2, 3, 4] K ⟨rfl, rfl, rfl, rfl, rfl, rfl, rfl, rfl, rfl, rfl, (by rw [hb]; rfl), trivial⟩ (by decide) rfl
  · refine JX.condF rfl hb ?_
    refine JX.exit ?_
    refine JE.qb rfl ?_
    obtain ⟨b1, hb1⟩ : ∃ b : Int × SPoint, b = (x13, x15) := ⟨_, rfl⟩
    have hy1 : b1 = y1 := by rw [hb1]; exact hox1 _ (Option.some.inj hres).symm
    have hres := hresO1
    rw [← hy1] at hres
    refine JE.weak (env' := [(2, .int .i64 q2), (6, ptrAt (some ⟨g5, 0, none⟩) 0), (8, ptrAt (some ⟨g7, 0, none⟩) 0), (9, .int .i64 b1.1)]) (es' := [boxO 35 g5 [.int .i64 0, .int .i64 0], boxO 35 g7 [.int .i64 b1.2.X, .int .i64 b1.2.Y]]) [1, 2] ?_ ⟨(by subst hb1; rfl), (by subst hb1; rfl), (by subst hb1; rfl), (by subst hb1; rfl), trivial⟩ (by decide) (by subst hb1; rfl)
    refine JE.code ?_
    refine JX.seq ?_
    refine JX.region ?_
    refine JL.val (yl_loadn Go.Proofs.Try.underlying35 rfl i35 rfl (fun w hC => rd_box hC 1 rfl) rfl (i35s).symm i35p) rfl ?_
    refine JL.val (yl_move rfl) rfl ?_
    refine JL.val (yl_move rfl) rfl ?_
    refine JL.val (yl_move rfl) rfl ?_
    refine JL.val (yl_mul rfl rfl) rfl ?_
    refine JL.val (yl_leq rfl rfl) rfl ?_
    refine JL.eff (ef_store_box (i := 0) (v := .agg #[.int .i64 b1.2.X, .int .i64 b1.2.Y]) i35 rfl rfl rfl (i35s).symm (Nat.le_of_ble_eq_true rfl) (by simp [Value.cells, Value.oneCell'])) rfl ?_
    rintro _ _ rfl
    refine JL.val (yl_assign rfl) rfl ?_
    refine JL.nil ?_
    refine JE.weak (env' := [(6, ptrAt (some ⟨g5, 0, none⟩) 0), (7, .bool (decide (b1.1 ≤ (w64 (q2 * q2)))))]) (es' := [boxO 35 g5 [.int .i64 b1.2.X, .int .i64 b1.2.Y]]) [0] ?_ ⟨rfl, rfl, trivial⟩ (by decide) rfl
    refine JE.code ?_
    refine JX.ret ?_
    obtain rfl := Option.some.inj hres
    refine JE.ret (rs := [.cell 6 35, .tmp 7]) (vs := [.agg #[.int .i64 b1.2.X, .int .i64 b1.2.Y], .bool (decide (b1.1 ≤ (w64 (q2 * q2))))]) rfl ⟨rv_box 0 rfl rfl Go.Proofs.Try.underlying35 rfl i35 (i35s).symm, rfl, trivial⟩ ?_
    exact fun w' hb hs => ⟨_, _, ⟨rfl, rfl⟩, rfl, hb, hs.sel [] _ (by decide) rfl⟩

/- impl.NearestPoint -/
def sh71 (q0 : SPanel) (q1 : SPoint) (q2 : Int) : Option (SPoint × Int) := Option.bind (sh86 q0) fun x7 => Option.bind (bif !x7 then (some true) else (Option.bind (sh132 q1) fun x9 => some !x9)) fun cb8 => (bif cb8 then (some (SPoint.mk 0 0, 1)) else (Option.bind (sh133 q2) fun x10 => bif !x10 then (some (SPoint.mk 0 0, 2)) else (Option.bind (sh134 q0 q1 q2) fun x11 => bif !x11.2 then (some (SPoint.mk 0 0, 3)) else (some (x11.1, 0)))))
def T71 (r : SPoint × Int) (v : Value) (rs : List Own) : Prop := v = rets [.agg #[.int .i64 r.1.X, .int .i64 r.1.Y], .int .i64 r.2] ∧ rs = []
set_option maxRecDepth 100000 in
theorem c71 {w : World} {q0 : SPanel} {a_0_2 : Option Addr} {n_0_2 c_0_2 : Nat} (g_0_2 : Rd w a_0_2 (eI64.fl q0.Breaks)) (l_0_2 : q0.Breaks.length = n_0_2) (k_0_2 : n_0_2 ≤ c_0_2) {q1 : SPoint} {q2 : Int} {r : SPoint × Int} (hres : sh71 q0 q1 q2 = some r) : Calls Go.Proofs.Try.prog 71 [.agg #[.int .i64 q0.W, .int .i64 q0.H, .slice a_0_2 n_0_2 c_0_2], .agg #[.int .i64 q1.X, .int .i64 q1.Y], .int .i64 q2].toArray w (Ret w (T71 r)) := by
  subst l_0_2
  unfold sh71 at hres
  refine calls_of (n := 34) (M := []) (es := []) Go.Proofs.Try.func71 rfl rfl rfl (Sep.nil _ _ _) ?_
  refine JX.seq ?_
  refine JX.region ?_
  refine JL.eff (ef_box rfl rfl) rfl ?_
  rintro _ _ ⟨g1, rfl, rfl⟩
  refine JL.eff (ef_box rfl rfl) rfl ?_
  rintro _ _ ⟨g3, rfl, rfl⟩
  refine JL.eff (ef_alloc i35 i35z rfl) rfl ?_
  rintro _ _ ⟨g5, rfl, rfl⟩
  refine JL.val (yl_assign rfl) rfl ?_
  refine JL.nil ?_
  refine JE.weak (env' := [(2, .int .i64 q2), (3, ptrAt (some ⟨g1, 0, none⟩) 0), (4, ptrAt (some ⟨g3, 0, none⟩) 0), (6, ptrAt (some ⟨g5, 0, none⟩) 0)]) (es' := [boxO 28 g1 [.int .i64 q0.W, .int .i64 q0.H, .slice a_0_2 q0.Breaks.length c_0_2], boxO 35 g3 [.int .i64 q1.X, .int .i64 q1.Y], boxO 35 g5 [.int .i64 0, .int .i64 0]]) [0, 1, 2] ?_ ⟨rfl, rfl, rfl, rfl, trivial⟩ (by decide) rfl
  refine JE.code ?_
  refine JX.seq ?_
  refine JX.seq ?_
  refine JX.region ?_
  refine JL.val (yl_loadn Go.Proofs.Try.underlying28 rfl i28 rfl (fun w hC => rd_box hC 0 rfl) rfl (i28s).symm i28p) rfl ?_
  obtain ⟨x7, hx7, hres⟩ := bind_some hres
  refine JL.eff (ef_call (vs := [.agg #[.int .i64 q0.W, .int .i64 q0.H, .slice a_0_2 q0.Breaks.length c_0_2]]) (T := T86 x7) Go.Proofs.Try.func86 rfl (by kernel_rfl) rfl (fun w hC => c86 (q0 := q0) (rd_arg g_0_2 hC) rfl k_0_2 hx7)) rfl ?_
  rintro _ _ ⟨_, ⟨rfl, rfl⟩, rfl⟩
  refine JL.val (yl_not rfl) rfl ?_
  refine JL.val (yl_move rfl) rfl ?_
  obtain ⟨cb8, hcb8, hres⟩ := bind_some hres
  refine JL.cut (K := fun J => J [(2, .int .i64 q2), (3, ptrAt (some ⟨g1, 0, none⟩) 0), (4, ptrAt (some ⟨g3, 0, none⟩) 0), (6, ptrAt (some ⟨g5, 0, none⟩) 0), (17, .bool cb8)] [boxO 28 g1 [.int .i64 q0.W, .int .i64 q0.H, .slice a_0_2 q0.Breaks.length c_0_2], boxO 35 g3 [.int .i64 q1.X, .int .i64 q1.Y], boxO 35 g5 [.int .i64 0, .int .i64 0]]) 4 ?_ ?_
  · refine JL.nil ?_
    refine JE.weak (env' := [(2, .int .i64 q2), (3, ptrAt (some ⟨g1, 0, none⟩) 0), (4, ptrAt (some ⟨g3, 0, none⟩) 0), (6, ptrAt (some ⟨g5, 0, none⟩) 0), (17, .bool cb8)]) (es' := [boxO 28 g1 [.int .i64 q0.W, .int .i64 q0.H, .slice a_0_2 q0.Breaks.length c_0_2], boxO 35 g3 [.int .i64 q1.X, .int .i64 q1.Y], boxO 35 g5 [.int .i64 0, .int .i64 0]]) [0, 1, 2] ?_ ⟨rfl, rfl, rfl, rfl, rfl, trivial⟩ (by decide) rfl
    refine JE.code ?_
    rcases cond_some hres with ⟨hb, hres⟩ | ⟨hb, hres⟩
    · refine JX.condT rfl hb ?_
      refine JX.seq ?_
      refine JX.region ?_
      refine JL.val (yl_build rfl (fun w => bld35_  w)) rfl ?_
      refine JL.eff (ef_store_box (i := 2) (v := .agg #[.int .i64 0, .int .i64 0]) i35 rfl rfl rfl (i35s).symm (Nat.le_of_ble_eq_true rfl) (by simp [Value.cells, Value.oneCell'])) rfl ?_
      rintro _ _ rfl
      refine JL.val (yl_assign rfl) rfl ?_
      refine JL.nil ?_
      refine JE.weak (env' := [(6, ptrAt (some ⟨g5, 0, none⟩) 0), (7, .int .i64 1)]) (es' := [boxO 35 g5 [.int .i64 0, .int .i64 0]]) [2] ?_ ⟨rfl, rfl, trivial⟩ (by decide) rfl
      refine JE.code ?_
      refine JX.ret ?_
      obtain rfl := Option.some.inj hres
      refine JE.ret (rs := [.cell 6 35, .tmp 7]) (vs := [.agg #[.int .i64 0, .int .i64 0], .int .i64 1]) rfl ⟨rv_box 0 rfl rfl Go.Proofs.Try.underlying35 rfl i35 (i35s).symm, rfl, trivial⟩ ?_
      exact fun w' hb hs => ⟨_, _, ⟨rfl, rfl⟩, rfl, hb, hs.sel [] _ (by decide) rfl⟩
    · refine JX.condF rfl hb ?_
      refine JX.skip ?_
      refine JE.code ?_
      refine JX.seq ?_
      refine JX.seq ?_
      refine JX.region ?_
      refine JL.val (yl_move rfl) rfl ?_
      obtain ⟨x10, hx10, hres⟩ := bind_some hres
      refine JL.eff (ef_call (T := T133 x10) Go.Proofs.Try.func133 rfl (by kernel_rfl) rfl (fun w hC => c133  hx10)) rfl ?_
      rintro _ _ ⟨_, ⟨rfl, rfl⟩, rfl⟩
      refine JL.val (yl_not rfl) rfl ?_
      refine JL.nil ?_
      refine JE.code ?_
      rcases cond_some hres with ⟨hb, hres⟩ | ⟨hb, hres⟩
      · refine JX.condT rfl hb ?_
        refine JX.seq ?_
        refine JX.region ?_
        refine JL.val (yl_build rfl (fun w => bld35_  w)) rfl ?_
        refine JL.eff (ef_store_box (i := 2) (v := .agg #[.int .i64 0, .int .i64 0]) i35 rfl rfl rfl (i35s).symm (Nat.le_of_ble_eq_true rfl) (by simp [Value.cells, Value.oneCell'])) rfl ?_
        rintro _ _ rfl
        refine JL.val (yl_assign rfl) rfl ?_
        refine JL.nil ?_
        refine JE.weak (env' := [(6, ptrAt (some ⟨g5, 0, none⟩) 0), (7, .int .i64 2)]) (es' := [boxO 35 g5 [.int .i64 0, .int .i64 0]]) [2] ?_ ⟨rfl, rfl, trivial⟩ (by decide) rfl
        refine JE.code ?_
        refine JX.ret ?_
        obtain rfl := Option.some.inj hres
        refine JE.ret (rs := [.cell 6 35, .tmp 7]) (vs := [.agg #[.int .i64 0, .int .i64 0], .int .i64 2]) rfl ⟨rv_box 0 rfl rfl Go.Proofs.Try.underlying35 rfl i35 (i35s).symm, rfl, trivial⟩ ?_
        exact fun w' hb hs => ⟨_, _, ⟨rfl, rfl⟩, rfl, hb, hs.sel [] _ (by decide) rfl⟩
      · refine JX.condF rfl hb ?_
        refine JX.skip ?_
        refine JE.code ?_
        refine JX.seq ?_
        refine JX.region ?_
        refine JL.val (yl_loadn Go.Proofs.Try.underlying28 rfl i28 rfl (fun w hC => rd_box hC 0 rfl) rfl (i28s).symm i28p) rfl ?_
        refine JL.val (yl_loadn Go.Proofs.Try.underlying35 rfl i35 rfl (fun w hC => rd_box hC 1 rfl) rfl (i35s).symm i35p) rfl ?_
        refine JL.val (yl_move rfl) rfl ?_
        obtain ⟨x11, hx11, hres⟩ := bind_some hres
        refine JL.eff (ef_call (vs := [.agg #[.int .i64 q0.W, .int .i64 q0.H, .slice a_0_2 q0.Breaks.length c_0_2], .agg #[.int .i64 q1.X, .int .i64 q1.Y], .int .i64 q2]) (T := T134 x11) Go.Proofs.Try.func134 rfl (by kernel_rfl) rfl (fun w hC => c134 (q0 := q0) (q1 := q1) (rd_arg g_0_2 hC) rfl k_0_2 hx11)) rfl ?_
        rintro _ _ ⟨_, ⟨rfl, rfl⟩, rfl⟩
        refine JL.val (yl_move rfl) rfl ?_
        refine JL.val (yl_extract rfl rfl) rfl ?_
        refine JL.val (yl_extract rfl rfl) rfl ?_
        refine JL.eff (ef_alloc i35 i35z rfl) rfl ?_
        rintro _ _ ⟨g12, rfl, rfl⟩
        refine JL.eff (ef_store_box (i := 3) (v := .agg #[.int .i64 x11.1.X, .int .i64 x11.1.Y]) i35 rfl rfl rfl (i35s).symm (Nat.le_of_ble_eq_true rfl) (by simp [Value.cells, Value.oneCell'])) rfl ?_
        rintro _ _ rfl
        refine JL.val (yl_assign rfl) rfl ?_
        refine JL.nil ?_
        refine JE.weak (env' := [(6, ptrAt (some ⟨g5, 0, none⟩) 0), (8, ptrAt (some ⟨g12, 0, none⟩) 0), (9, .bool x11.2)]) (es' := [boxO 35 g5 [.int .i64 0, .int .i64 0], boxO 35 g12 [.int .i64 x11.1.X, .int .i64 x11.1.Y]]) [2, 3] ?_ ⟨rfl, rfl, rfl, trivial⟩ (by decide) rfl
        refine JE.code ?_
        refine JX.seq ?_
        refine JX.seq ?_
        refine JX.region ?_
        refine JL.val (yl_move rfl) rfl ?_
        refine JL.val (yl_not rfl) rfl ?_
        refine JL.nil ?_
        refine JE.code ?_
        rcases cond_some hres with ⟨hb, hres⟩ | ⟨hb, hres⟩
        · refine JX.condT rfl hb ?_
          refine JX.seq ?_
          refine JX.region ?_
          refine JL.val (yl_build rfl (fun w => bld35_  w)) rfl ?_
          refine JL.eff (ef_store_box (i := 0) (v := .agg #[.int .i64 0, .int .i64 0]) i35 rfl rfl rfl (i35s).symm (Nat.le_of_ble_eq_true rfl) (by simp [Value.cells, Value.oneCell'])) rfl ?_
          rintro _ _ rfl
          refine JL.val (yl_assign rfl) rfl ?_
          refine JL.nil ?_
          refine JE.weak (env' := [(6, ptrAt (some ⟨g5, 0, none⟩) 0), (7, .int .i64 3)]) (es' := [boxO 35 g5 [.int .i64 0, .int .i64 0]]) [0] ?_ ⟨rfl, rfl, trivial⟩ (by decide) rfl
          refine JE.code ?_
          refine JX.ret ?_
          obtain rfl := Option.some.inj hres
          refine JE.ret (rs := [.cell 6 35, .tmp 7]) (vs := [.agg #[.int .i64 0, .int .i64 0], .int .i64 3]) rfl ⟨rv_box 0 rfl rfl Go.Proofs.Try.underlying35 rfl i35 (i35s).symm, rfl, trivial⟩ ?_
          exact fun w' hb hs => ⟨_, _, ⟨rfl, rfl⟩, rfl, hb, hs.sel [] _ (by decide) rfl⟩
        · refine JX.condF rfl hb ?_
          refine JX.skip ?_
          refine JE.code ?_
          refine JX.seq ?_
          refine JX.region ?_
          refine JL.val (yl_loadn Go.Proofs.Try.underlying35 rfl i35 rfl (fun w hC => rd_box hC 1 rfl) rfl (i35s).symm i35p) rfl ?_
          refine JL.eff (ef_store_box (i := 0) (v := .agg #[.int .i64 x11.1.X, .int .i64 x11.1.Y]) i35 rfl rfl rfl (i35s).symm (Nat.le_of_ble_eq_true rfl) (by simp [Value.cells, Value.oneCell'])) rfl ?_
          rintro _ _ rfl
          refine JL.val (yl_assign rfl) rfl ?_
          refine JL.nil ?_
          refine JE.weak (env' := [(6, ptrAt (some ⟨g5, 0, none⟩) 0), (7, .int .i64 0)]) (es' := [boxO 35 g5 [.int .i64 x11.1.X, .int .i64 x11.1.Y]]) [0] ?_ ⟨rfl, rfl, trivial⟩ (by decide) rfl
          refine JE.code ?_
          refine JX.ret ?_
          obtain rfl := Option.some.inj hres
          refine JE.ret (rs := [.cell 6 35, .tmp 7]) (vs := [.agg #[.int .i64 x11.1.X, .int .i64 x11.1.Y], .int .i64 0]) rfl ⟨rv_box 0 rfl rfl Go.Proofs.Try.underlying35 rfl i35 (i35s).symm, rfl, trivial⟩ ?_
          exact fun w' hb hs => ⟨_, _, ⟨rfl, rfl⟩, rfl, hb, hs.sel [] _ (by decide) rfl⟩
  · intro K
    rcases cond_some hcb8 with ⟨hb, hres⟩ | ⟨hb, hres⟩
    · refine JL.set (d := 13) (v := .bool true) (congrArg (fun b => some (Value.bool b)) hb) ?_
      refine JL.gskip rfl rfl rfl rfl ?_
      refine JL.gskip rfl rfl rfl rfl ?_
      refine JL.gskip rfl rfl rfl rfl ?_
      refine JL.val (yl_pick_true rfl rfl) rfl ?_
      have he := Option.some.inj hres
      exact JL.weak [0, 1, 2] K ⟨rfl, rfl, rfl, rfl, (by rw [← he]; rfl), trivial⟩ (by decide) rfl
    · refine JL.set (d := 13) (v := .bool false) (congrArg (fun b => some (Value.bool b)) hb) ?_
      refine JL.gval rfl rfl (yl_loadn Go.Proofs.Try.underlying35 rfl i35 rfl (fun w hC => rd_box hC 1 rfl) rfl (i35s).symm i35p) rfl ?_
      obtain ⟨x9, hx9, hres⟩ := bind_some hres
      refine JL.geff rfl rfl (ef_call (vs := [.agg #[.int .i64 q1.X, .int .i64 q1.Y]]) (T := T132 x9) Go.Proofs.Try.func132 rfl (by kernel_rfl) rfl (fun w hC => c132 (q0 := q1) hx9)) rfl ?_
      rintro _ _ ⟨_, ⟨rfl, rfl⟩, rfl⟩
      refine JL.gval rfl rfl (yl_not rfl) rfl ?_
      refine JL.val (yl_pick_false rfl rfl) rfl ?_
      have he := Option.some.inj hres
      exact JL.weak [0, 1, 2] K ⟨rfl, rfl, rfl, rfl, (by rw [← he]; rfl), trivial⟩ (by decide) rfl

/- spec.l02Side -/
def sh143 (q0 : Int) : Option (Bool) := Option.bind (sh127 q0 1 8) fun x1 => some x1
def T143 (r : Bool) (v : Value) (rs : List Own) : Prop := v = rets [.bool r] ∧ rs = []
set_option maxRecDepth 100000 in
theorem c143 {w : World} {q0 : Int} {r : Bool} (hres : sh143 q0 = some r) : Calls Go.Proofs.Try.prog 143 [.int .i64 q0].toArray w (Ret w (T143 r)) := by
  unfold sh143 at hres
  refine calls_of (n := 5) (M := []) (es := []) Go.Proofs.Try.func143 rfl rfl rfl (Sep.nil _ _ _) ?_
  refine JX.seq ?_
  refine JX.region ?_
  refine JL.val (yl_assign rfl) rfl ?_
  refine JL.nil ?_
  refine JE.code ?_
  refine JX.seq ?_
  refine JX.region ?_
  refine JL.val (yl_move rfl) rfl ?_
  obtain ⟨x1, hx1, hres⟩ := bind_some hres
  refine JL.eff (ef_call (T := T127 x1) Go.Proofs.Try.func127 rfl (by kernel_rfl) rfl (fun w hC => c127  hx1)) rfl ?_
  rintro _ _ ⟨_, ⟨rfl, rfl⟩, rfl⟩
  refine JL.val (yl_assign rfl) rfl ?_
  refine JL.nil ?_
  refine JE.code ?_
  refine JX.ret ?_
  obtain rfl := Option.some.inj hres
  refine JE.ret (rs := [.tmp 2]) (vs := [.bool x1]) rfl ⟨rfl, trivial⟩ ?_
  exact fun w' hb hs => ⟨_, _, ⟨rfl, rfl⟩, rfl, hb, hs.sel [] _ (by decide) rfl⟩

/- spec.l02Ok -/
def sh82_1 (q0 : SPanel) : Int → Option (Int ⊕ (Unit ⊕ Bool))
  | x7 => bif decide (x7 < (q0.Breaks.length : Int)) then (Option.bind (getI q0.Breaks x7) fun x8 => Option.bind (sh127 x8 0 2) fun x9 => bif !x9 then (some (.inr (.inr false))) else (some (.inl (w64 (x7 + 1))))) else (some (.inr (.inl ())))
def sh82 (q0 : SPanel) : Option (Bool) := Option.bind (sh143 q0.W) fun x2 => Option.bind (bif !x2 then (some true) else (Option.bind (sh143 q0.H) fun x4 => some !x4)) fun cb3 => (Option.bind (bif cb3 then (some true) else (Option.bind (sh144 q0.W q0.H) fun x6 => some ((q0.Breaks.length : Int) != x6))) fun cb5 => (bif cb5 then (some false) else (Option.bind (iter (sh82_1 q0) 0) fun y1 => elimS y1 (fun r => some r) fun b1 => (some true))))
def T82 (r : Bool) (v : Value) (rs : List Own) : Prop := v = rets [.bool r] ∧ rs = []
set_option maxRecDepth 100000 in
theorem c82 {w : World} {q0 : SPanel} {a_0 : Option Addr} {n_0 : Nat} {a_0_2 : Option Addr} {n_0_2 c_0_2 : Nat} (g_0 : RdAt w a_0 n_0 [.int .i64 q0.W, .int .i64 q0.H, .slice a_0_2 n_0_2 c_0_2]) (g_0_2 : Rd w a_0_2 (eI64.fl q0.Breaks)) (l_0_2 : q0.Breaks.length = n_0_2) (k_0_2 : n_0_2 ≤ c_0_2) {r : Bool} (hres : sh82 q0 = some r) : Calls Go.Proofs.Try.prog 82 [ptrAt a_0 n_0].toArray w (Ret w (T82 r)) := by
  subst l_0_2
  obtain ⟨b_0, e_0, g_0⟩ := g_0.norm0
  rw [e_0]
  unfold sh82 at hres
  refine calls_of (n := 53) (M := []) (es := []) Go.Proofs.Try.func82 rfl rfl rfl (Sep.nil _ _ _) ?_
  refine JX.seq ?_
  refine JX.region ?_
  refine JL.val (yl_assign rfl) rfl ?_
  refine JL.nil ?_
  refine JE.code ?_
  refine JX.seq ?_
  refine JX.seq ?_
  refine JX.drawH [(0, .pure), (1, .pure), (2, .pure), (3, .read), (4, .must), (5, .pure), (6, .pure), (7, .pure), (8, .pure), (9, .pure), (10, .read), (11, .must), (12, .pure), (13, .pure), (14, .pure), (15, .pure), (16, .pure), (17, .pure), (18, .read), (19, .pure), (20, .pure), (21, .pure), (22, .pure), (23, .read), (24, .pure), (25, .pure), (26, .pure), (27, .read), (28, .must), (29, .pure), (30, .pure)] [] [] [] [] [] mixedP (by kernel_rfl) (by kernel_rfl) (by decide) rfl rfl ?_
  intro wrr1 Nr1 hFr1
  refine JH.pure rfl (yl_move rfl) rfl ?_
  refine JH.pure rfl (yl_nilCheckAt rfl (Rd.some g_0 (j := 0) rfl)) rfl ?_
  refine JH.pure rfl (yl_fieldAt Go.Proofs.Try.underlying28 rfl i2 i2n rfl (Rd.some g_0 (j := 0) rfl)) rfl ?_
  refine JH.read rfl (yl_load1 Go.Proofs.Try.underlying2 rfl rfl (fun w hw => hFr1.arg g_0 hw) rfl) rfl ?_
  obtain ⟨x2, hx2, hres⟩ := bind_some hres
  refine JH.must rfl (ef_call (T := T143 x2) Go.Proofs.Try.func143 rfl (by kernel_rfl) rfl (fun w hC => c143  hx2)) rfl rfl ?_
  rintro _ _ ⟨_, ⟨rfl, rfl⟩, rfl⟩
  refine JH.pure rfl (yl_not rfl) rfl ?_
  refine JH.pure rfl (yl_move rfl) rfl ?_
  obtain ⟨cb3, hcb3, hres⟩ := bind_some hres
  refine JH.cut (K := fun J => J [(0, ptrAt b_0 0), (17, .bool cb3)] []) 7 ?_ ?_
  · refine JH.pure rfl (yl_move rfl) rfl ?_
    obtain ⟨cb5, hcb5, hres⟩ := bind_some hres
    refine JH.cut (K := fun J => J [(0, ptrAt b_0 0), (34, .bool cb5)] []) 16 ?_ ?_
    · refine JH.nil ?_
      refine JE.weak (env' := [(0, ptrAt b_0 0), (34, .bool cb5)]) (es' := []) [] ?_ ⟨rfl, rfl, trivial⟩ (by decide) rfl
      refine JE.code ?_
      rcases cond_some hres with ⟨hb, hres⟩ | ⟨hb, hres⟩
      · refine JX.condT rfl hb ?_
        refine JX.seq ?_
        refine JX.region ?_
        refine JL.val (yl_assign rfl) rfl ?_
        refine JL.nil ?_
        refine JE.code ?_
        refine JX.ret ?_
        obtain rfl := Option.some.inj hres
        refine JE.ret (rs := [.tmp 2]) (vs := [.bool false]) rfl ⟨rfl, trivial⟩ ?_
        exact fun w' hb hs => ⟨_, _, ⟨rfl, rfl⟩, rfl, hb, hs.sel [] _ (by decide) rfl⟩
      · refine JX.condF rfl hb ?_
        refine JX.skip ?_
        refine JE.code ?_
        refine JX.seq ?_
        refine JX.seq ?_
        refine JX.region ?_
        refine JL.val (yl_assign rfl) rfl ?_
        refine JL.nil ?_
        refine JE.code ?_
        refine JX.block ?_
        obtain ⟨y1, hy1, hresO1⟩ := bind_some hres
        refine JX.loop (I := fun (s1 : Int) aa ww => St w [] 53 [(0, ptrAt b_0 0), (3, .int .i64 s1)] [] aa ww) (sh82_1 q0) hy1 (fun a w h => h.weak ⟨rfl, rfl, trivial⟩ [] (by decide) rfl) ?_
        rintro x7 o1 hres hox1 aa ww hS
        refine (?_ : JX Go.Proofs.Try.prog w [] 53 _ _ [(0, ptrAt b_0 0), (3, .int .i64 x7)] [] _) aa ww hS
        clear hS
        unfold sh82_1 at hres
        refine JX.seq ?_
        refine JX.seq ?_
        refine JX.region ?_
        refine JL.val (yl_move rfl) rfl ?_
        refine JL.val (yl_move rfl) rfl ?_
        refine JL.val (yl_nilCheckAt rfl (Rd.some g_0 (j := 0) rfl)) rfl ?_
        refine JL.val (yl_fieldAt Go.Proofs.Try.underlying28 rfl i22 i22n rfl (Rd.some g_0 (j := 0) rfl)) rfl ?_
        refine JL.val (yl_load1 Go.Proofs.Try.underlying22 rfl rfl (fun w hC => rd_arg g_0 hC) rfl) rfl ?_
        refine JL.val (yl_len_slice Go.Proofs.Try.underlying22 rfl) rfl ?_
        refine JL.val (yl_lss rfl rfl) rfl ?_
        refine JL.nil ?_
        refine JE.weak (env' := [(0, ptrAt b_0 0), (3, .int .i64 x7), (41, .bool (decide (x7 < (q0.Breaks.length : Int))))]) (es' := []) [] ?_ ⟨rfl, rfl, rfl, trivial⟩ (by decide) rfl
        refine JE.code ?_
        rcases cond_some hres with ⟨hb, hres⟩ | ⟨hb, hres⟩
        · refine JX.condT rfl hb ?_
          refine JX.skip ?_
          refine JE.code ?_
          refine JX.seq ?_
          refine JX.block ?_
          refine JX.seq ?_
          refine JX.region ?_
          refine JL.val (yl_move rfl) rfl ?_
          refine JL.val (yl_nilCheckAt rfl (Rd.some g_0 (j := 0) rfl)) rfl ?_
          refine JL.val (yl_fieldAt Go.Proofs.Try.underlying28 rfl i22 i22n rfl (Rd.some g_0 (j := 0) rfl)) rfl ?_
          refine JL.val (yl_load1 Go.Proofs.Try.underlying22 rfl rfl (fun w hC => rd_arg g_0 hC) rfl) rfl ?_
          refine JL.val (yl_move rfl) rfl ?_
          obtain ⟨x8, hx8, hres⟩ := bind_some hres
          refine JL.val (yl_idxT Go.Proofs.Try.underlying22 i2 i2s rfl rfl hx8 rfl (fun w hC => rd_arg g_0_2 hC)) rfl ?_
          refine JL.val (yl_loadT0 Go.Proofs.Try.underlying2 rfl rfl hx8 (fun w hC => rd_arg g_0_2 hC) rfl) rfl ?_
          obtain ⟨x9, hx9, hres⟩ := bind_some hres
          refine JL.eff (ef_call (T := T127 x9) Go.Proofs.Try.func127 rfl (by kernel_rfl) rfl (fun w hC => c127  hx9)) rfl ?_
          rintro _ _ ⟨_, ⟨rfl, rfl⟩, rfl⟩
          refine JL.val (yl_not rfl) rfl ?_
          refine JL.nil ?_
          refine JE.weak (env' := [(0, ptrAt b_0 0), (3, .int .i64 x7), (52, .bool !x9)]) (es' := []) [] ?_ ⟨rfl, rfl, rfl, trivial⟩ (by decide) rfl
          refine JE.code ?_
          rcases cond_some hres with ⟨hb, hres⟩ | ⟨hb, hres⟩
          · refine JX.condT rfl hb ?_
            refine JX.seq ?_
            refine JX.region ?_
            refine JL.val (yl_assign rfl) rfl ?_
            refine JL.nil ?_
            refine JE.code ?_
            refine JX.ret ?_
            refine JE.qbr ?_
            refine JE.qbr ?_
            have hres := elimS_inr hresO1 (hox1 _ (Option.some.inj hres).symm)
            obtain rfl := Option.some.inj hres
            refine JE.ret (rs := [.tmp 2]) (vs := [.bool false]) rfl ⟨rfl, trivial⟩ ?_
            exact fun w' hb hs => ⟨_, _, ⟨rfl, rfl⟩, rfl, hb, hs.sel [] _ (by decide) rfl⟩
          · refine JX.condF rfl hb ?_
            refine JX.skip ?_
            refine JE.code ?_
            refine JX.region ?_
            refine JL.val (yl_move rfl) rfl ?_
            refine JL.val (yl_add rfl rfl) rfl ?_
            refine JL.val (yl_assign rfl) rfl ?_
            refine JL.nil ?_
            refine JE.cont hres ?_
            exact fun a w h => h.weak ⟨rfl, rfl, trivial⟩ [] (by decide) rfl
        · refine JX.condF rfl hb ?_
          refine JX.exit ?_
          refine JE.qb rfl ?_
          obtain ⟨b1, hb1⟩ : ∃ b : Unit, b = () := ⟨_, rfl⟩
          have hy1 : Sum.inl b1 = y1 := by rw [hb1]; exact hox1 _ (Option.some.inj hres).symm
          have hres := elimS_inl hresO1 hy1
          refine JE.weak (env' := []) (es' := []) [] ?_ trivial (by decide) (by subst hb1; rfl)
          refine JE.code ?_
          refine JX.seq ?_
          refine JX.region ?_
          refine JL.val (yl_assign rfl) rfl ?_
          refine JL.nil ?_
          refine JE.code ?_
          refine JX.ret ?_
          obtain rfl := Option.some.inj hres
          refine JE.ret (rs := [.tmp 2]) (vs := [.bool true]) rfl ⟨rfl, trivial⟩ ?_
          exact fun w' hb hs => ⟨_, _, ⟨rfl, rfl⟩, rfl, hb, hs.sel [] _ (by decide) rfl⟩
    · intro K
      rcases cond_some hcb5 with ⟨hb, hres⟩ | ⟨hb, hres⟩
      · refine JH.set (d := 18) (v := .bool true) (congrArg (fun b => some (Value.bool b)) hb) ?_
        refine JH.gskip rfl rfl rfl rfl rfl rfl ?_
        refine JH.gskip rfl rfl rfl rfl rfl rfl ?_
        refine JH.gskip rfl rfl rfl rfl rfl rfl ?_
        refine JH.gskip rfl rfl rfl rfl rfl rfl ?_
        refine JH.gskip rfl rfl rfl rfl rfl rfl ?_
        refine JH.gskip rfl rfl rfl rfl rfl rfl ?_
        refine JH.gskip rfl rfl rfl rfl rfl rfl ?_
        refine JH.gskip rfl rfl rfl rfl rfl rfl ?_
        refine JH.gskip rfl rfl rfl rfl rfl rfl ?_
        refine JH.gskip rfl rfl rfl rfl rfl rfl ?_
        refine JH.gskip rfl rfl rfl rfl rfl rfl ?_
        refine JH.gskip rfl rfl rfl rfl rfl rfl ?_
        refine JH.gskip rfl rfl rfl rfl rfl rfl ?_
        refine JH.gskip rfl rfl rfl rfl rfl rfl ?_
        refine JH.gskip rfl rfl rfl rfl rfl rfl ?_
        refine JH.pure rfl (yl_pick_true rfl rfl) rfl ?_
        have he := Option.some.inj hres
        exact JH.weak [] K ⟨rfl, (by rw [← he]; rfl), trivial⟩ (by decide) rfl
      · refine JH.set (d := 18) (v := .bool false) (congrArg (fun b => some (Value.bool b)) hb) ?_
        refine JH.gpure rfl rfl rfl (yl_move rfl) rfl ?_
        refine JH.gpure rfl rfl rfl (yl_nilCheckAt rfl (Rd.some g_0 (j := 0) rfl)) rfl ?_
        refine JH.gpure rfl rfl rfl (yl_fieldAt Go.Proofs.Try.underlying28 rfl i22 i22n rfl (Rd.some g_0 (j := 0) rfl)) rfl ?_
        refine JH.gread rfl rfl rfl (yl_load1 Go.Proofs.Try.underlying22 rfl rfl (fun w hw => hFr1.arg g_0 hw) rfl) rfl ?_
        refine JH.gpure rfl rfl rfl (yl_len_slice Go.Proofs.Try.underlying22 rfl) rfl ?_
        refine JH.gpure rfl rfl rfl (yl_move rfl) rfl ?_
        refine JH.gpure rfl rfl rfl (yl_nilCheckAt rfl (Rd.some g_0 (j := 0) rfl)) rfl ?_
        refine JH.gpure rfl rfl rfl (yl_fieldAt Go.Proofs.Try.underlying28 rfl i2 i2n rfl (Rd.some g_0 (j := 0) rfl)) rfl ?_
        refine JH.gread rfl rfl rfl (yl_load1 Go.Proofs.Try.underlying2 rfl rfl (fun w hw => hFr1.arg g_0 hw) rfl) rfl ?_
        refine JH.gpure rfl rfl rfl (yl_move rfl) rfl ?_
        refine JH.gpure rfl rfl rfl (yl_nilCheckAt rfl (Rd.some g_0 (j := 0) rfl)) rfl ?_
        refine JH.gpure rfl rfl rfl (yl_fieldAt Go.Proofs.Try.underlying28 rfl i2 i2n rfl (Rd.some g_0 (j := 0) rfl)) rfl ?_
        refine JH.gread rfl rfl rfl (yl_load1 Go.Proofs.Try.underlying2 rfl rfl (fun w hw => hFr1.arg g_0 hw) rfl) rfl ?_
        obtain ⟨x6, hx6, hres⟩ := bind_some hres
        refine JH.gmust rfl rfl rfl (ef_call (T := T144 x6) Go.Proofs.Try.func144 rfl (by kernel_rfl) rfl (fun w hC => c144  hx6)) rfl rfl ?_
        rintro _ _ ⟨_, ⟨rfl, rfl⟩, rfl⟩
        refine JH.gpure rfl rfl rfl (yl_neq rfl rfl) rfl ?_
        refine JH.pure rfl (yl_pick_false rfl rfl) rfl ?_
        have he := Option.some.inj hres
        exact JH.weak [] K ⟨rfl, (by rw [← he]; rfl), trivial⟩ (by decide) rfl
  · intro K
    rcases cond_some hcb3 with ⟨hb, hres⟩ | ⟨hb, hres⟩
    · refine JH.set (d := 10) (v := .bool true) (congrArg (fun b => some (Value.bool b)) hb) ?_
      refine JH.gskip rfl rfl rfl rfl rfl rfl ?_
      refine JH.gskip rfl rfl rfl rfl rfl rfl ?_
      refine JH.gskip rfl rfl rfl rfl rfl rfl ?_
      refine JH.gskip rfl rfl rfl rfl rfl rfl ?_
      refine JH.gskip rfl rfl rfl rfl rfl rfl ?_
      refine JH.gskip rfl rfl rfl rfl rfl rfl ?_
      refine JH.pure rfl (yl_pick_true rfl rfl) rfl ?_
      have he := Option.some.inj hres
      exact JH.weak [] K ⟨rfl, (by rw [← he]; rfl), trivial⟩ (by decide) rfl
    · refine JH.set (d := 10) (v := .bool false) (congrArg (fun b => some (Value.bool b)) hb) ?_
      refine JH.gpure rfl rfl rfl (yl_move rfl) rfl ?_
      refine JH.gpure rfl rfl rfl (yl_nilCheckAt rfl (Rd.some g_0 (j := 0) rfl)) rfl ?_
      refine JH.gpure rfl rfl rfl (yl_fieldAt Go.Proofs.Try.underlying28 rfl i2 i2n rfl (Rd.some g_0 (j := 0) rfl)) rfl ?_
      refine JH.gread rfl rfl rfl (yl_load1 Go.Proofs.Try.underlying2 rfl rfl (fun w hw => hFr1.arg g_0 hw) rfl) rfl ?_
      obtain ⟨x4, hx4, hres⟩ := bind_some hres
      refine JH.gmust rfl rfl rfl (ef_call (T := T143 x4) Go.Proofs.Try.func143 rfl (by kernel_rfl) rfl (fun w hC => c143  hx4)) rfl rfl ?_
      rintro _ _ ⟨_, ⟨rfl, rfl⟩, rfl⟩
      refine JH.gpure rfl rfl rfl (yl_not rfl) rfl ?_
      refine JH.pure rfl (yl_pick_false rfl rfl) rfl ?_
      have he := Option.some.inj hres
      exact JH.weak [] K ⟨rfl, (by rw [← he]; rfl), trivial⟩ (by decide) rfl

/- spec.l19Scale -/
def sh138 (q0 : Int) : Option (Bool) := Option.bind (sh127 q0 2 100) fun x1 => some x1
def T138 (r : Bool) (v : Value) (rs : List Own) : Prop := v = rets [.bool r] ∧ rs = []
set_option maxRecDepth 100000 in
theorem c138 {w : World} {q0 : Int} {r : Bool} (hres : sh138 q0 = some r) : Calls Go.Proofs.Try.prog 138 [.int .i64 q0].toArray w (Ret w (T138 r)) := by
  unfold sh138 at hres
  refine calls_of (n := 5) (M := []) (es := []) Go.Proofs.Try.func138 rfl rfl rfl (Sep.nil _ _ _) ?_
  refine JX.seq ?_
  refine JX.region ?_
  refine JL.val (yl_assign rfl) rfl ?_
  refine JL.nil ?_
  refine JE.code ?_
  refine JX.seq ?_
  refine JX.region ?_
  refine JL.val (yl_move rfl) rfl ?_
  obtain ⟨x1, hx1, hres⟩ := bind_some hres
  refine JL.eff (ef_call (T := T127 x1) Go.Proofs.Try.func127 rfl (by kernel_rfl) rfl (fun w hC => c127  hx1)) rfl ?_
  rintro _ _ ⟨_, ⟨rfl, rfl⟩, rfl⟩
  refine JL.val (yl_assign rfl) rfl ?_
  refine JL.nil ?_
  refine JE.code ?_
  refine JX.ret ?_
  obtain rfl := Option.some.inj hres
  refine JE.ret (rs := [.tmp 2]) (vs := [.bool x1]) rfl ⟨rfl, trivial⟩ ?_
  exact fun w' hb hs => ⟨_, _, ⟨rfl, rfl⟩, rfl, hb, hs.sel [] _ (by decide) rfl⟩

/- spec.l19Code -/
def sh135 (q0 : SPanel) (q1 : Int) : Option (Int) := Option.bind (sh82 q0) fun x1 => bif !x1 then (some 1) else (Option.bind (sh138 q1) fun x2 => bif !x2 then (some 2) else (some 0))
def T135 (r : Int) (v : Value) (rs : List Own) : Prop := v = rets [.int .i64 r] ∧ rs = []
set_option maxRecDepth 100000 in
theorem c135 {w : World} {q0 : SPanel} {a_0 : Option Addr} {n_0 : Nat} {a_0_2 : Option Addr} {n_0_2 c_0_2 : Nat} (g_0 : RdAt w a_0 n_0 [.int .i64 q0.W, .int .i64 q0.H, .slice a_0_2 n_0_2 c_0_2]) (g_0_2 : Rd w a_0_2 (eI64.fl q0.Breaks)) (l_0_2 : q0.Breaks.length = n_0_2) (k_0_2 : n_0_2 ≤ c_0_2) {q1 : Int} {r : Int} (hres : sh135 q0 q1 = some r) : Calls Go.Proofs.Try.prog 135 [ptrAt a_0 n_0, .int .i64 q1].toArray w (Ret w (T135 r)) := by
  subst l_0_2
  obtain ⟨b_0, e_0, g_0⟩ := g_0.norm0
  rw [e_0]
  unfold sh135 at hres
  refine calls_of (n := 11) (M := []) (es := []) Go.Proofs.Try.func135 rfl rfl rfl (Sep.nil _ _ _) ?_
  refine JX.seq ?_
  refine JX.region ?_
  refine JL.val (yl_assign rfl) rfl ?_
  refine JL.nil ?_
  refine JE.code ?_
  refine JX.seq ?_
  refine JX.seq ?_
  refine JX.region ?_
  refine JL.val (yl_move rfl) rfl ?_
  obtain ⟨x1, hx1, hres⟩ := bind_some hres
  refine JL.eff (ef_call (T := T82 x1) Go.Proofs.Try.func82 rfl (by kernel_rfl) rfl (fun w hC => c82 (RdAt.of0 (rd_arg g_0 hC)) (rd_arg g_0_2 hC) rfl k_0_2 hx1)) rfl ?_
  rintro _ _ ⟨_, ⟨rfl, rfl⟩, rfl⟩
  refine JL.val (yl_not rfl) rfl ?_
  refine JL.nil ?_
  refine JE.code ?_
  rcases cond_some hres with ⟨hb, hres⟩ | ⟨hb, hres⟩
  · refine JX.condT rfl hb ?_
    refine JX.seq ?_
    refine JX.region ?_
    refine JL.val (yl_assign rfl) rfl ?_
    refine JL.nil ?_
    refine JE.code ?_
    refine JX.ret ?_
    obtain rfl := Option.some.inj hres
    refine JE.ret (rs := [.tmp 4]) (vs := [.int .i64 1]) rfl ⟨rfl, trivial⟩ ?_
    exact fun w' hb hs => ⟨_, _, ⟨rfl, rfl⟩, rfl, hb, hs.sel [] _ (by decide) rfl⟩
  · refine JX.condF rfl hb ?_
    refine JX.skip ?_
    refine JE.code ?_
    refine JX.seq ?_
    refine JX.seq ?_
    refine JX.region ?_
    refine JL.val (yl_move rfl) rfl ?_
    obtain ⟨x2, hx2, hres⟩ := bind_some hres
    refine JL.eff (ef_call (T := T138 x2) Go.Proofs.Try.func138 rfl (by kernel_rfl) rfl (fun w hC => c138  hx2)) rfl ?_
    rintro _ _ ⟨_, ⟨rfl, rfl⟩, rfl⟩
    refine JL.val (yl_not rfl) rfl ?_
    refine JL.nil ?_
    refine JE.code ?_
    rcases cond_some hres with ⟨hb, hres⟩ | ⟨hb, hres⟩
    · refine JX.condT rfl hb ?_
      refine JX.seq ?_
      refine JX.region ?_
      refine JL.val (yl_assign rfl) rfl ?_
      refine JL.nil ?_
      refine JE.code ?_
      refine JX.ret ?_
      obtain rfl := Option.some.inj hres
      refine JE.ret (rs := [.tmp 4]) (vs := [.int .i64 2]) rfl ⟨rfl, trivial⟩ ?_
      exact fun w' hb hs => ⟨_, _, ⟨rfl, rfl⟩, rfl, hb, hs.sel [] _ (by decide) rfl⟩
    · refine JX.condF rfl hb ?_
      refine JX.skip ?_
      refine JE.code ?_
      refine JX.seq ?_
      refine JX.region ?_
      refine JL.val (yl_assign rfl) rfl ?_
      refine JL.nil ?_
      refine JE.code ?_
      refine JX.ret ?_
      obtain rfl := Option.some.inj hres
      refine JE.ret (rs := [.tmp 4]) (vs := [.int .i64 0]) rfl ⟨rfl, trivial⟩ ?_
      exact fun w' hb hs => ⟨_, _, ⟨rfl, rfl⟩, rfl, hb, hs.sel [] _ (by decide) rfl⟩

/- spec.l19Square -/
def sh175 (q0 : SPoint) (q1 : SPoint) (q2 : Int) : Option (Int) := some (w64 ((w64 ((w64 (q0.X - (w64 (q1.X * q2)))) * (w64 (q0.X - (w64 (q1.X * q2)))))) + (w64 ((w64 (q0.Y - (w64 (q1.Y * q2)))) * (w64 (q0.Y - (w64 (q1.Y * q2))))))))
def T175 (r : Int) (v : Value) (rs : List Own) : Prop := v = rets [.int .i64 r] ∧ rs = []
set_option maxRecDepth 100000 in
theorem c175 {w : World} {q0 : SPoint} {q1 : SPoint} {q2 : Int} {r : Int} (hres : sh175 q0 q1 q2 = some r) : Calls Go.Proofs.Try.prog 175 [.agg #[.int .i64 q0.X, .int .i64 q0.Y], .agg #[.int .i64 q1.X, .int .i64 q1.Y], .int .i64 q2].toArray w (Ret w (T175 r)) := by
  unfold sh175 at hres
  refine calls_of (n := 30) (M := []) (es := []) Go.Proofs.Try.func175 rfl rfl rfl (Sep.nil _ _ _) ?_
  refine JX.seq ?_
  refine JX.region ?_
  refine JL.eff (ef_box rfl rfl) rfl ?_
  rintro _ _ ⟨g1, rfl, rfl⟩
  refine JL.eff (ef_box rfl rfl) rfl ?_
  rintro _ _ ⟨g3, rfl, rfl⟩
  refine JL.val (yl_assign rfl) rfl ?_
  refine JL.nil ?_
  refine JE.code ?_
  refine JX.seq ?_
  refine JX.region ?_
  refine JL.val (yl_fieldAt (a := some _) Go.Proofs.Try.underlying35 rfl i2 i2n rfl rfl) rfl ?_
  refine JL.val (yl_load1 Go.Proofs.Try.underlying2 rfl rfl (fun w hC => rd_box hC 0 rfl) rfl) rfl ?_
  refine JL.val (yl_fieldAt (a := some _) Go.Proofs.Try.underlying35 rfl i2 i2n rfl rfl) rfl ?_
  refine JL.val (yl_load1 Go.Proofs.Try.underlying2 rfl rfl (fun w hC => rd_box hC 1 rfl) rfl) rfl ?_
  refine JL.val (yl_move rfl) rfl ?_
  refine JL.val (yl_mul rfl rfl) rfl ?_
  refine JL.val (yl_sub rfl rfl) rfl ?_
  refine JL.val (yl_assign rfl) rfl ?_
  refine JL.nil ?_
  refine JE.weak (env' := [(2, .int .i64 q2), (3, ptrAt (some ⟨g1, 0, none⟩) 0), (4, ptrAt (some ⟨g3, 0, none⟩) 0), (7, .int .i64 (w64 (q0.X - (w64 (q1.X * q2)))))]) (es' := [boxO 35 g1 [.int .i64 q0.X, .int .i64 q0.Y], boxO 35 g3 [.int .i64 q1.X, .int .i64 q1.Y]]) [0, 1] ?_ ⟨rfl, rfl, rfl, rfl, trivial⟩ (by decide) rfl
  refine JE.code ?_
  refine JX.seq ?_
  refine JX.region ?_
  refine JL.val (yl_fieldAt (a := some _) Go.Proofs.Try.underlying35 rfl i2 i2n rfl rfl) rfl ?_
  refine JL.val (yl_load1 Go.Proofs.Try.underlying2 rfl rfl (fun w hC => rd_box hC 0 rfl) rfl) rfl ?_
  refine JL.val (yl_fieldAt (a := some _) Go.Proofs.Try.underlying35 rfl i2 i2n rfl rfl) rfl ?_
  refine JL.val (yl_load1 Go.Proofs.Try.underlying2 rfl rfl (fun w hC => rd_box hC 1 rfl) rfl) rfl ?_
  refine JL.val (yl_move rfl) rfl ?_
  refine JL.val (yl_mul rfl rfl) rfl ?_
  refine JL.val (yl_sub rfl rfl) rfl ?_
  refine JL.val (yl_assign rfl) rfl ?_
  refine JL.nil ?_
  refine JE.weak (env' := [(7, .int .i64 (w64 (q0.X - (w64 (q1.X * q2))))), (8, .int .i64 (w64 (q0.Y - (w64 (q1.Y * q2)))))]) (es' := []) [] ?_ ⟨rfl, rfl, trivial⟩ (by decide) rfl
  refine JE.code ?_
  refine JX.seq ?_
  refine JX.region ?_
  refine JL.val (yl_move rfl) rfl ?_
  refine JL.val (yl_move rfl) rfl ?_
  refine JL.val (yl_mul rfl rfl) rfl ?_
  refine JL.val (yl_move rfl) rfl ?_
  refine JL.val (yl_move rfl) rfl ?_
  refine JL.val (yl_mul rfl rfl) rfl ?_
  refine JL.val (yl_add rfl rfl) rfl ?_
  refine JL.val (yl_assign rfl) rfl ?_
  refine JL.nil ?_
  refine JE.weak (env' := [(6, .int .i64 (w64 ((w64 ((w64 (q0.X - (w64 (q1.X * q2)))) * (w64 (q0.X - (w64 (q1.X * q2)))))) + (w64 ((w64 (q0.Y - (w64 (q1.Y * q2)))) * (w64 (q0.Y - (w64 (q1.Y * q2)))))))))]) (es' := []) [] ?_ ⟨rfl, trivial⟩ (by decide) rfl
  refine JE.code ?_
  refine JX.ret ?_
  obtain rfl := Option.some.inj hres
  refine JE.ret (rs := [.tmp 6]) (vs := [.int .i64 (w64 ((w64 ((w64 (q0.X - (w64 (q1.X * q2)))) * (w64 (q0.X - (w64 (q1.X * q2)))))) + (w64 ((w64 (q0.Y - (w64 (q1.Y * q2)))) * (w64 (q0.Y - (w64 (q1.Y * q2))))))))]) rfl ⟨rfl, trivial⟩ ?_
  exact fun w' hb hs => ⟨_, _, ⟨rfl, rfl⟩, rfl, hb, hs.sel [] _ (by decide) rfl⟩

/- spec.l19Near -/
def sh136_2 (q0 : SPanel) (q1 : SPoint) (q2 : Int) (x8 : Int) : (Int × Int × SPoint) → Option ((Int × Int × SPoint) ⊕ (Int × SPoint))
  | (x10, x11, x12) => bif decide (x11 ≤ (w64 (2 * q0.W))) then (Option.bind (sh175 q1 (SPoint.mk x11 x8) q2) fun x13 => Option.bind (bif decide (x13 < x10) then (some (x13, SPoint.mk x11 x8)) else (some (x10, x12))) fun j14 => (some (.inl (j14.1, w64 (x11 + 2), j14.2)))) else (some (.inr (x10, x12)))
def sh136_1 (q0 : SPanel) (q1 : SPoint) (q2 : Int) : (Int × Int × SPoint) → Option ((Int × Int × SPoint) ⊕ (Int × SPoint))
  | (x7, x8, x9) => bif decide (x8 ≤ (w64 (2 * q0.H))) then (Option.bind (iter (sh136_2 q0 q1 q2 x8) (x7, w64 (1 - (x8.tmod 2)), x9)) fun b2 => (some (.inl (b2.1, w64 (x8 + 1), b2.2)))) else (some (.inr (x7, x9)))
def sh136 (q0 : SPanel) (q1 : SPoint) (q2 : Int) : Option (SPoint × Bool) := Option.bind (iter (sh136_1 q0 q1 q2) (w64 ((w64 (q2 * q2)) + 1), 0, SPoint.mk 0 0)) fun b1 => (some (b1.2, decide (b1.1 ≤ (w64 (q2 * q2)))))
def T136 (r : SPoint × Bool) (v : Value) (rs : List Own) : Prop := v = rets [.agg #[.int .i64 r.1.X, .int .i64 r.1.Y], .bool r.2] ∧ rs = []
set_option maxRecDepth 100000 in
theorem c136 {w : World} {q0 : SPanel} {a_0 : Option Addr} {n_0 : Nat} {a_0_2 : Option Addr} {n_0_2 c_0_2 : Nat} (g_0 : RdAt w a_0 n_0 [.int .i64 q0.W, .int .i64 q0.H, .slice a_0_2 n_0_2 c_0_2]) (g_0_2 : Rd w a_0_2 (eI64.fl q0.Breaks)) (l_0_2 : q0.Breaks.length = n_0_2) (k_0_2 : n_0_2 ≤ c_0_2) {q1 : SPoint} {q2 : Int} {r : SPoint × Bool} (hres : sh136 q0 q1 q2 = some r) : Calls Go.Proofs.Try.prog 136 [ptrAt a_0 n_0, .agg #[.int .i64 q1.X, .int .i64 q1.Y], .int .i64 q2].toArray w (Ret w (T136 r)) := by
  subst l_0_2
  obtain ⟨b_0, e_0, g_0⟩ := g_0.norm0
  rw [e_0]
  unfold sh136 at hres
  refine calls_of (n := 58) (M := []) (es := []) Go.Proofs.Try.func136 rfl rfl rfl (Sep.nil _ _ _) ?_
  refine JX.seq ?_
  refine JX.region ?_
  refine JL.eff (ef_box rfl rfl) rfl ?_
  rintro _ _ ⟨g1, rfl, rfl⟩
  refine JL.eff (ef_alloc i35 i35z rfl) rfl ?_
  rintro _ _ ⟨g3, rfl, rfl⟩
  refine JL.val (yl_assign rfl) rfl ?_
  refine JL.nil ?_
  refine JE.code ?_
  refine JX.seq ?_
  refine JX.region ?_
  refine JL.val (yl_build rfl (fun w => bld35_  w)) rfl ?_
  refine JL.eff (ef_alloc i35 i35z rfl) rfl ?_
  rintro _ _ ⟨g5, rfl, rfl⟩
  refine JL.eff (ef_store_box (i := 2) (v := .agg #[.int .i64 0, .int .i64 0]) i35 rfl rfl rfl (i35s).symm (Nat.le_of_ble_eq_true rfl) (by simp [Value.cells, Value.oneCell'])) rfl ?_
  rintro _ _ rfl
  refine JL.nil ?_
  refine JE.code ?_
  refine JX.seq ?_
  refine JX.region ?_
  refine JL.val (yl_move rfl) rfl ?_
  refine JL.val (yl_move rfl) rfl ?_
  refine JL.val (yl_mul rfl rfl) rfl ?_
  refine JL.val (yl_add rfl rfl) rfl ?_
  refine JL.val (yl_assign rfl) rfl ?_
  refine JL.nil ?_
  refine JE.weak (env' := [(0, ptrAt b_0 0), (2, .int .i64 q2), (4, ptrAt (some ⟨g1, 0, none⟩) 0), (6, ptrAt (some ⟨g3, 0, none⟩) 0), (8, ptrAt (some ⟨g5, 0, none⟩) 0), (9, .int .i64 (w64 ((w64 (q2 * q2)) + 1)))]) (es' := [boxO 35 g1 [.int .i64 q1.X, .int .i64 q1.Y], boxO 35 g3 [.int .i64 0, .int .i64 0], boxO 35 g5 [.int .i64 0, .int .i64 0]]) [0, 1, 2] ?_ ⟨rfl, rfl, rfl, rfl, rfl, rfl, trivial⟩ (by decide) rfl
  refine JE.code ?_
  refine JX.seq ?_
  refine JX.seq ?_
  refine JX.region ?_
  refine JL.val (yl_assign rfl) rfl ?_
  refine JL.nil ?_
  refine JE.code ?_
  refine JX.block ?_
  obtain ⟨y1, hy1, hresO1⟩ := bind_some hres
  refine JX.loop (I := fun (s1 : Int × Int × SPoint) aa ww => St w [] 58 [(0, ptrAt b_0 0), (2, .int .i64 q2), (4, ptrAt (some ⟨g1, 0, none⟩) 0), (6, ptrAt (some ⟨g3, 0, none⟩) 0), (8, ptrAt (some ⟨g5, 0, none⟩) 0), (9, .int .i64 s1.1), (10, .int .i64 s1.2.1)] [boxO 35 g1 [.int .i64 q1.X, .int .i64 q1.Y], boxO 35 g3 [.int .i64 0, .int .i64 0], boxO 35 g5 [.int .i64 s1.2.2.X, .int .i64 s1.2.2.Y]] aa ww) (sh136_1 q0 q1 q2) hy1 (fun a w h => h.weak ⟨rfl, rfl, rfl, rfl, rfl, rfl, rfl, trivial⟩ [0, 1, 2] (by decide) rfl) ?_
  rintro ⟨x7, x8, x9⟩ o1 hres hox1 aa ww hS
  refine (?_ : JX Go.Proofs.Try.prog w [] 58 _ _ [(0, ptrAt b_0 0), (2, .int .i64 q2), (4, ptrAt (some ⟨g1, 0, none⟩) 0), (6, ptrAt (some ⟨g3, 0, none⟩) 0), (8, ptrAt (some ⟨g5, 0, none⟩) 0), (9, .int .i64 x7), (10, .int .i64 x8)] [boxO 35 g1 [.int .i64 q1.X, .int .i64 q1.Y], boxO 35 g3 [.int .i64 0, .int .i64 0], boxO 35 g5 [.int .i64 x9.X, .int .i64 x9.Y]] _) aa ww hS
  clear hS
  simp only [sh136_1] at hres
  refine JX.seq ?_
  refine JX.seq ?_
  refine JX.region ?_
  refine JL.val (yl_move rfl) rfl ?_
  refine JL.val (yl_move rfl) rfl ?_
  refine JL.val (yl_nilCheckAt rfl (Rd.some g_0 (j := 0) rfl)) rfl ?_
  refine JL.val (yl_fieldAt Go.Proofs.Try.underlying28 rfl i2 i2n rfl (Rd.some g_0 (j := 0) rfl)) rfl ?_
  refine JL.val (yl_load1 Go.Proofs.Try.underlying2 rfl rfl (fun w hC => rd_arg g_0 hC) rfl) rfl ?_
  refine JL.val (yl_mul rfl rfl) rfl ?_
  refine JL.val (yl_leq rfl rfl) rfl ?_
  refine JL.nil ?_
  refine JE.weak (env' := [(0, ptrAt b_0 0), (2, .int .i64 q2), (4, ptrAt (some ⟨g1, 0, none⟩) 0), (6, ptrAt (some ⟨g3, 0, none⟩) 0), (8, ptrAt (some ⟨g5, 0, none⟩) 0), (9, .int .i64 x7), (10, .int .i64 x8), (24, .bool (decide (x8 ≤ (w64 (2 * q0.H)))))]) (es' := [boxO 35 g1 [.int .i64 q1.X, .int .i64 q1.Y], boxO 35 g3 [.int .i64 0, .int .i64 0], boxO 35 g5 [.int .i64 x9.X, .int .i64 x9.Y]]) [0, 1, 2] ?_ ⟨rfl, rfl, rfl, rfl, rfl, rfl, rfl, rfl, trivial⟩ (by decide) rfl
  refine JE.code ?_
  rcases cond_some hres with ⟨hb, hres⟩ | ⟨hb, hres⟩
  · refine JX.condT rfl hb ?_
    refine JX.skip ?_
    refine JE.code ?_
    refine JX.seq ?_
    refine JX.block ?_
    refine JX.seq ?_
    refine JX.region ?_
    refine JL.val (yl_move rfl) rfl ?_
    refine JL.val (yl_rem rfl rfl (by decide)) rfl ?_
    refine JL.val (yl_sub rfl rfl) rfl ?_
    refine JL.val (yl_assign rfl) rfl ?_
    refine JL.nil ?_
    refine JE.weak (env' := [(0, ptrAt b_0 0), (2, .int .i64 q2), (4, ptrAt (some ⟨g1, 0, none⟩) 0), (6, ptrAt (some ⟨g3, 0, none⟩) 0), (8, ptrAt (some ⟨g5, 0, none⟩) 0), (9, .int .i64 x7), (10, .int .i64 x8), (11, .int .i64 (w64 (1 - (x8.tmod 2))))]) (es' := [boxO 35 g1 [.int .i64 q1.X, .int .i64 q1.Y], boxO 35 g3 [.int .i64 0, .int .i64 0], boxO 35 g5 [.int .i64 x9.X, .int .i64 x9.Y]]) [0, 1, 2] ?_ ⟨rfl, rfl, rfl, rfl, rfl, rfl, rfl, rfl, trivial⟩ (by decide) rfl
    refine JE.code ?_
    refine JX.block ?_
    obtain ⟨y2, hy2, hresO2⟩ := bind_some hres
    refine JX.loop (I := fun (s2 : Int × Int × SPoint) aa ww => St w [] 58 [(0, ptrAt b_0 0), (2, .int .i64 q2), (4, ptrAt (some ⟨g1, 0, none⟩) 0), (6, ptrAt (some ⟨g3, 0, none⟩) 0), (8, ptrAt (some ⟨g5, 0, none⟩) 0), (9, .int .i64 s2.1), (10, .int .i64 x8), (11, .int .i64 s2.2.1)] [boxO 35 g1 [.int .i64 q1.X, .int .i64 q1.Y], boxO 35 g3 [.int .i64 0, .int .i64 0], boxO 35 g5 [.int .i64 s2.2.2.X, .int .i64 s2.2.2.Y]] aa ww) (sh136_2 q0 q1 q2 x8) hy2 (fun a w h => h.weak ⟨rfl, rfl, rfl, rfl, rfl, rfl, rfl, rfl, trivial⟩ [0, 1, 2] (by decide) rfl) ?_
    rintro ⟨x10, x11, x12⟩ o2 hres hox2 aa ww hS
    refine (?_ : JX Go.Proofs.Try.prog w [] 58 _ _ [(0, ptrAt b_0 0), (2, .int .i64 q2), (4, ptrAt (some ⟨g1, 0, none⟩) 0), (6, ptrAt (some ⟨g3, 0, none⟩) 0), (8, ptrAt (some ⟨g5, 0, none⟩) 0), (9, .int .i64 x10), (10, .int .i64 x8), (11, .int .i64 x11)] [boxO 35 g1 [.int .i64 q1.X, .int .i64 q1.Y], boxO 35 g3 [.int .i64 0, .int .i64 0], boxO 35 g5 [.int .i64 x12.X, .int .i64 x12.Y]] _) aa ww hS
    clear hS
    simp only [sh136_2] at hres
    refine JX.seq ?_
    refine JX.seq ?_
    refine JX.region ?_
    refine JL.val (yl_move rfl) rfl ?_
    refine JL.val (yl_move rfl) rfl ?_
    refine JL.val (yl_nilCheckAt rfl (Rd.some g_0 (j := 0) rfl)) rfl ?_
    refine JL.val (yl_fieldAt Go.Proofs.Try.underlying28 rfl i2 i2n rfl (Rd.some g_0 (j := 0) rfl)) rfl ?_
    refine JL.val (yl_load1 Go.Proofs.Try.underlying2 rfl rfl (fun w hC => rd_arg g_0 hC) rfl) rfl ?_
    refine JL.val (yl_mul rfl rfl) rfl ?_
    refine JL.val (yl_leq rfl rfl) rfl ?_
    refine JL.nil ?_
    refine JE.weak (env' := [(0, ptrAt b_0 0), (2, .int .i64 q2), (4, ptrAt (some ⟨g1, 0, none⟩) 0), (6, ptrAt (some ⟨g3, 0, none⟩) 0), (8, ptrAt (some ⟨g5, 0, none⟩) 0), (9, .int .i64 x10), (10, .int .i64 x8), (11, .int .i64 x11), (36, .bool (decide (x11 ≤ (w64 (2 * q0.W)))))]) (es' := [boxO 35 g1 [.int .i64 q1.X, .int .i64 q1.Y], boxO 35 g3 [.int .i64 0, .int .i64 0], boxO 35 g5 [.int .i64 x12.X, .int .i64 x12.Y]]) [0, 1, 2] ?_ ⟨rfl, rfl, rfl, rfl, rfl, rfl, rfl, rfl, rfl, trivial⟩ (by decide) rfl
    refine JE.code ?_
    rcases cond_some hres with ⟨hb, hres⟩ | ⟨hb, hres⟩
    · refine JX.condT rfl hb ?_
      refine JX.skip ?_
      refine JE.code ?_
      refine JX.seq ?_
      refine JX.block ?_
      refine JX.seq ?_
      refine JX.region ?_
      refine JL.val (yl_loadn Go.Proofs.Try.underlying35 rfl i35 rfl (fun w hC => rd_box hC 0 rfl) rfl (i35s).symm i35p) rfl ?_
      refine JL.val (yl_move rfl) rfl ?_
      refine JL.val (yl_move rfl) rfl ?_
      refine JL.val (yl_build rfl (fun w => bld35_0_1 x11 x8 w)) rfl ?_
      refine JL.val (yl_move rfl) rfl ?_
      obtain ⟨x13, hx13, hres⟩ := bind_some hres
      refine JL.eff (ef_call (vs := [.agg #[.int .i64 q1.X, .int .i64 q1.Y], .agg #[.int .i64 x11, .int .i64 x8], .int .i64 q2]) (T := T175 x13) Go.Proofs.Try.func175 rfl (by kernel_rfl) rfl (fun w hC => c175 (q0 := q1) (q1 := SPoint.mk x11 x8) hx13)) rfl ?_
      rintro _ _ ⟨_, ⟨rfl, rfl⟩, rfl⟩
      refine JL.val (yl_assign rfl) rfl ?_
      refine JL.nil ?_
      refine JE.weak (env' := [(0, ptrAt b_0 0), (2, .int .i64 q2), (4, ptrAt (some ⟨g1, 0, none⟩) 0), (6, ptrAt (some ⟨g3, 0, none⟩) 0), (8, ptrAt (some ⟨g5, 0, none⟩) 0), (9, .int .i64 x10), (10, .int .i64 x8), (11, .int .i64 x11), (12, .int .i64 x13)]) (es' := [boxO 35 g1 [.int .i64 q1.X, .int .i64 q1.Y], boxO 35 g3 [.int .i64 0, .int .i64 0], boxO 35 g5 [.int .i64 x12.X, .int .i64 x12.Y]]) [0, 1, 2] ?_ ⟨rfl, rfl, rfl, rfl, rfl, rfl, rfl, rfl, rfl, trivial⟩ (by decide) rfl
      refine JE.code ?_
      refine JX.seq ?_
      refine JX.region ?_
      refine JL.val (yl_move rfl) rfl ?_
      refine JL.val (yl_move rfl) rfl ?_
      refine JL.val (yl_lss rfl rfl) rfl ?_
      refine JL.nil ?_
      refine JE.code ?_
      obtain ⟨j14, hj14, hresj14⟩ := bind_some hres
      refine JX.cut (K := fun J => J [(0, ptrAt b_0 0), (2, .int .i64 q2), (4, ptrAt (some ⟨g1, 0, none⟩) 0), (6, ptrAt (some ⟨g3, 0, none⟩) 0), (8, ptrAt (some ⟨g5, 0, none⟩) 0), (9, .int .i64 j14.1), (10, .int .i64 x8), (11, .int .i64 x11)] [boxO 35 g1 [.int .i64 q1.X, .int .i64 q1.Y], boxO 35 g3 [.int .i64 0, .int .i64 0], boxO 35 g5 [.int .i64 j14.2.X, .int .i64 j14.2.Y]]) ?_ ?_
      · have hres := hresj14
        refine JE.code ?_
        refine JX.region ?_
        refine JL.val (yl_move rfl) rfl ?_
        refine JL.val (yl_add rfl rfl) rfl ?_
        refine JL.val (yl_assign rfl) rfl ?_
        refine JL.nil ?_
        refine JE.cont hres ?_
        exact fun a w h => h.weak ⟨rfl, rfl, rfl, rfl, rfl, rfl, rfl, rfl, trivial⟩ [0, 1, 2] (by decide) rfl
      · intro K
        rcases cond_some hj14 with ⟨hb, hres⟩ | ⟨hb, hres⟩
        · refine JX.condT rfl hb ?_
          refine JX.seq ?_
          refine JX.region ?_
          refine JL.val (yl_move rfl) rfl ?_
          refine JL.val (yl_assign rfl) rfl ?_
          refine JL.nil ?_
          refine JE.code ?_
          refine JX.region ?_
          refine JL.val (yl_move rfl) rfl ?_
          refine JL.val (yl_move rfl) rfl ?_
          refine JL.val (yl_build rfl (fun w => bld35_0_1 x11 x8 w)) rfl ?_
          refine JL.eff (ef_store_box (i := 2) (v := .agg #[.int .i64 x11, .int .i64 x8]) i35 rfl rfl rfl (i35s).symm (Nat.le_of_ble_eq_true rfl) (by simp [Value.cells, Value.oneCell'])) rfl ?_
          rintro _ _ rfl
          refine JL.nil ?_
          refine JE.weak (env' := [(0, ptrAt b_0 0), (2, .int .i64 q2), (4, ptrAt (some ⟨g1, 0, none⟩) 0), (6, ptrAt (some ⟨g3, 0, none⟩) 0), (8, ptrAt (some ⟨g5, 0, none⟩) 0), (9, .int .i64 x13), (10, .int .i64 x8), (11, .int .i64 x11)]) (es' := [boxO 35 g1 [.int .i64 q1.X, .int .i64 q1.Y], boxO 35 g3 [.int .i64 0, .int .i64 0], boxO 35 g5 [.int .i64 x11, .int .i64 x8]]) [0, 1, 2] ?_ ⟨rfl, rfl, rfl, rfl, rfl, rfl, rfl, rfl, trivial⟩ (by decide) rfl
          have hj := Option.some.inj hres
          exact JE.weak [0, 1, 2] (K) ⟨(by subst hj; rfl), (by subst hj; rfl), (by subst hj; rfl), (by subst hj; rfl), (by subst hj; rfl), (by subst hj; rfl), (by subst hj; rfl), (by subst hj; rfl), trivial⟩ (by decide) (by subst hj; rfl)
        · refine JX.condF rfl hb ?_
          refine JX.skip ?_
          have hj := Option.some.inj hres
          exact JE.weak [0, 1, 2] (K) ⟨(by subst hj; rfl), (by subst hj; rfl), (by subst hj; rfl), (by subst hj; rfl), (by subst hj; rfl), (by subst hj; rfl), (by subst hj; rfl), (by subst hj; rfl), trivial⟩ (by decide) (by subst hj; rfl)
    · refine JX.condF rfl hb ?_
      refine JX.exit ?_
      refine JE.qb rfl ?_
      obtain ⟨b2, hb2⟩ : ∃ b : Int × SPoint, b = (x10, x12) := ⟨_, rfl⟩
      have hy2 : b2 = y2 := by rw [hb2]; exact hox2 _ (Option.some.inj hres).symm
      have hres := hresO2
      rw [← hy2] at hres
      refine JE.weak (env' := [(0, ptrAt b_0 0), (2, .int .i64 q2), (4, ptrAt (some ⟨g1, 0, none⟩) 0), (6, ptrAt (some ⟨g3, 0, none⟩) 0), (8, ptrAt (some ⟨g5, 0, none⟩) 0), (9, .int .i64 b2.1), (10, .int .i64 x8)]) (es' := [boxO 35 g1 [.int .i64 q1.X, .int .i64 q1.Y], boxO 35 g3 [.int .i64 0, .int .i64 0], boxO 35 g5 [.int .i64 b2.2.X, .int .i64 b2.2.Y]]) [0, 1, 2] ?_ ⟨(by subst hb2; rfl), (by subst hb2; rfl), (by subst hb2; rfl), (by subst hb2; rfl), (by subst hb2; rfl), (by subst hb2; rfl), (by subst hb2; rfl), trivial⟩ (by decide) (by subst hb2; rfl)
      refine JE.code ?_
      refine JX.region ?_
      refine JL.val (yl_move rfl) rfl ?_
      refine JL.val (yl_add rfl rfl) rfl ?_
      refine JL.val (yl_assign rfl) rfl ?_
      refine JL.nil ?_
      refine JE.cont hres ?_
      exact fun a w h => h.weak ⟨rfl, rfl, rfl, rfl, rfl, rfl, rfl, trivial⟩ [0, 1, 2] (by decide) rfl
  · refine JX.condF rfl hb ?_
    refine JX.exit ?_
    refine JE.qb rfl ?_
    obtain ⟨b1, hb1⟩ : ∃ b : Int × SPoint, b = (x7, x9) := ⟨_, rfl⟩
    have hy1 : b1 = y1 := by rw [hb1]; exact hox1 _ (Option.some.inj hres).symm
    have hres := hresO1
    rw [← hy1] at hres
    refine JE.weak (env' := [(2, .int .i64 q2), (6, ptrAt (some ⟨g3, 0, none⟩) 0), (8, ptrAt (some ⟨g5, 0, none⟩) 0), (9, .int .i64 b1.1)]) (es' := [boxO 35 g3 [.int .i64 0, .int .i64 0], boxO 35 g5 [.int .i64 b1.2.X, .int .i64 b1.2.Y]]) [1, 2] ?_ ⟨(by subst hb1; rfl), (by subst hb1; rfl), (by subst hb1; rfl), (by subst hb1; rfl), trivial⟩ (by decide) (by subst hb1; rfl)
    refine JE.code ?_
    refine JX.seq ?_
    refine JX.region ?_
    refine JL.val (yl_loadn Go.Proofs.Try.underlying35 rfl i35 rfl (fun w hC => rd_box hC 1 rfl) rfl (i35s).symm i35p) rfl ?_
    refine JL.val (yl_move rfl) rfl ?_
    refine JL.val (yl_move rfl) rfl ?_
    refine JL.val (yl_move rfl) rfl ?_
    refine JL.val (yl_mul rfl rfl) rfl ?_
    refine JL.val (yl_leq rfl rfl) rfl ?_
    refine JL.eff (ef_store_box (i := 0) (v := .agg #[.int .i64 b1.2.X, .int .i64 b1.2.Y]) i35 rfl rfl rfl (i35s).symm (Nat.le_of_ble_eq_true rfl) (by simp [Value.cells, Value.oneCell'])) rfl ?_
    rintro _ _ rfl
    refine JL.val (yl_assign rfl) rfl ?_
    refine JL.nil ?_
    refine JE.weak (env' := [(6, ptrAt (some ⟨g3, 0, none⟩) 0), (7, .bool (decide (b1.1 ≤ (w64 (q2 * q2)))))]) (es' := [boxO 35 g3 [.int .i64 b1.2.X, .int .i64 b1.2.Y]]) [0] ?_ ⟨rfl, rfl, trivial⟩ (by decide) rfl
    refine JE.code ?_
    refine JX.ret ?_
    obtain rfl := Option.some.inj hres
    refine JE.ret (rs := [.cell 6 35, .tmp 7]) (vs := [.agg #[.int .i64 b1.2.X, .int .i64 b1.2.Y], .bool (decide (b1.1 ≤ (w64 (q2 * q2))))]) rfl ⟨rv_box 0 rfl rfl Go.Proofs.Try.underlying35 rfl i35 (i35s).symm, rfl, trivial⟩ ?_
    exact fun w' hb hs => ⟨_, _, ⟨rfl, rfl⟩, rfl, hb, hs.sel [] _ (by decide) rfl⟩

/- spec.NearestPoint -/
def sh72 (q0 : SPanel) (q1 : SPoint) (q2 : Int) : Option (SPoint × Int) := Option.bind (sh121 [q1]) fun x9 => bif !x9 then (some (SPoint.mk 0 0, 1)) else (Option.bind (sh135 q0 q2) fun x10 => bif x10 != 0 then (some (SPoint.mk 0 0, x10)) else (Option.bind (sh136 q0 q1 q2) fun x11 => bif !x11.2 then (some (SPoint.mk 0 0, 3)) else (some (x11.1, 0))))
def T72 (r : SPoint × Int) (v : Value) (rs : List Own) : Prop := v = rets [.agg #[.int .i64 r.1.X, .int .i64 r.1.Y], .int .i64 r.2] ∧ rs = []
set_option maxRecDepth 100000 in
theorem c72 {w : World} {q0 : SPanel} {a_0_2 : Option Addr} {n_0_2 c_0_2 : Nat} (g_0_2 : Rd w a_0_2 (eI64.fl q0.Breaks)) (l_0_2 : q0.Breaks.length = n_0_2) (k_0_2 : n_0_2 ≤ c_0_2) {q1 : SPoint} {q2 : Int} {r : SPoint × Int} (hres : sh72 q0 q1 q2 = some r) : Calls Go.Proofs.Try.prog 72 [.agg #[.int .i64 q0.W, .int .i64 q0.H, .slice a_0_2 n_0_2 c_0_2], .agg #[.int .i64 q1.X, .int .i64 q1.Y], .int .i64 q2].toArray w (Ret w (T72 r)) := by
  subst l_0_2
  unfold sh72 at hres
  refine calls_of (n := 32) (M := []) (es := []) Go.Proofs.Try.func72 rfl rfl rfl (Sep.nil _ _ _) ?_
  refine JX.seq ?_
  refine JX.region ?_
  refine JL.eff (ef_box rfl rfl) rfl ?_
  rintro _ _ ⟨g1, rfl, rfl⟩
  refine JL.eff (ef_box rfl rfl) rfl ?_
  rintro _ _ ⟨g3, rfl, rfl⟩
  refine JL.eff (ef_alloc i35 i35z rfl) rfl ?_
  rintro _ _ ⟨g5, rfl, rfl⟩
  refine JL.val (yl_assign rfl) rfl ?_
  refine JL.nil ?_
  refine JE.weak (env' := [(2, .int .i64 q2), (3, ptrAt (some ⟨g1, 0, none⟩) 0), (4, ptrAt (some ⟨g3, 0, none⟩) 0), (6, ptrAt (some ⟨g5, 0, none⟩) 0)]) (es' := [boxO 28 g1 [.int .i64 q0.W, .int .i64 q0.H, .slice a_0_2 q0.Breaks.length c_0_2], boxO 35 g3 [.int .i64 q1.X, .int .i64 q1.Y], boxO 35 g5 [.int .i64 0, .int .i64 0]]) [0, 1, 2] ?_ ⟨rfl, rfl, rfl, rfl, trivial⟩ (by decide) rfl
  refine JE.code ?_
  refine JX.seq ?_
  refine JX.seq ?_
  refine JX.region ?_
  refine JL.val (yl_loadn Go.Proofs.Try.underlying35 rfl i35 rfl (fun w hC => rd_box hC 1 rfl) rfl (i35s).symm i35p) rfl ?_
  refine JL.eff (ef_buildSlice (E := 35) (k := eSPoint.k) (us := eSPoint.fl [q1]) rfl (fun w => bsl61_1 q1.X q1.Y w) rfl (by decide)) rfl ?_
  rintro _ _ ⟨a7, rfl, rfl⟩
  obtain ⟨x9, hx9, hres⟩ := bind_some hres
  refine JL.eff (ef_call (T := T121 x9) Go.Proofs.Try.func121 rfl (by kernel_rfl) rfl (fun w hC => c121 (rd_row hC 3 rfl) rfl (Nat.le_refl _) hx9)) rfl ?_
  rintro _ _ ⟨_, ⟨rfl, rfl⟩, rfl⟩
  refine JL.val (yl_not rfl) rfl ?_
  refine JL.nil ?_
  refine JE.weak (env' := [(2, .int .i64 q2), (3, ptrAt (some ⟨g1, 0, none⟩) 0), (4, ptrAt (some ⟨g3, 0, none⟩) 0), (6, ptrAt (some ⟨g5, 0, none⟩) 0), (14, .bool !x9)]) (es' := [boxO 28 g1 [.int .i64 q0.W, .int .i64 q0.H, .slice a_0_2 q0.Breaks.length c_0_2], boxO 35 g3 [.int .i64 q1.X, .int .i64 q1.Y], boxO 35 g5 [.int .i64 0, .int .i64 0]]) [0, 1, 2] ?_ ⟨rfl, rfl, rfl, rfl, rfl, trivial⟩ (by decide) rfl
  refine JE.code ?_
  rcases cond_some hres with ⟨hb, hres⟩ | ⟨hb, hres⟩
  · refine JX.condT rfl hb ?_
    refine JX.seq ?_
    refine JX.region ?_
    refine JL.val (yl_build rfl (fun w => bld35_  w)) rfl ?_
    refine JL.eff (ef_store_box (i := 2) (v := .agg #[.int .i64 0, .int .i64 0]) i35 rfl rfl rfl (i35s).symm (Nat.le_of_ble_eq_true rfl) (by simp [Value.cells, Value.oneCell'])) rfl ?_
    rintro _ _ rfl
    refine JL.val (yl_assign rfl) rfl ?_
    refine JL.nil ?_
    refine JE.weak (env' := [(6, ptrAt (some ⟨g5, 0, none⟩) 0), (7, .int .i64 1)]) (es' := [boxO 35 g5 [.int .i64 0, .int .i64 0]]) [2] ?_ ⟨rfl, rfl, trivial⟩ (by decide) rfl
    refine JE.code ?_
    refine JX.ret ?_
    obtain rfl := Option.some.inj hres
    refine JE.ret (rs := [.cell 6 35, .tmp 7]) (vs := [.agg #[.int .i64 0, .int .i64 0], .int .i64 1]) rfl ⟨rv_box 0 rfl rfl Go.Proofs.Try.underlying35 rfl i35 (i35s).symm, rfl, trivial⟩ ?_
    exact fun w' hb hs => ⟨_, _, ⟨rfl, rfl⟩, rfl, hb, hs.sel [] _ (by decide) rfl⟩
  · refine JX.condF rfl hb ?_
    refine JX.skip ?_
    refine JE.code ?_
    refine JX.seq ?_
    refine JX.region ?_
    refine JL.val (yl_move rfl) rfl ?_
    obtain ⟨x10, hx10, hres⟩ := bind_some hres
    refine JL.eff (ef_call (T := T135 x10) Go.Proofs.Try.func135 rfl (by kernel_rfl) rfl (fun w hC => c135 (RdAt.of0 (rd_box hC 0 rfl)) (rd_arg g_0_2 hC) rfl k_0_2 hx10)) rfl ?_
    rintro _ _ ⟨_, ⟨rfl, rfl⟩, rfl⟩
    refine JL.val (yl_assign rfl) rfl ?_
    refine JL.nil ?_
    refine JE.code ?_
    refine JX.seq ?_
    refine JX.seq ?_
    refine JX.region ?_
    refine JL.val (yl_move rfl) rfl ?_
    refine JL.val (yl_neq rfl rfl) rfl ?_
    refine JL.nil ?_
    refine JE.code ?_
    rcases cond_some hres with ⟨hb, hres⟩ | ⟨hb, hres⟩
    · refine JX.condT rfl hb ?_
      refine JX.seq ?_
      refine JX.region ?_
      refine JL.val (yl_build rfl (fun w => bld35_  w)) rfl ?_
      refine JL.val (yl_move rfl) rfl ?_
      refine JL.eff (ef_store_box (i := 2) (v := .agg #[.int .i64 0, .int .i64 0]) i35 rfl rfl rfl (i35s).symm (Nat.le_of_ble_eq_true rfl) (by simp [Value.cells, Value.oneCell'])) rfl ?_
      rintro _ _ rfl
      refine JL.val (yl_assign rfl) rfl ?_
      refine JL.nil ?_
      refine JE.weak (env' := [(6, ptrAt (some ⟨g5, 0, none⟩) 0), (7, .int .i64 x10)]) (es' := [boxO 35 g5 [.int .i64 0, .int .i64 0]]) [2] ?_ ⟨rfl, rfl, trivial⟩ (by decide) rfl
      refine JE.code ?_
      refine JX.ret ?_
      obtain rfl := Option.some.inj hres
      refine JE.ret (rs := [.cell 6 35, .tmp 7]) (vs := [.agg #[.int .i64 0, .int .i64 0], .int .i64 x10]) rfl ⟨rv_box 0 rfl rfl Go.Proofs.Try.underlying35 rfl i35 (i35s).symm, rfl, trivial⟩ ?_
      exact fun w' hb hs => ⟨_, _, ⟨rfl, rfl⟩, rfl, hb, hs.sel [] _ (by decide) rfl⟩
    · refine JX.condF rfl hb ?_
      refine JX.skip ?_
      refine JE.code ?_
      refine JX.seq ?_
      refine JX.region ?_
      refine JL.val (yl_loadn Go.Proofs.Try.underlying35 rfl i35 rfl (fun w hC => rd_box hC 1 rfl) rfl (i35s).symm i35p) rfl ?_
      refine JL.val (yl_move rfl) rfl ?_
      obtain ⟨x11, hx11, hres⟩ := bind_some hres
      refine JL.eff (ef_call (vs := [ptrAt (some ⟨g1, 0, none⟩) 0, .agg #[.int .i64 q1.X, .int .i64 q1.Y], .int .i64 q2]) (T := T136 x11) Go.Proofs.Try.func136 rfl (by kernel_rfl) rfl (fun w hC => c136 (q1 := q1) (RdAt.of0 (rd_box hC 0 rfl)) (rd_arg g_0_2 hC) rfl k_0_2 hx11)) rfl ?_
      rintro _ _ ⟨_, ⟨rfl, rfl⟩, rfl⟩
      refine JL.val (yl_move rfl) rfl ?_
      refine JL.val (yl_extract rfl rfl) rfl ?_
      refine JL.val (yl_extract rfl rfl) rfl ?_
      refine JL.eff (ef_alloc i35 i35z rfl) rfl ?_
      rintro _ _ ⟨g12, rfl, rfl⟩
      refine JL.eff (ef_store_box (i := 3) (v := .agg #[.int .i64 x11.1.X, .int .i64 x11.1.Y]) i35 rfl rfl rfl (i35s).symm (Nat.le_of_ble_eq_true rfl) (by simp [Value.cells, Value.oneCell'])) rfl ?_
      rintro _ _ rfl
      refine JL.val (yl_assign rfl) rfl ?_
      refine JL.nil ?_
      refine JE.weak (env' := [(6, ptrAt (some ⟨g5, 0, none⟩) 0), (9, ptrAt (some ⟨g12, 0, none⟩) 0), (10, .bool x11.2)]) (es' := [boxO 35 g5 [.int .i64 0, .int .i64 0], boxO 35 g12 [.int .i64 x11.1.X, .int .i64 x11.1.Y]]) [2, 3] ?_ ⟨rfl, rfl, rfl, trivial⟩ (by decide) rfl
      refine JE.code ?_
      refine JX.seq ?_
      refine JX.seq ?_
      refine JX.region ?_
      refine JL.val (yl_move rfl) rfl ?_
      refine JL.val (yl_not rfl) rfl ?_
      refine JL.nil ?_
      refine JE.code ?_
      rcases cond_some hres with ⟨hb, hres⟩ | ⟨hb, hres⟩
      · refine JX.condT rfl hb ?_
        refine JX.seq ?_
        refine JX.region ?_
        refine JL.val (yl_build rfl (fun w => bld35_  w)) rfl ?_
        refine JL.eff (ef_store_box (i := 0) (v := .agg #[.int .i64 0, .int .i64 0]) i35 rfl rfl rfl (i35s).symm (Nat.le_of_ble_eq_true rfl) (by simp [Value.cells, Value.oneCell'])) rfl ?_
        rintro _ _ rfl
        refine JL.val (yl_assign rfl) rfl ?_
        refine JL.nil ?_
        refine JE.weak (env' := [(6, ptrAt (some ⟨g5, 0, none⟩) 0), (7, .int .i64 3)]) (es' := [boxO 35 g5 [.int .i64 0, .int .i64 0]]) [0] ?_ ⟨rfl, rfl, trivial⟩ (by decide) rfl
        refine JE.code ?_
        refine JX.ret ?_
        obtain rfl := Option.some.inj hres
        refine JE.ret (rs := [.cell 6 35, .tmp 7]) (vs := [.agg #[.int .i64 0, .int .i64 0], .int .i64 3]) rfl ⟨rv_box 0 rfl rfl Go.Proofs.Try.underlying35 rfl i35 (i35s).symm, rfl, trivial⟩ ?_
        exact fun w' hb hs => ⟨_, _, ⟨rfl, rfl⟩, rfl, hb, hs.sel [] _ (by decide) rfl⟩
      · refine JX.condF rfl hb ?_
        refine JX.skip ?_
        refine JE.code ?_
        refine JX.seq ?_
        refine JX.region ?_
        refine JL.val (yl_loadn Go.Proofs.Try.underlying35 rfl i35 rfl (fun w hC => rd_box hC 1 rfl) rfl (i35s).symm i35p) rfl ?_
        refine JL.eff (ef_store_box (i := 0) (v := .agg #[.int .i64 x11.1.X, .int .i64 x11.1.Y]) i35 rfl rfl rfl (i35s).symm (Nat.le_of_ble_eq_true rfl) (by simp [Value.cells, Value.oneCell'])) rfl ?_
        rintro _ _ rfl
        refine JL.val (yl_assign rfl) rfl ?_
        refine JL.nil ?_
        refine JE.weak (env' := [(6, ptrAt (some ⟨g5, 0, none⟩) 0), (7, .int .i64 0)]) (es' := [boxO 35 g5 [.int .i64 x11.1.X, .int .i64 x11.1.Y]]) [0] ?_ ⟨rfl, rfl, trivial⟩ (by decide) rfl
        refine JE.code ?_
        refine JX.ret ?_
        obtain rfl := Option.some.inj hres
        refine JE.ret (rs := [.cell 6 35, .tmp 7]) (vs := [.agg #[.int .i64 x11.1.X, .int .i64 x11.1.Y], .int .i64 0]) rfl ⟨rv_box 0 rfl rfl Go.Proofs.Try.underlying35 rfl i35 (i35s).symm, rfl, trivial⟩ ?_
        exact fun w' hb hs => ⟨_, _, ⟨rfl, rfl⟩, rfl, hb, hs.sel [] _ (by decide) rfl⟩

/- spec.DrawStrokeKind -/
def sh73 (q0 : List Int) : Option (List SPoint × Int) := Option.bind (sh109 q0) fun x1 => Option.bind (sh119 (Sl00Src.mk q0 x1.at_ x1.seed)) fun x4 => Option.bind (sh131 (Sl00Src.mk q0 x4.2.1 x4.2.2)) fun x8 => some (x4.1, x8.1)
def T73 (r : List SPoint × Int) (v : Value) (rs : List Own) : Prop := ∃ (a0 : Option Addr) (n0 c0 : Nat), r.1.length = n0 ∧ v = rets [.slice a0 n0 c0, .int .i64 r.2] ∧ rs = [rowT 35 eSPoint a0 n0 c0 r.1]
set_option maxRecDepth 100000 in
theorem c73 {w : World} {q0 : List Int} {a_0 : Option Addr} {n_0 c_0 : Nat} (g_0 : Rd w a_0 (eU8.fl q0)) (l_0 : q0.length = n_0) (k_0 : n_0 ≤ c_0) {r : List SPoint × Int} (hres : sh73 q0 = some r) : Calls Go.Proofs.Try.prog 73 [.slice a_0 n_0 c_0].toArray w (Ret w (T73 r)) := by
  subst l_0
  unfold sh73 at hres
  refine calls_of (n := 13) (M := []) (es := []) Go.Proofs.Try.func73 rfl rfl rfl (Sep.nil _ _ _) ?_
  refine JX.seq ?_
  refine JX.region ?_
  refine JL.val (yl_assign rfl) rfl ?_
  refine JL.val (yl_assign rfl) rfl ?_
  refine JL.nil ?_
  refine JE.code ?_
  refine JX.seq ?_
  refine JX.region ?_
  refine JL.val (yl_move rfl) rfl ?_
  obtain ⟨x1, hx1, hres⟩ := bind_some hres
  refine JL.eff (ef_call (T := T109 a_0 q0.length c_0 x1) Go.Proofs.Try.func109 rfl (by kernel_rfl) rfl (fun w hC => c109 (rd_arg g_0 hC) rfl k_0 hx1)) rfl ?_
  rintro _ _ ⟨_, ⟨g2, rfl, rfl⟩, rfl⟩
  refine JL.val (yl_assign rfl) rfl ?_
  refine JL.nil ?_
  refine JE.code ?_
  refine JX.seq ?_
  refine JX.region ?_
  refine JL.val (yl_move rfl) rfl ?_
  obtain ⟨x4, hx4, hres⟩ := bind_some hres
  refine JL.eff (ef_callms (caps := []) (vs := [ptrAt (some ⟨g2, 0, none⟩) 0]) (T := T119 g2 a_0 q0.length c_0 x4) [0] [] [boxO 162 g2 [.slice a_0 q0.length c_0, .int .i64 x1.at_, .int .u64 x1.seed]] [] rfl Go.Proofs.Try.func119 rfl (by kernel_rfl) rfl (by decide) rfl rfl (fun w N hF hS => c119 (q0 := Sl00Src.mk q0 x1.at_ x1.seed) (RdS.pass0 hF g_0) rfl k_0 hS hx4)) rfl ?_
  rintro _ _ ⟨_, _, ⟨rfl, a5, _, cp6, rfl, rfl, rfl⟩, rfl⟩
  refine JL.val (yl_assign rfl) rfl ?_
  refine JL.nil ?_
  refine JE.code ?_
  refine JX.seq ?_
  refine JX.region ?_
  refine JL.val (yl_move rfl) rfl ?_
  refine JL.val (yl_move rfl) rfl ?_
  obtain ⟨x8, hx8, hres⟩ := bind_some hres
  refine JL.eff (ef_callms (caps := []) (vs := [ptrAt (some ⟨g2, 0, none⟩) 0]) (T := T131 g2 a_0 q0.length c_0 x8) [0] [1] [boxO 162 g2 [.slice a_0 q0.length c_0, .int .i64 x4.2.1, .int .u64 x4.2.2]] [rowT 35 eSPoint a5 x4.1.length cp6 x4.1] rfl Go.Proofs.Try.func131 rfl (by kernel_rfl) rfl (by decide) rfl rfl (fun w N hF hS => c131 (q0 := Sl00Src.mk q0 x4.2.1 x4.2.2) (RdS.pass0 hF g_0) rfl k_0 hS hx8)) rfl ?_
  rintro _ _ ⟨_, _, ⟨rfl, rfl, rfl⟩, rfl⟩
  refine JL.val (yl_assign rfl) rfl ?_
  refine JL.val (yl_assign rfl) rfl ?_
  refine JL.nil ?_
  refine JE.weak (env' := [(2, .slice a5 x4.1.length cp6), (3, .int .i64 x8.1)]) (es' := [rowT 35 eSPoint a5 x4.1.length cp6 x4.1]) [0] ?_ ⟨rfl, rfl, trivial⟩ (by decide) rfl
  refine JE.code ?_
  refine JX.ret ?_
  obtain rfl := Option.some.inj hres
  refine JE.ret (rs := [.tmp 2, .tmp 3]) (vs := [.slice a5 x4.1.length cp6, .int .i64 x8.1]) rfl ⟨rfl, rfl, trivial⟩ ?_
  exact fun w' hb hs => ⟨_, _, ⟨a5, x4.1.length, cp6, rfl, rfl, rfl⟩, rfl, hb, hs.sel [0] _ (by decide) rfl⟩

end Go.Sh
