/- Walks through functions that the law reaches, printed by program. -/
import Derived.Test.YtinipjijgggjkaaF12W0
set_option linter.unusedVariables false
set_option linter.unusedSimpArgs false
namespace Go.Sh
open Go Go.RowKit
/- (impl.Panel).regions -/
def sh88_5 (b1 : (List (SPoint × List SPoint))) (x1570 : List (List SPoint)) (x1587 : SPoint) : (Int × (List (SPoint × Int)) × List SPoint) → Option ((Int × (List (SPoint × Int)) × List SPoint) ⊕ ((List (SPoint × Int)) × List SPoint))
  | (x1594, x1595, x1596) => bif decide (x1594 < ((rowOf b1 x1587).length : Int)) then (Option.bind (getI (rowOf b1 x1587) x1594) fun x1599 => Option.bind (bif !((mfind x1595 x1599).isSome) then (Option.bind (appL x1596 [x1599]) fun x1607 => some (mput x1595 x1599 ((x1570.length : Nat) : Int), x1607)) else (some (x1595, x1596))) fun j1602 => (some (.inl (w64 (x1594 + 1), j1602.1, j1602.2)))) else (some (.inr (x1595, x1596)))
def sh88_4 (b1 : (List (SPoint × List SPoint))) (x1570 : List (List SPoint)) : (Int × (List (SPoint × Int)) × List SPoint) → Option ((Int × (List (SPoint × Int)) × List SPoint) ⊕ ((List (SPoint × Int)) × List SPoint))
  | (x1582, x1583, x1584) => bif decide (x1582 < (x1584.length : Int)) then (Option.bind (getI x1584 x1582) fun x1587 => Option.bind (iter (sh88_5 b1 x1570 x1587) (0, x1583, x1584)) fun b5 => (some (.inl (w64 (x1582 + 1), b5.1, b5.2)))) else (some (.inr (x1583, x1584)))
def sh88_3 (q0 : SPanel) (b1 : (List (SPoint × List SPoint))) (x1558 : Int) : (Int × List (List SPoint) × (List (SPoint × Int))) → Option ((Int × List (List SPoint) × (List (SPoint × Int))) ⊕ (List (List SPoint) × (List (SPoint × Int))))
  | (x1569, x1570, x1571) => bif decide (x1569 ≤ (w64 (2 * q0.W))) then (bif (mfind x1571 (SPoint.mk x1569 x1558)).isSome then (some (.inl (w64 (x1569 + 2), x1570, x1571))) else (Option.bind (iter (sh88_4 b1 x1570) (0, mput x1571 (SPoint.mk x1569 x1558) ((x1570.length : Nat) : Int), [SPoint.mk x1569 x1558])) fun b4 => (Option.bind (sortW ltPt b4.2) fun x1614 => Option.bind (appL x1570 [x1614]) fun x1617 => some (.inl (w64 (x1569 + 2), x1617, b4.1))))) else (some (.inr (x1570, x1571)))
def sh88_2 (q0 : SPanel) (b1 : (List (SPoint × List SPoint))) : (Int × List (List SPoint) × (List (SPoint × Int))) → Option ((Int × List (List SPoint) × (List (SPoint × Int))) ⊕ (List (List SPoint) × (List (SPoint × Int))))
  | (x1558, x1559, x1560) => bif decide (x1558 < (w64 ((w64 (2 * q0.H)) + 1))) then (Option.bind (iter (sh88_3 q0 b1 x1558) (x1558.tmod 2, x1559, x1560)) fun b3 => (some (.inl (w64 (x1558 + 1), b3.1, b3.2)))) else (some (.inr (x1559, x1560)))
def sh88_1 (q0 : SPanel) (x5 : List SPoint) : (Int × (List (SPoint × List SPoint))) → Option ((Int × (List (SPoint × List SPoint))) ⊕ ((List (SPoint × List SPoint))))
  | (x11, x12) => bif decide (x11 < (x5.length : Int)) then (Option.bind (getI x5 x11) fun x15 => Option.bind (getI q0.Breaks x11) fun x23 => Option.bind (bif x23 == 2 then (some (SPoint.mk (w64 (x15.X - 1)) x15.Y, SPoint.mk (w64 (x15.X + 1)) x15.Y)) else (some (SPoint.mk x15.X (w64 (x15.Y - 1)), SPoint.mk x15.X (w64 (x15.Y + 1))))) fun j24 => (Option.bind (getI q0.Breaks x11) fun x25 => Option.bind (bif x25 != 0 then (Option.bind (neqG j24.1 j24.2) fun x29 => Option.bind (appL (rowOf x12 j24.1) [j24.2]) fun x639 => Option.bind (appL (rowOf x12 j24.2) [j24.1]) fun x1539 => some (mput (mput x12 j24.1 x639) j24.2 x1539)) else (some x12)) fun j26 => (some (.inl (w64 (x11 + 1), j26))))) else (some (.inr x12))
def sh88 (q0 : SPanel) : Option (List (List SPoint) × (List (SPoint × Int))) := Option.bind (sh149 q0) fun x5 => Option.bind (iter (sh88_1 q0 x5) (0, ([] : List (SPoint × List SPoint)))) fun b1 => (Option.bind (iter (sh88_2 q0 b1) (0, ([] : List (List SPoint)), ([] : List (SPoint × Int)))) fun b2 => (some (b2.1, b2.2)))
def T88 (r : List (List SPoint) × (List (SPoint × Int))) (v : Value) (rs : List Own) : Prop := ∃ (a0 : Option Addr) (n0 c0 : Nat) (h0 : List Hd), r.1.length = n0 ∧ Inn h0 r.1 ∧ ∃ (o1 : Option Nat), v = rets [.slice a0 n0 c0, .map o1] ∧ rs = [rowT 61 eHd a0 n0 c0 h0, innO 35 eSPoint none h0 r.1, mapI eSPoint o1 r.2]
set_option maxRecDepth 100000 in
set_option maxHeartbeats 1000000 in
theorem c88 {w : World} {q0 : SPanel} {a_0_2 : Option Addr} {n_0_2 c_0_2 : Nat} (g_0_2 : Rd w a_0_2 (eI64.fl q0.Breaks)) (l_0_2 : q0.Breaks.length = n_0_2) (k_0_2 : n_0_2 ≤ c_0_2) {r : List (List SPoint) × (List (SPoint × Int))} (hres : sh88 q0 = some r) : Calls Go.Proofs.Try.prog 88 [.agg #[.int .i64 q0.W, .int .i64 q0.H, .slice a_0_2 n_0_2 c_0_2]].toArray w (Ret w (T88 r)) := by
  subst l_0_2
  unfold sh88 at hres
  refine calls_of (n := 163) (M := []) (es := []) Go.Proofs.Try.func88 rfl rfl rfl (Sep.nil _ _ _) ?_
  refine JX.seq ?_
  refine JX.region ?_
  refine JL.eff (ef_box rfl rfl) rfl ?_
  rintro _ _ ⟨g1, rfl, rfl⟩
  refine JL.val (yl_assign rfl) rfl ?_
  refine JL.val (yl_assign rfl) rfl ?_
  refine JL.nil ?_
  refine JE.code ?_
  refine JX.seq ?_
  refine JX.region ?_
  refine JL.eff (ef_makeMapR (e := eSPoint) 35 eSPoint) rfl ?_
  rintro _ _ ⟨g3, rfl, rfl⟩
  refine JL.val (yl_assign rfl) rfl ?_
  refine JL.nil ?_
  refine JE.code ?_
  refine JX.seq ?_
  refine JX.seq ?_
  refine JX.region ?_
  refine JL.val (yl_loadn Go.Proofs.Try.underlying28 rfl i28 rfl (fun w hC => rd_box hC 0 rfl) rfl (i28s).symm i28p) rfl ?_
  obtain ⟨x5, hx5, hres⟩ := bind_some hres
  refine JL.eff (ef_call (vs := [.agg #[.int .i64 q0.W, .int .i64 q0.H, .slice a_0_2 q0.Breaks.length c_0_2]]) (T := T149 x5) Go.Proofs.Try.func149 rfl (by kernel_rfl) rfl (fun w hC => c149 (q0 := q0) (rd_arg g_0_2 hC) rfl k_0_2 hx5)) rfl ?_
  rintro _ _ ⟨_, ⟨a6, _, cp7, rfl, rfl, rfl⟩, rfl⟩
  refine JL.val (yl_len_slice Go.Proofs.Try.underlying61 rfl) rfl ?_
  refine JL.val (yl_move rfl) rfl ?_
  refine JL.nil ?_
  refine JE.weak (env' := [(1, ptrAt (some ⟨g1, 0, none⟩) 0), (4, .map (some g3)), (24, .slice a6 x5.length cp7), (25, .int .i64 (x5.length : Int)), (26, .int .i64 0)]) (es' := [boxO 28 g1 [.int .i64 q0.W, .int .i64 q0.H, .slice a_0_2 q0.Breaks.length c_0_2], mapR eSPoint 35 eSPoint g3 [] ([] : List (SPoint × Hd)) ([] : List (SPoint × List SPoint)), rowT 35 eSPoint a6 x5.length cp7 x5]) [0, 1, 2] ?_ ⟨rfl, rfl, rfl, rfl, rfl, trivial⟩ (by decide) rfl
  refine JE.code ?_
  refine JX.block ?_
  obtain ⟨y1, hy1, hresO1⟩ := bind_some hres
  refine JX.loop (I := fun (s1 : Int × (List (SPoint × List SPoint))) aa ww => ∃ (mh9 : List (SPoint × Hd)) (hi10 : InnM mh9 s1.2), St w [] 163 [(1, ptrAt (some ⟨g1, 0, none⟩) 0), (4, .map (some g3)), (24, .slice a6 x5.length cp7), (25, .int .i64 (x5.length : Int)), (26, .int .i64 s1.1)] [boxO 28 g1 [.int .i64 q0.W, .int .i64 q0.H, .slice a_0_2 q0.Breaks.length c_0_2], mapR eSPoint 35 eSPoint g3 [] mh9 s1.2, rowT 35 eSPoint a6 x5.length cp7 x5] aa ww) (sh88_1 q0 x5) hy1 (fun a w h => ⟨([] : List (SPoint × Hd)), (InnM.nil (K := SPoint) (T := SPoint)), h.weak ⟨rfl, rfl, rfl, rfl, rfl, trivial⟩ [0, 1, 2] (by decide) rfl⟩) ?_
  rintro ⟨x11, x12⟩ o1 hres hox1 aa ww ⟨mh13, hi14, hS⟩
  refine (?_ : JX Go.Proofs.Try.prog w [] 163 _ _ [(1, ptrAt (some ⟨g1, 0, none⟩) 0), (4, .map (some g3)), (24, .slice a6 x5.length cp7), (25, .int .i64 (x5.length : Int)), (26, .int .i64 x11)] [boxO 28 g1 [.int .i64 q0.W, .int .i64 q0.H, .slice a_0_2 q0.Breaks.length c_0_2], mapR eSPoint 35 eSPoint g3 [] mh13 x12, rowT 35 eSPoint a6 x5.length cp7 x5] _) aa ww hS
  clear hS
  simp only [sh88_1] at hres
  refine JX.seq ?_
  refine JX.region ?_
  refine JL.val (yl_lss rfl rfl) rfl ?_
  refine JL.nil ?_
  refine JE.code ?_
  refine JX.seq ?_
  rcases cond_some hres with ⟨hb, hres⟩ | ⟨hb, hres⟩
  · refine JX.condT rfl hb ?_
    refine JX.skip ?_
    refine JE.code ?_
    refine JX.seq ?_
    refine JX.block ?_
    refine JX.seq ?_
    refine JX.region ?_
    refine JL.val (yl_move rfl) rfl ?_
    obtain ⟨x15, hx15, hres⟩ := bind_some hres
    refine JL.val (yl_idxT Go.Proofs.Try.underlying61 i35 i35s rfl rfl hx15 rfl (fun w hC => rd_row hC 2 rfl)) rfl ?_
    refine JL.val (yl_loadTn Go.Proofs.Try.underlying35 rfl i35 i35s rfl hx15 (fun w hC => rd_row hC 2 rfl)) rfl ?_
    refine JL.eff (ef_alloc i35 i35z rfl) rfl ?_
    rintro _ _ ⟨g16, rfl, rfl⟩
    refine JL.val (yl_assign rfl) rfl ?_
    refine JL.eff (ef_store_box (i := 3) (v := .agg #[.int .i64 x15.X, .int .i64 x15.Y]) i35 rfl rfl rfl (i35s).symm (Nat.le_of_ble_eq_true rfl) (by simp [Value.cells, Value.oneCell'])) rfl ?_
    rintro _ _ rfl
    refine JL.nil ?_
    refine JE.weak (env' := [(1, ptrAt (some ⟨g1, 0, none⟩) 0), (4, .map (some g3)), (5, .int .i64 x11), (6, ptrAt (some ⟨g16, 0, none⟩) 0), (24, .slice a6 x5.length cp7), (25, .int .i64 (x5.length : Int)), (26, .int .i64 x11)]) (es' := [boxO 28 g1 [.int .i64 q0.W, .int .i64 q0.H, .slice a_0_2 q0.Breaks.length c_0_2], mapR eSPoint 35 eSPoint g3 [] mh13 x12, boxO 35 g16 [.int .i64 x15.X, .int .i64 x15.Y], rowT 35 eSPoint a6 x5.length cp7 x5]) [0, 1, 3, 2] ?_ ⟨rfl, rfl, rfl, rfl, rfl, rfl, rfl, trivial⟩ (by decide) rfl
    refine JE.code ?_
    refine JX.seq ?_
    refine JX.drawH [(0, .pure), (1, .read), (2, .pure), (3, .read), (4, .pure), (5, .pure), (6, .pure), (7, .read), (8, .pure), (9, .read), (10, .pure), (11, .pure), (12, .two 13), (14, .must), (15, .must)] [14, 15] [] [0, 1, 2, 3] [] [boxO 28 g1 [.int .i64 q0.W, .int .i64 q0.H, .slice a_0_2 q0.Breaks.length c_0_2], mapR eSPoint 35 eSPoint g3 [] mh13 x12, boxO 35 g16 [.int .i64 x15.X, .int .i64 x15.Y], rowT 35 eSPoint a6 x5.length cp7 x5] mixedP (by kernel_rfl) (by kernel_rfl) (by decide) rfl rfl ?_
    intro wrr18 Nr18 hFr18
    refine JH.pure rfl (yl_fieldAt (a := some _) Go.Proofs.Try.underlying35 rfl i2 i2n rfl rfl) rfl ?_
    refine JH.read rfl (yl_load1 Go.Proofs.Try.underlying2 rfl rfl (fun w hw => hFr18.box 2 rfl rfl hw) rfl) rfl ?_
    refine JH.pure rfl (yl_fieldAt (a := some _) Go.Proofs.Try.underlying35 rfl i2 i2n rfl rfl) rfl ?_
    refine JH.read rfl (yl_load1 Go.Proofs.Try.underlying2 rfl rfl (fun w hw => hFr18.box 2 rfl rfl hw) rfl) rfl ?_
    refine JH.pure rfl (yl_sub rfl rfl) rfl ?_
    refine JH.pure rfl (yl_build rfl (fun w => bld35_0_1 x15.X (w64 (x15.Y - 1)) w)) rfl ?_
    refine JH.pure rfl (yl_fieldAt (a := some _) Go.Proofs.Try.underlying35 rfl i2 i2n rfl rfl) rfl ?_
    refine JH.read rfl (yl_load1 Go.Proofs.Try.underlying2 rfl rfl (fun w hw => hFr18.box 2 rfl rfl hw) rfl) rfl ?_
    refine JH.pure rfl (yl_fieldAt (a := some _) Go.Proofs.Try.underlying35 rfl i2 i2n rfl rfl) rfl ?_
    refine JH.read rfl (yl_load1 Go.Proofs.Try.underlying2 rfl rfl (fun w hw => hFr18.box 2 rfl rfl hw) rfl) rfl ?_
    refine JH.pure rfl (yl_add rfl rfl) rfl ?_
    refine JH.pure rfl (yl_build rfl (fun w => bld35_0_1 x15.X (w64 (x15.Y + 1)) w)) rfl ?_
    refine JH.cut (K := fun J => ∀ (g19 : Nat) (g21 : Nat), J [(1, ptrAt (some ⟨g1, 0, none⟩) 0), (4, .map (some g3)), (5, .int .i64 x11), (6, ptrAt (some ⟨g16, 0, none⟩) 0), (7, ptrAt (some ⟨g19, 0, none⟩) 0), (8, ptrAt (some ⟨g21, 0, none⟩) 0), (24, .slice a6 x5.length cp7), (25, .int .i64 (x5.length : Int)), (26, .int .i64 x11), (36, .agg #[.int .i64 x15.X, .int .i64 (w64 (x15.Y - 1))]), (42, .agg #[.int .i64 x15.X, .int .i64 (w64 (x15.Y + 1))])] [boxO 35 g19 [.int .i64 0, .int .i64 0], boxO 35 g21 [.int .i64 0, .int .i64 0]]) 1 ?_ ?_
    · intro g19 g21
      refine JH.must rfl (ef_store_box (i := 0) (v := .agg #[.int .i64 x15.X, .int .i64 (w64 (x15.Y - 1))]) i35 rfl rfl rfl (i35s).symm (Nat.le_of_ble_eq_true rfl) (by simp [Value.cells, Value.oneCell'])) rfl rfl ?_
      rintro _ _ rfl
      refine JH.must rfl (ef_store_box (i := 1) (v := .agg #[.int .i64 x15.X, .int .i64 (w64 (x15.Y + 1))]) i35 rfl rfl rfl (i35s).symm (Nat.le_of_ble_eq_true rfl) (by simp [Value.cells, Value.oneCell'])) rfl rfl ?_
      rintro _ _ rfl
      refine JH.nil ?_
      refine JE.weak (env' := [(1, ptrAt (some ⟨g1, 0, none⟩) 0), (4, .map (some g3)), (5, .int .i64 x11), (6, ptrAt (some ⟨g16, 0, none⟩) 0), (7, ptrAt (some ⟨g19, 0, none⟩) 0), (8, ptrAt (some ⟨g21, 0, none⟩) 0), (24, .slice a6 x5.length cp7), (25, .int .i64 (x5.length : Int)), (26, .int .i64 x11)]) (es' := [boxO 28 g1 [.int .i64 q0.W, .int .i64 q0.H, .slice a_0_2 q0.Breaks.length c_0_2], mapR eSPoint 35 eSPoint g3 [] mh13 x12, boxO 35 g16 [.int .i64 x15.X, .int .i64 x15.Y], boxO 35 g19 [.int .i64 x15.X, .int .i64 (w64 (x15.Y - 1))], boxO 35 g21 [.int .i64 x15.X, .int .i64 (w64 (x15.Y + 1))], rowT 35 eSPoint a6 x5.length cp7 x5]) [0, 1, 2, 4, 5, 3] ?_ ⟨rfl, rfl, rfl, rfl, rfl, rfl, rfl, rfl, rfl, trivial⟩ (by decide) rfl
      refine JE.code ?_
      refine JX.seq ?_
      refine JX.seq ?_
      refine JX.region ?_
      refine JL.val (yl_fieldAt (a := some _) Go.Proofs.Try.underlying28 rfl i22 i22n rfl rfl) rfl ?_
      refine JL.val (yl_load1 Go.Proofs.Try.underlying22 rfl rfl (fun w hC => rd_box hC 0 rfl) rfl) rfl ?_
      refine JL.val (yl_move rfl) rfl ?_
      obtain ⟨x23, hx23, hres⟩ := bind_some hres
      refine JL.val (yl_idxT Go.Proofs.Try.underlying22 i2 i2s rfl rfl hx23 rfl (fun w hC => rd_arg g_0_2 hC)) rfl ?_
      refine JL.val (yl_loadT0 Go.Proofs.Try.underlying2 rfl rfl hx23 (fun w hC => rd_arg g_0_2 hC) rfl) rfl ?_
      refine JL.val (yl_eql rfl rfl) rfl ?_
      refine JL.nil ?_
      refine JE.weak (env' := [(1, ptrAt (some ⟨g1, 0, none⟩) 0), (4, .map (some g3)), (5, .int .i64 x11), (6, ptrAt (some ⟨g16, 0, none⟩) 0), (7, ptrAt (some ⟨g19, 0, none⟩) 0), (8, ptrAt (some ⟨g21, 0, none⟩) 0), (24, .slice a6 x5.length cp7), (25, .int .i64 (x5.length : Int)), (26, .int .i64 x11), (48, .bool (x23 == 2))]) (es' := [boxO 28 g1 [.int .i64 q0.W, .int .i64 q0.H, .slice a_0_2 q0.Breaks.length c_0_2], mapR eSPoint 35 eSPoint g3 [] mh13 x12, boxO 35 g16 [.int .i64 x15.X, .int .i64 x15.Y], boxO 35 g19 [.int .i64 x15.X, .int .i64 (w64 (x15.Y - 1))], boxO 35 g21 [.int .i64 x15.X, .int .i64 (w64 (x15.Y + 1))], rowT 35 eSPoint a6 x5.length cp7 x5]) [0, 1, 2, 3, 4, 5] ?_ ⟨rfl, rfl, rfl, rfl, rfl, rfl, rfl, rfl, rfl, rfl, trivial⟩ (by decide) rfl
      refine JE.code ?_
      obtain ⟨j24, hj24, hresj24⟩ := bind_some hres
      refine JX.cut (K := fun J => J [(1, ptrAt (some ⟨g1, 0, none⟩) 0), (4, .map (some g3)), (5, .int .i64 x11), (7, ptrAt (some ⟨g19, 0, none⟩) 0), (8, ptrAt (some ⟨g21, 0, none⟩) 0), (24, .slice a6 x5.length cp7), (25, .int .i64 (x5.length : Int)), (26, .int .i64 x11)] [boxO 28 g1 [.int .i64 q0.W, .int .i64 q0.H, .slice a_0_2 q0.Breaks.length c_0_2], mapR eSPoint 35 eSPoint g3 [] mh13 x12, boxO 35 g19 [.int .i64 j24.1.X, .int .i64 j24.1.Y], boxO 35 g21 [.int .i64 j24.2.X, .int .i64 j24.2.Y], rowT 35 eSPoint a6 x5.length cp7 x5]) ?_ ?_
      · have hres := hresj24
        refine JE.code ?_
        refine JX.seq ?_
        refine JX.region ?_
        refine JL.val (yl_fieldAt (a := some _) Go.Proofs.Try.underlying28 rfl i22 i22n rfl rfl) rfl ?_
        refine JL.val (yl_load1 Go.Proofs.Try.underlying22 rfl rfl (fun w hC => rd_box hC 0 rfl) rfl) rfl ?_
        refine JL.val (yl_move rfl) rfl ?_
        obtain ⟨x25, hx25, hres⟩ := bind_some hres
        refine JL.val (yl_idxT Go.Proofs.Try.underlying22 i2 i2s rfl rfl hx25 rfl (fun w hC => rd_arg g_0_2 hC)) rfl ?_
        refine JL.val (yl_loadT0 Go.Proofs.Try.underlying2 rfl rfl hx25 (fun w hC => rd_arg g_0_2 hC) rfl) rfl ?_
        refine JL.val (yl_neq rfl rfl) rfl ?_
        refine JL.nil ?_
        refine JE.weak (env' := [(1, ptrAt (some ⟨g1, 0, none⟩) 0), (4, .map (some g3)), (7, ptrAt (some ⟨g19, 0, none⟩) 0), (8, ptrAt (some ⟨g21, 0, none⟩) 0), (24, .slice a6 x5.length cp7), (25, .int .i64 (x5.length : Int)), (26, .int .i64 x11), (66, .bool (x25 != 0))]) (es' := [boxO 28 g1 [.int .i64 q0.W, .int .i64 q0.H, .slice a_0_2 q0.Breaks.length c_0_2], mapR eSPoint 35 eSPoint g3 [] mh13 x12, boxO 35 g19 [.int .i64 j24.1.X, .int .i64 j24.1.Y], boxO 35 g21 [.int .i64 j24.2.X, .int .i64 j24.2.Y], rowT 35 eSPoint a6 x5.length cp7 x5]) [0, 1, 2, 3, 4] ?_ ⟨rfl, rfl, rfl, rfl, rfl, rfl, rfl, rfl, trivial⟩ (by decide) rfl
        refine JE.code ?_
        obtain ⟨j26, hj26, hresj26⟩ := bind_some hres
        refine JX.cut (K := fun J => ∀ (mh27 : List (SPoint × Hd)) (hi28 : InnM mh27 j26), J [(1, ptrAt (some ⟨g1, 0, none⟩) 0), (4, .map (some g3)), (24, .slice a6 x5.length cp7), (25, .int .i64 (x5.length : Int)), (26, .int .i64 x11)] [boxO 28 g1 [.int .i64 q0.W, .int .i64 q0.H, .slice a_0_2 q0.Breaks.length c_0_2], mapR eSPoint 35 eSPoint g3 [] mh27 j26, rowT 35 eSPoint a6 x5.length cp7 x5]) ?_ ?_
        · intro mh27 hi28
          have hres := hresj26
          refine JE.code ?_
          refine JX.region ?_
          refine JL.val (yl_add rfl rfl) rfl ?_
          refine JL.val (yl_move rfl) rfl ?_
          refine JL.nil ?_
          refine JE.cont hres ?_
          exact fun a w h => ⟨mh27, hi28, h.weak ⟨rfl, rfl, rfl, rfl, rfl, trivial⟩ [0, 1, 2] (by decide) rfl⟩
        · intro K
          rcases cond_some hj26 with ⟨hb, hres⟩ | ⟨hb, hres⟩
          · refine JX.condT rfl hb ?_
            obtain ⟨x29, hx29, hres⟩ := bind_some hres
            obtain ⟨ha30, hc31, hg32⟩ := InnM.get hi14 j24.2
            refine JX.mapout (es' := [boxO 28 g1 [.int .i64 q0.W, .int .i64 q0.H, .slice a_0_2 q0.Breaks.length c_0_2], boxO 35 g19 [.int .i64 j24.1.X, .int .i64 j24.1.Y], boxO 35 g21 [.int .i64 j24.2.X, .int .i64 j24.2.Y], rowT 35 eSPoint a6 x5.length cp7 x5]) [0, 2, 3, 4, 1] (by decide) rfl (k := j24.2) (by simp) hg32 ?_
            obtain ⟨ha34, hc35, hg36⟩ := InnM.get hi14 j24.1
            refine JX.mapout (es' := [boxO 28 g1 [.int .i64 q0.W, .int .i64 q0.H, .slice a_0_2 q0.Breaks.length c_0_2], boxO 35 g19 [.int .i64 j24.1.X, .int .i64 j24.1.Y], boxO 35 g21 [.int .i64 j24.2.X, .int .i64 j24.2.Y], rowT 35 eSPoint a6 x5.length cp7 x5, rowT 35 eSPoint ha30 ((rowOf x12 j24.2).length) hc31 (rowOf x12 j24.2)]) [0, 1, 2, 3, 5, 4] (by decide) rfl (k := j24.1) (by simpa using neqG_some hx29) hg36 ?_
            refine JX.drawH [(0, .pure), (1, .read), (2, .pure), (3, .read), (4, .pure), (5, .read), (7, .read), (10, .pure), (11, .read), (13, .read), (0, .tree (.alt 6 (.alt 8 (.alt 9 (.alt 12 (.alt 14 .done .nil) (.alt 14 (.alt 12 .done .nil) .nil)) (.alt 12 (.alt 9 (.alt 14 .done .nil) (.alt 14 (.alt 9 .done .nil) .nil)) (.alt 14 (.alt 9 (.alt 12 .done .nil) (.alt 12 (.alt 9 .done .nil) .nil)) .nil))) (.alt 12 (.alt 8 (.alt 9 (.alt 14 .done .nil) (.alt 14 (.alt 9 .done .nil) .nil)) (.alt 14 (.alt 8 (.alt 9 .done .nil) .nil) .nil)) (.alt 14 (.alt 8 (.alt 9 (.alt 12 .done .nil) (.alt 12 (.alt 9 .done .nil) .nil)) (.alt 12 (.alt 8 (.alt 9 .done .nil) .nil) .nil)) .nil))) (.alt 8 (.alt 6 (.alt 9 (.alt 12 (.alt 14 .done .nil) (.alt 14 (.alt 12 .done .nil) .nil)) (.alt 12 (.alt 9 (.alt 14 .done .nil) (.alt 14 (.alt 9 .done .nil) .nil)) (.alt 14 (.alt 9 (.alt 12 .done .nil) (.alt 12 (.alt 9 .done .nil) .nil)) .nil))) (.alt 12 (.alt 6 (.alt 9 (.alt 14 .done .nil) (.alt 14 (.alt 9 .done .nil) .nil)) (.alt 14 (.alt 6 (.alt 9 .done .nil) .nil) .nil)) (.alt 14 (.alt 6 (.alt 9 (.alt 12 .done .nil) (.alt 12 (.alt 9 .done .nil) .nil)) (.alt 12 (.alt 6 (.alt 9 .done .nil) .nil) .nil)) .nil))) (.alt 12 (.alt 6 (.alt 8 (.alt 9 (.alt 14 .done .nil) (.alt 14 (.alt 9 .done .nil) .nil)) (.alt 14 (.alt 8 (.alt 9 .done .nil) .nil) .nil)) (.alt 8 (.alt 6 (.alt 9 (.alt 14 .done .nil) (.alt 14 (.alt 9 .done .nil) .nil)) (.alt 14 (.alt 6 (.alt 9 .done .nil) .nil) .nil)) (.alt 14 (.alt 6 (.alt 8 (.alt 9 .done .nil) .nil) (.alt 8 (.alt 6 (.alt 9 .done .nil) .nil) .nil)) .nil))) (.alt 14 (.alt 6 (.alt 8 (.alt 9 (.alt 12 .done .nil) (.alt 12 (.alt 9 .done .nil) .nil)) (.alt 12 (.alt 8 (.alt 9 .done .nil) .nil) .nil)) (.alt 8 (.alt 6 (.alt 9 (.alt 12 .done .nil) (.alt 12 (.alt 9 .done .nil) .nil)) (.alt 12 (.alt 6 (.alt 9 .done .nil) .nil) .nil)) (.alt 12 (.alt 6 (.alt 8 (.alt 9 .done .nil) .nil) (.alt 8 (.alt 6 (.alt 9 .done .nil) .nil) .nil)) .nil))) .nil))))), (15, .must), (16, .must), (17, .pure), (18, .must), (19, .must)] [9, 15, 16, 18, 19] [5, 6, 4] [0, 1, 2, 3] [mapR eSPoint 35 eSPoint g3 [j24.1, j24.2] mh13 x12, rowT 35 eSPoint ha34 ((rowOf x12 j24.1).length) hc35 (rowOf x12 j24.1), rowT 35 eSPoint ha30 ((rowOf x12 j24.2).length) hc31 (rowOf x12 j24.2)] [boxO 28 g1 [.int .i64 q0.W, .int .i64 q0.H, .slice a_0_2 q0.Breaks.length c_0_2], boxO 35 g19 [.int .i64 j24.1.X, .int .i64 j24.1.Y], boxO 35 g21 [.int .i64 j24.2.X, .int .i64 j24.2.Y], rowT 35 eSPoint a6 x5.length cp7 x5] mixedP (by kernel_rfl) (by kernel_rfl) (by decide) rfl rfl ?_
            intro wrr38 Nr38 hFr38
            refine JH.pure rfl (yl_move rfl) rfl ?_
            refine JH.read rfl (yl_loadn Go.Proofs.Try.underlying35 rfl i35 rfl (fun w hw => hFr38.box 1 rfl rfl hw) rfl (i35s).symm i35p) rfl ?_
            refine JH.pure rfl (yl_move rfl) rfl ?_
            refine JH.read rfl (yl_loadn Go.Proofs.Try.underlying35 rfl i35 rfl (fun w hw => hFr38.box 2 rfl rfl hw) rfl (i35s).symm i35p) rfl ?_
            refine JH.pure rfl (yl_move rfl) rfl ?_
            refine JH.read rfl (yl_loadn Go.Proofs.Try.underlying35 rfl i35 rfl (fun w hw => hFr38.box 1 rfl rfl hw) rfl (i35s).symm i35p) rfl ?_
            refine JH.read rfl (yl_loadn Go.Proofs.Try.underlying35 rfl i35 rfl (fun w hw => hFr38.box 2 rfl rfl hw) rfl (i35s).symm i35p) rfl ?_
            refine JH.pure rfl (yl_move rfl) rfl ?_
            refine JH.read rfl (yl_loadn Go.Proofs.Try.underlying35 rfl i35 rfl (fun w hw => hFr38.box 2 rfl rfl hw) rfl (i35s).symm i35p) rfl ?_
            refine JH.read rfl (yl_loadn Go.Proofs.Try.underlying35 rfl i35 rfl (fun w hw => hFr38.box 1 rfl rfl hw) rfl (i35s).symm i35p) rfl ?_
            obtain ⟨x639, hx639, hres⟩ := bind_some hres
            refine JH.cutS (K := fun J => ∀ (a640 : Option Addr) (cp641 : Nat) (a339 : Option Addr) (a1239 : Option Addr), J [(1, ptrAt (some ⟨g1, 0, none⟩) 0), (4, .map (some g3)), (24, .slice a6 x5.length cp7), (25, .int .i64 (x5.length : Int)), (26, .int .i64 x11), (67, .map (some g3)), (68, .agg #[.int .i64 j24.1.X, .int .i64 j24.1.Y]), (69, .map (some g3)), (70, .agg #[.int .i64 j24.2.X, .int .i64 j24.2.Y]), (76, .slice a640 x639.length cp641), (79, .slice ha30 ((rowOf x12 j24.2).length) hc31), (81, .slice a1239 1 1)] [mapR eSPoint 35 eSPoint g3 [j24.1, j24.2] mh13 x12, rowT 35 eSPoint a640 x639.length cp641 x639, rowT 35 eSPoint ha30 ((rowOf x12 j24.2).length) hc31 (rowOf x12 j24.2), rowT 35 eSPoint a339 1 1 [j24.2], rowT 35 eSPoint a1239 1 1 [j24.1]]) false 1 ?_ ?_
            · intro a640 cp641 a339 a1239
              obtain ⟨x1539, hx1539, hres⟩ := bind_some hres
              refine JH.must rfl (ef_appendT (ix := 2) Go.Proofs.Try.underlying61 i35 i35z i35s rfl i35b0 i35b1 rfl rfl rfl rfl rfl (fun w hC => rd_row hC 4 rfl) hx1539) rfl rfl ?_
              rintro _ _ ⟨a1540, cp1541, rfl, rfl⟩
              refine JH.must rfl (ef_mapEntry (i := 0) (k := j24.1) Go.Proofs.Try.underlying146 zv61 keyOk35 rfl rfl rfl (by simp)) rfl rfl ?_
              rintro _ _ ⟨v1542, j1543, u1544, hj1545, rfl, rfl⟩
              refine JH.pure rfl (yl_extract rfl rfl) rfl ?_
              refine JH.must rfl (ef_entryStore (i := 0) (k := j24.1) (mh := mh13) rfl rfl rfl hj1545 rfl (by simp)) rfl rfl ?_
              rintro _ _ rfl
              refine JH.must rfl (ef_mapUpdR (i := 0) (k := j24.2) Go.Proofs.Try.underlying146 keyOk35 rfl rfl rfl rfl (by simp)) rfl rfl ?_
              rintro _ _ rfl
              refine JH.nil ?_
              refine JE.mapin (es' := [boxO 28 g1 [.int .i64 q0.W, .int .i64 q0.H, .slice a_0_2 q0.Breaks.length c_0_2], boxO 35 g19 [.int .i64 j24.1.X, .int .i64 j24.1.Y], boxO 35 g21 [.int .i64 j24.2.X, .int .i64 j24.2.Y], rowT 35 eSPoint a6 x5.length cp7 x5, rowT 35 eSPoint a1540 x1539.length cp1541 x1539, rowT 35 eSPoint a339 1 1 [j24.2], rowT 35 eSPoint a1239 1 1 [j24.1]]) [0, 1, 2, 3, 6, 7, 8, 4, 5] (by decide) (x := x639) rfl (k := j24.1) (by simpa using neqG_some hx29) (by rw [hdOf_put, if_neg (neqG_some hx29), hdOf_put, if_pos rfl]) ?_
              refine JE.mapin (es' := [boxO 28 g1 [.int .i64 q0.W, .int .i64 q0.H, .slice a_0_2 q0.Breaks.length c_0_2], boxO 35 g19 [.int .i64 j24.1.X, .int .i64 j24.1.Y], boxO 35 g21 [.int .i64 j24.2.X, .int .i64 j24.2.Y], rowT 35 eSPoint a6 x5.length cp7 x5, rowT 35 eSPoint a339 1 1 [j24.2], rowT 35 eSPoint a1239 1 1 [j24.1]]) [0, 1, 2, 3, 5, 6, 7, 4] (by decide) (x := x1539) rfl (k := j24.2) (by simp) (by rw [hdOf_put, if_pos rfl]) ?_
              refine JE.weak (env' := [(1, ptrAt (some ⟨g1, 0, none⟩) 0), (4, .map (some g3)), (24, .slice a6 x5.length cp7), (25, .int .i64 (x5.length : Int)), (26, .int .i64 x11)]) (es' := [boxO 28 g1 [.int .i64 q0.W, .int .i64 q0.H, .slice a_0_2 q0.Breaks.length c_0_2], mapR eSPoint 35 eSPoint g3 [] (mput (mput mh13 j24.1 ⟨a640, x639.length, cp641⟩) j24.2 ⟨a1540, x1539.length, cp1541⟩) (mput (mput x12 j24.1 x639) j24.2 x1539), rowT 35 eSPoint a6 x5.length cp7 x5]) [0, 6, 3] ?_ ⟨rfl, rfl, rfl, rfl, rfl, trivial⟩ (by decide) rfl
              have hj := Option.some.inj hres
              exact JE.weak [0, 1, 2] (K (mput (mput mh13 j24.1 ⟨a640, x639.length, cp641⟩) j24.2 ⟨a1540, x1539.length, cp1541⟩) (by subst hj; exact (InnM.put (InnM.put hi14 j24.1 rfl) j24.2 rfl))) ⟨(by subst hj; rfl), (by subst hj; rfl), (by subst hj; rfl), (by subst hj; rfl), (by subst hj; rfl), trivial⟩ (by decide) (by subst hj; rfl)
            · intro K
              refine JH.talt ?_ ?_
              · refine JH.mval rfl (yl_lookR (mh := mh13) (k := j24.1) Go.Proofs.Try.underlying146 zv61 keyOk35 rfl rfl hg36 (fun w hC => rd_mapR hC 0 rfl)) rfl ?_
                refine JH.talt ?_ ?_
                · refine JH.must rfl (ef_buildSlice (E := 35) (k := eSPoint.k) (us := eSPoint.fl [j24.2]) rfl (fun w => bsl61_1 j24.2.X j24.2.Y w) rfl (by decide)) rfl rfl ?_
                  rintro _ _ ⟨a339, rfl, rfl⟩
                  refine JH.talt ?_ ?_
                  · refine JH.must rfl (ef_appendT (ix := 1) Go.Proofs.Try.underlying61 i35 i35z i35s rfl i35b0 i35b1 rfl rfl rfl rfl rfl (fun w hC => rd_row hC 3 rfl) hx639) rfl rfl ?_
                    rintro _ _ ⟨a640, cp641, rfl, rfl⟩
                    refine JH.talt ?_ ?_
                    · refine JH.mval rfl (yl_lookR (mh := mh13) (k := j24.2) Go.Proofs.Try.underlying146 zv61 keyOk35 rfl rfl hg32 (fun w hC => rd_mapR hC 0 rfl)) rfl ?_
                      refine JH.talt ?_ ?_
                      · refine JH.must rfl (ef_buildSlice (E := 35) (k := eSPoint.k) (us := eSPoint.fl [j24.1]) rfl (fun w => bsl61_1 j24.1.X j24.1.Y w) rfl (by decide)) rfl rfl ?_
                        rintro _ _ ⟨a1239, rfl, rfl⟩
                        refine JH.tdone ?_
                        exact JH.weak [0, 1, 2, 3, 4] (K a640 cp641 a339 a1239) ⟨rfl, rfl, rfl, rfl, rfl, rfl, rfl, rfl, rfl, rfl, rfl, rfl, trivial⟩ (by decide) rfl
                      · exact JH.tnil
                    · refine JH.talt ?_ ?_
                      · refine JH.must rfl (ef_buildSlice (E := 35) (k := eSPoint.k) (us := eSPoint.fl [j24.1]) rfl (fun w => bsl61_1 j24.1.X j24.1.Y w) rfl (by decide)) rfl rfl ?_
                        rintro _ _ ⟨a1239, rfl, rfl⟩
                        refine JH.talt ?_ ?_
                        · refine JH.mval rfl (yl_lookR (mh := mh13) (k := j24.2) Go.Proofs.Try.underlying146 zv61 keyOk35 rfl rfl hg32 (fun w hC => rd_mapR hC 0 rfl)) rfl ?_
                          refine JH.tdone ?_
                          exact JH.weak [0, 1, 2, 3, 4] (K a640 cp641 a339 a1239) ⟨rfl, rfl, rfl, rfl, rfl, rfl, rfl, rfl, rfl, rfl, rfl, rfl, trivial⟩ (by decide) rfl
                        · exact JH.tnil
                      · exact JH.tnil
                  · refine JH.talt ?_ ?_
                    · refine JH.mval rfl (yl_lookR (mh := mh13) (k := j24.2) Go.Proofs.Try.underlying146 zv61 keyOk35 rfl rfl hg32 (fun w hC => rd_mapR hC 0 rfl)) rfl ?_
                      refine JH.talt ?_ ?_
                      · refine JH.must rfl (ef_appendT (ix := 1) Go.Proofs.Try.underlying61 i35 i35z i35s rfl i35b0 i35b1 rfl rfl rfl rfl rfl (fun w hC => rd_row hC 3 rfl) hx639) rfl rfl ?_
                        rintro _ _ ⟨a640, cp641, rfl, rfl⟩
                        refine JH.talt ?_ ?_
                        · refine JH.must rfl (ef_buildSlice (E := 35) (k := eSPoint.k) (us := eSPoint.fl [j24.1]) rfl (fun w => bsl61_1 j24.1.X j24.1.Y w) rfl (by decide)) rfl rfl ?_
                          rintro _ _ ⟨a1239, rfl, rfl⟩
                          refine JH.tdone ?_
                          exact JH.weak [0, 1, 2, 3, 4] (K a640 cp641 a339 a1239) ⟨rfl, rfl, rfl, rfl, rfl, rfl, rfl, rfl, rfl, rfl, rfl, rfl, trivial⟩ (by decide) rfl
                        · exact JH.tnil
                      · refine JH.talt ?_ ?_
                        · refine JH.must rfl (ef_buildSlice (E := 35) (k := eSPoint.k) (us := eSPoint.fl [j24.1]) rfl (fun w => bsl61_1 j24.1.X j24.1.Y w) rfl (by decide)) rfl rfl ?_
                          rintro _ _ ⟨a1239, rfl, rfl⟩
                          refine JH.talt ?_ ?_
                          · refine JH.must rfl (ef_appendT (ix := 1) Go.Proofs.Try.underlying61 i35 i35z i35s rfl i35b0 i35b1 rfl rfl rfl rfl rfl (fun w hC => rd_row hC 3 rfl) hx639) rfl rfl ?_
                            rintro _ _ ⟨a640, cp641, rfl, rfl⟩
                            refine JH.tdone ?_
                            exact JH.weak [0, 1, 2, 3, 4] (K a640 cp641 a339 a1239) ⟨rfl, rfl, rfl, rfl, rfl, rfl, rfl, rfl, rfl, rfl, rfl, rfl, trivial⟩ (by decide) rfl
                          · exact JH.tnil
                        · exact JH.tnil
                    · refine JH.talt ?_ ?_
                      · refine JH.must rfl (ef_buildSlice (E := 35) (k := eSPoint.k) (us := eSPoint.fl [j24.1]) rfl (fun w => bsl61_1 j24.1.X j24.1.Y w) rfl (by decide)) rfl rfl ?_
                        rintro _ _ ⟨a1239, rfl, rfl⟩
                        refine JH.talt ?_ ?_
                        · refine JH.must rfl (ef_appendT (ix := 1) Go.Proofs.Try.underlying61 i35 i35z i35s rfl i35b0 i35b1 rfl rfl rfl rfl rfl (fun w hC => rd_row hC 3 rfl) hx639) rfl rfl ?_
                          rintro _ _ ⟨a640, cp641, rfl, rfl⟩
                          refine JH.talt ?_ ?_
                          · refine JH.mval rfl (yl_lookR (mh := mh13) (k := j24.2) Go.Proofs.Try.underlying146 zv61 keyOk35 rfl rfl hg32 (fun w hC => rd_mapR hC 0 rfl)) rfl ?_
                            refine JH.tdone ?_
                            exact JH.weak [0, 1, 2, 3, 4] (K a640 cp641 a339 a1239) ⟨rfl, rfl, rfl, rfl, rfl, rfl, rfl, rfl, rfl, rfl, rfl, rfl, trivial⟩ (by decide) rfl
                          · exact JH.tnil
                        · refine JH.talt ?_ ?_
                          · refine JH.mval rfl (yl_lookR (mh := mh13) (k := j24.2) Go.Proofs.Try.underlying146 zv61 keyOk35 rfl rfl hg32 (fun w hC => rd_mapR hC 0 rfl)) rfl ?_
                            refine JH.talt ?_ ?_
                            · refine JH.must rfl (ef_appendT (ix := 1) Go.Proofs.Try.underlying61 i35 i35z i35s rfl i35b0 i35b1 rfl rfl rfl rfl rfl (fun w hC => rd_row hC 3 rfl) hx639) rfl rfl ?_
                              rintro _ _ ⟨a640, cp641, rfl, rfl⟩
                              refine JH.tdone ?_
                              exact JH.weak [0, 1, 2, 3, 4] (K a640 cp641 a339 a1239) ⟨rfl, rfl, rfl, rfl, rfl, rfl, rfl, rfl, rfl, rfl, rfl, rfl, trivial⟩ (by decide) rfl
                            · exact JH.tnil
                          · exact JH.tnil
                      · exact JH.tnil
                · refine JH.talt ?_ ?_
                  · refine JH.mval rfl (yl_lookR (mh := mh13) (k := j24.2) Go.Proofs.Try.underlying146 zv61 keyOk35 rfl rfl hg32 (fun w hC => rd_mapR hC 0 rfl)) rfl ?_
                    refine JH.talt ?_ ?_
                    · refine JH.must rfl (ef_buildSlice (E := 35) (k := eSPoint.k) (us := eSPoint.fl [j24.2]) rfl (fun w => bsl61_1 j24.2.X j24.2.Y w) rfl (by decide)) rfl rfl ?_
                      rintro _ _ ⟨a339, rfl, rfl⟩
                      refine JH.talt ?_ ?_
                      · refine JH.must rfl (ef_appendT (ix := 1) Go.Proofs.Try.underlying61 i35 i35z i35s rfl i35b0 i35b1 rfl rfl rfl rfl rfl (fun w hC => rd_row hC 3 rfl) hx639) rfl rfl ?_
                        rintro _ _ ⟨a640, cp641, rfl, rfl⟩
                        refine JH.talt ?_ ?_
                        · refine JH.must rfl (ef_buildSlice (E := 35) (k := eSPoint.k) (us := eSPoint.fl [j24.1]) rfl (fun w => bsl61_1 j24.1.X j24.1.Y w) rfl (by decide)) rfl rfl ?_
                          rintro _ _ ⟨a1239, rfl, rfl⟩
                          refine JH.tdone ?_
                          exact JH.weak [0, 1, 2, 3, 4] (K a640 cp641 a339 a1239) ⟨rfl, rfl, rfl, rfl, rfl, rfl, rfl, rfl, rfl, rfl, rfl, rfl, trivial⟩ (by decide) rfl
                        · exact JH.tnil
                      · refine JH.talt ?_ ?_
                        · refine JH.must rfl (ef_buildSlice (E := 35) (k := eSPoint.k) (us := eSPoint.fl [j24.1]) rfl (fun w => bsl61_1 j24.1.X j24.1.Y w) rfl (by decide)) rfl rfl ?_
                          rintro _ _ ⟨a1239, rfl, rfl⟩
                          refine JH.talt ?_ ?_
                          · refine JH.must rfl (ef_appendT (ix := 1) Go.Proofs.Try.underlying61 i35 i35z i35s rfl i35b0 i35b1 rfl rfl rfl rfl rfl (fun w hC => rd_row hC 3 rfl) hx639) rfl rfl ?_
                            rintro _ _ ⟨a640, cp641, rfl, rfl⟩
                            refine JH.tdone ?_
                            exact JH.weak [0, 1, 2, 3, 4] (K a640 cp641 a339 a1239) ⟨rfl, rfl, rfl, rfl, rfl, rfl, rfl, rfl, rfl, rfl, rfl, rfl, trivial⟩ (by decide) rfl
                          · exact JH.tnil
                        · exact JH.tnil
                    · refine JH.talt ?_ ?_
                      · refine JH.must rfl (ef_buildSlice (E := 35) (k := eSPoint.k) (us := eSPoint.fl [j24.1]) rfl (fun w => bsl61_1 j24.1.X j24.1.Y w) rfl (by decide)) rfl rfl ?_
                        rintro _ _ ⟨a1239, rfl, rfl⟩
                        refine JH.talt ?_ ?_
                        · refine JH.must rfl (ef_buildSlice (E := 35) (k := eSPoint.k) (us := eSPoint.fl [j24.2]) rfl (fun w => bsl61_1 j24.2.X j24.2.Y w) rfl (by decide)) rfl rfl ?_
                          rintro _ _ ⟨a339, rfl, rfl⟩
                          refine JH.talt ?_ ?_
                          · refine JH.must rfl (ef_appendT (ix := 1) Go.Proofs.Try.underlying61 i35 i35z i35s rfl i35b0 i35b1 rfl rfl rfl rfl rfl (fun w hC => rd_row hC 4 rfl) hx639) rfl rfl ?_
                            rintro _ _ ⟨a640, cp641, rfl, rfl⟩
                            refine JH.tdone ?_
                            exact JH.weak [0, 1, 2, 4, 3] (K a640 cp641 a339 a1239) ⟨rfl, rfl, rfl, rfl, rfl, rfl, rfl, rfl, rfl, rfl, rfl, rfl, trivial⟩ (by decide) rfl
                          · exact JH.tnil
                        · exact JH.tnil
                      · exact JH.tnil
                  · refine JH.talt ?_ ?_
                    · refine JH.must rfl (ef_buildSlice (E := 35) (k := eSPoint.k) (us := eSPoint.fl [j24.1]) rfl (fun w => bsl61_1 j24.1.X j24.1.Y w) rfl (by decide)) rfl rfl ?_
                      rintro _ _ ⟨a1239, rfl, rfl⟩
                      refine JH.talt ?_ ?_
                      · refine JH.must rfl (ef_buildSlice (E := 35) (k := eSPoint.k) (us := eSPoint.fl [j24.2]) rfl (fun w => bsl61_1 j24.2.X j24.2.Y w) rfl (by decide)) rfl rfl ?_
                        rintro _ _ ⟨a339, rfl, rfl⟩
                        refine JH.talt ?_ ?_
                        · refine JH.must rfl (ef_appendT (ix := 1) Go.Proofs.Try.underlying61 i35 i35z i35s rfl i35b0 i35b1 rfl rfl rfl rfl rfl (fun w hC => rd_row hC 4 rfl) hx639) rfl rfl ?_
                          rintro _ _ ⟨a640, cp641, rfl, rfl⟩
                          refine JH.talt ?_ ?_
                          · refine JH.mval rfl (yl_lookR (mh := mh13) (k := j24.2) Go.Proofs.Try.underlying146 zv61 keyOk35 rfl rfl hg32 (fun w hC => rd_mapR hC 0 rfl)) rfl ?_
                            refine JH.tdone ?_
                            exact JH.weak [0, 1, 2, 4, 3] (K a640 cp641 a339 a1239) ⟨rfl, rfl, rfl, rfl, rfl, rfl, rfl, rfl, rfl, rfl, rfl, rfl, trivial⟩ (by decide) rfl
                          · exact JH.tnil
                        · refine JH.talt ?_ ?_
                          · refine JH.mval rfl (yl_lookR (mh := mh13) (k := j24.2) Go.Proofs.Try.underlying146 zv61 keyOk35 rfl rfl hg32 (fun w hC => rd_mapR hC 0 rfl)) rfl ?_
                            refine JH.talt ?_ ?_
                            · refine JH.must rfl (ef_appendT (ix := 1) Go.Proofs.Try.underlying61 i35 i35z i35s rfl i35b0 i35b1 rfl rfl rfl rfl rfl (fun w hC => rd_row hC 4 rfl) hx639) rfl rfl ?_
                              rintro _ _ ⟨a640, cp641, rfl, rfl⟩
                              refine JH.tdone ?_
                              exact JH.weak [0, 1, 2, 4, 3] (K a640 cp641 a339 a1239) ⟨rfl, rfl, rfl, rfl, rfl, rfl, rfl, rfl, rfl, rfl, rfl, rfl, trivial⟩ (by decide) rfl
                            · exact JH.tnil
                          · exact JH.tnil
                      · refine JH.talt ?_ ?_
                        · refine JH.mval rfl (yl_lookR (mh := mh13) (k := j24.2) Go.Proofs.Try.underlying146 zv61 keyOk35 rfl rfl hg32 (fun w hC => rd_mapR hC 0 rfl)) rfl ?_
                          refine JH.talt ?_ ?_
                          · refine JH.must rfl (ef_buildSlice (E := 35) (k := eSPoint.k) (us := eSPoint.fl [j24.2]) rfl (fun w => bsl61_1 j24.2.X j24.2.Y w) rfl (by decide)) rfl rfl ?_
                            rintro _ _ ⟨a339, rfl, rfl⟩
                            refine JH.talt ?_ ?_
                            · refine JH.must rfl (ef_appendT (ix := 1) Go.Proofs.Try.underlying61 i35 i35z i35s rfl i35b0 i35b1 rfl rfl rfl rfl rfl (fun w hC => rd_row hC 4 rfl) hx639) rfl rfl ?_
                              rintro _ _ ⟨a640, cp641, rfl, rfl⟩
                              refine JH.tdone ?_
                              exact JH.weak [0, 1, 2, 4, 3] (K a640 cp641 a339 a1239) ⟨rfl, rfl, rfl, rfl, rfl, rfl, rfl, rfl, rfl, rfl, rfl, rfl, trivial⟩ (by decide) rfl
                            · exact JH.tnil
                          · exact JH.tnil
                        · exact JH.tnil
                    · exact JH.tnil
              · refine JH.talt ?_ ?_
                · refine JH.must rfl (ef_buildSlice (E := 35) (k := eSPoint.k) (us := eSPoint.fl [j24.2]) rfl (fun w => bsl61_1 j24.2.X j24.2.Y w) rfl (by decide)) rfl rfl ?_
                  rintro _ _ ⟨a339, rfl, rfl⟩
                  refine JH.talt ?_ ?_
                  · refine JH.mval rfl (yl_lookR (mh := mh13) (k := j24.1) Go.Proofs.Try.underlying146 zv61 keyOk35 rfl rfl hg36 (fun w hC => rd_mapR hC 0 rfl)) rfl ?_
                    refine JH.talt ?_ ?_
                    · refine JH.must rfl (ef_appendT (ix := 1) Go.Proofs.Try.underlying61 i35 i35z i35s rfl i35b0 i35b1 rfl rfl rfl rfl rfl (fun w hC => rd_row hC 3 rfl) hx639) rfl rfl ?_
                      rintro _ _ ⟨a640, cp641, rfl, rfl⟩
                      refine JH.talt ?_ ?_
                      · refine JH.mval rfl (yl_lookR (mh := mh13) (k := j24.2) Go.Proofs.Try.underlying146 zv61 keyOk35 rfl rfl hg32 (fun w hC => rd_mapR hC 0 rfl)) rfl ?_
                        refine JH.talt ?_ ?_
                        · refine JH.must rfl (ef_buildSlice (E := 35) (k := eSPoint.k) (us := eSPoint.fl [j24.1]) rfl (fun w => bsl61_1 j24.1.X j24.1.Y w) rfl (by decide)) rfl rfl ?_
                          rintro _ _ ⟨a1239, rfl, rfl⟩
                          refine JH.tdone ?_
                          exact JH.weak [0, 1, 2, 3, 4] (K a640 cp641 a339 a1239) ⟨rfl, rfl, rfl, rfl, rfl, rfl, rfl, rfl, rfl, rfl, rfl, rfl, trivial⟩ (by decide) rfl
                        · exact JH.tnil
                      · refine JH.talt ?_ ?_
                        · refine JH.must rfl (ef_buildSlice (E := 35) (k := eSPoint.k) (us := eSPoint.fl [j24.1]) rfl (fun w => bsl61_1 j24.1.X j24.1.Y w) rfl (by decide)) rfl rfl ?_
                          rintro _ _ ⟨a1239, rfl, rfl⟩
                          refine JH.talt ?_ ?_
                          · refine JH.mval rfl (yl_lookR (mh := mh13) (k := j24.2) Go.Proofs.Try.underlying146 zv61 keyOk35 rfl rfl hg32 (fun w hC => rd_mapR hC 0 rfl)) rfl ?_
                            refine JH.tdone ?_
                            exact JH.weak [0, 1, 2, 3, 4] (K a640 cp641 a339 a1239) ⟨rfl, rfl, rfl, rfl, rfl, rfl, rfl, rfl, rfl, rfl, rfl, rfl, trivial⟩ (by decide) rfl
                          · exact JH.tnil
                        · exact JH.tnil
                    · refine JH.talt ?_ ?_
                      · refine JH.mval rfl (yl_lookR (mh := mh13) (k := j24.2) Go.Proofs.Try.underlying146 zv61 keyOk35 rfl rfl hg32 (fun w hC => rd_mapR hC 0 rfl)) rfl ?_
                        refine JH.talt ?_ ?_
                        · refine JH.must rfl (ef_appendT (ix := 1) Go.Proofs.Try.underlying61 i35 i35z i35s rfl i35b0 i35b1 rfl rfl rfl rfl rfl (fun w hC => rd_row hC 3 rfl) hx639) rfl rfl ?_
                          rintro _ _ ⟨a640, cp641, rfl, rfl⟩
                          refine JH.talt ?_ ?_
                          · refine JH.must rfl (ef_buildSlice (E := 35) (k := eSPoint.k) (us := eSPoint.fl [j24.1]) rfl (fun w => bsl61_1 j24.1.X j24.1.Y w) rfl (by decide)) rfl rfl ?_
                            rintro _ _ ⟨a1239, rfl, rfl⟩
                            refine JH.tdone ?_
                            exact JH.weak [0, 1, 2, 3, 4] (K a640 cp641 a339 a1239) ⟨rfl, rfl, rfl, rfl, rfl, rfl, rfl, rfl, rfl, rfl, rfl, rfl, trivial⟩ (by decide) rfl
                          · exact JH.tnil
                        · refine JH.talt ?_ ?_
                          · refine JH.must rfl (ef_buildSlice (E := 35) (k := eSPoint.k) (us := eSPoint.fl [j24.1]) rfl (fun w => bsl61_1 j24.1.X j24.1.Y w) rfl (by decide)) rfl rfl ?_
                            rintro _ _ ⟨a1239, rfl, rfl⟩
                            refine JH.talt ?_ ?_
                            · refine JH.must rfl (ef_appendT (ix := 1) Go.Proofs.Try.underlying61 i35 i35z i35s rfl i35b0 i35b1 rfl rfl rfl rfl rfl (fun w hC => rd_row hC 3 rfl) hx639) rfl rfl ?_
                              rintro _ _ ⟨a640, cp641, rfl, rfl⟩
                              refine JH.tdone ?_
                              exact JH.weak [0, 1, 2, 3, 4] (K a640 cp641 a339 a1239) ⟨rfl, rfl, rfl, rfl, rfl, rfl, rfl, rfl, rfl, rfl, rfl, rfl, trivial⟩ (by decide) rfl
                            · exact JH.tnil
                          · exact JH.tnil
                      · refine JH.talt ?_ ?_
                        · refine JH.must rfl (ef_buildSlice (E := 35) (k := eSPoint.k) (us := eSPoint.fl [j24.1]) rfl (fun w => bsl61_1 j24.1.X j24.1.Y w) rfl (by decide)) rfl rfl ?_
                          rintro _ _ ⟨a1239, rfl, rfl⟩
                          refine JH.talt ?_ ?_
                          · refine JH.must rfl (ef_appendT (ix := 1) Go.Proofs.Try.underlying61 i35 i35z i35s rfl i35b0 i35b1 rfl rfl rfl rfl rfl (fun w hC => rd_row hC 3 rfl) hx639) rfl rfl ?_
                            rintro _ _ ⟨a640, cp641, rfl, rfl⟩
                            refine JH.talt ?_ ?_
                            · refine JH.mval rfl (yl_lookR (mh := mh13) (k := j24.2) Go.Proofs.Try.underlying146 zv61 keyOk35 rfl rfl hg32 (fun w hC => rd_mapR hC 0 rfl)) rfl ?_
                              refine JH.tdone ?_
                              exact JH.weak [0, 1, 2, 3, 4] (K a640 cp641 a339 a1239) ⟨rfl, rfl, rfl, rfl, rfl, rfl, rfl, rfl, rfl, rfl, rfl, rfl, trivial⟩ (by decide) rfl
                            · exact JH.tnil
                          · refine JH.talt ?_ ?_
                            · refine JH.mval rfl (yl_lookR (mh := mh13) (k := j24.2) Go.Proofs.Try.underlying146 zv61 keyOk35 rfl rfl hg32 (fun w hC => rd_mapR hC 0 rfl)) rfl ?_
                              refine JH.talt ?_ ?_
                              · refine JH.must rfl (ef_appendT (ix := 1) Go.Proofs.Try.underlying61 i35 i35z i35s rfl i35b0 i35b1 rfl rfl rfl rfl rfl (fun w hC => rd_row hC 3 rfl) hx639) rfl rfl ?_
                                rintro _ _ ⟨a640, cp641, rfl, rfl⟩
                                refine JH.tdone ?_
                                exact JH.weak [0, 1, 2, 3, 4] (K a640 cp641 a339 a1239) ⟨rfl, rfl, rfl, rfl, rfl, rfl, rfl, rfl, rfl, rfl, rfl, rfl, trivial⟩ (by decide) rfl
                              · exact JH.tnil
                            · exact JH.tnil
                        · exact JH.tnil
                  · refine JH.talt ?_ ?_
                    · refine JH.mval rfl (yl_lookR (mh := mh13) (k := j24.2) Go.Proofs.Try.underlying146 zv61 keyOk35 rfl rfl hg32 (fun w hC => rd_mapR hC 0 rfl)) rfl ?_
                      refine JH.talt ?_ ?_
                      · refine JH.mval rfl (yl_lookR (mh := mh13) (k := j24.1) Go.Proofs.Try.underlying146 zv61 keyOk35 rfl rfl hg36 (fun w hC => rd_mapR hC 0 rfl)) rfl ?_
                        refine JH.talt ?_ ?_
                        · refine JH.must rfl (ef_appendT (ix := 1) Go.Proofs.Try.underlying61 i35 i35z i35s rfl i35b0 i35b1 rfl rfl rfl rfl rfl (fun w hC => rd_row hC 3 rfl) hx639) rfl rfl ?_
                          rintro _ _ ⟨a640, cp641, rfl, rfl⟩
                          refine JH.talt ?_ ?_
                          · refine JH.must rfl (ef_buildSlice (E := 35) (k := eSPoint.k) (us := eSPoint.fl [j24.1]) rfl (fun w => bsl61_1 j24.1.X j24.1.Y w) rfl (by decide)) rfl rfl ?_
                            rintro _ _ ⟨a1239, rfl, rfl⟩
                            refine JH.tdone ?_
                            exact JH.weak [0, 1, 2, 3, 4] (K a640 cp641 a339 a1239) ⟨rfl, rfl, rfl, rfl, rfl, rfl, rfl, rfl, rfl, rfl, rfl, rfl, trivial⟩ (by decide) rfl
                          · exact JH.tnil
                        · refine JH.talt ?_ ?_
                          · refine JH.must rfl (ef_buildSlice (E := 35) (k := eSPoint.k) (us := eSPoint.fl [j24.1]) rfl (fun w => bsl61_1 j24.1.X j24.1.Y w) rfl (by decide)) rfl rfl ?_
                            rintro _ _ ⟨a1239, rfl, rfl⟩
                            refine JH.talt ?_ ?_
                            · refine JH.must rfl (ef_appendT (ix := 1) Go.Proofs.Try.underlying61 i35 i35z i35s rfl i35b0 i35b1 rfl rfl rfl rfl rfl (fun w hC => rd_row hC 3 rfl) hx639) rfl rfl ?_
                              rintro _ _ ⟨a640, cp641, rfl, rfl⟩
                              refine JH.tdone ?_
                              exact JH.weak [0, 1, 2, 3, 4] (K a640 cp641 a339 a1239) ⟨rfl, rfl, rfl, rfl, rfl, rfl, rfl, rfl, rfl, rfl, rfl, rfl, trivial⟩ (by decide) rfl
                            · exact JH.tnil
                          · exact JH.tnil
                      · refine JH.talt ?_ ?_
                        · refine JH.must rfl (ef_buildSlice (E := 35) (k := eSPoint.k) (us := eSPoint.fl [j24.1]) rfl (fun w => bsl61_1 j24.1.X j24.1.Y w) rfl (by decide)) rfl rfl ?_
                          rintro _ _ ⟨a1239, rfl, rfl⟩
                          refine JH.talt ?_ ?_
                          · refine JH.mval rfl (yl_lookR (mh := mh13) (k := j24.1) Go.Proofs.Try.underlying146 zv61 keyOk35 rfl rfl hg36 (fun w hC => rd_mapR hC 0 rfl)) rfl ?_
                            refine JH.talt ?_ ?_
                            · refine JH.must rfl (ef_appendT (ix := 1) Go.Proofs.Try.underlying61 i35 i35z i35s rfl i35b0 i35b1 rfl rfl rfl rfl rfl (fun w hC => rd_row hC 3 rfl) hx639) rfl rfl ?_
                              rintro _ _ ⟨a640, cp641, rfl, rfl⟩
                              refine JH.tdone ?_
                              exact JH.weak [0, 1, 2, 3, 4] (K a640 cp641 a339 a1239) ⟨rfl, rfl, rfl, rfl, rfl, rfl, rfl, rfl, rfl, rfl, rfl, rfl, trivial⟩ (by decide) rfl
                            · exact JH.tnil
                          · exact JH.tnil
                        · exact JH.tnil
                    · refine JH.talt ?_ ?_
                      · refine JH.must rfl (ef_buildSlice (E := 35) (k := eSPoint.k) (us := eSPoint.fl [j24.1]) rfl (fun w => bsl61_1 j24.1.X j24.1.Y w) rfl (by decide)) rfl rfl ?_
                        rintro _ _ ⟨a1239, rfl, rfl⟩
                        refine JH.talt ?_ ?_
                        · refine JH.mval rfl (yl_lookR (mh := mh13) (k := j24.1) Go.Proofs.Try.underlying146 zv61 keyOk35 rfl rfl hg36 (fun w hC => rd_mapR hC 0 rfl)) rfl ?_
                          refine JH.talt ?_ ?_
                          · refine JH.must rfl (ef_appendT (ix := 1) Go.Proofs.Try.underlying61 i35 i35z i35s rfl i35b0 i35b1 rfl rfl rfl rfl rfl (fun w hC => rd_row hC 3 rfl) hx639) rfl rfl ?_
                            rintro _ _ ⟨a640, cp641, rfl, rfl⟩
                            refine JH.talt ?_ ?_
                            · refine JH.mval rfl (yl_lookR (mh := mh13) (k := j24.2) Go.Proofs.Try.underlying146 zv61 keyOk35 rfl rfl hg32 (fun w hC => rd_mapR hC 0 rfl)) rfl ?_
                              refine JH.tdone ?_
                              exact JH.weak [0, 1, 2, 3, 4] (K a640 cp641 a339 a1239) ⟨rfl, rfl, rfl, rfl, rfl, rfl, rfl, rfl, rfl, rfl, rfl, rfl, trivial⟩ (by decide) rfl
                            · exact JH.tnil
                          · refine JH.talt ?_ ?_
                            · refine JH.mval rfl (yl_lookR (mh := mh13) (k := j24.2) Go.Proofs.Try.underlying146 zv61 keyOk35 rfl rfl hg32 (fun w hC => rd_mapR hC 0 rfl)) rfl ?_
                              refine JH.talt ?_ ?_
                              · refine JH.must rfl (ef_appendT (ix := 1) Go.Proofs.Try.underlying61 i35 i35z i35s rfl i35b0 i35b1 rfl rfl rfl rfl rfl (fun w hC => rd_row hC 3 rfl) hx639) rfl rfl ?_
                                rintro _ _ ⟨a640, cp641, rfl, rfl⟩
                                refine JH.tdone ?_
                                exact JH.weak [0, 1, 2, 3, 4] (K a640 cp641 a339 a1239) ⟨rfl, rfl, rfl, rfl, rfl, rfl, rfl, rfl, rfl, rfl, rfl, rfl, trivial⟩ (by decide) rfl
                              · exact JH.tnil
                            · exact JH.tnil
                        · refine JH.talt ?_ ?_
                          · refine JH.mval rfl (yl_lookR (mh := mh13) (k := j24.2) Go.Proofs.Try.underlying146 zv61 keyOk35 rfl rfl hg32 (fun w hC => rd_mapR hC 0 rfl)) rfl ?_
                            refine JH.talt ?_ ?_
                            · refine JH.mval rfl (yl_lookR (mh := mh13) (k := j24.1) Go.Proofs.Try.underlying146 zv61 keyOk35 rfl rfl hg36 (fun w hC => rd_mapR hC 0 rfl)) rfl ?_
                              refine JH.talt ?_ ?_
                              · refine JH.must rfl (ef_appendT (ix := 1) Go.Proofs.Try.underlying61 i35 i35z i35s rfl i35b0 i35b1 rfl rfl rfl rfl rfl (fun w hC => rd_row hC 3 rfl) hx639) rfl rfl ?_
                                rintro _ _ ⟨a640, cp641, rfl, rfl⟩
                                refine JH.tdone ?_
                                exact JH.weak [0, 1, 2, 3, 4] (K a640 cp641 a339 a1239) ⟨rfl, rfl, rfl, rfl, rfl, rfl, rfl, rfl, rfl, rfl, rfl, rfl, trivial⟩ (by decide) rfl
                              · exact JH.tnil
                            · exact JH.tnil
                          · exact JH.tnil
                      · exact JH.tnil
                · refine JH.talt ?_ ?_
                  · refine JH.mval rfl (yl_lookR (mh := mh13) (k := j24.2) Go.Proofs.Try.underlying146 zv61 keyOk35 rfl rfl hg32 (fun w hC => rd_mapR hC 0 rfl)) rfl ?_
                    refine JH.talt ?_ ?_
                    · refine JH.mval rfl (yl_lookR (mh := mh13) (k := j24.1) Go.Proofs.Try.underlying146 zv61 keyOk35 rfl rfl hg36 (fun w hC => rd_mapR hC 0 rfl)) rfl ?_
                      refine JH.talt ?_ ?_
                      · refine JH.must rfl (ef_buildSlice (E := 35) (k := eSPoint.k) (us := eSPoint.fl [j24.2]) rfl (fun w => bsl61_1 j24.2.X j24.2.Y w) rfl (by decide)) rfl rfl ?_
                        rintro _ _ ⟨a339, rfl, rfl⟩
                        refine JH.talt ?_ ?_
                        · refine JH.must rfl (ef_appendT (ix := 1) Go.Proofs.Try.underlying61 i35 i35z i35s rfl i35b0 i35b1 rfl rfl rfl rfl rfl (fun w hC => rd_row hC 3 rfl) hx639) rfl rfl ?_
                          rintro _ _ ⟨a640, cp641, rfl, rfl⟩
                          refine JH.talt ?_ ?_
                          · refine JH.must rfl (ef_buildSlice (E := 35) (k := eSPoint.k) (us := eSPoint.fl [j24.1]) rfl (fun w => bsl61_1 j24.1.X j24.1.Y w) rfl (by decide)) rfl rfl ?_
                            rintro _ _ ⟨a1239, rfl, rfl⟩
                            refine JH.tdone ?_
                            exact JH.weak [0, 1, 2, 3, 4] (K a640 cp641 a339 a1239) ⟨rfl, rfl, rfl, rfl, rfl, rfl, rfl, rfl, rfl, rfl, rfl, rfl, trivial⟩ (by decide) rfl
                          · exact JH.tnil
                        · refine JH.talt ?_ ?_
                          · refine JH.must rfl (ef_buildSlice (E := 35) (k := eSPoint.k) (us := eSPoint.fl [j24.1]) rfl (fun w => bsl61_1 j24.1.X j24.1.Y w) rfl (by decide)) rfl rfl ?_
                            rintro _ _ ⟨a1239, rfl, rfl⟩
                            refine JH.talt ?_ ?_
                            · refine JH.must rfl (ef_appendT (ix := 1) Go.Proofs.Try.underlying61 i35 i35z i35s rfl i35b0 i35b1 rfl rfl rfl rfl rfl (fun w hC => rd_row hC 3 rfl) hx639) rfl rfl ?_
                              rintro _ _ ⟨a640, cp641, rfl, rfl⟩
                              refine JH.tdone ?_
                              exact JH.weak [0, 1, 2, 3, 4] (K a640 cp641 a339 a1239) ⟨rfl, rfl, rfl, rfl, rfl, rfl, rfl, rfl, rfl, rfl, rfl, rfl, trivial⟩ (by decide) rfl
                            · exact JH.tnil
                          · exact JH.tnil
                      · refine JH.talt ?_ ?_
                        · refine JH.must rfl (ef_buildSlice (E := 35) (k := eSPoint.k) (us := eSPoint.fl [j24.1]) rfl (fun w => bsl61_1 j24.1.X j24.1.Y w) rfl (by decide)) rfl rfl ?_
                          rintro _ _ ⟨a1239, rfl, rfl⟩
                          refine JH.talt ?_ ?_
                          · refine JH.must rfl (ef_buildSlice (E := 35) (k := eSPoint.k) (us := eSPoint.fl [j24.2]) rfl (fun w => bsl61_1 j24.2.X j24.2.Y w) rfl (by decide)) rfl rfl ?_
                            rintro _ _ ⟨a339, rfl, rfl⟩
                            refine JH.talt ?_ ?_
                            · refine JH.must rfl (ef_appendT (ix := 1) Go.Proofs.Try.underlying61 i35 i35z i35s rfl i35b0 i35b1 rfl rfl rfl rfl rfl (fun w hC => rd_row hC 4 rfl) hx639) rfl rfl ?_
                              rintro _ _ ⟨a640, cp641, rfl, rfl⟩
                              refine JH.tdone ?_
                              exact JH.weak [0, 1, 2, 4, 3] (K a640 cp641 a339 a1239) ⟨rfl, rfl, rfl, rfl, rfl, rfl, rfl, rfl, rfl, rfl, rfl, rfl, trivial⟩ (by decide) rfl
                            · exact JH.tnil
                          · exact JH.tnil
                        · exact JH.tnil
                    · refine JH.talt ?_ ?_
                      · refine JH.must rfl (ef_buildSlice (E := 35) (k := eSPoint.k) (us := eSPoint.fl [j24.2]) rfl (fun w => bsl61_1 j24.2.X j24.2.Y w) rfl (by decide)) rfl rfl ?_
                        rintro _ _ ⟨a339, rfl, rfl⟩
                        refine JH.talt ?_ ?_
                        · refine JH.mval rfl (yl_lookR (mh := mh13) (k := j24.1) Go.Proofs.Try.underlying146 zv61 keyOk35 rfl rfl hg36 (fun w hC => rd_mapR hC 0 rfl)) rfl ?_
                          refine JH.talt ?_ ?_
                          · refine JH.must rfl (ef_appendT (ix := 1) Go.Proofs.Try.underlying61 i35 i35z i35s rfl i35b0 i35b1 rfl rfl rfl rfl rfl (fun w hC => rd_row hC 3 rfl) hx639) rfl rfl ?_
                            rintro _ _ ⟨a640, cp641, rfl, rfl⟩
                            refine JH.talt ?_ ?_
                            · refine JH.must rfl (ef_buildSlice (E := 35) (k := eSPoint.k) (us := eSPoint.fl [j24.1]) rfl (fun w => bsl61_1 j24.1.X j24.1.Y w) rfl (by decide)) rfl rfl ?_
                              rintro _ _ ⟨a1239, rfl, rfl⟩
                              refine JH.tdone ?_
                              exact JH.weak [0, 1, 2, 3, 4] (K a640 cp641 a339 a1239) ⟨rfl, rfl, rfl, rfl, rfl, rfl, rfl, rfl, rfl, rfl, rfl, rfl, trivial⟩ (by decide) rfl
                            · exact JH.tnil
                          · refine JH.talt ?_ ?_
                            · refine JH.must rfl (ef_buildSlice (E := 35) (k := eSPoint.k) (us := eSPoint.fl [j24.1]) rfl (fun w => bsl61_1 j24.1.X j24.1.Y w) rfl (by decide)) rfl rfl ?_
                              rintro _ _ ⟨a1239, rfl, rfl⟩
                              refine JH.talt ?_ ?_
                              · refine JH.must rfl (ef_appendT (ix := 1) Go.Proofs.Try.underlying61 i35 i35z i35s rfl i35b0 i35b1 rfl rfl rfl rfl rfl (fun w hC => rd_row hC 3 rfl) hx639) rfl rfl ?_
                                rintro _ _ ⟨a640, cp641, rfl, rfl⟩
                                refine JH.tdone ?_
                                exact JH.weak [0, 1, 2, 3, 4] (K a640 cp641 a339 a1239) ⟨rfl, rfl, rfl, rfl, rfl, rfl, rfl, rfl, rfl, rfl, rfl, rfl, trivial⟩ (by decide) rfl
                              · exact JH.tnil
                            · exact JH.tnil
                        · refine JH.talt ?_ ?_
                          · refine JH.must rfl (ef_buildSlice (E := 35) (k := eSPoint.k) (us := eSPoint.fl [j24.1]) rfl (fun w => bsl61_1 j24.1.X j24.1.Y w) rfl (by decide)) rfl rfl ?_
                            rintro _ _ ⟨a1239, rfl, rfl⟩
                            refine JH.talt ?_ ?_
                            · refine JH.mval rfl (yl_lookR (mh := mh13) (k := j24.1) Go.Proofs.Try.underlying146 zv61 keyOk35 rfl rfl hg36 (fun w hC => rd_mapR hC 0 rfl)) rfl ?_
                              refine JH.talt ?_ ?_
                              · refine JH.must rfl (ef_appendT (ix := 1) Go.Proofs.Try.underlying61 i35 i35z i35s rfl i35b0 i35b1 rfl rfl rfl rfl rfl (fun w hC => rd_row hC 3 rfl) hx639) rfl rfl ?_
                                rintro _ _ ⟨a640, cp641, rfl, rfl⟩
                                refine JH.tdone ?_
                                exact JH.weak [0, 1, 2, 3, 4] (K a640 cp641 a339 a1239) ⟨rfl, rfl, rfl, rfl, rfl, rfl, rfl, rfl, rfl, rfl, rfl, rfl, trivial⟩ (by decide) rfl
                              · exact JH.tnil
                            · exact JH.tnil
                          · exact JH.tnil
                      · refine JH.talt ?_ ?_
                        · refine JH.must rfl (ef_buildSlice (E := 35) (k := eSPoint.k) (us := eSPoint.fl [j24.1]) rfl (fun w => bsl61_1 j24.1.X j24.1.Y w) rfl (by decide)) rfl rfl ?_
                          rintro _ _ ⟨a1239, rfl, rfl⟩
                          refine JH.talt ?_ ?_
                          · refine JH.mval rfl (yl_lookR (mh := mh13) (k := j24.1) Go.Proofs.Try.underlying146 zv61 keyOk35 rfl rfl hg36 (fun w hC => rd_mapR hC 0 rfl)) rfl ?_
                            refine JH.talt ?_ ?_
                            · refine JH.must rfl (ef_buildSlice (E := 35) (k := eSPoint.k) (us := eSPoint.fl [j24.2]) rfl (fun w => bsl61_1 j24.2.X j24.2.Y w) rfl (by decide)) rfl rfl ?_
                              rintro _ _ ⟨a339, rfl, rfl⟩
                              refine JH.talt ?_ ?_
                              · refine JH.must rfl (ef_appendT (ix := 1) Go.Proofs.Try.underlying61 i35 i35z i35s rfl i35b0 i35b1 rfl rfl rfl rfl rfl (fun w hC => rd_row hC 4 rfl) hx639) rfl rfl ?_
                                rintro _ _ ⟨a640, cp641, rfl, rfl⟩
                                refine JH.tdone ?_
                                exact JH.weak [0, 1, 2, 4, 3] (K a640 cp641 a339 a1239) ⟨rfl, rfl, rfl, rfl, rfl, rfl, rfl, rfl, rfl, rfl, rfl, rfl, trivial⟩ (by decide) rfl
                              · exact JH.tnil
                            · exact JH.tnil
                          · refine JH.talt ?_ ?_
                            · refine JH.must rfl (ef_buildSlice (E := 35) (k := eSPoint.k) (us := eSPoint.fl [j24.2]) rfl (fun w => bsl61_1 j24.2.X j24.2.Y w) rfl (by decide)) rfl rfl ?_
                              rintro _ _ ⟨a339, rfl, rfl⟩
                              refine JH.talt ?_ ?_
                              · refine JH.mval rfl (yl_lookR (mh := mh13) (k := j24.1) Go.Proofs.Try.underlying146 zv61 keyOk35 rfl rfl hg36 (fun w hC => rd_mapR hC 0 rfl)) rfl ?_
                                refine JH.talt ?_ ?_
                                · refine JH.must rfl (ef_appendT (ix := 1) Go.Proofs.Try.underlying61 i35 i35z i35s rfl i35b0 i35b1 rfl rfl rfl rfl rfl (fun w hC => rd_row hC 4 rfl) hx639) rfl rfl ?_
                                  rintro _ _ ⟨a640, cp641, rfl, rfl⟩
                                  refine JH.tdone ?_
                                  exact JH.weak [0, 1, 2, 4, 3] (K a640 cp641 a339 a1239) ⟨rfl, rfl, rfl, rfl, rfl, rfl, rfl, rfl, rfl, rfl, rfl, rfl, trivial⟩ (by decide) rfl
                                · exact JH.tnil
                              · exact JH.tnil
                            · exact JH.tnil
                        · exact JH.tnil
                  · refine JH.talt ?_ ?_
                    · refine JH.must rfl (ef_buildSlice (E := 35) (k := eSPoint.k) (us := eSPoint.fl [j24.1]) rfl (fun w => bsl61_1 j24.1.X j24.1.Y w) rfl (by decide)) rfl rfl ?_
                      rintro _ _ ⟨a1239, rfl, rfl⟩
                      refine JH.talt ?_ ?_
                      · refine JH.mval rfl (yl_lookR (mh := mh13) (k := j24.1) Go.Proofs.Try.underlying146 zv61 keyOk35 rfl rfl hg36 (fun w hC => rd_mapR hC 0 rfl)) rfl ?_
                        refine JH.talt ?_ ?_
                        · refine JH.must rfl (ef_buildSlice (E := 35) (k := eSPoint.k) (us := eSPoint.fl [j24.2]) rfl (fun w => bsl61_1 j24.2.X j24.2.Y w) rfl (by decide)) rfl rfl ?_
                          rintro _ _ ⟨a339, rfl, rfl⟩
                          refine JH.talt ?_ ?_
                          · refine JH.must rfl (ef_appendT (ix := 1) Go.Proofs.Try.underlying61 i35 i35z i35s rfl i35b0 i35b1 rfl rfl rfl rfl rfl (fun w hC => rd_row hC 4 rfl) hx639) rfl rfl ?_
                            rintro _ _ ⟨a640, cp641, rfl, rfl⟩
                            refine JH.talt ?_ ?_
                            · refine JH.mval rfl (yl_lookR (mh := mh13) (k := j24.2) Go.Proofs.Try.underlying146 zv61 keyOk35 rfl rfl hg32 (fun w hC => rd_mapR hC 0 rfl)) rfl ?_
                              refine JH.tdone ?_
                              exact JH.weak [0, 1, 2, 4, 3] (K a640 cp641 a339 a1239) ⟨rfl, rfl, rfl, rfl, rfl, rfl, rfl, rfl, rfl, rfl, rfl, rfl, trivial⟩ (by decide) rfl
                            · exact JH.tnil
                          · refine JH.talt ?_ ?_
                            · refine JH.mval rfl (yl_lookR (mh := mh13) (k := j24.2) Go.Proofs.Try.underlying146 zv61 keyOk35 rfl rfl hg32 (fun w hC => rd_mapR hC 0 rfl)) rfl ?_
                              refine JH.talt ?_ ?_
                              · refine JH.must rfl (ef_appendT (ix := 1) Go.Proofs.Try.underlying61 i35 i35z i35s rfl i35b0 i35b1 rfl rfl rfl rfl rfl (fun w hC => rd_row hC 4 rfl) hx639) rfl rfl ?_
                                rintro _ _ ⟨a640, cp641, rfl, rfl⟩
                                refine JH.tdone ?_
                                exact JH.weak [0, 1, 2, 4, 3] (K a640 cp641 a339 a1239) ⟨rfl, rfl, rfl, rfl, rfl, rfl, rfl, rfl, rfl, rfl, rfl, rfl, trivial⟩ (by decide) rfl
                              · exact JH.tnil
                            · exact JH.tnil
                        · refine JH.talt ?_ ?_
                          · refine JH.mval rfl (yl_lookR (mh := mh13) (k := j24.2) Go.Proofs.Try.underlying146 zv61 keyOk35 rfl rfl hg32 (fun w hC => rd_mapR hC 0 rfl)) rfl ?_
                            refine JH.talt ?_ ?_
                            · refine JH.must rfl (ef_buildSlice (E := 35) (k := eSPoint.k) (us := eSPoint.fl [j24.2]) rfl (fun w => bsl61_1 j24.2.X j24.2.Y w) rfl (by decide)) rfl rfl ?_
                              rintro _ _ ⟨a339, rfl, rfl⟩
                              refine JH.talt ?_ ?_
                              · refine JH.must rfl (ef_appendT (ix := 1) Go.Proofs.Try.underlying61 i35 i35z i35s rfl i35b0 i35b1 rfl rfl rfl rfl rfl (fun w hC => rd_row hC 4 rfl) hx639) rfl rfl ?_
                                rintro _ _ ⟨a640, cp641, rfl, rfl⟩
                                refine JH.tdone ?_
                                exact JH.weak [0, 1, 2, 4, 3] (K a640 cp641 a339 a1239) ⟨rfl, rfl, rfl, rfl, rfl, rfl, rfl, rfl, rfl, rfl, rfl, rfl, trivial⟩ (by decide) rfl
                              · exact JH.tnil
                            · exact JH.tnil
                          · exact JH.tnil
                      · refine JH.talt ?_ ?_
                        · refine JH.must rfl (ef_buildSlice (E := 35) (k := eSPoint.k) (us := eSPoint.fl [j24.2]) rfl (fun w => bsl61_1 j24.2.X j24.2.Y w) rfl (by decide)) rfl rfl ?_
                          rintro _ _ ⟨a339, rfl, rfl⟩
                          refine JH.talt ?_ ?_
                          · refine JH.mval rfl (yl_lookR (mh := mh13) (k := j24.1) Go.Proofs.Try.underlying146 zv61 keyOk35 rfl rfl hg36 (fun w hC => rd_mapR hC 0 rfl)) rfl ?_
                            refine JH.talt ?_ ?_
                            · refine JH.must rfl (ef_appendT (ix := 1) Go.Proofs.Try.underlying61 i35 i35z i35s rfl i35b0 i35b1 rfl rfl rfl rfl rfl (fun w hC => rd_row hC 4 rfl) hx639) rfl rfl ?_
                              rintro _ _ ⟨a640, cp641, rfl, rfl⟩
                              refine JH.talt ?_ ?_
                              · refine JH.mval rfl (yl_lookR (mh := mh13) (k := j24.2) Go.Proofs.Try.underlying146 zv61 keyOk35 rfl rfl hg32 (fun w hC => rd_mapR hC 0 rfl)) rfl ?_
                                refine JH.tdone ?_
                                exact JH.weak [0, 1, 2, 4, 3] (K a640 cp641 a339 a1239) ⟨rfl, rfl, rfl, rfl, rfl, rfl, rfl, rfl, rfl, rfl, rfl, rfl, trivial⟩ (by decide) rfl
                              · exact JH.tnil
                            · refine JH.talt ?_ ?_
                              · refine JH.mval rfl (yl_lookR (mh := mh13) (k := j24.2) Go.Proofs.Try.underlying146 zv61 keyOk35 rfl rfl hg32 (fun w hC => rd_mapR hC 0 rfl)) rfl ?_
                                refine JH.talt ?_ ?_
                                · refine JH.must rfl (ef_appendT (ix := 1) Go.Proofs.Try.underlying61 i35 i35z i35s rfl i35b0 i35b1 rfl rfl rfl rfl rfl (fun w hC => rd_row hC 4 rfl) hx639) rfl rfl ?_
                                  rintro _ _ ⟨a640, cp641, rfl, rfl⟩
                                  refine JH.tdone ?_
                                  exact JH.weak [0, 1, 2, 4, 3] (K a640 cp641 a339 a1239) ⟨rfl, rfl, rfl, rfl, rfl, rfl, rfl, rfl, rfl, rfl, rfl, rfl, trivial⟩ (by decide) rfl
                                · exact JH.tnil
                              · exact JH.tnil
                          · refine JH.talt ?_ ?_
                            · refine JH.mval rfl (yl_lookR (mh := mh13) (k := j24.2) Go.Proofs.Try.underlying146 zv61 keyOk35 rfl rfl hg32 (fun w hC => rd_mapR hC 0 rfl)) rfl ?_
                              refine JH.talt ?_ ?_
                              · refine JH.mval rfl (yl_lookR (mh := mh13) (k := j24.1) Go.Proofs.Try.underlying146 zv61 keyOk35 rfl rfl hg36 (fun w hC => rd_mapR hC 0 rfl)) rfl ?_
                                refine JH.talt ?_ ?_
                                · refine JH.must rfl (ef_appendT (ix := 1) Go.Proofs.Try.underlying61 i35 i35z i35s rfl i35b0 i35b1 rfl rfl rfl rfl rfl (fun w hC => rd_row hC 4 rfl) hx639) rfl rfl ?_
                                  rintro _ _ ⟨a640, cp641, rfl, rfl⟩
                                  refine JH.tdone ?_
                                  exact JH.weak [0, 1, 2, 4, 3] (K a640 cp641 a339 a1239) ⟨rfl, rfl, rfl, rfl, rfl, rfl, rfl, rfl, rfl, rfl, rfl, rfl, trivial⟩ (by decide) rfl
                                · exact JH.tnil
                              · exact JH.tnil
                            · exact JH.tnil
                        · refine JH.talt ?_ ?_
                          · refine JH.mval rfl (yl_lookR (mh := mh13) (k := j24.2) Go.Proofs.Try.underlying146 zv61 keyOk35 rfl rfl hg32 (fun w hC => rd_mapR hC 0 rfl)) rfl ?_
                            refine JH.talt ?_ ?_
                            · refine JH.mval rfl (yl_lookR (mh := mh13) (k := j24.1) Go.Proofs.Try.underlying146 zv61 keyOk35 rfl rfl hg36 (fun w hC => rd_mapR hC 0 rfl)) rfl ?_
                              refine JH.talt ?_ ?_
                              · refine JH.must rfl (ef_buildSlice (E := 35) (k := eSPoint.k) (us := eSPoint.fl [j24.2]) rfl (fun w => bsl61_1 j24.2.X j24.2.Y w) rfl (by decide)) rfl rfl ?_
                                rintro _ _ ⟨a339, rfl, rfl⟩
                                refine JH.talt ?_ ?_
                                · refine JH.must rfl (ef_appendT (ix := 1) Go.Proofs.Try.underlying61 i35 i35z i35s rfl i35b0 i35b1 rfl rfl rfl rfl rfl (fun w hC => rd_row hC 4 rfl) hx639) rfl rfl ?_
                                  rintro _ _ ⟨a640, cp641, rfl, rfl⟩
                                  refine JH.tdone ?_
                                  exact JH.weak [0, 1, 2, 4, 3] (K a640 cp641 a339 a1239) ⟨rfl, rfl, rfl, rfl, rfl, rfl, rfl, rfl, rfl, rfl, rfl, rfl, trivial⟩ (by decide) rfl
                                · exact JH.tnil
                              · exact JH.tnil
                            · refine JH.talt ?_ ?_
                              · refine JH.must rfl (ef_buildSlice (E := 35) (k := eSPoint.k) (us := eSPoint.fl [j24.2]) rfl (fun w => bsl61_1 j24.2.X j24.2.Y w) rfl (by decide)) rfl rfl ?_
                                rintro _ _ ⟨a339, rfl, rfl⟩
                                refine JH.talt ?_ ?_
                                · refine JH.mval rfl (yl_lookR (mh := mh13) (k := j24.1) Go.Proofs.Try.underlying146 zv61 keyOk35 rfl rfl hg36 (fun w hC => rd_mapR hC 0 rfl)) rfl ?_
                                  refine JH.talt ?_ ?_
                                  · refine JH.must rfl (ef_appendT (ix := 1) Go.Proofs.Try.underlying61 i35 i35z i35s rfl i35b0 i35b1 rfl rfl rfl rfl rfl (fun w hC => rd_row hC 4 rfl) hx639) rfl rfl ?_
                                    rintro _ _ ⟨a640, cp641, rfl, rfl⟩
                                    refine JH.tdone ?_
                                    exact JH.weak [0, 1, 2, 4, 3] (K a640 cp641 a339 a1239) ⟨rfl, rfl, rfl, rfl, rfl, rfl, rfl, rfl, rfl, rfl, rfl, rfl, trivial⟩ (by decide) rfl
                                  · exact JH.tnil
                                · exact JH.tnil
                              · exact JH.tnil
                          · exact JH.tnil
                    · exact JH.tnil
          · refine JX.condF rfl hb ?_
            refine JX.skip ?_
            have hj := Option.some.inj hres
            exact JE.weak [0, 1, 4] (K mh13 (by subst hj; exact hi14)) ⟨(by subst hj; rfl), (by subst hj; rfl), (by subst hj; rfl), (by subst hj; rfl), (by subst hj; rfl), trivial⟩ (by decide) (by subst hj; rfl)
      · intro K
        rcases cond_some hj24 with ⟨hb, hres⟩ | ⟨hb, hres⟩
        · refine JX.condT rfl hb ?_
          refine JX.drawH [(0, .pure), (1, .read), (2, .pure), (3, .pure), (4, .read), (5, .pure), (6, .pure), (7, .read), (8, .pure), (9, .pure), (10, .read), (11, .pure), (12, .must), (13, .must)] [12, 13] [3, 4] [0, 1, 2, 5] [boxO 35 g19 [.int .i64 x15.X, .int .i64 (w64 (x15.Y - 1))], boxO 35 g21 [.int .i64 x15.X, .int .i64 (w64 (x15.Y + 1))]] [boxO 28 g1 [.int .i64 q0.W, .int .i64 q0.H, .slice a_0_2 q0.Breaks.length c_0_2], mapR eSPoint 35 eSPoint g3 [] mh13 x12, boxO 35 g16 [.int .i64 x15.X, .int .i64 x15.Y], rowT 35 eSPoint a6 x5.length cp7 x5] mixedP (by kernel_rfl) (by kernel_rfl) (by decide) rfl rfl ?_
          intro wrr1546 Nr1546 hFr1546
          refine JH.pure rfl (yl_fieldAt (a := some _) Go.Proofs.Try.underlying35 rfl i2 i2n rfl rfl) rfl ?_
          refine JH.read rfl (yl_load1 Go.Proofs.Try.underlying2 rfl rfl (fun w hw => hFr1546.box 2 rfl rfl hw) rfl) rfl ?_
          refine JH.pure rfl (yl_sub rfl rfl) rfl ?_
          refine JH.pure rfl (yl_fieldAt (a := some _) Go.Proofs.Try.underlying35 rfl i2 i2n rfl rfl) rfl ?_
          refine JH.read rfl (yl_load1 Go.Proofs.Try.underlying2 rfl rfl (fun w hw => hFr1546.box 2 rfl rfl hw) rfl) rfl ?_
          refine JH.pure rfl (yl_build rfl (fun w => bld35_0_1 (w64 (x15.X - 1)) x15.Y w)) rfl ?_
          refine JH.pure rfl (yl_fieldAt (a := some _) Go.Proofs.Try.underlying35 rfl i2 i2n rfl rfl) rfl ?_
          refine JH.read rfl (yl_load1 Go.Proofs.Try.underlying2 rfl rfl (fun w hw => hFr1546.box 2 rfl rfl hw) rfl) rfl ?_
          refine JH.pure rfl (yl_add rfl rfl) rfl ?_
          refine JH.pure rfl (yl_fieldAt (a := some _) Go.Proofs.Try.underlying35 rfl i2 i2n rfl rfl) rfl ?_
          refine JH.read rfl (yl_load1 Go.Proofs.Try.underlying2 rfl rfl (fun w hw => hFr1546.box 2 rfl rfl hw) rfl) rfl ?_
          refine JH.pure rfl (yl_build rfl (fun w => bld35_0_1 (w64 (x15.X + 1)) x15.Y w)) rfl ?_
          refine JH.must rfl (ef_store_box (i := 0) (v := .agg #[.int .i64 (w64 (x15.X - 1)), .int .i64 x15.Y]) i35 rfl rfl rfl (i35s).symm (Nat.le_of_ble_eq_true rfl) (by simp [Value.cells, Value.oneCell'])) rfl rfl ?_
          rintro _ _ rfl
          refine JH.must rfl (ef_store_box (i := 1) (v := .agg #[.int .i64 (w64 (x15.X + 1)), .int .i64 x15.Y]) i35 rfl rfl rfl (i35s).symm (Nat.le_of_ble_eq_true rfl) (by simp [Value.cells, Value.oneCell'])) rfl rfl ?_
          rintro _ _ rfl
          refine JH.nil ?_
          refine JE.weak (env' := [(1, ptrAt (some ⟨g1, 0, none⟩) 0), (4, .map (some g3)), (5, .int .i64 x11), (7, ptrAt (some ⟨g19, 0, none⟩) 0), (8, ptrAt (some ⟨g21, 0, none⟩) 0), (24, .slice a6 x5.length cp7), (25, .int .i64 (x5.length : Int)), (26, .int .i64 x11)]) (es' := [boxO 28 g1 [.int .i64 q0.W, .int .i64 q0.H, .slice a_0_2 q0.Breaks.length c_0_2], mapR eSPoint 35 eSPoint g3 [] mh13 x12, boxO 35 g19 [.int .i64 (w64 (x15.X - 1)), .int .i64 x15.Y], boxO 35 g21 [.int .i64 (w64 (x15.X + 1)), .int .i64 x15.Y], rowT 35 eSPoint a6 x5.length cp7 x5]) [0, 1, 4, 5, 3] ?_ ⟨rfl, rfl, rfl, rfl, rfl, rfl, rfl, rfl, trivial⟩ (by decide) rfl
          have hj := Option.some.inj hres
          exact JE.weak [0, 1, 2, 3, 4] (K) ⟨(by subst hj; rfl), (by subst hj; rfl), (by subst hj; rfl), (by subst hj; rfl), (by subst hj; rfl), (by subst hj; rfl), (by subst hj; rfl), (by subst hj; rfl), trivial⟩ (by decide) (by subst hj; rfl)
        · refine JX.condF rfl hb ?_
          refine JX.skip ?_
          have hj := Option.some.inj hres
          exact JE.weak [0, 1, 3, 4, 5] (K) ⟨(by subst hj; rfl), (by subst hj; rfl), (by subst hj; rfl), (by subst hj; rfl), (by subst hj; rfl), (by subst hj; rfl), (by subst hj; rfl), (by subst hj; rfl), trivial⟩ (by decide) (by subst hj; rfl)
    · intro K
      refine JH.two ?_ ?_
      · refine JH.must rfl (ef_alloc i35 i35z rfl) rfl rfl ?_
        rintro _ _ ⟨g19, rfl, rfl⟩
        refine JH.must rfl (ef_alloc i35 i35z rfl) rfl rfl ?_
        rintro _ _ ⟨g21, rfl, rfl⟩
        exact JH.weak [0, 1] (K g19 g21) ⟨rfl, rfl, rfl, rfl, rfl, rfl, rfl, rfl, rfl, rfl, rfl, trivial⟩ (by decide) rfl
      · refine JH.must rfl (ef_alloc i35 i35z rfl) rfl rfl ?_
        rintro _ _ ⟨g21, rfl, rfl⟩
        refine JH.must rfl (ef_alloc i35 i35z rfl) rfl rfl ?_
        rintro _ _ ⟨g19, rfl, rfl⟩
        exact JH.weak [1, 0] (K g19 g21) ⟨rfl, rfl, rfl, rfl, rfl, rfl, rfl, rfl, rfl, rfl, rfl, trivial⟩ (by decide) rfl
  · refine JX.condF rfl hb ?_
    refine JX.exit ?_
    refine JE.qb rfl ?_
    obtain ⟨b1, hb1⟩ : ∃ b : (List (SPoint × List SPoint)), b = x12 := ⟨_, rfl⟩
    have hy1 : b1 = y1 := by rw [hb1]; exact hox1 _ (Option.some.inj hres).symm
    have hres := hresO1
    rw [← hy1] at hres
    have hi1548 : InnM mh13 b1 := by subst hb1; exact hi14
    refine JE.weak (env' := [(1, ptrAt (some ⟨g1, 0, none⟩) 0), (4, .map (some g3))]) (es' := [boxO 28 g1 [.int .i64 q0.W, .int .i64 q0.H, .slice a_0_2 q0.Breaks.length c_0_2], mapR eSPoint 35 eSPoint g3 [] mh13 b1]) [0, 1] ?_ ⟨(by subst hb1; rfl), (by subst hb1; rfl), trivial⟩ (by decide) (by subst hb1; rfl)
    refine JE.code ?_
    refine JX.seq ?_
    refine JX.region ?_
    refine JL.eff (ef_buildSlice (E := 61) (k := eHd.k) (us := eHd.fl ([] : List Hd)) rfl (fun w => bsl40_0  w) rfl (by decide)) rfl ?_
    rintro _ _ ⟨a1549, rfl, rfl⟩
    refine JL.nilinn 35 eSPoint ?_
    refine JL.eff (ef_makeMapI (e := eSPoint)) rfl ?_
    rintro _ _ ⟨g1552, rfl, rfl⟩
    refine JL.val (yl_assign rfl) rfl ?_
    refine JL.val (yl_assign rfl) rfl ?_
    refine JL.nil ?_
    refine JE.weak (env' := [(1, ptrAt (some ⟨g1, 0, none⟩) 0), (4, .map (some g3)), (9, .slice a1549 0 0), (10, .map (some g1552))]) (es' := [boxO 28 g1 [.int .i64 q0.W, .int .i64 q0.H, .slice a_0_2 q0.Breaks.length c_0_2], mapR eSPoint 35 eSPoint g3 [] mh13 b1, rowT 61 eHd a1549 0 0 ([] : List Hd), innO 35 eSPoint none ([] : List Hd) ([] : List (List SPoint)), mapI eSPoint (some g1552) ([] : List (SPoint × Int))]) [0, 1, 2, 3, 4] ?_ ⟨rfl, rfl, rfl, rfl, trivial⟩ (by decide) rfl
    refine JE.code ?_
    refine JX.seq ?_
    refine JX.seq ?_
    refine JX.region ?_
    refine JL.val (yl_fieldAt (a := some _) Go.Proofs.Try.underlying28 rfl i2 i2n rfl rfl) rfl ?_
    refine JL.val (yl_load1 Go.Proofs.Try.underlying2 rfl rfl (fun w hC => rd_box hC 0 rfl) rfl) rfl ?_
    refine JL.val (yl_mul rfl rfl) rfl ?_
    refine JL.val (yl_add rfl rfl) rfl ?_
    refine JL.val (yl_move rfl) rfl ?_
    refine JL.nil ?_
    refine JE.weak (env' := [(1, ptrAt (some ⟨g1, 0, none⟩) 0), (4, .map (some g3)), (9, .slice a1549 0 0), (10, .map (some g1552)), (91, .int .i64 (w64 ((w64 (2 * q0.H)) + 1))), (92, .int .i64 0)]) (es' := [boxO 28 g1 [.int .i64 q0.W, .int .i64 q0.H, .slice a_0_2 q0.Breaks.length c_0_2], mapR eSPoint 35 eSPoint g3 [] mh13 b1, rowT 61 eHd a1549 0 0 ([] : List Hd), innO 35 eSPoint none ([] : List Hd) ([] : List (List SPoint)), mapI eSPoint (some g1552) ([] : List (SPoint × Int))]) [0, 1, 2, 3, 4] ?_ ⟨rfl, rfl, rfl, rfl, rfl, rfl, trivial⟩ (by decide) rfl
    refine JE.code ?_
    refine JX.block ?_
    obtain ⟨y2, hy2, hresO2⟩ := bind_some hres
    refine JX.loop (I := fun (s2 : Int × List (List SPoint) × (List (SPoint × Int))) aa ww => ∃ (a1554 : Option Addr) (cp1555 : Nat) (hs1556 : List Hd) (hi1557 : Inn hs1556 s2.2.1), St w [] 163 [(1, ptrAt (some ⟨g1, 0, none⟩) 0), (4, .map (some g3)), (9, .slice a1554 s2.2.1.length cp1555), (10, .map (some g1552)), (91, .int .i64 (w64 ((w64 (2 * q0.H)) + 1))), (92, .int .i64 s2.1)] [boxO 28 g1 [.int .i64 q0.W, .int .i64 q0.H, .slice a_0_2 q0.Breaks.length c_0_2], mapR eSPoint 35 eSPoint g3 [] mh13 b1, rowT 61 eHd a1554 s2.2.1.length cp1555 hs1556, innO 35 eSPoint none hs1556 s2.2.1, mapI eSPoint (some g1552) s2.2.2] aa ww) (sh88_2 q0 b1) hy2 (fun a w h => ⟨a1549, 0, ([] : List Hd), (Inn.nil (T := SPoint)), h.weak ⟨rfl, rfl, rfl, rfl, rfl, rfl, trivial⟩ [0, 1, 2, 3, 4] (by decide) rfl⟩) ?_
    rintro ⟨x1558, x1559, x1560⟩ o2 hres hox2 aa ww ⟨a1561, cp1562, hs1563, hi1564, hS⟩
    refine (?_ : JX Go.Proofs.Try.prog w [] 163 _ _ [(1, ptrAt (some ⟨g1, 0, none⟩) 0), (4, .map (some g3)), (9, .slice a1561 x1559.length cp1562), (10, .map (some g1552)), (91, .int .i64 (w64 ((w64 (2 * q0.H)) + 1))), (92, .int .i64 x1558)] [boxO 28 g1 [.int .i64 q0.W, .int .i64 q0.H, .slice a_0_2 q0.Breaks.length c_0_2], mapR eSPoint 35 eSPoint g3 [] mh13 b1, rowT 61 eHd a1561 x1559.length cp1562 hs1563, innO 35 eSPoint none hs1563 x1559, mapI eSPoint (some g1552) x1560] _) aa ww hS
    clear hS
    simp only [sh88_2] at hres
    refine JX.seq ?_
    refine JX.region ?_
    refine JL.val (yl_lss rfl rfl) rfl ?_
    refine JL.nil ?_
    refine JE.code ?_
    refine JX.seq ?_
    rcases cond_some hres with ⟨hb, hres⟩ | ⟨hb, hres⟩
    · refine JX.condT rfl hb ?_
      refine JX.skip ?_
      refine JE.code ?_
      refine JX.seq ?_
      refine JX.block ?_
      refine JX.seq ?_
      refine JX.region ?_
      refine JL.val (yl_move rfl) rfl ?_
      refine JL.val (yl_assign rfl) rfl ?_
      refine JL.nil ?_
      refine JE.code ?_
      refine JX.seq ?_
      refine JX.region ?_
      refine JL.val (yl_move rfl) rfl ?_
      refine JL.val (yl_rem rfl rfl (by decide)) rfl ?_
      refine JL.val (yl_assign rfl) rfl ?_
      refine JL.nil ?_
      refine JE.code ?_
      refine JX.block ?_
      obtain ⟨y3, hy3, hresO3⟩ := bind_some hres
      refine JX.loop (I := fun (s3 : Int × List (List SPoint) × (List (SPoint × Int))) aa ww => ∃ (a1565 : Option Addr) (cp1566 : Nat) (hs1567 : List Hd) (hi1568 : Inn hs1567 s3.2.1), St w [] 163 [(1, ptrAt (some ⟨g1, 0, none⟩) 0), (4, .map (some g3)), (9, .slice a1565 s3.2.1.length cp1566), (10, .map (some g1552)), (11, .int .i64 x1558), (12, .int .i64 s3.1), (91, .int .i64 (w64 ((w64 (2 * q0.H)) + 1))), (92, .int .i64 x1558)] [boxO 28 g1 [.int .i64 q0.W, .int .i64 q0.H, .slice a_0_2 q0.Breaks.length c_0_2], mapR eSPoint 35 eSPoint g3 [] mh13 b1, rowT 61 eHd a1565 s3.2.1.length cp1566 hs1567, innO 35 eSPoint none hs1567 s3.2.1, mapI eSPoint (some g1552) s3.2.2] aa ww) (sh88_3 q0 b1 x1558) hy3 (fun a w h => ⟨a1561, cp1562, hs1563, hi1564, h.weak ⟨rfl, rfl, (by first | rfl | (simp only [List.length_set]; rfl) | simp only [List.length_set]), rfl, rfl, rfl, rfl, rfl, trivial⟩ [0, 1, 2, 3, 4] (by decide) (by first | rfl | (simp only [List.length_set]; rfl) | simp only [List.length_set])⟩) ?_
      rintro ⟨x1569, x1570, x1571⟩ o3 hres hox3 aa ww ⟨a1572, cp1573, hs1574, hi1575, hS⟩
      refine (?_ : JX Go.Proofs.Try.prog w [] 163 _ _ [(1, ptrAt (some ⟨g1, 0, none⟩) 0), (4, .map (some g3)), (9, .slice a1572 x1570.length cp1573), (10, .map (some g1552)), (11, .int .i64 x1558), (12, .int .i64 x1569), (91, .int .i64 (w64 ((w64 (2 * q0.H)) + 1))), (92, .int .i64 x1558)] [boxO 28 g1 [.int .i64 q0.W, .int .i64 q0.H, .slice a_0_2 q0.Breaks.length c_0_2], mapR eSPoint 35 eSPoint g3 [] mh13 b1, rowT 61 eHd a1572 x1570.length cp1573 hs1574, innO 35 eSPoint none hs1574 x1570, mapI eSPoint (some g1552) x1571] _) aa ww hS
      clear hS
      simp only [sh88_3] at hres
      refine JX.seq ?_
      refine JX.seq ?_
      refine JX.region ?_
      refine JL.val (yl_move rfl) rfl ?_
      refine JL.val (yl_fieldAt (a := some _) Go.Proofs.Try.underlying28 rfl i2 i2n rfl rfl) rfl ?_
      refine JL.val (yl_load1 Go.Proofs.Try.underlying2 rfl rfl (fun w hC => rd_box hC 0 rfl) rfl) rfl ?_
      refine JL.val (yl_mul rfl rfl) rfl ?_
      refine JL.val (yl_leq rfl rfl) rfl ?_
      refine JL.nil ?_
      refine JE.weak (env' := [(1, ptrAt (some ⟨g1, 0, none⟩) 0), (4, .map (some g3)), (9, .slice a1572 x1570.length cp1573), (10, .map (some g1552)), (11, .int .i64 x1558), (12, .int .i64 x1569), (91, .int .i64 (w64 ((w64 (2 * q0.H)) + 1))), (92, .int .i64 x1558), (101, .bool (decide (x1569 ≤ (w64 (2 * q0.W)))))]) (es' := [boxO 28 g1 [.int .i64 q0.W, .int .i64 q0.H, .slice a_0_2 q0.Breaks.length c_0_2], mapR eSPoint 35 eSPoint g3 [] mh13 b1, rowT 61 eHd a1572 x1570.length cp1573 hs1574, innO 35 eSPoint none hs1574 x1570, mapI eSPoint (some g1552) x1571]) [0, 1, 2, 3, 4] ?_ ⟨rfl, rfl, rfl, rfl, rfl, rfl, rfl, rfl, rfl, trivial⟩ (by decide) rfl
      refine JE.code ?_
      rcases cond_some hres with ⟨hb, hres⟩ | ⟨hb, hres⟩
      · refine JX.condT rfl hb ?_
        refine JX.skip ?_
        refine JE.code ?_
        refine JX.seq ?_
        refine JX.block ?_
        refine JX.seq ?_
        refine JX.region ?_
        refine JL.val (yl_move rfl) rfl ?_
        refine JL.val (yl_move rfl) rfl ?_
        refine JL.val (yl_build rfl (fun w => bld35_0_1 x1569 x1558 w)) rfl ?_
        refine JL.eff (ef_alloc i35 i35z rfl) rfl ?_
        rintro _ _ ⟨g1576, rfl, rfl⟩
        refine JL.eff (ef_store_box (i := 5) (v := .agg #[.int .i64 x1569, .int .i64 x1558]) i35 rfl rfl rfl (i35s).symm (Nat.le_of_ble_eq_true rfl) (by simp [Value.cells, Value.oneCell'])) rfl ?_
        rintro _ _ rfl
        refine JL.nil ?_
        refine JE.weak (env' := [(1, ptrAt (some ⟨g1, 0, none⟩) 0), (4, .map (some g3)), (9, .slice a1572 x1570.length cp1573), (10, .map (some g1552)), (11, .int .i64 x1558), (12, .int .i64 x1569), (13, ptrAt (some ⟨g1576, 0, none⟩) 0), (91, .int .i64 (w64 ((w64 (2 * q0.H)) + 1))), (92, .int .i64 x1558)]) (es' := [boxO 28 g1 [.int .i64 q0.W, .int .i64 q0.H, .slice a_0_2 q0.Breaks.length c_0_2], mapR eSPoint 35 eSPoint g3 [] mh13 b1, rowT 61 eHd a1572 x1570.length cp1573 hs1574, innO 35 eSPoint none hs1574 x1570, mapI eSPoint (some g1552) x1571, boxO 35 g1576 [.int .i64 x1569, .int .i64 x1558]]) [0, 1, 2, 3, 4, 5] ?_ ⟨rfl, rfl, rfl, rfl, rfl, rfl, rfl, rfl, rfl, trivial⟩ (by decide) rfl
        refine JE.code ?_
        refine JX.seq ?_
        refine JX.seq ?_
        refine JX.region ?_
        refine JL.val (yl_move rfl) rfl ?_
        refine JL.val (yl_loadn Go.Proofs.Try.underlying35 rfl i35 rfl (fun w hC => rd_box hC 5 rfl) rfl (i35s).symm i35p) rfl ?_
        refine JL.val (yl_lookIok (e := eSPoint) (mi := x1571) (k := SPoint.mk x1569 x1558) Go.Proofs.Try.underlying91 zv2 keyOk35 rfl rfl (fun w hC => rd_mapI hC 4 rfl)) rfl ?_
        refine JL.val (yl_move rfl) rfl ?_
        refine JL.val (yl_extract rfl rfl) rfl ?_
        refine JL.val (yl_extract rfl rfl) rfl ?_
        refine JL.val (yl_assign rfl) rfl ?_
        refine JL.val (yl_assign rfl) rfl ?_
        refine JL.nil ?_
        refine JE.weak (env' := [(1, ptrAt (some ⟨g1, 0, none⟩) 0), (4, .map (some g3)), (9, .slice a1572 x1570.length cp1573), (10, .map (some g1552)), (11, .int .i64 x1558), (12, .int .i64 x1569), (13, ptrAt (some ⟨g1576, 0, none⟩) 0), (15, .bool ((mfind x1571 (SPoint.mk x1569 x1558)).isSome)), (91, .int .i64 (w64 ((w64 (2 * q0.H)) + 1))), (92, .int .i64 x1558)]) (es' := [boxO 28 g1 [.int .i64 q0.W, .int .i64 q0.H, .slice a_0_2 q0.Breaks.length c_0_2], mapR eSPoint 35 eSPoint g3 [] mh13 b1, rowT 61 eHd a1572 x1570.length cp1573 hs1574, innO 35 eSPoint none hs1574 x1570, mapI eSPoint (some g1552) x1571, boxO 35 g1576 [.int .i64 x1569, .int .i64 x1558]]) [0, 1, 2, 3, 4, 5] ?_ ⟨rfl, rfl, rfl, rfl, rfl, rfl, rfl, rfl, rfl, rfl, trivial⟩ (by decide) rfl
        refine JE.code ?_
        refine JX.seq ?_
        refine JX.region ?_
        refine JL.val (yl_move rfl) rfl ?_
        refine JL.nil ?_
        refine JE.code ?_
        rcases cond_some hres with ⟨hb, hres⟩ | ⟨hb, hres⟩
        · refine JX.condT rfl hb ?_
          refine JX.exit ?_
          refine JE.qb rfl ?_
          refine JE.code ?_
          refine JX.region ?_
          refine JL.val (yl_move rfl) rfl ?_
          refine JL.val (yl_add rfl rfl) rfl ?_
          refine JL.val (yl_assign rfl) rfl ?_
          refine JL.nil ?_
          refine JE.weak (env' := [(1, ptrAt (some ⟨g1, 0, none⟩) 0), (4, .map (some g3)), (9, .slice a1572 x1570.length cp1573), (10, .map (some g1552)), (11, .int .i64 x1558), (12, .int .i64 (w64 (x1569 + 2))), (91, .int .i64 (w64 ((w64 (2 * q0.H)) + 1))), (92, .int .i64 x1558)]) (es' := [boxO 28 g1 [.int .i64 q0.W, .int .i64 q0.H, .slice a_0_2 q0.Breaks.length c_0_2], mapR eSPoint 35 eSPoint g3 [] mh13 b1, rowT 61 eHd a1572 x1570.length cp1573 hs1574, innO 35 eSPoint none hs1574 x1570, mapI eSPoint (some g1552) x1571]) [0, 1, 2, 3, 4] ?_ ⟨rfl, rfl, rfl, rfl, rfl, rfl, rfl, rfl, trivial⟩ (by decide) rfl
          refine JE.cont hres ?_
          exact fun a w h => ⟨a1572, cp1573, hs1574, hi1575, h.weak ⟨rfl, rfl, (by first | rfl | (simp only [List.length_set]; rfl) | simp only [List.length_set]), rfl, rfl, rfl, rfl, rfl, trivial⟩ [0, 1, 2, 3, 4] (by decide) (by first | rfl | (simp only [List.length_set]; rfl) | simp only [List.length_set])⟩
        · refine JX.condF rfl hb ?_
          refine JX.skip ?_
          refine JE.code ?_
          refine JX.seq ?_
          refine JX.region ?_
          refine JL.val (yl_loadn Go.Proofs.Try.underlying35 rfl i35 rfl (fun w hC => rd_box hC 5 rfl) rfl (i35s).symm i35p) rfl ?_
          refine JL.eff (ef_buildSlice (E := 35) (k := eSPoint.k) (us := eSPoint.fl [SPoint.mk x1569 x1558]) rfl (fun w => bsl61_1 x1569 x1558 w) rfl (by decide)) rfl ?_
          rintro _ _ ⟨a1578, rfl, rfl⟩
          refine JL.val (yl_assign rfl) rfl ?_
          refine JL.nil ?_
          refine JE.code ?_
          refine JX.seq ?_
          refine JX.region ?_
          refine JL.val (yl_move rfl) rfl ?_
          refine JL.val (yl_loadn Go.Proofs.Try.underlying35 rfl i35 rfl (fun w hC => rd_box hC 5 rfl) rfl (i35s).symm i35p) rfl ?_
          refine JL.val (yl_move rfl) rfl ?_
          refine JL.val (yl_len_slice Go.Proofs.Try.underlying40 rfl) rfl ?_
          refine JL.eff (ef_mapUpdI (e := eSPoint) (i := 4) (k := SPoint.mk x1569 x1558) (v := ((x1570.length : Nat) : Int)) Go.Proofs.Try.underlying91 keyOk35 rfl rfl rfl rfl) rfl ?_
          rintro _ _ rfl
          refine JL.nil ?_
          refine JE.weak (env' := [(1, ptrAt (some ⟨g1, 0, none⟩) 0), (4, .map (some g3)), (9, .slice a1572 x1570.length cp1573), (10, .map (some g1552)), (11, .int .i64 x1558), (12, .int .i64 x1569), (16, .slice a1578 1 1), (91, .int .i64 (w64 ((w64 (2 * q0.H)) + 1))), (92, .int .i64 x1558)]) (es' := [boxO 28 g1 [.int .i64 q0.W, .int .i64 q0.H, .slice a_0_2 q0.Breaks.length c_0_2], mapR eSPoint 35 eSPoint g3 [] mh13 b1, rowT 61 eHd a1572 x1570.length cp1573 hs1574, innO 35 eSPoint none hs1574 x1570, mapI eSPoint (some g1552) (mput x1571 (SPoint.mk x1569 x1558) ((x1570.length : Nat) : Int)), rowT 35 eSPoint a1578 1 1 [SPoint.mk x1569 x1558]]) [0, 1, 2, 3, 4, 6] ?_ ⟨rfl, rfl, rfl, rfl, rfl, rfl, rfl, rfl, rfl, trivial⟩ (by decide) rfl
          refine JE.code ?_
          refine JX.seq ?_
          refine JX.seq ?_
          refine JX.region ?_
          refine JL.val (yl_assign rfl) rfl ?_
          refine JL.nil ?_
          refine JE.code ?_
          refine JX.block ?_
          obtain ⟨y4, hy4, hresO4⟩ := bind_some hres
          refine JX.loop (I := fun (s4 : Int × (List (SPoint × Int)) × List SPoint) aa ww => ∃ (a1580 : Option Addr) (cp1581 : Nat), St w [] 163 [(1, ptrAt (some ⟨g1, 0, none⟩) 0), (4, .map (some g3)), (9, .slice a1572 x1570.length cp1573), (10, .map (some g1552)), (11, .int .i64 x1558), (12, .int .i64 x1569), (16, .slice a1580 s4.2.2.length cp1581), (17, .int .i64 s4.1), (91, .int .i64 (w64 ((w64 (2 * q0.H)) + 1))), (92, .int .i64 x1558)] [boxO 28 g1 [.int .i64 q0.W, .int .i64 q0.H, .slice a_0_2 q0.Breaks.length c_0_2], mapR eSPoint 35 eSPoint g3 [] mh13 b1, rowT 61 eHd a1572 x1570.length cp1573 hs1574, innO 35 eSPoint none hs1574 x1570, mapI eSPoint (some g1552) s4.2.1, rowT 35 eSPoint a1580 s4.2.2.length cp1581 s4.2.2] aa ww) (sh88_4 b1 x1570) hy4 (fun a w h => ⟨a1578, 1, h.weak ⟨rfl, rfl, rfl, rfl, rfl, rfl, rfl, rfl, rfl, rfl, trivial⟩ [0, 1, 2, 3, 4, 5] (by decide) rfl⟩) ?_
          rintro ⟨x1582, x1583, x1584⟩ o4 hres hox4 aa ww ⟨a1585, cp1586, hS⟩
          refine (?_ : JX Go.Proofs.Try.prog w [] 163 _ _ [(1, ptrAt (some ⟨g1, 0, none⟩) 0), (4, .map (some g3)), (9, .slice a1572 x1570.length cp1573), (10, .map (some g1552)), (11, .int .i64 x1558), (12, .int .i64 x1569), (16, .slice a1585 x1584.length cp1586), (17, .int .i64 x1582), (91, .int .i64 (w64 ((w64 (2 * q0.H)) + 1))), (92, .int .i64 x1558)] [boxO 28 g1 [.int .i64 q0.W, .int .i64 q0.H, .slice a_0_2 q0.Breaks.length c_0_2], mapR eSPoint 35 eSPoint g3 [] mh13 b1, rowT 61 eHd a1572 x1570.length cp1573 hs1574, innO 35 eSPoint none hs1574 x1570, mapI eSPoint (some g1552) x1583, rowT 35 eSPoint a1585 x1584.length cp1586 x1584] _) aa ww hS
          clear hS
          simp only [sh88_4] at hres
          refine JX.seq ?_
          refine JX.seq ?_
          refine JX.region ?_
          refine JL.val (yl_move rfl) rfl ?_
          refine JL.val (yl_move rfl) rfl ?_
          refine JL.val (yl_len_slice Go.Proofs.Try.underlying61 rfl) rfl ?_
          refine JL.val (yl_lss rfl rfl) rfl ?_
          refine JL.nil ?_
          refine JE.weak (env' := [(1, ptrAt (some ⟨g1, 0, none⟩) 0), (4, .map (some g3)), (9, .slice a1572 x1570.length cp1573), (10, .map (some g1552)), (11, .int .i64 x1558), (12, .int .i64 x1569), (16, .slice a1585 x1584.length cp1586), (17, .int .i64 x1582), (91, .int .i64 (w64 ((w64 (2 * q0.H)) + 1))), (92, .int .i64 x1558), (123, .bool (decide (x1582 < (x1584.length : Int))))]) (es' := [boxO 28 g1 [.int .i64 q0.W, .int .i64 q0.H, .slice a_0_2 q0.Breaks.length c_0_2], mapR eSPoint 35 eSPoint g3 [] mh13 b1, rowT 61 eHd a1572 x1570.length cp1573 hs1574, innO 35 eSPoint none hs1574 x1570, mapI eSPoint (some g1552) x1583, rowT 35 eSPoint a1585 x1584.length cp1586 x1584]) [0, 1, 2, 3, 4, 5] ?_ ⟨rfl, rfl, rfl, rfl, rfl, rfl, rfl, rfl, rfl, rfl, rfl, trivial⟩ (by decide) rfl
          refine JE.code ?_
          rcases cond_some hres with ⟨hb, hres⟩ | ⟨hb, hres⟩
          · refine JX.condT rfl hb ?_
            refine JX.skip ?_
            refine JE.code ?_
            refine JX.seq ?_
            refine JX.block ?_
            refine JX.seq ?_
            refine JX.region ?_
            refine JL.val (yl_move rfl) rfl ?_
            refine JL.val (yl_move rfl) rfl ?_
            refine JL.val (yl_move rfl) rfl ?_
            obtain ⟨x1587, hx1587, hres⟩ := bind_some hres
            refine JL.val (yl_idxT Go.Proofs.Try.underlying61 i35 i35s rfl rfl hx1587 rfl (fun w hC => rd_row hC 5 rfl)) rfl ?_
            refine JL.val (yl_loadTn Go.Proofs.Try.underlying35 rfl i35 i35s rfl hx1587 (fun w hC => rd_row hC 5 rfl)) rfl ?_
            obtain ⟨ha1588, hc1589, hg1590⟩ := InnM.get hi1548 x1587
            refine JL.val (yl_lookR (mh := mh13) (k := x1587) Go.Proofs.Try.underlying146 zv61 keyOk35 rfl rfl hg1590 (fun w hC => rd_mapR hC 1 rfl)) rfl ?_
            refine JL.val (yl_len_slice Go.Proofs.Try.underlying61 rfl) rfl ?_
            refine JL.val (yl_move rfl) rfl ?_
            refine JL.nil ?_
            refine JE.weak (env' := [(1, ptrAt (some ⟨g1, 0, none⟩) 0), (4, .map (some g3)), (9, .slice a1572 x1570.length cp1573), (10, .map (some g1552)), (11, .int .i64 x1558), (12, .int .i64 x1569), (16, .slice a1585 x1584.length cp1586), (17, .int .i64 x1582), (91, .int .i64 (w64 ((w64 (2 * q0.H)) + 1))), (92, .int .i64 x1558), (131, .slice ha1588 ((rowOf b1 x1587).length) hc1589), (132, .int .i64 ((rowOf b1 x1587).length : Int)), (133, .int .i64 0)]) (es' := [boxO 28 g1 [.int .i64 q0.W, .int .i64 q0.H, .slice a_0_2 q0.Breaks.length c_0_2], mapR eSPoint 35 eSPoint g3 [] mh13 b1, rowT 61 eHd a1572 x1570.length cp1573 hs1574, innO 35 eSPoint none hs1574 x1570, mapI eSPoint (some g1552) x1583, rowT 35 eSPoint a1585 x1584.length cp1586 x1584]) [0, 1, 2, 3, 4, 5] ?_ ⟨rfl, rfl, rfl, rfl, rfl, rfl, rfl, rfl, rfl, rfl, rfl, rfl, rfl, trivial⟩ (by decide) rfl
            refine JE.code ?_
            refine JX.block ?_
            obtain ⟨y5, hy5, hresO5⟩ := bind_some hres
            refine JX.loop (I := fun (s5 : Int × (List (SPoint × Int)) × List SPoint) aa ww => ∃ (a1592 : Option Addr) (cp1593 : Nat), St w [] 163 [(1, ptrAt (some ⟨g1, 0, none⟩) 0), (4, .map (some g3)), (9, .slice a1572 x1570.length cp1573), (10, .map (some g1552)), (11, .int .i64 x1558), (12, .int .i64 x1569), (16, .slice a1592 s5.2.2.length cp1593), (17, .int .i64 x1582), (91, .int .i64 (w64 ((w64 (2 * q0.H)) + 1))), (92, .int .i64 x1558), (131, .slice ha1588 ((rowOf b1 x1587).length) hc1589), (132, .int .i64 ((rowOf b1 x1587).length : Int)), (133, .int .i64 s5.1)] [boxO 28 g1 [.int .i64 q0.W, .int .i64 q0.H, .slice a_0_2 q0.Breaks.length c_0_2], mapR eSPoint 35 eSPoint g3 [] mh13 b1, rowT 61 eHd a1572 x1570.length cp1573 hs1574, innO 35 eSPoint none hs1574 x1570, mapI eSPoint (some g1552) s5.2.1, rowT 35 eSPoint a1592 s5.2.2.length cp1593 s5.2.2] aa ww) (sh88_5 b1 x1570 x1587) hy5 (fun a w h => ⟨a1585, cp1586, h.weak ⟨rfl, rfl, rfl, rfl, rfl, rfl, rfl, rfl, rfl, rfl, rfl, rfl, rfl, trivial⟩ [0, 1, 2, 3, 4, 5] (by decide) rfl⟩) ?_
            rintro ⟨x1594, x1595, x1596⟩ o5 hres hox5 aa ww ⟨a1597, cp1598, hS⟩
            refine (?_ : JX Go.Proofs.Try.prog w [] 163 _ _ [(1, ptrAt (some ⟨g1, 0, none⟩) 0), (4, .map (some g3)), (9, .slice a1572 x1570.length cp1573), (10, .map (some g1552)), (11, .int .i64 x1558), (12, .int .i64 x1569), (16, .slice a1597 x1596.length cp1598), (17, .int .i64 x1582), (91, .int .i64 (w64 ((w64 (2 * q0.H)) + 1))), (92, .int .i64 x1558), (131, .slice ha1588 ((rowOf b1 x1587).length) hc1589), (132, .int .i64 ((rowOf b1 x1587).length : Int)), (133, .int .i64 x1594)] [boxO 28 g1 [.int .i64 q0.W, .int .i64 q0.H, .slice a_0_2 q0.Breaks.length c_0_2], mapR eSPoint 35 eSPoint g3 [] mh13 b1, rowT 61 eHd a1572 x1570.length cp1573 hs1574, innO 35 eSPoint none hs1574 x1570, mapI eSPoint (some g1552) x1595, rowT 35 eSPoint a1597 x1596.length cp1598 x1596] _) aa ww hS
            clear hS
            simp only [sh88_5] at hres
            refine JX.seq ?_
            refine JX.region ?_
            refine JL.val (yl_lss rfl rfl) rfl ?_
            refine JL.nil ?_
            refine JE.code ?_
            refine JX.seq ?_
            rcases cond_some hres with ⟨hb, hres⟩ | ⟨hb, hres⟩
            · refine JX.condT rfl hb ?_
              refine JX.skip ?_
              refine JE.code ?_
              refine JX.seq ?_
              refine JX.block ?_
              refine JX.seq ?_
              refine JX.region ?_
              obtain ⟨x1599, hx1599, hres⟩ := bind_some hres
              refine JL.val (yl_idxT Go.Proofs.Try.underlying61 i35 i35s rfl rfl hx1599 rfl (fun w hC => (rd_rowM hC 1 rfl hg1590))) rfl ?_
              refine JL.val (yl_loadTn Go.Proofs.Try.underlying35 rfl i35 i35s rfl hx1599 (fun w hC => (rd_rowM hC 1 rfl hg1590))) rfl ?_
              refine JL.eff (ef_alloc i35 i35z rfl) rfl ?_
              rintro _ _ ⟨g1600, rfl, rfl⟩
              refine JL.eff (ef_store_box (i := 6) (v := .agg #[.int .i64 x1599.X, .int .i64 x1599.Y]) i35 rfl rfl rfl (i35s).symm (Nat.le_of_ble_eq_true rfl) (by simp [Value.cells, Value.oneCell'])) rfl ?_
              rintro _ _ rfl
              refine JL.nil ?_
              refine JE.weak (env' := [(1, ptrAt (some ⟨g1, 0, none⟩) 0), (4, .map (some g3)), (9, .slice a1572 x1570.length cp1573), (10, .map (some g1552)), (11, .int .i64 x1558), (12, .int .i64 x1569), (16, .slice a1597 x1596.length cp1598), (17, .int .i64 x1582), (19, ptrAt (some ⟨g1600, 0, none⟩) 0), (91, .int .i64 (w64 ((w64 (2 * q0.H)) + 1))), (92, .int .i64 x1558), (131, .slice ha1588 ((rowOf b1 x1587).length) hc1589), (132, .int .i64 ((rowOf b1 x1587).length : Int)), (133, .int .i64 x1594)]) (es' := [boxO 28 g1 [.int .i64 q0.W, .int .i64 q0.H, .slice a_0_2 q0.Breaks.length c_0_2], mapR eSPoint 35 eSPoint g3 [] mh13 b1, rowT 61 eHd a1572 x1570.length cp1573 hs1574, innO 35 eSPoint none hs1574 x1570, mapI eSPoint (some g1552) x1595, rowT 35 eSPoint a1597 x1596.length cp1598 x1596, boxO 35 g1600 [.int .i64 x1599.X, .int .i64 x1599.Y]]) [0, 1, 2, 3, 4, 5, 6] ?_ ⟨rfl, rfl, rfl, rfl, rfl, rfl, rfl, rfl, rfl, rfl, rfl, rfl, rfl, rfl, trivial⟩ (by decide) rfl
              refine JE.code ?_
              refine JX.seq ?_
              refine JX.region ?_
              refine JL.val (yl_move rfl) rfl ?_
              refine JL.val (yl_loadn Go.Proofs.Try.underlying35 rfl i35 rfl (fun w hC => rd_box hC 6 rfl) rfl (i35s).symm i35p) rfl ?_
              refine JL.val (yl_lookIok (e := eSPoint) (mi := x1595) (k := x1599) Go.Proofs.Try.underlying91 zv2 keyOk35 rfl rfl (fun w hC => rd_mapI hC 4 rfl)) rfl ?_
              refine JL.val (yl_move rfl) rfl ?_
              refine JL.val (yl_extract rfl rfl) rfl ?_
              refine JL.val (yl_extract rfl rfl) rfl ?_
              refine JL.val (yl_assign rfl) rfl ?_
              refine JL.val (yl_assign rfl) rfl ?_
              refine JL.nil ?_
              refine JE.weak (env' := [(1, ptrAt (some ⟨g1, 0, none⟩) 0), (4, .map (some g3)), (9, .slice a1572 x1570.length cp1573), (10, .map (some g1552)), (11, .int .i64 x1558), (12, .int .i64 x1569), (16, .slice a1597 x1596.length cp1598), (17, .int .i64 x1582), (19, ptrAt (some ⟨g1600, 0, none⟩) 0), (21, .bool ((mfind x1595 x1599).isSome)), (91, .int .i64 (w64 ((w64 (2 * q0.H)) + 1))), (92, .int .i64 x1558), (131, .slice ha1588 ((rowOf b1 x1587).length) hc1589), (132, .int .i64 ((rowOf b1 x1587).length : Int)), (133, .int .i64 x1594)]) (es' := [boxO 28 g1 [.int .i64 q0.W, .int .i64 q0.H, .slice a_0_2 q0.Breaks.length c_0_2], mapR eSPoint 35 eSPoint g3 [] mh13 b1, rowT 61 eHd a1572 x1570.length cp1573 hs1574, innO 35 eSPoint none hs1574 x1570, mapI eSPoint (some g1552) x1595, rowT 35 eSPoint a1597 x1596.length cp1598 x1596, boxO 35 g1600 [.int .i64 x1599.X, .int .i64 x1599.Y]]) [0, 1, 2, 3, 4, 5, 6] ?_ ⟨rfl, rfl, rfl, rfl, rfl, rfl, rfl, rfl, rfl, rfl, rfl, rfl, rfl, rfl, rfl, trivial⟩ (by decide) rfl
              refine JE.code ?_
              refine JX.seq ?_
              refine JX.region ?_
              refine JL.val (yl_move rfl) rfl ?_
              refine JL.val (yl_not rfl) rfl ?_
              refine JL.nil ?_
              refine JE.code ?_
              obtain ⟨j1602, hj1602, hresj1602⟩ := bind_some hres
              refine JX.cut (K := fun J => ∀ (a1603 : Option Addr) (cp1604 : Nat), J [(1, ptrAt (some ⟨g1, 0, none⟩) 0), (4, .map (some g3)), (9, .slice a1572 x1570.length cp1573), (10, .map (some g1552)), (11, .int .i64 x1558), (12, .int .i64 x1569), (16, .slice a1603 j1602.2.length cp1604), (17, .int .i64 x1582), (91, .int .i64 (w64 ((w64 (2 * q0.H)) + 1))), (92, .int .i64 x1558), (131, .slice ha1588 ((rowOf b1 x1587).length) hc1589), (132, .int .i64 ((rowOf b1 x1587).length : Int)), (133, .int .i64 x1594)] [boxO 28 g1 [.int .i64 q0.W, .int .i64 q0.H, .slice a_0_2 q0.Breaks.length c_0_2], mapR eSPoint 35 eSPoint g3 [] mh13 b1, rowT 61 eHd a1572 x1570.length cp1573 hs1574, innO 35 eSPoint none hs1574 x1570, mapI eSPoint (some g1552) j1602.1, rowT 35 eSPoint a1603 j1602.2.length cp1604 j1602.2]) ?_ ?_
              · intro a1603 cp1604
                have hres := hresj1602
                refine JE.code ?_
                refine JX.region ?_
                refine JL.val (yl_add rfl rfl) rfl ?_
                refine JL.val (yl_move rfl) rfl ?_
                refine JL.nil ?_
                refine JE.cont hres ?_
                exact fun a w h => ⟨a1603, cp1604, h.weak ⟨rfl, rfl, rfl, rfl, rfl, rfl, rfl, rfl, rfl, rfl, rfl, rfl, rfl, trivial⟩ [0, 1, 2, 3, 4, 5] (by decide) rfl⟩
              · intro K
                rcases cond_some hj1602 with ⟨hb, hres⟩ | ⟨hb, hres⟩
                · refine JX.condT rfl hb ?_
                  refine JX.seq ?_
                  refine JX.region ?_
                  refine JL.val (yl_move rfl) rfl ?_
                  refine JL.val (yl_loadn Go.Proofs.Try.underlying35 rfl i35 rfl (fun w hC => rd_box hC 6 rfl) rfl (i35s).symm i35p) rfl ?_
                  refine JL.val (yl_move rfl) rfl ?_
                  refine JL.val (yl_len_slice Go.Proofs.Try.underlying40 rfl) rfl ?_
                  refine JL.eff (ef_mapUpdI (e := eSPoint) (i := 4) (k := x1599) (v := ((x1570.length : Nat) : Int)) Go.Proofs.Try.underlying91 keyOk35 rfl rfl rfl rfl) rfl ?_
                  rintro _ _ rfl
                  refine JL.nil ?_
                  refine JE.weak (env' := [(1, ptrAt (some ⟨g1, 0, none⟩) 0), (4, .map (some g3)), (9, .slice a1572 x1570.length cp1573), (10, .map (some g1552)), (11, .int .i64 x1558), (12, .int .i64 x1569), (16, .slice a1597 x1596.length cp1598), (17, .int .i64 x1582), (19, ptrAt (some ⟨g1600, 0, none⟩) 0), (91, .int .i64 (w64 ((w64 (2 * q0.H)) + 1))), (92, .int .i64 x1558), (131, .slice ha1588 ((rowOf b1 x1587).length) hc1589), (132, .int .i64 ((rowOf b1 x1587).length : Int)), (133, .int .i64 x1594)]) (es' := [boxO 28 g1 [.int .i64 q0.W, .int .i64 q0.H, .slice a_0_2 q0.Breaks.length c_0_2], mapR eSPoint 35 eSPoint g3 [] mh13 b1, rowT 61 eHd a1572 x1570.length cp1573 hs1574, innO 35 eSPoint none hs1574 x1570, mapI eSPoint (some g1552) (mput x1595 x1599 ((x1570.length : Nat) : Int)), rowT 35 eSPoint a1597 x1596.length cp1598 x1596, boxO 35 g1600 [.int .i64 x1599.X, .int .i64 x1599.Y]]) [0, 1, 2, 3, 4, 5, 6] ?_ ⟨rfl, rfl, rfl, rfl, rfl, rfl, rfl, rfl, rfl, rfl, rfl, rfl, rfl, rfl, trivial⟩ (by decide) rfl
                  refine JE.code ?_
                  refine JX.region ?_
                  refine JL.val (yl_move rfl) rfl ?_
                  refine JL.val (yl_loadn Go.Proofs.Try.underlying35 rfl i35 rfl (fun w hC => rd_box hC 6 rfl) rfl (i35s).symm i35p) rfl ?_
                  refine JL.eff (ef_buildSlice (E := 35) (k := eSPoint.k) (us := eSPoint.fl [x1599]) rfl (fun w => bsl61_1 x1599.X x1599.Y w) rfl (by decide)) rfl ?_
                  rintro _ _ ⟨a1605, rfl, rfl⟩
                  obtain ⟨x1607, hx1607, hres⟩ := bind_some hres
                  refine JL.eff (ef_appendT (ix := 5) Go.Proofs.Try.underlying61 i35 i35z i35s rfl i35b0 i35b1 rfl rfl rfl rfl rfl (fun w hC => rd_row hC 7 rfl) hx1607) rfl ?_
                  rintro _ _ ⟨a1608, cp1609, rfl, rfl⟩
                  refine JL.val (yl_assign rfl) rfl ?_
                  refine JL.nil ?_
                  refine JE.weak (env' := [(1, ptrAt (some ⟨g1, 0, none⟩) 0), (4, .map (some g3)), (9, .slice a1572 x1570.length cp1573), (10, .map (some g1552)), (11, .int .i64 x1558), (12, .int .i64 x1569), (16, .slice a1608 x1607.length cp1609), (17, .int .i64 x1582), (91, .int .i64 (w64 ((w64 (2 * q0.H)) + 1))), (92, .int .i64 x1558), (131, .slice ha1588 ((rowOf b1 x1587).length) hc1589), (132, .int .i64 ((rowOf b1 x1587).length : Int)), (133, .int .i64 x1594)]) (es' := [boxO 28 g1 [.int .i64 q0.W, .int .i64 q0.H, .slice a_0_2 q0.Breaks.length c_0_2], mapR eSPoint 35 eSPoint g3 [] mh13 b1, rowT 61 eHd a1572 x1570.length cp1573 hs1574, innO 35 eSPoint none hs1574 x1570, mapI eSPoint (some g1552) (mput x1595 x1599 ((x1570.length : Nat) : Int)), rowT 35 eSPoint a1608 x1607.length cp1609 x1607]) [0, 1, 2, 3, 4, 5] ?_ ⟨rfl, rfl, rfl, rfl, rfl, rfl, rfl, rfl, rfl, rfl, rfl, rfl, rfl, trivial⟩ (by decide) rfl
                  have hj := Option.some.inj hres
                  exact JE.weak [0, 1, 2, 3, 4, 5] (K a1608 cp1609) ⟨(by subst hj; rfl), (by subst hj; rfl), (by subst hj; rfl), (by subst hj; rfl), (by subst hj; rfl), (by subst hj; rfl), (by subst hj; rfl), (by subst hj; rfl), (by subst hj; rfl), (by subst hj; rfl), (by subst hj; rfl), (by subst hj; rfl), (by subst hj; rfl), trivial⟩ (by decide) (by subst hj; rfl)
                · refine JX.condF rfl hb ?_
                  refine JX.skip ?_
                  have hj := Option.some.inj hres
                  exact JE.weak [0, 1, 2, 3, 4, 5] (K a1597 cp1598) ⟨(by subst hj; rfl), (by subst hj; rfl), (by subst hj; rfl), (by subst hj; rfl), (by subst hj; rfl), (by subst hj; rfl), (by subst hj; rfl), (by subst hj; rfl), (by subst hj; rfl), (by subst hj; rfl), (by subst hj; rfl), (by subst hj; rfl), (by subst hj; rfl), trivial⟩ (by decide) (by subst hj; rfl)
            · refine JX.condF rfl hb ?_
              refine JX.exit ?_
              refine JE.qb rfl ?_
              obtain ⟨b5, hb5⟩ : ∃ b : (List (SPoint × Int)) × List SPoint, b = (x1595, x1596) := ⟨_, rfl⟩
              have hy5 : b5 = y5 := by rw [hb5]; exact hox5 _ (Option.some.inj hres).symm
              have hres := hresO5
              rw [← hy5] at hres
              refine JE.weak (env' := [(1, ptrAt (some ⟨g1, 0, none⟩) 0), (4, .map (some g3)), (9, .slice a1572 x1570.length cp1573), (10, .map (some g1552)), (11, .int .i64 x1558), (12, .int .i64 x1569), (16, .slice a1597 b5.2.length cp1598), (17, .int .i64 x1582), (91, .int .i64 (w64 ((w64 (2 * q0.H)) + 1))), (92, .int .i64 x1558)]) (es' := [boxO 28 g1 [.int .i64 q0.W, .int .i64 q0.H, .slice a_0_2 q0.Breaks.length c_0_2], mapR eSPoint 35 eSPoint g3 [] mh13 b1, rowT 61 eHd a1572 x1570.length cp1573 hs1574, innO 35 eSPoint none hs1574 x1570, mapI eSPoint (some g1552) b5.1, rowT 35 eSPoint a1597 b5.2.length cp1598 b5.2]) [0, 1, 2, 3, 4, 5] ?_ ⟨(by subst hb5; rfl), (by subst hb5; rfl), (by subst hb5; rfl), (by subst hb5; rfl), (by subst hb5; rfl), (by subst hb5; rfl), (by subst hb5; rfl), (by subst hb5; rfl), (by subst hb5; rfl), (by subst hb5; rfl), trivial⟩ (by decide) (by subst hb5; rfl)
              refine JE.code ?_
              refine JX.region ?_
              refine JL.val (yl_move rfl) rfl ?_
              refine JL.val (yl_add rfl rfl) rfl ?_
              refine JL.val (yl_assign rfl) rfl ?_
              refine JL.nil ?_
              refine JE.cont hres ?_
              exact fun a w h => ⟨a1597, cp1598, h.weak ⟨rfl, rfl, rfl, rfl, rfl, rfl, rfl, rfl, rfl, rfl, trivial⟩ [0, 1, 2, 3, 4, 5] (by decide) rfl⟩
          · refine JX.condF rfl hb ?_
            refine JX.exit ?_
            refine JE.qb rfl ?_
            obtain ⟨b4, hb4⟩ : ∃ b : (List (SPoint × Int)) × List SPoint, b = (x1583, x1584) := ⟨_, rfl⟩
            have hy4 : b4 = y4 := by rw [hb4]; exact hox4 _ (Option.some.inj hres).symm
            have hres := hresO4
            rw [← hy4] at hres
            refine JE.weak (env' := [(1, ptrAt (some ⟨g1, 0, none⟩) 0), (4, .map (some g3)), (9, .slice a1572 x1570.length cp1573), (10, .map (some g1552)), (11, .int .i64 x1558), (12, .int .i64 x1569), (16, .slice a1585 b4.2.length cp1586), (91, .int .i64 (w64 ((w64 (2 * q0.H)) + 1))), (92, .int .i64 x1558)]) (es' := [boxO 28 g1 [.int .i64 q0.W, .int .i64 q0.H, .slice a_0_2 q0.Breaks.length c_0_2], mapR eSPoint 35 eSPoint g3 [] mh13 b1, rowT 61 eHd a1572 x1570.length cp1573 hs1574, innO 35 eSPoint none hs1574 x1570, mapI eSPoint (some g1552) b4.1, rowT 35 eSPoint a1585 b4.2.length cp1586 b4.2]) [0, 1, 2, 3, 4, 5] ?_ ⟨(by subst hb4; rfl), (by subst hb4; rfl), (by subst hb4; rfl), (by subst hb4; rfl), (by subst hb4; rfl), (by subst hb4; rfl), (by subst hb4; rfl), (by subst hb4; rfl), (by subst hb4; rfl), trivial⟩ (by decide) (by subst hb4; rfl)
            refine JE.code ?_
            refine JX.seq ?_
            refine JX.region ?_
            refine JL.val (yl_move rfl) rfl ?_
            obtain ⟨x1614, hx1614, hres⟩ := bind_some hres
            refine JL.eff (ef_callms (caps := []) (vs := [.slice a1585 b4.2.length cp1586, .func (.func 151) #[] #[]]) (T := fun v es1 rs1 => v = .tuple #[] ∧ es1 = [rowT 35 eSPoint a1585 b4.2.length cp1586 x1614] ∧ rs1 = []) [5] [0, 1, 2, 3, 4] [rowT 35 eSPoint a1585 b4.2.length cp1586 b4.2] [boxO 28 g1 [.int .i64 q0.W, .int .i64 q0.H, .slice a_0_2 q0.Breaks.length c_0_2], mapR eSPoint 35 eSPoint g3 [] mh13 b1, rowT 61 eHd a1572 x1570.length cp1573 hs1574, innO 35 eSPoint none hs1574 x1570, mapI eSPoint (some g1552) b4.1] rfl Go.Proofs.Try.func150 rfl (by kernel_rfl) rfl (by decide) rfl rfl (fun w N hF hS => sortf_ad sortPtsK sortPts0 hS rfl hx1614)) rfl ?_
            rintro _ _ ⟨_, _, ⟨rfl, rfl, rfl⟩, rfl⟩
            refine JL.nil ?_
            refine JE.code ?_
            refine JX.region ?_
            refine JL.val (yl_move rfl) rfl ?_
            refine JL.val (yl_move rfl) rfl ?_
            refine JL.eff (ef_buildSlice (E := 61) (k := eHd.k) (us := eHd.fl [⟨a1585, b4.2.length, cp1586⟩]) rfl (fun w => bsl40_1 a1585 b4.2.length cp1586 w) rfl (by decide)) rfl ?_
            rintro _ _ ⟨a1615, rfl, rfl⟩
            obtain ⟨x1617, hx1617, hres⟩ := bind_some hres
            refine JL.eff (ef_appendH (ix := 2) Go.Proofs.Try.underlying40 i61 i61z i61s rfl i61b0 i61b1 rfl rfl (Inn.len hi1575) rfl rfl (fun w hC => rd_row hC 6 rfl) hx1617 hi1575) rfl ?_
            rintro _ _ ⟨a1618, cp1619, rfl, rfl⟩
            refine JL.absorb (es' := [boxO 28 g1 [.int .i64 q0.W, .int .i64 q0.H, .slice a_0_2 q0.Breaks.length c_0_2], mapR eSPoint 35 eSPoint g3 [] mh13 b1, rowT 61 eHd a1618 x1617.length cp1619 (hs1574 ++ [⟨a1585, b4.2.length, cp1586⟩]), mapI eSPoint (some g1552) b4.1, rowT 61 eHd a1615 1 1 [⟨a1585, b4.2.length, cp1586⟩]]) [0, 1, 2, 4, 6, 3, 5] (by decide) rfl (appL_some hx1617).2 ?_
            refine JL.val (yl_assign rfl) rfl ?_
            refine JL.nil ?_
            refine JE.weak (env' := [(1, ptrAt (some ⟨g1, 0, none⟩) 0), (4, .map (some g3)), (9, .slice a1618 x1617.length cp1619), (10, .map (some g1552)), (11, .int .i64 x1558), (12, .int .i64 x1569), (91, .int .i64 (w64 ((w64 (2 * q0.H)) + 1))), (92, .int .i64 x1558)]) (es' := [boxO 28 g1 [.int .i64 q0.W, .int .i64 q0.H, .slice a_0_2 q0.Breaks.length c_0_2], mapR eSPoint 35 eSPoint g3 [] mh13 b1, rowT 61 eHd a1618 x1617.length cp1619 (hs1574 ++ [⟨a1585, b4.2.length, cp1586⟩]), innO 35 eSPoint none (hs1574 ++ [⟨a1585, b4.2.length, cp1586⟩]) x1617, mapI eSPoint (some g1552) b4.1]) [0, 1, 2, 5, 3] ?_ ⟨rfl, rfl, rfl, rfl, rfl, rfl, rfl, rfl, trivial⟩ (by decide) rfl
            refine JE.code ?_
            refine JX.region ?_
            refine JL.val (yl_move rfl) rfl ?_
            refine JL.val (yl_add rfl rfl) rfl ?_
            refine JL.val (yl_assign rfl) rfl ?_
            refine JL.nil ?_
            refine JE.cont hres ?_
            exact fun a w h => ⟨a1618, cp1619, hs1574 ++ [⟨a1585, b4.2.length, cp1586⟩], (Inn.appZ hi1575 (sortW_len hx1614) (appL_some hx1617).2), h.weak ⟨rfl, rfl, (by first | rfl | (simp only [List.length_set]; rfl) | simp only [List.length_set]), rfl, rfl, rfl, rfl, rfl, trivial⟩ [0, 1, 2, 3, 4] (by decide) (by first | rfl | (simp only [List.length_set]; rfl) | simp only [List.length_set])⟩
      · refine JX.condF rfl hb ?_
        refine JX.exit ?_
        refine JE.qb rfl ?_
        obtain ⟨b3, hb3⟩ : ∃ b : List (List SPoint) × (List (SPoint × Int)), b = (x1570, x1571) := ⟨_, rfl⟩
        have hy3 : b3 = y3 := by rw [hb3]; exact hox3 _ (Option.some.inj hres).symm
        have hres := hresO3
        rw [← hy3] at hres
        have hi1623 : Inn hs1574 b3.1 := by subst hb3; exact hi1575
        refine JE.weak (env' := [(1, ptrAt (some ⟨g1, 0, none⟩) 0), (4, .map (some g3)), (9, .slice a1572 b3.1.length cp1573), (10, .map (some g1552)), (91, .int .i64 (w64 ((w64 (2 * q0.H)) + 1))), (92, .int .i64 x1558)]) (es' := [boxO 28 g1 [.int .i64 q0.W, .int .i64 q0.H, .slice a_0_2 q0.Breaks.length c_0_2], mapR eSPoint 35 eSPoint g3 [] mh13 b1, rowT 61 eHd a1572 b3.1.length cp1573 hs1574, innO 35 eSPoint none hs1574 b3.1, mapI eSPoint (some g1552) b3.2]) [0, 1, 2, 3, 4] ?_ ⟨(by subst hb3; rfl), (by subst hb3; rfl), (by subst hb3; first | rfl | (simp only [List.length_set]; rfl) | simp only [List.length_set]), (by subst hb3; rfl), (by subst hb3; rfl), (by subst hb3; rfl), trivial⟩ (by decide) (by subst hb3; first | rfl | (simp only [List.length_set]; rfl) | simp only [List.length_set])
        refine JE.code ?_
        refine JX.region ?_
        refine JL.val (yl_add rfl rfl) rfl ?_
        refine JL.val (yl_move rfl) rfl ?_
        refine JL.nil ?_
        refine JE.cont hres ?_
        exact fun a w h => ⟨a1572, cp1573, hs1574, hi1623, h.weak ⟨rfl, rfl, (by first | rfl | (simp only [List.length_set]; rfl) | simp only [List.length_set]), rfl, rfl, rfl, trivial⟩ [0, 1, 2, 3, 4] (by decide) (by first | rfl | (simp only [List.length_set]; rfl) | simp only [List.length_set])⟩
    · refine JX.condF rfl hb ?_
      refine JX.exit ?_
      refine JE.qb rfl ?_
      obtain ⟨b2, hb2⟩ : ∃ b : List (List SPoint) × (List (SPoint × Int)), b = (x1559, x1560) := ⟨_, rfl⟩
      have hy2 : b2 = y2 := by rw [hb2]; exact hox2 _ (Option.some.inj hres).symm
      have hres := hresO2
      rw [← hy2] at hres
      have hi1627 : Inn hs1563 b2.1 := by subst hb2; exact hi1564
      refine JE.weak (env' := [(9, .slice a1561 b2.1.length cp1562), (10, .map (some g1552))]) (es' := [rowT 61 eHd a1561 b2.1.length cp1562 hs1563, innO 35 eSPoint none hs1563 b2.1, mapI eSPoint (some g1552) b2.2]) [2, 3, 4] ?_ ⟨(by subst hb2; first | rfl | (simp only [List.length_set]; rfl) | simp only [List.length_set]), (by subst hb2; rfl), trivial⟩ (by decide) (by subst hb2; first | rfl | (simp only [List.length_set]; rfl) | simp only [List.length_set])
      refine JE.code ?_
      refine JX.seq ?_
      refine JX.region ?_
      refine JL.val (yl_move rfl) rfl ?_
      refine JL.val (yl_move rfl) rfl ?_
      refine JL.val (yl_assign rfl) rfl ?_
      refine JL.val (yl_assign rfl) rfl ?_
      refine JL.nil ?_
      refine JE.weak (env' := [(2, .slice a1561 b2.1.length cp1562), (3, .map (some g1552))]) (es' := [rowT 61 eHd a1561 b2.1.length cp1562 hs1563, innO 35 eSPoint none hs1563 b2.1, mapI eSPoint (some g1552) b2.2]) [0, 1, 2] ?_ ⟨rfl, rfl, trivial⟩ (by decide) rfl
      refine JE.code ?_
      refine JX.ret ?_
      obtain rfl := Option.some.inj hres
      refine JE.ret (rs := [.tmp 2, .tmp 3]) (vs := [.slice a1561 b2.1.length cp1562, .map (some g1552)]) rfl ⟨rfl, rfl, trivial⟩ ?_
      exact fun w' hb hs => ⟨_, _, ⟨a1561, b2.1.length, cp1562, hs1563, rfl, hi1627, (some g1552), rfl, rfl⟩, rfl, hb, hs.sel [0, 1, 2] _ (by decide) rfl⟩

/- impl.RegionsOf -/
def sh26 (q0 : SPanel) : Option (List (List SPoint) × Int) := Option.bind (sh86 q0) fun x3 => bif !x3 then (some (([] : List (List SPoint)), 1)) else (Option.bind (sh88 q0) fun x6 => some (x6.1, 0))
def T26 (r : List (List SPoint) × Int) (v : Value) (rs : List Own) : Prop := ∃ (a0 : Option Addr) (n0 c0 : Nat) (h0 : List Hd), r.1.length = n0 ∧ Inn h0 r.1 ∧ v = rets [.slice a0 n0 c0, .int .i64 r.2] ∧ rs = [rowT 61 eHd a0 n0 c0 h0, innO 35 eSPoint none h0 r.1]
set_option maxRecDepth 100000 in
theorem c26 {w : World} {q0 : SPanel} {a_0_2 : Option Addr} {n_0_2 c_0_2 : Nat} (g_0_2 : Rd w a_0_2 (eI64.fl q0.Breaks)) (l_0_2 : q0.Breaks.length = n_0_2) (k_0_2 : n_0_2 ≤ c_0_2) {r : List (List SPoint) × Int} (hres : sh26 q0 = some r) : Calls Go.Proofs.Try.prog 26 [.agg #[.int .i64 q0.W, .int .i64 q0.H, .slice a_0_2 n_0_2 c_0_2]].toArray w (Ret w (T26 r)) := by
  subst l_0_2
  unfold sh26 at hres
  refine calls_of (n := 15) (M := []) (es := []) Go.Proofs.Try.func26 rfl rfl rfl (Sep.nil _ _ _) ?_
  refine JX.seq ?_
  refine JX.region ?_
  refine JL.eff (ef_box rfl rfl) rfl ?_
  rintro _ _ ⟨g1, rfl, rfl⟩
  refine JL.val (yl_assign rfl) rfl ?_
  refine JL.val (yl_assign rfl) rfl ?_
  refine JL.nil ?_
  refine JE.code ?_
  refine JX.seq ?_
  refine JX.seq ?_
  refine JX.region ?_
  refine JL.val (yl_loadn Go.Proofs.Try.underlying28 rfl i28 rfl (fun w hC => rd_box hC 0 rfl) rfl (i28s).symm i28p) rfl ?_
  obtain ⟨x3, hx3, hres⟩ := bind_some hres
  refine JL.eff (ef_call (vs := [.agg #[.int .i64 q0.W, .int .i64 q0.H, .slice a_0_2 q0.Breaks.length c_0_2]]) (T := T86 x3) Go.Proofs.Try.func86 rfl (by kernel_rfl) rfl (fun w hC => c86 (q0 := q0) (rd_arg g_0_2 hC) rfl k_0_2 hx3)) rfl ?_
  rintro _ _ ⟨_, ⟨rfl, rfl⟩, rfl⟩
  refine JL.val (yl_not rfl) rfl ?_
  refine JL.nil ?_
  refine JE.code ?_
  rcases cond_some hres with ⟨hb, hres⟩ | ⟨hb, hres⟩
  · refine JX.condT rfl hb ?_
    refine JX.seq ?_
    refine JX.region ?_
    refine JL.val (yl_assign rfl) rfl ?_
    refine JL.val (yl_assign rfl) rfl ?_
    refine JL.nil ?_
    refine JE.weak (env' := [(2, .slice none 0 0), (3, .int .i64 1)]) (es' := []) [] ?_ ⟨rfl, rfl, trivial⟩ (by decide) rfl
    refine JE.code ?_
    refine JX.ret ?_
    refine JE.nilrow 61 eHd ?_
    refine JE.nilinn 35 eSPoint ?_
    obtain rfl := Option.some.inj hres
    refine JE.ret (rs := [.tmp 2, .tmp 3]) (vs := [.slice none 0 0, .int .i64 1]) rfl ⟨rfl, rfl, trivial⟩ ?_
    exact fun w' hb hs => ⟨_, _, ⟨none, 0, 0, ([] : List Hd), ((Inn.len (Inn.nil (T := SPoint))).symm.trans rfl), (Inn.nil (T := SPoint)), rfl, rfl⟩, rfl, hb, hs.sel [0, 1] _ (by decide) rfl⟩
  · refine JX.condF rfl hb ?_
    refine JX.skip ?_
    refine JE.code ?_
    refine JX.seq ?_
    refine JX.region ?_
    refine JL.val (yl_loadn Go.Proofs.Try.underlying28 rfl i28 rfl (fun w hC => rd_box hC 0 rfl) rfl (i28s).symm i28p) rfl ?_
    obtain ⟨x6, hx6, hres⟩ := bind_some hres
    refine JL.eff (ef_call (vs := [.agg #[.int .i64 q0.W, .int .i64 q0.H, .slice a_0_2 q0.Breaks.length c_0_2]]) (T := T88 x6) Go.Proofs.Try.func88 rfl (by kernel_rfl) rfl (fun w hC => c88 (q0 := q0) (rd_arg g_0_2 hC) rfl k_0_2 hx6)) rfl ?_
    rintro _ _ ⟨_, ⟨a7, _, cp8, hs10, rfl, hi11, o13, rfl, rfl⟩, rfl⟩
    refine JL.val (yl_move rfl) rfl ?_
    refine JL.val (yl_extract rfl rfl) rfl ?_
    refine JL.val (yl_extract rfl rfl) rfl ?_
    refine JL.val (yl_assign rfl) rfl ?_
    refine JL.val (yl_assign rfl) rfl ?_
    refine JL.nil ?_
    refine JE.weak (env' := [(4, .slice a7 x6.1.length cp8)]) (es' := [rowT 61 eHd a7 x6.1.length cp8 hs10, innO 35 eSPoint none hs10 x6.1]) [1, 2] ?_ ⟨rfl, trivial⟩ (by decide) rfl
    refine JE.code ?_
    refine JX.seq ?_
    refine JX.region ?_
    refine JL.val (yl_move rfl) rfl ?_
    refine JL.val (yl_assign rfl) rfl ?_
    refine JL.val (yl_assign rfl) rfl ?_
    refine JL.nil ?_
    refine JE.code ?_
    refine JX.ret ?_
    obtain rfl := Option.some.inj hres
    refine JE.ret (rs := [.tmp 2, .tmp 3]) (vs := [.slice a7 x6.1.length cp8, .int .i64 0]) rfl ⟨rfl, rfl, trivial⟩ ?_
    exact fun w' hb hs => ⟨_, _, ⟨a7, x6.1.length, cp8, hs10, rfl, hi11, rfl, rfl⟩, rfl, hb, hs.sel [0, 1] _ (by decide) rfl⟩

/- impl.CountRegions -/
def sh18 (q0 : SPanel) : Option (Int × Int) := Option.bind (sh26 q0) fun x3 => some (((x3.1.length : Nat) : Int), x3.2)
def T18 (r : Int × Int) (v : Value) (rs : List Own) : Prop := v = rets [.int .i64 r.1, .int .i64 r.2] ∧ rs = []
set_option maxRecDepth 100000 in
theorem c18 {w : World} {q0 : SPanel} {a_0_2 : Option Addr} {n_0_2 c_0_2 : Nat} (g_0_2 : Rd w a_0_2 (eI64.fl q0.Breaks)) (l_0_2 : q0.Breaks.length = n_0_2) (k_0_2 : n_0_2 ≤ c_0_2) {r : Int × Int} (hres : sh18 q0 = some r) : Calls Go.Proofs.Try.prog 18 [.agg #[.int .i64 q0.W, .int .i64 q0.H, .slice a_0_2 n_0_2 c_0_2]].toArray w (Ret w (T18 r)) := by
  subst l_0_2
  unfold sh18 at hres
  refine calls_of (n := 14) (M := []) (es := []) Go.Proofs.Try.func18 rfl rfl rfl (Sep.nil _ _ _) ?_
  refine JX.seq ?_
  refine JX.region ?_
  refine JL.eff (ef_box rfl rfl) rfl ?_
  rintro _ _ ⟨g1, rfl, rfl⟩
  refine JL.val (yl_assign rfl) rfl ?_
  refine JL.val (yl_assign rfl) rfl ?_
  refine JL.nil ?_
  refine JE.code ?_
  refine JX.seq ?_
  refine JX.region ?_
  refine JL.val (yl_loadn Go.Proofs.Try.underlying28 rfl i28 rfl (fun w hC => rd_box hC 0 rfl) rfl (i28s).symm i28p) rfl ?_
  obtain ⟨x3, hx3, hres⟩ := bind_some hres
  refine JL.eff (ef_call (vs := [.agg #[.int .i64 q0.W, .int .i64 q0.H, .slice a_0_2 q0.Breaks.length c_0_2]]) (T := T26 x3) Go.Proofs.Try.func26 rfl (by kernel_rfl) rfl (fun w hC => c26 (q0 := q0) (rd_arg g_0_2 hC) rfl k_0_2 hx3)) rfl ?_
  rintro _ _ ⟨_, ⟨a4, _, cp5, hs7, rfl, hi8, rfl, rfl⟩, rfl⟩
  refine JL.val (yl_move rfl) rfl ?_
  refine JL.val (yl_extract rfl rfl) rfl ?_
  refine JL.val (yl_extract rfl rfl) rfl ?_
  refine JL.val (yl_assign rfl) rfl ?_
  refine JL.val (yl_assign rfl) rfl ?_
  refine JL.nil ?_
  refine JE.weak (env' := [(4, .slice a4 x3.1.length cp5), (5, .int .i64 x3.2)]) (es' := [rowT 61 eHd a4 x3.1.length cp5 hs7, innO 35 eSPoint none hs7 x3.1]) [1, 2] ?_ ⟨rfl, rfl, trivial⟩ (by decide) rfl
  refine JE.code ?_
  refine JX.seq ?_
  refine JX.region ?_
  refine JL.val (yl_move rfl) rfl ?_
  refine JL.val (yl_len_slice Go.Proofs.Try.underlying40 rfl) rfl ?_
  refine JL.val (yl_move rfl) rfl ?_
  refine JL.val (yl_assign rfl) rfl ?_
  refine JL.val (yl_assign rfl) rfl ?_
  refine JL.nil ?_
  refine JE.weak (env' := [(2, .int .i64 ((x3.1.length : Nat) : Int)), (3, .int .i64 x3.2)]) (es' := []) [] ?_ ⟨rfl, rfl, trivial⟩ (by decide) rfl
  refine JE.code ?_
  refine JX.ret ?_
  obtain rfl := Option.some.inj hres
  refine JE.ret (rs := [.tmp 2, .tmp 3]) (vs := [.int .i64 ((x3.1.length : Nat) : Int), .int .i64 x3.2]) rfl ⟨rfl, rfl, trivial⟩ ?_
  exact fun w' hb hs => ⟨_, _, ⟨rfl, rfl⟩, rfl, hb, hs.sel [] _ (by decide) rfl⟩

/- spec.RegionAt -/
def sh20 (q0 : SPanel) (q1 : SPoint) : Option (Int × Int) := Option.bind (sh82 q0) fun x5 => bif !x5 then (some (0, 1)) else (Option.bind (sh84 q0 q1) fun x6 => bif !x6 then (some (0, 2)) else (Option.bind (sh83 q0) fun x7 => Option.bind (sh85 q0 q1) fun x17 => Option.bind (getI x7.2 x17) fun x18 => some (x18, 0)))
def T20 (r : Int × Int) (v : Value) (rs : List Own) : Prop := v = rets [.int .i64 r.1, .int .i64 r.2] ∧ rs = []
set_option maxRecDepth 100000 in
theorem c20 {w : World} {q0 : SPanel} {a_0_2 : Option Addr} {n_0_2 c_0_2 : Nat} (g_0_2 : Rd w a_0_2 (eI64.fl q0.Breaks)) (l_0_2 : q0.Breaks.length = n_0_2) (k_0_2 : n_0_2 ≤ c_0_2) {q1 : SPoint} {r : Int × Int} (hres : sh20 q0 q1 = some r) : Calls Go.Proofs.Try.prog 20 [.agg #[.int .i64 q0.W, .int .i64 q0.H, .slice a_0_2 n_0_2 c_0_2], .agg #[.int .i64 q1.X, .int .i64 q1.Y]].toArray w (Ret w (T20 r)) := by
  subst l_0_2
  unfold sh20 at hres
  refine calls_of (n := 22) (M := []) (es := []) Go.Proofs.Try.func20 rfl rfl rfl (Sep.nil _ _ _) ?_
  refine JX.seq ?_
  refine JX.region ?_
  refine JL.eff (ef_box rfl rfl) rfl ?_
  rintro _ _ ⟨g1, rfl, rfl⟩
  refine JL.eff (ef_box rfl rfl) rfl ?_
  rintro _ _ ⟨g3, rfl, rfl⟩
  refine JL.val (yl_assign rfl) rfl ?_
  refine JL.val (yl_assign rfl) rfl ?_
  refine JL.nil ?_
  refine JE.weak (env' := [(2, ptrAt (some ⟨g1, 0, none⟩) 0), (3, ptrAt (some ⟨g3, 0, none⟩) 0)]) (es' := [boxO 28 g1 [.int .i64 q0.W, .int .i64 q0.H, .slice a_0_2 q0.Breaks.length c_0_2], boxO 35 g3 [.int .i64 q1.X, .int .i64 q1.Y]]) [0, 1] ?_ ⟨rfl, rfl, trivial⟩ (by decide) rfl
  refine JE.code ?_
  refine JX.seq ?_
  refine JX.seq ?_
  refine JX.region ?_
  obtain ⟨x5, hx5, hres⟩ := bind_some hres
  refine JL.eff (ef_call (T := T82 x5) Go.Proofs.Try.func82 rfl (by kernel_rfl) rfl (fun w hC => c82 (RdAt.of0 (rd_box hC 0 rfl)) (rd_arg g_0_2 hC) rfl k_0_2 hx5)) rfl ?_
  rintro _ _ ⟨_, ⟨rfl, rfl⟩, rfl⟩
  refine JL.val (yl_not rfl) rfl ?_
  refine JL.nil ?_
  refine JE.code ?_
  rcases cond_some hres with ⟨hb, hres⟩ | ⟨hb, hres⟩
  · refine JX.condT rfl hb ?_
    refine JX.seq ?_
    refine JX.region ?_
    refine JL.val (yl_assign rfl) rfl ?_
    refine JL.val (yl_assign rfl) rfl ?_
    refine JL.nil ?_
    refine JE.weak (env' := [(4, .int .i64 0), (5, .int .i64 1)]) (es' := []) [] ?_ ⟨rfl, rfl, trivial⟩ (by decide) rfl
    refine JE.code ?_
    refine JX.ret ?_
    obtain rfl := Option.some.inj hres
    refine JE.ret (rs := [.tmp 4, .tmp 5]) (vs := [.int .i64 0, .int .i64 1]) rfl ⟨rfl, rfl, trivial⟩ ?_
    exact fun w' hb hs => ⟨_, _, ⟨rfl, rfl⟩, rfl, hb, hs.sel [] _ (by decide) rfl⟩
  · refine JX.condF rfl hb ?_
    refine JX.skip ?_
    refine JE.code ?_
    refine JX.seq ?_
    refine JX.seq ?_
    refine JX.region ?_
    refine JL.val (yl_loadn Go.Proofs.Try.underlying35 rfl i35 rfl (fun w hC => rd_box hC 1 rfl) rfl (i35s).symm i35p) rfl ?_
    obtain ⟨x6, hx6, hres⟩ := bind_some hres
    refine JL.eff (ef_call (vs := [ptrAt (some ⟨g1, 0, none⟩) 0, .agg #[.int .i64 q1.X, .int .i64 q1.Y]]) (T := T84 x6) Go.Proofs.Try.func84 rfl (by kernel_rfl) rfl (fun w hC => c84 (q1 := q1) (RdAt.of0 (rd_box hC 0 rfl)) (rd_arg g_0_2 hC) rfl k_0_2 hx6)) rfl ?_
    rintro _ _ ⟨_, ⟨rfl, rfl⟩, rfl⟩
    refine JL.val (yl_not rfl) rfl ?_
    refine JL.nil ?_
    refine JE.code ?_
    rcases cond_some hres with ⟨hb, hres⟩ | ⟨hb, hres⟩
    · refine JX.condT rfl hb ?_
      refine JX.seq ?_
      refine JX.region ?_
      refine JL.val (yl_assign rfl) rfl ?_
      refine JL.val (yl_assign rfl) rfl ?_
      refine JL.nil ?_
      refine JE.weak (env' := [(4, .int .i64 0), (5, .int .i64 2)]) (es' := []) [] ?_ ⟨rfl, rfl, trivial⟩ (by decide) rfl
      refine JE.code ?_
      refine JX.ret ?_
      obtain rfl := Option.some.inj hres
      refine JE.ret (rs := [.tmp 4, .tmp 5]) (vs := [.int .i64 0, .int .i64 2]) rfl ⟨rfl, rfl, trivial⟩ ?_
      exact fun w' hb hs => ⟨_, _, ⟨rfl, rfl⟩, rfl, hb, hs.sel [] _ (by decide) rfl⟩
    · refine JX.condF rfl hb ?_
      refine JX.skip ?_
      refine JE.code ?_
      refine JX.seq ?_
      refine JX.region ?_
      obtain ⟨x7, hx7, hres⟩ := bind_some hres
      refine JL.eff (ef_call (T := T83 x7) Go.Proofs.Try.func83 rfl (by kernel_rfl) rfl (fun w hC => c83 (RdAt.of0 (rd_box hC 0 rfl)) (rd_arg g_0_2 hC) rfl k_0_2 hx7)) rfl ?_
      rintro _ _ ⟨_, ⟨a8, _, cp9, hs11, rfl, hi12, a14, _, cp15, rfl, rfl, rfl⟩, rfl⟩
      refine JL.val (yl_move rfl) rfl ?_
      refine JL.val (yl_extract rfl rfl) rfl ?_
      refine JL.val (yl_extract rfl rfl) rfl ?_
      refine JL.val (yl_assign rfl) rfl ?_
      refine JL.val (yl_assign rfl) rfl ?_
      refine JL.nil ?_
      refine JE.weak (env' := [(2, ptrAt (some ⟨g1, 0, none⟩) 0), (3, ptrAt (some ⟨g3, 0, none⟩) 0), (7, .slice a14 x7.2.length cp15)]) (es' := [boxO 28 g1 [.int .i64 q0.W, .int .i64 q0.H, .slice a_0_2 q0.Breaks.length c_0_2], boxO 35 g3 [.int .i64 q1.X, .int .i64 q1.Y], rowT 2 eI64 a14 x7.2.length cp15 x7.2]) [0, 1, 4] ?_ ⟨rfl, rfl, rfl, trivial⟩ (by decide) rfl
      refine JE.code ?_
      refine JX.seq ?_
      refine JX.region ?_
      refine JL.val (yl_move rfl) rfl ?_
      refine JL.val (yl_loadn Go.Proofs.Try.underlying35 rfl i35 rfl (fun w hC => rd_box hC 1 rfl) rfl (i35s).symm i35p) rfl ?_
      obtain ⟨x17, hx17, hres⟩ := bind_some hres
      refine JL.eff (ef_call (vs := [ptrAt (some ⟨g1, 0, none⟩) 0, .agg #[.int .i64 q1.X, .int .i64 q1.Y]]) (T := T85 x17) Go.Proofs.Try.func85 rfl (by kernel_rfl) rfl (fun w hC => c85 (q1 := q1) (RdAt.of0 (rd_box hC 0 rfl)) (rd_arg g_0_2 hC) rfl k_0_2 hx17)) rfl ?_
      rintro _ _ ⟨_, ⟨rfl, rfl⟩, rfl⟩
      obtain ⟨x18, hx18, hres⟩ := bind_some hres
      refine JL.val (yl_idxT Go.Proofs.Try.underlying22 i2 i2s rfl rfl hx18 rfl (fun w hC => rd_row hC 2 rfl)) rfl ?_
      refine JL.val (yl_loadT0 Go.Proofs.Try.underlying2 rfl rfl hx18 (fun w hC => rd_row hC 2 rfl) rfl) rfl ?_
      refine JL.val (yl_assign rfl) rfl ?_
      refine JL.val (yl_assign rfl) rfl ?_
      refine JL.nil ?_
      refine JE.weak (env' := [(4, .int .i64 x18), (5, .int .i64 0)]) (es' := []) [] ?_ ⟨rfl, rfl, trivial⟩ (by decide) rfl
      refine JE.code ?_
      refine JX.ret ?_
      obtain rfl := Option.some.inj hres
      refine JE.ret (rs := [.tmp 4, .tmp 5]) (vs := [.int .i64 x18, .int .i64 0]) rfl ⟨rfl, rfl, trivial⟩ ?_
      exact fun w' hb hs => ⟨_, _, ⟨rfl, rfl⟩, rfl, hb, hs.sel [] _ (by decide) rfl⟩

/- (impl.Panel).isRegionPlace -/
def sh87 (q0 : SPanel) (q1 : SPoint) : Option (Bool) := Option.bind (sh125 q1.X 0 (w64 (2 * q0.W))) fun x5 => Option.bind (bif x5 then (Option.bind (sh125 q1.Y 0 (w64 (2 * q0.H))) fun x7 => some x7) else (some false)) fun cb6 => (some (cb6 && (((w64 (q1.X + q1.Y)).tmod 2) == 0)))
def T87 (r : Bool) (v : Value) (rs : List Own) : Prop := v = rets [.bool r] ∧ rs = []
set_option maxRecDepth 100000 in
theorem c87 {w : World} {q0 : SPanel} {a_0_2 : Option Addr} {n_0_2 c_0_2 : Nat} (g_0_2 : Rd w a_0_2 (eI64.fl q0.Breaks)) (l_0_2 : q0.Breaks.length = n_0_2) (k_0_2 : n_0_2 ≤ c_0_2) {q1 : SPoint} {r : Bool} (hres : sh87 q0 q1 = some r) : Calls Go.Proofs.Try.prog 87 [.agg #[.int .i64 q0.W, .int .i64 q0.H, .slice a_0_2 n_0_2 c_0_2], .agg #[.int .i64 q1.X, .int .i64 q1.Y]].toArray w (Ret w (T87 r)) := by
  subst l_0_2
  unfold sh87 at hres
  refine calls_of (n := 28) (M := []) (es := []) Go.Proofs.Try.func87 rfl rfl rfl (Sep.nil _ _ _) ?_
  refine JX.seq ?_
  refine JX.region ?_
  refine JL.eff (ef_box rfl rfl) rfl ?_
  rintro _ _ ⟨g1, rfl, rfl⟩
  refine JL.eff (ef_box rfl rfl) rfl ?_
  rintro _ _ ⟨g3, rfl, rfl⟩
  refine JL.val (yl_assign rfl) rfl ?_
  refine JL.nil ?_
  refine JE.code ?_
  refine JX.seq ?_
  refine JX.region ?_
  refine JL.val (yl_fieldAt (a := some _) Go.Proofs.Try.underlying35 rfl i2 i2n rfl rfl) rfl ?_
  refine JL.val (yl_load1 Go.Proofs.Try.underlying2 rfl rfl (fun w hC => rd_box hC 1 rfl) rfl) rfl ?_
  refine JL.val (yl_fieldAt (a := some _) Go.Proofs.Try.underlying28 rfl i2 i2n rfl rfl) rfl ?_
  refine JL.val (yl_load1 Go.Proofs.Try.underlying2 rfl rfl (fun w hC => rd_box hC 0 rfl) rfl) rfl ?_
  refine JL.val (yl_mul rfl rfl) rfl ?_
  obtain ⟨x5, hx5, hres⟩ := bind_some hres
  refine JL.eff (ef_call (T := T125 x5) Go.Proofs.Try.func125 rfl (by kernel_rfl) rfl (fun w hC => c125  hx5)) rfl ?_
  rintro _ _ ⟨_, ⟨rfl, rfl⟩, rfl⟩
  refine JL.val (yl_move rfl) rfl ?_
  obtain ⟨cb6, hcb6, hres⟩ := bind_some hres
  refine JL.cut (K := fun J => J [(3, ptrAt (some ⟨g3, 0, none⟩) 0), (18, .bool cb6)] [boxO 35 g3 [.int .i64 q1.X, .int .i64 q1.Y]]) 7 ?_ ?_
  · refine JL.val (yl_move rfl) rfl ?_
    refine JL.cut (K := fun J => J [(27, .bool (cb6 && (((w64 (q1.X + q1.Y)).tmod 2) == 0)))] []) 8 ?_ ?_
    · refine JL.val (yl_assign rfl) rfl ?_
      refine JL.nil ?_
      refine JE.weak (env' := [(4, .bool (cb6 && (((w64 (q1.X + q1.Y)).tmod 2) == 0)))]) (es' := []) [] ?_ ⟨rfl, trivial⟩ (by decide) rfl
      refine JE.code ?_
      refine JX.ret ?_
      obtain rfl := Option.some.inj hres
      refine JE.ret (rs := [.tmp 4]) (vs := [.bool (cb6 && (((w64 (q1.X + q1.Y)).tmod 2) == 0))]) rfl ⟨rfl, trivial⟩ ?_
      exact fun w' hb hs => ⟨_, _, ⟨rfl, rfl⟩, rfl, hb, hs.sel [] _ (by decide) rfl⟩
    · intro K
      rcases Bool.eq_false_or_eq_true (cb6) with hb | hb
      · refine JL.set (d := 19) (v := .bool true) (congrArg (fun b => some (Value.bool b)) hb) ?_
        refine JL.gval rfl rfl (yl_fieldAt (a := some _) Go.Proofs.Try.underlying35 rfl i2 i2n rfl rfl) rfl ?_
        refine JL.gval rfl rfl (yl_load1 Go.Proofs.Try.underlying2 rfl rfl (fun w hC => rd_box hC 0 rfl) rfl) rfl ?_
        refine JL.gval rfl rfl (yl_fieldAt (a := some _) Go.Proofs.Try.underlying35 rfl i2 i2n rfl rfl) rfl ?_
        refine JL.gval rfl rfl (yl_load1 Go.Proofs.Try.underlying2 rfl rfl (fun w hC => rd_box hC 0 rfl) rfl) rfl ?_
        refine JL.gval rfl rfl (yl_add rfl rfl) rfl ?_
        refine JL.gval rfl rfl (yl_rem rfl rfl (by decide)) rfl ?_
        refine JL.gval rfl rfl (yl_eql rfl rfl) rfl ?_
        refine JL.val (yl_pick_true rfl rfl) rfl ?_
        exact JL.weak [] K ⟨(by rw [hb]; rfl), trivial⟩ (by decide) rfl
      · refine JL.set (d := 19) (v := .bool false) (congrArg (fun b => some (Value.bool b)) hb) ?_
        refine JL.gskip rfl rfl rfl rfl ?_
        refine JL.gskip rfl rfl rfl rfl ?_
        refine JL.gskip rfl rfl rfl rfl ?_
        refine JL.gskip rfl rfl rfl rfl ?_
        refine JL.gskip rfl rfl rfl rfl ?_
        refine JL.gskip rfl rfl rfl rfl ?_
        refine JL.gskip rfl rfl rfl rfl ?_
        refine JL.val (yl_pick_false rfl rfl) rfl ?_
        exact JL.weak [] K ⟨(by rw [hb]; rfl), trivial⟩ (by decide) rfl
  · intro K
    rcases cond_some hcb6 with ⟨hb, hres⟩ | ⟨hb, hres⟩
    · refine JL.set (d := 11) (v := .bool true) (congrArg (fun b => some (Value.bool b)) hb) ?_
      refine JL.gval rfl rfl (yl_fieldAt (a := some _) Go.Proofs.Try.underlying35 rfl i2 i2n rfl rfl) rfl ?_
      refine JL.gval rfl rfl (yl_load1 Go.Proofs.Try.underlying2 rfl rfl (fun w hC => rd_box hC 1 rfl) rfl) rfl ?_
      refine JL.gval rfl rfl (yl_fieldAt (a := some _) Go.Proofs.Try.underlying28 rfl i2 i2n rfl rfl) rfl ?_
      refine JL.gval rfl rfl (yl_load1 Go.Proofs.Try.underlying2 rfl rfl (fun w hC => rd_box hC 0 rfl) rfl) rfl ?_
      refine JL.gval rfl rfl (yl_mul rfl rfl) rfl ?_
      obtain ⟨x7, hx7, hres⟩ := bind_some hres
      refine JL.geff rfl rfl (ef_call (T := T125 x7) Go.Proofs.Try.func125 rfl (by kernel_rfl) rfl (fun w hC => c125  hx7)) rfl ?_
      rintro _ _ ⟨_, ⟨rfl, rfl⟩, rfl⟩
      refine JL.val (yl_pick_true rfl rfl) rfl ?_
      have he := Option.some.inj hres
      exact JL.weak [1] K ⟨rfl, (by rw [← he]; rfl), trivial⟩ (by decide) rfl
    · refine JL.set (d := 11) (v := .bool false) (congrArg (fun b => some (Value.bool b)) hb) ?_
      refine JL.gskip rfl rfl rfl rfl ?_
      refine JL.gskip rfl rfl rfl rfl ?_
      refine JL.gskip rfl rfl rfl rfl ?_
      refine JL.gskip rfl rfl rfl rfl ?_
      refine JL.gskip rfl rfl rfl rfl ?_
      refine JL.gskip rfl rfl rfl rfl ?_
      refine JL.val (yl_pick_false rfl rfl) rfl ?_
      have he := Option.some.inj hres
      exact JL.weak [1] K ⟨rfl, (by rw [← he]; rfl), trivial⟩ (by decide) rfl

/- impl.RegionAt -/
def sh22 (q0 : SPanel) (q1 : SPoint) : Option (Int × Int) := Option.bind (sh86 q0) fun x5 => bif !x5 then (some (0, 1)) else (Option.bind (sh87 q0 q1) fun x6 => bif !x6 then (some (0, 2)) else (Option.bind (sh88 q0) fun x7 => some ((mfind x7.2 q1).getD 0, 0)))
def T22 (r : Int × Int) (v : Value) (rs : List Own) : Prop := v = rets [.int .i64 r.1, .int .i64 r.2] ∧ rs = []
set_option maxRecDepth 100000 in
theorem c22 {w : World} {q0 : SPanel} {a_0_2 : Option Addr} {n_0_2 c_0_2 : Nat} (g_0_2 : Rd w a_0_2 (eI64.fl q0.Breaks)) (l_0_2 : q0.Breaks.length = n_0_2) (k_0_2 : n_0_2 ≤ c_0_2) {q1 : SPoint} {r : Int × Int} (hres : sh22 q0 q1 = some r) : Calls Go.Proofs.Try.prog 22 [.agg #[.int .i64 q0.W, .int .i64 q0.H, .slice a_0_2 n_0_2 c_0_2], .agg #[.int .i64 q1.X, .int .i64 q1.Y]].toArray w (Ret w (T22 r)) := by
  subst l_0_2
  unfold sh22 at hres
  refine calls_of (n := 23) (M := []) (es := []) Go.Proofs.Try.func22 rfl rfl rfl (Sep.nil _ _ _) ?_
  refine JX.seq ?_
  refine JX.region ?_
  refine JL.eff (ef_box rfl rfl) rfl ?_
  rintro _ _ ⟨g1, rfl, rfl⟩
  refine JL.eff (ef_box rfl rfl) rfl ?_
  rintro _ _ ⟨g3, rfl, rfl⟩
  refine JL.val (yl_assign rfl) rfl ?_
  refine JL.val (yl_assign rfl) rfl ?_
  refine JL.nil ?_
  refine JE.weak (env' := [(2, ptrAt (some ⟨g1, 0, none⟩) 0), (3, ptrAt (some ⟨g3, 0, none⟩) 0)]) (es' := [boxO 28 g1 [.int .i64 q0.W, .int .i64 q0.H, .slice a_0_2 q0.Breaks.length c_0_2], boxO 35 g3 [.int .i64 q1.X, .int .i64 q1.Y]]) [0, 1] ?_ ⟨rfl, rfl, trivial⟩ (by decide) rfl
  refine JE.code ?_
  refine JX.seq ?_
  refine JX.seq ?_
  refine JX.region ?_
  refine JL.val (yl_loadn Go.Proofs.Try.underlying28 rfl i28 rfl (fun w hC => rd_box hC 0 rfl) rfl (i28s).symm i28p) rfl ?_
  obtain ⟨x5, hx5, hres⟩ := bind_some hres
  refine JL.eff (ef_call (vs := [.agg #[.int .i64 q0.W, .int .i64 q0.H, .slice a_0_2 q0.Breaks.length c_0_2]]) (T := T86 x5) Go.Proofs.Try.func86 rfl (by kernel_rfl) rfl (fun w hC => c86 (q0 := q0) (rd_arg g_0_2 hC) rfl k_0_2 hx5)) rfl ?_
  rintro _ _ ⟨_, ⟨rfl, rfl⟩, rfl⟩
  refine JL.val (yl_not rfl) rfl ?_
  refine JL.nil ?_
  refine JE.code ?_
  rcases cond_some hres with ⟨hb, hres⟩ | ⟨hb, hres⟩
  · refine JX.condT rfl hb ?_
    refine JX.seq ?_
    refine JX.region ?_
    refine JL.val (yl_assign rfl) rfl ?_
    refine JL.val (yl_assign rfl) rfl ?_
    refine JL.nil ?_
    refine JE.weak (env' := [(4, .int .i64 0), (5, .int .i64 1)]) (es' := []) [] ?_ ⟨rfl, rfl, trivial⟩ (by decide) rfl
    refine JE.code ?_
    refine JX.ret ?_
    obtain rfl := Option.some.inj hres
    refine JE.ret (rs := [.tmp 4, .tmp 5]) (vs := [.int .i64 0, .int .i64 1]) rfl ⟨rfl, rfl, trivial⟩ ?_
    exact fun w' hb hs => ⟨_, _, ⟨rfl, rfl⟩, rfl, hb, hs.sel [] _ (by decide) rfl⟩
  · refine JX.condF rfl hb ?_
    refine JX.skip ?_
    refine JE.code ?_
    refine JX.seq ?_
    refine JX.seq ?_
    refine JX.region ?_
    refine JL.val (yl_loadn Go.Proofs.Try.underlying28 rfl i28 rfl (fun w hC => rd_box hC 0 rfl) rfl (i28s).symm i28p) rfl ?_
    refine JL.val (yl_loadn Go.Proofs.Try.underlying35 rfl i35 rfl (fun w hC => rd_box hC 1 rfl) rfl (i35s).symm i35p) rfl ?_
    obtain ⟨x6, hx6, hres⟩ := bind_some hres
    refine JL.eff (ef_call (vs := [.agg #[.int .i64 q0.W, .int .i64 q0.H, .slice a_0_2 q0.Breaks.length c_0_2], .agg #[.int .i64 q1.X, .int .i64 q1.Y]]) (T := T87 x6) Go.Proofs.Try.func87 rfl (by kernel_rfl) rfl (fun w hC => c87 (q0 := q0) (q1 := q1) (rd_arg g_0_2 hC) rfl k_0_2 hx6)) rfl ?_
    rintro _ _ ⟨_, ⟨rfl, rfl⟩, rfl⟩
    refine JL.val (yl_not rfl) rfl ?_
    refine JL.nil ?_
    refine JE.weak (env' := [(2, ptrAt (some ⟨g1, 0, none⟩) 0), (3, ptrAt (some ⟨g3, 0, none⟩) 0), (14, .bool !x6)]) (es' := [boxO 28 g1 [.int .i64 q0.W, .int .i64 q0.H, .slice a_0_2 q0.Breaks.length c_0_2], boxO 35 g3 [.int .i64 q1.X, .int .i64 q1.Y]]) [0, 1] ?_ ⟨rfl, rfl, rfl, trivial⟩ (by decide) rfl
    refine JE.code ?_
    rcases cond_some hres with ⟨hb, hres⟩ | ⟨hb, hres⟩
    · refine JX.condT rfl hb ?_
      refine JX.seq ?_
      refine JX.region ?_
      refine JL.val (yl_assign rfl) rfl ?_
      refine JL.val (yl_assign rfl) rfl ?_
      refine JL.nil ?_
      refine JE.weak (env' := [(4, .int .i64 0), (5, .int .i64 2)]) (es' := []) [] ?_ ⟨rfl, rfl, trivial⟩ (by decide) rfl
      refine JE.code ?_
      refine JX.ret ?_
      obtain rfl := Option.some.inj hres
      refine JE.ret (rs := [.tmp 4, .tmp 5]) (vs := [.int .i64 0, .int .i64 2]) rfl ⟨rfl, rfl, trivial⟩ ?_
      exact fun w' hb hs => ⟨_, _, ⟨rfl, rfl⟩, rfl, hb, hs.sel [] _ (by decide) rfl⟩
    · refine JX.condF rfl hb ?_
      refine JX.skip ?_
      refine JE.code ?_
      refine JX.seq ?_
      refine JX.region ?_
      refine JL.val (yl_loadn Go.Proofs.Try.underlying28 rfl i28 rfl (fun w hC => rd_box hC 0 rfl) rfl (i28s).symm i28p) rfl ?_
      obtain ⟨x7, hx7, hres⟩ := bind_some hres
      refine JL.eff (ef_call (vs := [.agg #[.int .i64 q0.W, .int .i64 q0.H, .slice a_0_2 q0.Breaks.length c_0_2]]) (T := T88 x7) Go.Proofs.Try.func88 rfl (by kernel_rfl) rfl (fun w hC => c88 (q0 := q0) (rd_arg g_0_2 hC) rfl k_0_2 hx7)) rfl ?_
      rintro _ _ ⟨_, ⟨a8, _, cp9, hs11, rfl, hi12, o14, rfl, rfl⟩, rfl⟩
      refine JL.val (yl_move rfl) rfl ?_
      refine JL.val (yl_extract rfl rfl) rfl ?_
      refine JL.val (yl_extract rfl rfl) rfl ?_
      refine JL.val (yl_assign rfl) rfl ?_
      refine JL.val (yl_assign rfl) rfl ?_
      refine JL.nil ?_
      refine JE.weak (env' := [(3, ptrAt (some ⟨g3, 0, none⟩) 0), (7, .map o14)]) (es' := [boxO 35 g3 [.int .i64 q1.X, .int .i64 q1.Y], mapI eSPoint o14 x7.2]) [1, 4] ?_ ⟨rfl, rfl, trivial⟩ (by decide) rfl
      refine JE.code ?_
      refine JX.seq ?_
      refine JX.region ?_
      refine JL.val (yl_move rfl) rfl ?_
      refine JL.val (yl_loadn Go.Proofs.Try.underlying35 rfl i35 rfl (fun w hC => rd_box hC 0 rfl) rfl (i35s).symm i35p) rfl ?_
      refine JL.val (yl_lookI (e := eSPoint) (mi := x7.2) (k := q1) Go.Proofs.Try.underlying91 zv2 keyOk35 rfl rfl (fun w hC => rd_mapI hC 1 rfl)) rfl ?_
      refine JL.val (yl_assign rfl) rfl ?_
      refine JL.val (yl_assign rfl) rfl ?_
      refine JL.nil ?_
      refine JE.weak (env' := [(4, .int .i64 ((mfind x7.2 q1).getD 0)), (5, .int .i64 0)]) (es' := []) [] ?_ ⟨rfl, rfl, trivial⟩ (by decide) rfl
      refine JE.code ?_
      refine JX.ret ?_
      obtain rfl := Option.some.inj hres
      refine JE.ret (rs := [.tmp 4, .tmp 5]) (vs := [.int .i64 ((mfind x7.2 q1).getD 0), .int .i64 0]) rfl ⟨rfl, rfl, trivial⟩ ?_
      exact fun w' hb hs => ⟨_, _, ⟨rfl, rfl⟩, rfl, hb, hs.sel [] _ (by decide) rfl⟩

/- spec.l21Code -/
def sh89 (q0 : SPanel) (q1 : Int) : Option (List (List SPoint) × List Int × Int) := Option.bind (sh82 q0) fun x1 => bif !x1 then (some (([] : List (List SPoint)), ([] : List Int), 1)) else (Option.bind (sh83 q0) fun x5 => Option.bind (sh127 q1 0 (w64 (((x5.1.length : Nat) : Int) - 1))) fun x15 => bif !x15 then (some (([] : List (List SPoint)), ([] : List Int), 2)) else (some (x5.1, x5.2, 0)))
def T89 (r : List (List SPoint) × List Int × Int) (v : Value) (rs : List Own) : Prop := ∃ (a0 : Option Addr) (n0 c0 : Nat) (h0 : List Hd), r.1.length = n0 ∧ Inn h0 r.1 ∧ ∃ (a1 : Option Addr) (n1 c1 : Nat), r.2.1.length = n1 ∧ v = rets [.slice a0 n0 c0, .slice a1 n1 c1, .int .i64 r.2.2] ∧ rs = [rowT 61 eHd a0 n0 c0 h0, innO 35 eSPoint none h0 r.1, rowT 2 eI64 a1 n1 c1 r.2.1]
set_option maxRecDepth 100000 in
theorem c89 {w : World} {q0 : SPanel} {a_0 : Option Addr} {n_0 : Nat} {a_0_2 : Option Addr} {n_0_2 c_0_2 : Nat} (g_0 : RdAt w a_0 n_0 [.int .i64 q0.W, .int .i64 q0.H, .slice a_0_2 n_0_2 c_0_2]) (g_0_2 : Rd w a_0_2 (eI64.fl q0.Breaks)) (l_0_2 : q0.Breaks.length = n_0_2) (k_0_2 : n_0_2 ≤ c_0_2) {q1 : Int} {r : List (List SPoint) × List Int × Int} (hres : sh89 q0 q1 = some r) : Calls Go.Proofs.Try.prog 89 [ptrAt a_0 n_0, .int .i64 q1].toArray w (Ret w (T89 r)) := by
  subst l_0_2
  obtain ⟨b_0, e_0, g_0⟩ := g_0.norm0
  rw [e_0]
  unfold sh89 at hres
  refine calls_of (n := 25) (M := []) (es := []) Go.Proofs.Try.func89 rfl rfl rfl (Sep.nil _ _ _) ?_
  refine JX.seq ?_
  refine JX.region ?_
  refine JL.val (yl_assign rfl) rfl ?_
  refine JL.val (yl_assign rfl) rfl ?_
  refine JL.val (yl_assign rfl) rfl ?_
  refine JL.nil ?_
  refine JE.code ?_
  refine JX.seq ?_
  refine JX.seq ?_
  refine JX.region ?_
  refine JL.val (yl_move rfl) rfl ?_
  obtain ⟨x1, hx1, hres⟩ := bind_some hres
  refine JL.eff (ef_call (T := T82 x1) Go.Proofs.Try.func82 rfl (by kernel_rfl) rfl (fun w hC => c82 (RdAt.of0 (rd_arg g_0 hC)) (rd_arg g_0_2 hC) rfl k_0_2 hx1)) rfl ?_
  rintro _ _ ⟨_, ⟨rfl, rfl⟩, rfl⟩
  refine JL.val (yl_not rfl) rfl ?_
  refine JL.nil ?_
  refine JE.code ?_
  rcases cond_some hres with ⟨hb, hres⟩ | ⟨hb, hres⟩
  · refine JX.condT rfl hb ?_
    refine JX.seq ?_
    refine JX.region ?_
    refine JL.val (yl_assign rfl) rfl ?_
    refine JL.val (yl_assign rfl) rfl ?_
    refine JL.val (yl_assign rfl) rfl ?_
    refine JL.nil ?_
    refine JE.code ?_
    refine JX.ret ?_
    refine JE.nilrow 61 eHd ?_
    refine JE.nilinn 35 eSPoint ?_
    refine JE.nilrow 2 eI64 ?_
    obtain rfl := Option.some.inj hres
    refine JE.ret (rs := [.tmp 4, .tmp 5, .tmp 6]) (vs := [.slice none 0 0, .slice none 0 0, .int .i64 1]) rfl ⟨rfl, rfl, rfl, trivial⟩ ?_
    exact fun w' hb hs => ⟨_, _, ⟨none, 0, 0, ([] : List Hd), ((Inn.len (Inn.nil (T := SPoint))).symm.trans rfl), (Inn.nil (T := SPoint)), none, 0, 0, rfl, rfl, rfl⟩, rfl, hb, hs.sel [0, 1, 2] _ (by decide) rfl⟩
  · refine JX.condF rfl hb ?_
    refine JX.skip ?_
    refine JE.code ?_
    refine JX.seq ?_
    refine JX.region ?_
    refine JL.val (yl_move rfl) rfl ?_
    obtain ⟨x5, hx5, hres⟩ := bind_some hres
    refine JL.eff (ef_call (T := T83 x5) Go.Proofs.Try.func83 rfl (by kernel_rfl) rfl (fun w hC => c83 (RdAt.of0 (rd_arg g_0 hC)) (rd_arg g_0_2 hC) rfl k_0_2 hx5)) rfl ?_
    rintro _ _ ⟨_, ⟨a6, _, cp7, hs9, rfl, hi10, a12, _, cp13, rfl, rfl, rfl⟩, rfl⟩
    refine JL.val (yl_move rfl) rfl ?_
    refine JL.val (yl_extract rfl rfl) rfl ?_
    refine JL.val (yl_extract rfl rfl) rfl ?_
    refine JL.val (yl_assign rfl) rfl ?_
    refine JL.val (yl_assign rfl) rfl ?_
    refine JL.nil ?_
    refine JE.weak (env' := [(1, .int .i64 q1), (7, .slice a6 x5.1.length cp7), (8, .slice a12 x5.2.length cp13)]) (es' := [rowT 61 eHd a6 x5.1.length cp7 hs9, innO 35 eSPoint none hs9 x5.1, rowT 2 eI64 a12 x5.2.length cp13 x5.2]) [0, 1, 2] ?_ ⟨rfl, rfl, rfl, trivial⟩ (by decide) rfl
    refine JE.code ?_
    refine JX.seq ?_
    refine JX.seq ?_
    refine JX.region ?_
    refine JL.val (yl_move rfl) rfl ?_
    refine JL.val (yl_move rfl) rfl ?_
    refine JL.val (yl_len_slice Go.Proofs.Try.underlying40 rfl) rfl ?_
    refine JL.val (yl_sub rfl rfl) rfl ?_
    obtain ⟨x15, hx15, hres⟩ := bind_some hres
    refine JL.eff (ef_call (T := T127 x15) Go.Proofs.Try.func127 rfl (by kernel_rfl) rfl (fun w hC => c127  hx15)) rfl ?_
    rintro _ _ ⟨_, ⟨rfl, rfl⟩, rfl⟩
    refine JL.val (yl_not rfl) rfl ?_
    refine JL.nil ?_
    refine JE.weak (env' := [(7, .slice a6 x5.1.length cp7), (8, .slice a12 x5.2.length cp13), (22, .bool !x15)]) (es' := [rowT 61 eHd a6 x5.1.length cp7 hs9, innO 35 eSPoint none hs9 x5.1, rowT 2 eI64 a12 x5.2.length cp13 x5.2]) [0, 1, 2] ?_ ⟨rfl, rfl, rfl, trivial⟩ (by decide) rfl
    refine JE.code ?_
    rcases cond_some hres with ⟨hb, hres⟩ | ⟨hb, hres⟩
    · refine JX.condT rfl hb ?_
      refine JX.seq ?_
      refine JX.region ?_
      refine JL.val (yl_assign rfl) rfl ?_
      refine JL.val (yl_assign rfl) rfl ?_
      refine JL.val (yl_assign rfl) rfl ?_
      refine JL.nil ?_
      refine JE.weak (env' := [(4, .slice none 0 0), (5, .slice none 0 0), (6, .int .i64 2)]) (es' := []) [] ?_ ⟨rfl, rfl, rfl, trivial⟩ (by decide) rfl
      refine JE.code ?_
      refine JX.ret ?_
      refine JE.nilrow 61 eHd ?_
      refine JE.nilinn 35 eSPoint ?_
      refine JE.nilrow 2 eI64 ?_
      obtain rfl := Option.some.inj hres
      refine JE.ret (rs := [.tmp 4, .tmp 5, .tmp 6]) (vs := [.slice none 0 0, .slice none 0 0, .int .i64 2]) rfl ⟨rfl, rfl, rfl, trivial⟩ ?_
      exact fun w' hb hs => ⟨_, _, ⟨none, 0, 0, ([] : List Hd), ((Inn.len (Inn.nil (T := SPoint))).symm.trans rfl), (Inn.nil (T := SPoint)), none, 0, 0, rfl, rfl, rfl⟩, rfl, hb, hs.sel [0, 1, 2] _ (by decide) rfl⟩
    · refine JX.condF rfl hb ?_
      refine JX.skip ?_
      refine JE.code ?_
      refine JX.seq ?_
      refine JX.region ?_
      refine JL.val (yl_move rfl) rfl ?_
      refine JL.val (yl_move rfl) rfl ?_
      refine JL.val (yl_assign rfl) rfl ?_
      refine JL.val (yl_assign rfl) rfl ?_
      refine JL.val (yl_assign rfl) rfl ?_
      refine JL.nil ?_
      refine JE.weak (env' := [(4, .slice a6 x5.1.length cp7), (5, .slice a12 x5.2.length cp13), (6, .int .i64 0)]) (es' := [rowT 61 eHd a6 x5.1.length cp7 hs9, innO 35 eSPoint none hs9 x5.1, rowT 2 eI64 a12 x5.2.length cp13 x5.2]) [0, 1, 2] ?_ ⟨rfl, rfl, rfl, trivial⟩ (by decide) rfl
      refine JE.code ?_
      refine JX.ret ?_
      obtain rfl := Option.some.inj hres
      refine JE.ret (rs := [.tmp 4, .tmp 5, .tmp 6]) (vs := [.slice a6 x5.1.length cp7, .slice a12 x5.2.length cp13, .int .i64 0]) rfl ⟨rfl, rfl, rfl, trivial⟩ ?_
      exact fun w' hb hs => ⟨_, _, ⟨a6, x5.1.length, cp7, hs9, rfl, hi10, a12, x5.2.length, cp13, rfl, rfl, rfl⟩, rfl, hb, hs.sel [0, 1, 2] _ (by decide) rfl⟩

/- spec.ShadeOf -/
def sh23 (q0 : SPanel) (q1 : Int) : Option (Int × Int) := Option.bind (sh89 q0 q1) fun x3 => bif x3.2.2 != 0 then (some (0, x3.2.2)) else (Option.bind (getI x3.1 q1) fun x13 => Option.bind (getI x13 (0 : Int)) fun x17 => some (x17.X.tmod 2, 0))
def T23 (r : Int × Int) (v : Value) (rs : List Own) : Prop := v = rets [.int .i64 r.1, .int .i64 r.2] ∧ rs = []
set_option maxRecDepth 100000 in
theorem c23 {w : World} {q0 : SPanel} {a_0_2 : Option Addr} {n_0_2 c_0_2 : Nat} (g_0_2 : Rd w a_0_2 (eI64.fl q0.Breaks)) (l_0_2 : q0.Breaks.length = n_0_2) (k_0_2 : n_0_2 ≤ c_0_2) {q1 : Int} {r : Int × Int} (hres : sh23 q0 q1 = some r) : Calls Go.Proofs.Try.prog 23 [.agg #[.int .i64 q0.W, .int .i64 q0.H, .slice a_0_2 n_0_2 c_0_2], .int .i64 q1].toArray w (Ret w (T23 r)) := by
  subst l_0_2
  unfold sh23 at hres
  refine calls_of (n := 26) (M := []) (es := []) Go.Proofs.Try.func23 rfl rfl rfl (Sep.nil _ _ _) ?_
  refine JX.seq ?_
  refine JX.region ?_
  refine JL.eff (ef_box rfl rfl) rfl ?_
  rintro _ _ ⟨g1, rfl, rfl⟩
  refine JL.val (yl_assign rfl) rfl ?_
  refine JL.val (yl_assign rfl) rfl ?_
  refine JL.nil ?_
  refine JE.code ?_
  refine JX.seq ?_
  refine JX.region ?_
  refine JL.val (yl_move rfl) rfl ?_
  obtain ⟨x3, hx3, hres⟩ := bind_some hres
  refine JL.eff (ef_call (T := T89 x3) Go.Proofs.Try.func89 rfl (by kernel_rfl) rfl (fun w hC => c89 (RdAt.of0 (rd_box hC 0 rfl)) (rd_arg g_0_2 hC) rfl k_0_2 hx3)) rfl ?_
  rintro _ _ ⟨_, ⟨a4, _, cp5, hs7, rfl, hi8, a10, _, cp11, rfl, rfl, rfl⟩, rfl⟩
  refine JL.val (yl_move rfl) rfl ?_
  refine JL.val (yl_extract rfl rfl) rfl ?_
  refine JL.val (yl_extract rfl rfl) rfl ?_
  refine JL.val (yl_extract rfl rfl) rfl ?_
  refine JL.val (yl_assign rfl) rfl ?_
  refine JL.val (yl_assign rfl) rfl ?_
  refine JL.val (yl_assign rfl) rfl ?_
  refine JL.nil ?_
  refine JE.weak (env' := [(1, .int .i64 q1), (6, .slice a4 x3.1.length cp5), (8, .int .i64 x3.2.2)]) (es' := [rowT 61 eHd a4 x3.1.length cp5 hs7, innO 35 eSPoint none hs7 x3.1]) [1, 2] ?_ ⟨rfl, rfl, rfl, trivial⟩ (by decide) rfl
  refine JE.code ?_
  refine JX.seq ?_
  refine JX.seq ?_
  refine JX.region ?_
  refine JL.val (yl_move rfl) rfl ?_
  refine JL.val (yl_neq rfl rfl) rfl ?_
  refine JL.nil ?_
  refine JE.code ?_
  rcases cond_some hres with ⟨hb, hres⟩ | ⟨hb, hres⟩
  · refine JX.condT rfl hb ?_
    refine JX.seq ?_
    refine JX.region ?_
    refine JL.val (yl_move rfl) rfl ?_
    refine JL.val (yl_assign rfl) rfl ?_
    refine JL.val (yl_assign rfl) rfl ?_
    refine JL.nil ?_
    refine JE.weak (env' := [(4, .int .i64 0), (5, .int .i64 x3.2.2)]) (es' := []) [] ?_ ⟨rfl, rfl, trivial⟩ (by decide) rfl
    refine JE.code ?_
    refine JX.ret ?_
    obtain rfl := Option.some.inj hres
    refine JE.ret (rs := [.tmp 4, .tmp 5]) (vs := [.int .i64 0, .int .i64 x3.2.2]) rfl ⟨rfl, rfl, trivial⟩ ?_
    exact fun w' hb hs => ⟨_, _, ⟨rfl, rfl⟩, rfl, hb, hs.sel [] _ (by decide) rfl⟩
  · refine JX.condF rfl hb ?_
    refine JX.skip ?_
    refine JE.code ?_
    refine JX.seq ?_
    refine JX.region ?_
    refine JL.val (yl_move rfl) rfl ?_
    refine JL.val (yl_move rfl) rfl ?_
    obtain ⟨x13, hx13, hres⟩ := bind_some hres
    obtain ⟨ha14, hc15, hhx13⟩ := Inn.sub hi8 hx13
    refine JL.val (yl_idxT Go.Proofs.Try.underlying40 i61 i61s rfl rfl hhx13 (Inn.len hi8) (fun w hC => rd_row hC 0 rfl)) rfl ?_
    refine JL.val (yl_loadT0 (z := ⟨ha14, x13.length, hc15⟩) Go.Proofs.Try.underlying61 rfl rfl hhx13 (fun w hC => rd_row hC 0 rfl) rfl) rfl ?_
    obtain ⟨x17, hx17, hres⟩ := bind_some hres
    refine JL.val (yl_idxT Go.Proofs.Try.underlying61 i35 i35s rfl rfl hx17 rfl (fun w hC => (RdI.sub (rd_inn hC 1 rfl) hx13 hhx13))) rfl ?_
    refine JL.val (yl_fieldAtT Go.Proofs.Try.underlying35 rfl i2 i2n rfl hx17 (fun w hC => (RdI.sub (rd_inn hC 1 rfl) hx13 hhx13))) rfl ?_
    refine JL.val (yl_loadT1 Go.Proofs.Try.underlying2 rfl rfl hx17 (fun w hC => (RdI.sub (rd_inn hC 1 rfl) hx13 hhx13)) rfl) rfl ?_
    refine JL.val (yl_rem rfl rfl (by decide)) rfl ?_
    refine JL.val (yl_assign rfl) rfl ?_
    refine JL.val (yl_assign rfl) rfl ?_
    refine JL.nil ?_
    refine JE.weak (env' := [(4, .int .i64 (x17.X.tmod 2)), (5, .int .i64 0)]) (es' := []) [] ?_ ⟨rfl, rfl, trivial⟩ (by decide) rfl
    refine JE.code ?_
    refine JX.ret ?_
    obtain rfl := Option.some.inj hres
    refine JE.ret (rs := [.tmp 4, .tmp 5]) (vs := [.int .i64 (x17.X.tmod 2), .int .i64 0]) rfl ⟨rfl, rfl, trivial⟩ ?_
    exact fun w' hb hs => ⟨_, _, ⟨rfl, rfl⟩, rfl, hb, hs.sel [] _ (by decide) rfl⟩

/- impl.hasIndex -/
def sh152 (q0 : Int) (q1 : Int) : Option (Bool) := Option.bind (sh125 q0 0 (w64 (q1 - 1))) fun x1 => some x1
def T152 (r : Bool) (v : Value) (rs : List Own) : Prop := v = rets [.bool r] ∧ rs = []
set_option maxRecDepth 100000 in
theorem c152 {w : World} {q0 : Int} {q1 : Int} {r : Bool} (hres : sh152 q0 q1 = some r) : Calls Go.Proofs.Try.prog 152 [.int .i64 q0, .int .i64 q1].toArray w (Ret w (T152 r)) := by
  unfold sh152 at hres
  refine calls_of (n := 9) (M := []) (es := []) Go.Proofs.Try.func152 rfl rfl rfl (Sep.nil _ _ _) ?_
  refine JX.seq ?_
  refine JX.region ?_
  refine JL.val (yl_assign rfl) rfl ?_
  refine JL.nil ?_
  refine JE.code ?_
  refine JX.seq ?_
  refine JX.region ?_
  refine JL.val (yl_move rfl) rfl ?_
  refine JL.val (yl_move rfl) rfl ?_
  refine JL.val (yl_sub rfl rfl) rfl ?_
  obtain ⟨x1, hx1, hres⟩ := bind_some hres
  refine JL.eff (ef_call (T := T125 x1) Go.Proofs.Try.func125 rfl (by kernel_rfl) rfl (fun w hC => c125  hx1)) rfl ?_
  rintro _ _ ⟨_, ⟨rfl, rfl⟩, rfl⟩
  refine JL.val (yl_assign rfl) rfl ?_
  refine JL.nil ?_
  refine JE.weak (env' := [(4, .bool x1)]) (es' := []) [] ?_ ⟨rfl, trivial⟩ (by decide) rfl
  refine JE.code ?_
  refine JX.ret ?_
  obtain rfl := Option.some.inj hres
  refine JE.ret (rs := [.tmp 4]) (vs := [.bool x1]) rfl ⟨rfl, trivial⟩ ?_
  exact fun w' hb hs => ⟨_, _, ⟨rfl, rfl⟩, rfl, hb, hs.sel [] _ (by decide) rfl⟩

/- impl.regionOf -/
def sh90 (q0 : SPanel) (q1 : Int) : Option (List SPoint × (List (SPoint × Int)) × Int) := Option.bind (sh86 q0) fun x3 => bif !x3 then (some (([] : List SPoint), ([] : List (SPoint × Int)), 1)) else (Option.bind (sh88 q0) fun x6 => Option.bind (sh152 q1 ((x6.1.length : Nat) : Int)) fun x15 => bif !x15 then (some (([] : List SPoint), ([] : List (SPoint × Int)), 2)) else (Option.bind (getI x6.1 q1) fun x18 => some (x18, x6.2, 0)))
def T90 (r : List SPoint × (List (SPoint × Int)) × Int) (v : Value) (rs : List Own) : Prop := ∃ (a0 : Option Addr) (n0 c0 : Nat), r.1.length = n0 ∧ ∃ (o1 : Option Nat), v = rets [.slice a0 n0 c0, .map o1, .int .i64 r.2.2] ∧ rs = [rowT 35 eSPoint a0 n0 c0 r.1, mapI eSPoint o1 r.2.1]
set_option maxRecDepth 100000 in
theorem c90 {w : World} {q0 : SPanel} {a_0_2 : Option Addr} {n_0_2 c_0_2 : Nat} (g_0_2 : Rd w a_0_2 (eI64.fl q0.Breaks)) (l_0_2 : q0.Breaks.length = n_0_2) (k_0_2 : n_0_2 ≤ c_0_2) {q1 : Int} {r : List SPoint × (List (SPoint × Int)) × Int} (hres : sh90 q0 q1 = some r) : Calls Go.Proofs.Try.prog 90 [.agg #[.int .i64 q0.W, .int .i64 q0.H, .slice a_0_2 n_0_2 c_0_2], .int .i64 q1].toArray w (Ret w (T90 r)) := by
  subst l_0_2
  unfold sh90 at hres
  refine calls_of (n := 27) (M := []) (es := []) Go.Proofs.Try.func90 rfl rfl rfl (Sep.nil _ _ _) ?_
  refine JX.seq ?_
  refine JX.region ?_
  refine JL.eff (ef_box rfl rfl) rfl ?_
  rintro _ _ ⟨g1, rfl, rfl⟩
  refine JL.val (yl_assign rfl) rfl ?_
  refine JL.val (yl_assign rfl) rfl ?_
  refine JL.val (yl_assign rfl) rfl ?_
  refine JL.nil ?_
  refine JE.weak (env' := [(1, .int .i64 q1), (2, ptrAt (some ⟨g1, 0, none⟩) 0)]) (es' := [boxO 28 g1 [.int .i64 q0.W, .int .i64 q0.H, .slice a_0_2 q0.Breaks.length c_0_2]]) [0] ?_ ⟨rfl, rfl, trivial⟩ (by decide) rfl
  refine JE.code ?_
  refine JX.seq ?_
  refine JX.seq ?_
  refine JX.region ?_
  refine JL.val (yl_loadn Go.Proofs.Try.underlying28 rfl i28 rfl (fun w hC => rd_box hC 0 rfl) rfl (i28s).symm i28p) rfl ?_
  obtain ⟨x3, hx3, hres⟩ := bind_some hres
  refine JL.eff (ef_call (vs := [.agg #[.int .i64 q0.W, .int .i64 q0.H, .slice a_0_2 q0.Breaks.length c_0_2]]) (T := T86 x3) Go.Proofs.Try.func86 rfl (by kernel_rfl) rfl (fun w hC => c86 (q0 := q0) (rd_arg g_0_2 hC) rfl k_0_2 hx3)) rfl ?_
  rintro _ _ ⟨_, ⟨rfl, rfl⟩, rfl⟩
  refine JL.val (yl_not rfl) rfl ?_
  refine JL.nil ?_
  refine JE.code ?_
  rcases cond_some hres with ⟨hb, hres⟩ | ⟨hb, hres⟩
  · refine JX.condT rfl hb ?_
    refine JX.seq ?_
    refine JX.region ?_
    refine JL.val (yl_assign rfl) rfl ?_
    refine JL.val (yl_assign rfl) rfl ?_
    refine JL.val (yl_assign rfl) rfl ?_
    refine JL.nil ?_
    refine JE.weak (env' := [(4, .slice none 0 0), (5, .map none), (6, .int .i64 1)]) (es' := []) [] ?_ ⟨rfl, rfl, rfl, trivial⟩ (by decide) rfl
    refine JE.code ?_
    refine JX.ret ?_
    refine JE.nilrow 35 eSPoint ?_
    refine JE.nilmap eSPoint ?_
    obtain rfl := Option.some.inj hres
    refine JE.ret (rs := [.tmp 4, .tmp 5, .tmp 6]) (vs := [.slice none 0 0, .map none, .int .i64 1]) rfl ⟨rfl, rfl, rfl, trivial⟩ ?_
    exact fun w' hb hs => ⟨_, _, ⟨none, 0, 0, rfl, none, rfl, rfl⟩, rfl, hb, hs.sel [0, 1] _ (by decide) rfl⟩
  · refine JX.condF rfl hb ?_
    refine JX.skip ?_
    refine JE.code ?_
    refine JX.seq ?_
    refine JX.region ?_
    refine JL.val (yl_loadn Go.Proofs.Try.underlying28 rfl i28 rfl (fun w hC => rd_box hC 0 rfl) rfl (i28s).symm i28p) rfl ?_
    obtain ⟨x6, hx6, hres⟩ := bind_some hres
    refine JL.eff (ef_call (vs := [.agg #[.int .i64 q0.W, .int .i64 q0.H, .slice a_0_2 q0.Breaks.length c_0_2]]) (T := T88 x6) Go.Proofs.Try.func88 rfl (by kernel_rfl) rfl (fun w hC => c88 (q0 := q0) (rd_arg g_0_2 hC) rfl k_0_2 hx6)) rfl ?_
    rintro _ _ ⟨_, ⟨a7, _, cp8, hs10, rfl, hi11, o13, rfl, rfl⟩, rfl⟩
    refine JL.val (yl_move rfl) rfl ?_
    refine JL.val (yl_extract rfl rfl) rfl ?_
    refine JL.val (yl_extract rfl rfl) rfl ?_
    refine JL.val (yl_assign rfl) rfl ?_
    refine JL.val (yl_assign rfl) rfl ?_
    refine JL.nil ?_
    refine JE.weak (env' := [(1, .int .i64 q1), (7, .slice a7 x6.1.length cp8), (8, .map o13)]) (es' := [rowT 61 eHd a7 x6.1.length cp8 hs10, innO 35 eSPoint none hs10 x6.1, mapI eSPoint o13 x6.2]) [1, 2, 3] ?_ ⟨rfl, rfl, rfl, trivial⟩ (by decide) rfl
    refine JE.code ?_
    refine JX.seq ?_
    refine JX.seq ?_
    refine JX.region ?_
    refine JL.val (yl_move rfl) rfl ?_
    refine JL.val (yl_move rfl) rfl ?_
    refine JL.val (yl_len_slice Go.Proofs.Try.underlying40 rfl) rfl ?_
    obtain ⟨x15, hx15, hres⟩ := bind_some hres
    refine JL.eff (ef_call (T := T152 x15) Go.Proofs.Try.func152 rfl (by kernel_rfl) rfl (fun w hC => c152  hx15)) rfl ?_
    rintro _ _ ⟨_, ⟨rfl, rfl⟩, rfl⟩
    refine JL.val (yl_not rfl) rfl ?_
    refine JL.nil ?_
    refine JE.weak (env' := [(1, .int .i64 q1), (7, .slice a7 x6.1.length cp8), (8, .map o13), (21, .bool !x15)]) (es' := [rowT 61 eHd a7 x6.1.length cp8 hs10, innO 35 eSPoint none hs10 x6.1, mapI eSPoint o13 x6.2]) [0, 1, 2] ?_ ⟨rfl, rfl, rfl, rfl, trivial⟩ (by decide) rfl
    refine JE.code ?_
    rcases cond_some hres with ⟨hb, hres⟩ | ⟨hb, hres⟩
    · refine JX.condT rfl hb ?_
      refine JX.seq ?_
      refine JX.region ?_
      refine JL.val (yl_assign rfl) rfl ?_
      refine JL.val (yl_assign rfl) rfl ?_
      refine JL.val (yl_assign rfl) rfl ?_
      refine JL.nil ?_
      refine JE.weak (env' := [(4, .slice none 0 0), (5, .map none), (6, .int .i64 2)]) (es' := []) [] ?_ ⟨rfl, rfl, rfl, trivial⟩ (by decide) rfl
      refine JE.code ?_
      refine JX.ret ?_
      refine JE.nilrow 35 eSPoint ?_
      refine JE.nilmap eSPoint ?_
      obtain rfl := Option.some.inj hres
      refine JE.ret (rs := [.tmp 4, .tmp 5, .tmp 6]) (vs := [.slice none 0 0, .map none, .int .i64 2]) rfl ⟨rfl, rfl, rfl, trivial⟩ ?_
      exact fun w' hb hs => ⟨_, _, ⟨none, 0, 0, rfl, none, rfl, rfl⟩, rfl, hb, hs.sel [0, 1] _ (by decide) rfl⟩
    · refine JX.condF rfl hb ?_
      refine JX.skip ?_
      refine JE.code ?_
      refine JX.seq ?_
      refine JX.region ?_
      refine JL.val (yl_move rfl) rfl ?_
      refine JL.val (yl_move rfl) rfl ?_
      obtain ⟨x18, hx18, hres⟩ := bind_some hres
      obtain ⟨ha19, hc20, hhx18⟩ := Inn.sub hi11 hx18
      refine JL.val (yl_idxT Go.Proofs.Try.underlying40 i61 i61s rfl rfl hhx18 (Inn.len hi11) (fun w hC => rd_row hC 0 rfl)) rfl ?_
      refine JL.val (yl_loadT0 (z := ⟨ha19, x18.length, hc20⟩) Go.Proofs.Try.underlying61 rfl rfl hhx18 (fun w hC => rd_row hC 0 rfl) rfl) rfl ?_
      refine JL.val (yl_move rfl) rfl ?_
      refine JL.val (yl_assign rfl) rfl ?_
      refine JL.val (yl_assign rfl) rfl ?_
      refine JL.val (yl_assign rfl) rfl ?_
      refine JL.nil ?_
      refine JE.weak (env' := [(4, .slice ha19 x18.length hc20), (5, .map o13), (6, .int .i64 0)]) (es' := [rowT 61 eHd a7 x6.1.length cp8 hs10, innO 35 eSPoint none hs10 x6.1, mapI eSPoint o13 x6.2]) [0, 1, 2] ?_ ⟨rfl, rfl, rfl, trivial⟩ (by decide) rfl
      refine JE.code ?_
      refine JX.ret ?_
      refine JE.focus (es' := [rowT 61 eHd a7 x6.1.length cp8 hs10, mapI eSPoint o13 x6.2]) [0, 2, 1] (by decide) rfl hhx18 hx18 ?_
      obtain rfl := Option.some.inj hres
      refine JE.ret (rs := [.tmp 4, .tmp 5, .tmp 6]) (vs := [.slice ha19 x18.length hc20, .map o13, .int .i64 0]) rfl ⟨rfl, rfl, rfl, trivial⟩ ?_
      exact fun w' hb hs => ⟨_, _, ⟨ha19, x18.length, hc20, rfl, o13, rfl, rfl⟩, rfl, hb, hs.sel [3, 1] _ (by decide) rfl⟩

/- impl.ShadeOf -/
def sh24 (q0 : SPanel) (q1 : Int) : Option (Int × Int) := Option.bind (sh90 q0 q1) fun x3 => bif x3.2.2 != 0 then (some (0, x3.2.2)) else (Option.bind (getI x3.1 (0 : Int)) fun x9 => some (x9.X.tmod 2, 0))
def T24 (r : Int × Int) (v : Value) (rs : List Own) : Prop := v = rets [.int .i64 r.1, .int .i64 r.2] ∧ rs = []
set_option maxRecDepth 100000 in
theorem c24 {w : World} {q0 : SPanel} {a_0_2 : Option Addr} {n_0_2 c_0_2 : Nat} (g_0_2 : Rd w a_0_2 (eI64.fl q0.Breaks)) (l_0_2 : q0.Breaks.length = n_0_2) (k_0_2 : n_0_2 ≤ c_0_2) {q1 : Int} {r : Int × Int} (hres : sh24 q0 q1 = some r) : Calls Go.Proofs.Try.prog 24 [.agg #[.int .i64 q0.W, .int .i64 q0.H, .slice a_0_2 n_0_2 c_0_2], .int .i64 q1].toArray w (Ret w (T24 r)) := by
  subst l_0_2
  unfold sh24 at hres
  refine calls_of (n := 24) (M := []) (es := []) Go.Proofs.Try.func24 rfl rfl rfl (Sep.nil _ _ _) ?_
  refine JX.seq ?_
  refine JX.region ?_
  refine JL.eff (ef_box rfl rfl) rfl ?_
  rintro _ _ ⟨g1, rfl, rfl⟩
  refine JL.val (yl_assign rfl) rfl ?_
  refine JL.val (yl_assign rfl) rfl ?_
  refine JL.nil ?_
  refine JE.code ?_
  refine JX.seq ?_
  refine JX.region ?_
  refine JL.val (yl_loadn Go.Proofs.Try.underlying28 rfl i28 rfl (fun w hC => rd_box hC 0 rfl) rfl (i28s).symm i28p) rfl ?_
  refine JL.val (yl_move rfl) rfl ?_
  obtain ⟨x3, hx3, hres⟩ := bind_some hres
  refine JL.eff (ef_call (vs := [.agg #[.int .i64 q0.W, .int .i64 q0.H, .slice a_0_2 q0.Breaks.length c_0_2], .int .i64 q1]) (T := T90 x3) Go.Proofs.Try.func90 rfl (by kernel_rfl) rfl (fun w hC => c90 (q0 := q0) (rd_arg g_0_2 hC) rfl k_0_2 hx3)) rfl ?_
  rintro _ _ ⟨_, ⟨a4, _, cp5, rfl, o7, rfl, rfl⟩, rfl⟩
  refine JL.val (yl_move rfl) rfl ?_
  refine JL.val (yl_extract rfl rfl) rfl ?_
  refine JL.val (yl_extract rfl rfl) rfl ?_
  refine JL.val (yl_extract rfl rfl) rfl ?_
  refine JL.val (yl_assign rfl) rfl ?_
  refine JL.val (yl_assign rfl) rfl ?_
  refine JL.val (yl_assign rfl) rfl ?_
  refine JL.nil ?_
  refine JE.weak (env' := [(6, .slice a4 x3.1.length cp5), (8, .int .i64 x3.2.2)]) (es' := [rowT 35 eSPoint a4 x3.1.length cp5 x3.1]) [1] ?_ ⟨rfl, rfl, trivial⟩ (by decide) rfl
  refine JE.code ?_
  refine JX.seq ?_
  refine JX.seq ?_
  refine JX.region ?_
  refine JL.val (yl_move rfl) rfl ?_
  refine JL.val (yl_neq rfl rfl) rfl ?_
  refine JL.nil ?_
  refine JE.code ?_
  rcases cond_some hres with ⟨hb, hres⟩ | ⟨hb, hres⟩
  · refine JX.condT rfl hb ?_
    refine JX.seq ?_
    refine JX.region ?_
    refine JL.val (yl_move rfl) rfl ?_
    refine JL.val (yl_assign rfl) rfl ?_
    refine JL.val (yl_assign rfl) rfl ?_
    refine JL.nil ?_
    refine JE.weak (env' := [(4, .int .i64 0), (5, .int .i64 x3.2.2)]) (es' := []) [] ?_ ⟨rfl, rfl, trivial⟩ (by decide) rfl
    refine JE.code ?_
    refine JX.ret ?_
    obtain rfl := Option.some.inj hres
    refine JE.ret (rs := [.tmp 4, .tmp 5]) (vs := [.int .i64 0, .int .i64 x3.2.2]) rfl ⟨rfl, rfl, trivial⟩ ?_
    exact fun w' hb hs => ⟨_, _, ⟨rfl, rfl⟩, rfl, hb, hs.sel [] _ (by decide) rfl⟩
  · refine JX.condF rfl hb ?_
    refine JX.skip ?_
    refine JE.code ?_
    refine JX.seq ?_
    refine JX.region ?_
    refine JL.val (yl_move rfl) rfl ?_
    obtain ⟨x9, hx9, hres⟩ := bind_some hres
    refine JL.val (yl_idxT Go.Proofs.Try.underlying61 i35 i35s rfl rfl hx9 rfl (fun w hC => rd_row hC 0 rfl)) rfl ?_
    refine JL.val (yl_fieldAtT Go.Proofs.Try.underlying35 rfl i2 i2n rfl hx9 (fun w hC => rd_row hC 0 rfl)) rfl ?_
    refine JL.val (yl_loadT1 Go.Proofs.Try.underlying2 rfl rfl hx9 (fun w hC => rd_row hC 0 rfl) rfl) rfl ?_
    refine JL.val (yl_rem rfl rfl (by decide)) rfl ?_
    refine JL.val (yl_assign rfl) rfl ?_
    refine JL.val (yl_assign rfl) rfl ?_
    refine JL.nil ?_
    refine JE.weak (env' := [(4, .int .i64 (x9.X.tmod 2)), (5, .int .i64 0)]) (es' := []) [] ?_ ⟨rfl, rfl, trivial⟩ (by decide) rfl
    refine JE.code ?_
    refine JX.ret ?_
    obtain rfl := Option.some.inj hres
    refine JE.ret (rs := [.tmp 4, .tmp 5]) (vs := [.int .i64 (x9.X.tmod 2), .int .i64 0]) rfl ⟨rfl, rfl, trivial⟩ ?_
    exact fun w' hb hs => ⟨_, _, ⟨rfl, rfl⟩, rfl, hb, hs.sel [] _ (by decide) rfl⟩

/- spec.RegionsOf -/
def sh25 (q0 : SPanel) : Option (List (List SPoint) × Int) := Option.bind (sh82 q0) fun x3 => bif !x3 then (some (([] : List (List SPoint)), 1)) else (Option.bind (sh83 q0) fun x6 => some (x6.1, 0))
def T25 (r : List (List SPoint) × Int) (v : Value) (rs : List Own) : Prop := ∃ (a0 : Option Addr) (n0 c0 : Nat) (h0 : List Hd), r.1.length = n0 ∧ Inn h0 r.1 ∧ v = rets [.slice a0 n0 c0, .int .i64 r.2] ∧ rs = [rowT 61 eHd a0 n0 c0 h0, innO 35 eSPoint none h0 r.1]
set_option maxRecDepth 100000 in
theorem c25 {w : World} {q0 : SPanel} {a_0_2 : Option Addr} {n_0_2 c_0_2 : Nat} (g_0_2 : Rd w a_0_2 (eI64.fl q0.Breaks)) (l_0_2 : q0.Breaks.length = n_0_2) (k_0_2 : n_0_2 ≤ c_0_2) {r : List (List SPoint) × Int} (hres : sh25 q0 = some r) : Calls Go.Proofs.Try.prog 25 [.agg #[.int .i64 q0.W, .int .i64 q0.H, .slice a_0_2 n_0_2 c_0_2]].toArray w (Ret w (T25 r)) := by
  subst l_0_2
  unfold sh25 at hres
  refine calls_of (n := 13) (M := []) (es := []) Go.Proofs.Try.func25 rfl rfl rfl (Sep.nil _ _ _) ?_
  refine JX.seq ?_
  refine JX.region ?_
  refine JL.eff (ef_box rfl rfl) rfl ?_
  rintro _ _ ⟨g1, rfl, rfl⟩
  refine JL.val (yl_assign rfl) rfl ?_
  refine JL.val (yl_assign rfl) rfl ?_
  refine JL.nil ?_
  refine JE.code ?_
  refine JX.seq ?_
  refine JX.seq ?_
  refine JX.region ?_
  obtain ⟨x3, hx3, hres⟩ := bind_some hres
  refine JL.eff (ef_call (T := T82 x3) Go.Proofs.Try.func82 rfl (by kernel_rfl) rfl (fun w hC => c82 (RdAt.of0 (rd_box hC 0 rfl)) (rd_arg g_0_2 hC) rfl k_0_2 hx3)) rfl ?_
  rintro _ _ ⟨_, ⟨rfl, rfl⟩, rfl⟩
  refine JL.val (yl_not rfl) rfl ?_
  refine JL.nil ?_
  refine JE.code ?_
  rcases cond_some hres with ⟨hb, hres⟩ | ⟨hb, hres⟩
  · refine JX.condT rfl hb ?_
    refine JX.seq ?_
    refine JX.region ?_
    refine JL.val (yl_assign rfl) rfl ?_
    refine JL.val (yl_assign rfl) rfl ?_
    refine JL.nil ?_
    refine JE.weak (env' := [(2, .slice none 0 0), (3, .int .i64 1)]) (es' := []) [] ?_ ⟨rfl, rfl, trivial⟩ (by decide) rfl
    refine JE.code ?_
    refine JX.ret ?_
    refine JE.nilrow 61 eHd ?_
    refine JE.nilinn 35 eSPoint ?_
    obtain rfl := Option.some.inj hres
    refine JE.ret (rs := [.tmp 2, .tmp 3]) (vs := [.slice none 0 0, .int .i64 1]) rfl ⟨rfl, rfl, trivial⟩ ?_
    exact fun w' hb hs => ⟨_, _, ⟨none, 0, 0, ([] : List Hd), ((Inn.len (Inn.nil (T := SPoint))).symm.trans rfl), (Inn.nil (T := SPoint)), rfl, rfl⟩, rfl, hb, hs.sel [0, 1] _ (by decide) rfl⟩
  · refine JX.condF rfl hb ?_
    refine JX.skip ?_
    refine JE.code ?_
    refine JX.seq ?_
    refine JX.region ?_
    obtain ⟨x6, hx6, hres⟩ := bind_some hres
    refine JL.eff (ef_call (T := T83 x6) Go.Proofs.Try.func83 rfl (by kernel_rfl) rfl (fun w hC => c83 (RdAt.of0 (rd_box hC 0 rfl)) (rd_arg g_0_2 hC) rfl k_0_2 hx6)) rfl ?_
    rintro _ _ ⟨_, ⟨a7, _, cp8, hs10, rfl, hi11, a13, _, cp14, rfl, rfl, rfl⟩, rfl⟩
    refine JL.val (yl_move rfl) rfl ?_
    refine JL.val (yl_extract rfl rfl) rfl ?_
    refine JL.val (yl_extract rfl rfl) rfl ?_
    refine JL.val (yl_assign rfl) rfl ?_
    refine JL.val (yl_assign rfl) rfl ?_
    refine JL.nil ?_
    refine JE.weak (env' := [(4, .slice a7 x6.1.length cp8)]) (es' := [rowT 61 eHd a7 x6.1.length cp8 hs10, innO 35 eSPoint none hs10 x6.1]) [1, 2] ?_ ⟨rfl, trivial⟩ (by decide) rfl
    refine JE.code ?_
    refine JX.seq ?_
    refine JX.region ?_
    refine JL.val (yl_move rfl) rfl ?_
    refine JL.val (yl_assign rfl) rfl ?_
    refine JL.val (yl_assign rfl) rfl ?_
    refine JL.nil ?_
    refine JE.code ?_
    refine JX.ret ?_
    obtain rfl := Option.some.inj hres
    refine JE.ret (rs := [.tmp 2, .tmp 3]) (vs := [.slice a7 x6.1.length cp8, .int .i64 0]) rfl ⟨rfl, rfl, trivial⟩ ?_
    exact fun w' hb hs => ⟨_, _, ⟨a7, x6.1.length, cp8, hs10, rfl, hi11, rfl, rfl⟩, rfl, hb, hs.sel [0, 1] _ (by decide) rfl⟩

/- spec.l00Put -/
def sh105_1 (q0 : List Int) (q1 : Int) : (Bool × Int × List Int) → Option ((Bool × Int × List Int) ⊕ (Bool × List Int))
  | (x5, x6, x7) => bif decide (x6 < (q0.length : Int)) then (Option.bind (bif !x5 then (Option.bind (getI q0 x6) fun x11 => some (decide (q1 ≤ x11))) else (some false)) fun cb10 => (Option.bind (bif cb10 then (Option.bind (getI q0 x6) fun x21 => Option.bind (bif decide (q1 < x21) then (Option.bind (appL x7 [q1]) fun x27 => some x27) else (some x7)) fun j22 => (some (true, j22))) else (some (x5, x7))) fun j12 => (Option.bind (getI q0 x6) fun x15 => Option.bind (appL j12.2 [x15]) fun x18 => some (.inl (j12.1, w64 (x6 + 1), x18))))) else (some (.inr (x5, x7)))
def sh105 (q0 : List Int) (q1 : Int) : Option (List Int) := Option.bind (iter (sh105_1 q0 q1) (false, 0, ([] : List Int))) fun b1 => (Option.bind (bif !b1.1 then (Option.bind (appL b1.2 [q1]) fun x37 => some x37) else (some b1.2)) fun j32 => (some j32))
def T105 (r : List Int) (v : Value) (rs : List Own) : Prop := ∃ (a0 : Option Addr) (n0 c0 : Nat), r.length = n0 ∧ v = rets [.slice a0 n0 c0] ∧ rs = [rowT 2 eI64 a0 n0 c0 r]
set_option maxRecDepth 100000 in
theorem c105 {w : World} {q0 : List Int} {a_0 : Option Addr} {n_0 c_0 : Nat} (g_0 : Rd w a_0 (eI64.fl q0)) (l_0 : q0.length = n_0) (k_0 : n_0 ≤ c_0) {q1 : Int} {r : List Int} (hres : sh105 q0 q1 = some r) : Calls Go.Proofs.Try.prog 105 [.slice a_0 n_0 c_0, .int .i64 q1].toArray w (Ret w (T105 r)) := by
  subst l_0
  unfold sh105 at hres
  refine calls_of (n := 49) (M := []) (es := []) Go.Proofs.Try.func105 rfl rfl rfl (Sep.nil _ _ _) ?_
  refine JX.seq ?_
  refine JX.region ?_
  refine JL.val (yl_assign rfl) rfl ?_
  refine JL.nil ?_
  refine JE.code ?_
  refine JX.seq ?_
  refine JX.region ?_
  refine JL.eff (ef_buildSlice (E := 2) (k := eI64.k) (us := eI64.fl ([] : List Int)) rfl (fun w => bsl22_0  w) rfl (by decide)) rfl ?_
  rintro _ _ ⟨a1, rfl, rfl⟩
  refine JL.val (yl_assign rfl) rfl ?_
  refine JL.nil ?_
  refine JE.code ?_
  refine JX.seq ?_
  refine JX.region ?_
  refine JL.val (yl_assign rfl) rfl ?_
  refine JL.nil ?_
  refine JE.code ?_
  refine JX.seq ?_
  refine JX.seq ?_
  refine JX.region ?_
  refine JL.val (yl_assign rfl) rfl ?_
  refine JL.nil ?_
  refine JE.code ?_
  refine JX.block ?_
  obtain ⟨y1, hy1, hresO1⟩ := bind_some hres
  refine JX.loop (I := fun (s1 : Bool × Int × List Int) aa ww => ∃ (a3 : Option Addr) (cp4 : Nat), St w [] 49 [(0, .slice a_0 q0.length c_0), (1, .int .i64 q1), (5, .slice a3 s1.2.2.length cp4), (6, .bool s1.1), (7, .int .i64 s1.2.1)] [rowT 2 eI64 a3 s1.2.2.length cp4 s1.2.2] aa ww) (sh105_1 q0 q1) hy1 (fun a w h => ⟨a1, 0, h.weak ⟨rfl, rfl, rfl, rfl, rfl, trivial⟩ [0] (by decide) rfl⟩) ?_
  rintro ⟨x5, x6, x7⟩ o1 hres hox1 aa ww ⟨a8, cp9, hS⟩
  refine (?_ : JX Go.Proofs.Try.prog w [] 49 _ _ [(0, .slice a_0 q0.length c_0), (1, .int .i64 q1), (5, .slice a8 x7.length cp9), (6, .bool x5), (7, .int .i64 x6)] [rowT 2 eI64 a8 x7.length cp9 x7] _) aa ww hS
  clear hS
  simp only [sh105_1] at hres
  refine JX.seq ?_
  refine JX.seq ?_
  refine JX.region ?_
  refine JL.val (yl_move rfl) rfl ?_
  refine JL.val (yl_move rfl) rfl ?_
  refine JL.val (yl_len_slice Go.Proofs.Try.underlying22 rfl) rfl ?_
  refine JL.val (yl_lss rfl rfl) rfl ?_
  refine JL.nil ?_
  refine JE.weak (env' := [(0, .slice a_0 q0.length c_0), (1, .int .i64 q1), (5, .slice a8 x7.length cp9), (6, .bool x5), (7, .int .i64 x6), (12, .bool (decide (x6 < (q0.length : Int))))]) (es' := [rowT 2 eI64 a8 x7.length cp9 x7]) [0] ?_ ⟨rfl, rfl, rfl, rfl, rfl, rfl, trivial⟩ (by decide) rfl
  refine JE.code ?_
  rcases cond_some hres with ⟨hb, hres⟩ | ⟨hb, hres⟩
  · refine JX.condT rfl hb ?_
    refine JX.skip ?_
    refine JE.code ?_
    refine JX.seq ?_
    refine JX.block ?_
    refine JX.seq ?_
    refine JX.seq ?_
    refine JX.region ?_
    refine JL.val (yl_move rfl) rfl ?_
    refine JL.val (yl_not rfl) rfl ?_
    refine JL.val (yl_move rfl) rfl ?_
    obtain ⟨cb10, hcb10, hres⟩ := bind_some hres
    refine JL.cut (K := fun J => J [(0, .slice a_0 q0.length c_0), (1, .int .i64 q1), (5, .slice a8 x7.length cp9), (6, .bool x5), (7, .int .i64 x6), (24, .bool cb10)] [rowT 2 eI64 a8 x7.length cp9 x7]) 7 ?_ ?_
    · refine JL.nil ?_
      refine JE.weak (env' := [(0, .slice a_0 q0.length c_0), (1, .int .i64 q1), (5, .slice a8 x7.length cp9), (6, .bool x5), (7, .int .i64 x6), (24, .bool cb10)]) (es' := [rowT 2 eI64 a8 x7.length cp9 x7]) [0] ?_ ⟨rfl, rfl, rfl, rfl, rfl, rfl, trivial⟩ (by decide) rfl
      refine JE.code ?_
      obtain ⟨j12, hj12, hresj12⟩ := bind_some hres
      refine JX.cut (K := fun J => ∀ (a13 : Option Addr) (cp14 : Nat), J [(0, .slice a_0 q0.length c_0), (1, .int .i64 q1), (5, .slice a13 j12.2.length cp14), (6, .bool j12.1), (7, .int .i64 x6)] [rowT 2 eI64 a13 j12.2.length cp14 j12.2]) ?_ ?_
      · intro a13 cp14
        have hres := hresj12
        refine JE.code ?_
        refine JX.region ?_
        refine JL.val (yl_move rfl) rfl ?_
        refine JL.val (yl_move rfl) rfl ?_
        refine JL.val (yl_move rfl) rfl ?_
        obtain ⟨x15, hx15, hres⟩ := bind_some hres
        refine JL.val (yl_idxT Go.Proofs.Try.underlying22 i2 i2s rfl rfl hx15 rfl (fun w hC => rd_arg g_0 hC)) rfl ?_
        refine JL.val (yl_loadT0 Go.Proofs.Try.underlying2 rfl rfl hx15 (fun w hC => rd_arg g_0 hC) rfl) rfl ?_
        refine JL.eff (ef_buildSlice (E := 2) (k := eI64.k) (us := eI64.fl [x15]) rfl (fun w => bsl22_1 x15 w) rfl (by decide)) rfl ?_
        rintro _ _ ⟨a16, rfl, rfl⟩
        obtain ⟨x18, hx18, hres⟩ := bind_some hres
        refine JL.eff (ef_appendT (ix := 0) Go.Proofs.Try.underlying22 i2 i2z i2s rfl i2b0 i2b1 rfl rfl rfl rfl rfl (fun w hC => rd_row hC 1 rfl) hx18) rfl ?_
        rintro _ _ ⟨a19, cp20, rfl, rfl⟩
        refine JL.val (yl_assign rfl) rfl ?_
        refine JL.nil ?_
        refine JE.weak (env' := [(0, .slice a_0 q0.length c_0), (1, .int .i64 q1), (5, .slice a19 x18.length cp20), (6, .bool j12.1), (7, .int .i64 x6)]) (es' := [rowT 2 eI64 a19 x18.length cp20 x18]) [0] ?_ ⟨rfl, rfl, rfl, rfl, rfl, trivial⟩ (by decide) rfl
        refine JE.code ?_
        refine JX.region ?_
        refine JL.val (yl_move rfl) rfl ?_
        refine JL.val (yl_add rfl rfl) rfl ?_
        refine JL.val (yl_assign rfl) rfl ?_
        refine JL.nil ?_
        refine JE.cont hres ?_
        exact fun a w h => ⟨a19, cp20, h.weak ⟨rfl, rfl, rfl, rfl, rfl, trivial⟩ [0] (by decide) rfl⟩
      · intro K
        rcases cond_some hj12 with ⟨hb, hres⟩ | ⟨hb, hres⟩
        · refine JX.condT rfl hb ?_
          refine JX.seq ?_
          refine JX.region ?_
          refine JL.val (yl_assign rfl) rfl ?_
          refine JL.nil ?_
          refine JE.code ?_
          refine JX.seq ?_
          refine JX.region ?_
          refine JL.val (yl_move rfl) rfl ?_
          refine JL.val (yl_move rfl) rfl ?_
          obtain ⟨x21, hx21, hres⟩ := bind_some hres
          refine JL.val (yl_idxT Go.Proofs.Try.underlying22 i2 i2s rfl rfl hx21 rfl (fun w hC => rd_arg g_0 hC)) rfl ?_
          refine JL.val (yl_loadT0 Go.Proofs.Try.underlying2 rfl rfl hx21 (fun w hC => rd_arg g_0 hC) rfl) rfl ?_
          refine JL.val (yl_move rfl) rfl ?_
          refine JL.val (yl_gtr rfl rfl) rfl ?_
          refine JL.nil ?_
          refine JE.weak (env' := [(0, .slice a_0 q0.length c_0), (1, .int .i64 q1), (5, .slice a8 x7.length cp9), (6, .bool true), (7, .int .i64 x6), (30, .bool (decide (q1 < x21)))]) (es' := [rowT 2 eI64 a8 x7.length cp9 x7]) [0] ?_ ⟨rfl, rfl, rfl, rfl, rfl, rfl, trivial⟩ (by decide) rfl
          refine JE.code ?_
          obtain ⟨j22, hj22, hresj22⟩ := bind_some hres
          refine JX.cut (K := fun J => ∀ (a23 : Option Addr) (cp24 : Nat), J [(0, .slice a_0 q0.length c_0), (1, .int .i64 q1), (5, .slice a23 j22.length cp24), (6, .bool true), (7, .int .i64 x6)] [rowT 2 eI64 a23 j22.length cp24 j22]) ?_ ?_
          · intro a23 cp24
            have hres := hresj22
            have hj := Option.some.inj hres
            exact JE.weak [0] (K a23 cp24) ⟨(by subst hj; rfl), (by subst hj; rfl), (by subst hj; rfl), (by subst hj; rfl), (by subst hj; rfl), trivial⟩ (by decide) (by subst hj; rfl)
          · intro K
            rcases cond_some hj22 with ⟨hb, hres⟩ | ⟨hb, hres⟩
            · refine JX.condT rfl hb ?_
              refine JX.region ?_
              refine JL.val (yl_move rfl) rfl ?_
              refine JL.val (yl_move rfl) rfl ?_
              refine JL.eff (ef_buildSlice (E := 2) (k := eI64.k) (us := eI64.fl [q1]) rfl (fun w => bsl22_1 q1 w) rfl (by decide)) rfl ?_
              rintro _ _ ⟨a25, rfl, rfl⟩
              obtain ⟨x27, hx27, hres⟩ := bind_some hres
              refine JL.eff (ef_appendT (ix := 0) Go.Proofs.Try.underlying22 i2 i2z i2s rfl i2b0 i2b1 rfl rfl rfl rfl rfl (fun w hC => rd_row hC 1 rfl) hx27) rfl ?_
              rintro _ _ ⟨a28, cp29, rfl, rfl⟩
              refine JL.val (yl_assign rfl) rfl ?_
              refine JL.nil ?_
              refine JE.weak (env' := [(0, .slice a_0 q0.length c_0), (1, .int .i64 q1), (5, .slice a28 x27.length cp29), (6, .bool true), (7, .int .i64 x6)]) (es' := [rowT 2 eI64 a28 x27.length cp29 x27]) [0] ?_ ⟨rfl, rfl, rfl, rfl, rfl, trivial⟩ (by decide) rfl
              have hj := Option.some.inj hres
              exact JE.weak [0] (K a28 cp29) ⟨(by subst hj; rfl), (by subst hj; rfl), (by subst hj; rfl), (by subst hj; rfl), (by subst hj; rfl), trivial⟩ (by decide) (by subst hj; rfl)
            · refine JX.condF rfl hb ?_
              refine JX.skip ?_
              have hj := Option.some.inj hres
              exact JE.weak [0] (K a8 cp9) ⟨(by subst hj; rfl), (by subst hj; rfl), (by subst hj; rfl), (by subst hj; rfl), (by subst hj; rfl), trivial⟩ (by decide) (by subst hj; rfl)
        · refine JX.condF rfl hb ?_
          refine JX.skip ?_
          have hj := Option.some.inj hres
          exact JE.weak [0] (K a8 cp9) ⟨(by subst hj; rfl), (by subst hj; rfl), (by subst hj; rfl), (by subst hj; rfl), (by subst hj; rfl), trivial⟩ (by decide) (by subst hj; rfl)
    · intro K
      rcases cond_some hcb10 with ⟨hb, hres⟩ | ⟨hb, hres⟩
      · refine JL.set (d := 17) (v := .bool true) (congrArg (fun b => some (Value.bool b)) hb) ?_
        refine JL.gval rfl rfl (yl_move rfl) rfl ?_
        refine JL.gval rfl rfl (yl_move rfl) rfl ?_
        obtain ⟨x11, hx11, hres⟩ := bind_some hres
        refine JL.gval rfl rfl (yl_idxT Go.Proofs.Try.underlying22 i2 i2s rfl rfl hx11 rfl (fun w hC => rd_arg g_0 hC)) rfl ?_
        refine JL.gval rfl rfl (yl_loadT0 Go.Proofs.Try.underlying2 rfl rfl hx11 (fun w hC => rd_arg g_0 hC) rfl) rfl ?_
        refine JL.gval rfl rfl (yl_move rfl) rfl ?_
        refine JL.gval rfl rfl (yl_geq rfl rfl) rfl ?_
        refine JL.val (yl_pick_true rfl rfl) rfl ?_
        have he := Option.some.inj hres
        exact JL.weak [0] K ⟨rfl, rfl, rfl, rfl, rfl, (by rw [← he]; rfl), trivial⟩ (by decide) rfl
      · refine JL.set (d := 17) (v := .bool false) (congrArg (fun b => some (Value.bool b)) hb) ?_
        refine JL.gskip rfl rfl rfl rfl ?_
        refine JL.gskip rfl rfl rfl rfl ?_
        refine JL.gskip rfl rfl rfl rfl ?_
        refine JL.gskip rfl rfl rfl rfl ?_
        refine JL.gskip rfl rfl rfl rfl ?_
        refine JL.gskip rfl rfl rfl rfl ?_
        refine JL.val (yl_pick_false rfl rfl) rfl ?_
        have he := Option.some.inj hres
        exact JL.weak [0] K ⟨rfl, rfl, rfl, rfl, rfl, (by rw [← he]; rfl), trivial⟩ (by decide) rfl
  · refine JX.condF rfl hb ?_
    refine JX.exit ?_
    refine JE.qb rfl ?_
    obtain ⟨b1, hb1⟩ : ∃ b : Bool × List Int, b = (x5, x7) := ⟨_, rfl⟩
    have hy1 : b1 = y1 := by rw [hb1]; exact hox1 _ (Option.some.inj hres).symm
    have hres := hresO1
    rw [← hy1] at hres
    refine JE.weak (env' := [(1, .int .i64 q1), (5, .slice a8 b1.2.length cp9), (6, .bool b1.1)]) (es' := [rowT 2 eI64 a8 b1.2.length cp9 b1.2]) [0] ?_ ⟨(by subst hb1; rfl), (by subst hb1; rfl), (by subst hb1; rfl), trivial⟩ (by decide) (by subst hb1; rfl)
    refine JE.code ?_
    refine JX.seq ?_
    refine JX.seq ?_
    refine JX.region ?_
    refine JL.val (yl_move rfl) rfl ?_
    refine JL.val (yl_not rfl) rfl ?_
    refine JL.nil ?_
    refine JE.code ?_
    obtain ⟨j32, hj32, hresj32⟩ := bind_some hres
    refine JX.cut (K := fun J => ∀ (a33 : Option Addr) (cp34 : Nat), J [(5, .slice a33 j32.length cp34)] [rowT 2 eI64 a33 j32.length cp34 j32]) ?_ ?_
    · intro a33 cp34
      have hres := hresj32
      refine JE.code ?_
      refine JX.seq ?_
      refine JX.region ?_
      refine JL.val (yl_move rfl) rfl ?_
      refine JL.val (yl_assign rfl) rfl ?_
      refine JL.nil ?_
      refine JE.code ?_
      refine JX.ret ?_
      obtain rfl := Option.some.inj hres
      refine JE.ret (rs := [.tmp 4]) (vs := [.slice a33 j32.length cp34]) rfl ⟨rfl, trivial⟩ ?_
      exact fun w' hb hs => ⟨_, _, ⟨a33, j32.length, cp34, rfl, rfl, rfl⟩, rfl, hb, hs.sel [0] _ (by decide) rfl⟩
    · intro K
      rcases cond_some hj32 with ⟨hb, hres⟩ | ⟨hb, hres⟩
      · refine JX.condT rfl hb ?_
        refine JX.region ?_
        refine JL.val (yl_move rfl) rfl ?_
        refine JL.val (yl_move rfl) rfl ?_
        refine JL.eff (ef_buildSlice (E := 2) (k := eI64.k) (us := eI64.fl [q1]) rfl (fun w => bsl22_1 q1 w) rfl (by decide)) rfl ?_
        rintro _ _ ⟨a35, rfl, rfl⟩
        obtain ⟨x37, hx37, hres⟩ := bind_some hres
        refine JL.eff (ef_appendT (ix := 0) Go.Proofs.Try.underlying22 i2 i2z i2s rfl i2b0 i2b1 rfl rfl rfl rfl rfl (fun w hC => rd_row hC 1 rfl) hx37) rfl ?_
        rintro _ _ ⟨a38, cp39, rfl, rfl⟩
        refine JL.val (yl_assign rfl) rfl ?_
        refine JL.nil ?_
        refine JE.weak (env' := [(5, .slice a38 x37.length cp39)]) (es' := [rowT 2 eI64 a38 x37.length cp39 x37]) [0] ?_ ⟨rfl, trivial⟩ (by decide) rfl
        have hj := Option.some.inj hres
        exact JE.weak [0] (K a38 cp39) ⟨(by subst hj; rfl), trivial⟩ (by decide) (by subst hj; rfl)
      · refine JX.condF rfl hb ?_
        refine JX.skip ?_
        have hj := Option.some.inj hres
        exact JE.weak [0] (K a8 cp9) ⟨(by subst hj; rfl), trivial⟩ (by decide) (by subst hj; rfl)

end Go.Sh
