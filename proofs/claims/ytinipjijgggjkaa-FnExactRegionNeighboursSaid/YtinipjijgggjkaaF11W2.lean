/- Walks through functions that the law reaches, printed by program. -/
import Derived.Test.YtinipjijgggjkaaF11W1
set_option linter.unusedVariables false
set_option linter.unusedSimpArgs false
namespace Go.Sh
open Go Go.RowKit
/- impl.RegionNeighbours -/
def sh44_2 (x3 : List SPoint × (List (SPoint × Int)) × Int) (x18 : SPoint) : (Int × List Int) → Option ((Int × List Int) ⊕ (List Int))
  | (x23, x24) => bif decide (x23 < 4) then (Option.bind (getI ([A112.mk (-1) (-1), A112.mk (-1) 1, A112.mk 1 (-1), A112.mk 1 1] : List A112) x23) fun x27 => Option.bind (getI [x27.a0, x27.a1] (0 : Int)) fun x30 => Option.bind (getI [x27.a0, x27.a1] (1 : Int)) fun x31 => Option.bind (bif (mfind x3.2.1 (SPoint.mk (w64 (x18.X + x30)) (w64 (x18.Y + x31)))).isSome then (Option.bind (appL x24 [(mfind x3.2.1 (SPoint.mk (w64 (x18.X + x30)) (w64 (x18.Y + x31)))).getD 0]) fun x37 => some x37) else (some x24)) fun j32 => (some (.inl (w64 (x23 + 1), j32)))) else (some (.inr x24))
def sh44_1 (x3 : List SPoint × (List (SPoint × Int)) × Int) : (Int × List Int) → Option ((Int × List Int) ⊕ (List Int))
  | (x14, x15) => bif decide (x14 < (x3.1.length : Int)) then (Option.bind (getI x3.1 x14) fun x18 => Option.bind (iter (sh44_2 x3 x18) (0, x15)) fun b2 => (some (.inl (w64 (x14 + 1), b2)))) else (some (.inr x15))
def sh44 (q0 : SPanel) (q1 : Int) : Option (List Int × Int) := Option.bind (sh90 q0 q1) fun x3 => bif x3.2.2 != 0 then (some (([] : List Int), x3.2.2)) else (Option.bind (iter (sh44_1 x3) (0, ([] : List Int))) fun b1 => (Option.bind (sortR b1) fun x44 => Option.bind (compR x44) fun x45 => some (x45, 0)))
def T44 (r : List Int × Int) (v : Value) (rs : List Own) : Prop := ∃ (a0 : Option Addr) (n0 c0 : Nat), r.1.length = n0 ∧ v = rets [.slice a0 n0 c0, .int .i64 r.2] ∧ rs = [rowT 2 eI64 a0 n0 c0 r.1]
set_option maxRecDepth 100000 in
theorem c44 {w : World} {q0 : SPanel} {a_0_2 : Option Addr} {n_0_2 c_0_2 : Nat} (g_0_2 : Rd w a_0_2 (eI64.fl q0.Breaks)) (l_0_2 : q0.Breaks.length = n_0_2) (k_0_2 : n_0_2 ≤ c_0_2) {q1 : Int} {r : List Int × Int} (hres : sh44 q0 q1 = some r) : Calls Go.Proofs.Try.prog 44 [.agg #[.int .i64 q0.W, .int .i64 q0.H, .slice a_0_2 n_0_2 c_0_2], .int .i64 q1].toArray w (Ret w (T44 r)) := by
  subst l_0_2
  unfold sh44 at hres
  refine calls_of (n := 68) (M := []) (es := []) Go.Proofs.Try.func44 rfl rfl rfl (Sep.nil _ _ _) ?_
  refine JX.seq ?_
  refine JX.region ?_
  refine JL.eff (ef_box rfl rfl) rfl ?_
  rintro _ _ ⟨g1, rfl, rfl⟩
  refine JL.val (yl_assign rfl) rfl ?_
  refine JL.val (yl_assign rfl) rfl ?_
  refine JL.nil ?_
  refine JE.code ?_
  refine JX.seq ?_
  refine JX.region ?_
  refine JL.val (yl_loadn Go.Proofs.Try.underlying28 rfl i28 rfl (fun w hC => rd_box hC 0 rfl) rfl (i28s).symm i28p) rfl ?_
  refine JL.val (yl_move rfl) rfl ?_
  obtain ⟨x3, hx3, hres⟩ := bind_some hres
  refine JL.eff (ef_call (vs := [.agg #[.int .i64 q0.W, .int .i64 q0.H, .slice a_0_2 q0.Breaks.length c_0_2], .int .i64 q1]) (T := T90 x3) Go.Proofs.Try.func90 rfl (by kernel_rfl) rfl (fun w hC => c90 (q0 := q0) (rd_arg g_0_2 hC) rfl k_0_2 hx3)) rfl ?_
  rintro _ _ ⟨_, ⟨a4, _, cp5, rfl, o7, rfl, rfl⟩, rfl⟩
  refine JL.val (yl_move rfl) rfl ?_
  refine JL.val (yl_extract rfl rfl) rfl ?_
  refine JL.val (yl_extract rfl rfl) rfl ?_
  refine JL.val (yl_extract rfl rfl) rfl ?_
  refine JL.val (yl_assign rfl) rfl ?_
  refine JL.val (yl_assign rfl) rfl ?_
  refine JL.val (yl_assign rfl) rfl ?_
  refine JL.nil ?_
  refine JE.weak (env' := [(6, .slice a4 x3.1.length cp5), (7, .map o7), (8, .int .i64 x3.2.2)]) (es' := [rowT 35 eSPoint a4 x3.1.length cp5 x3.1, mapI eSPoint o7 x3.2.1]) [1, 2] ?_ ⟨rfl, rfl, rfl, trivial⟩ (by decide) rfl
  refine JE.code ?_
  refine JX.seq ?_
  refine JX.seq ?_
  refine JX.region ?_
  refine JL.val (yl_move rfl) rfl ?_
  refine JL.val (yl_neq rfl rfl) rfl ?_
  refine JL.nil ?_
  refine JE.code ?_
  rcases cond_some hres with ⟨hb, hres⟩ | ⟨hb, hres⟩
  · refine JX.condT rfl hb ?_
    refine JX.seq ?_
    refine JX.region ?_
    refine JL.val (yl_move rfl) rfl ?_
    refine JL.val (yl_assign rfl) rfl ?_
    refine JL.val (yl_assign rfl) rfl ?_
    refine JL.nil ?_
    refine JE.weak (env' := [(4, .slice none 0 0), (5, .int .i64 x3.2.2)]) (es' := []) [] ?_ ⟨rfl, rfl, trivial⟩ (by decide) rfl
    refine JE.code ?_
    refine JX.ret ?_
    refine JE.nilrow 2 eI64 ?_
    obtain rfl := Option.some.inj hres
    refine JE.ret (rs := [.tmp 4, .tmp 5]) (vs := [.slice none 0 0, .int .i64 x3.2.2]) rfl ⟨rfl, rfl, trivial⟩ ?_
    exact fun w' hb hs => ⟨_, _, ⟨none, 0, 0, rfl, rfl, rfl⟩, rfl, hb, hs.sel [0] _ (by decide) rfl⟩
  · refine JX.condF rfl hb ?_
    refine JX.skip ?_
    refine JE.code ?_
    refine JX.seq ?_
    refine JX.region ?_
    refine JL.eff (ef_buildSlice (E := 2) (k := eI64.k) (us := eI64.fl ([] : List Int)) rfl (fun w => bsl22_0  w) rfl (by decide)) rfl ?_
    rintro _ _ ⟨a10, rfl, rfl⟩
    refine JL.val (yl_assign rfl) rfl ?_
    refine JL.nil ?_
    refine JE.code ?_
    refine JX.seq ?_
    refine JX.seq ?_
    refine JX.region ?_
    refine JL.val (yl_move rfl) rfl ?_
    refine JL.val (yl_len_slice Go.Proofs.Try.underlying61 rfl) rfl ?_
    refine JL.val (yl_move rfl) rfl ?_
    refine JL.nil ?_
    refine JE.code ?_
    refine JX.block ?_
    obtain ⟨y1, hy1, hresO1⟩ := bind_some hres
    refine JX.loop (I := fun (s1 : Int × List Int) aa ww => ∃ (a12 : Option Addr) (cp13 : Nat), St w [] 68 [(7, .map o7), (9, .slice a12 s1.2.length cp13), (27, .slice a4 x3.1.length cp5), (28, .int .i64 (x3.1.length : Int)), (29, .int .i64 s1.1)] [mapI eSPoint o7 x3.2.1, rowT 2 eI64 a12 s1.2.length cp13 s1.2, rowT 35 eSPoint a4 x3.1.length cp5 x3.1] aa ww) (sh44_1 x3) hy1 (fun a w h => ⟨a10, 0, h.weak ⟨rfl, rfl, rfl, rfl, rfl, trivial⟩ [1, 2, 0] (by decide) rfl⟩) ?_
    rintro ⟨x14, x15⟩ o1 hres hox1 aa ww ⟨a16, cp17, hS⟩
    refine (?_ : JX Go.Proofs.Try.prog w [] 68 _ _ [(7, .map o7), (9, .slice a16 x15.length cp17), (27, .slice a4 x3.1.length cp5), (28, .int .i64 (x3.1.length : Int)), (29, .int .i64 x14)] [mapI eSPoint o7 x3.2.1, rowT 2 eI64 a16 x15.length cp17 x15, rowT 35 eSPoint a4 x3.1.length cp5 x3.1] _) aa ww hS
    clear hS
    simp only [sh44_1] at hres
    refine JX.seq ?_
    refine JX.region ?_
    refine JL.val (yl_lss rfl rfl) rfl ?_
    refine JL.nil ?_
    refine JE.code ?_
    refine JX.seq ?_
    rcases cond_some hres with ⟨hb, hres⟩ | ⟨hb, hres⟩
    · refine JX.condT rfl hb ?_
      refine JX.skip ?_
      refine JE.code ?_
      refine JX.seq ?_
      refine JX.block ?_
      refine JX.seq ?_
      refine JX.region ?_
      obtain ⟨x18, hx18, hres⟩ := bind_some hres
      refine JL.val (yl_idxT Go.Proofs.Try.underlying61 i35 i35s rfl rfl hx18 rfl (fun w hC => rd_row hC 2 rfl)) rfl ?_
      refine JL.val (yl_loadTn Go.Proofs.Try.underlying35 rfl i35 i35s rfl hx18 (fun w hC => rd_row hC 2 rfl)) rfl ?_
      refine JL.eff (ef_alloc i35 i35z rfl) rfl ?_
      rintro _ _ ⟨g19, rfl, rfl⟩
      refine JL.eff (ef_store_box (i := 3) (v := .agg #[.int .i64 x18.X, .int .i64 x18.Y]) i35 rfl rfl rfl (i35s).symm (Nat.le_of_ble_eq_true rfl) (by simp [Value.cells, Value.oneCell'])) rfl ?_
      rintro _ _ rfl
      refine JL.nil ?_
      refine JE.weak (env' := [(7, .map o7), (9, .slice a16 x15.length cp17), (11, ptrAt (some ⟨g19, 0, none⟩) 0), (27, .slice a4 x3.1.length cp5), (28, .int .i64 (x3.1.length : Int)), (29, .int .i64 x14)]) (es' := [mapI eSPoint o7 x3.2.1, rowT 2 eI64 a16 x15.length cp17 x15, boxO 35 g19 [.int .i64 x18.X, .int .i64 x18.Y], rowT 35 eSPoint a4 x3.1.length cp5 x3.1]) [0, 1, 3, 2] ?_ ⟨rfl, rfl, rfl, rfl, rfl, rfl, trivial⟩ (by decide) rfl
      refine JE.code ?_
      refine JX.seq ?_
      refine JX.region ?_
      refine JL.val (yl_build rfl (fun w => bld112_0_1 (-1) (-1) w)) rfl ?_
      refine JL.val (yl_build rfl (fun w => bld112_0_1 (-1) 1 w)) rfl ?_
      refine JL.val (yl_build rfl (fun w => bld112_0_1 1 (-1) w)) rfl ?_
      refine JL.val (yl_build rfl (fun w => bld112_0_1 1 1 w)) rfl ?_
      refine JL.val (yl_build rfl (fun w => bld113_0_1_2_3 (-1) (-1) (-1) 1 1 (-1) 1 1 w)) rfl ?_
      refine JL.val (yl_move rfl) rfl ?_
      refine JL.nil ?_
      refine JE.weak (env' := [(7, .map o7), (9, .slice a16 x15.length cp17), (11, ptrAt (some ⟨g19, 0, none⟩) 0), (27, .slice a4 x3.1.length cp5), (28, .int .i64 (x3.1.length : Int)), (29, .int .i64 x14), (37, .agg #[.int .i64 (-1), .int .i64 (-1), .int .i64 (-1), .int .i64 1, .int .i64 1, .int .i64 (-1), .int .i64 1, .int .i64 1]), (38, .int .i64 0)]) (es' := [mapI eSPoint o7 x3.2.1, rowT 2 eI64 a16 x15.length cp17 x15, boxO 35 g19 [.int .i64 x18.X, .int .i64 x18.Y], rowT 35 eSPoint a4 x3.1.length cp5 x3.1]) [0, 1, 2, 3] ?_ ⟨rfl, rfl, rfl, rfl, rfl, rfl, rfl, rfl, trivial⟩ (by decide) rfl
      refine JE.code ?_
      refine JX.block ?_
      obtain ⟨y2, hy2, hresO2⟩ := bind_some hres
      refine JX.loop (I := fun (s2 : Int × List Int) aa ww => ∃ (a21 : Option Addr) (cp22 : Nat), St w [] 68 [(7, .map o7), (9, .slice a21 s2.2.length cp22), (11, ptrAt (some ⟨g19, 0, none⟩) 0), (27, .slice a4 x3.1.length cp5), (28, .int .i64 (x3.1.length : Int)), (29, .int .i64 x14), (37, .agg #[.int .i64 (-1), .int .i64 (-1), .int .i64 (-1), .int .i64 1, .int .i64 1, .int .i64 (-1), .int .i64 1, .int .i64 1]), (38, .int .i64 s2.1)] [mapI eSPoint o7 x3.2.1, rowT 2 eI64 a21 s2.2.length cp22 s2.2, boxO 35 g19 [.int .i64 x18.X, .int .i64 x18.Y], rowT 35 eSPoint a4 x3.1.length cp5 x3.1] aa ww) (sh44_2 x3 x18) hy2 (fun a w h => ⟨a16, cp17, h.weak ⟨rfl, rfl, rfl, rfl, rfl, rfl, rfl, rfl, trivial⟩ [0, 1, 2, 3] (by decide) rfl⟩) ?_
      rintro ⟨x23, x24⟩ o2 hres hox2 aa ww ⟨a25, cp26, hS⟩
      refine (?_ : JX Go.Proofs.Try.prog w [] 68 _ _ [(7, .map o7), (9, .slice a25 x24.length cp26), (11, ptrAt (some ⟨g19, 0, none⟩) 0), (27, .slice a4 x3.1.length cp5), (28, .int .i64 (x3.1.length : Int)), (29, .int .i64 x14), (37, .agg #[.int .i64 (-1), .int .i64 (-1), .int .i64 (-1), .int .i64 1, .int .i64 1, .int .i64 (-1), .int .i64 1, .int .i64 1]), (38, .int .i64 x23)] [mapI eSPoint o7 x3.2.1, rowT 2 eI64 a25 x24.length cp26 x24, boxO 35 g19 [.int .i64 x18.X, .int .i64 x18.Y], rowT 35 eSPoint a4 x3.1.length cp5 x3.1] _) aa ww hS
      clear hS
      simp only [sh44_2] at hres
      refine JX.seq ?_
      refine JX.region ?_
      refine JL.val (yl_lss rfl rfl) rfl ?_
      refine JL.nil ?_
      refine JE.code ?_
      refine JX.seq ?_
      rcases cond_some hres with ⟨hb, hres⟩ | ⟨hb, hres⟩
      · refine JX.condT rfl hb ?_
        refine JX.skip ?_
        refine JE.code ?_
        refine JX.seq ?_
        refine JX.block ?_
        refine JX.seq ?_
        refine JX.region ?_
        obtain ⟨x27, hx27, hres⟩ := bind_some hres
        refine JL.val (yl_idxVT (e := eA112) (xs := [A112.mk (-1) (-1), A112.mk (-1) 1, A112.mk 1 (-1), A112.mk 1 1]) Go.Proofs.Try.underlying113 Go.Proofs.Try.underlying112 rfl i112 i112s rfl rfl rfl hx27) rfl ?_
        refine JL.eff (ef_alloc i112 i112z rfl) rfl ?_
        rintro _ _ ⟨g28, rfl, rfl⟩
        refine JL.boxrow eI64 4 (m := 2) (List.replicate 2 (0 : Int)) rfl rfl (Nat.le_of_ble_eq_true rfl) rfl ?_
        refine JL.eff (ef_storeArr (ix := 4) (ys := [x27.a0, x27.a1]) i112 rfl rfl rfl rfl (i112s.trans rfl) i112p rfl) rfl ?_
        rintro _ _ rfl
        refine JL.nil ?_
        refine JE.code ?_
        refine JX.seq ?_
        refine JX.region ?_
        refine JL.val (yl_move rfl) rfl ?_
        refine JL.val (yl_fieldAt (a := some _) Go.Proofs.Try.underlying35 rfl i2 i2n rfl rfl) rfl ?_
        refine JL.val (yl_load1 Go.Proofs.Try.underlying2 rfl rfl (fun w hC => rd_box hC 2 rfl) rfl) rfl ?_
        obtain ⟨x30, hx30, hres⟩ := bind_some hres
        refine JL.val (yl_idxArr (e := eI64) Go.Proofs.Try.underlying112 i2 i2s rfl rfl hx30 (rfl : [x27.a0, x27.a1].length = 2)) rfl ?_
        refine JL.val (yl_loadT0 Go.Proofs.Try.underlying2 rfl rfl hx30 (fun w hC => rd_row hC 4 rfl) rfl) rfl ?_
        refine JL.val (yl_add rfl rfl) rfl ?_
        refine JL.val (yl_fieldAt (a := some _) Go.Proofs.Try.underlying35 rfl i2 i2n rfl rfl) rfl ?_
        refine JL.val (yl_load1 Go.Proofs.Try.underlying2 rfl rfl (fun w hC => rd_box hC 2 rfl) rfl) rfl ?_
        obtain ⟨x31, hx31, hres⟩ := bind_some hres
        refine JL.val (yl_idxArr (e := eI64) Go.Proofs.Try.underlying112 i2 i2s rfl rfl hx31 (rfl : [x27.a0, x27.a1].length = 2)) rfl ?_
        refine JL.val (yl_loadT0 Go.Proofs.Try.underlying2 rfl rfl hx31 (fun w hC => rd_row hC 4 rfl) rfl) rfl ?_
        refine JL.val (yl_add rfl rfl) rfl ?_
        refine JL.val (yl_build rfl (fun w => bld35_0_1 (w64 (x18.X + x30)) (w64 (x18.Y + x31)) w)) rfl ?_
        refine JL.val (yl_lookIok (e := eSPoint) (mi := x3.2.1) (k := SPoint.mk (w64 (x18.X + x30)) (w64 (x18.Y + x31))) Go.Proofs.Try.underlying91 zv2 keyOk35 rfl rfl (fun w hC => rd_mapI hC 0 rfl)) rfl ?_
        refine JL.val (yl_move rfl) rfl ?_
        refine JL.val (yl_extract rfl rfl) rfl ?_
        refine JL.val (yl_extract rfl rfl) rfl ?_
        refine JL.val (yl_assign rfl) rfl ?_
        refine JL.val (yl_assign rfl) rfl ?_
        refine JL.nil ?_
        refine JE.weak (env' := [(7, .map o7), (9, .slice a25 x24.length cp26), (11, ptrAt (some ⟨g19, 0, none⟩) 0), (14, .int .i64 ((mfind x3.2.1 (SPoint.mk (w64 (x18.X + x30)) (w64 (x18.Y + x31)))).getD 0)), (15, .bool ((mfind x3.2.1 (SPoint.mk (w64 (x18.X + x30)) (w64 (x18.Y + x31)))).isSome)), (27, .slice a4 x3.1.length cp5), (28, .int .i64 (x3.1.length : Int)), (29, .int .i64 x14), (37, .agg #[.int .i64 (-1), .int .i64 (-1), .int .i64 (-1), .int .i64 1, .int .i64 1, .int .i64 (-1), .int .i64 1, .int .i64 1]), (38, .int .i64 x23)]) (es' := [mapI eSPoint o7 x3.2.1, rowT 2 eI64 a25 x24.length cp26 x24, boxO 35 g19 [.int .i64 x18.X, .int .i64 x18.Y], rowT 35 eSPoint a4 x3.1.length cp5 x3.1]) [0, 1, 2, 3] ?_ ⟨rfl, rfl, rfl, rfl, rfl, rfl, rfl, rfl, rfl, rfl, trivial⟩ (by decide) rfl
        refine JE.code ?_
        refine JX.seq ?_
        refine JX.region ?_
        refine JL.val (yl_move rfl) rfl ?_
        refine JL.nil ?_
        refine JE.code ?_
        obtain ⟨j32, hj32, hresj32⟩ := bind_some hres
        refine JX.cut (K := fun J => ∀ (a33 : Option Addr) (cp34 : Nat), J [(7, .map o7), (9, .slice a33 j32.length cp34), (11, ptrAt (some ⟨g19, 0, none⟩) 0), (27, .slice a4 x3.1.length cp5), (28, .int .i64 (x3.1.length : Int)), (29, .int .i64 x14), (37, .agg #[.int .i64 (-1), .int .i64 (-1), .int .i64 (-1), .int .i64 1, .int .i64 1, .int .i64 (-1), .int .i64 1, .int .i64 1]), (38, .int .i64 x23)] [mapI eSPoint o7 x3.2.1, rowT 2 eI64 a33 j32.length cp34 j32, boxO 35 g19 [.int .i64 x18.X, .int .i64 x18.Y], rowT 35 eSPoint a4 x3.1.length cp5 x3.1]) ?_ ?_
        · intro a33 cp34
          have hres := hresj32
          refine JE.code ?_
          refine JX.region ?_
          refine JL.val (yl_add rfl rfl) rfl ?_
          refine JL.val (yl_move rfl) rfl ?_
          refine JL.nil ?_
          refine JE.cont hres ?_
          exact fun a w h => ⟨a33, cp34, h.weak ⟨rfl, rfl, rfl, rfl, rfl, rfl, rfl, rfl, trivial⟩ [0, 1, 2, 3] (by decide) rfl⟩
        · intro K
          rcases cond_some hj32 with ⟨hb, hres⟩ | ⟨hb, hres⟩
          · refine JX.condT rfl hb ?_
            refine JX.region ?_
            refine JL.val (yl_move rfl) rfl ?_
            refine JL.val (yl_move rfl) rfl ?_
            refine JL.eff (ef_buildSlice (E := 2) (k := eI64.k) (us := eI64.fl [(mfind x3.2.1 (SPoint.mk (w64 (x18.X + x30)) (w64 (x18.Y + x31)))).getD 0]) rfl (fun w => bsl22_1 ((mfind x3.2.1 (SPoint.mk (w64 (x18.X + x30)) (w64 (x18.Y + x31)))).getD 0) w) rfl (by decide)) rfl ?_
            rintro _ _ ⟨a35, rfl, rfl⟩
            obtain ⟨x37, hx37, hres⟩ := bind_some hres
            refine JL.eff (ef_appendT (ix := 1) Go.Proofs.Try.underlying22 i2 i2z i2s rfl i2b0 i2b1 rfl rfl rfl rfl rfl (fun w hC => rd_row hC 4 rfl) hx37) rfl ?_
            rintro _ _ ⟨a38, cp39, rfl, rfl⟩
            refine JL.val (yl_assign rfl) rfl ?_
            refine JL.nil ?_
            refine JE.weak (env' := [(7, .map o7), (9, .slice a38 x37.length cp39), (11, ptrAt (some ⟨g19, 0, none⟩) 0), (27, .slice a4 x3.1.length cp5), (28, .int .i64 (x3.1.length : Int)), (29, .int .i64 x14), (37, .agg #[.int .i64 (-1), .int .i64 (-1), .int .i64 (-1), .int .i64 1, .int .i64 1, .int .i64 (-1), .int .i64 1, .int .i64 1]), (38, .int .i64 x23)]) (es' := [mapI eSPoint o7 x3.2.1, rowT 2 eI64 a38 x37.length cp39 x37, boxO 35 g19 [.int .i64 x18.X, .int .i64 x18.Y], rowT 35 eSPoint a4 x3.1.length cp5 x3.1]) [0, 1, 2, 3] ?_ ⟨rfl, rfl, rfl, rfl, rfl, rfl, rfl, rfl, trivial⟩ (by decide) rfl
            have hj := Option.some.inj hres
            exact JE.weak [0, 1, 2, 3] (K a38 cp39) ⟨(by subst hj; rfl), (by subst hj; rfl), (by subst hj; rfl), (by subst hj; rfl), (by subst hj; rfl), (by subst hj; rfl), (by subst hj; rfl), (by subst hj; rfl), trivial⟩ (by decide) (by subst hj; rfl)
          · refine JX.condF rfl hb ?_
            refine JX.skip ?_
            have hj := Option.some.inj hres
            exact JE.weak [0, 1, 2, 3] (K a25 cp26) ⟨(by subst hj; rfl), (by subst hj; rfl), (by subst hj; rfl), (by subst hj; rfl), (by subst hj; rfl), (by subst hj; rfl), (by subst hj; rfl), (by subst hj; rfl), trivial⟩ (by decide) (by subst hj; rfl)
      · refine JX.condF rfl hb ?_
        refine JX.exit ?_
        refine JE.qb rfl ?_
        obtain ⟨b2, hb2⟩ : ∃ b : List Int, b = x24 := ⟨_, rfl⟩
        have hy2 : b2 = y2 := by rw [hb2]; exact hox2 _ (Option.some.inj hres).symm
        have hres := hresO2
        rw [← hy2] at hres
        refine JE.weak (env' := [(7, .map o7), (9, .slice a25 b2.length cp26), (27, .slice a4 x3.1.length cp5), (28, .int .i64 (x3.1.length : Int)), (29, .int .i64 x14)]) (es' := [mapI eSPoint o7 x3.2.1, rowT 2 eI64 a25 b2.length cp26 b2, rowT 35 eSPoint a4 x3.1.length cp5 x3.1]) [0, 1, 3] ?_ ⟨(by subst hb2; rfl), (by subst hb2; rfl), (by subst hb2; rfl), (by subst hb2; rfl), (by subst hb2; rfl), trivial⟩ (by decide) (by subst hb2; rfl)
        refine JE.code ?_
        refine JX.region ?_
        refine JL.val (yl_add rfl rfl) rfl ?_
        refine JL.val (yl_move rfl) rfl ?_
        refine JL.nil ?_
        refine JE.cont hres ?_
        exact fun a w h => ⟨a25, cp26, h.weak ⟨rfl, rfl, rfl, rfl, rfl, trivial⟩ [0, 1, 2] (by decide) rfl⟩
    · refine JX.condF rfl hb ?_
      refine JX.exit ?_
      refine JE.qb rfl ?_
      obtain ⟨b1, hb1⟩ : ∃ b : List Int, b = x15 := ⟨_, rfl⟩
      have hy1 : b1 = y1 := by rw [hb1]; exact hox1 _ (Option.some.inj hres).symm
      have hres := hresO1
      rw [← hy1] at hres
      refine JE.weak (env' := [(9, .slice a16 b1.length cp17)]) (es' := [rowT 2 eI64 a16 b1.length cp17 b1]) [1] ?_ ⟨(by subst hb1; rfl), trivial⟩ (by decide) (by subst hb1; rfl)
      refine JE.code ?_
      refine JX.seq ?_
      refine JX.region ?_
      refine JL.val (yl_move rfl) rfl ?_
      obtain ⟨x44, hx44, hres⟩ := bind_some hres
      refine JL.eff (ef_callms (caps := []) (vs := [.slice a16 b1.length cp17]) (T := fun v es1 rs1 => v = .tuple #[] ∧ es1 = [rowT 2 eI64 a16 b1.length cp17 x44] ∧ rs1 = []) [0] [] [rowT 2 eI64 a16 b1.length cp17 b1] [] rfl Go.Proofs.Try.func106 rfl (by kernel_rfl) rfl (by decide) rfl rfl (fun w N hF hS => sort_ad Go.Proofs.Try.slices_Sort_int Go.Proofs.Try.slices_Sort_int_none hS rfl hx44)) rfl ?_
      rintro _ _ ⟨_, _, ⟨rfl, rfl, rfl⟩, rfl⟩
      refine JL.nil ?_
      refine JE.code ?_
      refine JX.seq ?_
      refine JX.region ?_
      refine JL.val (yl_move rfl) rfl ?_
      obtain ⟨x45, hx45, hres⟩ := bind_some hres
      refine JL.eff (ef_callms (caps := []) (vs := [.slice a16 b1.length cp17]) (T := fun v es1 rs1 => v = .slice a16 x45.length cp17 ∧ es1 = [rowT 2 eI64 a16 x45.length cp17 x45] ∧ rs1 = []) [0] [] [rowT 2 eI64 a16 b1.length cp17 x44] [] rfl Go.Proofs.Try.func107 rfl (by kernel_rfl) rfl (by decide) rfl rfl (fun w N hF hS => compact_ad Go.Proofs.Try.slices_Compact_int Go.Proofs.Try.slices_Compact_int_empty hS (sortR_len hx44) hx45)) rfl ?_
      rintro _ _ ⟨_, _, ⟨rfl, rfl, rfl⟩, rfl⟩
      refine JL.val (yl_assign rfl) rfl ?_
      refine JL.val (yl_assign rfl) rfl ?_
      refine JL.nil ?_
      refine JE.weak (env' := [(4, .slice a16 x45.length cp17), (5, .int .i64 0)]) (es' := [rowT 2 eI64 a16 x45.length cp17 x45]) [0] ?_ ⟨rfl, rfl, trivial⟩ (by decide) rfl
      refine JE.code ?_
      refine JX.ret ?_
      obtain rfl := Option.some.inj hres
      refine JE.ret (rs := [.tmp 4, .tmp 5]) (vs := [.slice a16 x45.length cp17, .int .i64 0]) rfl ⟨rfl, rfl, trivial⟩ ?_
      exact fun w' hb hs => ⟨_, _, ⟨a16, x45.length, cp17, rfl, rfl, rfl⟩, rfl, hb, hs.sel [0] _ (by decide) rfl⟩

/- laws.FnExactRegionNeighbours -/
def sh11 (q0 : SPanel) (q1 : Int) : Option (Bool) := Option.bind (sh15 q0 1048576) fun x3 => bif decide (x3 < 0) then (some true) else (Option.bind (sh17 q0) fun x4 => Option.bind (sh43 x4 q1) fun x8 => Option.bind (sh17 q0) fun x12 => Option.bind (sh44 x12 q1) fun x18 => Option.bind (sh34 x18.1 x8.1) fun x22 => bif !x22 || (x18.2 != x8.2) then (some false) else (Option.bind (sh17 q0) fun x24 => Option.bind (sh19 x12 x24) fun x28 => bif !x28 then (some false) else (Option.bind (sh28 x12 1) fun x29 => Option.bind (bif decide (x29.1 < 0) then (some true) else (Option.bind (sh34 x18.1 x8.1) fun x32 => some !x32)) fun cb31 => (bif cb31 || (x18.2 != x8.2) then (some false) else (Option.bind (sh37 x18.1 1) fun x33 => Option.bind (sh38 x33.2 1) fun x35 => bif decide (x35 < 0) then (some false) else (bif x35 != x33.1 then (some false) else (Option.bind (sh17 q0) fun x36 => Option.bind (sh44 x36 q1) fun x40 => Option.bind (sh34 x40.1 x8.1) fun x44 => bif !x44 || (x40.2 != x8.2) then (some false) else (Option.bind (sh38 x33.2 1) fun x45 => bif decide (x45 < 0) then (some false) else (bif x45 != x33.1 then (some false) else (some true))))))))))
def T11 (r : Bool) (v : Value) (rs : List Own) : Prop := v = rets [.bool r] ∧ rs = []
set_option maxRecDepth 100000 in
set_option maxHeartbeats 1000000 in
theorem c11 {w : World} {q0 : SPanel} {a_0_2 : Option Addr} {n_0_2 c_0_2 : Nat} (g_0_2 : Rd w a_0_2 (eI64.fl q0.Breaks)) (l_0_2 : q0.Breaks.length = n_0_2) (k_0_2 : n_0_2 ≤ c_0_2) {q1 : Int} {r : Bool} (hres : sh11 q0 q1 = some r) : Calls Go.Proofs.Try.prog 11 [.agg #[.int .i64 q0.W, .int .i64 q0.H, .slice a_0_2 n_0_2 c_0_2], .int .i64 q1].toArray w (Ret w (T11 r)) := by
  subst l_0_2
  unfold sh11 at hres
  refine calls_of (n := 101) (M := []) (es := []) Go.Proofs.Try.func11 rfl rfl rfl (Sep.nil _ _ _) ?_
  refine JX.seq ?_
  refine JX.region ?_
  refine JL.eff (ef_box rfl rfl) rfl ?_
  rintro _ _ ⟨g1, rfl, rfl⟩
  refine JL.val (yl_assign rfl) rfl ?_
  refine JL.nil ?_
  refine JE.code ?_
  refine JX.seq ?_
  refine JX.region ?_
  refine JL.val (yl_assign rfl) rfl ?_
  refine JL.nil ?_
  refine JE.code ?_
  refine JX.seq ?_
  refine JX.region ?_
  refine JL.val (yl_loadn Go.Proofs.Try.underlying24 rfl i24 rfl (fun w hC => rd_box hC 0 rfl) rfl (i24s).symm i24p) rfl ?_
  refine JL.val (yl_move rfl) rfl ?_
  obtain ⟨x3, hx3, hres⟩ := bind_some hres
  refine JL.eff (ef_call (vs := [.agg #[.int .i64 q0.W, .int .i64 q0.H, .slice a_0_2 q0.Breaks.length c_0_2], .int .i64 1048576]) (T := T15 x3) Go.Proofs.Try.func15 rfl (by kernel_rfl) rfl (fun w hC => c15 (q0 := q0) (rd_arg g_0_2 hC) rfl k_0_2 hx3)) rfl ?_
  rintro _ _ ⟨_, ⟨rfl, rfl⟩, rfl⟩
  refine JL.val (yl_assign rfl) rfl ?_
  refine JL.nil ?_
  refine JE.weak (env' := [(1, .int .i64 q1), (2, ptrAt (some ⟨g1, 0, none⟩) 0), (5, .int .i64 x3)]) (es' := [boxO 24 g1 [.int .i64 q0.W, .int .i64 q0.H, .slice a_0_2 q0.Breaks.length c_0_2]]) [0] ?_ ⟨rfl, rfl, rfl, trivial⟩ (by decide) rfl
  refine JE.code ?_
  refine JX.seq ?_
  refine JX.seq ?_
  refine JX.region ?_
  refine JL.val (yl_move rfl) rfl ?_
  refine JL.val (yl_lss rfl rfl) rfl ?_
  refine JL.nil ?_
  refine JE.code ?_
  rcases cond_some hres with ⟨hb, hres⟩ | ⟨hb, hres⟩
  · refine JX.condT rfl hb ?_
    refine JX.seq ?_
    refine JX.region ?_
    refine JL.val (yl_assign rfl) rfl ?_
    refine JL.nil ?_
    refine JE.weak (env' := [(4, .bool true)]) (es' := []) [] ?_ ⟨rfl, trivial⟩ (by decide) rfl
    refine JE.code ?_
    refine JX.ret ?_
    obtain rfl := Option.some.inj hres
    refine JE.ret (rs := [.tmp 4]) (vs := [.bool true]) rfl ⟨rfl, trivial⟩ ?_
    exact fun w' hb hs => ⟨_, _, ⟨rfl, rfl⟩, rfl, hb, hs.sel [] _ (by decide) rfl⟩
  · refine JX.condF rfl hb ?_
    refine JX.skip ?_
    refine JE.code ?_
    refine JX.seq ?_
    refine JX.region ?_
    refine JL.val (yl_loadn Go.Proofs.Try.underlying24 rfl i24 rfl (fun w hC => rd_box hC 0 rfl) rfl (i24s).symm i24p) rfl ?_
    obtain ⟨x4, hx4, hres⟩ := bind_some hres
    refine JL.eff (ef_call (vs := [.agg #[.int .i64 q0.W, .int .i64 q0.H, .slice a_0_2 q0.Breaks.length c_0_2]]) (T := T17 x4) Go.Proofs.Try.func17 rfl (by kernel_rfl) rfl (fun w hC => c17 (q0 := q0) (rd_arg g_0_2 hC) rfl k_0_2 hx4)) rfl ?_
    rintro _ _ ⟨_, ⟨a5, _, cp6, rfl, rfl, rfl⟩, rfl⟩
    refine JL.val (yl_move rfl) rfl ?_
    obtain ⟨x8, hx8, hres⟩ := bind_some hres
    refine JL.eff (ef_call (vs := [.agg #[.int .i64 x4.W, .int .i64 x4.H, .slice a5 x4.Breaks.length cp6], .int .i64 q1]) (T := T43 x8) Go.Proofs.Try.func43 rfl (by kernel_rfl) rfl (fun w hC => c43 (q0 := x4) (rd_row hC 1 rfl) rfl (ln_row hC 1 rfl) hx8)) rfl ?_
    rintro _ _ ⟨_, ⟨a9, _, cp10, rfl, rfl, rfl⟩, rfl⟩
    refine JL.val (yl_move rfl) rfl ?_
    refine JL.val (yl_extract rfl rfl) rfl ?_
    refine JL.val (yl_extract rfl rfl) rfl ?_
    refine JL.val (yl_assign rfl) rfl ?_
    refine JL.val (yl_assign rfl) rfl ?_
    refine JL.nil ?_
    refine JE.weak (env' := [(1, .int .i64 q1), (2, ptrAt (some ⟨g1, 0, none⟩) 0), (6, .slice a9 x8.1.length cp10), (7, .int .i64 x8.2)]) (es' := [boxO 24 g1 [.int .i64 q0.W, .int .i64 q0.H, .slice a_0_2 q0.Breaks.length c_0_2], rowT 2 eI64 a9 x8.1.length cp10 x8.1]) [0, 2] ?_ ⟨rfl, rfl, rfl, rfl, trivial⟩ (by decide) rfl
    refine JE.code ?_
    refine JX.seq ?_
    refine JX.region ?_
    refine JL.val (yl_loadn Go.Proofs.Try.underlying24 rfl i24 rfl (fun w hC => rd_box hC 0 rfl) rfl (i24s).symm i24p) rfl ?_
    obtain ⟨x12, hx12, hres⟩ := bind_some hres
    refine JL.eff (ef_call (vs := [.agg #[.int .i64 q0.W, .int .i64 q0.H, .slice a_0_2 q0.Breaks.length c_0_2]]) (T := T17 x12) Go.Proofs.Try.func17 rfl (by kernel_rfl) rfl (fun w hC => c17 (q0 := q0) (rd_arg g_0_2 hC) rfl k_0_2 hx12)) rfl ?_
    rintro _ _ ⟨_, ⟨a13, _, cp14, rfl, rfl, rfl⟩, rfl⟩
    refine JL.eff (ef_alloc i28 i28z rfl) rfl ?_
    rintro _ _ ⟨g16, rfl, rfl⟩
    refine JL.eff (ef_store_box (i := 3) (v := .agg #[.int .i64 x12.W, .int .i64 x12.H, .slice a13 x12.Breaks.length cp14]) i28 rfl rfl rfl (i28s).symm (Nat.le_of_ble_eq_true rfl) (by simp [Value.cells, Value.oneCell'])) rfl ?_
    rintro _ _ rfl
    refine JL.nil ?_
    refine JE.weak (env' := [(1, .int .i64 q1), (2, ptrAt (some ⟨g1, 0, none⟩) 0), (6, .slice a9 x8.1.length cp10), (7, .int .i64 x8.2), (8, ptrAt (some ⟨g16, 0, none⟩) 0)]) (es' := [boxO 24 g1 [.int .i64 q0.W, .int .i64 q0.H, .slice a_0_2 q0.Breaks.length c_0_2], rowT 2 eI64 a9 x8.1.length cp10 x8.1, boxO 28 g16 [.int .i64 x12.W, .int .i64 x12.H, .slice a13 x12.Breaks.length cp14], rowT 2 eI64 a13 x12.Breaks.length cp14 x12.Breaks]) [0, 1, 3, 2] ?_ ⟨rfl, rfl, rfl, rfl, rfl, trivial⟩ (by decide) rfl
    refine JE.code ?_
    refine JX.seq ?_
    refine JX.region ?_
    refine JL.val (yl_loadn Go.Proofs.Try.underlying28 rfl i28 rfl (fun w hC => rd_box hC 2 rfl) rfl (i28s).symm i28p) rfl ?_
    refine JL.val (yl_move rfl) rfl ?_
    obtain ⟨x18, hx18, hres⟩ := bind_some hres
    refine JL.eff (ef_call (vs := [.agg #[.int .i64 x12.W, .int .i64 x12.H, .slice a13 x12.Breaks.length cp14], .int .i64 q1]) (T := T44 x18) Go.Proofs.Try.func44 rfl (by kernel_rfl) rfl (fun w hC => c44 (q0 := x12) (rd_row hC 3 rfl) rfl (ln_row hC 3 rfl) hx18)) rfl ?_
    rintro _ _ ⟨_, ⟨a19, _, cp20, rfl, rfl, rfl⟩, rfl⟩
    refine JL.val (yl_move rfl) rfl ?_
    refine JL.val (yl_extract rfl rfl) rfl ?_
    refine JL.val (yl_extract rfl rfl) rfl ?_
    refine JL.val (yl_assign rfl) rfl ?_
    refine JL.val (yl_assign rfl) rfl ?_
    refine JL.nil ?_
    refine JE.weak (env' := [(1, .int .i64 q1), (2, ptrAt (some ⟨g1, 0, none⟩) 0), (6, .slice a9 x8.1.length cp10), (7, .int .i64 x8.2), (8, ptrAt (some ⟨g16, 0, none⟩) 0), (9, .slice a19 x18.1.length cp20), (10, .int .i64 x18.2)]) (es' := [boxO 24 g1 [.int .i64 q0.W, .int .i64 q0.H, .slice a_0_2 q0.Breaks.length c_0_2], rowT 2 eI64 a9 x8.1.length cp10 x8.1, boxO 28 g16 [.int .i64 x12.W, .int .i64 x12.H, .slice a13 x12.Breaks.length cp14], rowT 2 eI64 a13 x12.Breaks.length cp14 x12.Breaks, rowT 2 eI64 a19 x18.1.length cp20 x18.1]) [0, 1, 2, 3, 4] ?_ ⟨rfl, rfl, rfl, rfl, rfl, rfl, rfl, trivial⟩ (by decide) rfl
    refine JE.code ?_
    refine JX.seq ?_
    refine JX.seq ?_
    refine JX.region ?_
    refine JL.val (yl_move rfl) rfl ?_
    refine JL.val (yl_move rfl) rfl ?_
    obtain ⟨x22, hx22, hres⟩ := bind_some hres
    refine JL.eff (ef_call (T := T34 x22) Go.Proofs.Try.func34 rfl (by kernel_rfl) rfl (fun w hC => c34 (rd_row hC 4 rfl) rfl (ln_row hC 4 rfl) (rd_row hC 1 rfl) rfl (ln_row hC 1 rfl) hx22)) rfl ?_
    rintro _ _ ⟨_, ⟨rfl, rfl⟩, rfl⟩
    refine JL.val (yl_not rfl) rfl ?_
    refine JL.val (yl_move rfl) rfl ?_
    refine JL.cut (K := fun J => J [(1, .int .i64 q1), (2, ptrAt (some ⟨g1, 0, none⟩) 0), (6, .slice a9 x8.1.length cp10), (7, .int .i64 x8.2), (8, ptrAt (some ⟨g16, 0, none⟩) 0), (9, .slice a19 x18.1.length cp20), (10, .int .i64 x18.2), (44, .bool (!x22 || (x18.2 != x8.2)))] [boxO 24 g1 [.int .i64 q0.W, .int .i64 q0.H, .slice a_0_2 q0.Breaks.length c_0_2], rowT 2 eI64 a9 x8.1.length cp10 x8.1, boxO 28 g16 [.int .i64 x12.W, .int .i64 x12.H, .slice a13 x12.Breaks.length cp14], rowT 2 eI64 a13 x12.Breaks.length cp14 x12.Breaks, rowT 2 eI64 a19 x18.1.length cp20 x18.1]) 4 ?_ ?_
    · refine JL.nil ?_
      refine JE.weak (env' := [(1, .int .i64 q1), (2, ptrAt (some ⟨g1, 0, none⟩) 0), (6, .slice a9 x8.1.length cp10), (7, .int .i64 x8.2), (8, ptrAt (some ⟨g16, 0, none⟩) 0), (9, .slice a19 x18.1.length cp20), (10, .int .i64 x18.2), (44, .bool (!x22 || (x18.2 != x8.2)))]) (es' := [boxO 24 g1 [.int .i64 q0.W, .int .i64 q0.H, .slice a_0_2 q0.Breaks.length c_0_2], rowT 2 eI64 a9 x8.1.length cp10 x8.1, boxO 28 g16 [.int .i64 x12.W, .int .i64 x12.H, .slice a13 x12.Breaks.length cp14], rowT 2 eI64 a13 x12.Breaks.length cp14 x12.Breaks, rowT 2 eI64 a19 x18.1.length cp20 x18.1]) [0, 1, 2, 3, 4] ?_ ⟨rfl, rfl, rfl, rfl, rfl, rfl, rfl, rfl, trivial⟩ (by decide) rfl
      refine JE.code ?_
      rcases cond_some hres with ⟨hb, hres⟩ | ⟨hb, hres⟩
      · refine JX.condT rfl hb ?_
        refine JX.seq ?_
        refine JX.region ?_
        refine JL.val (yl_assign rfl) rfl ?_
        refine JL.nil ?_
        refine JE.weak (env' := [(4, .bool false)]) (es' := []) [] ?_ ⟨rfl, trivial⟩ (by decide) rfl
        refine JE.code ?_
        refine JX.ret ?_
        obtain rfl := Option.some.inj hres
        refine JE.ret (rs := [.tmp 4]) (vs := [.bool false]) rfl ⟨rfl, trivial⟩ ?_
        exact fun w' hb hs => ⟨_, _, ⟨rfl, rfl⟩, rfl, hb, hs.sel [] _ (by decide) rfl⟩
      · refine JX.condF rfl hb ?_
        refine JX.skip ?_
        refine JE.code ?_
        refine JX.seq ?_
        refine JX.seq ?_
        refine JX.drawH [(0, .read), (1, .read), (2, .must), (3, .must), (4, .pure)] [] [] [0, 1, 2, 3, 4] [] [boxO 24 g1 [.int .i64 q0.W, .int .i64 q0.H, .slice a_0_2 q0.Breaks.length c_0_2], rowT 2 eI64 a9 x8.1.length cp10 x8.1, boxO 28 g16 [.int .i64 x12.W, .int .i64 x12.H, .slice a13 x12.Breaks.length cp14], rowT 2 eI64 a13 x12.Breaks.length cp14 x12.Breaks, rowT 2 eI64 a19 x18.1.length cp20 x18.1] mixedP (by kernel_rfl) (by kernel_rfl) (by decide) rfl rfl ?_
        intro wrr23 Nr23 hFr23
        refine JH.read rfl (yl_loadn Go.Proofs.Try.underlying28 rfl i28 rfl (fun w hw => hFr23.box 2 rfl rfl hw) rfl (i28s).symm i28p) rfl ?_
        refine JH.read rfl (yl_loadn Go.Proofs.Try.underlying24 rfl i24 rfl (fun w hw => hFr23.box 0 rfl rfl hw) rfl (i24s).symm i24p) rfl ?_
        obtain ⟨x24, hx24, hres⟩ := bind_some hres
        refine JH.must rfl (ef_call (vs := [.agg #[.int .i64 q0.W, .int .i64 q0.H, .slice a_0_2 q0.Breaks.length c_0_2]]) (T := T17 x24) Go.Proofs.Try.func17 rfl (by kernel_rfl) rfl (fun w hC => c17 (q0 := q0) (hFr23.arg g_0_2 hC.1) rfl k_0_2 hx24)) rfl rfl ?_
        rintro _ _ ⟨_, ⟨a25, _, cp26, rfl, rfl, rfl⟩, rfl⟩
        obtain ⟨x28, hx28, hres⟩ := bind_some hres
        refine JH.must rfl (ef_call (vs := [.agg #[.int .i64 x12.W, .int .i64 x12.H, .slice a13 x12.Breaks.length cp14], .agg #[.int .i64 x24.W, .int .i64 x24.H, .slice a25 x24.Breaks.length cp26]]) (T := T19 x28) Go.Proofs.Try.func19 rfl (by kernel_rfl) rfl (fun w hC => c19 (q0 := x12) (q1 := x24) (hFr23.row 3 rfl rfl hC.1) rfl (ln_row hFr23.cl 3 rfl) (rd_row hC 0 rfl) rfl (ln_row hC 0 rfl) hx28)) rfl rfl ?_
        rintro _ _ ⟨_, ⟨rfl, rfl⟩, rfl⟩
        refine JH.pure rfl (yl_not rfl) rfl ?_
        refine JH.nil ?_
        refine JE.weak (env' := [(1, .int .i64 q1), (2, ptrAt (some ⟨g1, 0, none⟩) 0), (6, .slice a9 x8.1.length cp10), (7, .int .i64 x8.2), (8, ptrAt (some ⟨g16, 0, none⟩) 0), (9, .slice a19 x18.1.length cp20), (10, .int .i64 x18.2), (49, .bool !x28)]) (es' := [boxO 24 g1 [.int .i64 q0.W, .int .i64 q0.H, .slice a_0_2 q0.Breaks.length c_0_2], rowT 2 eI64 a9 x8.1.length cp10 x8.1, boxO 28 g16 [.int .i64 x12.W, .int .i64 x12.H, .slice a13 x12.Breaks.length cp14], rowT 2 eI64 a13 x12.Breaks.length cp14 x12.Breaks, rowT 2 eI64 a19 x18.1.length cp20 x18.1]) [0, 1, 2, 3, 4] ?_ ⟨rfl, rfl, rfl, rfl, rfl, rfl, rfl, rfl, trivial⟩ (by decide) rfl
        refine JE.code ?_
        rcases cond_some hres with ⟨hb, hres⟩ | ⟨hb, hres⟩
        · refine JX.condT rfl hb ?_
          refine JX.seq ?_
          refine JX.region ?_
          refine JL.val (yl_assign rfl) rfl ?_
          refine JL.nil ?_
          refine JE.weak (env' := [(4, .bool false)]) (es' := []) [] ?_ ⟨rfl, trivial⟩ (by decide) rfl
          refine JE.code ?_
          refine JX.ret ?_
          obtain rfl := Option.some.inj hres
          refine JE.ret (rs := [.tmp 4]) (vs := [.bool false]) rfl ⟨rfl, trivial⟩ ?_
          exact fun w' hb hs => ⟨_, _, ⟨rfl, rfl⟩, rfl, hb, hs.sel [] _ (by decide) rfl⟩
        · refine JX.condF rfl hb ?_
          refine JX.skip ?_
          refine JE.code ?_
          refine JX.seq ?_
          refine JX.region ?_
          refine JL.val (yl_assign rfl) rfl ?_
          refine JL.nil ?_
          refine JE.code ?_
          refine JX.seq ?_
          refine JX.region ?_
          refine JL.val (yl_loadn Go.Proofs.Try.underlying28 rfl i28 rfl (fun w hC => rd_box hC 2 rfl) rfl (i28s).symm i28p) rfl ?_
          refine JL.val (yl_move rfl) rfl ?_
          obtain ⟨x29, hx29, hres⟩ := bind_some hres
          refine JL.eff (ef_callms (caps := []) (vs := [.agg #[.int .i64 x12.W, .int .i64 x12.H, .slice a13 x12.Breaks.length cp14], .int .i64 1]) (T := T28 a13 x12.Breaks.length cp14 x29) [3] [0, 1, 2, 4] [rowT 2 eI64 a13 x12.Breaks.length cp14 x12.Breaks] [boxO 24 g1 [.int .i64 q0.W, .int .i64 q0.H, .slice a_0_2 q0.Breaks.length c_0_2], rowT 2 eI64 a9 x8.1.length cp10 x8.1, boxO 28 g16 [.int .i64 x12.W, .int .i64 x12.H, .slice a13 x12.Breaks.length cp14], rowT 2 eI64 a19 x18.1.length cp20 x18.1] rfl Go.Proofs.Try.func28 rfl (by kernel_rfl) rfl (by decide) rfl rfl (fun w N hF hS => c28 (q0 := x12) rfl hS hx29)) rfl ?_
          rintro _ _ ⟨_, _, ⟨l30, rfl, rfl, rfl⟩, rfl⟩
          refine JL.val (yl_assign rfl) rfl ?_
          refine JL.nil ?_
          refine JE.weak (env' := [(1, .int .i64 q1), (2, ptrAt (some ⟨g1, 0, none⟩) 0), (6, .slice a9 x8.1.length cp10), (7, .int .i64 x8.2), (9, .slice a19 x18.1.length cp20), (10, .int .i64 x18.2), (11, .int .i64 x29.1)]) (es' := [boxO 24 g1 [.int .i64 q0.W, .int .i64 q0.H, .slice a_0_2 q0.Breaks.length c_0_2], rowT 2 eI64 a9 x8.1.length cp10 x8.1, rowT 2 eI64 a19 x18.1.length cp20 x18.1]) [0, 1, 3] ?_ ⟨rfl, rfl, rfl, rfl, rfl, rfl, rfl, trivial⟩ (by decide) rfl
          refine JE.code ?_
          refine JX.seq ?_
          refine JX.seq ?_
          refine JX.region ?_
          refine JL.val (yl_move rfl) rfl ?_
          refine JL.val (yl_lss rfl rfl) rfl ?_
          refine JL.val (yl_move rfl) rfl ?_
          obtain ⟨cb31, hcb31, hres⟩ := bind_some hres
          refine JL.cut (K := fun J => J [(1, .int .i64 q1), (2, ptrAt (some ⟨g1, 0, none⟩) 0), (6, .slice a9 x8.1.length cp10), (7, .int .i64 x8.2), (9, .slice a19 x18.1.length cp20), (10, .int .i64 x18.2), (60, .bool cb31)] [boxO 24 g1 [.int .i64 q0.W, .int .i64 q0.H, .slice a_0_2 q0.Breaks.length c_0_2], rowT 2 eI64 a9 x8.1.length cp10 x8.1, rowT 2 eI64 a19 x18.1.length cp20 x18.1]) 5 ?_ ?_
          · refine JL.val (yl_move rfl) rfl ?_
            refine JL.cut (K := fun J => J [(1, .int .i64 q1), (2, ptrAt (some ⟨g1, 0, none⟩) 0), (6, .slice a9 x8.1.length cp10), (7, .int .i64 x8.2), (9, .slice a19 x18.1.length cp20), (65, .bool (cb31 || (x18.2 != x8.2)))] [boxO 24 g1 [.int .i64 q0.W, .int .i64 q0.H, .slice a_0_2 q0.Breaks.length c_0_2], rowT 2 eI64 a9 x8.1.length cp10 x8.1, rowT 2 eI64 a19 x18.1.length cp20 x18.1]) 4 ?_ ?_
            · refine JL.nil ?_
              refine JE.weak (env' := [(1, .int .i64 q1), (2, ptrAt (some ⟨g1, 0, none⟩) 0), (6, .slice a9 x8.1.length cp10), (7, .int .i64 x8.2), (9, .slice a19 x18.1.length cp20), (65, .bool (cb31 || (x18.2 != x8.2)))]) (es' := [boxO 24 g1 [.int .i64 q0.W, .int .i64 q0.H, .slice a_0_2 q0.Breaks.length c_0_2], rowT 2 eI64 a9 x8.1.length cp10 x8.1, rowT 2 eI64 a19 x18.1.length cp20 x18.1]) [0, 1, 2] ?_ ⟨rfl, rfl, rfl, rfl, rfl, rfl, trivial⟩ (by decide) rfl
              refine JE.code ?_
              rcases cond_some hres with ⟨hb, hres⟩ | ⟨hb, hres⟩
              · refine JX.condT rfl hb ?_
                refine JX.seq ?_
                refine JX.region ?_
                refine JL.val (yl_assign rfl) rfl ?_
                refine JL.nil ?_
                refine JE.weak (env' := [(4, .bool false)]) (es' := []) [] ?_ ⟨rfl, trivial⟩ (by decide) rfl
                refine JE.code ?_
                refine JX.ret ?_
                obtain rfl := Option.some.inj hres
                refine JE.ret (rs := [.tmp 4]) (vs := [.bool false]) rfl ⟨rfl, trivial⟩ ?_
                exact fun w' hb hs => ⟨_, _, ⟨rfl, rfl⟩, rfl, hb, hs.sel [] _ (by decide) rfl⟩
              · refine JX.condF rfl hb ?_
                refine JX.skip ?_
                refine JE.code ?_
                refine JX.seq ?_
                refine JX.region ?_
                refine JL.val (yl_assign rfl) rfl ?_
                refine JL.nil ?_
                refine JE.code ?_
                refine JX.seq ?_
                refine JX.region ?_
                refine JL.val (yl_move rfl) rfl ?_
                refine JL.val (yl_move rfl) rfl ?_
                obtain ⟨x33, hx33, hres⟩ := bind_some hres
                refine JL.eff (ef_callm (T := T37 a19 x18.1.length cp20 x33) 2 Go.Proofs.Try.func37 rfl (by kernel_rfl) rfl rfl (fun w fp hs => c37 hs rfl hx33)) rfl ?_
                rintro _ _ ⟨_, _, ⟨l34, rfl, rfl, rfl⟩, rfl⟩
                refine JL.val (yl_assign rfl) rfl ?_
                refine JL.nil ?_
                refine JE.weak (env' := [(1, .int .i64 q1), (2, ptrAt (some ⟨g1, 0, none⟩) 0), (6, .slice a9 x8.1.length cp10), (7, .int .i64 x8.2), (9, .slice a19 x18.1.length cp20), (12, .int .i64 x33.1)]) (es' := [boxO 24 g1 [.int .i64 q0.W, .int .i64 q0.H, .slice a_0_2 q0.Breaks.length c_0_2], rowT 2 eI64 a9 x8.1.length cp10 x8.1, rowT 2 eI64 a19 x18.1.length cp20 x33.2]) [0, 1, 2] ?_ ⟨rfl, rfl, rfl, rfl, rfl, rfl, trivial⟩ (by decide) rfl
                refine JE.code ?_
                refine JX.seq ?_
                refine JX.region ?_
                refine JL.val (yl_assign rfl) rfl ?_
                refine JL.nil ?_
                refine JE.code ?_
                refine JX.seq ?_
                refine JX.region ?_
                refine JL.val (yl_move rfl) rfl ?_
                refine JL.val (yl_move rfl) rfl ?_
                obtain ⟨x35, hx35, hres⟩ := bind_some hres
                refine JL.eff (ef_call (T := T38 x35) Go.Proofs.Try.func38 rfl (by kernel_rfl) rfl (fun w hC => c38 (rd_row hC 2 rfl) l34 (ln_row hC 2 rfl) hx35)) rfl ?_
                rintro _ _ ⟨_, ⟨rfl, rfl⟩, rfl⟩
                refine JL.val (yl_assign rfl) rfl ?_
                refine JL.nil ?_
                refine JE.weak (env' := [(1, .int .i64 q1), (2, ptrAt (some ⟨g1, 0, none⟩) 0), (6, .slice a9 x8.1.length cp10), (7, .int .i64 x8.2), (9, .slice a19 x18.1.length cp20), (12, .int .i64 x33.1), (13, .int .i64 x35)]) (es' := [boxO 24 g1 [.int .i64 q0.W, .int .i64 q0.H, .slice a_0_2 q0.Breaks.length c_0_2], rowT 2 eI64 a9 x8.1.length cp10 x8.1, rowT 2 eI64 a19 x18.1.length cp20 x33.2]) [0, 1, 2] ?_ ⟨rfl, rfl, rfl, rfl, rfl, rfl, rfl, trivial⟩ (by decide) rfl
                refine JE.code ?_
                refine JX.seq ?_
                refine JX.seq ?_
                refine JX.region ?_
                refine JL.val (yl_move rfl) rfl ?_
                refine JL.val (yl_lss rfl rfl) rfl ?_
                refine JL.nil ?_
                refine JE.code ?_
                rcases cond_some hres with ⟨hb, hres⟩ | ⟨hb, hres⟩
                · refine JX.condT rfl hb ?_
                  refine JX.seq ?_
                  refine JX.region ?_
                  refine JL.val (yl_assign rfl) rfl ?_
                  refine JL.nil ?_
                  refine JE.weak (env' := [(4, .bool false)]) (es' := []) [] ?_ ⟨rfl, trivial⟩ (by decide) rfl
                  refine JE.code ?_
                  refine JX.ret ?_
                  obtain rfl := Option.some.inj hres
                  refine JE.ret (rs := [.tmp 4]) (vs := [.bool false]) rfl ⟨rfl, trivial⟩ ?_
                  exact fun w' hb hs => ⟨_, _, ⟨rfl, rfl⟩, rfl, hb, hs.sel [] _ (by decide) rfl⟩
                · refine JX.condF rfl hb ?_
                  refine JX.skip ?_
                  refine JE.code ?_
                  refine JX.seq ?_
                  refine JX.seq ?_
                  refine JX.region ?_
                  refine JL.val (yl_move rfl) rfl ?_
                  refine JL.val (yl_move rfl) rfl ?_
                  refine JL.val (yl_neq rfl rfl) rfl ?_
                  refine JL.nil ?_
                  refine JE.code ?_
                  rcases cond_some hres with ⟨hb, hres⟩ | ⟨hb, hres⟩
                  · refine JX.condT rfl hb ?_
                    refine JX.seq ?_
                    refine JX.region ?_
                    refine JL.val (yl_assign rfl) rfl ?_
                    refine JL.nil ?_
                    refine JE.weak (env' := [(4, .bool false)]) (es' := []) [] ?_ ⟨rfl, trivial⟩ (by decide) rfl
                    refine JE.code ?_
                    refine JX.ret ?_
                    obtain rfl := Option.some.inj hres
                    refine JE.ret (rs := [.tmp 4]) (vs := [.bool false]) rfl ⟨rfl, trivial⟩ ?_
                    exact fun w' hb hs => ⟨_, _, ⟨rfl, rfl⟩, rfl, hb, hs.sel [] _ (by decide) rfl⟩
                  · refine JX.condF rfl hb ?_
                    refine JX.skip ?_
                    refine JE.code ?_
                    refine JX.seq ?_
                    refine JX.region ?_
                    refine JL.val (yl_loadn Go.Proofs.Try.underlying24 rfl i24 rfl (fun w hC => rd_box hC 0 rfl) rfl (i24s).symm i24p) rfl ?_
                    obtain ⟨x36, hx36, hres⟩ := bind_some hres
                    refine JL.eff (ef_call (vs := [.agg #[.int .i64 q0.W, .int .i64 q0.H, .slice a_0_2 q0.Breaks.length c_0_2]]) (T := T17 x36) Go.Proofs.Try.func17 rfl (by kernel_rfl) rfl (fun w hC => c17 (q0 := q0) (rd_arg g_0_2 hC) rfl k_0_2 hx36)) rfl ?_
                    rintro _ _ ⟨_, ⟨a37, _, cp38, rfl, rfl, rfl⟩, rfl⟩
                    refine JL.val (yl_move rfl) rfl ?_
                    obtain ⟨x40, hx40, hres⟩ := bind_some hres
                    refine JL.eff (ef_call (vs := [.agg #[.int .i64 x36.W, .int .i64 x36.H, .slice a37 x36.Breaks.length cp38], .int .i64 q1]) (T := T44 x40) Go.Proofs.Try.func44 rfl (by kernel_rfl) rfl (fun w hC => c44 (q0 := x36) (rd_row hC 3 rfl) rfl (ln_row hC 3 rfl) hx40)) rfl ?_
                    rintro _ _ ⟨_, ⟨a41, _, cp42, rfl, rfl, rfl⟩, rfl⟩
                    refine JL.val (yl_move rfl) rfl ?_
                    refine JL.val (yl_extract rfl rfl) rfl ?_
                    refine JL.val (yl_extract rfl rfl) rfl ?_
                    refine JL.val (yl_assign rfl) rfl ?_
                    refine JL.val (yl_assign rfl) rfl ?_
                    refine JL.nil ?_
                    refine JE.weak (env' := [(6, .slice a9 x8.1.length cp10), (7, .int .i64 x8.2), (9, .slice a19 x18.1.length cp20), (12, .int .i64 x33.1), (14, .slice a41 x40.1.length cp42), (15, .int .i64 x40.2)]) (es' := [rowT 2 eI64 a9 x8.1.length cp10 x8.1, rowT 2 eI64 a19 x18.1.length cp20 x33.2, rowT 2 eI64 a41 x40.1.length cp42 x40.1]) [1, 2, 4] ?_ ⟨rfl, rfl, rfl, rfl, rfl, rfl, trivial⟩ (by decide) rfl
                    refine JE.code ?_
                    refine JX.seq ?_
                    refine JX.seq ?_
                    refine JX.region ?_
                    refine JL.val (yl_move rfl) rfl ?_
                    refine JL.val (yl_move rfl) rfl ?_
                    obtain ⟨x44, hx44, hres⟩ := bind_some hres
                    refine JL.eff (ef_call (T := T34 x44) Go.Proofs.Try.func34 rfl (by kernel_rfl) rfl (fun w hC => c34 (rd_row hC 2 rfl) rfl (ln_row hC 2 rfl) (rd_row hC 0 rfl) rfl (ln_row hC 0 rfl) hx44)) rfl ?_
                    rintro _ _ ⟨_, ⟨rfl, rfl⟩, rfl⟩
                    refine JL.val (yl_not rfl) rfl ?_
                    refine JL.val (yl_move rfl) rfl ?_
                    refine JL.cut (K := fun J => J [(9, .slice a19 x18.1.length cp20), (12, .int .i64 x33.1), (92, .bool (!x44 || (x40.2 != x8.2)))] [rowT 2 eI64 a19 x18.1.length cp20 x33.2]) 4 ?_ ?_
                    · refine JL.nil ?_
                      refine JE.weak (env' := [(9, .slice a19 x18.1.length cp20), (12, .int .i64 x33.1), (92, .bool (!x44 || (x40.2 != x8.2)))]) (es' := [rowT 2 eI64 a19 x18.1.length cp20 x33.2]) [0] ?_ ⟨rfl, rfl, rfl, trivial⟩ (by decide) rfl
                      refine JE.code ?_
                      rcases cond_some hres with ⟨hb, hres⟩ | ⟨hb, hres⟩
                      · refine JX.condT rfl hb ?_
                        refine JX.seq ?_
                        refine JX.region ?_
                        refine JL.val (yl_assign rfl) rfl ?_
                        refine JL.nil ?_
                        refine JE.weak (env' := [(4, .bool false)]) (es' := []) [] ?_ ⟨rfl, trivial⟩ (by decide) rfl
                        refine JE.code ?_
                        refine JX.ret ?_
                        obtain rfl := Option.some.inj hres
                        refine JE.ret (rs := [.tmp 4]) (vs := [.bool false]) rfl ⟨rfl, trivial⟩ ?_
                        exact fun w' hb hs => ⟨_, _, ⟨rfl, rfl⟩, rfl, hb, hs.sel [] _ (by decide) rfl⟩
                      · refine JX.condF rfl hb ?_
                        refine JX.skip ?_
                        refine JE.code ?_
                        refine JX.seq ?_
                        refine JX.region ?_
                        refine JL.val (yl_assign rfl) rfl ?_
                        refine JL.nil ?_
                        refine JE.code ?_
                        refine JX.seq ?_
                        refine JX.region ?_
                        refine JL.val (yl_move rfl) rfl ?_
                        refine JL.val (yl_move rfl) rfl ?_
                        obtain ⟨x45, hx45, hres⟩ := bind_some hres
                        refine JL.eff (ef_call (T := T38 x45) Go.Proofs.Try.func38 rfl (by kernel_rfl) rfl (fun w hC => c38 (rd_row hC 0 rfl) l34 (ln_row hC 0 rfl) hx45)) rfl ?_
                        rintro _ _ ⟨_, ⟨rfl, rfl⟩, rfl⟩
                        refine JL.val (yl_assign rfl) rfl ?_
                        refine JL.nil ?_
                        refine JE.weak (env' := [(12, .int .i64 x33.1), (13, .int .i64 x45)]) (es' := []) [] ?_ ⟨rfl, rfl, trivial⟩ (by decide) rfl
                        refine JE.code ?_
                        refine JX.seq ?_
                        refine JX.seq ?_
                        refine JX.region ?_
                        refine JL.val (yl_move rfl) rfl ?_
                        refine JL.val (yl_lss rfl rfl) rfl ?_
                        refine JL.nil ?_
                        refine JE.code ?_
                        rcases cond_some hres with ⟨hb, hres⟩ | ⟨hb, hres⟩
                        · refine JX.condT rfl hb ?_
                          refine JX.seq ?_
                          refine JX.region ?_
                          refine JL.val (yl_assign rfl) rfl ?_
                          refine JL.nil ?_
                          refine JE.code ?_
                          refine JX.ret ?_
                          obtain rfl := Option.some.inj hres
                          refine JE.ret (rs := [.tmp 4]) (vs := [.bool false]) rfl ⟨rfl, trivial⟩ ?_
                          exact fun w' hb hs => ⟨_, _, ⟨rfl, rfl⟩, rfl, hb, hs.sel [] _ (by decide) rfl⟩
                        · refine JX.condF rfl hb ?_
                          refine JX.skip ?_
                          refine JE.code ?_
                          refine JX.seq ?_
                          refine JX.seq ?_
                          refine JX.region ?_
                          refine JL.val (yl_move rfl) rfl ?_
                          refine JL.val (yl_move rfl) rfl ?_
                          refine JL.val (yl_neq rfl rfl) rfl ?_
                          refine JL.nil ?_
                          refine JE.code ?_
                          rcases cond_some hres with ⟨hb, hres⟩ | ⟨hb, hres⟩
                          · refine JX.condT rfl hb ?_
                            refine JX.seq ?_
                            refine JX.region ?_
                            refine JL.val (yl_assign rfl) rfl ?_
                            refine JL.nil ?_
                            refine JE.code ?_
                            refine JX.ret ?_
                            obtain rfl := Option.some.inj hres
                            refine JE.ret (rs := [.tmp 4]) (vs := [.bool false]) rfl ⟨rfl, trivial⟩ ?_
                            exact fun w' hb hs => ⟨_, _, ⟨rfl, rfl⟩, rfl, hb, hs.sel [] _ (by decide) rfl⟩
                          · refine JX.condF rfl hb ?_
                            refine JX.skip ?_
                            refine JE.code ?_
                            refine JX.seq ?_
                            refine JX.region ?_
                            refine JL.val (yl_assign rfl) rfl ?_
                            refine JL.nil ?_
                            refine JE.code ?_
                            refine JX.ret ?_
                            obtain rfl := Option.some.inj hres
                            refine JE.ret (rs := [.tmp 4]) (vs := [.bool true]) rfl ⟨rfl, trivial⟩ ?_
                            exact fun w' hb hs => ⟨_, _, ⟨rfl, rfl⟩, rfl, hb, hs.sel [] _ (by decide) rfl⟩
                    · intro K
                      rcases Bool.eq_false_or_eq_true (!x44) with hb | hb
                      · refine JL.set (d := 88) (v := .bool true) (congrArg (fun b => some (Value.bool b)) hb) ?_
                        refine JL.gskip rfl rfl rfl rfl ?_
                        refine JL.gskip rfl rfl rfl rfl ?_
                        refine JL.gskip rfl rfl rfl rfl ?_
                        refine JL.val (yl_pick_true rfl rfl) rfl ?_
                        exact JL.weak [1] K ⟨rfl, rfl, (by rw [hb]; rfl), trivial⟩ (by decide) rfl
                      · refine JL.set (d := 88) (v := .bool false) (congrArg (fun b => some (Value.bool b)) hb) ?_
                        refine JL.gval rfl rfl (yl_move rfl) rfl ?_
                        refine JL.gval rfl rfl (yl_move rfl) rfl ?_
                        refine JL.gval rfl rfl (yl_neq rfl rfl) rfl ?_
                        refine JL.val (yl_pick_false rfl rfl) rfl ?_
                        exact JL.weak [1] K ⟨rfl, rfl, (by rw [hb]; rfl), trivial⟩ (by decide) rfl
            · intro K
              rcases Bool.eq_false_or_eq_true (cb31) with hb | hb
              · refine JL.set (d := 61) (v := .bool true) (congrArg (fun b => some (Value.bool b)) hb) ?_
                refine JL.gskip rfl rfl rfl rfl ?_
                refine JL.gskip rfl rfl rfl rfl ?_
                refine JL.gskip rfl rfl rfl rfl ?_
                refine JL.val (yl_pick_true rfl rfl) rfl ?_
                exact JL.weak [0, 1, 2] K ⟨rfl, rfl, rfl, rfl, rfl, (by rw [hb]; rfl), trivial⟩ (by decide) rfl
              · refine JL.set (d := 61) (v := .bool false) (congrArg (fun b => some (Value.bool b)) hb) ?_
                refine JL.gval rfl rfl (yl_move rfl) rfl ?_
                refine JL.gval rfl rfl (yl_move rfl) rfl ?_
                refine JL.gval rfl rfl (yl_neq rfl rfl) rfl ?_
                refine JL.val (yl_pick_false rfl rfl) rfl ?_
                exact JL.weak [0, 1, 2] K ⟨rfl, rfl, rfl, rfl, rfl, (by rw [hb]; rfl), trivial⟩ (by decide) rfl
          · intro K
            rcases cond_some hcb31 with ⟨hb, hres⟩ | ⟨hb, hres⟩
            · refine JL.set (d := 55) (v := .bool true) (congrArg (fun b => some (Value.bool b)) hb) ?_
              refine JL.gskip rfl rfl rfl rfl ?_
              refine JL.gskip rfl rfl rfl rfl ?_
              refine JL.gskip rfl rfl rfl rfl ?_
              refine JL.gskip rfl rfl rfl rfl ?_
              refine JL.val (yl_pick_true rfl rfl) rfl ?_
              have he := Option.some.inj hres
              exact JL.weak [0, 1, 2] K ⟨rfl, rfl, rfl, rfl, rfl, rfl, (by rw [← he]; rfl), trivial⟩ (by decide) rfl
            · refine JL.set (d := 55) (v := .bool false) (congrArg (fun b => some (Value.bool b)) hb) ?_
              refine JL.gval rfl rfl (yl_move rfl) rfl ?_
              refine JL.gval rfl rfl (yl_move rfl) rfl ?_
              obtain ⟨x32, hx32, hres⟩ := bind_some hres
              refine JL.geff rfl rfl (ef_call (T := T34 x32) Go.Proofs.Try.func34 rfl (by kernel_rfl) rfl (fun w hC => c34 (rd_row hC 2 rfl) rfl (ln_row hC 2 rfl) (rd_row hC 1 rfl) rfl (ln_row hC 1 rfl) hx32)) rfl ?_
              rintro _ _ ⟨_, ⟨rfl, rfl⟩, rfl⟩
              refine JL.gval rfl rfl (yl_not rfl) rfl ?_
              refine JL.val (yl_pick_false rfl rfl) rfl ?_
              have he := Option.some.inj hres
              exact JL.weak [0, 1, 2] K ⟨rfl, rfl, rfl, rfl, rfl, rfl, (by rw [← he]; rfl), trivial⟩ (by decide) rfl
    · intro K
      rcases Bool.eq_false_or_eq_true (!x22) with hb | hb
      · refine JL.set (d := 40) (v := .bool true) (congrArg (fun b => some (Value.bool b)) hb) ?_
        refine JL.gskip rfl rfl rfl rfl ?_
        refine JL.gskip rfl rfl rfl rfl ?_
        refine JL.gskip rfl rfl rfl rfl ?_
        refine JL.val (yl_pick_true rfl rfl) rfl ?_
        exact JL.weak [0, 1, 2, 3, 4] K ⟨rfl, rfl, rfl, rfl, rfl, rfl, rfl, (by rw [hb]; rfl), trivial⟩ (by decide) rfl
      · refine JL.set (d := 40) (v := .bool false) (congrArg (fun b => some (Value.bool b)) hb) ?_
        refine JL.gval rfl rfl (yl_move rfl) rfl ?_
        refine JL.gval rfl rfl (yl_move rfl) rfl ?_
        refine JL.gval rfl rfl (yl_neq rfl rfl) rfl ?_
        refine JL.val (yl_pick_false rfl rfl) rfl ?_
        exact JL.weak [0, 1, 2, 3, 4] K ⟨rfl, rfl, rfl, rfl, rfl, rfl, rfl, (by rw [hb]; rfl), trivial⟩ (by decide) rfl

end Go.Sh
