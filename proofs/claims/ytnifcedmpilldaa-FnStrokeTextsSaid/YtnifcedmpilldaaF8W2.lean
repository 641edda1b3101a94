/- Walks through functions that the law reaches, printed by program. -/
import Derived.Test.YtnifcedmpilldaaF8W1
set_option linter.unusedVariables false
set_option linter.unusedSimpArgs false
namespace Go.Sh
open Go Go.RowKit
/- spec.BandOf -/
def sh12_1 (q2 : Int) (q3 : Int) (x3 : List SPoint × Int) : (Int × List (List SPoint)) → Option ((Int × List (List SPoint)) ⊕ (List (List SPoint)))
  | (x20, x21) => bif decide (x20 < (x3.1.length : Int)) then (Option.bind (getI x3.1 x20) fun x26 => Option.bind (nzI (x3.1.length : Int)) fun x29 => Option.bind (getI x3.1 ((w64 (x20 + 1)).tmod (x3.1.length : Int))) fun x30 => Option.bind (appL x21 [[SPoint.mk (w64 ((w64 (x26.X * q2)) + (w64 ((w64 (0 - q3)) * (w64 (x30.Y - x26.Y)))))) (w64 ((w64 (x26.Y * q2)) + (w64 (q3 * (w64 (x30.X - x26.X)))))), SPoint.mk (w64 ((w64 (x30.X * q2)) + (w64 ((w64 (0 - q3)) * (w64 (x30.Y - x26.Y)))))) (w64 ((w64 (x30.Y * q2)) + (w64 (q3 * (w64 (x30.X - x26.X)))))), SPoint.mk (w64 ((w64 (x30.X * q2)) - (w64 ((w64 (0 - q3)) * (w64 (x30.Y - x26.Y)))))) (w64 ((w64 (x30.Y * q2)) - (w64 (q3 * (w64 (x30.X - x26.X)))))), SPoint.mk (w64 ((w64 (x26.X * q2)) - (w64 ((w64 (0 - q3)) * (w64 (x30.Y - x26.Y)))))) (w64 ((w64 (x26.Y * q2)) - (w64 (q3 * (w64 (x30.X - x26.X))))))]]) fun x37 => some (.inl (w64 (x20 + 1), x37))) else (some (.inr x21))
def sh12 (q0 : SPanel) (q1 : Int) (q2 : Int) (q3 : Int) : Option (List (List SPoint) × Int) := Option.bind (sh99 q0 q1 q2) fun x3 => Option.bind (bif x3.2 == 0 then (Option.bind (sh100 q3 1 1000) fun x8 => some !x8) else (some false)) fun cb7 => (Option.bind (bif cb7 then (some 2) else (some x3.2)) fun j9 => (Option.bind (bif (j9 == 0) && (decide (q2 < (w64 (2 * q3)))) then (some 6) else (some j9)) fun j10 => (bif j10 != 0 then (some (([] : List (List SPoint)), j10)) else (Option.bind (iter (sh12_1 q2 q3 x3) (0, ([] : List (List SPoint)))) fun b1 => (some (b1, 0))))))
def T12 (r : List (List SPoint) × Int) (v : Value) (rs : List Own) : Prop := ∃ (a0 : Option Addr) (n0 c0 : Nat) (h0 : List Hd), r.1.length = n0 ∧ Inn h0 r.1 ∧ v = rets [.slice a0 n0 c0, .int .i64 r.2] ∧ rs = [rowT 34 eHd a0 n0 c0 h0, innO 42 eSPoint none h0 r.1]
set_option maxRecDepth 100000 in
set_option maxHeartbeats 1000000 in
theorem c12 {w : World} {q0 : SPanel} {a_0_2 : Option Addr} {n_0_2 c_0_2 : Nat} (g_0_2 : Rd w a_0_2 (eI64.fl q0.Breaks)) (l_0_2 : q0.Breaks.length = n_0_2) (k_0_2 : n_0_2 ≤ c_0_2) {q1 : Int} {q2 : Int} {q3 : Int} {r : List (List SPoint) × Int} (hres : sh12 q0 q1 q2 q3 = some r) : Calls Go.Proofs.Try.prog 12 [.agg #[.int .i64 q0.W, .int .i64 q0.H, .slice a_0_2 n_0_2 c_0_2], .int .i64 q1, .int .i64 q2, .int .i64 q3].toArray w (Ret w (T12 r)) := by
  subst l_0_2
  unfold sh12 at hres
  refine calls_of (n := 133) (M := []) (es := []) Go.Proofs.Try.func12 rfl rfl rfl (Sep.nil _ _ _) ?_
  refine JX.seq ?_
  refine JX.region ?_
  refine JL.eff (ef_box rfl rfl) rfl ?_
  rintro _ _ ⟨g1, rfl, rfl⟩
  refine JL.val (yl_assign rfl) rfl ?_
  refine JL.val (yl_assign rfl) rfl ?_
  refine JL.nil ?_
  refine JE.code ?_
  refine JX.seq ?_
  refine JX.region ?_
  refine JL.val (yl_move rfl) rfl ?_
  refine JL.val (yl_move rfl) rfl ?_
  obtain ⟨x3, hx3, hres⟩ := bind_some hres
  refine JL.eff (ef_call (T := T99 x3) Go.Proofs.Try.func99 rfl (by kernel_rfl) rfl (fun w hC => c99 (RdAt.of0 (rd_box hC 0 rfl)) (rd_arg g_0_2 hC) rfl k_0_2 hx3)) rfl ?_
  rintro _ _ ⟨_, ⟨a4, _, cp5, rfl, rfl, rfl⟩, rfl⟩
  refine JL.val (yl_move rfl) rfl ?_
  refine JL.val (yl_extract rfl rfl) rfl ?_
  refine JL.val (yl_extract rfl rfl) rfl ?_
  refine JL.val (yl_assign rfl) rfl ?_
  refine JL.val (yl_assign rfl) rfl ?_
  refine JL.nil ?_
  refine JE.weak (env' := [(2, .int .i64 q2), (3, .int .i64 q3), (10, .slice a4 x3.1.length cp5), (11, .int .i64 x3.2)]) (es' := [rowT 42 eSPoint a4 x3.1.length cp5 x3.1]) [1] ?_ ⟨rfl, rfl, rfl, rfl, trivial⟩ (by decide) rfl
  refine JE.code ?_
  refine JX.seq ?_
  refine JX.seq ?_
  refine JX.region ?_
  refine JL.val (yl_move rfl) rfl ?_
  refine JL.val (yl_eql rfl rfl) rfl ?_
  refine JL.val (yl_move rfl) rfl ?_
  obtain ⟨cb7, hcb7, hres⟩ := bind_some hres
  refine JL.cut (K := fun J => J [(2, .int .i64 q2), (3, .int .i64 q3), (10, .slice a4 x3.1.length cp5), (11, .int .i64 x3.2), (30, .bool cb7)] [rowT 42 eSPoint a4 x3.1.length cp5 x3.1]) 4 ?_ ?_
  · refine JL.nil ?_
    refine JE.weak (env' := [(2, .int .i64 q2), (3, .int .i64 q3), (10, .slice a4 x3.1.length cp5), (11, .int .i64 x3.2), (30, .bool cb7)]) (es' := [rowT 42 eSPoint a4 x3.1.length cp5 x3.1]) [0] ?_ ⟨rfl, rfl, rfl, rfl, rfl, trivial⟩ (by decide) rfl
    refine JE.code ?_
    obtain ⟨j9, hj9, hresj9⟩ := bind_some hres
    refine JX.cut (K := fun J => J [(2, .int .i64 q2), (3, .int .i64 q3), (10, .slice a4 x3.1.length cp5), (11, .int .i64 j9)] [rowT 42 eSPoint a4 x3.1.length cp5 x3.1]) ?_ ?_
    · have hres := hresj9
      refine JE.code ?_
      refine JX.seq ?_
      refine JX.seq ?_
      refine JX.region ?_
      refine JL.val (yl_move rfl) rfl ?_
      refine JL.val (yl_eql rfl rfl) rfl ?_
      refine JL.val (yl_move rfl) rfl ?_
      refine JL.cut (K := fun J => J [(2, .int .i64 q2), (3, .int .i64 q3), (10, .slice a4 x3.1.length cp5), (11, .int .i64 j9), (38, .bool ((j9 == 0) && (decide (q2 < (w64 (2 * q3))))))] [rowT 42 eSPoint a4 x3.1.length cp5 x3.1]) 5 ?_ ?_
      · refine JL.nil ?_
        refine JE.weak (env' := [(2, .int .i64 q2), (3, .int .i64 q3), (10, .slice a4 x3.1.length cp5), (11, .int .i64 j9), (38, .bool ((j9 == 0) && (decide (q2 < (w64 (2 * q3))))))]) (es' := [rowT 42 eSPoint a4 x3.1.length cp5 x3.1]) [0] ?_ ⟨rfl, rfl, rfl, rfl, rfl, trivial⟩ (by decide) rfl
        refine JE.code ?_
        obtain ⟨j10, hj10, hresj10⟩ := bind_some hres
        refine JX.cut (K := fun J => J [(2, .int .i64 q2), (3, .int .i64 q3), (10, .slice a4 x3.1.length cp5), (11, .int .i64 j10)] [rowT 42 eSPoint a4 x3.1.length cp5 x3.1]) ?_ ?_
        · have hres := hresj10
          refine JE.code ?_
          refine JX.seq ?_
          refine JX.seq ?_
          refine JX.region ?_
          refine JL.val (yl_move rfl) rfl ?_
          refine JL.val (yl_neq rfl rfl) rfl ?_
          refine JL.nil ?_
          refine JE.code ?_
          rcases cond_some hres with ⟨hb, hres⟩ | ⟨hb, hres⟩
          · refine JX.condT rfl hb ?_
            refine JX.seq ?_
            refine JX.region ?_
            refine JL.val (yl_move rfl) rfl ?_
            refine JL.val (yl_assign rfl) rfl ?_
            refine JL.val (yl_assign rfl) rfl ?_
            refine JL.nil ?_
            refine JE.weak (env' := [(8, .slice none 0 0), (9, .int .i64 j10)]) (es' := []) [] ?_ ⟨rfl, rfl, trivial⟩ (by decide) rfl
            refine JE.code ?_
            refine JX.ret ?_
            refine JE.nilrow 34 eHd ?_
            refine JE.nilinn 42 eSPoint ?_
            obtain rfl := Option.some.inj hres
            refine JE.ret (rs := [.tmp 8, .tmp 9]) (vs := [.slice none 0 0, .int .i64 j10]) rfl ⟨rfl, rfl, trivial⟩ ?_
            exact fun w' hb hs => ⟨_, _, ⟨none, 0, 0, ([] : List Hd), ((Inn.len (Inn.nil (T := SPoint))).symm.trans rfl), (Inn.nil (T := SPoint)), rfl, rfl⟩, rfl, hb, hs.sel [0, 1] _ (by decide) rfl⟩
          · refine JX.condF rfl hb ?_
            refine JX.skip ?_
            refine JE.code ?_
            refine JX.seq ?_
            refine JX.region ?_
            refine JL.eff (ef_buildSlice (E := 34) (k := eHd.k) (us := eHd.fl ([] : List Hd)) rfl (fun w => bsl29_0  w) rfl (by decide)) rfl ?_
            rintro _ _ ⟨a13, rfl, rfl⟩
            refine JL.nilinn 42 eSPoint ?_
            refine JL.val (yl_assign rfl) rfl ?_
            refine JL.nil ?_
            refine JE.code ?_
            refine JX.seq ?_
            refine JX.seq ?_
            refine JX.region ?_
            refine JL.val (yl_assign rfl) rfl ?_
            refine JL.nil ?_
            refine JE.code ?_
            refine JX.block ?_
            obtain ⟨y1, hy1, hresO1⟩ := bind_some hres
            refine JX.loop (I := fun (s1 : Int × List (List SPoint)) aa ww => ∃ (a16 : Option Addr) (cp17 : Nat) (hs18 : List Hd) (hi19 : Inn hs18 s1.2), St w [] 133 [(2, .int .i64 q2), (3, .int .i64 q3), (10, .slice a4 x3.1.length cp5), (12, .slice a16 s1.2.length cp17), (13, .int .i64 s1.1)] [rowT 42 eSPoint a4 x3.1.length cp5 x3.1, rowT 34 eHd a16 s1.2.length cp17 hs18, innO 42 eSPoint none hs18 s1.2] aa ww) (sh12_1 q2 q3 x3) hy1 (fun a w h => ⟨a13, 0, ([] : List Hd), (Inn.nil (T := SPoint)), h.weak ⟨rfl, rfl, rfl, rfl, rfl, trivial⟩ [0, 1, 2] (by decide) rfl⟩) ?_
            rintro ⟨x20, x21⟩ o1 hres hox1 aa ww ⟨a22, cp23, hs24, hi25, hS⟩
            refine (?_ : JX Go.Proofs.Try.prog w [] 133 _ _ [(2, .int .i64 q2), (3, .int .i64 q3), (10, .slice a4 x3.1.length cp5), (12, .slice a22 x21.length cp23), (13, .int .i64 x20)] [rowT 42 eSPoint a4 x3.1.length cp5 x3.1, rowT 34 eHd a22 x21.length cp23 hs24, innO 42 eSPoint none hs24 x21] _) aa ww hS
            clear hS
            simp only [sh12_1] at hres
            refine JX.seq ?_
            refine JX.seq ?_
            refine JX.region ?_
            refine JL.val (yl_move rfl) rfl ?_
            refine JL.val (yl_move rfl) rfl ?_
            refine JL.val (yl_len_slice Go.Proofs.Try.underlying34 rfl) rfl ?_
            refine JL.val (yl_lss rfl rfl) rfl ?_
            refine JL.nil ?_
            refine JE.weak (env' := [(2, .int .i64 q2), (3, .int .i64 q3), (10, .slice a4 x3.1.length cp5), (12, .slice a22 x21.length cp23), (13, .int .i64 x20), (46, .bool (decide (x20 < (x3.1.length : Int))))]) (es' := [rowT 42 eSPoint a4 x3.1.length cp5 x3.1, rowT 34 eHd a22 x21.length cp23 hs24, innO 42 eSPoint none hs24 x21]) [0, 1, 2] ?_ ⟨rfl, rfl, rfl, rfl, rfl, rfl, trivial⟩ (by decide) rfl
            refine JE.code ?_
            rcases cond_some hres with ⟨hb, hres⟩ | ⟨hb, hres⟩
            · refine JX.condT rfl hb ?_
              refine JX.skip ?_
              refine JE.code ?_
              refine JX.seq ?_
              refine JX.block ?_
              refine JX.seq ?_
              refine JX.region ?_
              refine JL.val (yl_move rfl) rfl ?_
              refine JL.val (yl_move rfl) rfl ?_
              obtain ⟨x26, hx26, hres⟩ := bind_some hres
              refine JL.val (yl_idxT Go.Proofs.Try.underlying34 i42 i42s rfl rfl hx26 rfl (fun w hC => rd_row hC 0 rfl)) rfl ?_
              refine JL.val (yl_loadTn Go.Proofs.Try.underlying42 rfl i42 i42s rfl hx26 (fun w hC => rd_row hC 0 rfl)) rfl ?_
              refine JL.eff (ef_alloc i42 i42z rfl) rfl ?_
              rintro _ _ ⟨g27, rfl, rfl⟩
              refine JL.eff (ef_store_box (i := 3) (v := .agg #[.int .i64 x26.X, .int .i64 x26.Y]) i42 rfl rfl rfl (i42s).symm (Nat.le_of_ble_eq_true rfl) (by simp [Value.cells, Value.oneCell'])) rfl ?_
              rintro _ _ rfl
              refine JL.nil ?_
              refine JE.weak (env' := [(2, .int .i64 q2), (3, .int .i64 q3), (10, .slice a4 x3.1.length cp5), (12, .slice a22 x21.length cp23), (13, .int .i64 x20), (14, ptrAt (some ⟨g27, 0, none⟩) 0)]) (es' := [rowT 42 eSPoint a4 x3.1.length cp5 x3.1, rowT 34 eHd a22 x21.length cp23 hs24, innO 42 eSPoint none hs24 x21, boxO 42 g27 [.int .i64 x26.X, .int .i64 x26.Y]]) [0, 1, 2, 3] ?_ ⟨rfl, rfl, rfl, rfl, rfl, rfl, trivial⟩ (by decide) rfl
              refine JE.code ?_
              refine JX.seq ?_
              refine JX.region ?_
              refine JL.val (yl_move rfl) rfl ?_
              refine JL.val (yl_move rfl) rfl ?_
              refine JL.val (yl_add rfl rfl) rfl ?_
              refine JL.val (yl_move rfl) rfl ?_
              refine JL.val (yl_len_slice Go.Proofs.Try.underlying34 rfl) rfl ?_
              obtain ⟨x29, hx29, hres⟩ := bind_some hres
              refine JL.val (yl_rem rfl rfl (nzI_some hx29)) rfl ?_
              obtain ⟨x30, hx30, hres⟩ := bind_some hres
              refine JL.val (yl_idxT Go.Proofs.Try.underlying34 i42 i42s rfl rfl hx30 rfl (fun w hC => rd_row hC 0 rfl)) rfl ?_
              refine JL.val (yl_loadTn Go.Proofs.Try.underlying42 rfl i42 i42s rfl hx30 (fun w hC => rd_row hC 0 rfl)) rfl ?_
              refine JL.eff (ef_alloc i42 i42z rfl) rfl ?_
              rintro _ _ ⟨g31, rfl, rfl⟩
              refine JL.eff (ef_store_box (i := 4) (v := .agg #[.int .i64 x30.X, .int .i64 x30.Y]) i42 rfl rfl rfl (i42s).symm (Nat.le_of_ble_eq_true rfl) (by simp [Value.cells, Value.oneCell'])) rfl ?_
              rintro _ _ rfl
              refine JL.nil ?_
              refine JE.weak (env' := [(2, .int .i64 q2), (3, .int .i64 q3), (10, .slice a4 x3.1.length cp5), (12, .slice a22 x21.length cp23), (13, .int .i64 x20), (14, ptrAt (some ⟨g27, 0, none⟩) 0), (15, ptrAt (some ⟨g31, 0, none⟩) 0)]) (es' := [rowT 42 eSPoint a4 x3.1.length cp5 x3.1, rowT 34 eHd a22 x21.length cp23 hs24, innO 42 eSPoint none hs24 x21, boxO 42 g27 [.int .i64 x26.X, .int .i64 x26.Y], boxO 42 g31 [.int .i64 x30.X, .int .i64 x30.Y]]) [0, 1, 2, 3, 4] ?_ ⟨rfl, rfl, rfl, rfl, rfl, rfl, rfl, trivial⟩ (by decide) rfl
              refine JE.code ?_
              refine JX.seq ?_
              refine JX.region ?_
              refine JL.val (yl_move rfl) rfl ?_
              refine JL.val (yl_neg rfl) rfl ?_
              refine JL.val (yl_fieldAt (a := some _) Go.Proofs.Try.underlying42 rfl i2 i2n rfl rfl) rfl ?_
              refine JL.val (yl_load1 Go.Proofs.Try.underlying2 rfl rfl (fun w hC => rd_box hC 4 rfl) rfl) rfl ?_
              refine JL.val (yl_fieldAt (a := some _) Go.Proofs.Try.underlying42 rfl i2 i2n rfl rfl) rfl ?_
              refine JL.val (yl_load1 Go.Proofs.Try.underlying2 rfl rfl (fun w hC => rd_box hC 3 rfl) rfl) rfl ?_
              refine JL.val (yl_sub rfl rfl) rfl ?_
              refine JL.val (yl_mul rfl rfl) rfl ?_
              refine JL.val (yl_assign rfl) rfl ?_
              refine JL.nil ?_
              refine JE.weak (env' := [(2, .int .i64 q2), (3, .int .i64 q3), (10, .slice a4 x3.1.length cp5), (12, .slice a22 x21.length cp23), (13, .int .i64 x20), (14, ptrAt (some ⟨g27, 0, none⟩) 0), (15, ptrAt (some ⟨g31, 0, none⟩) 0), (16, .int .i64 (w64 ((w64 (0 - q3)) * (w64 (x30.Y - x26.Y)))))]) (es' := [rowT 42 eSPoint a4 x3.1.length cp5 x3.1, rowT 34 eHd a22 x21.length cp23 hs24, innO 42 eSPoint none hs24 x21, boxO 42 g27 [.int .i64 x26.X, .int .i64 x26.Y], boxO 42 g31 [.int .i64 x30.X, .int .i64 x30.Y]]) [0, 1, 2, 3, 4] ?_ ⟨rfl, rfl, rfl, rfl, rfl, rfl, rfl, rfl, trivial⟩ (by decide) rfl
              refine JE.code ?_
              refine JX.seq ?_
              refine JX.region ?_
              refine JL.val (yl_move rfl) rfl ?_
              refine JL.val (yl_fieldAt (a := some _) Go.Proofs.Try.underlying42 rfl i2 i2n rfl rfl) rfl ?_
              refine JL.val (yl_load1 Go.Proofs.Try.underlying2 rfl rfl (fun w hC => rd_box hC 4 rfl) rfl) rfl ?_
              refine JL.val (yl_fieldAt (a := some _) Go.Proofs.Try.underlying42 rfl i2 i2n rfl rfl) rfl ?_
              refine JL.val (yl_load1 Go.Proofs.Try.underlying2 rfl rfl (fun w hC => rd_box hC 3 rfl) rfl) rfl ?_
              refine JL.val (yl_sub rfl rfl) rfl ?_
              refine JL.val (yl_mul rfl rfl) rfl ?_
              refine JL.val (yl_assign rfl) rfl ?_
              refine JL.nil ?_
              refine JE.weak (env' := [(2, .int .i64 q2), (3, .int .i64 q3), (10, .slice a4 x3.1.length cp5), (12, .slice a22 x21.length cp23), (13, .int .i64 x20), (14, ptrAt (some ⟨g27, 0, none⟩) 0), (15, ptrAt (some ⟨g31, 0, none⟩) 0), (16, .int .i64 (w64 ((w64 (0 - q3)) * (w64 (x30.Y - x26.Y))))), (17, .int .i64 (w64 (q3 * (w64 (x30.X - x26.X)))))]) (es' := [rowT 42 eSPoint a4 x3.1.length cp5 x3.1, rowT 34 eHd a22 x21.length cp23 hs24, innO 42 eSPoint none hs24 x21, boxO 42 g27 [.int .i64 x26.X, .int .i64 x26.Y], boxO 42 g31 [.int .i64 x30.X, .int .i64 x30.Y]]) [0, 1, 2, 3, 4] ?_ ⟨rfl, rfl, rfl, rfl, rfl, rfl, rfl, rfl, rfl, trivial⟩ (by decide) rfl
              refine JE.code ?_
              refine JX.region ?_
              refine JL.val (yl_move rfl) rfl ?_
              refine JL.val (yl_fieldAt (a := some _) Go.Proofs.Try.underlying42 rfl i2 i2n rfl rfl) rfl ?_
              refine JL.val (yl_load1 Go.Proofs.Try.underlying2 rfl rfl (fun w hC => rd_box hC 3 rfl) rfl) rfl ?_
              refine JL.val (yl_move rfl) rfl ?_
              refine JL.val (yl_mul rfl rfl) rfl ?_
              refine JL.val (yl_move rfl) rfl ?_
              refine JL.val (yl_add rfl rfl) rfl ?_
              refine JL.val (yl_fieldAt (a := some _) Go.Proofs.Try.underlying42 rfl i2 i2n rfl rfl) rfl ?_
              refine JL.val (yl_load1 Go.Proofs.Try.underlying2 rfl rfl (fun w hC => rd_box hC 3 rfl) rfl) rfl ?_
              refine JL.val (yl_move rfl) rfl ?_
              refine JL.val (yl_mul rfl rfl) rfl ?_
              refine JL.val (yl_move rfl) rfl ?_
              refine JL.val (yl_add rfl rfl) rfl ?_
              refine JL.val (yl_build rfl (fun w => bld42_0_1 (w64 ((w64 (x26.X * q2)) + (w64 ((w64 (0 - q3)) * (w64 (x30.Y - x26.Y)))))) (w64 ((w64 (x26.Y * q2)) + (w64 (q3 * (w64 (x30.X - x26.X)))))) w)) rfl ?_
              refine JL.val (yl_fieldAt (a := some _) Go.Proofs.Try.underlying42 rfl i2 i2n rfl rfl) rfl ?_
              refine JL.val (yl_load1 Go.Proofs.Try.underlying2 rfl rfl (fun w hC => rd_box hC 4 rfl) rfl) rfl ?_
              refine JL.val (yl_move rfl) rfl ?_
              refine JL.val (yl_mul rfl rfl) rfl ?_
              refine JL.val (yl_move rfl) rfl ?_
              refine JL.val (yl_add rfl rfl) rfl ?_
              refine JL.val (yl_fieldAt (a := some _) Go.Proofs.Try.underlying42 rfl i2 i2n rfl rfl) rfl ?_
              refine JL.val (yl_load1 Go.Proofs.Try.underlying2 rfl rfl (fun w hC => rd_box hC 4 rfl) rfl) rfl ?_
              refine JL.val (yl_move rfl) rfl ?_
              refine JL.val (yl_mul rfl rfl) rfl ?_
              refine JL.val (yl_move rfl) rfl ?_
              refine JL.val (yl_add rfl rfl) rfl ?_
              refine JL.val (yl_build rfl (fun w => bld42_0_1 (w64 ((w64 (x30.X * q2)) + (w64 ((w64 (0 - q3)) * (w64 (x30.Y - x26.Y)))))) (w64 ((w64 (x30.Y * q2)) + (w64 (q3 * (w64 (x30.X - x26.X)))))) w)) rfl ?_
              refine JL.val (yl_fieldAt (a := some _) Go.Proofs.Try.underlying42 rfl i2 i2n rfl rfl) rfl ?_
              refine JL.val (yl_load1 Go.Proofs.Try.underlying2 rfl rfl (fun w hC => rd_box hC 4 rfl) rfl) rfl ?_
              refine JL.val (yl_move rfl) rfl ?_
              refine JL.val (yl_mul rfl rfl) rfl ?_
              refine JL.val (yl_move rfl) rfl ?_
              refine JL.val (yl_sub rfl rfl) rfl ?_
              refine JL.val (yl_fieldAt (a := some _) Go.Proofs.Try.underlying42 rfl i2 i2n rfl rfl) rfl ?_
              refine JL.val (yl_load1 Go.Proofs.Try.underlying2 rfl rfl (fun w hC => rd_box hC 4 rfl) rfl) rfl ?_
              refine JL.val (yl_move rfl) rfl ?_
              refine JL.val (yl_mul rfl rfl) rfl ?_
              refine JL.val (yl_move rfl) rfl ?_
              refine JL.val (yl_sub rfl rfl) rfl ?_
              refine JL.val (yl_build rfl (fun w => bld42_0_1 (w64 ((w64 (x30.X * q2)) - (w64 ((w64 (0 - q3)) * (w64 (x30.Y - x26.Y)))))) (w64 ((w64 (x30.Y * q2)) - (w64 (q3 * (w64 (x30.X - x26.X)))))) w)) rfl ?_
              refine JL.val (yl_fieldAt (a := some _) Go.Proofs.Try.underlying42 rfl i2 i2n rfl rfl) rfl ?_
              refine JL.val (yl_load1 Go.Proofs.Try.underlying2 rfl rfl (fun w hC => rd_box hC 3 rfl) rfl) rfl ?_
              refine JL.val (yl_move rfl) rfl ?_
              refine JL.val (yl_mul rfl rfl) rfl ?_
              refine JL.val (yl_move rfl) rfl ?_
              refine JL.val (yl_sub rfl rfl) rfl ?_
              refine JL.val (yl_fieldAt (a := some _) Go.Proofs.Try.underlying42 rfl i2 i2n rfl rfl) rfl ?_
              refine JL.val (yl_load1 Go.Proofs.Try.underlying2 rfl rfl (fun w hC => rd_box hC 3 rfl) rfl) rfl ?_
              refine JL.val (yl_move rfl) rfl ?_
              refine JL.val (yl_mul rfl rfl) rfl ?_
              refine JL.val (yl_move rfl) rfl ?_
              refine JL.val (yl_sub rfl rfl) rfl ?_
              refine JL.val (yl_build rfl (fun w => bld42_0_1 (w64 ((w64 (x26.X * q2)) - (w64 ((w64 (0 - q3)) * (w64 (x30.Y - x26.Y)))))) (w64 ((w64 (x26.Y * q2)) - (w64 (q3 * (w64 (x30.X - x26.X)))))) w)) rfl ?_
              refine JL.eff (ef_buildSlice (E := 42) (k := eSPoint.k) (us := eSPoint.fl [SPoint.mk (w64 ((w64 (x26.X * q2)) + (w64 ((w64 (0 - q3)) * (w64 (x30.Y - x26.Y)))))) (w64 ((w64 (x26.Y * q2)) + (w64 (q3 * (w64 (x30.X - x26.X)))))), SPoint.mk (w64 ((w64 (x30.X * q2)) + (w64 ((w64 (0 - q3)) * (w64 (x30.Y - x26.Y)))))) (w64 ((w64 (x30.Y * q2)) + (w64 (q3 * (w64 (x30.X - x26.X)))))), SPoint.mk (w64 ((w64 (x30.X * q2)) - (w64 ((w64 (0 - q3)) * (w64 (x30.Y - x26.Y)))))) (w64 ((w64 (x30.Y * q2)) - (w64 (q3 * (w64 (x30.X - x26.X)))))), SPoint.mk (w64 ((w64 (x26.X * q2)) - (w64 ((w64 (0 - q3)) * (w64 (x30.Y - x26.Y)))))) (w64 ((w64 (x26.Y * q2)) - (w64 (q3 * (w64 (x30.X - x26.X))))))]) rfl (fun w => bsl34_4 (w64 ((w64 (x26.X * q2)) + (w64 ((w64 (0 - q3)) * (w64 (x30.Y - x26.Y)))))) (w64 ((w64 (x26.Y * q2)) + (w64 (q3 * (w64 (x30.X - x26.X)))))) (w64 ((w64 (x30.X * q2)) + (w64 ((w64 (0 - q3)) * (w64 (x30.Y - x26.Y)))))) (w64 ((w64 (x30.Y * q2)) + (w64 (q3 * (w64 (x30.X - x26.X)))))) (w64 ((w64 (x30.X * q2)) - (w64 ((w64 (0 - q3)) * (w64 (x30.Y - x26.Y)))))) (w64 ((w64 (x30.Y * q2)) - (w64 (q3 * (w64 (x30.X - x26.X)))))) (w64 ((w64 (x26.X * q2)) - (w64 ((w64 (0 - q3)) * (w64 (x30.Y - x26.Y)))))) (w64 ((w64 (x26.Y * q2)) - (w64 (q3 * (w64 (x30.X - x26.X)))))) w) rfl (by decide)) rfl ?_
              rintro _ _ ⟨a33, rfl, rfl⟩
              refine JL.eff (ef_buildSlice (E := 34) (k := eHd.k) (us := eHd.fl [⟨a33, 4, 4⟩]) rfl (fun w => bsl29_1 a33 4 4 w) rfl (by decide)) rfl ?_
              rintro _ _ ⟨a35, rfl, rfl⟩
              obtain ⟨x37, hx37, hres⟩ := bind_some hres
              refine JL.eff (ef_appendH (ix := 1) Go.Proofs.Try.underlying29 i34 i34z i34s rfl i34b0 i34b1 rfl rfl (Inn.len hi25) rfl rfl (fun w hC => rd_row hC 6 rfl) hx37 hi25) rfl ?_
              rintro _ _ ⟨a38, cp39, rfl, rfl⟩
              refine JL.absorb (es' := [rowT 42 eSPoint a4 x3.1.length cp5 x3.1, rowT 34 eHd a38 x37.length cp39 (hs24 ++ [⟨a33, 4, 4⟩]), boxO 42 g27 [.int .i64 x26.X, .int .i64 x26.Y], boxO 42 g31 [.int .i64 x30.X, .int .i64 x30.Y], rowT 34 eHd a35 1 1 [⟨a33, 4, 4⟩]]) [0, 1, 3, 4, 6, 2, 5] (by decide) rfl (appL_some hx37).2 ?_
              refine JL.val (yl_assign rfl) rfl ?_
              refine JL.nil ?_
              refine JE.weak (env' := [(2, .int .i64 q2), (3, .int .i64 q3), (10, .slice a4 x3.1.length cp5), (12, .slice a38 x37.length cp39), (13, .int .i64 x20)]) (es' := [rowT 42 eSPoint a4 x3.1.length cp5 x3.1, rowT 34 eHd a38 x37.length cp39 (hs24 ++ [⟨a33, 4, 4⟩]), innO 42 eSPoint none (hs24 ++ [⟨a33, 4, 4⟩]) x37]) [0, 1, 5] ?_ ⟨rfl, rfl, rfl, rfl, rfl, trivial⟩ (by decide) rfl
              refine JE.code ?_
              refine JX.region ?_
              refine JL.val (yl_move rfl) rfl ?_
              refine JL.val (yl_add rfl rfl) rfl ?_
              refine JL.val (yl_assign rfl) rfl ?_
              refine JL.nil ?_
              refine JE.cont hres ?_
              exact fun a w h => ⟨a38, cp39, hs24 ++ [⟨a33, 4, 4⟩], (Inn.appZ hi25 rfl (appL_some hx37).2), h.weak ⟨rfl, rfl, rfl, (by first | rfl | (simp only [List.length_set]; rfl) | simp only [List.length_set]), rfl, trivial⟩ [0, 1, 2] (by decide) (by first | rfl | (simp only [List.length_set]; rfl) | simp only [List.length_set])⟩
            · refine JX.condF rfl hb ?_
              refine JX.exit ?_
              refine JE.qb rfl ?_
              obtain ⟨b1, hb1⟩ : ∃ b : List (List SPoint), b = x21 := ⟨_, rfl⟩
              have hy1 : b1 = y1 := by rw [hb1]; exact hox1 _ (Option.some.inj hres).symm
              have hres := hresO1
              rw [← hy1] at hres
              have hi43 : Inn hs24 b1 := by subst hb1; exact hi25
              refine JE.weak (env' := [(12, .slice a22 b1.length cp23)]) (es' := [rowT 34 eHd a22 b1.length cp23 hs24, innO 42 eSPoint none hs24 b1]) [1, 2] ?_ ⟨(by subst hb1; first | rfl | (simp only [List.length_set]; rfl) | simp only [List.length_set]), trivial⟩ (by decide) (by subst hb1; first | rfl | (simp only [List.length_set]; rfl) | simp only [List.length_set])
              refine JE.code ?_
              refine JX.seq ?_
              refine JX.region ?_
              refine JL.val (yl_move rfl) rfl ?_
              refine JL.val (yl_assign rfl) rfl ?_
              refine JL.val (yl_assign rfl) rfl ?_
              refine JL.nil ?_
              refine JE.code ?_
              refine JX.ret ?_
              obtain rfl := Option.some.inj hres
              refine JE.ret (rs := [.tmp 8, .tmp 9]) (vs := [.slice a22 b1.length cp23, .int .i64 0]) rfl ⟨rfl, rfl, trivial⟩ ?_
              exact fun w' hb hs => ⟨_, _, ⟨a22, b1.length, cp23, hs24, rfl, hi43, rfl, rfl⟩, rfl, hb, hs.sel [0, 1] _ (by decide) rfl⟩
        · intro K
          rcases cond_some hj10 with ⟨hb, hres⟩ | ⟨hb, hres⟩
          · refine JX.condT rfl hb ?_
            refine JX.region ?_
            refine JL.val (yl_assign rfl) rfl ?_
            refine JL.nil ?_
            have hj := Option.some.inj hres
            exact JE.weak [0] (K) ⟨(by subst hj; rfl), (by subst hj; rfl), (by subst hj; rfl), (by subst hj; rfl), trivial⟩ (by decide) (by subst hj; rfl)
          · refine JX.condF rfl hb ?_
            refine JX.skip ?_
            have hj := Option.some.inj hres
            exact JE.weak [0] (K) ⟨(by subst hj; rfl), (by subst hj; rfl), (by subst hj; rfl), (by subst hj; rfl), trivial⟩ (by decide) (by subst hj; rfl)
      · intro K
        rcases Bool.eq_false_or_eq_true (j9 == 0) with hb | hb
        · refine JL.set (d := 33) (v := .bool true) (congrArg (fun b => some (Value.bool b)) hb) ?_
          refine JL.gval rfl rfl (yl_move rfl) rfl ?_
          refine JL.gval rfl rfl (yl_mul rfl rfl) rfl ?_
          refine JL.gval rfl rfl (yl_move rfl) rfl ?_
          refine JL.gval rfl rfl (yl_gtr rfl rfl) rfl ?_
          refine JL.val (yl_pick_true rfl rfl) rfl ?_
          exact JL.weak [0] K ⟨rfl, rfl, rfl, rfl, (by rw [hb]; rfl), trivial⟩ (by decide) rfl
        · refine JL.set (d := 33) (v := .bool false) (congrArg (fun b => some (Value.bool b)) hb) ?_
          refine JL.gskip rfl rfl rfl rfl ?_
          refine JL.gskip rfl rfl rfl rfl ?_
          refine JL.gskip rfl rfl rfl rfl ?_
          refine JL.gskip rfl rfl rfl rfl ?_
          refine JL.val (yl_pick_false rfl rfl) rfl ?_
          exact JL.weak [0] K ⟨rfl, rfl, rfl, rfl, (by rw [hb]; rfl), trivial⟩ (by decide) rfl
    · intro K
      rcases cond_some hj9 with ⟨hb, hres⟩ | ⟨hb, hres⟩
      · refine JX.condT rfl hb ?_
        refine JX.region ?_
        refine JL.val (yl_assign rfl) rfl ?_
        refine JL.nil ?_
        have hj := Option.some.inj hres
        exact JE.weak [0] (K) ⟨(by subst hj; rfl), (by subst hj; rfl), (by subst hj; rfl), (by subst hj; rfl), trivial⟩ (by decide) (by subst hj; rfl)
      · refine JX.condF rfl hb ?_
        refine JX.skip ?_
        have hj := Option.some.inj hres
        exact JE.weak [0] (K) ⟨(by subst hj; rfl), (by subst hj; rfl), (by subst hj; rfl), (by subst hj; rfl), trivial⟩ (by decide) (by subst hj; rfl)
  · intro K
    rcases cond_some hcb7 with ⟨hb, hres⟩ | ⟨hb, hres⟩
    · refine JL.set (d := 26) (v := .bool true) (congrArg (fun b => some (Value.bool b)) hb) ?_
      refine JL.gval rfl rfl (yl_move rfl) rfl ?_
      obtain ⟨x8, hx8, hres⟩ := bind_some hres
      refine JL.geff rfl rfl (ef_call (T := T100 x8) Go.Proofs.Try.func100 rfl (by kernel_rfl) rfl (fun w hC => c100  hx8)) rfl ?_
      rintro _ _ ⟨_, ⟨rfl, rfl⟩, rfl⟩
      refine JL.gval rfl rfl (yl_not rfl) rfl ?_
      refine JL.val (yl_pick_true rfl rfl) rfl ?_
      have he := Option.some.inj hres
      exact JL.weak [0] K ⟨rfl, rfl, rfl, rfl, (by rw [← he]; rfl), trivial⟩ (by decide) rfl
    · refine JL.set (d := 26) (v := .bool false) (congrArg (fun b => some (Value.bool b)) hb) ?_
      refine JL.gskip rfl rfl rfl rfl ?_
      refine JL.gskip rfl rfl rfl rfl ?_
      refine JL.gskip rfl rfl rfl rfl ?_
      refine JL.val (yl_pick_false rfl rfl) rfl ?_
      have he := Option.some.inj hres
      exact JL.weak [0] K ⟨rfl, rfl, rfl, rfl, (by rw [← he]; rfl), trivial⟩ (by decide) rfl

/- spec.CurvePath -/
def sh15_1 (q2 : Int) (x3 : List SPoint × Int) : (Int × List SPoint) → Option ((Int × List SPoint) ⊕ (List SPoint))
  | (x12, x13) => bif decide (x12 < (x3.1.length : Int)) then (Option.bind (getI x3.1 x12) fun x17 => Option.bind (getI x3.1 x12) fun x18 => Option.bind (appL x13 [SPoint.mk (w64 (x17.X * q2)) (w64 (x18.Y * q2))]) fun x21 => some (.inl (w64 (x12 + 1), x21))) else (some (.inr x13))
def sh15 (q0 : SPanel) (q1 : Int) (q2 : Int) : Option (List SPoint × Int) := Option.bind (sh99 q0 q1 q2) fun x3 => bif x3.2 != 0 then (some (([] : List SPoint), x3.2)) else (Option.bind (iter (sh15_1 q2 x3) (0, ([] : List SPoint))) fun b1 => (some (b1, 0)))
def T15 (r : List SPoint × Int) (v : Value) (rs : List Own) : Prop := ∃ (a0 : Option Addr) (n0 c0 : Nat), r.1.length = n0 ∧ v = rets [.slice a0 n0 c0, .int .i64 r.2] ∧ rs = [rowT 42 eSPoint a0 n0 c0 r.1]
set_option maxRecDepth 100000 in
theorem c15 {w : World} {q0 : SPanel} {a_0_2 : Option Addr} {n_0_2 c_0_2 : Nat} (g_0_2 : Rd w a_0_2 (eI64.fl q0.Breaks)) (l_0_2 : q0.Breaks.length = n_0_2) (k_0_2 : n_0_2 ≤ c_0_2) {q1 : Int} {q2 : Int} {r : List SPoint × Int} (hres : sh15 q0 q1 q2 = some r) : Calls Go.Proofs.Try.prog 15 [.agg #[.int .i64 q0.W, .int .i64 q0.H, .slice a_0_2 n_0_2 c_0_2], .int .i64 q1, .int .i64 q2].toArray w (Ret w (T15 r)) := by
  subst l_0_2
  unfold sh15 at hres
  refine calls_of (n := 47) (M := []) (es := []) Go.Proofs.Try.func15 rfl rfl rfl (Sep.nil _ _ _) ?_
  refine JX.seq ?_
  refine JX.region ?_
  refine JL.eff (ef_box rfl rfl) rfl ?_
  rintro _ _ ⟨g1, rfl, rfl⟩
  refine JL.val (yl_assign rfl) rfl ?_
  refine JL.val (yl_assign rfl) rfl ?_
  refine JL.nil ?_
  refine JE.code ?_
  refine JX.seq ?_
  refine JX.region ?_
  refine JL.val (yl_move rfl) rfl ?_
  refine JL.val (yl_move rfl) rfl ?_
  obtain ⟨x3, hx3, hres⟩ := bind_some hres
  refine JL.eff (ef_call (T := T99 x3) Go.Proofs.Try.func99 rfl (by kernel_rfl) rfl (fun w hC => c99 (RdAt.of0 (rd_box hC 0 rfl)) (rd_arg g_0_2 hC) rfl k_0_2 hx3)) rfl ?_
  rintro _ _ ⟨_, ⟨a4, _, cp5, rfl, rfl, rfl⟩, rfl⟩
  refine JL.val (yl_move rfl) rfl ?_
  refine JL.val (yl_extract rfl rfl) rfl ?_
  refine JL.val (yl_extract rfl rfl) rfl ?_
  refine JL.val (yl_assign rfl) rfl ?_
  refine JL.val (yl_assign rfl) rfl ?_
  refine JL.nil ?_
  refine JE.weak (env' := [(2, .int .i64 q2), (8, .slice a4 x3.1.length cp5), (9, .int .i64 x3.2)]) (es' := [rowT 42 eSPoint a4 x3.1.length cp5 x3.1]) [1] ?_ ⟨rfl, rfl, rfl, trivial⟩ (by decide) rfl
  refine JE.code ?_
  refine JX.seq ?_
  refine JX.seq ?_
  refine JX.region ?_
  refine JL.val (yl_move rfl) rfl ?_
  refine JL.val (yl_neq rfl rfl) rfl ?_
  refine JL.nil ?_
  refine JE.code ?_
  rcases cond_some hres with ⟨hb, hres⟩ | ⟨hb, hres⟩
  · refine JX.condT rfl hb ?_
    refine JX.seq ?_
    refine JX.region ?_
    refine JL.val (yl_move rfl) rfl ?_
    refine JL.val (yl_assign rfl) rfl ?_
    refine JL.val (yl_assign rfl) rfl ?_
    refine JL.nil ?_
    refine JE.weak (env' := [(6, .slice none 0 0), (7, .int .i64 x3.2)]) (es' := []) [] ?_ ⟨rfl, rfl, trivial⟩ (by decide) rfl
    refine JE.code ?_
    refine JX.ret ?_
    refine JE.nilrow 42 eSPoint ?_
    obtain rfl := Option.some.inj hres
    refine JE.ret (rs := [.tmp 6, .tmp 7]) (vs := [.slice none 0 0, .int .i64 x3.2]) rfl ⟨rfl, rfl, trivial⟩ ?_
    exact fun w' hb hs => ⟨_, _, ⟨none, 0, 0, rfl, rfl, rfl⟩, rfl, hb, hs.sel [0] _ (by decide) rfl⟩
  · refine JX.condF rfl hb ?_
    refine JX.skip ?_
    refine JE.code ?_
    refine JX.seq ?_
    refine JX.region ?_
    refine JL.eff (ef_buildSlice (E := 42) (k := eSPoint.k) (us := eSPoint.fl ([] : List SPoint)) rfl (fun w => bsl34_0  w) rfl (by decide)) rfl ?_
    rintro _ _ ⟨a8, rfl, rfl⟩
    refine JL.val (yl_assign rfl) rfl ?_
    refine JL.nil ?_
    refine JE.code ?_
    refine JX.seq ?_
    refine JX.seq ?_
    refine JX.region ?_
    refine JL.val (yl_assign rfl) rfl ?_
    refine JL.nil ?_
    refine JE.code ?_
    refine JX.block ?_
    obtain ⟨y1, hy1, hresO1⟩ := bind_some hres
    refine JX.loop (I := fun (s1 : Int × List SPoint) aa ww => ∃ (a10 : Option Addr) (cp11 : Nat), St w [] 47 [(2, .int .i64 q2), (8, .slice a4 x3.1.length cp5), (10, .slice a10 s1.2.length cp11), (11, .int .i64 s1.1)] [rowT 42 eSPoint a4 x3.1.length cp5 x3.1, rowT 42 eSPoint a10 s1.2.length cp11 s1.2] aa ww) (sh15_1 q2 x3) hy1 (fun a w h => ⟨a8, 0, h.weak ⟨rfl, rfl, rfl, rfl, trivial⟩ [0, 1] (by decide) rfl⟩) ?_
    rintro ⟨x12, x13⟩ o1 hres hox1 aa ww ⟨a14, cp15, hS⟩
    refine (?_ : JX Go.Proofs.Try.prog w [] 47 _ _ [(2, .int .i64 q2), (8, .slice a4 x3.1.length cp5), (10, .slice a14 x13.length cp15), (11, .int .i64 x12)] [rowT 42 eSPoint a4 x3.1.length cp5 x3.1, rowT 42 eSPoint a14 x13.length cp15 x13] _) aa ww hS
    clear hS
    simp only [sh15_1] at hres
    refine JX.seq ?_
    refine JX.seq ?_
    refine JX.region ?_
    refine JL.val (yl_move rfl) rfl ?_
    refine JL.val (yl_move rfl) rfl ?_
    refine JL.val (yl_len_slice Go.Proofs.Try.underlying34 rfl) rfl ?_
    refine JL.val (yl_lss rfl rfl) rfl ?_
    refine JL.nil ?_
    refine JE.weak (env' := [(2, .int .i64 q2), (8, .slice a4 x3.1.length cp5), (10, .slice a14 x13.length cp15), (11, .int .i64 x12), (25, .bool (decide (x12 < (x3.1.length : Int))))]) (es' := [rowT 42 eSPoint a4 x3.1.length cp5 x3.1, rowT 42 eSPoint a14 x13.length cp15 x13]) [0, 1] ?_ ⟨rfl, rfl, rfl, rfl, rfl, trivial⟩ (by decide) rfl
    refine JE.code ?_
    rcases cond_some hres with ⟨hb, hres⟩ | ⟨hb, hres⟩
    · refine JX.condT rfl hb ?_
      refine JX.skip ?_
      refine JE.code ?_
      refine JX.seq ?_
      refine JX.block ?_
      refine JX.drawH [(0, .pure), (1, .pure), (2, .pure), (3, .pure), (4, .pure), (5, .read), (6, .pure), (7, .pure), (8, .pure), (9, .pure), (10, .pure), (11, .pure), (12, .read), (13, .pure), (14, .pure), (15, .pure), (16, .must), (17, .must), (18, .pure)] [17] [1] [0] [rowT 42 eSPoint a14 x13.length cp15 x13] [rowT 42 eSPoint a4 x3.1.length cp5 x3.1] mixedP (by kernel_rfl) (by kernel_rfl) (by decide) rfl rfl ?_
      intro wrr16 Nr16 hFr16
      refine JH.pure rfl (yl_move rfl) rfl ?_
      refine JH.pure rfl (yl_move rfl) rfl ?_
      refine JH.pure rfl (yl_move rfl) rfl ?_
      obtain ⟨x17, hx17, hres⟩ := bind_some hres
      refine JH.pure rfl (yl_idxQ Go.Proofs.Try.underlying34 i42 i42s rfl rfl hx17 rfl (rd_row hFr16.cl 0 rfl) rfl) rfl ?_
      refine JH.pure rfl (yl_fieldAt Go.Proofs.Try.underlying42 rfl i2 i2n rfl (RdT.someQ (rd_row hFr16.cl 0 rfl) hx17 rfl rfl)) rfl ?_
      refine JH.read rfl (yl_loadT1 Go.Proofs.Try.underlying2 rfl rfl hx17 (fun w hw => hFr16.row 0 rfl rfl hw) rfl) rfl ?_
      refine JH.pure rfl (yl_move rfl) rfl ?_
      refine JH.pure rfl (yl_mul rfl rfl) rfl ?_
      refine JH.pure rfl (yl_move rfl) rfl ?_
      refine JH.pure rfl (yl_move rfl) rfl ?_
      obtain ⟨x18, hx18, hres⟩ := bind_some hres
      refine JH.pure rfl (yl_idxQ Go.Proofs.Try.underlying34 i42 i42s rfl rfl hx18 rfl (rd_row hFr16.cl 0 rfl) rfl) rfl ?_
      refine JH.pure rfl (yl_fieldAt Go.Proofs.Try.underlying42 rfl i2 i2n rfl (RdT.someQ (rd_row hFr16.cl 0 rfl) hx18 rfl rfl)) rfl ?_
      refine JH.read rfl (yl_loadT1 Go.Proofs.Try.underlying2 rfl rfl hx18 (fun w hw => hFr16.row 0 rfl rfl hw) rfl) rfl ?_
      refine JH.pure rfl (yl_move rfl) rfl ?_
      refine JH.pure rfl (yl_mul rfl rfl) rfl ?_
      refine JH.pure rfl (yl_build rfl (fun w => bld42_0_1 (w64 (x17.X * q2)) (w64 (x18.Y * q2)) w)) rfl ?_
      refine JH.must rfl (ef_buildSlice (E := 42) (k := eSPoint.k) (us := eSPoint.fl [SPoint.mk (w64 (x17.X * q2)) (w64 (x18.Y * q2))]) rfl (fun w => bsl34_1 (w64 (x17.X * q2)) (w64 (x18.Y * q2)) w) rfl (by decide)) rfl rfl ?_
      rintro _ _ ⟨a19, rfl, rfl⟩
      obtain ⟨x21, hx21, hres⟩ := bind_some hres
      refine JH.must rfl (ef_appendT (ix := 0) Go.Proofs.Try.underlying34 i42 i42z i42s rfl i42b0 i42b1 rfl rfl rfl rfl rfl (fun w hC => rd_row hC 1 rfl) hx21) rfl rfl ?_
      rintro _ _ ⟨a22, cp23, rfl, rfl⟩
      refine JH.pure rfl (yl_assign rfl) rfl ?_
      refine JH.nil ?_
      refine JE.weak (env' := [(2, .int .i64 q2), (8, .slice a4 x3.1.length cp5), (10, .slice a22 x21.length cp23), (11, .int .i64 x12)]) (es' := [rowT 42 eSPoint a4 x3.1.length cp5 x3.1, rowT 42 eSPoint a22 x21.length cp23 x21]) [0, 1] ?_ ⟨rfl, rfl, rfl, rfl, trivial⟩ (by decide) rfl
      refine JE.code ?_
      refine JX.region ?_
      refine JL.val (yl_move rfl) rfl ?_
      refine JL.val (yl_add rfl rfl) rfl ?_
      refine JL.val (yl_assign rfl) rfl ?_
      refine JL.nil ?_
      refine JE.cont hres ?_
      exact fun a w h => ⟨a22, cp23, h.weak ⟨rfl, rfl, rfl, rfl, trivial⟩ [0, 1] (by decide) rfl⟩
    · refine JX.condF rfl hb ?_
      refine JX.exit ?_
      refine JE.qb rfl ?_
      obtain ⟨b1, hb1⟩ : ∃ b : List SPoint, b = x13 := ⟨_, rfl⟩
      have hy1 : b1 = y1 := by rw [hb1]; exact hox1 _ (Option.some.inj hres).symm
      have hres := hresO1
      rw [← hy1] at hres
      refine JE.weak (env' := [(10, .slice a14 b1.length cp15)]) (es' := [rowT 42 eSPoint a14 b1.length cp15 b1]) [1] ?_ ⟨(by subst hb1; rfl), trivial⟩ (by decide) (by subst hb1; rfl)
      refine JE.code ?_
      refine JX.seq ?_
      refine JX.region ?_
      refine JL.val (yl_move rfl) rfl ?_
      refine JL.val (yl_assign rfl) rfl ?_
      refine JL.val (yl_assign rfl) rfl ?_
      refine JL.nil ?_
      refine JE.code ?_
      refine JX.ret ?_
      obtain rfl := Option.some.inj hres
      refine JE.ret (rs := [.tmp 6, .tmp 7]) (vs := [.slice a14 b1.length cp15, .int .i64 0]) rfl ⟨rfl, rfl, trivial⟩ ?_
      exact fun w' hb hs => ⟨_, _, ⟨a14, b1.length, cp15, rfl, rfl, rfl⟩, rfl, hb, hs.sel [0] _ (by decide) rfl⟩

/- spec.l02New -/
def sh184 (q0 : Int) (q1 : Int) : Option (SPanel) := Option.bind (sh202 q0 q1) fun x3 => Option.bind (mkL x3 0) fun x4 => some (SPanel.mk q0 q1 x4)
def T184 (r : SPanel) (v : Value) (rs : List Own) : Prop := ∃ (a0_2 : Option Addr) (n0_2 c0_2 : Nat), r.Breaks.length = n0_2 ∧ v = rets [.agg #[.int .i64 r.W, .int .i64 r.H, .slice a0_2 n0_2 c0_2]] ∧ rs = [rowT 2 eI64 a0_2 n0_2 c0_2 r.Breaks]
set_option maxRecDepth 100000 in
theorem c184 {w : World} {q0 : Int} {q1 : Int} {r : SPanel} (hres : sh184 q0 q1 = some r) : Calls Go.Proofs.Try.prog 184 [.int .i64 q0, .int .i64 q1].toArray w (Ret w (T184 r)) := by
  unfold sh184 at hres
  refine calls_of (n := 12) (M := []) (es := []) Go.Proofs.Try.func184 rfl rfl rfl (Sep.nil _ _ _) ?_
  refine JX.seq ?_
  refine JX.region ?_
  refine JL.eff (ef_alloc i26 i26z rfl) rfl ?_
  rintro _ _ ⟨g1, rfl, rfl⟩
  refine JL.nil ?_
  refine JE.code ?_
  refine JX.seq ?_
  refine JX.region ?_
  refine JL.val (yl_move rfl) rfl ?_
  refine JL.val (yl_move rfl) rfl ?_
  refine JL.val (yl_move rfl) rfl ?_
  refine JL.val (yl_move rfl) rfl ?_
  obtain ⟨x3, hx3, hres⟩ := bind_some hres
  refine JL.eff (ef_call (T := T202 x3) Go.Proofs.Try.func202 rfl (by kernel_rfl) rfl (fun w hC => c202  hx3)) rfl ?_
  rintro _ _ ⟨_, ⟨rfl, rfl⟩, rfl⟩
  obtain ⟨x4, hx4, hres⟩ := bind_some hres
  refine JL.eff (ef_makeS (e := eI64) Go.Proofs.Try.underlying24 i2 i2s i2z rfl i2b1 rfl rfl hx4) rfl ?_
  rintro _ _ ⟨a5, rfl, rfl⟩
  refine JL.val (yl_build rfl (fun w => bld26_0_1_2 q0 q1 a5 x4.length x4.length w)) rfl ?_
  refine JL.eff (ef_store_box (i := 0) (v := .agg #[.int .i64 q0, .int .i64 q1, .slice a5 x4.length x4.length]) i26 rfl rfl rfl (i26s).symm (Nat.le_of_ble_eq_true rfl) (by simp [Value.cells, Value.oneCell'])) rfl ?_
  rintro _ _ rfl
  refine JL.nil ?_
  refine JE.weak (env' := [(4, ptrAt (some ⟨g1, 0, none⟩) 0)]) (es' := [boxO 26 g1 [.int .i64 q0, .int .i64 q1, .slice a5 x4.length x4.length], rowT 2 eI64 a5 x4.length x4.length x4]) [0, 1] ?_ ⟨rfl, trivial⟩ (by decide) rfl
  refine JE.code ?_
  refine JX.ret ?_
  obtain rfl := Option.some.inj hres
  refine JE.ret (rs := [.cell 4 26]) (vs := [.agg #[.int .i64 q0, .int .i64 q1, .slice a5 x4.length x4.length]]) rfl ⟨rv_box 0 rfl rfl Go.Proofs.Try.underlying26 rfl i26 (i26s).symm, trivial⟩ ?_
  exact fun w' hb hs => ⟨_, _, ⟨a5, x4.length, x4.length, rfl, rfl, rfl⟩, rfl, hb, hs.sel [1] _ (by decide) rfl⟩

/- spec.l02Draw -/
def sh183_1 (q0 : Sl00Src) (x5 : SPanel) (x11 : Int × Int × Int) : (Int × (Int × Int) × List Int) → Option ((Int × (Int × Int) × List Int) ⊕ ((Int × Int) × List Int))
  | (x13, x14, x15) => bif decide (x13 < ((x5.Breaks.length : Nat) : Int)) then (Option.bind (sh92 (Sl00Src.mk q0.code x14.1 x14.2) 4) fun x17 => Option.bind (bif decide (x17.1 < x11.1) then (Option.bind (sh92 (Sl00Src.mk q0.code x17.2.1 x17.2.2) 2) fun x21 => Option.bind (getI x15 x13) fun x22 => some ((x21.2.1, x21.2.2), x15.set (x13).toNat (w64 (1 + x21.1)))) else (some ((x17.2.1, x17.2.2), x15))) fun j18 => (some (.inl (w64 (x13 + 1), (j18.1.1, j18.1.2), j18.2)))) else (some (.inr ((x14.1, x14.2), x15)))
def sh183 (q0 : Sl00Src) (q1 : Int) : Option (SPanel × Int × Int) := Option.bind (sh92 q0 q1) fun x3 => Option.bind (sh92 (Sl00Src.mk q0.code x3.2.1 x3.2.2) q1) fun x4 => Option.bind (sh184 (w64 (1 + x3.1)) (w64 (1 + x4.1))) fun x5 => Option.bind (sh92 (Sl00Src.mk q0.code x4.2.1 x4.2.2) 4) fun x11 => Option.bind (iter (sh183_1 q0 x5 x11) (0, (x11.2.1, x11.2.2), x5.Breaks)) fun b1 => (some (SPanel.mk x5.W x5.H b1.2, b1.1.1, b1.1.2))
def T183 (gb_0 : Nat) (a_0_0 : Option Addr) (n_0_0 c_0_0 : Nat) (r : SPanel × Int × Int) (v : Value) (es' rs : List Own) : Prop := es' = [boxO 163 gb_0 [.slice a_0_0 n_0_0 c_0_0, .int .i64 r.2.1, .int .u64 r.2.2]] ∧ ∃ (a0_2 : Option Addr) (n0_2 c0_2 : Nat), r.1.Breaks.length = n0_2 ∧ v = rets [.agg #[.int .i64 r.1.W, .int .i64 r.1.H, .slice a0_2 n0_2 c0_2]] ∧ rs = [rowT 2 eI64 a0_2 n0_2 c0_2 r.1.Breaks]
set_option maxRecDepth 100000 in
theorem c183 {w : World} {M : List Nat} {q0 : Sl00Src} {gb_0 : Nat} {a_0_0 : Option Addr} {n_0_0 c_0_0 : Nat} (g_0_0 : RdS M w a_0_0 (eU8.fl q0.code)) (l_0_0 : q0.code.length = n_0_0) (k_0_0 : n_0_0 ≤ c_0_0) {q1 : Int} (gs : Sep w.heap.size M w [boxO 163 gb_0 [.slice a_0_0 n_0_0 c_0_0, .int .i64 q0.at_, .int .u64 q0.seed]]) {r : SPanel × Int × Int} (hres : sh183 q0 q1 = some r) : Calls Go.Proofs.Try.prog 183 [ptrAt (some ⟨gb_0, 0, none⟩) 0, .int .i64 q1].toArray w (RetMs w M (T183 gb_0 a_0_0 n_0_0 c_0_0 r)) := by
  subst l_0_0
  unfold sh183 at hres
  refine calls_of (n := 40) (M := M) (es := [boxO 163 gb_0 [.slice a_0_0 q0.code.length c_0_0, .int .i64 q0.at_, .int .u64 q0.seed]]) Go.Proofs.Try.func183 rfl rfl rfl gs ?_
  refine JX.seq ?_
  refine JX.region ?_
  refine JL.eff (ef_alloc i26 i26z rfl) rfl ?_
  rintro _ _ ⟨g1, rfl, rfl⟩
  refine JL.nil ?_
  refine JE.code ?_
  refine JX.seq ?_
  refine JX.region ?_
  refine JL.val (yl_move rfl) rfl ?_
  refine JL.val (yl_move rfl) rfl ?_
  obtain ⟨x3, hx3, hres⟩ := bind_some hres
  refine JL.eff (ef_callms (caps := []) (vs := [ptrAt (some ⟨gb_0, 0, none⟩) 0, .int .i64 q1]) (T := T92 gb_0 a_0_0 q0.code.length c_0_0 x3) [0] [1] [boxO 163 gb_0 [.slice a_0_0 q0.code.length c_0_0, .int .i64 q0.at_, .int .u64 q0.seed]] [boxO 26 g1 [.int .i64 0, .int .i64 0, .slice none 0 0]] rfl Go.Proofs.Try.func92 rfl (by kernel_rfl) rfl (by decide) rfl rfl (fun w N hF hS => c92 (q0 := q0) (RdS.pass hF g_0_0) rfl k_0_0 hS hx3)) rfl ?_
  rintro _ _ ⟨_, _, ⟨rfl, rfl, rfl⟩, rfl⟩
  refine JL.val (yl_add rfl rfl) rfl ?_
  refine JL.val (yl_assign rfl) rfl ?_
  refine JL.nil ?_
  refine JE.weak (env' := [(0, ptrAt (some ⟨gb_0, 0, none⟩) 0), (1, .int .i64 q1), (4, ptrAt (some ⟨g1, 0, none⟩) 0), (5, .int .i64 (w64 (1 + x3.1)))]) (es' := [boxO 163 gb_0 [.slice a_0_0 q0.code.length c_0_0, .int .i64 x3.2.1, .int .u64 x3.2.2], boxO 26 g1 [.int .i64 0, .int .i64 0, .slice none 0 0]]) [1, 0] ?_ ⟨rfl, rfl, rfl, rfl, trivial⟩ (by decide) rfl
  refine JE.code ?_
  refine JX.seq ?_
  refine JX.region ?_
  refine JL.val (yl_move rfl) rfl ?_
  refine JL.val (yl_move rfl) rfl ?_
  refine JL.val (yl_move rfl) rfl ?_
  obtain ⟨x4, hx4, hres⟩ := bind_some hres
  refine JL.eff (ef_callms (caps := []) (vs := [ptrAt (some ⟨gb_0, 0, none⟩) 0, .int .i64 q1]) (T := T92 gb_0 a_0_0 q0.code.length c_0_0 x4) [0] [1] [boxO 163 gb_0 [.slice a_0_0 q0.code.length c_0_0, .int .i64 x3.2.1, .int .u64 x3.2.2]] [boxO 26 g1 [.int .i64 0, .int .i64 0, .slice none 0 0]] rfl Go.Proofs.Try.func92 rfl (by kernel_rfl) rfl (by decide) rfl rfl (fun w N hF hS => c92 (q0 := Sl00Src.mk q0.code x3.2.1 x3.2.2) (RdS.pass hF g_0_0) rfl k_0_0 hS hx4)) rfl ?_
  rintro _ _ ⟨_, _, ⟨rfl, rfl, rfl⟩, rfl⟩
  refine JL.val (yl_add rfl rfl) rfl ?_
  obtain ⟨x5, hx5, hres⟩ := bind_some hres
  refine JL.eff (ef_call (T := T184 x5) Go.Proofs.Try.func184 rfl (by kernel_rfl) rfl (fun w hC => c184  hx5)) rfl ?_
  rintro _ _ ⟨_, ⟨a6, _, cp7, rfl, rfl, rfl⟩, rfl⟩
  refine JL.eff (ef_alloc i26 i26z rfl) rfl ?_
  rintro _ _ ⟨g9, rfl, rfl⟩
  refine JL.eff (ef_store_box (i := 3) (v := .agg #[.int .i64 x5.W, .int .i64 x5.H, .slice a6 x5.Breaks.length cp7]) i26 rfl rfl rfl (i26s).symm (Nat.le_of_ble_eq_true rfl) (by simp [Value.cells, Value.oneCell'])) rfl ?_
  rintro _ _ rfl
  refine JL.nil ?_
  refine JE.weak (env' := [(0, ptrAt (some ⟨gb_0, 0, none⟩) 0), (4, ptrAt (some ⟨g1, 0, none⟩) 0), (6, ptrAt (some ⟨g9, 0, none⟩) 0)]) (es' := [boxO 163 gb_0 [.slice a_0_0 q0.code.length c_0_0, .int .i64 x4.2.1, .int .u64 x4.2.2], boxO 26 g1 [.int .i64 0, .int .i64 0, .slice none 0 0], boxO 26 g9 [.int .i64 x5.W, .int .i64 x5.H, .slice a6 x5.Breaks.length cp7], rowT 2 eI64 a6 x5.Breaks.length cp7 x5.Breaks]) [1, 0, 3, 2] ?_ ⟨rfl, rfl, rfl, trivial⟩ (by decide) rfl
  refine JE.code ?_
  refine JX.seq ?_
  refine JX.region ?_
  refine JL.val (yl_move rfl) rfl ?_
  obtain ⟨x11, hx11, hres⟩ := bind_some hres
  refine JL.eff (ef_callms (caps := []) (vs := [ptrAt (some ⟨gb_0, 0, none⟩) 0, .int .i64 4]) (T := T92 gb_0 a_0_0 q0.code.length c_0_0 x11) [0] [1, 2, 3] [boxO 163 gb_0 [.slice a_0_0 q0.code.length c_0_0, .int .i64 x4.2.1, .int .u64 x4.2.2]] [boxO 26 g1 [.int .i64 0, .int .i64 0, .slice none 0 0], boxO 26 g9 [.int .i64 x5.W, .int .i64 x5.H, .slice a6 x5.Breaks.length cp7], rowT 2 eI64 a6 x5.Breaks.length cp7 x5.Breaks] rfl Go.Proofs.Try.func92 rfl (by kernel_rfl) rfl (by decide) rfl rfl (fun w N hF hS => c92 (q0 := Sl00Src.mk q0.code x4.2.1 x4.2.2) (RdS.pass hF g_0_0) rfl k_0_0 hS hx11)) rfl ?_
  rintro _ _ ⟨_, _, ⟨rfl, rfl, rfl⟩, rfl⟩
  refine JL.val (yl_assign rfl) rfl ?_
  refine JL.nil ?_
  refine JE.code ?_
  refine JX.seq ?_
  refine JX.seq ?_
  refine JX.region ?_
  refine JL.val (yl_assign rfl) rfl ?_
  refine JL.nil ?_
  refine JE.code ?_
  refine JX.block ?_
  obtain ⟨y1, hy1, hresO1⟩ := bind_some hres
  refine JX.loop (I := fun (s1 : Int × (Int × Int) × List Int) aa ww => ∃ (l12 : s1.2.2.length = x5.Breaks.length), St w M 40 [(0, ptrAt (some ⟨gb_0, 0, none⟩) 0), (4, ptrAt (some ⟨g1, 0, none⟩) 0), (6, ptrAt (some ⟨g9, 0, none⟩) 0), (7, .int .i64 x11.1), (8, .int .i64 s1.1)] [boxO 163 gb_0 [.slice a_0_0 q0.code.length c_0_0, .int .i64 s1.2.1.1, .int .u64 s1.2.1.2], boxO 26 g1 [.int .i64 0, .int .i64 0, .slice none 0 0], boxO 26 g9 [.int .i64 x5.W, .int .i64 x5.H, .slice a6 x5.Breaks.length cp7], rowT 2 eI64 a6 x5.Breaks.length cp7 s1.2.2] aa ww) (sh183_1 q0 x5 x11) hy1 (fun a w h => ⟨rfl, h.weak ⟨rfl, rfl, rfl, rfl, rfl, trivial⟩ [3, 0, 1, 2] (by decide) rfl⟩) ?_
  rintro ⟨x13, x14, x15⟩ o1 hres hox1 aa ww ⟨l16, hS⟩
  refine (?_ : JX Go.Proofs.Try.prog w M 40 _ _ [(0, ptrAt (some ⟨gb_0, 0, none⟩) 0), (4, ptrAt (some ⟨g1, 0, none⟩) 0), (6, ptrAt (some ⟨g9, 0, none⟩) 0), (7, .int .i64 x11.1), (8, .int .i64 x13)] [boxO 163 gb_0 [.slice a_0_0 q0.code.length c_0_0, .int .i64 x14.1, .int .u64 x14.2], boxO 26 g1 [.int .i64 0, .int .i64 0, .slice none 0 0], boxO 26 g9 [.int .i64 x5.W, .int .i64 x5.H, .slice a6 x5.Breaks.length cp7], rowT 2 eI64 a6 x5.Breaks.length cp7 x15] _) aa ww hS
  clear hS
  simp only [sh183_1] at hres
  refine JX.seq ?_
  refine JX.seq ?_
  refine JX.region ?_
  refine JL.val (yl_move rfl) rfl ?_
  refine JL.val (yl_fieldAt (a := some _) Go.Proofs.Try.underlying26 rfl i24 i24n rfl rfl) rfl ?_
  refine JL.val (yl_load1 Go.Proofs.Try.underlying24 rfl rfl (fun w hC => rd_box hC 2 rfl) rfl) rfl ?_
  refine JL.val (yl_len_slice Go.Proofs.Try.underlying24 rfl) rfl ?_
  refine JL.val (yl_lss rfl rfl) rfl ?_
  refine JL.nil ?_
  refine JE.weak (env' := [(0, ptrAt (some ⟨gb_0, 0, none⟩) 0), (4, ptrAt (some ⟨g1, 0, none⟩) 0), (6, ptrAt (some ⟨g9, 0, none⟩) 0), (7, .int .i64 x11.1), (8, .int .i64 x13), (25, .bool (decide (x13 < ((x5.Breaks.length : Nat) : Int))))]) (es' := [boxO 163 gb_0 [.slice a_0_0 q0.code.length c_0_0, .int .i64 x14.1, .int .u64 x14.2], boxO 26 g1 [.int .i64 0, .int .i64 0, .slice none 0 0], boxO 26 g9 [.int .i64 x5.W, .int .i64 x5.H, .slice a6 x5.Breaks.length cp7], rowT 2 eI64 a6 x5.Breaks.length cp7 x15]) [0, 1, 2, 3] ?_ ⟨rfl, rfl, rfl, rfl, rfl, rfl, trivial⟩ (by decide) rfl
  refine JE.code ?_
  rcases cond_some hres with ⟨hb, hres⟩ | ⟨hb, hres⟩
  · refine JX.condT rfl hb ?_
    refine JX.skip ?_
    refine JE.code ?_
    refine JX.seq ?_
    refine JX.block ?_
    refine JX.seq ?_
    refine JX.region ?_
    refine JL.val (yl_move rfl) rfl ?_
    obtain ⟨x17, hx17, hres⟩ := bind_some hres
    refine JL.eff (ef_callms (caps := []) (vs := [ptrAt (some ⟨gb_0, 0, none⟩) 0, .int .i64 4]) (T := T92 gb_0 a_0_0 q0.code.length c_0_0 x17) [0] [1, 2, 3] [boxO 163 gb_0 [.slice a_0_0 q0.code.length c_0_0, .int .i64 x14.1, .int .u64 x14.2]] [boxO 26 g1 [.int .i64 0, .int .i64 0, .slice none 0 0], boxO 26 g9 [.int .i64 x5.W, .int .i64 x5.H, .slice a6 x5.Breaks.length cp7], rowT 2 eI64 a6 x5.Breaks.length cp7 x15] rfl Go.Proofs.Try.func92 rfl (by kernel_rfl) rfl (by decide) rfl rfl (fun w N hF hS => c92 (q0 := Sl00Src.mk q0.code x14.1 x14.2) (RdS.pass hF g_0_0) rfl k_0_0 hS hx17)) rfl ?_
    rintro _ _ ⟨_, _, ⟨rfl, rfl, rfl⟩, rfl⟩
    refine JL.val (yl_move rfl) rfl ?_
    refine JL.val (yl_lss rfl rfl) rfl ?_
    refine JL.nil ?_
    refine JE.weak (env' := [(0, ptrAt (some ⟨gb_0, 0, none⟩) 0), (4, ptrAt (some ⟨g1, 0, none⟩) 0), (6, ptrAt (some ⟨g9, 0, none⟩) 0), (7, .int .i64 x11.1), (8, .int .i64 x13), (31, .bool (decide (x17.1 < x11.1)))]) (es' := [boxO 163 gb_0 [.slice a_0_0 q0.code.length c_0_0, .int .i64 x17.2.1, .int .u64 x17.2.2], boxO 26 g1 [.int .i64 0, .int .i64 0, .slice none 0 0], boxO 26 g9 [.int .i64 x5.W, .int .i64 x5.H, .slice a6 x5.Breaks.length cp7], rowT 2 eI64 a6 x5.Breaks.length cp7 x15]) [3, 0, 1, 2] ?_ ⟨rfl, rfl, rfl, rfl, rfl, rfl, trivial⟩ (by decide) rfl
    refine JE.code ?_
    obtain ⟨j18, hj18, hresj18⟩ := bind_some hres
    refine JX.cut (K := fun J => ∀ (l19 : j18.2.length = x5.Breaks.length), J [(0, ptrAt (some ⟨gb_0, 0, none⟩) 0), (4, ptrAt (some ⟨g1, 0, none⟩) 0), (6, ptrAt (some ⟨g9, 0, none⟩) 0), (7, .int .i64 x11.1), (8, .int .i64 x13)] [boxO 163 gb_0 [.slice a_0_0 q0.code.length c_0_0, .int .i64 j18.1.1, .int .u64 j18.1.2], boxO 26 g1 [.int .i64 0, .int .i64 0, .slice none 0 0], boxO 26 g9 [.int .i64 x5.W, .int .i64 x5.H, .slice a6 x5.Breaks.length cp7], rowT 2 eI64 a6 x5.Breaks.length cp7 j18.2]) ?_ ?_
    · intro l19
      have hres := hresj18
      refine JE.code ?_
      refine JX.region ?_
      refine JL.val (yl_move rfl) rfl ?_
      refine JL.val (yl_add rfl rfl) rfl ?_
      refine JL.val (yl_assign rfl) rfl ?_
      refine JL.nil ?_
      refine JE.cont hres ?_
      exact fun a w h => ⟨l19, h.weak ⟨rfl, rfl, rfl, rfl, rfl, trivial⟩ [0, 1, 2, 3] (by decide) rfl⟩
    · intro K
      rcases cond_some hj18 with ⟨hb, hres⟩ | ⟨hb, hres⟩
      · refine JX.condT rfl hb ?_
        refine JX.drawH [(0, .pure), (1, .read), (2, .pure), (3, .pure), (4, .must), (5, .pure), (6, .pure), (7, .must)] [4, 7] [0, 3] [1, 2] [boxO 163 gb_0 [.slice a_0_0 q0.code.length c_0_0, .int .i64 x17.2.1, .int .u64 x17.2.2], rowT 2 eI64 a6 x5.Breaks.length cp7 x15] [boxO 26 g1 [.int .i64 0, .int .i64 0, .slice none 0 0], boxO 26 g9 [.int .i64 x5.W, .int .i64 x5.H, .slice a6 x5.Breaks.length cp7]] mixedP (by kernel_rfl) (by kernel_rfl) (by decide) rfl rfl ?_
        intro wrr20 Nr20 hFr20
        refine JH.pure rfl (yl_fieldAt (a := some _) Go.Proofs.Try.underlying26 rfl i24 i24n rfl rfl) rfl ?_
        refine JH.read rfl (yl_load1 Go.Proofs.Try.underlying24 rfl rfl (fun w hw => hFr20.box 2 rfl rfl hw) rfl) rfl ?_
        refine JH.pure rfl (yl_move rfl) rfl ?_
        refine JH.pure rfl (yl_move rfl) rfl ?_
        obtain ⟨x21, hx21, hres⟩ := bind_some hres
        refine JH.must rfl (ef_callms (caps := []) (vs := [ptrAt (some ⟨gb_0, 0, none⟩) 0, .int .i64 2]) (T := T92 gb_0 a_0_0 q0.code.length c_0_0 x21) [0] [1] [boxO 163 gb_0 [.slice a_0_0 q0.code.length c_0_0, .int .i64 x17.2.1, .int .u64 x17.2.2]] [rowT 2 eI64 a6 x5.Breaks.length cp7 x15] rfl Go.Proofs.Try.func92 rfl (by kernel_rfl) rfl (by decide) rfl rfl (fun w N hF hS => c92 (q0 := Sl00Src.mk q0.code x17.2.1 x17.2.2) (RdS.pass hF (RdS.pass hFr20 g_0_0)) rfl k_0_0 hS hx21)) rfl rfl ?_
        rintro _ _ ⟨_, _, ⟨rfl, rfl, rfl⟩, rfl⟩
        refine JH.pure rfl (yl_add rfl rfl) rfl ?_
        obtain ⟨x22, hx22, hres⟩ := bind_some hres
        refine JH.pure rfl (yl_idxQ Go.Proofs.Try.underlying24 i2 i2s rfl rfl hx22 l16 (rd_row hFr20.cl 3 rfl) l16) rfl ?_
        refine JH.must rfl (ef_storeT (ix := 0) (u := w64 (1 + x21.1)) i2 i2s rfl rfl rfl hx22 rfl) rfl rfl ?_
        rintro _ _ rfl
        refine JH.nil ?_
        refine JE.weak (env' := [(0, ptrAt (some ⟨gb_0, 0, none⟩) 0), (4, ptrAt (some ⟨g1, 0, none⟩) 0), (6, ptrAt (some ⟨g9, 0, none⟩) 0), (7, .int .i64 x11.1), (8, .int .i64 x13)]) (es' := [boxO 163 gb_0 [.slice a_0_0 q0.code.length c_0_0, .int .i64 x21.2.1, .int .u64 x21.2.2], boxO 26 g1 [.int .i64 0, .int .i64 0, .slice none 0 0], boxO 26 g9 [.int .i64 x5.W, .int .i64 x5.H, .slice a6 x5.Breaks.length cp7], rowT 2 eI64 a6 x5.Breaks.length cp7 (x15.set (x13).toNat (w64 (1 + x21.1)))]) [3, 0, 1, 2] ?_ ⟨rfl, rfl, rfl, rfl, rfl, trivial⟩ (by decide) rfl
        have hj := Option.some.inj hres
        exact JE.weak [0, 1, 2, 3] (K (by subst hj; exact (List.length_set.trans l16))) ⟨(by subst hj; rfl), (by subst hj; rfl), (by subst hj; rfl), (by subst hj; rfl), (by subst hj; rfl), trivial⟩ (by decide) (by subst hj; rfl)
      · refine JX.condF rfl hb ?_
        refine JX.skip ?_
        have hj := Option.some.inj hres
        exact JE.weak [0, 1, 2, 3] (K (by subst hj; exact l16)) ⟨(by subst hj; rfl), (by subst hj; rfl), (by subst hj; rfl), (by subst hj; rfl), (by subst hj; rfl), trivial⟩ (by decide) (by subst hj; rfl)
  · refine JX.condF rfl hb ?_
    refine JX.exit ?_
    refine JE.qb rfl ?_
    obtain ⟨b1, hb1⟩ : ∃ b : (Int × Int) × List Int, b = ((x14.1, x14.2), x15) := ⟨_, rfl⟩
    have hy1 : b1 = y1 := by rw [hb1]; exact hox1 _ (Option.some.inj hres).symm
    have hres := hresO1
    rw [← hy1] at hres
    have l23 : b1.2.length = x5.Breaks.length := by subst hb1; exact l16
    refine JE.weak (env' := [(4, ptrAt (some ⟨g1, 0, none⟩) 0), (6, ptrAt (some ⟨g9, 0, none⟩) 0)]) (es' := [boxO 163 gb_0 [.slice a_0_0 q0.code.length c_0_0, .int .i64 b1.1.1, .int .u64 b1.1.2], boxO 26 g1 [.int .i64 0, .int .i64 0, .slice none 0 0], boxO 26 g9 [.int .i64 x5.W, .int .i64 x5.H, .slice a6 x5.Breaks.length cp7], rowT 2 eI64 a6 x5.Breaks.length cp7 b1.2]) [0, 1, 2, 3] ?_ ⟨(by subst hb1; rfl), (by subst hb1; rfl), trivial⟩ (by decide) (by subst hb1; rfl)
    refine JE.code ?_
    refine JX.seq ?_
    refine JX.region ?_
    refine JL.val (yl_loadn Go.Proofs.Try.underlying26 rfl i26 rfl (fun w hC => rd_box hC 2 rfl) rfl (i26s).symm i26p) rfl ?_
    refine JL.eff (ef_store_box (i := 1) (v := .agg #[.int .i64 x5.W, .int .i64 x5.H, .slice a6 x5.Breaks.length cp7]) i26 rfl rfl rfl (i26s).symm (Nat.le_of_ble_eq_true rfl) (by simp [Value.cells, Value.oneCell'])) rfl ?_
    rintro _ _ rfl
    refine JL.nil ?_
    refine JE.weak (env' := [(4, ptrAt (some ⟨g1, 0, none⟩) 0)]) (es' := [boxO 163 gb_0 [.slice a_0_0 q0.code.length c_0_0, .int .i64 b1.1.1, .int .u64 b1.1.2], boxO 26 g1 [.int .i64 x5.W, .int .i64 x5.H, .slice a6 x5.Breaks.length cp7], rowT 2 eI64 a6 x5.Breaks.length cp7 b1.2]) [0, 1, 3] ?_ ⟨rfl, trivial⟩ (by decide) rfl
    refine JE.code ?_
    refine JX.ret ?_
    obtain rfl := Option.some.inj hres
    refine JE.ret (rs := [.cell 4 26]) (vs := [.agg #[.int .i64 x5.W, .int .i64 x5.H, .slice a6 x5.Breaks.length cp7]]) rfl ⟨rv_box 1 rfl rfl Go.Proofs.Try.underlying26 rfl i26 (i26s).symm, trivial⟩ ?_
    exact fun w' hb hs => ⟨_, _, _, ⟨rfl, a6, x5.Breaks.length, cp7, l23, rfl, rfl⟩, rfl, hb, hs.sel [0, 2] _ (by decide) rfl⟩

/- spec.l20Draw -/
def sh172_1 (q0 : Sl00Src) : (Int × (Int × Int) × List SPoint) → Option ((Int × (Int × Int) × List SPoint) ⊕ ((Int × Int) × List SPoint))
  | (x42, x43, x44) => bif decide (0 < x42) then (Option.bind (sh92 (Sl00Src.mk q0.code x43.1 x43.2) 21) fun x47 => Option.bind (sh92 (Sl00Src.mk q0.code x47.2.1 x47.2.2) 21) fun x48 => Option.bind (appL x44 [SPoint.mk (w64 (x47.1 - 10)) (w64 (x48.1 - 10))]) fun x51 => some (.inl (w64 (x42 - 1), (x48.2.1, x48.2.2), x51))) else (some (.inr ((x43.1, x43.2), x44)))
def sh172 (q0 : Sl00Src) : Option (List SPoint × Int × Int) := Option.bind (sh93 q0 2) fun x1 => bif x1.1 then (Option.bind (sh183 (Sl00Src.mk q0.code x1.2.1 x1.2.2) 3) fun x2 => Option.bind (sh147 x2.1) fun x8 => Option.bind (sh92 (Sl00Src.mk q0.code x2.2.1 x2.2.2) ((x8.1.length : Nat) : Int)) fun x18 => Option.bind (sh93 (Sl00Src.mk q0.code x18.2.1 x18.2.2) 2) fun x19 => bif x19.1 then (Option.bind (sh12 x2.1 x18.1 10 3) fun x20 => Option.bind (sh92 (Sl00Src.mk q0.code x19.2.1 x19.2.2) ((x20.1.length : Nat) : Int)) fun x27 => Option.bind (getI x20.1 x27.1) fun x28 => some (x28, x27.2.1, x27.2.2)) else (Option.bind (sh15 x2.1 x18.1 4) fun x33 => some (x33.1, x19.2.1, x19.2.2))) else (Option.bind (sh92 (Sl00Src.mk q0.code x1.2.1 x1.2.2) 5) fun x39 => Option.bind (iter (sh172_1 q0) (w64 (3 + x39.1), (x39.2.1, x39.2.2), ([] : List SPoint))) fun b1 => (some (b1.2, b1.1.1, b1.1.2)))
def T172 (gb_0 : Nat) (a_0_0 : Option Addr) (n_0_0 c_0_0 : Nat) (r : List SPoint × Int × Int) (v : Value) (es' rs : List Own) : Prop := es' = [boxO 163 gb_0 [.slice a_0_0 n_0_0 c_0_0, .int .i64 r.2.1, .int .u64 r.2.2]] ∧ ∃ (a0 : Option Addr) (n0 c0 : Nat), r.1.length = n0 ∧ v = rets [.slice a0 n0 c0] ∧ rs = [rowT 42 eSPoint a0 n0 c0 r.1]
set_option maxRecDepth 100000 in
theorem c172 {w : World} {M : List Nat} {q0 : Sl00Src} {gb_0 : Nat} {a_0_0 : Option Addr} {n_0_0 c_0_0 : Nat} (g_0_0 : RdS M w a_0_0 (eU8.fl q0.code)) (l_0_0 : q0.code.length = n_0_0) (k_0_0 : n_0_0 ≤ c_0_0) (gs : Sep w.heap.size M w [boxO 163 gb_0 [.slice a_0_0 n_0_0 c_0_0, .int .i64 q0.at_, .int .u64 q0.seed]]) {r : List SPoint × Int × Int} (hres : sh172 q0 = some r) : Calls Go.Proofs.Try.prog 172 [ptrAt (some ⟨gb_0, 0, none⟩) 0].toArray w (RetMs w M (T172 gb_0 a_0_0 n_0_0 c_0_0 r)) := by
  subst l_0_0
  unfold sh172 at hres
  refine calls_of (n := 68) (M := M) (es := [boxO 163 gb_0 [.slice a_0_0 q0.code.length c_0_0, .int .i64 q0.at_, .int .u64 q0.seed]]) Go.Proofs.Try.func172 rfl rfl rfl gs ?_
  refine JX.seq ?_
  refine JX.region ?_
  refine JL.val (yl_assign rfl) rfl ?_
  refine JL.nil ?_
  refine JE.code ?_
  refine JX.seq ?_
  refine JX.seq ?_
  refine JX.region ?_
  refine JL.val (yl_move rfl) rfl ?_
  obtain ⟨x1, hx1, hres⟩ := bind_some hres
  refine JL.eff (ef_callms (caps := []) (vs := [ptrAt (some ⟨gb_0, 0, none⟩) 0, .int .i64 2]) (T := T93 gb_0 a_0_0 q0.code.length c_0_0 x1) [0] [] [boxO 163 gb_0 [.slice a_0_0 q0.code.length c_0_0, .int .i64 q0.at_, .int .u64 q0.seed]] [] rfl Go.Proofs.Try.func93 rfl (by kernel_rfl) rfl (by decide) rfl rfl (fun w N hF hS => c93 (q0 := q0) (RdS.pass hF g_0_0) rfl k_0_0 hS hx1)) rfl ?_
  rintro _ _ ⟨_, _, ⟨rfl, rfl, rfl⟩, rfl⟩
  refine JL.nil ?_
  refine JE.code ?_
  rcases cond_some hres with ⟨hb, hres⟩ | ⟨hb, hres⟩
  · refine JX.condT rfl hb ?_
    refine JX.seq ?_
    refine JX.region ?_
    refine JL.val (yl_move rfl) rfl ?_
    obtain ⟨x2, hx2, hres⟩ := bind_some hres
    refine JL.eff (ef_callms (caps := []) (vs := [ptrAt (some ⟨gb_0, 0, none⟩) 0, .int .i64 3]) (T := T183 gb_0 a_0_0 q0.code.length c_0_0 x2) [0] [] [boxO 163 gb_0 [.slice a_0_0 q0.code.length c_0_0, .int .i64 x1.2.1, .int .u64 x1.2.2]] [] rfl Go.Proofs.Try.func183 rfl (by kernel_rfl) rfl (by decide) rfl rfl (fun w N hF hS => c183 (q0 := Sl00Src.mk q0.code x1.2.1 x1.2.2) (RdS.pass hF g_0_0) rfl k_0_0 hS hx2)) rfl ?_
    rintro _ _ ⟨_, _, ⟨rfl, a3, _, cp4, rfl, rfl, rfl⟩, rfl⟩
    refine JL.eff (ef_alloc i26 i26z rfl) rfl ?_
    rintro _ _ ⟨g6, rfl, rfl⟩
    refine JL.eff (ef_store_box (i := 2) (v := .agg #[.int .i64 x2.1.W, .int .i64 x2.1.H, .slice a3 x2.1.Breaks.length cp4]) i26 rfl rfl rfl (i26s).symm (Nat.le_of_ble_eq_true rfl) (by simp [Value.cells, Value.oneCell'])) rfl ?_
    rintro _ _ rfl
    refine JL.nil ?_
    refine JE.weak (env' := [(0, ptrAt (some ⟨gb_0, 0, none⟩) 0), (3, ptrAt (some ⟨g6, 0, none⟩) 0)]) (es' := [boxO 163 gb_0 [.slice a_0_0 q0.code.length c_0_0, .int .i64 x2.2.1, .int .u64 x2.2.2], boxO 26 g6 [.int .i64 x2.1.W, .int .i64 x2.1.H, .slice a3 x2.1.Breaks.length cp4], rowT 2 eI64 a3 x2.1.Breaks.length cp4 x2.1.Breaks]) [0, 2, 1] ?_ ⟨rfl, rfl, trivial⟩ (by decide) rfl
    refine JE.code ?_
    refine JX.seq ?_
    refine JX.region ?_
    obtain ⟨x8, hx8, hres⟩ := bind_some hres
    refine JL.eff (ef_call (T := T147 x8) Go.Proofs.Try.func147 rfl (by kernel_rfl) rfl (fun w hC => c147 (RdAt.of0 (rd_box hC 1 rfl)) (rd_row hC 2 rfl) rfl (ln_row hC 2 rfl) hx8)) rfl ?_
    rintro _ _ ⟨_, ⟨a9, _, cp10, hs12, rfl, hi13, a15, _, cp16, rfl, rfl, rfl⟩, rfl⟩
    refine JL.val (yl_move rfl) rfl ?_
    refine JL.val (yl_extract rfl rfl) rfl ?_
    refine JL.val (yl_extract rfl rfl) rfl ?_
    refine JL.val (yl_assign rfl) rfl ?_
    refine JL.val (yl_assign rfl) rfl ?_
    refine JL.nil ?_
    refine JE.weak (env' := [(0, ptrAt (some ⟨gb_0, 0, none⟩) 0), (3, ptrAt (some ⟨g6, 0, none⟩) 0), (4, .slice a9 x8.1.length cp10)]) (es' := [boxO 163 gb_0 [.slice a_0_0 q0.code.length c_0_0, .int .i64 x2.2.1, .int .u64 x2.2.2], boxO 26 g6 [.int .i64 x2.1.W, .int .i64 x2.1.H, .slice a3 x2.1.Breaks.length cp4], rowT 2 eI64 a3 x2.1.Breaks.length cp4 x2.1.Breaks, rowT 34 eHd a9 x8.1.length cp10 hs12, innO 42 eSPoint none hs12 x8.1]) [0, 1, 2, 3, 4] ?_ ⟨rfl, rfl, rfl, trivial⟩ (by decide) rfl
    refine JE.code ?_
    refine JX.seq ?_
    refine JX.region ?_
    refine JL.val (yl_move rfl) rfl ?_
    refine JL.val (yl_move rfl) rfl ?_
    refine JL.val (yl_len_slice Go.Proofs.Try.underlying29 rfl) rfl ?_
    obtain ⟨x18, hx18, hres⟩ := bind_some hres
    refine JL.eff (ef_callms (caps := []) (vs := [ptrAt (some ⟨gb_0, 0, none⟩) 0, .int .i64 ((x8.1.length : Nat) : Int)]) (T := T92 gb_0 a_0_0 q0.code.length c_0_0 x18) [0] [1, 2, 3, 4] [boxO 163 gb_0 [.slice a_0_0 q0.code.length c_0_0, .int .i64 x2.2.1, .int .u64 x2.2.2]] [boxO 26 g6 [.int .i64 x2.1.W, .int .i64 x2.1.H, .slice a3 x2.1.Breaks.length cp4], rowT 2 eI64 a3 x2.1.Breaks.length cp4 x2.1.Breaks, rowT 34 eHd a9 x8.1.length cp10 hs12, innO 42 eSPoint none hs12 x8.1] rfl Go.Proofs.Try.func92 rfl (by kernel_rfl) rfl (by decide) rfl rfl (fun w N hF hS => c92 (q0 := Sl00Src.mk q0.code x2.2.1 x2.2.2) (RdS.pass hF g_0_0) rfl k_0_0 hS hx18)) rfl ?_
    rintro _ _ ⟨_, _, ⟨rfl, rfl, rfl⟩, rfl⟩
    refine JL.val (yl_assign rfl) rfl ?_
    refine JL.nil ?_
    refine JE.weak (env' := [(0, ptrAt (some ⟨gb_0, 0, none⟩) 0), (3, ptrAt (some ⟨g6, 0, none⟩) 0), (6, .int .i64 x18.1)]) (es' := [boxO 163 gb_0 [.slice a_0_0 q0.code.length c_0_0, .int .i64 x18.2.1, .int .u64 x18.2.2], boxO 26 g6 [.int .i64 x2.1.W, .int .i64 x2.1.H, .slice a3 x2.1.Breaks.length cp4], rowT 2 eI64 a3 x2.1.Breaks.length cp4 x2.1.Breaks]) [4, 0, 1] ?_ ⟨rfl, rfl, rfl, trivial⟩ (by decide) rfl
    refine JE.code ?_
    refine JX.seq ?_
    refine JX.seq ?_
    refine JX.region ?_
    refine JL.val (yl_move rfl) rfl ?_
    obtain ⟨x19, hx19, hres⟩ := bind_some hres
    refine JL.eff (ef_callms (caps := []) (vs := [ptrAt (some ⟨gb_0, 0, none⟩) 0, .int .i64 2]) (T := T93 gb_0 a_0_0 q0.code.length c_0_0 x19) [0] [1, 2] [boxO 163 gb_0 [.slice a_0_0 q0.code.length c_0_0, .int .i64 x18.2.1, .int .u64 x18.2.2]] [boxO 26 g6 [.int .i64 x2.1.W, .int .i64 x2.1.H, .slice a3 x2.1.Breaks.length cp4], rowT 2 eI64 a3 x2.1.Breaks.length cp4 x2.1.Breaks] rfl Go.Proofs.Try.func93 rfl (by kernel_rfl) rfl (by decide) rfl rfl (fun w N hF hS => c93 (q0 := Sl00Src.mk q0.code x18.2.1 x18.2.2) (RdS.pass hF g_0_0) rfl k_0_0 hS hx19)) rfl ?_
    rintro _ _ ⟨_, _, ⟨rfl, rfl, rfl⟩, rfl⟩
    refine JL.nil ?_
    refine JE.code ?_
    rcases cond_some hres with ⟨hb, hres⟩ | ⟨hb, hres⟩
    · refine JX.condT rfl hb ?_
      refine JX.seq ?_
      refine JX.region ?_
      refine JL.val (yl_loadn Go.Proofs.Try.underlying26 rfl i26 rfl (fun w hC => rd_box hC 0 rfl) rfl (i26s).symm i26p) rfl ?_
      refine JL.val (yl_move rfl) rfl ?_
      obtain ⟨x20, hx20, hres⟩ := bind_some hres
      refine JL.eff (ef_call (vs := [.agg #[.int .i64 x2.1.W, .int .i64 x2.1.H, .slice a3 x2.1.Breaks.length cp4], .int .i64 x18.1, .int .i64 10, .int .i64 3]) (T := T12 x20) Go.Proofs.Try.func12 rfl (by kernel_rfl) rfl (fun w hC => c12 (q0 := x2.1) (rd_row hC 1 rfl) rfl (ln_row hC 1 rfl) hx20)) rfl ?_
      rintro _ _ ⟨_, ⟨a21, _, cp22, hs24, rfl, hi25, rfl, rfl⟩, rfl⟩
      refine JL.val (yl_move rfl) rfl ?_
      refine JL.val (yl_extract rfl rfl) rfl ?_
      refine JL.val (yl_extract rfl rfl) rfl ?_
      refine JL.val (yl_assign rfl) rfl ?_
      refine JL.val (yl_assign rfl) rfl ?_
      refine JL.nil ?_
      refine JE.weak (env' := [(0, ptrAt (some ⟨gb_0, 0, none⟩) 0), (7, .slice a21 x20.1.length cp22)]) (es' := [boxO 163 gb_0 [.slice a_0_0 q0.code.length c_0_0, .int .i64 x19.2.1, .int .u64 x19.2.2], rowT 34 eHd a21 x20.1.length cp22 hs24, innO 42 eSPoint none hs24 x20.1]) [2, 3, 4] ?_ ⟨rfl, rfl, trivial⟩ (by decide) rfl
      refine JE.code ?_
      refine JX.seq ?_
      refine JX.region ?_
      refine JL.val (yl_move rfl) rfl ?_
      refine JL.val (yl_move rfl) rfl ?_
      refine JL.val (yl_move rfl) rfl ?_
      refine JL.val (yl_len_slice Go.Proofs.Try.underlying29 rfl) rfl ?_
      obtain ⟨x27, hx27, hres⟩ := bind_some hres
      refine JL.eff (ef_callms (caps := []) (vs := [ptrAt (some ⟨gb_0, 0, none⟩) 0, .int .i64 ((x20.1.length : Nat) : Int)]) (T := T92 gb_0 a_0_0 q0.code.length c_0_0 x27) [0] [1, 2] [boxO 163 gb_0 [.slice a_0_0 q0.code.length c_0_0, .int .i64 x19.2.1, .int .u64 x19.2.2]] [rowT 34 eHd a21 x20.1.length cp22 hs24, innO 42 eSPoint none hs24 x20.1] rfl Go.Proofs.Try.func92 rfl (by kernel_rfl) rfl (by decide) rfl rfl (fun w N hF hS => c92 (q0 := Sl00Src.mk q0.code x19.2.1 x19.2.2) (RdS.pass hF g_0_0) rfl k_0_0 hS hx27)) rfl ?_
      rintro _ _ ⟨_, _, ⟨rfl, rfl, rfl⟩, rfl⟩
      obtain ⟨x28, hx28, hres⟩ := bind_some hres
      obtain ⟨ha29, hc30, hhx28⟩ := Inn.sub hi25 hx28
      refine JL.val (yl_idxT Go.Proofs.Try.underlying29 i34 i34s rfl rfl hhx28 (Inn.len hi25) (fun w hC => rd_row hC 0 rfl)) rfl ?_
      refine JL.val (yl_loadT0 (z := ⟨ha29, x28.length, hc30⟩) Go.Proofs.Try.underlying34 rfl rfl hhx28 (fun w hC => rd_row hC 0 rfl) rfl) rfl ?_
      refine JL.val (yl_assign rfl) rfl ?_
      refine JL.nil ?_
      refine JE.weak (env' := [(2, .slice ha29 x28.length hc30)]) (es' := [boxO 163 gb_0 [.slice a_0_0 q0.code.length c_0_0, .int .i64 x27.2.1, .int .u64 x27.2.2], rowT 34 eHd a21 x20.1.length cp22 hs24, innO 42 eSPoint none hs24 x20.1]) [2, 0, 1] ?_ ⟨rfl, trivial⟩ (by decide) rfl
      refine JE.code ?_
      refine JX.ret ?_
      refine JE.focus (es' := [boxO 163 gb_0 [.slice a_0_0 q0.code.length c_0_0, .int .i64 x27.2.1, .int .u64 x27.2.2], rowT 34 eHd a21 x20.1.length cp22 hs24]) [0, 1, 2] (by decide) rfl hhx28 hx28 ?_
      obtain rfl := Option.some.inj hres
      refine JE.ret (rs := [.tmp 2]) (vs := [.slice ha29 x28.length hc30]) rfl ⟨rfl, trivial⟩ ?_
      exact fun w' hb hs => ⟨_, _, _, ⟨rfl, ha29, x28.length, hc30, rfl, rfl, rfl⟩, rfl, hb, hs.sel [0, 3] _ (by decide) rfl⟩
    · refine JX.condF rfl hb ?_
      refine JX.skip ?_
      refine JE.code ?_
      refine JX.seq ?_
      refine JX.region ?_
      refine JL.val (yl_loadn Go.Proofs.Try.underlying26 rfl i26 rfl (fun w hC => rd_box hC 0 rfl) rfl (i26s).symm i26p) rfl ?_
      refine JL.val (yl_move rfl) rfl ?_
      obtain ⟨x33, hx33, hres⟩ := bind_some hres
      refine JL.eff (ef_call (vs := [.agg #[.int .i64 x2.1.W, .int .i64 x2.1.H, .slice a3 x2.1.Breaks.length cp4], .int .i64 x18.1, .int .i64 4]) (T := T15 x33) Go.Proofs.Try.func15 rfl (by kernel_rfl) rfl (fun w hC => c15 (q0 := x2.1) (rd_row hC 1 rfl) rfl (ln_row hC 1 rfl) hx33)) rfl ?_
      rintro _ _ ⟨_, ⟨a34, _, cp35, rfl, rfl, rfl⟩, rfl⟩
      refine JL.val (yl_move rfl) rfl ?_
      refine JL.val (yl_extract rfl rfl) rfl ?_
      refine JL.val (yl_extract rfl rfl) rfl ?_
      refine JL.val (yl_assign rfl) rfl ?_
      refine JL.val (yl_assign rfl) rfl ?_
      refine JL.nil ?_
      refine JE.weak (env' := [(9, .slice a34 x33.1.length cp35)]) (es' := [boxO 163 gb_0 [.slice a_0_0 q0.code.length c_0_0, .int .i64 x19.2.1, .int .u64 x19.2.2], rowT 42 eSPoint a34 x33.1.length cp35 x33.1]) [2, 3] ?_ ⟨rfl, trivial⟩ (by decide) rfl
      refine JE.code ?_
      refine JX.seq ?_
      refine JX.region ?_
      refine JL.val (yl_move rfl) rfl ?_
      refine JL.val (yl_assign rfl) rfl ?_
      refine JL.nil ?_
      refine JE.code ?_
      refine JX.ret ?_
      obtain rfl := Option.some.inj hres
      refine JE.ret (rs := [.tmp 2]) (vs := [.slice a34 x33.1.length cp35]) rfl ⟨rfl, trivial⟩ ?_
      exact fun w' hb hs => ⟨_, _, _, ⟨rfl, a34, x33.1.length, cp35, rfl, rfl, rfl⟩, rfl, hb, hs.sel [0, 1] _ (by decide) rfl⟩
  · refine JX.condF rfl hb ?_
    refine JX.skip ?_
    refine JE.code ?_
    refine JX.seq ?_
    refine JX.region ?_
    refine JL.eff (ef_buildSlice (E := 42) (k := eSPoint.k) (us := eSPoint.fl ([] : List SPoint)) rfl (fun w => bsl34_0  w) rfl (by decide)) rfl ?_
    rintro _ _ ⟨a37, rfl, rfl⟩
    refine JL.val (yl_assign rfl) rfl ?_
    refine JL.nil ?_
    refine JE.code ?_
    refine JX.seq ?_
    refine JX.seq ?_
    refine JX.region ?_
    refine JL.val (yl_move rfl) rfl ?_
    obtain ⟨x39, hx39, hres⟩ := bind_some hres
    refine JL.eff (ef_callms (caps := []) (vs := [ptrAt (some ⟨gb_0, 0, none⟩) 0, .int .i64 5]) (T := T92 gb_0 a_0_0 q0.code.length c_0_0 x39) [0] [1] [boxO 163 gb_0 [.slice a_0_0 q0.code.length c_0_0, .int .i64 x1.2.1, .int .u64 x1.2.2]] [rowT 42 eSPoint a37 0 0 ([] : List SPoint)] rfl Go.Proofs.Try.func92 rfl (by kernel_rfl) rfl (by decide) rfl rfl (fun w N hF hS => c92 (q0 := Sl00Src.mk q0.code x1.2.1 x1.2.2) (RdS.pass hF g_0_0) rfl k_0_0 hS hx39)) rfl ?_
    rintro _ _ ⟨_, _, ⟨rfl, rfl, rfl⟩, rfl⟩
    refine JL.val (yl_add rfl rfl) rfl ?_
    refine JL.val (yl_assign rfl) rfl ?_
    refine JL.nil ?_
    refine JE.weak (env' := [(0, ptrAt (some ⟨gb_0, 0, none⟩) 0), (11, .slice a37 0 0), (12, .int .i64 (w64 (3 + x39.1)))]) (es' := [boxO 163 gb_0 [.slice a_0_0 q0.code.length c_0_0, .int .i64 x39.2.1, .int .u64 x39.2.2], rowT 42 eSPoint a37 0 0 ([] : List SPoint)]) [1, 0] ?_ ⟨rfl, rfl, rfl, trivial⟩ (by decide) rfl
    refine JE.code ?_
    refine JX.block ?_
    obtain ⟨y1, hy1, hresO1⟩ := bind_some hres
    refine JX.loop (I := fun (s1 : Int × (Int × Int) × List SPoint) aa ww => ∃ (a40 : Option Addr) (cp41 : Nat), St w M 68 [(0, ptrAt (some ⟨gb_0, 0, none⟩) 0), (11, .slice a40 s1.2.2.length cp41), (12, .int .i64 s1.1)] [boxO 163 gb_0 [.slice a_0_0 q0.code.length c_0_0, .int .i64 s1.2.1.1, .int .u64 s1.2.1.2], rowT 42 eSPoint a40 s1.2.2.length cp41 s1.2.2] aa ww) (sh172_1 q0) hy1 (fun a w h => ⟨a37, 0, h.weak ⟨rfl, rfl, rfl, trivial⟩ [0, 1] (by decide) rfl⟩) ?_
    rintro ⟨x42, x43, x44⟩ o1 hres hox1 aa ww ⟨a45, cp46, hS⟩
    refine (?_ : JX Go.Proofs.Try.prog w M 68 _ _ [(0, ptrAt (some ⟨gb_0, 0, none⟩) 0), (11, .slice a45 x44.length cp46), (12, .int .i64 x42)] [boxO 163 gb_0 [.slice a_0_0 q0.code.length c_0_0, .int .i64 x43.1, .int .u64 x43.2], rowT 42 eSPoint a45 x44.length cp46 x44] _) aa ww hS
    clear hS
    simp only [sh172_1] at hres
    refine JX.seq ?_
    refine JX.seq ?_
    refine JX.region ?_
    refine JL.val (yl_move rfl) rfl ?_
    refine JL.val (yl_gtr rfl rfl) rfl ?_
    refine JL.nil ?_
    refine JE.code ?_
    rcases cond_some hres with ⟨hb, hres⟩ | ⟨hb, hres⟩
    · refine JX.condT rfl hb ?_
      refine JX.skip ?_
      refine JE.code ?_
      refine JX.seq ?_
      refine JX.block ?_
      refine JX.seq ?_
      refine JX.region ?_
      refine JL.val (yl_move rfl) rfl ?_
      obtain ⟨x47, hx47, hres⟩ := bind_some hres
      refine JL.eff (ef_callms (caps := []) (vs := [ptrAt (some ⟨gb_0, 0, none⟩) 0, .int .i64 21]) (T := T92 gb_0 a_0_0 q0.code.length c_0_0 x47) [0] [1] [boxO 163 gb_0 [.slice a_0_0 q0.code.length c_0_0, .int .i64 x43.1, .int .u64 x43.2]] [rowT 42 eSPoint a45 x44.length cp46 x44] rfl Go.Proofs.Try.func92 rfl (by kernel_rfl) rfl (by decide) rfl rfl (fun w N hF hS => c92 (q0 := Sl00Src.mk q0.code x43.1 x43.2) (RdS.pass hF g_0_0) rfl k_0_0 hS hx47)) rfl ?_
      rintro _ _ ⟨_, _, ⟨rfl, rfl, rfl⟩, rfl⟩
      refine JL.val (yl_sub rfl rfl) rfl ?_
      refine JL.val (yl_assign rfl) rfl ?_
      refine JL.nil ?_
      refine JE.weak (env' := [(0, ptrAt (some ⟨gb_0, 0, none⟩) 0), (11, .slice a45 x44.length cp46), (12, .int .i64 x42), (13, .int .i64 (w64 (x47.1 - 10)))]) (es' := [boxO 163 gb_0 [.slice a_0_0 q0.code.length c_0_0, .int .i64 x47.2.1, .int .u64 x47.2.2], rowT 42 eSPoint a45 x44.length cp46 x44]) [1, 0] ?_ ⟨rfl, rfl, rfl, rfl, trivial⟩ (by decide) rfl
      refine JE.code ?_
      refine JX.region ?_
      refine JL.val (yl_move rfl) rfl ?_
      refine JL.val (yl_move rfl) rfl ?_
      refine JL.val (yl_move rfl) rfl ?_
      obtain ⟨x48, hx48, hres⟩ := bind_some hres
      refine JL.eff (ef_callms (caps := []) (vs := [ptrAt (some ⟨gb_0, 0, none⟩) 0, .int .i64 21]) (T := T92 gb_0 a_0_0 q0.code.length c_0_0 x48) [0] [1] [boxO 163 gb_0 [.slice a_0_0 q0.code.length c_0_0, .int .i64 x47.2.1, .int .u64 x47.2.2]] [rowT 42 eSPoint a45 x44.length cp46 x44] rfl Go.Proofs.Try.func92 rfl (by kernel_rfl) rfl (by decide) rfl rfl (fun w N hF hS => c92 (q0 := Sl00Src.mk q0.code x47.2.1 x47.2.2) (RdS.pass hF g_0_0) rfl k_0_0 hS hx48)) rfl ?_
      rintro _ _ ⟨_, _, ⟨rfl, rfl, rfl⟩, rfl⟩
      refine JL.val (yl_sub rfl rfl) rfl ?_
      refine JL.val (yl_build rfl (fun w => bld42_0_1 (w64 (x47.1 - 10)) (w64 (x48.1 - 10)) w)) rfl ?_
      refine JL.eff (ef_buildSlice (E := 42) (k := eSPoint.k) (us := eSPoint.fl [SPoint.mk (w64 (x47.1 - 10)) (w64 (x48.1 - 10))]) rfl (fun w => bsl34_1 (w64 (x47.1 - 10)) (w64 (x48.1 - 10)) w) rfl (by decide)) rfl ?_
      rintro _ _ ⟨a49, rfl, rfl⟩
      obtain ⟨x51, hx51, hres⟩ := bind_some hres
      refine JL.eff (ef_appendT (ix := 0) Go.Proofs.Try.underlying34 i42 i42z i42s rfl i42b0 i42b1 rfl rfl rfl rfl rfl (fun w hC => rd_row hC 2 rfl) hx51) rfl ?_
      rintro _ _ ⟨a52, cp53, rfl, rfl⟩
      refine JL.val (yl_assign rfl) rfl ?_
      refine JL.nil ?_
      refine JE.weak (env' := [(0, ptrAt (some ⟨gb_0, 0, none⟩) 0), (11, .slice a52 x51.length cp53), (12, .int .i64 x42)]) (es' := [boxO 163 gb_0 [.slice a_0_0 q0.code.length c_0_0, .int .i64 x48.2.1, .int .u64 x48.2.2], rowT 42 eSPoint a52 x51.length cp53 x51]) [1, 0] ?_ ⟨rfl, rfl, rfl, trivial⟩ (by decide) rfl
      refine JE.code ?_
      refine JX.region ?_
      refine JL.val (yl_move rfl) rfl ?_
      refine JL.val (yl_sub rfl rfl) rfl ?_
      refine JL.val (yl_assign rfl) rfl ?_
      refine JL.nil ?_
      refine JE.cont hres ?_
      exact fun a w h => ⟨a52, cp53, h.weak ⟨rfl, rfl, rfl, trivial⟩ [0, 1] (by decide) rfl⟩
    · refine JX.condF rfl hb ?_
      refine JX.exit ?_
      refine JE.qb rfl ?_
      obtain ⟨b1, hb1⟩ : ∃ b : (Int × Int) × List SPoint, b = ((x43.1, x43.2), x44) := ⟨_, rfl⟩
      have hy1 : b1 = y1 := by rw [hb1]; exact hox1 _ (Option.some.inj hres).symm
      have hres := hresO1
      rw [← hy1] at hres
      refine JE.weak (env' := [(11, .slice a45 b1.2.length cp46)]) (es' := [boxO 163 gb_0 [.slice a_0_0 q0.code.length c_0_0, .int .i64 b1.1.1, .int .u64 b1.1.2], rowT 42 eSPoint a45 b1.2.length cp46 b1.2]) [0, 1] ?_ ⟨(by subst hb1; rfl), trivial⟩ (by decide) (by subst hb1; rfl)
      refine JE.code ?_
      refine JX.seq ?_
      refine JX.region ?_
      refine JL.val (yl_move rfl) rfl ?_
      refine JL.val (yl_assign rfl) rfl ?_
      refine JL.nil ?_
      refine JE.code ?_
      refine JX.ret ?_
      obtain rfl := Option.some.inj hres
      refine JE.ret (rs := [.tmp 2]) (vs := [.slice a45 b1.2.length cp46]) rfl ⟨rfl, trivial⟩ ?_
      exact fun w' hb hs => ⟨_, _, _, ⟨rfl, a45, b1.2.length, cp46, rfl, rfl, rfl⟩, rfl, hb, hs.sel [0, 1] _ (by decide) rfl⟩

/- spec.l20Bent -/
def sh108 (q0 : Sl00Src) : Option (List SPoint × Int × Int) := Option.bind (sh172 q0) fun x1 => Option.bind (sh92 (Sl00Src.mk q0.code x1.2.1 x1.2.2) 20) fun x5 => bif x5.1 == 0 then (Option.bind (sh94 (Sl00Src.mk q0.code x5.2.1 x5.2.2) [(-100001), (-100000), 100000, 100001, (-9223372036854775808)]) fun x8 => Option.bind (getI x1.1 (0 : Int)) fun x9 => some (x1.1.set ((0 : Int)).toNat (SPoint.mk x8.1 x9.Y), x8.2.1, x8.2.2)) else (bif x5.1 == 1 then (Option.bind (takeL x1.1 2) fun x10 => some (x10, x5.2.1, x5.2.2)) else (bif x5.1 == 2 then (Option.bind (sh92 (Sl00Src.mk q0.code x5.2.1 x5.2.2) 2) fun x11 => Option.bind (mkL (w64 (300 + x11.1)) (SPoint.mk 0 0)) fun x12 => some (x12, x11.2.1, x11.2.2)) else (some (x1.1, x5.2.1, x5.2.2))))
def T108 (gb_0 : Nat) (a_0_0 : Option Addr) (n_0_0 c_0_0 : Nat) (r : List SPoint × Int × Int) (v : Value) (es' rs : List Own) : Prop := es' = [boxO 163 gb_0 [.slice a_0_0 n_0_0 c_0_0, .int .i64 r.2.1, .int .u64 r.2.2]] ∧ ∃ (a0 : Option Addr) (n0 c0 : Nat), r.1.length = n0 ∧ v = rets [.slice a0 n0 c0] ∧ rs = [rowT 42 eSPoint a0 n0 c0 r.1]
set_option maxRecDepth 100000 in
theorem c108 {w : World} {M : List Nat} {q0 : Sl00Src} {gb_0 : Nat} {a_0_0 : Option Addr} {n_0_0 c_0_0 : Nat} (g_0_0 : RdS M w a_0_0 (eU8.fl q0.code)) (l_0_0 : q0.code.length = n_0_0) (k_0_0 : n_0_0 ≤ c_0_0) (gs : Sep w.heap.size M w [boxO 163 gb_0 [.slice a_0_0 n_0_0 c_0_0, .int .i64 q0.at_, .int .u64 q0.seed]]) {r : List SPoint × Int × Int} (hres : sh108 q0 = some r) : Calls Go.Proofs.Try.prog 108 [ptrAt (some ⟨gb_0, 0, none⟩) 0].toArray w (RetMs w M (T108 gb_0 a_0_0 n_0_0 c_0_0 r)) := by
  subst l_0_0
  unfold sh108 at hres
  refine calls_of (n := 27) (M := M) (es := [boxO 163 gb_0 [.slice a_0_0 q0.code.length c_0_0, .int .i64 q0.at_, .int .u64 q0.seed]]) Go.Proofs.Try.func108 rfl rfl rfl gs ?_
  refine JX.seq ?_
  refine JX.region ?_
  refine JL.val (yl_assign rfl) rfl ?_
  refine JL.nil ?_
  refine JE.code ?_
  refine JX.seq ?_
  refine JX.region ?_
  refine JL.val (yl_move rfl) rfl ?_
  obtain ⟨x1, hx1, hres⟩ := bind_some hres
  refine JL.eff (ef_callms (caps := []) (vs := [ptrAt (some ⟨gb_0, 0, none⟩) 0]) (T := T172 gb_0 a_0_0 q0.code.length c_0_0 x1) [0] [] [boxO 163 gb_0 [.slice a_0_0 q0.code.length c_0_0, .int .i64 q0.at_, .int .u64 q0.seed]] [] rfl Go.Proofs.Try.func172 rfl (by kernel_rfl) rfl (by decide) rfl rfl (fun w N hF hS => c172 (q0 := q0) (RdS.pass hF g_0_0) rfl k_0_0 hS hx1)) rfl ?_
  rintro _ _ ⟨_, _, ⟨rfl, a2, _, cp3, rfl, rfl, rfl⟩, rfl⟩
  refine JL.val (yl_assign rfl) rfl ?_
  refine JL.nil ?_
  refine JE.code ?_
  refine JX.seq ?_
  refine JX.seq ?_
  refine JX.region ?_
  refine JL.val (yl_move rfl) rfl ?_
  obtain ⟨x5, hx5, hres⟩ := bind_some hres
  refine JL.eff (ef_callms (caps := []) (vs := [ptrAt (some ⟨gb_0, 0, none⟩) 0, .int .i64 20]) (T := T92 gb_0 a_0_0 q0.code.length c_0_0 x5) [0] [1] [boxO 163 gb_0 [.slice a_0_0 q0.code.length c_0_0, .int .i64 x1.2.1, .int .u64 x1.2.2]] [rowT 42 eSPoint a2 x1.1.length cp3 x1.1] rfl Go.Proofs.Try.func92 rfl (by kernel_rfl) rfl (by decide) rfl rfl (fun w N hF hS => c92 (q0 := Sl00Src.mk q0.code x1.2.1 x1.2.2) (RdS.pass hF g_0_0) rfl k_0_0 hS hx5)) rfl ?_
  rintro _ _ ⟨_, _, ⟨rfl, rfl, rfl⟩, rfl⟩
  refine JL.nil ?_
  refine JE.code ?_
  refine JX.block ?_
  refine JX.seq ?_
  refine JX.region ?_
  refine JL.val (yl_eql rfl rfl) rfl ?_
  refine JL.val (yl_assign rfl) rfl ?_
  refine JL.nil ?_
  refine JE.code ?_
  rcases cond_some hres with ⟨hb, hres⟩ | ⟨hb, hres⟩
  · refine JX.condT rfl hb ?_
    refine JX.region ?_
    refine JL.val (yl_move rfl) rfl ?_
    refine JL.val (yl_move rfl) rfl ?_
    refine JL.eff (ef_buildSlice (E := 2) (k := eI64.k) (us := eI64.fl [(-100001), (-100000), 100000, 100001, (-9223372036854775808)]) rfl (fun w => bsl24_5 (-100001) (-100000) 100000 100001 (-9223372036854775808) w) rfl (by decide)) rfl ?_
    rintro _ _ ⟨a6, rfl, rfl⟩
    obtain ⟨x8, hx8, hres⟩ := bind_some hres
    refine JL.eff (ef_callms (caps := []) (vs := [ptrAt (some ⟨gb_0, 0, none⟩) 0, .slice a6 5 5]) (T := T94 gb_0 a_0_0 q0.code.length c_0_0 x8) [1] [0, 2] [boxO 163 gb_0 [.slice a_0_0 q0.code.length c_0_0, .int .i64 x5.2.1, .int .u64 x5.2.2]] [rowT 42 eSPoint a2 x1.1.length cp3 x1.1, rowT 2 eI64 a6 5 5 [(-100001), (-100000), 100000, 100001, (-9223372036854775808)]] rfl Go.Proofs.Try.func94 rfl (by kernel_rfl) rfl (by decide) rfl rfl (fun w N hF hS => c94 (q0 := Sl00Src.mk q0.code x5.2.1 x5.2.2) (RdS.pass hF g_0_0) rfl k_0_0 (RdS.row hF 2 rfl rfl) rfl (ln_row hF.cl 2 rfl) hS hx8)) rfl ?_
    rintro _ _ ⟨_, _, ⟨rfl, rfl, rfl⟩, rfl⟩
    obtain ⟨x9, hx9, hres⟩ := bind_some hres
    refine JL.val (yl_idxT Go.Proofs.Try.underlying34 i42 i42s rfl rfl hx9 rfl (fun w hC => rd_row hC 0 rfl)) rfl ?_
    refine JL.val (yl_fieldAtT Go.Proofs.Try.underlying42 rfl i2 i2n rfl hx9 (fun w hC => rd_row hC 0 rfl)) rfl ?_
    refine JL.eff (ef_storeF (ix := 0) (u := SPoint.mk x8.1 x9.Y) i2 i2s rfl rfl rfl hx9 (by decide) rfl rfl rfl) rfl ?_
    rintro _ _ rfl
    refine JL.nil ?_
    refine JE.weak (env' := [(3, .slice a2 x1.1.length cp3)]) (es' := [boxO 163 gb_0 [.slice a_0_0 q0.code.length c_0_0, .int .i64 x8.2.1, .int .u64 x8.2.2], rowT 42 eSPoint a2 x1.1.length cp3 (x1.1.set ((0 : Int)).toNat (SPoint.mk x8.1 x9.Y))]) [2, 0] ?_ ⟨rfl, trivial⟩ (by decide) rfl
    refine JE.code ?_
    refine JX.seq ?_
    refine JX.region ?_
    refine JL.val (yl_move rfl) rfl ?_
    refine JL.val (yl_assign rfl) rfl ?_
    refine JL.nil ?_
    refine JE.code ?_
    refine JX.ret ?_
    obtain rfl := Option.some.inj hres
    refine JE.ret (rs := [.tmp 2]) (vs := [.slice a2 x1.1.length cp3]) rfl ⟨rfl, trivial⟩ ?_
    exact fun w' hb hs => ⟨_, _, _, ⟨rfl, a2, x1.1.length, cp3, List.length_set, rfl, rfl⟩, rfl, hb, hs.sel [0, 1] _ (by decide) rfl⟩
  · refine JX.condF rfl hb ?_
    refine JX.seq ?_
    refine JX.region ?_
    refine JL.val (yl_eql rfl rfl) rfl ?_
    refine JL.val (yl_assign rfl) rfl ?_
    refine JL.nil ?_
    refine JE.code ?_
    rcases cond_some hres with ⟨hb, hres⟩ | ⟨hb, hres⟩
    · refine JX.condT rfl hb ?_
      refine JX.seq ?_
      refine JX.region ?_
      refine JL.val (yl_move rfl) rfl ?_
      obtain ⟨x10, hx10, hres⟩ := bind_some hres
      refine JL.val (yl_takeT Go.Proofs.Try.underlying34 i42 rfl rfl hx10 rfl (fun w hC => ln_row hC 0 rfl)) rfl ?_
      refine JL.takeT 0 hx10 rfl ?_
      refine JL.val (yl_assign rfl) rfl ?_
      refine JL.nil ?_
      refine JE.code ?_
      refine JX.ret ?_
      refine JE.qbr ?_
      obtain rfl := Option.some.inj hres
      refine JE.ret (rs := [.tmp 2]) (vs := [.slice a2 x10.length cp3]) rfl ⟨rfl, trivial⟩ ?_
      exact fun w' hb hs => ⟨_, _, _, ⟨rfl, a2, x10.length, cp3, rfl, rfl, rfl⟩, rfl, hb, hs.sel [1, 0] _ (by decide) rfl⟩
    · refine JX.condF rfl hb ?_
      refine JX.seq ?_
      refine JX.region ?_
      refine JL.val (yl_eql rfl rfl) rfl ?_
      refine JL.val (yl_assign rfl) rfl ?_
      refine JL.nil ?_
      refine JE.code ?_
      rcases cond_some hres with ⟨hb, hres⟩ | ⟨hb, hres⟩
      · refine JX.condT rfl hb ?_
        refine JX.seq ?_
        refine JX.region ?_
        refine JL.val (yl_move rfl) rfl ?_
        obtain ⟨x11, hx11, hres⟩ := bind_some hres
        refine JL.eff (ef_callms (caps := []) (vs := [ptrAt (some ⟨gb_0, 0, none⟩) 0, .int .i64 2]) (T := T92 gb_0 a_0_0 q0.code.length c_0_0 x11) [1] [0] [boxO 163 gb_0 [.slice a_0_0 q0.code.length c_0_0, .int .i64 x5.2.1, .int .u64 x5.2.2]] [rowT 42 eSPoint a2 x1.1.length cp3 x1.1] rfl Go.Proofs.Try.func92 rfl (by kernel_rfl) rfl (by decide) rfl rfl (fun w N hF hS => c92 (q0 := Sl00Src.mk q0.code x5.2.1 x5.2.2) (RdS.pass hF g_0_0) rfl k_0_0 hS hx11)) rfl ?_
        rintro _ _ ⟨_, _, ⟨rfl, rfl, rfl⟩, rfl⟩
        refine JL.val (yl_add rfl rfl) rfl ?_
        obtain ⟨x12, hx12, hres⟩ := bind_some hres
        refine JL.eff (ef_makeS (e := eSPoint) Go.Proofs.Try.underlying34 i42 i42s i42z rfl i42b1 rfl rfl hx12) rfl ?_
        rintro _ _ ⟨a13, rfl, rfl⟩
        refine JL.val (yl_assign rfl) rfl ?_
        refine JL.nil ?_
        refine JE.weak (env' := [(2, .slice a13 x12.length x12.length)]) (es' := [boxO 163 gb_0 [.slice a_0_0 q0.code.length c_0_0, .int .i64 x11.2.1, .int .u64 x11.2.2], rowT 42 eSPoint a13 x12.length x12.length x12]) [1, 2] ?_ ⟨rfl, trivial⟩ (by decide) rfl
        refine JE.code ?_
        refine JX.ret ?_
        refine JE.qbr ?_
        obtain rfl := Option.some.inj hres
        refine JE.ret (rs := [.tmp 2]) (vs := [.slice a13 x12.length x12.length]) rfl ⟨rfl, trivial⟩ ?_
        exact fun w' hb hs => ⟨_, _, _, ⟨rfl, a13, x12.length, x12.length, rfl, rfl, rfl⟩, rfl, hb, hs.sel [0, 1] _ (by decide) rfl⟩
      · refine JX.condF rfl hb ?_
        refine JX.skip ?_
        refine JE.code ?_
        refine JX.seq ?_
        refine JX.region ?_
        refine JL.val (yl_move rfl) rfl ?_
        refine JL.val (yl_assign rfl) rfl ?_
        refine JL.nil ?_
        refine JE.code ?_
        refine JX.ret ?_
        obtain rfl := Option.some.inj hres
        refine JE.ret (rs := [.tmp 2]) (vs := [.slice a2 x1.1.length cp3]) rfl ⟨rfl, trivial⟩ ?_
        exact fun w' hb hs => ⟨_, _, _, ⟨rfl, a2, x1.1.length, cp3, rfl, rfl, rfl⟩, rfl, hb, hs.sel [1, 0] _ (by decide) rfl⟩

/- spec.DrawPathText -/
def sh83 (q0 : List Int) : Option (List SPoint) := Option.bind (sh90 q0) fun x1 => Option.bind (sh108 (Sl00Src.mk q0 x1.at_ x1.seed)) fun x4 => some x4.1
def T83 (r : List SPoint) (v : Value) (rs : List Own) : Prop := ∃ (a0 : Option Addr) (n0 c0 : Nat), r.length = n0 ∧ v = rets [.slice a0 n0 c0] ∧ rs = [rowT 42 eSPoint a0 n0 c0 r]
set_option maxRecDepth 100000 in
theorem c83 {w : World} {q0 : List Int} {a_0 : Option Addr} {n_0 c_0 : Nat} (g_0 : Rd w a_0 (eU8.fl q0)) (l_0 : q0.length = n_0) (k_0 : n_0 ≤ c_0) {r : List SPoint} (hres : sh83 q0 = some r) : Calls Go.Proofs.Try.prog 83 [.slice a_0 n_0 c_0].toArray w (Ret w (T83 r)) := by
  subst l_0
  unfold sh83 at hres
  refine calls_of (n := 6) (M := []) (es := []) Go.Proofs.Try.func83 rfl rfl rfl (Sep.nil _ _ _) ?_
  refine JX.seq ?_
  refine JX.region ?_
  refine JL.val (yl_assign rfl) rfl ?_
  refine JL.nil ?_
  refine JE.code ?_
  refine JX.seq ?_
  refine JX.region ?_
  refine JL.val (yl_move rfl) rfl ?_
  obtain ⟨x1, hx1, hres⟩ := bind_some hres
  refine JL.eff (ef_call (T := T90 a_0 q0.length c_0 x1) Go.Proofs.Try.func90 rfl (by kernel_rfl) rfl (fun w hC => c90 (rd_arg g_0 hC) rfl k_0 hx1)) rfl ?_
  rintro _ _ ⟨_, ⟨g2, rfl, rfl⟩, rfl⟩
  obtain ⟨x4, hx4, hres⟩ := bind_some hres
  refine JL.eff (ef_callms (caps := []) (vs := [ptrAt (some ⟨g2, 0, none⟩) 0]) (T := T108 g2 a_0 q0.length c_0 x4) [0] [] [boxO 163 g2 [.slice a_0 q0.length c_0, .int .i64 x1.at_, .int .u64 x1.seed]] [] rfl Go.Proofs.Try.func108 rfl (by kernel_rfl) rfl (by decide) rfl rfl (fun w N hF hS => c108 (q0 := Sl00Src.mk q0 x1.at_ x1.seed) (RdS.pass0 hF g_0) rfl k_0 hS hx4)) rfl ?_
  rintro _ _ ⟨_, _, ⟨rfl, a5, _, cp6, rfl, rfl, rfl⟩, rfl⟩
  refine JL.val (yl_assign rfl) rfl ?_
  refine JL.nil ?_
  refine JE.weak (env' := [(2, .slice a5 x4.1.length cp6)]) (es' := [rowT 42 eSPoint a5 x4.1.length cp6 x4.1]) [1] ?_ ⟨rfl, trivial⟩ (by decide) rfl
  refine JE.code ?_
  refine JX.ret ?_
  obtain rfl := Option.some.inj hres
  refine JE.ret (rs := [.tmp 2]) (vs := [.slice a5 x4.1.length cp6]) rfl ⟨rfl, trivial⟩ ?_
  exact fun w' hb hs => ⟨_, _, ⟨a5, x4.1.length, cp6, rfl, rfl, rfl⟩, rfl, hb, hs.sel [0] _ (by decide) rfl⟩

/- impl.isCorner -/
def sh106 (q0 : SPoint) : Option (Bool) := Option.bind (sh107 q0.X (-100000) 100000) fun x3 => Option.bind (bif x3 then (Option.bind (sh107 q0.Y (-100000) 100000) fun x5 => some x5) else (some false)) fun cb4 => (some cb4)
def T106 (r : Bool) (v : Value) (rs : List Own) : Prop := v = rets [.bool r] ∧ rs = []
set_option maxRecDepth 100000 in
theorem c106 {w : World} {q0 : SPoint} {r : Bool} (hres : sh106 q0 = some r) : Calls Go.Proofs.Try.prog 106 [.agg #[.int .i64 q0.X, .int .i64 q0.Y]].toArray w (Ret w (T106 r)) := by
  unfold sh106 at hres
  refine calls_of (n := 11) (M := []) (es := []) Go.Proofs.Try.func106 rfl rfl rfl (Sep.nil _ _ _) ?_
  refine JX.seq ?_
  refine JX.region ?_
  refine JL.eff (ef_box rfl rfl) rfl ?_
  rintro _ _ ⟨g1, rfl, rfl⟩
  refine JL.val (yl_assign rfl) rfl ?_
  refine JL.nil ?_
  refine JE.code ?_
  refine JX.seq ?_
  refine JX.region ?_
  refine JL.val (yl_fieldAt (a := some _) Go.Proofs.Try.underlying42 rfl i2 i2n rfl rfl) rfl ?_
  refine JL.val (yl_load1 Go.Proofs.Try.underlying2 rfl rfl (fun w hC => rd_box hC 0 rfl) rfl) rfl ?_
  obtain ⟨x3, hx3, hres⟩ := bind_some hres
  refine JL.eff (ef_call (T := T107 x3) Go.Proofs.Try.func107 rfl (by kernel_rfl) rfl (fun w hC => c107  hx3)) rfl ?_
  rintro _ _ ⟨_, ⟨rfl, rfl⟩, rfl⟩
  refine JL.val (yl_move rfl) rfl ?_
  obtain ⟨cb4, hcb4, hres⟩ := bind_some hres
  refine JL.cut (K := fun J => J [(10, .bool cb4)] []) 4 ?_ ?_
  · refine JL.val (yl_assign rfl) rfl ?_
    refine JL.nil ?_
    refine JE.weak (env' := [(2, .bool cb4)]) (es' := []) [] ?_ ⟨rfl, trivial⟩ (by decide) rfl
    refine JE.code ?_
    refine JX.ret ?_
    obtain rfl := Option.some.inj hres
    refine JE.ret (rs := [.tmp 2]) (vs := [.bool cb4]) rfl ⟨rfl, trivial⟩ ?_
    exact fun w' hb hs => ⟨_, _, ⟨rfl, rfl⟩, rfl, hb, hs.sel [] _ (by decide) rfl⟩
  · intro K
    rcases cond_some hcb4 with ⟨hb, hres⟩ | ⟨hb, hres⟩
    · refine JL.set (d := 6) (v := .bool true) (congrArg (fun b => some (Value.bool b)) hb) ?_
      refine JL.gval rfl rfl (yl_fieldAt (a := some _) Go.Proofs.Try.underlying42 rfl i2 i2n rfl rfl) rfl ?_
      refine JL.gval rfl rfl (yl_load1 Go.Proofs.Try.underlying2 rfl rfl (fun w hC => rd_box hC 0 rfl) rfl) rfl ?_
      obtain ⟨x5, hx5, hres⟩ := bind_some hres
      refine JL.geff rfl rfl (ef_call (T := T107 x5) Go.Proofs.Try.func107 rfl (by kernel_rfl) rfl (fun w hC => c107  hx5)) rfl ?_
      rintro _ _ ⟨_, ⟨rfl, rfl⟩, rfl⟩
      refine JL.val (yl_pick_true rfl rfl) rfl ?_
      have he := Option.some.inj hres
      exact JL.weak [] K ⟨(by rw [← he]; rfl), trivial⟩ (by decide) rfl
    · refine JL.set (d := 6) (v := .bool false) (congrArg (fun b => some (Value.bool b)) hb) ?_
      refine JL.gskip rfl rfl rfl rfl ?_
      refine JL.gskip rfl rfl rfl rfl ?_
      refine JL.gskip rfl rfl rfl rfl ?_
      refine JL.val (yl_pick_false rfl rfl) rfl ?_
      have he := Option.some.inj hres
      exact JL.weak [] K ⟨(by rw [← he]; rfl), trivial⟩ (by decide) rfl

/- impl.isPolygon$1 -/
def sh179 (q0 : SPoint) : Option (Bool) := Option.bind (sh106 q0) fun x3 => some !x3
def T179 (r : Bool) (v : Value) (rs : List Own) : Prop := v = rets [.bool r] ∧ rs = []
set_option maxRecDepth 100000 in
theorem c179 {w : World} {q0 : SPoint} {r : Bool} (hres : sh179 q0 = some r) : Calls Go.Proofs.Try.prog 179 [.agg #[.int .i64 q0.X, .int .i64 q0.Y]].toArray w (Ret w (T179 r)) := by
  unfold sh179 at hres
  refine calls_of (n := 6) (M := []) (es := []) Go.Proofs.Try.func179 rfl rfl rfl (Sep.nil _ _ _) ?_
  refine JX.seq ?_
  refine JX.region ?_
  refine JL.eff (ef_box rfl rfl) rfl ?_
  rintro _ _ ⟨g1, rfl, rfl⟩
  refine JL.val (yl_assign rfl) rfl ?_
  refine JL.nil ?_
  refine JE.code ?_
  refine JX.seq ?_
  refine JX.region ?_
  refine JL.val (yl_loadn Go.Proofs.Try.underlying42 rfl i42 rfl (fun w hC => rd_box hC 0 rfl) rfl (i42s).symm i42p) rfl ?_
  obtain ⟨x3, hx3, hres⟩ := bind_some hres
  refine JL.eff (ef_call (vs := [.agg #[.int .i64 q0.X, .int .i64 q0.Y]]) (T := T106 x3) Go.Proofs.Try.func106 rfl (by kernel_rfl) rfl (fun w hC => c106 (q0 := q0) hx3)) rfl ?_
  rintro _ _ ⟨_, ⟨rfl, rfl⟩, rfl⟩
  refine JL.val (yl_not rfl) rfl ?_
  refine JL.val (yl_assign rfl) rfl ?_
  refine JL.nil ?_
  refine JE.weak (env' := [(2, .bool !x3)]) (es' := []) [] ?_ ⟨rfl, trivial⟩ (by decide) rfl
  refine JE.code ?_
  refine JX.ret ?_
  obtain rfl := Option.some.inj hres
  refine JE.ret (rs := [.tmp 2]) (vs := [.bool !x3]) rfl ⟨rfl, trivial⟩ ?_
  exact fun w' hb hs => ⟨_, _, ⟨rfl, rfl⟩, rfl, hb, hs.sel [] _ (by decide) rfl⟩

/- slices.IndexFunc[[]impl.Point,impl.Point] -/
def sh200f179_1 (q0 : List SPoint) : Int → Option (Int ⊕ (Unit ⊕ Int))
  | x1 => bif decide (x1 < (q0.length : Int)) then (Option.bind (getI q0 x1) fun x2 => Option.bind (sh179 x2) fun x3 => bif x3 then (some (.inr (.inr x1))) else (some (.inl (w64 (x1 + 1))))) else (some (.inr (.inl ())))
def sh200f179 (q0 : List SPoint) : Option (Int) := Option.bind (iter (sh200f179_1 q0) 0) fun y1 => elimS y1 (fun r => some r) fun b1 => (some (-1))
def T200f179 (r : Int) (v : Value) (rs : List Own) : Prop := v = rets [.int .i64 r] ∧ rs = []
set_option maxRecDepth 100000 in
theorem c200f179 {w : World} {q0 : List SPoint} {a_0 : Option Addr} {n_0 c_0 : Nat} (g_0 : Rd w a_0 (eSPoint.fl q0)) (l_0 : q0.length = n_0) (k_0 : n_0 ≤ c_0) {r : Int} (hres : sh200f179 q0 = some r) : Calls Go.Proofs.Try.prog 200 [.slice a_0 n_0 c_0, .func (.func 179) #[] #[]].toArray w (Ret w (T200f179 r)) := by
  subst l_0
  unfold sh200f179 at hres
  refine calls_of (n := 19) (M := []) (es := []) Go.Proofs.Try.func200 rfl rfl rfl (Sep.nil _ _ _) ?_
  refine JX.seq ?_
  refine JX.region ?_
  refine JL.val (yl_assign rfl) rfl ?_
  refine JL.nil ?_
  refine JE.code ?_
  refine JX.seq ?_
  refine JX.seq ?_
  refine JX.region ?_
  refine JL.val (yl_move rfl) rfl ?_
  refine JL.val (yl_len_slice Go.Proofs.Try.underlying34 rfl) rfl ?_
  refine JL.val (yl_move rfl) rfl ?_
  refine JL.nil ?_
  refine JE.code ?_
  refine JX.block ?_
  obtain ⟨y1, hy1, hresO1⟩ := bind_some hres
  refine JX.loop (I := fun (s1 : Int) aa ww => St w [] 19 [(0, .slice a_0 q0.length c_0), (1, .func (.func 179) #[] #[]), (7, .int .i64 (q0.length : Int)), (8, .int .i64 s1)] [] aa ww) (sh200f179_1 q0) hy1 (fun a w h => h.weak ⟨rfl, rfl, rfl, rfl, trivial⟩ [] (by decide) rfl) ?_
  rintro x1 o1 hres hox1 aa ww hS
  refine (?_ : JX Go.Proofs.Try.prog w [] 19 _ _ [(0, .slice a_0 q0.length c_0), (1, .func (.func 179) #[] #[]), (7, .int .i64 (q0.length : Int)), (8, .int .i64 x1)] [] _) aa ww hS
  clear hS
  unfold sh200f179_1 at hres
  refine JX.seq ?_
  refine JX.region ?_
  refine JL.val (yl_lss rfl rfl) rfl ?_
  refine JL.nil ?_
  refine JE.code ?_
  refine JX.seq ?_
  rcases cond_some hres with ⟨hb, hres⟩ | ⟨hb, hres⟩
  · refine JX.condT rfl hb ?_
    refine JX.skip ?_
    refine JE.code ?_
    refine JX.seq ?_
    refine JX.block ?_
    refine JX.seq ?_
    refine JX.region ?_
    refine JL.val (yl_move rfl) rfl ?_
    refine JL.val (yl_assign rfl) rfl ?_
    refine JL.nil ?_
    refine JE.code ?_
    refine JX.seq ?_
    refine JX.region ?_
    refine JL.val (yl_move rfl) rfl ?_
    refine JL.val (yl_move rfl) rfl ?_
    refine JL.val (yl_move rfl) rfl ?_
    obtain ⟨x2, hx2, hres⟩ := bind_some hres
    refine JL.val (yl_idxT Go.Proofs.Try.underlying34 i42 i42s rfl rfl hx2 rfl (fun w hC => rd_arg g_0 hC)) rfl ?_
    refine JL.val (yl_loadTn Go.Proofs.Try.underlying42 rfl i42 i42s rfl hx2 (fun w hC => rd_arg g_0 hC)) rfl ?_
    obtain ⟨x3, hx3, hres⟩ := bind_some hres
    refine JL.eff (ef_callv (vs := [.agg #[.int .i64 x2.X, .int .i64 x2.Y]]) (T := T179 x3) rfl Go.Proofs.Try.func179 rfl (by kernel_rfl) rfl (fun w hC => c179 (q0 := x2) hx3)) rfl ?_
    rintro _ _ ⟨_, ⟨rfl, rfl⟩, rfl⟩
    refine JL.nil ?_
    refine JE.weak (env' := [(0, .slice a_0 q0.length c_0), (1, .func (.func 179) #[] #[]), (5, .int .i64 x1), (7, .int .i64 (q0.length : Int)), (8, .int .i64 x1), (16, .bool x3)]) (es' := []) [] ?_ ⟨rfl, rfl, rfl, rfl, rfl, rfl, trivial⟩ (by decide) rfl
    refine JE.code ?_
    rcases cond_some hres with ⟨hb, hres⟩ | ⟨hb, hres⟩
    · refine JX.condT rfl hb ?_
      refine JX.seq ?_
      refine JX.region ?_
      refine JL.val (yl_move rfl) rfl ?_
      refine JL.val (yl_assign rfl) rfl ?_
      refine JL.nil ?_
      refine JE.code ?_
      refine JX.ret ?_
      refine JE.qbr ?_
      refine JE.qbr ?_
      have hres := elimS_inr hresO1 (hox1 _ (Option.some.inj hres).symm)
      obtain rfl := Option.some.inj hres
      refine JE.ret (rs := [.tmp 4]) (vs := [.int .i64 x1]) rfl ⟨rfl, trivial⟩ ?_
      exact fun w' hb hs => ⟨_, _, ⟨rfl, rfl⟩, rfl, hb, hs.sel [] _ (by decide) rfl⟩
    · refine JX.condF rfl hb ?_
      refine JX.skip ?_
      refine JE.code ?_
      refine JX.region ?_
      refine JL.val (yl_add rfl rfl) rfl ?_
      refine JL.val (yl_move rfl) rfl ?_
      refine JL.nil ?_
      refine JE.cont hres ?_
      exact fun a w h => h.weak ⟨rfl, rfl, rfl, rfl, trivial⟩ [] (by decide) rfl
  · refine JX.condF rfl hb ?_
    refine JX.exit ?_
    refine JE.qb rfl ?_
    obtain ⟨b1, hb1⟩ : ∃ b : Unit, b = () := ⟨_, rfl⟩
    have hy1 : Sum.inl b1 = y1 := by rw [hb1]; exact hox1 _ (Option.some.inj hres).symm
    have hres := elimS_inl hresO1 hy1
    refine JE.weak (env' := []) (es' := []) [] ?_ trivial (by decide) (by subst hb1; rfl)
    refine JE.code ?_
    refine JX.seq ?_
    refine JX.region ?_
    refine JL.val (yl_assign rfl) rfl ?_
    refine JL.nil ?_
    refine JE.code ?_
    refine JX.ret ?_
    obtain rfl := Option.some.inj hres
    refine JE.ret (rs := [.tmp 4]) (vs := [.int .i64 (-1)]) rfl ⟨rfl, trivial⟩ ?_
    exact fun w' hb hs => ⟨_, _, ⟨rfl, rfl⟩, rfl, hb, hs.sel [] _ (by decide) rfl⟩

/- slices.ContainsFunc[[]impl.Point,impl.Point] -/
def sh136f179 (q0 : List SPoint) : Option (Bool) := Option.bind (sh200f179 q0) fun x1 => some (decide (0 ≤ x1))
def T136f179 (r : Bool) (v : Value) (rs : List Own) : Prop := v = rets [.bool r] ∧ rs = []
set_option maxRecDepth 100000 in
theorem c136f179 {w : World} {q0 : List SPoint} {a_0 : Option Addr} {n_0 c_0 : Nat} (g_0 : Rd w a_0 (eSPoint.fl q0)) (l_0 : q0.length = n_0) (k_0 : n_0 ≤ c_0) {r : Bool} (hres : sh136f179 q0 = some r) : Calls Go.Proofs.Try.prog 136 [.slice a_0 n_0 c_0, .func (.func 179) #[] #[]].toArray w (Ret w (T136f179 r)) := by
  subst l_0
  unfold sh136f179 at hres
  refine calls_of (n := 9) (M := []) (es := []) Go.Proofs.Try.func136 rfl rfl rfl (Sep.nil _ _ _) ?_
  refine JX.seq ?_
  refine JX.region ?_
  refine JL.val (yl_assign rfl) rfl ?_
  refine JL.nil ?_
  refine JE.code ?_
  refine JX.seq ?_
  refine JX.region ?_
  refine JL.val (yl_move rfl) rfl ?_
  refine JL.val (yl_move rfl) rfl ?_
  obtain ⟨x1, hx1, hres⟩ := bind_some hres
  refine JL.eff (ef_call (T := T200f179 x1) Go.Proofs.Try.func200 rfl (by kernel_rfl) rfl (fun w hC => c200f179 (rd_arg g_0 hC) rfl k_0 hx1)) rfl ?_
  rintro _ _ ⟨_, ⟨rfl, rfl⟩, rfl⟩
  refine JL.val (yl_geq rfl rfl) rfl ?_
  refine JL.val (yl_assign rfl) rfl ?_
  refine JL.nil ?_
  refine JE.weak (env' := [(4, .bool (decide (0 ≤ x1)))]) (es' := []) [] ?_ ⟨rfl, trivial⟩ (by decide) rfl
  refine JE.code ?_
  refine JX.ret ?_
  obtain rfl := Option.some.inj hres
  refine JE.ret (rs := [.tmp 4]) (vs := [.bool (decide (0 ≤ x1))]) rfl ⟨rfl, trivial⟩ ?_
  exact fun w' hb hs => ⟨_, _, ⟨rfl, rfl⟩, rfl, hb, hs.sel [] _ (by decide) rfl⟩

/- impl.isPolygon -/
def sh102 (q0 : List SPoint) : Option (Bool) := Option.bind (sh107 (q0.length : Int) 3 300) fun x1 => Option.bind (bif x1 then (Option.bind (sh136f179 q0) fun x3 => some !x3) else (some false)) fun cb2 => (some cb2)
def T102 (r : Bool) (v : Value) (rs : List Own) : Prop := v = rets [.bool r] ∧ rs = []
set_option maxRecDepth 100000 in
theorem c102 {w : World} {q0 : List SPoint} {a_0 : Option Addr} {n_0 c_0 : Nat} (g_0 : Rd w a_0 (eSPoint.fl q0)) (l_0 : q0.length = n_0) (k_0 : n_0 ≤ c_0) {r : Bool} (hres : sh102 q0 = some r) : Calls Go.Proofs.Try.prog 102 [.slice a_0 n_0 c_0].toArray w (Ret w (T102 r)) := by
  subst l_0
  unfold sh102 at hres
  refine calls_of (n := 11) (M := []) (es := []) Go.Proofs.Try.func102 rfl rfl rfl (Sep.nil _ _ _) ?_
  refine JX.seq ?_
  refine JX.region ?_
  refine JL.val (yl_assign rfl) rfl ?_
  refine JL.nil ?_
  refine JE.code ?_
  refine JX.seq ?_
  refine JX.region ?_
  refine JL.val (yl_move rfl) rfl ?_
  refine JL.val (yl_len_slice Go.Proofs.Try.underlying34 rfl) rfl ?_
  obtain ⟨x1, hx1, hres⟩ := bind_some hres
  refine JL.eff (ef_call (T := T107 x1) Go.Proofs.Try.func107 rfl (by kernel_rfl) rfl (fun w hC => c107  hx1)) rfl ?_
  rintro _ _ ⟨_, ⟨rfl, rfl⟩, rfl⟩
  refine JL.val (yl_move rfl) rfl ?_
  obtain ⟨cb2, hcb2, hres⟩ := bind_some hres
  refine JL.cut (K := fun J => J [(10, .bool cb2)] []) 4 ?_ ?_
  · refine JL.val (yl_assign rfl) rfl ?_
    refine JL.nil ?_
    refine JE.weak (env' := [(2, .bool cb2)]) (es' := []) [] ?_ ⟨rfl, trivial⟩ (by decide) rfl
    refine JE.code ?_
    refine JX.ret ?_
    obtain rfl := Option.some.inj hres
    refine JE.ret (rs := [.tmp 2]) (vs := [.bool cb2]) rfl ⟨rfl, trivial⟩ ?_
    exact fun w' hb hs => ⟨_, _, ⟨rfl, rfl⟩, rfl, hb, hs.sel [] _ (by decide) rfl⟩
  · intro K
    rcases cond_some hcb2 with ⟨hb, hres⟩ | ⟨hb, hres⟩
    · refine JL.set (d := 6) (v := .bool true) (congrArg (fun b => some (Value.bool b)) hb) ?_
      refine JL.gval rfl rfl (yl_move rfl) rfl ?_
      obtain ⟨x3, hx3, hres⟩ := bind_some hres
      refine JL.geff rfl rfl (ef_call (T := T136f179 x3) Go.Proofs.Try.func136 rfl (by kernel_rfl) rfl (fun w hC => c136f179 (rd_arg g_0 hC) rfl k_0 hx3)) rfl ?_
      rintro _ _ ⟨_, ⟨rfl, rfl⟩, rfl⟩
      refine JL.gval rfl rfl (yl_not rfl) rfl ?_
      refine JL.val (yl_pick_true rfl rfl) rfl ?_
      have he := Option.some.inj hres
      exact JL.weak [] K ⟨(by rw [← he]; rfl), trivial⟩ (by decide) rfl
    · refine JL.set (d := 6) (v := .bool false) (congrArg (fun b => some (Value.bool b)) hb) ?_
      refine JL.gskip rfl rfl rfl rfl ?_
      refine JL.gskip rfl rfl rfl rfl ?_
      refine JL.gskip rfl rfl rfl rfl ?_
      refine JL.val (yl_pick_false rfl rfl) rfl ?_
      have he := Option.some.inj hres
      exact JL.weak [] K ⟨(by rw [← he]; rfl), trivial⟩ (by decide) rfl

/- impl.PathText -/
def sh84_1 (q0 : List SPoint) : (ByteArray × Int) → Option ((ByteArray × Int) ⊕ (ByteArray))
  | (x2, x3) => bif decide (x3 < (q0.length : Int)) then (Option.bind (getI q0 x3) fun x4 => Option.bind (bif decide (0 < x3) then (Option.bind (catS x2 (ByteArray.mk #[32, 76, 32])) fun x14 => some x14) else (some x2)) fun j7 => (Option.bind (sh165 x4.X) fun x9 => Option.bind (catS x9 (ByteArray.mk #[32])) fun x10 => Option.bind (sh165 x4.Y) fun x11 => Option.bind (catS x10 x11) fun x12 => Option.bind (catS j7 x12) fun x13 => some (.inl (x13, w64 (x3 + 1))))) else (some (.inr x2))
def sh84 (q0 : List SPoint) : Option (ByteArray) := Option.bind (sh102 q0) fun x1 => bif !x1 then (some (ByteArray.mk #[])) else (Option.bind (iter (sh84_1 q0) (ByteArray.mk #[77, 32], 0)) fun b1 => (Option.bind (catS b1 (ByteArray.mk #[32, 90])) fun x15 => some x15))
def T84 (r : ByteArray) (v : Value) (rs : List Own) : Prop := v = rets [.string r] ∧ rs = []
set_option maxRecDepth 100000 in
theorem c84 {w : World} {q0 : List SPoint} {a_0 : Option Addr} {n_0 c_0 : Nat} (g_0 : Rd w a_0 (eSPoint.fl q0)) (l_0 : q0.length = n_0) (k_0 : n_0 ≤ c_0) {r : ByteArray} (hres : sh84 q0 = some r) : Calls Go.Proofs.Try.prog 84 [.slice a_0 n_0 c_0].toArray w (Ret w (T84 r)) := by
  subst l_0
  unfold sh84 at hres
  refine calls_of (n := 33) (M := []) (es := []) Go.Proofs.Try.func84 rfl rfl rfl (Sep.nil _ _ _) ?_
  refine JX.seq ?_
  refine JX.region ?_
  refine JL.val (yl_assign rfl) rfl ?_
  refine JL.nil ?_
  refine JE.code ?_
  refine JX.seq ?_
  refine JX.seq ?_
  refine JX.region ?_
  refine JL.val (yl_move rfl) rfl ?_
  obtain ⟨x1, hx1, hres⟩ := bind_some hres
  refine JL.eff (ef_call (T := T102 x1) Go.Proofs.Try.func102 rfl (by kernel_rfl) rfl (fun w hC => c102 (rd_arg g_0 hC) rfl k_0 hx1)) rfl ?_
  rintro _ _ ⟨_, ⟨rfl, rfl⟩, rfl⟩
  refine JL.val (yl_not rfl) rfl ?_
  refine JL.nil ?_
  refine JE.code ?_
  rcases cond_some hres with ⟨hb, hres⟩ | ⟨hb, hres⟩
  · refine JX.condT rfl hb ?_
    refine JX.seq ?_
    refine JX.region ?_
    refine JL.val (yl_assign rfl) rfl ?_
    refine JL.nil ?_
    refine JE.code ?_
    refine JX.ret ?_
    obtain rfl := Option.some.inj hres
    refine JE.ret (rs := [.tmp 2]) (vs := [.string (ByteArray.mk #[])]) rfl ⟨rfl, trivial⟩ ?_
    exact fun w' hb hs => ⟨_, _, ⟨rfl, rfl⟩, rfl, hb, hs.sel [] _ (by decide) rfl⟩
  · refine JX.condF rfl hb ?_
    refine JX.skip ?_
    refine JE.code ?_
    refine JX.seq ?_
    refine JX.region ?_
    refine JL.val (yl_assign rfl) rfl ?_
    refine JL.nil ?_
    refine JE.code ?_
    refine JX.seq ?_
    refine JX.seq ?_
    refine JX.region ?_
    refine JL.val (yl_move rfl) rfl ?_
    refine JL.val (yl_len_slice Go.Proofs.Try.underlying34 rfl) rfl ?_
    refine JL.val (yl_move rfl) rfl ?_
    refine JL.nil ?_
    refine JE.code ?_
    refine JX.block ?_
    obtain ⟨y1, hy1, hresO1⟩ := bind_some hres
    refine JX.loop (I := fun (s1 : ByteArray × Int) aa ww => St w [] 33 [(3, .string s1.1), (9, .slice a_0 q0.length c_0), (10, .int .i64 (q0.length : Int)), (11, .int .i64 s1.2)] [] aa ww) (sh84_1 q0) hy1 (fun a w h => h.weak ⟨rfl, rfl, rfl, rfl, trivial⟩ [] (by decide) rfl) ?_
    rintro ⟨x2, x3⟩ o1 hres hox1 aa ww hS
    refine (?_ : JX Go.Proofs.Try.prog w [] 33 _ _ [(3, .string x2), (9, .slice a_0 q0.length c_0), (10, .int .i64 (q0.length : Int)), (11, .int .i64 x3)] [] _) aa ww hS
    clear hS
    simp only [sh84_1] at hres
    refine JX.seq ?_
    refine JX.region ?_
    refine JL.val (yl_lss rfl rfl) rfl ?_
    refine JL.nil ?_
    refine JE.code ?_
    refine JX.seq ?_
    rcases cond_some hres with ⟨hb, hres⟩ | ⟨hb, hres⟩
    · refine JX.condT rfl hb ?_
      refine JX.skip ?_
      refine JE.code ?_
      refine JX.seq ?_
      refine JX.block ?_
      refine JX.seq ?_
      refine JX.region ?_
      refine JL.val (yl_move rfl) rfl ?_
      obtain ⟨x4, hx4, hres⟩ := bind_some hres
      refine JL.val (yl_idxT Go.Proofs.Try.underlying34 i42 i42s rfl rfl hx4 rfl (fun w hC => rd_arg g_0 hC)) rfl ?_
      refine JL.val (yl_loadTn Go.Proofs.Try.underlying42 rfl i42 i42s rfl hx4 (fun w hC => rd_arg g_0 hC)) rfl ?_
      refine JL.eff (ef_alloc i42 i42z rfl) rfl ?_
      rintro _ _ ⟨g5, rfl, rfl⟩
      refine JL.val (yl_assign rfl) rfl ?_
      refine JL.eff (ef_store_box (i := 0) (v := .agg #[.int .i64 x4.X, .int .i64 x4.Y]) i42 rfl rfl rfl (i42s).symm (Nat.le_of_ble_eq_true rfl) (by simp [Value.cells, Value.oneCell'])) rfl ?_
      rintro _ _ rfl
      refine JL.nil ?_
      refine JE.weak (env' := [(3, .string x2), (4, .int .i64 x3), (5, ptrAt (some ⟨g5, 0, none⟩) 0), (9, .slice a_0 q0.length c_0), (10, .int .i64 (q0.length : Int)), (11, .int .i64 x3)]) (es' := [boxO 42 g5 [.int .i64 x4.X, .int .i64 x4.Y]]) [0] ?_ ⟨rfl, rfl, rfl, rfl, rfl, rfl, trivial⟩ (by decide) rfl
      refine JE.code ?_
      refine JX.seq ?_
      refine JX.seq ?_
      refine JX.region ?_
      refine JL.val (yl_move rfl) rfl ?_
      refine JL.val (yl_gtr rfl rfl) rfl ?_
      refine JL.nil ?_
      refine JE.code ?_
      obtain ⟨j7, hj7, hresj7⟩ := bind_some hres
      refine JX.cut (K := fun J => J [(3, .string j7), (5, ptrAt (some ⟨g5, 0, none⟩) 0), (9, .slice a_0 q0.length c_0), (10, .int .i64 (q0.length : Int)), (11, .int .i64 x3)] [boxO 42 g5 [.int .i64 x4.X, .int .i64 x4.Y]]) ?_ ?_
      · have hres := hresj7
        refine JE.code ?_
        refine JX.drawH [(0, .pure), (1, .pure), (2, .read), (5, .pure), (6, .read), (3, .must), (4, .pure), (7, .must), (8, .pure), (9, .pure), (10, .pure)] [] [] [0] [] [boxO 42 g5 [.int .i64 x4.X, .int .i64 x4.Y]] mixedP (by kernel_rfl) (by kernel_rfl) (by decide) rfl rfl ?_
        intro wrr8 Nr8 hFr8
        refine JH.pure rfl (yl_move rfl) rfl ?_
        refine JH.pure rfl (yl_fieldAt (a := some _) Go.Proofs.Try.underlying42 rfl i2 i2n rfl rfl) rfl ?_
        refine JH.read rfl (yl_load1 Go.Proofs.Try.underlying2 rfl rfl (fun w hw => hFr8.box 0 rfl rfl hw) rfl) rfl ?_
        refine JH.pure rfl (yl_fieldAt (a := some _) Go.Proofs.Try.underlying42 rfl i2 i2n rfl rfl) rfl ?_
        refine JH.read rfl (yl_load1 Go.Proofs.Try.underlying2 rfl rfl (fun w hw => hFr8.box 0 rfl rfl hw) rfl) rfl ?_
        obtain ⟨x9, hx9, hres⟩ := bind_some hres
        refine JH.must rfl (ef_call (T := T165 x9) Go.Proofs.Try.func165 rfl (by kernel_rfl) rfl (fun w hC => c165  hx9)) rfl rfl ?_
        rintro _ _ ⟨_, ⟨rfl, rfl⟩, rfl⟩
        obtain ⟨x10, hx10, hres⟩ := bind_some hres
        refine JH.pure rfl (yl_catS rfl rfl hx10) rfl ?_
        obtain ⟨x11, hx11, hres⟩ := bind_some hres
        refine JH.must rfl (ef_call (T := T165 x11) Go.Proofs.Try.func165 rfl (by kernel_rfl) rfl (fun w hC => c165  hx11)) rfl rfl ?_
        rintro _ _ ⟨_, ⟨rfl, rfl⟩, rfl⟩
        obtain ⟨x12, hx12, hres⟩ := bind_some hres
        refine JH.pure rfl (yl_catS rfl rfl hx12) rfl ?_
        obtain ⟨x13, hx13, hres⟩ := bind_some hres
        refine JH.pure rfl (yl_catS rfl rfl hx13) rfl ?_
        refine JH.pure rfl (yl_assign rfl) rfl ?_
        refine JH.nil ?_
        refine JE.weak (env' := [(3, .string x13), (9, .slice a_0 q0.length c_0), (10, .int .i64 (q0.length : Int)), (11, .int .i64 x3)]) (es' := []) [] ?_ ⟨rfl, rfl, rfl, rfl, trivial⟩ (by decide) rfl
        refine JE.code ?_
        refine JX.region ?_
        refine JL.val (yl_add rfl rfl) rfl ?_
        refine JL.val (yl_move rfl) rfl ?_
        refine JL.nil ?_
        refine JE.cont hres ?_
        exact fun a w h => h.weak ⟨rfl, rfl, rfl, rfl, trivial⟩ [] (by decide) rfl
      · intro K
        rcases cond_some hj7 with ⟨hb, hres⟩ | ⟨hb, hres⟩
        · refine JX.condT rfl hb ?_
          refine JX.region ?_
          refine JL.val (yl_move rfl) rfl ?_
          obtain ⟨x14, hx14, hres⟩ := bind_some hres
          refine JL.val (yl_catS rfl rfl hx14) rfl ?_
          refine JL.val (yl_assign rfl) rfl ?_
          refine JL.nil ?_
          have hj := Option.some.inj hres
          exact JE.weak [0] (K) ⟨(by subst hj; rfl), (by subst hj; rfl), (by subst hj; rfl), (by subst hj; rfl), (by subst hj; rfl), trivial⟩ (by decide) (by subst hj; rfl)
        · refine JX.condF rfl hb ?_
          refine JX.skip ?_
          have hj := Option.some.inj hres
          exact JE.weak [0] (K) ⟨(by subst hj; rfl), (by subst hj; rfl), (by subst hj; rfl), (by subst hj; rfl), (by subst hj; rfl), trivial⟩ (by decide) (by subst hj; rfl)
    · refine JX.condF rfl hb ?_
      refine JX.exit ?_
      refine JE.qb rfl ?_
      obtain ⟨b1, hb1⟩ : ∃ b : ByteArray, b = x2 := ⟨_, rfl⟩
      have hy1 : b1 = y1 := by rw [hb1]; exact hox1 _ (Option.some.inj hres).symm
      have hres := hresO1
      rw [← hy1] at hres
      refine JE.weak (env' := [(3, .string b1)]) (es' := []) [] ?_ ⟨(by subst hb1; rfl), trivial⟩ (by decide) (by subst hb1; rfl)
      refine JE.code ?_
      refine JX.seq ?_
      refine JX.region ?_
      refine JL.val (yl_move rfl) rfl ?_
      obtain ⟨x15, hx15, hres⟩ := bind_some hres
      refine JL.val (yl_catS rfl rfl hx15) rfl ?_
      refine JL.val (yl_assign rfl) rfl ?_
      refine JL.nil ?_
      refine JE.code ?_
      refine JX.ret ?_
      obtain rfl := Option.some.inj hres
      refine JE.ret (rs := [.tmp 2]) (vs := [.string x15]) rfl ⟨rfl, trivial⟩ ?_
      exact fun w' hb hs => ⟨_, _, ⟨rfl, rfl⟩, rfl, hb, hs.sel [] _ (by decide) rfl⟩

/- impl.ReadPath -/
def sh85_1 (x1 : List ByteArray) : (Int × List SPoint) → Option ((Int × List SPoint) ⊕ ((List SPoint) ⊕ (List SPoint × Bool)))
  | (x10, x11) => bif decide ((w64 (x10 + 2)) < (x1.length : Int)) then (Option.bind (getI x1 (w64 (x10 + 1))) fun x14 => Option.bind (sh159 x14) fun x15 => Option.bind (getI x1 (w64 (x10 + 2))) fun x16 => Option.bind (sh159 x16) fun x17 => bif !x15.2 || !x17.2 then (some (.inr (.inr (([] : List SPoint), false)))) else (Option.bind (appL x11 [SPoint.mk x15.1 x17.1]) fun x21 => some (.inl (w64 (x10 + 3), x21)))) else (some (.inr (.inl x11)))
def sh85 (q0 : ByteArray) : Option (List SPoint × Bool) := Option.bind (sh158 q0 32) fun x1 => bif decide (901 < (x1.length : Int)) then (some (([] : List SPoint), false)) else (Option.bind (iter (sh85_1 x1) (0, ([] : List SPoint))) fun y1 => elimS y1 (fun r => some r) fun b1 => (Option.bind (sh102 b1) fun x26 => Option.bind (bif !x26 then (some true) else (Option.bind (sh84 b1) fun x28 => some (!(x28.toList == q0.toList)))) fun cb27 => (bif cb27 then (some (([] : List SPoint), false)) else (some (b1, true)))))
def T85 (r : List SPoint × Bool) (v : Value) (rs : List Own) : Prop := ∃ (a0 : Option Addr) (n0 c0 : Nat), r.1.length = n0 ∧ v = rets [.slice a0 n0 c0, .bool r.2] ∧ rs = [rowT 42 eSPoint a0 n0 c0 r.1]
set_option maxRecDepth 100000 in
theorem c85 {w : World} {q0 : ByteArray} {r : List SPoint × Bool} (hres : sh85 q0 = some r) : Calls Go.Proofs.Try.prog 85 [.string q0].toArray w (Ret w (T85 r)) := by
  unfold sh85 at hres
  refine calls_of (n := 64) (M := []) (es := []) Go.Proofs.Try.func85 rfl rfl rfl (Sep.nil _ _ _) ?_
  refine JX.seq ?_
  refine JX.region ?_
  refine JL.val (yl_assign rfl) rfl ?_
  refine JL.val (yl_assign rfl) rfl ?_
  refine JL.nil ?_
  refine JE.code ?_
  refine JX.seq ?_
  refine JX.region ?_
  refine JL.val (yl_move rfl) rfl ?_
  obtain ⟨x1, hx1, hres⟩ := bind_some hres
  refine JL.eff (ef_call (T := T158 x1) Go.Proofs.Try.func158 rfl (by kernel_rfl) rfl (fun w hC => c158  hx1)) rfl ?_
  rintro _ _ ⟨_, ⟨a2, _, cp3, rfl, rfl, rfl⟩, rfl⟩
  refine JL.val (yl_assign rfl) rfl ?_
  refine JL.nil ?_
  refine JE.code ?_
  refine JX.seq ?_
  refine JX.seq ?_
  refine JX.region ?_
  refine JL.val (yl_move rfl) rfl ?_
  refine JL.val (yl_len_slice Go.Proofs.Try.underlying150 rfl) rfl ?_
  refine JL.val (yl_gtr rfl rfl) rfl ?_
  refine JL.nil ?_
  refine JE.code ?_
  rcases cond_some hres with ⟨hb, hres⟩ | ⟨hb, hres⟩
  · refine JX.condT rfl hb ?_
    refine JX.seq ?_
    refine JX.region ?_
    refine JL.val (yl_assign rfl) rfl ?_
    refine JL.val (yl_assign rfl) rfl ?_
    refine JL.nil ?_
    refine JE.weak (env' := [(2, .slice none 0 0), (3, .bool false)]) (es' := []) [] ?_ ⟨rfl, rfl, trivial⟩ (by decide) rfl
    refine JE.code ?_
    refine JX.ret ?_
    refine JE.nilrow 42 eSPoint ?_
    obtain rfl := Option.some.inj hres
    refine JE.ret (rs := [.tmp 2, .tmp 3]) (vs := [.slice none 0 0, .bool false]) rfl ⟨rfl, rfl, trivial⟩ ?_
    exact fun w' hb hs => ⟨_, _, ⟨none, 0, 0, rfl, rfl, rfl⟩, rfl, hb, hs.sel [0] _ (by decide) rfl⟩
  · refine JX.condF rfl hb ?_
    refine JX.skip ?_
    refine JE.code ?_
    refine JX.seq ?_
    refine JX.region ?_
    refine JL.eff (ef_buildSlice (E := 42) (k := eSPoint.k) (us := eSPoint.fl ([] : List SPoint)) rfl (fun w => bsl34_0  w) rfl (by decide)) rfl ?_
    rintro _ _ ⟨a6, rfl, rfl⟩
    refine JL.val (yl_assign rfl) rfl ?_
    refine JL.nil ?_
    refine JE.code ?_
    refine JX.seq ?_
    refine JX.seq ?_
    refine JX.region ?_
    refine JL.val (yl_assign rfl) rfl ?_
    refine JL.nil ?_
    refine JE.code ?_
    refine JX.block ?_
    obtain ⟨y1, hy1, hresO1⟩ := bind_some hres
    refine JX.loop (I := fun (s1 : Int × List SPoint) aa ww => ∃ (a8 : Option Addr) (cp9 : Nat), St w [] 64 [(0, .string q0), (4, .slice a2 x1.length cp3), (5, .slice a8 s1.2.length cp9), (6, .int .i64 s1.1)] [rowT 9 eStr a2 x1.length cp3 x1, rowT 42 eSPoint a8 s1.2.length cp9 s1.2] aa ww) (sh85_1 x1) hy1 (fun a w h => ⟨a6, 0, h.weak ⟨rfl, rfl, rfl, rfl, trivial⟩ [0, 1] (by decide) rfl⟩) ?_
    rintro ⟨x10, x11⟩ o1 hres hox1 aa ww ⟨a12, cp13, hS⟩
    refine (?_ : JX Go.Proofs.Try.prog w [] 64 _ _ [(0, .string q0), (4, .slice a2 x1.length cp3), (5, .slice a12 x11.length cp13), (6, .int .i64 x10)] [rowT 9 eStr a2 x1.length cp3 x1, rowT 42 eSPoint a12 x11.length cp13 x11] _) aa ww hS
    clear hS
    simp only [sh85_1] at hres
    refine JX.seq ?_
    refine JX.seq ?_
    refine JX.region ?_
    refine JL.val (yl_move rfl) rfl ?_
    refine JL.val (yl_add rfl rfl) rfl ?_
    refine JL.val (yl_move rfl) rfl ?_
    refine JL.val (yl_len_slice Go.Proofs.Try.underlying150 rfl) rfl ?_
    refine JL.val (yl_lss rfl rfl) rfl ?_
    refine JL.nil ?_
    refine JE.weak (env' := [(0, .string q0), (4, .slice a2 x1.length cp3), (5, .slice a12 x11.length cp13), (6, .int .i64 x10), (21, .bool (decide ((w64 (x10 + 2)) < (x1.length : Int))))]) (es' := [rowT 9 eStr a2 x1.length cp3 x1, rowT 42 eSPoint a12 x11.length cp13 x11]) [0, 1] ?_ ⟨rfl, rfl, rfl, rfl, rfl, trivial⟩ (by decide) rfl
    refine JE.code ?_
    rcases cond_some hres with ⟨hb, hres⟩ | ⟨hb, hres⟩
    · refine JX.condT rfl hb ?_
      refine JX.skip ?_
      refine JE.code ?_
      refine JX.seq ?_
      refine JX.block ?_
      refine JX.seq ?_
      refine JX.region ?_
      refine JL.val (yl_move rfl) rfl ?_
      refine JL.val (yl_move rfl) rfl ?_
      refine JL.val (yl_add rfl rfl) rfl ?_
      obtain ⟨x14, hx14, hres⟩ := bind_some hres
      refine JL.val (yl_idxT Go.Proofs.Try.underlying150 i9 i9s rfl rfl hx14 rfl (fun w hC => rd_row hC 0 rfl)) rfl ?_
      refine JL.val (yl_loadT0 Go.Proofs.Try.underlying9 rfl rfl hx14 (fun w hC => rd_row hC 0 rfl) rfl) rfl ?_
      obtain ⟨x15, hx15, hres⟩ := bind_some hres
      refine JL.eff (ef_call (T := T159 x15) Go.Proofs.Try.func159 rfl (by kernel_rfl) rfl (fun w hC => c159  hx15)) rfl ?_
      rintro _ _ ⟨_, ⟨rfl, rfl⟩, rfl⟩
      refine JL.val (yl_move rfl) rfl ?_
      refine JL.val (yl_extract rfl rfl) rfl ?_
      refine JL.val (yl_extract rfl rfl) rfl ?_
      refine JL.val (yl_assign rfl) rfl ?_
      refine JL.val (yl_assign rfl) rfl ?_
      refine JL.nil ?_
      refine JE.weak (env' := [(0, .string q0), (4, .slice a2 x1.length cp3), (5, .slice a12 x11.length cp13), (6, .int .i64 x10), (7, .int .i64 x15.1), (8, .bool x15.2)]) (es' := [rowT 9 eStr a2 x1.length cp3 x1, rowT 42 eSPoint a12 x11.length cp13 x11]) [0, 1] ?_ ⟨rfl, rfl, rfl, rfl, rfl, rfl, trivial⟩ (by decide) rfl
      refine JE.code ?_
      refine JX.seq ?_
      refine JX.region ?_
      refine JL.val (yl_move rfl) rfl ?_
      refine JL.val (yl_move rfl) rfl ?_
      refine JL.val (yl_add rfl rfl) rfl ?_
      obtain ⟨x16, hx16, hres⟩ := bind_some hres
      refine JL.val (yl_idxT Go.Proofs.Try.underlying150 i9 i9s rfl rfl hx16 rfl (fun w hC => rd_row hC 0 rfl)) rfl ?_
      refine JL.val (yl_loadT0 Go.Proofs.Try.underlying9 rfl rfl hx16 (fun w hC => rd_row hC 0 rfl) rfl) rfl ?_
      obtain ⟨x17, hx17, hres⟩ := bind_some hres
      refine JL.eff (ef_call (T := T159 x17) Go.Proofs.Try.func159 rfl (by kernel_rfl) rfl (fun w hC => c159  hx17)) rfl ?_
      rintro _ _ ⟨_, ⟨rfl, rfl⟩, rfl⟩
      refine JL.val (yl_move rfl) rfl ?_
      refine JL.val (yl_extract rfl rfl) rfl ?_
      refine JL.val (yl_extract rfl rfl) rfl ?_
      refine JL.val (yl_assign rfl) rfl ?_
      refine JL.val (yl_assign rfl) rfl ?_
      refine JL.nil ?_
      refine JE.weak (env' := [(0, .string q0), (4, .slice a2 x1.length cp3), (5, .slice a12 x11.length cp13), (6, .int .i64 x10), (7, .int .i64 x15.1), (8, .bool x15.2), (9, .int .i64 x17.1), (10, .bool x17.2)]) (es' := [rowT 9 eStr a2 x1.length cp3 x1, rowT 42 eSPoint a12 x11.length cp13 x11]) [0, 1] ?_ ⟨rfl, rfl, rfl, rfl, rfl, rfl, rfl, rfl, trivial⟩ (by decide) rfl
      refine JE.code ?_
      refine JX.seq ?_
      refine JX.seq ?_
      refine JX.region ?_
      refine JL.val (yl_move rfl) rfl ?_
      refine JL.val (yl_not rfl) rfl ?_
      refine JL.val (yl_move rfl) rfl ?_
      refine JL.cut (K := fun J => J [(0, .string q0), (4, .slice a2 x1.length cp3), (5, .slice a12 x11.length cp13), (6, .int .i64 x10), (7, .int .i64 x15.1), (9, .int .i64 x17.1), (47, .bool (!x15.2 || !x17.2))] [rowT 9 eStr a2 x1.length cp3 x1, rowT 42 eSPoint a12 x11.length cp13 x11]) 3 ?_ ?_
      · refine JL.nil ?_
        refine JE.weak (env' := [(0, .string q0), (4, .slice a2 x1.length cp3), (5, .slice a12 x11.length cp13), (6, .int .i64 x10), (7, .int .i64 x15.1), (9, .int .i64 x17.1), (47, .bool (!x15.2 || !x17.2))]) (es' := [rowT 9 eStr a2 x1.length cp3 x1, rowT 42 eSPoint a12 x11.length cp13 x11]) [0, 1] ?_ ⟨rfl, rfl, rfl, rfl, rfl, rfl, rfl, trivial⟩ (by decide) rfl
        refine JE.code ?_
        rcases cond_some hres with ⟨hb, hres⟩ | ⟨hb, hres⟩
        · refine JX.condT rfl hb ?_
          refine JX.seq ?_
          refine JX.region ?_
          refine JL.val (yl_assign rfl) rfl ?_
          refine JL.val (yl_assign rfl) rfl ?_
          refine JL.nil ?_
          refine JE.weak (env' := [(2, .slice none 0 0), (3, .bool false)]) (es' := []) [] ?_ ⟨rfl, rfl, trivial⟩ (by decide) rfl
          refine JE.code ?_
          refine JX.ret ?_
          refine JE.qbr ?_
          refine JE.qbr ?_
          refine JE.nilrow 42 eSPoint ?_
          have hres := elimS_inr hresO1 (hox1 _ (Option.some.inj hres).symm)
          obtain rfl := Option.some.inj hres
          refine JE.ret (rs := [.tmp 2, .tmp 3]) (vs := [.slice none 0 0, .bool false]) rfl ⟨rfl, rfl, trivial⟩ ?_
          exact fun w' hb hs => ⟨_, _, ⟨none, 0, 0, rfl, rfl, rfl⟩, rfl, hb, hs.sel [0] _ (by decide) rfl⟩
        · refine JX.condF rfl hb ?_
          refine JX.skip ?_
          refine JE.code ?_
          refine JX.region ?_
          refine JL.val (yl_move rfl) rfl ?_
          refine JL.val (yl_move rfl) rfl ?_
          refine JL.val (yl_move rfl) rfl ?_
          refine JL.val (yl_build rfl (fun w => bld42_0_1 x15.1 x17.1 w)) rfl ?_
          refine JL.eff (ef_buildSlice (E := 42) (k := eSPoint.k) (us := eSPoint.fl [SPoint.mk x15.1 x17.1]) rfl (fun w => bsl34_1 x15.1 x17.1 w) rfl (by decide)) rfl ?_
          rintro _ _ ⟨a19, rfl, rfl⟩
          obtain ⟨x21, hx21, hres⟩ := bind_some hres
          refine JL.eff (ef_appendT (ix := 1) Go.Proofs.Try.underlying34 i42 i42z i42s rfl i42b0 i42b1 rfl rfl rfl rfl rfl (fun w hC => rd_row hC 2 rfl) hx21) rfl ?_
          rintro _ _ ⟨a22, cp23, rfl, rfl⟩
          refine JL.val (yl_assign rfl) rfl ?_
          refine JL.nil ?_
          refine JE.weak (env' := [(0, .string q0), (4, .slice a2 x1.length cp3), (5, .slice a22 x21.length cp23), (6, .int .i64 x10)]) (es' := [rowT 9 eStr a2 x1.length cp3 x1, rowT 42 eSPoint a22 x21.length cp23 x21]) [0, 1] ?_ ⟨rfl, rfl, rfl, rfl, trivial⟩ (by decide) rfl
          refine JE.code ?_
          refine JX.region ?_
          refine JL.val (yl_move rfl) rfl ?_
          refine JL.val (yl_add rfl rfl) rfl ?_
          refine JL.val (yl_assign rfl) rfl ?_
          refine JL.nil ?_
          refine JE.cont hres ?_
          exact fun a w h => ⟨a22, cp23, h.weak ⟨rfl, rfl, rfl, rfl, trivial⟩ [0, 1] (by decide) rfl⟩
      · intro K
        rcases Bool.eq_false_or_eq_true (!x15.2) with hb | hb
        · refine JL.set (d := 44) (v := .bool true) (congrArg (fun b => some (Value.bool b)) hb) ?_
          refine JL.gskip rfl rfl rfl rfl ?_
          refine JL.gskip rfl rfl rfl rfl ?_
          refine JL.val (yl_pick_true rfl rfl) rfl ?_
          exact JL.weak [0, 1] K ⟨rfl, rfl, rfl, rfl, rfl, rfl, (by rw [hb]; rfl), trivial⟩ (by decide) rfl
        · refine JL.set (d := 44) (v := .bool false) (congrArg (fun b => some (Value.bool b)) hb) ?_
          refine JL.gval rfl rfl (yl_move rfl) rfl ?_
          refine JL.gval rfl rfl (yl_not rfl) rfl ?_
          refine JL.val (yl_pick_false rfl rfl) rfl ?_
          exact JL.weak [0, 1] K ⟨rfl, rfl, rfl, rfl, rfl, rfl, (by rw [hb]; rfl), trivial⟩ (by decide) rfl
    · refine JX.condF rfl hb ?_
      refine JX.exit ?_
      refine JE.qb rfl ?_
      obtain ⟨b1, hb1⟩ : ∃ b : List SPoint, b = x11 := ⟨_, rfl⟩
      have hy1 : Sum.inl b1 = y1 := by rw [hb1]; exact hox1 _ (Option.some.inj hres).symm
      have hres := elimS_inl hresO1 hy1
      refine JE.weak (env' := [(0, .string q0), (5, .slice a12 b1.length cp13)]) (es' := [rowT 42 eSPoint a12 b1.length cp13 b1]) [1] ?_ ⟨(by subst hb1; rfl), (by subst hb1; rfl), trivial⟩ (by decide) (by subst hb1; rfl)
      refine JE.code ?_
      refine JX.seq ?_
      refine JX.seq ?_
      refine JX.region ?_
      refine JL.val (yl_move rfl) rfl ?_
      obtain ⟨x26, hx26, hres⟩ := bind_some hres
      refine JL.eff (ef_call (T := T102 x26) Go.Proofs.Try.func102 rfl (by kernel_rfl) rfl (fun w hC => c102 (rd_row hC 0 rfl) rfl (ln_row hC 0 rfl) hx26)) rfl ?_
      rintro _ _ ⟨_, ⟨rfl, rfl⟩, rfl⟩
      refine JL.val (yl_not rfl) rfl ?_
      refine JL.val (yl_move rfl) rfl ?_
      obtain ⟨cb27, hcb27, hres⟩ := bind_some hres
      refine JL.cut (K := fun J => J [(5, .slice a12 b1.length cp13), (62, .bool cb27)] [rowT 42 eSPoint a12 b1.length cp13 b1]) 5 ?_ ?_
      · refine JL.nil ?_
        refine JE.weak (env' := [(5, .slice a12 b1.length cp13), (62, .bool cb27)]) (es' := [rowT 42 eSPoint a12 b1.length cp13 b1]) [0] ?_ ⟨rfl, rfl, trivial⟩ (by decide) rfl
        refine JE.code ?_
        rcases cond_some hres with ⟨hb, hres⟩ | ⟨hb, hres⟩
        · refine JX.condT rfl hb ?_
          refine JX.seq ?_
          refine JX.region ?_
          refine JL.val (yl_assign rfl) rfl ?_
          refine JL.val (yl_assign rfl) rfl ?_
          refine JL.nil ?_
          refine JE.weak (env' := [(2, .slice none 0 0), (3, .bool false)]) (es' := []) [] ?_ ⟨rfl, rfl, trivial⟩ (by decide) rfl
          refine JE.code ?_
          refine JX.ret ?_
          refine JE.nilrow 42 eSPoint ?_
          obtain rfl := Option.some.inj hres
          refine JE.ret (rs := [.tmp 2, .tmp 3]) (vs := [.slice none 0 0, .bool false]) rfl ⟨rfl, rfl, trivial⟩ ?_
          exact fun w' hb hs => ⟨_, _, ⟨none, 0, 0, rfl, rfl, rfl⟩, rfl, hb, hs.sel [0] _ (by decide) rfl⟩
        · refine JX.condF rfl hb ?_
          refine JX.skip ?_
          refine JE.code ?_
          refine JX.seq ?_
          refine JX.region ?_
          refine JL.val (yl_move rfl) rfl ?_
          refine JL.val (yl_assign rfl) rfl ?_
          refine JL.val (yl_assign rfl) rfl ?_
          refine JL.nil ?_
          refine JE.code ?_
          refine JX.ret ?_
          obtain rfl := Option.some.inj hres
          refine JE.ret (rs := [.tmp 2, .tmp 3]) (vs := [.slice a12 b1.length cp13, .bool true]) rfl ⟨rfl, rfl, trivial⟩ ?_
          exact fun w' hb hs => ⟨_, _, ⟨a12, b1.length, cp13, rfl, rfl, rfl⟩, rfl, hb, hs.sel [0] _ (by decide) rfl⟩
      · intro K
        rcases cond_some hcb27 with ⟨hb, hres⟩ | ⟨hb, hres⟩
        · refine JL.set (d := 57) (v := .bool true) (congrArg (fun b => some (Value.bool b)) hb) ?_
          refine JL.gskip rfl rfl rfl rfl ?_
          refine JL.gskip rfl rfl rfl rfl ?_
          refine JL.gskip rfl rfl rfl rfl ?_
          refine JL.gskip rfl rfl rfl rfl ?_
          refine JL.val (yl_pick_true rfl rfl) rfl ?_
          have he := Option.some.inj hres
          exact JL.weak [0] K ⟨rfl, (by rw [← he]; rfl), trivial⟩ (by decide) rfl
        · refine JL.set (d := 57) (v := .bool false) (congrArg (fun b => some (Value.bool b)) hb) ?_
          refine JL.gval rfl rfl (yl_move rfl) rfl ?_
          obtain ⟨x28, hx28, hres⟩ := bind_some hres
          refine JL.geff rfl rfl (ef_call (T := T84 x28) Go.Proofs.Try.func84 rfl (by kernel_rfl) rfl (fun w hC => c84 (rd_row hC 0 rfl) rfl (ln_row hC 0 rfl) hx28)) rfl ?_
          rintro _ _ ⟨_, ⟨rfl, rfl⟩, rfl⟩
          refine JL.gval rfl rfl (yl_move rfl) rfl ?_
          refine JL.gval rfl rfl (yl_sneq rfl rfl) rfl ?_
          refine JL.val (yl_pick_false rfl rfl) rfl ?_
          have he := Option.some.inj hres
          exact JL.weak [0] K ⟨rfl, (by rw [← he]; rfl), trivial⟩ (by decide) rfl

/- spec.l20Text -/
def sh171_1 (q0 : List SPoint) : (Int × List Int) → Option ((Int × List Int) ⊕ (List Int))
  | (x5, x6) => bif decide (x5 < (q0.length : Int)) then (Option.bind (bif x5 == 0 then (some (ByteArray.mk #[77, 32])) else (some (ByteArray.mk #[76, 32]))) fun j9 => (Option.bind (getI q0 x5) fun x11 => Option.bind (getI q0 x5) fun x12 => Option.bind (sh208 x11.X) fun x13 => Option.bind (catS j9 x13) fun x14 => Option.bind (catS x14 (ByteArray.mk #[32])) fun x15 => Option.bind (sh208 x12.Y) fun x16 => Option.bind (catS x15 x16) fun x17 => Option.bind (catS x17 (ByteArray.mk #[32])) fun x18 => Option.bind (appL x6 (strI x18)) fun x19 => some (.inl (w64 (x5 + 1), x19)))) else (some (.inr x6))
def sh171 (q0 : List SPoint) : Option (ByteArray) := Option.bind (iter (sh171_1 q0) (0, ([] : List Int))) fun b1 => (Option.bind (appL b1 [90]) fun x26 => some (bytesS x26))
def T171 (r : ByteArray) (v : Value) (rs : List Own) : Prop := v = rets [.string r] ∧ rs = []
set_option maxRecDepth 100000 in
theorem c171 {w : World} {q0 : List SPoint} {a_0 : Option Addr} {n_0 c_0 : Nat} (g_0 : Rd w a_0 (eSPoint.fl q0)) (l_0 : q0.length = n_0) (k_0 : n_0 ≤ c_0) {r : ByteArray} (hres : sh171 q0 = some r) : Calls Go.Proofs.Try.prog 171 [.slice a_0 n_0 c_0].toArray w (Ret w (T171 r)) := by
  subst l_0
  unfold sh171 at hres
  refine calls_of (n := 38) (M := []) (es := []) Go.Proofs.Try.func171 rfl rfl rfl (Sep.nil _ _ _) ?_
  refine JX.seq ?_
  refine JX.region ?_
  refine JL.val (yl_assign rfl) rfl ?_
  refine JL.nil ?_
  refine JE.code ?_
  refine JX.seq ?_
  refine JX.region ?_
  refine JL.eff (ef_buildSlice (E := 5) (k := eU8.k) (us := eU8.fl ([] : List Int)) rfl (fun w => bsl22_0  w) rfl (by decide)) rfl ?_
  rintro _ _ ⟨a1, rfl, rfl⟩
  refine JL.val (yl_assign rfl) rfl ?_
  refine JL.nil ?_
  refine JE.code ?_
  refine JX.seq ?_
  refine JX.seq ?_
  refine JX.region ?_
  refine JL.val (yl_assign rfl) rfl ?_
  refine JL.nil ?_
  refine JE.code ?_
  refine JX.block ?_
  obtain ⟨y1, hy1, hresO1⟩ := bind_some hres
  refine JX.loop (I := fun (s1 : Int × List Int) aa ww => ∃ (a3 : Option Addr) (cp4 : Nat), St w [] 38 [(0, .slice a_0 q0.length c_0), (3, .slice a3 s1.2.length cp4), (4, .int .i64 s1.1)] [rowT 5 eU8 a3 s1.2.length cp4 s1.2] aa ww) (sh171_1 q0) hy1 (fun a w h => ⟨a1, 0, h.weak ⟨rfl, rfl, rfl, trivial⟩ [0] (by decide) rfl⟩) ?_
  rintro ⟨x5, x6⟩ o1 hres hox1 aa ww ⟨a7, cp8, hS⟩
  refine (?_ : JX Go.Proofs.Try.prog w [] 38 _ _ [(0, .slice a_0 q0.length c_0), (3, .slice a7 x6.length cp8), (4, .int .i64 x5)] [rowT 5 eU8 a7 x6.length cp8 x6] _) aa ww hS
  clear hS
  simp only [sh171_1] at hres
  refine JX.seq ?_
  refine JX.seq ?_
  refine JX.region ?_
  refine JL.val (yl_move rfl) rfl ?_
  refine JL.val (yl_move rfl) rfl ?_
  refine JL.val (yl_len_slice Go.Proofs.Try.underlying34 rfl) rfl ?_
  refine JL.val (yl_lss rfl rfl) rfl ?_
  refine JL.nil ?_
  refine JE.weak (env' := [(0, .slice a_0 q0.length c_0), (3, .slice a7 x6.length cp8), (4, .int .i64 x5), (10, .bool (decide (x5 < (q0.length : Int))))]) (es' := [rowT 5 eU8 a7 x6.length cp8 x6]) [0] ?_ ⟨rfl, rfl, rfl, rfl, trivial⟩ (by decide) rfl
  refine JE.code ?_
  rcases cond_some hres with ⟨hb, hres⟩ | ⟨hb, hres⟩
  · refine JX.condT rfl hb ?_
    refine JX.skip ?_
    refine JE.code ?_
    refine JX.seq ?_
    refine JX.block ?_
    refine JX.seq ?_
    refine JX.region ?_
    refine JL.val (yl_assign rfl) rfl ?_
    refine JL.nil ?_
    refine JE.code ?_
    refine JX.seq ?_
    refine JX.seq ?_
    refine JX.region ?_
    refine JL.val (yl_move rfl) rfl ?_
    refine JL.val (yl_eql rfl rfl) rfl ?_
    refine JL.nil ?_
    refine JE.code ?_
    obtain ⟨j9, hj9, hresj9⟩ := bind_some hres
    refine JX.cut (K := fun J => J [(0, .slice a_0 q0.length c_0), (3, .slice a7 x6.length cp8), (4, .int .i64 x5), (5, .string j9)] [rowT 5 eU8 a7 x6.length cp8 x6]) ?_ ?_
    · have hres := hresj9
      refine JE.code ?_
      refine JX.drawH [(0, .pure), (1, .pure), (2, .pure), (3, .pure), (4, .pure), (5, .pure), (6, .read), (10, .pure), (11, .pure), (12, .pure), (13, .pure), (14, .read), (7, .must), (8, .pure), (9, .pure), (15, .must), (16, .pure), (17, .pure), (18, .must), (19, .pure)] [18] [0] [] [rowT 5 eU8 a7 x6.length cp8 x6] [] mixedP (by kernel_rfl) (by kernel_rfl) (by decide) rfl rfl ?_
      intro wrr10 Nr10 hFr10
      refine JH.pure rfl (yl_move rfl) rfl ?_
      refine JH.pure rfl (yl_move rfl) rfl ?_
      refine JH.pure rfl (yl_move rfl) rfl ?_
      refine JH.pure rfl (yl_move rfl) rfl ?_
      obtain ⟨x11, hx11, hres⟩ := bind_some hres
      refine JH.pure rfl (yl_idxQ Go.Proofs.Try.underlying34 i42 i42s rfl rfl hx11 rfl (rd_arg g_0 hFr10.cl) rfl) rfl ?_
      refine JH.pure rfl (yl_fieldAt Go.Proofs.Try.underlying42 rfl i2 i2n rfl (RdT.someQ (rd_arg g_0 hFr10.cl) hx11 rfl rfl)) rfl ?_
      refine JH.read rfl (yl_loadT1 Go.Proofs.Try.underlying2 rfl rfl hx11 (fun w hw => hFr10.arg g_0 hw) rfl) rfl ?_
      refine JH.pure rfl (yl_move rfl) rfl ?_
      refine JH.pure rfl (yl_move rfl) rfl ?_
      obtain ⟨x12, hx12, hres⟩ := bind_some hres
      refine JH.pure rfl (yl_idxQ Go.Proofs.Try.underlying34 i42 i42s rfl rfl hx12 rfl (rd_arg g_0 hFr10.cl) rfl) rfl ?_
      refine JH.pure rfl (yl_fieldAt Go.Proofs.Try.underlying42 rfl i2 i2n rfl (RdT.someQ (rd_arg g_0 hFr10.cl) hx12 rfl rfl)) rfl ?_
      refine JH.read rfl (yl_loadT1 Go.Proofs.Try.underlying2 rfl rfl hx12 (fun w hw => hFr10.arg g_0 hw) rfl) rfl ?_
      obtain ⟨x13, hx13, hres⟩ := bind_some hres
      refine JH.must rfl (ef_call (T := T208 x13) Go.Proofs.Try.func208 rfl (by kernel_rfl) rfl (fun w hC => c208  hx13)) rfl rfl ?_
      rintro _ _ ⟨_, ⟨rfl, rfl⟩, rfl⟩
      obtain ⟨x14, hx14, hres⟩ := bind_some hres
      refine JH.pure rfl (yl_catS rfl rfl hx14) rfl ?_
      obtain ⟨x15, hx15, hres⟩ := bind_some hres
      refine JH.pure rfl (yl_catS rfl rfl hx15) rfl ?_
      obtain ⟨x16, hx16, hres⟩ := bind_some hres
      refine JH.must rfl (ef_call (T := T208 x16) Go.Proofs.Try.func208 rfl (by kernel_rfl) rfl (fun w hC => c208  hx16)) rfl rfl ?_
      rintro _ _ ⟨_, ⟨rfl, rfl⟩, rfl⟩
      obtain ⟨x17, hx17, hres⟩ := bind_some hres
      refine JH.pure rfl (yl_catS rfl rfl hx17) rfl ?_
      obtain ⟨x18, hx18, hres⟩ := bind_some hres
      refine JH.pure rfl (yl_catS rfl rfl hx18) rfl ?_
      obtain ⟨x19, hx19, hres⟩ := bind_some hres
      refine JH.must rfl (ef_appendS (ix := 0) Go.Proofs.Try.underlying22 Go.Proofs.Try.underlying9 i5 i5z i5s i5b rfl rfl rfl rfl hx19) rfl rfl ?_
      rintro _ _ ⟨a20, cp21, rfl, rfl⟩
      refine JH.pure rfl (yl_assign rfl) rfl ?_
      refine JH.nil ?_
      refine JE.weak (env' := [(0, .slice a_0 q0.length c_0), (3, .slice a20 x19.length cp21), (4, .int .i64 x5)]) (es' := [rowT 5 eU8 a20 x19.length cp21 x19]) [0] ?_ ⟨rfl, rfl, rfl, trivial⟩ (by decide) rfl
      refine JE.code ?_
      refine JX.region ?_
      refine JL.val (yl_move rfl) rfl ?_
      refine JL.val (yl_add rfl rfl) rfl ?_
      refine JL.val (yl_assign rfl) rfl ?_
      refine JL.nil ?_
      refine JE.cont hres ?_
      exact fun a w h => ⟨a20, cp21, h.weak ⟨rfl, rfl, rfl, trivial⟩ [0] (by decide) rfl⟩
    · intro K
      rcases cond_some hj9 with ⟨hb, hres⟩ | ⟨hb, hres⟩
      · refine JX.condT rfl hb ?_
        refine JX.region ?_
        refine JL.val (yl_assign rfl) rfl ?_
        refine JL.nil ?_
        have hj := Option.some.inj hres
        exact JE.weak [0] (K) ⟨(by subst hj; rfl), (by subst hj; rfl), (by subst hj; rfl), (by subst hj; rfl), trivial⟩ (by decide) (by subst hj; rfl)
      · refine JX.condF rfl hb ?_
        refine JX.skip ?_
        have hj := Option.some.inj hres
        exact JE.weak [0] (K) ⟨(by subst hj; rfl), (by subst hj; rfl), (by subst hj; rfl), (by subst hj; rfl), trivial⟩ (by decide) (by subst hj; rfl)
  · refine JX.condF rfl hb ?_
    refine JX.exit ?_
    refine JE.qb rfl ?_
    obtain ⟨b1, hb1⟩ : ∃ b : List Int, b = x6 := ⟨_, rfl⟩
    have hy1 : b1 = y1 := by rw [hb1]; exact hox1 _ (Option.some.inj hres).symm
    have hres := hresO1
    rw [← hy1] at hres
    refine JE.weak (env' := [(3, .slice a7 b1.length cp8)]) (es' := [rowT 5 eU8 a7 b1.length cp8 b1]) [0] ?_ ⟨(by subst hb1; rfl), trivial⟩ (by decide) (by subst hb1; rfl)
    refine JE.code ?_
    refine JX.seq ?_
    refine JX.region ?_
    refine JL.val (yl_move rfl) rfl ?_
    refine JL.eff (ef_buildSlice (E := 5) (k := eU8.k) (us := eU8.fl [90]) rfl (fun w => bsl22_1 90 w) rfl (by decide)) rfl ?_
    rintro _ _ ⟨a24, rfl, rfl⟩
    obtain ⟨x26, hx26, hres⟩ := bind_some hres
    refine JL.eff (ef_appendT (ix := 0) Go.Proofs.Try.underlying22 i5 i5z i5s rfl i5b0 i5b1 rfl rfl rfl rfl rfl (fun w hC => rd_row hC 1 rfl) hx26) rfl ?_
    rintro _ _ ⟨a27, cp28, rfl, rfl⟩
    refine JL.val (yl_bytesT Go.Proofs.Try.underlying22 Go.Proofs.Try.underlying9 Go.Proofs.Try.underlying5 rfl rfl (fun w hC => rd_row hC 0 rfl)) rfl ?_
    refine JL.val (yl_assign rfl) rfl ?_
    refine JL.nil ?_
    refine JE.weak (env' := [(2, .string (bytesS x26))]) (es' := []) [] ?_ ⟨rfl, trivial⟩ (by decide) rfl
    refine JE.code ?_
    refine JX.ret ?_
    obtain rfl := Option.some.inj hres
    refine JE.ret (rs := [.tmp 2]) (vs := [.string (bytesS x26)]) rfl ⟨rfl, trivial⟩ ?_
    exact fun w' hb hs => ⟨_, _, ⟨rfl, rfl⟩, rfl, hb, hs.sel [] _ (by decide) rfl⟩

/- spec.DrawReadPath -/
def sh86 (q0 : List Int) : Option (ByteArray) := Option.bind (sh90 q0) fun x1 => Option.bind (sh172 (Sl00Src.mk q0 x1.at_ x1.seed)) fun x4 => Option.bind (sh171 x4.1) fun x8 => Option.bind (sh93 (Sl00Src.mk q0 x4.2.1 x4.2.2) 3) fun x9 => bif x9.1 then (Option.bind (sh162 (Sl00Src.mk q0 x9.2.1 x9.2.2) x8) fun x10 => some x10.1) else (some x8)
def T86 (r : ByteArray) (v : Value) (rs : List Own) : Prop := v = rets [.string r] ∧ rs = []
set_option maxRecDepth 100000 in
theorem c86 {w : World} {q0 : List Int} {a_0 : Option Addr} {n_0 c_0 : Nat} (g_0 : Rd w a_0 (eU8.fl q0)) (l_0 : q0.length = n_0) (k_0 : n_0 ≤ c_0) {r : ByteArray} (hres : sh86 q0 = some r) : Calls Go.Proofs.Try.prog 86 [.slice a_0 n_0 c_0].toArray w (Ret w (T86 r)) := by
  subst l_0
  unfold sh86 at hres
  refine calls_of (n := 16) (M := []) (es := []) Go.Proofs.Try.func86 rfl rfl rfl (Sep.nil _ _ _) ?_
  refine JX.seq ?_
  refine JX.region ?_
  refine JL.val (yl_assign rfl) rfl ?_
  refine JL.nil ?_
  refine JE.code ?_
  refine JX.seq ?_
  refine JX.region ?_
  refine JL.val (yl_move rfl) rfl ?_
  obtain ⟨x1, hx1, hres⟩ := bind_some hres
  refine JL.eff (ef_call (T := T90 a_0 q0.length c_0 x1) Go.Proofs.Try.func90 rfl (by kernel_rfl) rfl (fun w hC => c90 (rd_arg g_0 hC) rfl k_0 hx1)) rfl ?_
  rintro _ _ ⟨_, ⟨g2, rfl, rfl⟩, rfl⟩
  refine JL.val (yl_assign rfl) rfl ?_
  refine JL.nil ?_
  refine JE.code ?_
  refine JX.seq ?_
  refine JX.region ?_
  refine JL.val (yl_move rfl) rfl ?_
  obtain ⟨x4, hx4, hres⟩ := bind_some hres
  refine JL.eff (ef_callms (caps := []) (vs := [ptrAt (some ⟨g2, 0, none⟩) 0]) (T := T172 g2 a_0 q0.length c_0 x4) [0] [] [boxO 163 g2 [.slice a_0 q0.length c_0, .int .i64 x1.at_, .int .u64 x1.seed]] [] rfl Go.Proofs.Try.func172 rfl (by kernel_rfl) rfl (by decide) rfl rfl (fun w N hF hS => c172 (q0 := Sl00Src.mk q0 x1.at_ x1.seed) (RdS.pass0 hF g_0) rfl k_0 hS hx4)) rfl ?_
  rintro _ _ ⟨_, _, ⟨rfl, a5, _, cp6, rfl, rfl, rfl⟩, rfl⟩
  obtain ⟨x8, hx8, hres⟩ := bind_some hres
  refine JL.eff (ef_call (T := T171 x8) Go.Proofs.Try.func171 rfl (by kernel_rfl) rfl (fun w hC => c171 (rd_row hC 1 rfl) rfl (ln_row hC 1 rfl) hx8)) rfl ?_
  rintro _ _ ⟨_, ⟨rfl, rfl⟩, rfl⟩
  refine JL.val (yl_assign rfl) rfl ?_
  refine JL.nil ?_
  refine JE.weak (env' := [(3, ptrAt (some ⟨g2, 0, none⟩) 0), (4, .string x8)]) (es' := [boxO 163 g2 [.slice a_0 q0.length c_0, .int .i64 x4.2.1, .int .u64 x4.2.2]]) [0] ?_ ⟨rfl, rfl, trivial⟩ (by decide) rfl
  refine JE.code ?_
  refine JX.seq ?_
  refine JX.seq ?_
  refine JX.region ?_
  refine JL.val (yl_move rfl) rfl ?_
  obtain ⟨x9, hx9, hres⟩ := bind_some hres
  refine JL.eff (ef_callms (caps := []) (vs := [ptrAt (some ⟨g2, 0, none⟩) 0, .int .i64 3]) (T := T93 g2 a_0 q0.length c_0 x9) [0] [] [boxO 163 g2 [.slice a_0 q0.length c_0, .int .i64 x4.2.1, .int .u64 x4.2.2]] [] rfl Go.Proofs.Try.func93 rfl (by kernel_rfl) rfl (by decide) rfl rfl (fun w N hF hS => c93 (q0 := Sl00Src.mk q0 x4.2.1 x4.2.2) (RdS.pass0 hF g_0) rfl k_0 hS hx9)) rfl ?_
  rintro _ _ ⟨_, _, ⟨rfl, rfl, rfl⟩, rfl⟩
  refine JL.nil ?_
  refine JE.code ?_
  rcases cond_some hres with ⟨hb, hres⟩ | ⟨hb, hres⟩
  · refine JX.condT rfl hb ?_
    refine JX.seq ?_
    refine JX.region ?_
    refine JL.val (yl_move rfl) rfl ?_
    refine JL.val (yl_move rfl) rfl ?_
    obtain ⟨x10, hx10, hres⟩ := bind_some hres
    refine JL.eff (ef_callms (caps := []) (vs := [ptrAt (some ⟨g2, 0, none⟩) 0, .string x8]) (T := T162 g2 a_0 q0.length c_0 x10) [0] [] [boxO 163 g2 [.slice a_0 q0.length c_0, .int .i64 x9.2.1, .int .u64 x9.2.2]] [] rfl Go.Proofs.Try.func162 rfl (by kernel_rfl) rfl (by decide) rfl rfl (fun w N hF hS => c162 (q0 := Sl00Src.mk q0 x9.2.1 x9.2.2) (RdS.pass0 hF g_0) rfl k_0 hS hx10)) rfl ?_
    rintro _ _ ⟨_, _, ⟨rfl, rfl, rfl⟩, rfl⟩
    refine JL.val (yl_assign rfl) rfl ?_
    refine JL.nil ?_
    refine JE.weak (env' := [(2, .string x10.1)]) (es' := []) [] ?_ ⟨rfl, trivial⟩ (by decide) rfl
    refine JE.code ?_
    refine JX.ret ?_
    obtain rfl := Option.some.inj hres
    refine JE.ret (rs := [.tmp 2]) (vs := [.string x10.1]) rfl ⟨rfl, trivial⟩ ?_
    exact fun w' hb hs => ⟨_, _, ⟨rfl, rfl⟩, rfl, hb, hs.sel [] _ (by decide) rfl⟩
  · refine JX.condF rfl hb ?_
    refine JX.skip ?_
    refine JE.code ?_
    refine JX.seq ?_
    refine JX.region ?_
    refine JL.val (yl_move rfl) rfl ?_
    refine JL.val (yl_assign rfl) rfl ?_
    refine JL.nil ?_
    refine JE.weak (env' := [(2, .string x8)]) (es' := []) [] ?_ ⟨rfl, trivial⟩ (by decide) rfl
    refine JE.code ?_
    refine JX.ret ?_
    obtain rfl := Option.some.inj hres
    refine JE.ret (rs := [.tmp 2]) (vs := [.string x8]) rfl ⟨rfl, trivial⟩ ?_
    exact fun w' hb hs => ⟨_, _, ⟨rfl, rfl⟩, rfl, hb, hs.sel [] _ (by decide) rfl⟩

/- spec.l20Ok -/
def sh110_1 (q0 : List SPoint) : Int → Option (Int ⊕ (Unit ⊕ Bool))
  | x1 => bif decide (x1 < (q0.length : Int)) then (Option.bind (getI q0 x1) fun x2 => Option.bind (sh100 x2.X (-100000) 100000) fun x3 => Option.bind (bif !x3 then (some true) else (Option.bind (getI q0 x1) fun x5 => Option.bind (sh100 x5.Y (-100000) 100000) fun x6 => some !x6)) fun cb4 => (bif cb4 then (some (.inr (.inr false))) else (some (.inl (w64 (x1 + 1)))))) else (some (.inr (.inl ())))
def sh110 (q0 : List SPoint) : Option (Bool) := Option.bind (iter (sh110_1 q0) 0) fun y1 => elimS y1 (fun r => some r) fun b1 => (Option.bind (sh100 (q0.length : Int) 3 300) fun x7 => some x7)
def T110 (r : Bool) (v : Value) (rs : List Own) : Prop := v = rets [.bool r] ∧ rs = []
set_option maxRecDepth 100000 in
theorem c110 {w : World} {q0 : List SPoint} {a_0 : Option Addr} {n_0 c_0 : Nat} (g_0 : Rd w a_0 (eSPoint.fl q0)) (l_0 : q0.length = n_0) (k_0 : n_0 ≤ c_0) {r : Bool} (hres : sh110 q0 = some r) : Calls Go.Proofs.Try.prog 110 [.slice a_0 n_0 c_0].toArray w (Ret w (T110 r)) := by
  subst l_0
  unfold sh110 at hres
  refine calls_of (n := 29) (M := []) (es := []) Go.Proofs.Try.func110 rfl rfl rfl (Sep.nil _ _ _) ?_
  refine JX.seq ?_
  refine JX.region ?_
  refine JL.val (yl_assign rfl) rfl ?_
  refine JL.nil ?_
  refine JE.code ?_
  refine JX.seq ?_
  refine JX.seq ?_
  refine JX.region ?_
  refine JL.val (yl_assign rfl) rfl ?_
  refine JL.nil ?_
  refine JE.code ?_
  refine JX.block ?_
  obtain ⟨y1, hy1, hresO1⟩ := bind_some hres
  refine JX.loop (I := fun (s1 : Int) aa ww => St w [] 29 [(0, .slice a_0 q0.length c_0), (3, .int .i64 s1)] [] aa ww) (sh110_1 q0) hy1 (fun a w h => h.weak ⟨rfl, rfl, trivial⟩ [] (by decide) rfl) ?_
  rintro x1 o1 hres hox1 aa ww hS
  refine (?_ : JX Go.Proofs.Try.prog w [] 29 _ _ [(0, .slice a_0 q0.length c_0), (3, .int .i64 x1)] [] _) aa ww hS
  clear hS
  unfold sh110_1 at hres
  refine JX.seq ?_
  refine JX.seq ?_
  refine JX.region ?_
  refine JL.val (yl_move rfl) rfl ?_
  refine JL.val (yl_move rfl) rfl ?_
  refine JL.val (yl_len_slice Go.Proofs.Try.underlying34 rfl) rfl ?_
  refine JL.val (yl_lss rfl rfl) rfl ?_
  refine JL.nil ?_
  refine JE.weak (env' := [(0, .slice a_0 q0.length c_0), (3, .int .i64 x1), (7, .bool (decide (x1 < (q0.length : Int))))]) (es' := []) [] ?_ ⟨rfl, rfl, rfl, trivial⟩ (by decide) rfl
  refine JE.code ?_
  rcases cond_some hres with ⟨hb, hres⟩ | ⟨hb, hres⟩
  · refine JX.condT rfl hb ?_
    refine JX.skip ?_
    refine JE.code ?_
    refine JX.seq ?_
    refine JX.block ?_
    refine JX.seq ?_
    refine JX.region ?_
    refine JL.val (yl_move rfl) rfl ?_
    refine JL.val (yl_move rfl) rfl ?_
    obtain ⟨x2, hx2, hres⟩ := bind_some hres
    refine JL.val (yl_idxT Go.Proofs.Try.underlying34 i42 i42s rfl rfl hx2 rfl (fun w hC => rd_arg g_0 hC)) rfl ?_
    refine JL.val (yl_fieldAtT Go.Proofs.Try.underlying42 rfl i2 i2n rfl hx2 (fun w hC => rd_arg g_0 hC)) rfl ?_
    refine JL.val (yl_loadT1 Go.Proofs.Try.underlying2 rfl rfl hx2 (fun w hC => rd_arg g_0 hC) rfl) rfl ?_
    obtain ⟨x3, hx3, hres⟩ := bind_some hres
    refine JL.eff (ef_call (T := T100 x3) Go.Proofs.Try.func100 rfl (by kernel_rfl) rfl (fun w hC => c100  hx3)) rfl ?_
    rintro _ _ ⟨_, ⟨rfl, rfl⟩, rfl⟩
    refine JL.val (yl_not rfl) rfl ?_
    refine JL.val (yl_move rfl) rfl ?_
    obtain ⟨cb4, hcb4, hres⟩ := bind_some hres
    refine JL.cut (K := fun J => J [(0, .slice a_0 q0.length c_0), (3, .int .i64 x1), (25, .bool cb4)] []) 8 ?_ ?_
    · refine JL.nil ?_
      refine JE.weak (env' := [(0, .slice a_0 q0.length c_0), (3, .int .i64 x1), (25, .bool cb4)]) (es' := []) [] ?_ ⟨rfl, rfl, rfl, trivial⟩ (by decide) rfl
      refine JE.code ?_
      rcases cond_some hres with ⟨hb, hres⟩ | ⟨hb, hres⟩
      · refine JX.condT rfl hb ?_
        refine JX.seq ?_
        refine JX.region ?_
        refine JL.val (yl_assign rfl) rfl ?_
        refine JL.nil ?_
        refine JE.code ?_
        refine JX.ret ?_
        refine JE.qbr ?_
        refine JE.qbr ?_
        have hres := elimS_inr hresO1 (hox1 _ (Option.some.inj hres).symm)
        obtain rfl := Option.some.inj hres
        refine JE.ret (rs := [.tmp 2]) (vs := [.bool false]) rfl ⟨rfl, trivial⟩ ?_
        exact fun w' hb hs => ⟨_, _, ⟨rfl, rfl⟩, rfl, hb, hs.sel [] _ (by decide) rfl⟩
      · refine JX.condF rfl hb ?_
        refine JX.skip ?_
        refine JE.code ?_
        refine JX.region ?_
        refine JL.val (yl_move rfl) rfl ?_
        refine JL.val (yl_add rfl rfl) rfl ?_
        refine JL.val (yl_assign rfl) rfl ?_
        refine JL.nil ?_
        refine JE.cont hres ?_
        exact fun a w h => h.weak ⟨rfl, rfl, trivial⟩ [] (by decide) rfl
    · intro K
      rcases cond_some hcb4 with ⟨hb, hres⟩ | ⟨hb, hres⟩
      · refine JL.set (d := 17) (v := .bool true) (congrArg (fun b => some (Value.bool b)) hb) ?_
        refine JL.gskip rfl rfl rfl rfl ?_
        refine JL.gskip rfl rfl rfl rfl ?_
        refine JL.gskip rfl rfl rfl rfl ?_
        refine JL.gskip rfl rfl rfl rfl ?_
        refine JL.gskip rfl rfl rfl rfl ?_
        refine JL.gskip rfl rfl rfl rfl ?_
        refine JL.gskip rfl rfl rfl rfl ?_
        refine JL.val (yl_pick_true rfl rfl) rfl ?_
        have he := Option.some.inj hres
        exact JL.weak [] K ⟨rfl, rfl, (by rw [← he]; rfl), trivial⟩ (by decide) rfl
      · refine JL.set (d := 17) (v := .bool false) (congrArg (fun b => some (Value.bool b)) hb) ?_
        refine JL.gval rfl rfl (yl_move rfl) rfl ?_
        refine JL.gval rfl rfl (yl_move rfl) rfl ?_
        obtain ⟨x5, hx5, hres⟩ := bind_some hres
        refine JL.gval rfl rfl (yl_idxT Go.Proofs.Try.underlying34 i42 i42s rfl rfl hx5 rfl (fun w hC => rd_arg g_0 hC)) rfl ?_
        refine JL.gval rfl rfl (yl_fieldAtT Go.Proofs.Try.underlying42 rfl i2 i2n rfl hx5 (fun w hC => rd_arg g_0 hC)) rfl ?_
        refine JL.gval rfl rfl (yl_loadT1 Go.Proofs.Try.underlying2 rfl rfl hx5 (fun w hC => rd_arg g_0 hC) rfl) rfl ?_
        obtain ⟨x6, hx6, hres⟩ := bind_some hres
        refine JL.geff rfl rfl (ef_call (T := T100 x6) Go.Proofs.Try.func100 rfl (by kernel_rfl) rfl (fun w hC => c100  hx6)) rfl ?_
        rintro _ _ ⟨_, ⟨rfl, rfl⟩, rfl⟩
        refine JL.gval rfl rfl (yl_not rfl) rfl ?_
        refine JL.val (yl_pick_false rfl rfl) rfl ?_
        have he := Option.some.inj hres
        exact JL.weak [] K ⟨rfl, rfl, (by rw [← he]; rfl), trivial⟩ (by decide) rfl
  · refine JX.condF rfl hb ?_
    refine JX.exit ?_
    refine JE.qb rfl ?_
    obtain ⟨b1, hb1⟩ : ∃ b : Unit, b = () := ⟨_, rfl⟩
    have hy1 : Sum.inl b1 = y1 := by rw [hb1]; exact hox1 _ (Option.some.inj hres).symm
    have hres := elimS_inl hresO1 hy1
    refine JE.weak (env' := [(0, .slice a_0 q0.length c_0)]) (es' := []) [] ?_ ⟨(by subst hb1; rfl), trivial⟩ (by decide) (by subst hb1; rfl)
    refine JE.code ?_
    refine JX.seq ?_
    refine JX.region ?_
    refine JL.val (yl_move rfl) rfl ?_
    refine JL.val (yl_len_slice Go.Proofs.Try.underlying34 rfl) rfl ?_
    obtain ⟨x7, hx7, hres⟩ := bind_some hres
    refine JL.eff (ef_call (T := T100 x7) Go.Proofs.Try.func100 rfl (by kernel_rfl) rfl (fun w hC => c100  hx7)) rfl ?_
    rintro _ _ ⟨_, ⟨rfl, rfl⟩, rfl⟩
    refine JL.val (yl_assign rfl) rfl ?_
    refine JL.nil ?_
    refine JE.weak (env' := [(2, .bool x7)]) (es' := []) [] ?_ ⟨rfl, trivial⟩ (by decide) rfl
    refine JE.code ?_
    refine JX.ret ?_
    obtain rfl := Option.some.inj hres
    refine JE.ret (rs := [.tmp 2]) (vs := [.bool x7]) rfl ⟨rfl, trivial⟩ ?_
    exact fun w' hb hs => ⟨_, _, ⟨rfl, rfl⟩, rfl, hb, hs.sel [] _ (by decide) rfl⟩

/- spec.l20Number -/
def sh164 (q0 : ByteArray) : Option (Int × Bool) := Option.bind (bif !(q0.toList == (ByteArray.mk #[]).toList) then (Option.bind (getS q0 0) fun x2 => some (x2 == 45)) else (some false)) fun cb1 => (bif cb1 then (Option.bind (subS q0 1 (q0.size : Int)) fun x3 => Option.bind (sh210 x3) fun x4 => some (w64 (0 - x4.1), x4.2 && (decide (0 < x4.1)))) else (Option.bind (sh210 q0) fun x5 => some (x5.1, x5.2)))
def T164 (r : Int × Bool) (v : Value) (rs : List Own) : Prop := v = rets [.int .i64 r.1, .bool r.2] ∧ rs = []
set_option maxRecDepth 100000 in
theorem c164 {w : World} {q0 : ByteArray} {r : Int × Bool} (hres : sh164 q0 = some r) : Calls Go.Proofs.Try.prog 164 [.string q0].toArray w (Ret w (T164 r)) := by
  unfold sh164 at hres
  refine calls_of (n := 30) (M := []) (es := []) Go.Proofs.Try.func164 rfl rfl rfl (Sep.nil _ _ _) ?_
  refine JX.seq ?_
  refine JX.region ?_
  refine JL.val (yl_assign rfl) rfl ?_
  refine JL.val (yl_assign rfl) rfl ?_
  refine JL.nil ?_
  refine JE.code ?_
  refine JX.seq ?_
  refine JX.seq ?_
  refine JX.region ?_
  refine JL.val (yl_move rfl) rfl ?_
  refine JL.val (yl_sneq rfl rfl) rfl ?_
  refine JL.val (yl_move rfl) rfl ?_
  obtain ⟨cb1, hcb1, hres⟩ := bind_some hres
  refine JL.cut (K := fun J => J [(0, .string q0), (12, .bool cb1)] []) 4 ?_ ?_
  · refine JL.nil ?_
    refine JE.weak (env' := [(0, .string q0), (12, .bool cb1)]) (es' := []) [] ?_ ⟨rfl, rfl, trivial⟩ (by decide) rfl
    refine JE.code ?_
    rcases cond_some hres with ⟨hb, hres⟩ | ⟨hb, hres⟩
    · refine JX.condT rfl hb ?_
      refine JX.seq ?_
      refine JX.region ?_
      refine JL.val (yl_move rfl) rfl ?_
      obtain ⟨x3, hx3, hres⟩ := bind_some hres
      refine JL.val (yl_subSl Go.Proofs.Try.underlying9 rfl rfl hx3) rfl ?_
      obtain ⟨x4, hx4, hres⟩ := bind_some hres
      refine JL.eff (ef_call (T := T210 x4) Go.Proofs.Try.func210 rfl (by kernel_rfl) rfl (fun w hC => c210  hx4)) rfl ?_
      rintro _ _ ⟨_, ⟨rfl, rfl⟩, rfl⟩
      refine JL.val (yl_move rfl) rfl ?_
      refine JL.val (yl_extract rfl rfl) rfl ?_
      refine JL.val (yl_extract rfl rfl) rfl ?_
      refine JL.val (yl_assign rfl) rfl ?_
      refine JL.val (yl_assign rfl) rfl ?_
      refine JL.nil ?_
      refine JE.weak (env' := [(4, .int .i64 x4.1), (5, .bool x4.2)]) (es' := []) [] ?_ ⟨rfl, rfl, trivial⟩ (by decide) rfl
      refine JE.code ?_
      refine JX.seq ?_
      refine JX.region ?_
      refine JL.val (yl_move rfl) rfl ?_
      refine JL.val (yl_neg rfl) rfl ?_
      refine JL.val (yl_move rfl) rfl ?_
      refine JL.val (yl_move rfl) rfl ?_
      refine JL.cut (K := fun J => J [(20, .int .i64 (w64 (0 - x4.1))), (25, .bool (x4.2 && (decide (0 < x4.1))))] []) 3 ?_ ?_
      · refine JL.val (yl_assign rfl) rfl ?_
        refine JL.val (yl_assign rfl) rfl ?_
        refine JL.nil ?_
        refine JE.weak (env' := [(2, .int .i64 (w64 (0 - x4.1))), (3, .bool (x4.2 && (decide (0 < x4.1))))]) (es' := []) [] ?_ ⟨rfl, rfl, trivial⟩ (by decide) rfl
        refine JE.code ?_
        refine JX.ret ?_
        obtain rfl := Option.some.inj hres
        refine JE.ret (rs := [.tmp 2, .tmp 3]) (vs := [.int .i64 (w64 (0 - x4.1)), .bool (x4.2 && (decide (0 < x4.1)))]) rfl ⟨rfl, rfl, trivial⟩ ?_
        exact fun w' hb hs => ⟨_, _, ⟨rfl, rfl⟩, rfl, hb, hs.sel [] _ (by decide) rfl⟩
      · intro K
        rcases Bool.eq_false_or_eq_true (x4.2) with hb | hb
        · refine JL.set (d := 22) (v := .bool true) (congrArg (fun b => some (Value.bool b)) hb) ?_
          refine JL.gval rfl rfl (yl_move rfl) rfl ?_
          refine JL.gval rfl rfl (yl_gtr rfl rfl) rfl ?_
          refine JL.val (yl_pick_true rfl rfl) rfl ?_
          exact JL.weak [] K ⟨rfl, (by rw [hb]; rfl), trivial⟩ (by decide) rfl
        · refine JL.set (d := 22) (v := .bool false) (congrArg (fun b => some (Value.bool b)) hb) ?_
          refine JL.gskip rfl rfl rfl rfl ?_
          refine JL.gskip rfl rfl rfl rfl ?_
          refine JL.val (yl_pick_false rfl rfl) rfl ?_
          exact JL.weak [] K ⟨rfl, (by rw [hb]; rfl), trivial⟩ (by decide) rfl
    · refine JX.condF rfl hb ?_
      refine JX.skip ?_
      refine JE.code ?_
      refine JX.seq ?_
      refine JX.region ?_
      refine JL.val (yl_move rfl) rfl ?_
      obtain ⟨x5, hx5, hres⟩ := bind_some hres
      refine JL.eff (ef_call (T := T210 x5) Go.Proofs.Try.func210 rfl (by kernel_rfl) rfl (fun w hC => c210  hx5)) rfl ?_
      rintro _ _ ⟨_, ⟨rfl, rfl⟩, rfl⟩
      refine JL.val (yl_extract rfl rfl) rfl ?_
      refine JL.val (yl_extract rfl rfl) rfl ?_
      refine JL.val (yl_assign rfl) rfl ?_
      refine JL.val (yl_assign rfl) rfl ?_
      refine JL.nil ?_
      refine JE.weak (env' := [(2, .int .i64 x5.1), (3, .bool x5.2)]) (es' := []) [] ?_ ⟨rfl, rfl, trivial⟩ (by decide) rfl
      refine JE.code ?_
      refine JX.ret ?_
      obtain rfl := Option.some.inj hres
      refine JE.ret (rs := [.tmp 2, .tmp 3]) (vs := [.int .i64 x5.1, .bool x5.2]) rfl ⟨rfl, rfl, trivial⟩ ?_
      exact fun w' hb hs => ⟨_, _, ⟨rfl, rfl⟩, rfl, hb, hs.sel [] _ (by decide) rfl⟩
  · intro K
    rcases cond_some hcb1 with ⟨hb, hres⟩ | ⟨hb, hres⟩
    · refine JL.set (d := 8) (v := .bool true) (congrArg (fun b => some (Value.bool b)) hb) ?_
      refine JL.gval rfl rfl (yl_move rfl) rfl ?_
      obtain ⟨x2, hx2, hres⟩ := bind_some hres
      refine JL.gval rfl rfl (yl_getS Go.Proofs.Try.underlying9 rfl rfl hx2) rfl ?_
      refine JL.gval rfl rfl (yl_eql rfl rfl) rfl ?_
      refine JL.val (yl_pick_true rfl rfl) rfl ?_
      have he := Option.some.inj hres
      exact JL.weak [] K ⟨rfl, (by rw [← he]; rfl), trivial⟩ (by decide) rfl
    · refine JL.set (d := 8) (v := .bool false) (congrArg (fun b => some (Value.bool b)) hb) ?_
      refine JL.gskip rfl rfl rfl rfl ?_
      refine JL.gskip rfl rfl rfl rfl ?_
      refine JL.gskip rfl rfl rfl rfl ?_
      refine JL.val (yl_pick_false rfl rfl) rfl ?_
      have he := Option.some.inj hres
      exact JL.weak [] K ⟨rfl, (by rw [← he]; rfl), trivial⟩ (by decide) rfl

/- spec.ReadPath -/
def sh87_1 (x1 : List ByteArray) : (Int × List SPoint) → Option ((Int × List SPoint) ⊕ ((List SPoint) ⊕ (List SPoint × Bool)))
  | (x12, x13) => bif decide ((w64 (x12 + 3)) < (x1.length : Int)) then (Option.bind (getI x1 (w64 (x12 + 1))) fun x16 => Option.bind (sh164 x16) fun x17 => Option.bind (getI x1 (w64 (x12 + 2))) fun x18 => Option.bind (sh164 x18) fun x19 => bif !x17.2 || !x19.2 then (some (.inr (.inr (([] : List SPoint), false)))) else (Option.bind (appL x13 [SPoint.mk x17.1 x19.1]) fun x23 => some (.inl (w64 (x12 + 3), x23)))) else (some (.inr (.inl x13)))
def sh87 (q0 : ByteArray) : Option (List SPoint × Bool) := Option.bind (sh163 q0 32) fun x1 => Option.bind (bif ((x1.length : Int).tmod 3) != 1 then (some true) else (Option.bind (getI x1 (w64 ((x1.length : Int) - 1))) fun x6 => some (!(x6.toList == (ByteArray.mk #[90]).toList)))) fun cb5 => (bif cb5 then (some (([] : List SPoint), false)) else (Option.bind (iter (sh87_1 x1) (0, ([] : List SPoint))) fun y1 => elimS y1 (fun r => some r) fun b1 => (Option.bind (sh110 b1) fun x28 => Option.bind (bif !x28 then (some true) else (Option.bind (sh171 b1) fun x30 => some (!(x30.toList == q0.toList)))) fun cb29 => (bif cb29 then (some (([] : List SPoint), false)) else (some (b1, true))))))
def T87 (r : List SPoint × Bool) (v : Value) (rs : List Own) : Prop := ∃ (a0 : Option Addr) (n0 c0 : Nat), r.1.length = n0 ∧ v = rets [.slice a0 n0 c0, .bool r.2] ∧ rs = [rowT 42 eSPoint a0 n0 c0 r.1]
set_option maxRecDepth 100000 in
set_option maxHeartbeats 1000000 in
theorem c87 {w : World} {q0 : ByteArray} {r : List SPoint × Bool} (hres : sh87 q0 = some r) : Calls Go.Proofs.Try.prog 87 [.string q0].toArray w (Ret w (T87 r)) := by
  unfold sh87 at hres
  refine calls_of (n := 74) (M := []) (es := []) Go.Proofs.Try.func87 rfl rfl rfl (Sep.nil _ _ _) ?_
  refine JX.seq ?_
  refine JX.region ?_
  refine JL.val (yl_assign rfl) rfl ?_
  refine JL.val (yl_assign rfl) rfl ?_
  refine JL.nil ?_
  refine JE.code ?_
  refine JX.seq ?_
  refine JX.region ?_
  refine JL.val (yl_move rfl) rfl ?_
  obtain ⟨x1, hx1, hres⟩ := bind_some hres
  refine JL.eff (ef_call (T := T163 x1) Go.Proofs.Try.func163 rfl (by kernel_rfl) rfl (fun w hC => c163  hx1)) rfl ?_
  rintro _ _ ⟨_, ⟨a2, _, cp3, rfl, rfl, rfl⟩, rfl⟩
  refine JL.val (yl_assign rfl) rfl ?_
  refine JL.nil ?_
  refine JE.code ?_
  refine JX.seq ?_
  refine JX.seq ?_
  refine JX.region ?_
  refine JL.val (yl_move rfl) rfl ?_
  refine JL.val (yl_len_slice Go.Proofs.Try.underlying150 rfl) rfl ?_
  refine JL.val (yl_rem rfl rfl (by decide)) rfl ?_
  refine JL.val (yl_neq rfl rfl) rfl ?_
  refine JL.val (yl_move rfl) rfl ?_
  obtain ⟨cb5, hcb5, hres⟩ := bind_some hres
  refine JL.cut (K := fun J => J [(0, .string q0), (4, .slice a2 x1.length cp3), (25, .bool cb5)] [rowT 9 eStr a2 x1.length cp3 x1]) 8 ?_ ?_
  · refine JL.nil ?_
    refine JE.weak (env' := [(0, .string q0), (4, .slice a2 x1.length cp3), (25, .bool cb5)]) (es' := [rowT 9 eStr a2 x1.length cp3 x1]) [0] ?_ ⟨rfl, rfl, rfl, trivial⟩ (by decide) rfl
    refine JE.code ?_
    rcases cond_some hres with ⟨hb, hres⟩ | ⟨hb, hres⟩
    · refine JX.condT rfl hb ?_
      refine JX.seq ?_
      refine JX.region ?_
      refine JL.val (yl_assign rfl) rfl ?_
      refine JL.val (yl_assign rfl) rfl ?_
      refine JL.nil ?_
      refine JE.weak (env' := [(2, .slice none 0 0), (3, .bool false)]) (es' := []) [] ?_ ⟨rfl, rfl, trivial⟩ (by decide) rfl
      refine JE.code ?_
      refine JX.ret ?_
      refine JE.nilrow 42 eSPoint ?_
      obtain rfl := Option.some.inj hres
      refine JE.ret (rs := [.tmp 2, .tmp 3]) (vs := [.slice none 0 0, .bool false]) rfl ⟨rfl, rfl, trivial⟩ ?_
      exact fun w' hb hs => ⟨_, _, ⟨none, 0, 0, rfl, rfl, rfl⟩, rfl, hb, hs.sel [0] _ (by decide) rfl⟩
    · refine JX.condF rfl hb ?_
      refine JX.skip ?_
      refine JE.code ?_
      refine JX.seq ?_
      refine JX.region ?_
      refine JL.eff (ef_buildSlice (E := 42) (k := eSPoint.k) (us := eSPoint.fl ([] : List SPoint)) rfl (fun w => bsl34_0  w) rfl (by decide)) rfl ?_
      rintro _ _ ⟨a8, rfl, rfl⟩
      refine JL.val (yl_assign rfl) rfl ?_
      refine JL.nil ?_
      refine JE.code ?_
      refine JX.seq ?_
      refine JX.seq ?_
      refine JX.region ?_
      refine JL.val (yl_assign rfl) rfl ?_
      refine JL.nil ?_
      refine JE.code ?_
      refine JX.block ?_
      obtain ⟨y1, hy1, hresO1⟩ := bind_some hres
      refine JX.loop (I := fun (s1 : Int × List SPoint) aa ww => ∃ (a10 : Option Addr) (cp11 : Nat), St w [] 74 [(0, .string q0), (4, .slice a2 x1.length cp3), (5, .slice a10 s1.2.length cp11), (6, .int .i64 s1.1)] [rowT 9 eStr a2 x1.length cp3 x1, rowT 42 eSPoint a10 s1.2.length cp11 s1.2] aa ww) (sh87_1 x1) hy1 (fun a w h => ⟨a8, 0, h.weak ⟨rfl, rfl, rfl, rfl, trivial⟩ [0, 1] (by decide) rfl⟩) ?_
      rintro ⟨x12, x13⟩ o1 hres hox1 aa ww ⟨a14, cp15, hS⟩
      refine (?_ : JX Go.Proofs.Try.prog w [] 74 _ _ [(0, .string q0), (4, .slice a2 x1.length cp3), (5, .slice a14 x13.length cp15), (6, .int .i64 x12)] [rowT 9 eStr a2 x1.length cp3 x1, rowT 42 eSPoint a14 x13.length cp15 x13] _) aa ww hS
      clear hS
      simp only [sh87_1] at hres
      refine JX.seq ?_
      refine JX.seq ?_
      refine JX.region ?_
      refine JL.val (yl_move rfl) rfl ?_
      refine JL.val (yl_add rfl rfl) rfl ?_
      refine JL.val (yl_move rfl) rfl ?_
      refine JL.val (yl_len_slice Go.Proofs.Try.underlying150 rfl) rfl ?_
      refine JL.val (yl_lss rfl rfl) rfl ?_
      refine JL.nil ?_
      refine JE.weak (env' := [(0, .string q0), (4, .slice a2 x1.length cp3), (5, .slice a14 x13.length cp15), (6, .int .i64 x12), (31, .bool (decide ((w64 (x12 + 3)) < (x1.length : Int))))]) (es' := [rowT 9 eStr a2 x1.length cp3 x1, rowT 42 eSPoint a14 x13.length cp15 x13]) [0, 1] ?_ ⟨rfl, rfl, rfl, rfl, rfl, trivial⟩ (by decide) rfl
      refine JE.code ?_
      rcases cond_some hres with ⟨hb, hres⟩ | ⟨hb, hres⟩
      · refine JX.condT rfl hb ?_
        refine JX.skip ?_
        refine JE.code ?_
        refine JX.seq ?_
        refine JX.block ?_
        refine JX.seq ?_
        refine JX.region ?_
        refine JL.val (yl_move rfl) rfl ?_
        refine JL.val (yl_move rfl) rfl ?_
        refine JL.val (yl_add rfl rfl) rfl ?_
        obtain ⟨x16, hx16, hres⟩ := bind_some hres
        refine JL.val (yl_idxT Go.Proofs.Try.underlying150 i9 i9s rfl rfl hx16 rfl (fun w hC => rd_row hC 0 rfl)) rfl ?_
        refine JL.val (yl_loadT0 Go.Proofs.Try.underlying9 rfl rfl hx16 (fun w hC => rd_row hC 0 rfl) rfl) rfl ?_
        obtain ⟨x17, hx17, hres⟩ := bind_some hres
        refine JL.eff (ef_call (T := T164 x17) Go.Proofs.Try.func164 rfl (by kernel_rfl) rfl (fun w hC => c164  hx17)) rfl ?_
        rintro _ _ ⟨_, ⟨rfl, rfl⟩, rfl⟩
        refine JL.val (yl_move rfl) rfl ?_
        refine JL.val (yl_extract rfl rfl) rfl ?_
        refine JL.val (yl_extract rfl rfl) rfl ?_
        refine JL.val (yl_assign rfl) rfl ?_
        refine JL.val (yl_assign rfl) rfl ?_
        refine JL.nil ?_
        refine JE.weak (env' := [(0, .string q0), (4, .slice a2 x1.length cp3), (5, .slice a14 x13.length cp15), (6, .int .i64 x12), (7, .int .i64 x17.1), (8, .bool x17.2)]) (es' := [rowT 9 eStr a2 x1.length cp3 x1, rowT 42 eSPoint a14 x13.length cp15 x13]) [0, 1] ?_ ⟨rfl, rfl, rfl, rfl, rfl, rfl, trivial⟩ (by decide) rfl
        refine JE.code ?_
        refine JX.seq ?_
        refine JX.region ?_
        refine JL.val (yl_move rfl) rfl ?_
        refine JL.val (yl_move rfl) rfl ?_
        refine JL.val (yl_add rfl rfl) rfl ?_
        obtain ⟨x18, hx18, hres⟩ := bind_some hres
        refine JL.val (yl_idxT Go.Proofs.Try.underlying150 i9 i9s rfl rfl hx18 rfl (fun w hC => rd_row hC 0 rfl)) rfl ?_
        refine JL.val (yl_loadT0 Go.Proofs.Try.underlying9 rfl rfl hx18 (fun w hC => rd_row hC 0 rfl) rfl) rfl ?_
        obtain ⟨x19, hx19, hres⟩ := bind_some hres
        refine JL.eff (ef_call (T := T164 x19) Go.Proofs.Try.func164 rfl (by kernel_rfl) rfl (fun w hC => c164  hx19)) rfl ?_
        rintro _ _ ⟨_, ⟨rfl, rfl⟩, rfl⟩
        refine JL.val (yl_move rfl) rfl ?_
        refine JL.val (yl_extract rfl rfl) rfl ?_
        refine JL.val (yl_extract rfl rfl) rfl ?_
        refine JL.val (yl_assign rfl) rfl ?_
        refine JL.val (yl_assign rfl) rfl ?_
        refine JL.nil ?_
        refine JE.weak (env' := [(0, .string q0), (4, .slice a2 x1.length cp3), (5, .slice a14 x13.length cp15), (6, .int .i64 x12), (7, .int .i64 x17.1), (8, .bool x17.2), (9, .int .i64 x19.1), (10, .bool x19.2)]) (es' := [rowT 9 eStr a2 x1.length cp3 x1, rowT 42 eSPoint a14 x13.length cp15 x13]) [0, 1] ?_ ⟨rfl, rfl, rfl, rfl, rfl, rfl, rfl, rfl, trivial⟩ (by decide) rfl
        refine JE.code ?_
        refine JX.seq ?_
        refine JX.seq ?_
        refine JX.region ?_
        refine JL.val (yl_move rfl) rfl ?_
        refine JL.val (yl_not rfl) rfl ?_
        refine JL.val (yl_move rfl) rfl ?_
        refine JL.cut (K := fun J => J [(0, .string q0), (4, .slice a2 x1.length cp3), (5, .slice a14 x13.length cp15), (6, .int .i64 x12), (7, .int .i64 x17.1), (9, .int .i64 x19.1), (57, .bool (!x17.2 || !x19.2))] [rowT 9 eStr a2 x1.length cp3 x1, rowT 42 eSPoint a14 x13.length cp15 x13]) 3 ?_ ?_
        · refine JL.nil ?_
          refine JE.weak (env' := [(0, .string q0), (4, .slice a2 x1.length cp3), (5, .slice a14 x13.length cp15), (6, .int .i64 x12), (7, .int .i64 x17.1), (9, .int .i64 x19.1), (57, .bool (!x17.2 || !x19.2))]) (es' := [rowT 9 eStr a2 x1.length cp3 x1, rowT 42 eSPoint a14 x13.length cp15 x13]) [0, 1] ?_ ⟨rfl, rfl, rfl, rfl, rfl, rfl, rfl, trivial⟩ (by decide) rfl
          refine JE.code ?_
          rcases cond_some hres with ⟨hb, hres⟩ | ⟨hb, hres⟩
          · refine JX.condT rfl hb ?_
            refine JX.seq ?_
            refine JX.region ?_
            refine JL.val (yl_assign rfl) rfl ?_
            refine JL.val (yl_assign rfl) rfl ?_
            refine JL.nil ?_
            refine JE.weak (env' := [(2, .slice none 0 0), (3, .bool false)]) (es' := []) [] ?_ ⟨rfl, rfl, trivial⟩ (by decide) rfl
            refine JE.code ?_
            refine JX.ret ?_
            refine JE.qbr ?_
            refine JE.qbr ?_
            refine JE.nilrow 42 eSPoint ?_
            have hres := elimS_inr hresO1 (hox1 _ (Option.some.inj hres).symm)
            obtain rfl := Option.some.inj hres
            refine JE.ret (rs := [.tmp 2, .tmp 3]) (vs := [.slice none 0 0, .bool false]) rfl ⟨rfl, rfl, trivial⟩ ?_
            exact fun w' hb hs => ⟨_, _, ⟨none, 0, 0, rfl, rfl, rfl⟩, rfl, hb, hs.sel [0] _ (by decide) rfl⟩
          · refine JX.condF rfl hb ?_
            refine JX.skip ?_
            refine JE.code ?_
            refine JX.region ?_
            refine JL.val (yl_move rfl) rfl ?_
            refine JL.val (yl_move rfl) rfl ?_
            refine JL.val (yl_move rfl) rfl ?_
            refine JL.val (yl_build rfl (fun w => bld42_0_1 x17.1 x19.1 w)) rfl ?_
            refine JL.eff (ef_buildSlice (E := 42) (k := eSPoint.k) (us := eSPoint.fl [SPoint.mk x17.1 x19.1]) rfl (fun w => bsl34_1 x17.1 x19.1 w) rfl (by decide)) rfl ?_
            rintro _ _ ⟨a21, rfl, rfl⟩
            obtain ⟨x23, hx23, hres⟩ := bind_some hres
            refine JL.eff (ef_appendT (ix := 1) Go.Proofs.Try.underlying34 i42 i42z i42s rfl i42b0 i42b1 rfl rfl rfl rfl rfl (fun w hC => rd_row hC 2 rfl) hx23) rfl ?_
            rintro _ _ ⟨a24, cp25, rfl, rfl⟩
            refine JL.val (yl_assign rfl) rfl ?_
            refine JL.nil ?_
            refine JE.weak (env' := [(0, .string q0), (4, .slice a2 x1.length cp3), (5, .slice a24 x23.length cp25), (6, .int .i64 x12)]) (es' := [rowT 9 eStr a2 x1.length cp3 x1, rowT 42 eSPoint a24 x23.length cp25 x23]) [0, 1] ?_ ⟨rfl, rfl, rfl, rfl, trivial⟩ (by decide) rfl
            refine JE.code ?_
            refine JX.region ?_
            refine JL.val (yl_move rfl) rfl ?_
            refine JL.val (yl_add rfl rfl) rfl ?_
            refine JL.val (yl_assign rfl) rfl ?_
            refine JL.nil ?_
            refine JE.cont hres ?_
            exact fun a w h => ⟨a24, cp25, h.weak ⟨rfl, rfl, rfl, rfl, trivial⟩ [0, 1] (by decide) rfl⟩
        · intro K
          rcases Bool.eq_false_or_eq_true (!x17.2) with hb | hb
          · refine JL.set (d := 54) (v := .bool true) (congrArg (fun b => some (Value.bool b)) hb) ?_
            refine JL.gskip rfl rfl rfl rfl ?_
            refine JL.gskip rfl rfl rfl rfl ?_
            refine JL.val (yl_pick_true rfl rfl) rfl ?_
            exact JL.weak [0, 1] K ⟨rfl, rfl, rfl, rfl, rfl, rfl, (by rw [hb]; rfl), trivial⟩ (by decide) rfl
          · refine JL.set (d := 54) (v := .bool false) (congrArg (fun b => some (Value.bool b)) hb) ?_
            refine JL.gval rfl rfl (yl_move rfl) rfl ?_
            refine JL.gval rfl rfl (yl_not rfl) rfl ?_
            refine JL.val (yl_pick_false rfl rfl) rfl ?_
            exact JL.weak [0, 1] K ⟨rfl, rfl, rfl, rfl, rfl, rfl, (by rw [hb]; rfl), trivial⟩ (by decide) rfl
      · refine JX.condF rfl hb ?_
        refine JX.exit ?_
        refine JE.qb rfl ?_
        obtain ⟨b1, hb1⟩ : ∃ b : List SPoint, b = x13 := ⟨_, rfl⟩
        have hy1 : Sum.inl b1 = y1 := by rw [hb1]; exact hox1 _ (Option.some.inj hres).symm
        have hres := elimS_inl hresO1 hy1
        refine JE.weak (env' := [(0, .string q0), (5, .slice a14 b1.length cp15)]) (es' := [rowT 42 eSPoint a14 b1.length cp15 b1]) [1] ?_ ⟨(by subst hb1; rfl), (by subst hb1; rfl), trivial⟩ (by decide) (by subst hb1; rfl)
        refine JE.code ?_
        refine JX.seq ?_
        refine JX.seq ?_
        refine JX.region ?_
        refine JL.val (yl_move rfl) rfl ?_
        obtain ⟨x28, hx28, hres⟩ := bind_some hres
        refine JL.eff (ef_call (T := T110 x28) Go.Proofs.Try.func110 rfl (by kernel_rfl) rfl (fun w hC => c110 (rd_row hC 0 rfl) rfl (ln_row hC 0 rfl) hx28)) rfl ?_
        rintro _ _ ⟨_, ⟨rfl, rfl⟩, rfl⟩
        refine JL.val (yl_not rfl) rfl ?_
        refine JL.val (yl_move rfl) rfl ?_
        obtain ⟨cb29, hcb29, hres⟩ := bind_some hres
        refine JL.cut (K := fun J => J [(5, .slice a14 b1.length cp15), (72, .bool cb29)] [rowT 42 eSPoint a14 b1.length cp15 b1]) 5 ?_ ?_
        · refine JL.nil ?_
          refine JE.weak (env' := [(5, .slice a14 b1.length cp15), (72, .bool cb29)]) (es' := [rowT 42 eSPoint a14 b1.length cp15 b1]) [0] ?_ ⟨rfl, rfl, trivial⟩ (by decide) rfl
          refine JE.code ?_
          rcases cond_some hres with ⟨hb, hres⟩ | ⟨hb, hres⟩
          · refine JX.condT rfl hb ?_
            refine JX.seq ?_
            refine JX.region ?_
            refine JL.val (yl_assign rfl) rfl ?_
            refine JL.val (yl_assign rfl) rfl ?_
            refine JL.nil ?_
            refine JE.weak (env' := [(2, .slice none 0 0), (3, .bool false)]) (es' := []) [] ?_ ⟨rfl, rfl, trivial⟩ (by decide) rfl
            refine JE.code ?_
            refine JX.ret ?_
            refine JE.nilrow 42 eSPoint ?_
            obtain rfl := Option.some.inj hres
            refine JE.ret (rs := [.tmp 2, .tmp 3]) (vs := [.slice none 0 0, .bool false]) rfl ⟨rfl, rfl, trivial⟩ ?_
            exact fun w' hb hs => ⟨_, _, ⟨none, 0, 0, rfl, rfl, rfl⟩, rfl, hb, hs.sel [0] _ (by decide) rfl⟩
          · refine JX.condF rfl hb ?_
            refine JX.skip ?_
            refine JE.code ?_
            refine JX.seq ?_
            refine JX.region ?_
            refine JL.val (yl_move rfl) rfl ?_
            refine JL.val (yl_assign rfl) rfl ?_
            refine JL.val (yl_assign rfl) rfl ?_
            refine JL.nil ?_
            refine JE.code ?_
            refine JX.ret ?_
            obtain rfl := Option.some.inj hres
            refine JE.ret (rs := [.tmp 2, .tmp 3]) (vs := [.slice a14 b1.length cp15, .bool true]) rfl ⟨rfl, rfl, trivial⟩ ?_
            exact fun w' hb hs => ⟨_, _, ⟨a14, b1.length, cp15, rfl, rfl, rfl⟩, rfl, hb, hs.sel [0] _ (by decide) rfl⟩
        · intro K
          rcases cond_some hcb29 with ⟨hb, hres⟩ | ⟨hb, hres⟩
          · refine JL.set (d := 67) (v := .bool true) (congrArg (fun b => some (Value.bool b)) hb) ?_
            refine JL.gskip rfl rfl rfl rfl ?_
            refine JL.gskip rfl rfl rfl rfl ?_
            refine JL.gskip rfl rfl rfl rfl ?_
            refine JL.gskip rfl rfl rfl rfl ?_
            refine JL.val (yl_pick_true rfl rfl) rfl ?_
            have he := Option.some.inj hres
            exact JL.weak [0] K ⟨rfl, (by rw [← he]; rfl), trivial⟩ (by decide) rfl
          · refine JL.set (d := 67) (v := .bool false) (congrArg (fun b => some (Value.bool b)) hb) ?_
            refine JL.gval rfl rfl (yl_move rfl) rfl ?_
            obtain ⟨x30, hx30, hres⟩ := bind_some hres
            refine JL.geff rfl rfl (ef_call (T := T171 x30) Go.Proofs.Try.func171 rfl (by kernel_rfl) rfl (fun w hC => c171 (rd_row hC 0 rfl) rfl (ln_row hC 0 rfl) hx30)) rfl ?_
            rintro _ _ ⟨_, ⟨rfl, rfl⟩, rfl⟩
            refine JL.gval rfl rfl (yl_move rfl) rfl ?_
            refine JL.gval rfl rfl (yl_sneq rfl rfl) rfl ?_
            refine JL.val (yl_pick_false rfl rfl) rfl ?_
            have he := Option.some.inj hres
            exact JL.weak [0] K ⟨rfl, (by rw [← he]; rfl), trivial⟩ (by decide) rfl
  · intro K
    rcases cond_some hcb5 with ⟨hb, hres⟩ | ⟨hb, hres⟩
    · refine JL.set (d := 17) (v := .bool true) (congrArg (fun b => some (Value.bool b)) hb) ?_
      refine JL.gskip rfl rfl rfl rfl ?_
      refine JL.gskip rfl rfl rfl rfl ?_
      refine JL.gskip rfl rfl rfl rfl ?_
      refine JL.gskip rfl rfl rfl rfl ?_
      refine JL.gskip rfl rfl rfl rfl ?_
      refine JL.gskip rfl rfl rfl rfl ?_
      refine JL.gskip rfl rfl rfl rfl ?_
      refine JL.val (yl_pick_true rfl rfl) rfl ?_
      have he := Option.some.inj hres
      exact JL.weak [0] K ⟨rfl, rfl, (by rw [← he]; rfl), trivial⟩ (by decide) rfl
    · refine JL.set (d := 17) (v := .bool false) (congrArg (fun b => some (Value.bool b)) hb) ?_
      refine JL.gval rfl rfl (yl_move rfl) rfl ?_
      refine JL.gval rfl rfl (yl_move rfl) rfl ?_
      refine JL.gval rfl rfl (yl_len_slice Go.Proofs.Try.underlying150 rfl) rfl ?_
      refine JL.gval rfl rfl (yl_sub rfl rfl) rfl ?_
      obtain ⟨x6, hx6, hres⟩ := bind_some hres
      refine JL.gval rfl rfl (yl_idxT Go.Proofs.Try.underlying150 i9 i9s rfl rfl hx6 rfl (fun w hC => rd_row hC 0 rfl)) rfl ?_
      refine JL.gval rfl rfl (yl_loadT0 Go.Proofs.Try.underlying9 rfl rfl hx6 (fun w hC => rd_row hC 0 rfl) rfl) rfl ?_
      refine JL.gval rfl rfl (yl_sneq rfl rfl) rfl ?_
      refine JL.val (yl_pick_false rfl rfl) rfl ?_
      have he := Option.some.inj hres
      exact JL.weak [0] K ⟨rfl, rfl, (by rw [← he]; rfl), trivial⟩ (by decide) rfl

/- spec.StrokeText -/
def sh88 (q0 : List SPoint) : Option (ByteArray) := Option.bind (sh130 q0) fun x1 => bif !x1 then (some (ByteArray.mk #[])) else (Option.bind (sh168 q0) fun x2 => some x2)
def T88 (r : ByteArray) (v : Value) (rs : List Own) : Prop := v = rets [.string r] ∧ rs = []
set_option maxRecDepth 100000 in
theorem c88 {w : World} {q0 : List SPoint} {a_0 : Option Addr} {n_0 c_0 : Nat} (g_0 : Rd w a_0 (eSPoint.fl q0)) (l_0 : q0.length = n_0) (k_0 : n_0 ≤ c_0) {r : ByteArray} (hres : sh88 q0 = some r) : Calls Go.Proofs.Try.prog 88 [.slice a_0 n_0 c_0].toArray w (Ret w (T88 r)) := by
  subst l_0
  unfold sh88 at hres
  refine calls_of (n := 8) (M := []) (es := []) Go.Proofs.Try.func88 rfl rfl rfl (Sep.nil _ _ _) ?_
  refine JX.seq ?_
  refine JX.region ?_
  refine JL.val (yl_assign rfl) rfl ?_
  refine JL.nil ?_
  refine JE.code ?_
  refine JX.seq ?_
  refine JX.seq ?_
  refine JX.region ?_
  refine JL.val (yl_move rfl) rfl ?_
  obtain ⟨x1, hx1, hres⟩ := bind_some hres
  refine JL.eff (ef_call (T := T130 x1) Go.Proofs.Try.func130 rfl (by kernel_rfl) rfl (fun w hC => c130 (rd_arg g_0 hC) rfl k_0 hx1)) rfl ?_
  rintro _ _ ⟨_, ⟨rfl, rfl⟩, rfl⟩
  refine JL.val (yl_not rfl) rfl ?_
  refine JL.nil ?_
  refine JE.code ?_
  rcases cond_some hres with ⟨hb, hres⟩ | ⟨hb, hres⟩
  · refine JX.condT rfl hb ?_
    refine JX.seq ?_
    refine JX.region ?_
    refine JL.val (yl_assign rfl) rfl ?_
    refine JL.nil ?_
    refine JE.code ?_
    refine JX.ret ?_
    obtain rfl := Option.some.inj hres
    refine JE.ret (rs := [.tmp 2]) (vs := [.string (ByteArray.mk #[])]) rfl ⟨rfl, trivial⟩ ?_
    exact fun w' hb hs => ⟨_, _, ⟨rfl, rfl⟩, rfl, hb, hs.sel [] _ (by decide) rfl⟩
  · refine JX.condF rfl hb ?_
    refine JX.skip ?_
    refine JE.code ?_
    refine JX.seq ?_
    refine JX.region ?_
    refine JL.val (yl_move rfl) rfl ?_
    obtain ⟨x2, hx2, hres⟩ := bind_some hres
    refine JL.eff (ef_call (T := T168 x2) Go.Proofs.Try.func168 rfl (by kernel_rfl) rfl (fun w hC => c168 (rd_arg g_0 hC) rfl k_0 hx2)) rfl ?_
    rintro _ _ ⟨_, ⟨rfl, rfl⟩, rfl⟩
    refine JL.val (yl_assign rfl) rfl ?_
    refine JL.nil ?_
    refine JE.code ?_
    refine JX.ret ?_
    obtain rfl := Option.some.inj hres
    refine JE.ret (rs := [.tmp 2]) (vs := [.string x2]) rfl ⟨rfl, trivial⟩ ?_
    exact fun w' hb hs => ⟨_, _, ⟨rfl, rfl⟩, rfl, hb, hs.sel [] _ (by decide) rfl⟩

/- spec.PathText -/
def sh89 (q0 : List SPoint) : Option (ByteArray) := Option.bind (sh110 q0) fun x1 => bif !x1 then (some (ByteArray.mk #[])) else (Option.bind (sh171 q0) fun x2 => some x2)
def T89 (r : ByteArray) (v : Value) (rs : List Own) : Prop := v = rets [.string r] ∧ rs = []
set_option maxRecDepth 100000 in
theorem c89 {w : World} {q0 : List SPoint} {a_0 : Option Addr} {n_0 c_0 : Nat} (g_0 : Rd w a_0 (eSPoint.fl q0)) (l_0 : q0.length = n_0) (k_0 : n_0 ≤ c_0) {r : ByteArray} (hres : sh89 q0 = some r) : Calls Go.Proofs.Try.prog 89 [.slice a_0 n_0 c_0].toArray w (Ret w (T89 r)) := by
  subst l_0
  unfold sh89 at hres
  refine calls_of (n := 8) (M := []) (es := []) Go.Proofs.Try.func89 rfl rfl rfl (Sep.nil _ _ _) ?_
  refine JX.seq ?_
  refine JX.region ?_
  refine JL.val (yl_assign rfl) rfl ?_
  refine JL.nil ?_
  refine JE.code ?_
  refine JX.seq ?_
  refine JX.seq ?_
  refine JX.region ?_
  refine JL.val (yl_move rfl) rfl ?_
  obtain ⟨x1, hx1, hres⟩ := bind_some hres
  refine JL.eff (ef_call (T := T110 x1) Go.Proofs.Try.func110 rfl (by kernel_rfl) rfl (fun w hC => c110 (rd_arg g_0 hC) rfl k_0 hx1)) rfl ?_
  rintro _ _ ⟨_, ⟨rfl, rfl⟩, rfl⟩
  refine JL.val (yl_not rfl) rfl ?_
  refine JL.nil ?_
  refine JE.code ?_
  rcases cond_some hres with ⟨hb, hres⟩ | ⟨hb, hres⟩
  · refine JX.condT rfl hb ?_
    refine JX.seq ?_
    refine JX.region ?_
    refine JL.val (yl_assign rfl) rfl ?_
    refine JL.nil ?_
    refine JE.code ?_
    refine JX.ret ?_
    obtain rfl := Option.some.inj hres
    refine JE.ret (rs := [.tmp 2]) (vs := [.string (ByteArray.mk #[])]) rfl ⟨rfl, trivial⟩ ?_
    exact fun w' hb hs => ⟨_, _, ⟨rfl, rfl⟩, rfl, hb, hs.sel [] _ (by decide) rfl⟩
  · refine JX.condF rfl hb ?_
    refine JX.skip ?_
    refine JE.code ?_
    refine JX.seq ?_
    refine JX.region ?_
    refine JL.val (yl_move rfl) rfl ?_
    obtain ⟨x2, hx2, hres⟩ := bind_some hres
    refine JL.eff (ef_call (T := T171 x2) Go.Proofs.Try.func171 rfl (by kernel_rfl) rfl (fun w hC => c171 (rd_arg g_0 hC) rfl k_0 hx2)) rfl ?_
    rintro _ _ ⟨_, ⟨rfl, rfl⟩, rfl⟩
    refine JL.val (yl_assign rfl) rfl ?_
    refine JL.nil ?_
    refine JE.code ?_
    refine JX.ret ?_
    obtain rfl := Option.some.inj hres
    refine JE.ret (rs := [.tmp 2]) (vs := [.string x2]) rfl ⟨rfl, trivial⟩ ?_
    exact fun w' hb hs => ⟨_, _, ⟨rfl, rfl⟩, rfl, hb, hs.sel [] _ (by decide) rfl⟩

end Go.Sh
