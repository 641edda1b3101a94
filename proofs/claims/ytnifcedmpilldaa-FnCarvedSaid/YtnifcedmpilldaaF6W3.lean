/- Walks through functions that the law reaches, printed by program. -/
import Derived.Test.YtnifcedmpilldaaF6W2
set_option linter.unusedVariables false
set_option linter.unusedSimpArgs false
namespace Go.Sh
open Go Go.RowKit
/- impl.CheckMoves -/
def sh59_1 (q0 : SPanel) (q1 : List SToolMove) (q2 : Int) (q3 : Int) (q4 : Int) : Int → Option (Int ⊕ (Unit ⊕ (Int × Int)))
  | x9 => bif decide (x9 < (q1.length : Int)) then (Option.bind (getI q1 x9) fun x10 => Option.bind (sh107 x10.X (w64 (0 - q3)) (w64 ((w64 ((w64 (2 * q0.W)) * q2)) + q3))) fun x13 => Option.bind (bif !x13 then (some true) else (Option.bind (sh107 x10.Y (w64 (0 - q3)) (w64 ((w64 ((w64 (2 * q0.H)) * q2)) + q3))) fun x15 => some !x15)) fun cb14 => (Option.bind (bif decide (0 < x9) then (Option.bind (getI q1 (w64 (x9 - 1))) fun x18 => some (decide (0 ≤ x18.Z))) else (some false)) fun cb17 => (Option.bind (bif cb17 then (Option.bind (getI q1 (w64 (x9 - 1))) fun x20 => Option.bind (bif x20.X != x10.X then (some true) else (Option.bind (getI q1 (w64 (x9 - 1))) fun x22 => some (x22.Y != x10.Y))) fun cb21 => (some cb21)) else (some false)) fun cb19 => (bif (((decide (x10.Z < 0)) && cb14) || (decide (x10.Z < (w64 (0 - q4))))) || ((decide (x10.Z < 0)) && cb19) then (some (.inr (.inr (x9, 0)))) else (some (.inl (w64 (x9 + 1)))))))) else (some (.inr (.inl ())))
def sh59 (q0 : SPanel) (q1 : List SToolMove) (q2 : Int) (q3 : Int) (q4 : Int) : Option (Int × Int) := Option.bind (sh128 q0) fun x3 => Option.bind (bif !x3 then (some true) else (Option.bind (sh151 q1) fun x5 => some !x5)) fun cb4 => (bif cb4 then (some (0, 1)) else (Option.bind (sh143 q2 q4 1) fun x6 => Option.bind (bif !x6 then (some true) else (Option.bind (sh107 q3 0 200) fun x8 => some !x8)) fun cb7 => (bif cb7 then (some (0, 2)) else (Option.bind (iter (sh59_1 q0 q1 q2 q3 q4) 0) fun y1 => elimS y1 (fun r => some r) fun b1 => (some ((-1), 0))))))
def T59 (r : Int × Int) (v : Value) (rs : List Own) : Prop := v = rets [.int .i64 r.1, .int .i64 r.2] ∧ rs = []
set_option maxRecDepth 100000 in
set_option maxHeartbeats 1000000 in
theorem c59 {w : World} {q0 : SPanel} {a_0_2 : Option Addr} {n_0_2 c_0_2 : Nat} (g_0_2 : Rd w a_0_2 (eI64.fl q0.Breaks)) (l_0_2 : q0.Breaks.length = n_0_2) (k_0_2 : n_0_2 ≤ c_0_2) {q1 : List SToolMove} {a_1 : Option Addr} {n_1 c_1 : Nat} (g_1 : Rd w a_1 (eSToolMove.fl q1)) (l_1 : q1.length = n_1) (k_1 : n_1 ≤ c_1) {q2 : Int} {q3 : Int} {q4 : Int} {r : Int × Int} (hres : sh59 q0 q1 q2 q3 q4 = some r) : Calls Go.Proofs.Try.prog 59 [.agg #[.int .i64 q0.W, .int .i64 q0.H, .slice a_0_2 n_0_2 c_0_2], .slice a_1 n_1 c_1, .int .i64 q2, .int .i64 q3, .int .i64 q4].toArray w (Ret w (T59 r)) := by
  subst l_0_2
  subst l_1
  unfold sh59 at hres
  refine calls_of (n := 124) (M := []) (es := []) Go.Proofs.Try.func59 rfl rfl rfl (Sep.nil _ _ _) ?_
  refine JX.seq ?_
  refine JX.region ?_
  refine JL.eff (ef_box rfl rfl) rfl ?_
  rintro _ _ ⟨g1, rfl, rfl⟩
  refine JL.val (yl_assign rfl) rfl ?_
  refine JL.val (yl_assign rfl) rfl ?_
  refine JL.nil ?_
  refine JE.code ?_
  refine JX.seq ?_
  refine JX.seq ?_
  refine JX.region ?_
  refine JL.val (yl_loadn Go.Proofs.Try.underlying26 rfl i26 rfl (fun w hC => rd_box hC 0 rfl) rfl (i26s).symm i26p) rfl ?_
  obtain ⟨x3, hx3, hres⟩ := bind_some hres
  refine JL.eff (ef_call (vs := [.agg #[.int .i64 q0.W, .int .i64 q0.H, .slice a_0_2 q0.Breaks.length c_0_2]]) (T := T128 x3) Go.Proofs.Try.func128 rfl (by kernel_rfl) rfl (fun w hC => c128 (q0 := q0) (rd_arg g_0_2 hC) rfl k_0_2 hx3)) rfl ?_
  rintro _ _ ⟨_, ⟨rfl, rfl⟩, rfl⟩
  refine JL.val (yl_not rfl) rfl ?_
  refine JL.val (yl_move rfl) rfl ?_
  obtain ⟨cb4, hcb4, hres⟩ := bind_some hres
  refine JL.cut (K := fun J => J [(1, .slice a_1 q1.length c_1), (2, .int .i64 q2), (3, .int .i64 q3), (4, .int .i64 q4), (5, ptrAt (some ⟨g1, 0, none⟩) 0), (24, .bool cb4)] [boxO 26 g1 [.int .i64 q0.W, .int .i64 q0.H, .slice a_0_2 q0.Breaks.length c_0_2]]) 4 ?_ ?_
  · refine JL.nil ?_
    refine JE.weak (env' := [(1, .slice a_1 q1.length c_1), (2, .int .i64 q2), (3, .int .i64 q3), (4, .int .i64 q4), (5, ptrAt (some ⟨g1, 0, none⟩) 0), (24, .bool cb4)]) (es' := [boxO 26 g1 [.int .i64 q0.W, .int .i64 q0.H, .slice a_0_2 q0.Breaks.length c_0_2]]) [0] ?_ ⟨rfl, rfl, rfl, rfl, rfl, rfl, trivial⟩ (by decide) rfl
    refine JE.code ?_
    rcases cond_some hres with ⟨hb, hres⟩ | ⟨hb, hres⟩
    · refine JX.condT rfl hb ?_
      refine JX.seq ?_
      refine JX.region ?_
      refine JL.val (yl_assign rfl) rfl ?_
      refine JL.val (yl_assign rfl) rfl ?_
      refine JL.nil ?_
      refine JE.weak (env' := [(10, .int .i64 0), (11, .int .i64 1)]) (es' := []) [] ?_ ⟨rfl, rfl, trivial⟩ (by decide) rfl
      refine JE.code ?_
      refine JX.ret ?_
      obtain rfl := Option.some.inj hres
      refine JE.ret (rs := [.tmp 10, .tmp 11]) (vs := [.int .i64 0, .int .i64 1]) rfl ⟨rfl, rfl, trivial⟩ ?_
      exact fun w' hb hs => ⟨_, _, ⟨rfl, rfl⟩, rfl, hb, hs.sel [] _ (by decide) rfl⟩
    · refine JX.condF rfl hb ?_
      refine JX.skip ?_
      refine JE.code ?_
      refine JX.seq ?_
      refine JX.seq ?_
      refine JX.region ?_
      refine JL.val (yl_move rfl) rfl ?_
      refine JL.val (yl_move rfl) rfl ?_
      obtain ⟨x6, hx6, hres⟩ := bind_some hres
      refine JL.eff (ef_call (T := T143 x6) Go.Proofs.Try.func143 rfl (by kernel_rfl) rfl (fun w hC => c143  hx6)) rfl ?_
      rintro _ _ ⟨_, ⟨rfl, rfl⟩, rfl⟩
      refine JL.val (yl_not rfl) rfl ?_
      refine JL.val (yl_move rfl) rfl ?_
      obtain ⟨cb7, hcb7, hres⟩ := bind_some hres
      refine JL.cut (K := fun J => J [(1, .slice a_1 q1.length c_1), (2, .int .i64 q2), (3, .int .i64 q3), (4, .int .i64 q4), (5, ptrAt (some ⟨g1, 0, none⟩) 0), (33, .bool cb7)] [boxO 26 g1 [.int .i64 q0.W, .int .i64 q0.H, .slice a_0_2 q0.Breaks.length c_0_2]]) 4 ?_ ?_
      · refine JL.nil ?_
        refine JE.weak (env' := [(1, .slice a_1 q1.length c_1), (2, .int .i64 q2), (3, .int .i64 q3), (4, .int .i64 q4), (5, ptrAt (some ⟨g1, 0, none⟩) 0), (33, .bool cb7)]) (es' := [boxO 26 g1 [.int .i64 q0.W, .int .i64 q0.H, .slice a_0_2 q0.Breaks.length c_0_2]]) [0] ?_ ⟨rfl, rfl, rfl, rfl, rfl, rfl, trivial⟩ (by decide) rfl
        refine JE.code ?_
        rcases cond_some hres with ⟨hb, hres⟩ | ⟨hb, hres⟩
        · refine JX.condT rfl hb ?_
          refine JX.seq ?_
          refine JX.region ?_
          refine JL.val (yl_assign rfl) rfl ?_
          refine JL.val (yl_assign rfl) rfl ?_
          refine JL.nil ?_
          refine JE.weak (env' := [(10, .int .i64 0), (11, .int .i64 2)]) (es' := []) [] ?_ ⟨rfl, rfl, trivial⟩ (by decide) rfl
          refine JE.code ?_
          refine JX.ret ?_
          obtain rfl := Option.some.inj hres
          refine JE.ret (rs := [.tmp 10, .tmp 11]) (vs := [.int .i64 0, .int .i64 2]) rfl ⟨rfl, rfl, trivial⟩ ?_
          exact fun w' hb hs => ⟨_, _, ⟨rfl, rfl⟩, rfl, hb, hs.sel [] _ (by decide) rfl⟩
        · refine JX.condF rfl hb ?_
          refine JX.skip ?_
          refine JE.code ?_
          refine JX.seq ?_
          refine JX.seq ?_
          refine JX.region ?_
          refine JL.val (yl_move rfl) rfl ?_
          refine JL.val (yl_len_slice Go.Proofs.Try.underlying65 rfl) rfl ?_
          refine JL.val (yl_move rfl) rfl ?_
          refine JL.nil ?_
          refine JE.code ?_
          refine JX.block ?_
          obtain ⟨y1, hy1, hresO1⟩ := bind_some hres
          refine JX.loop (I := fun (s1 : Int) aa ww => St w [] 124 [(1, .slice a_1 q1.length c_1), (2, .int .i64 q2), (3, .int .i64 q3), (4, .int .i64 q4), (5, ptrAt (some ⟨g1, 0, none⟩) 0), (34, .slice a_1 q1.length c_1), (35, .int .i64 (q1.length : Int)), (36, .int .i64 s1)] [boxO 26 g1 [.int .i64 q0.W, .int .i64 q0.H, .slice a_0_2 q0.Breaks.length c_0_2]] aa ww) (sh59_1 q0 q1 q2 q3 q4) hy1 (fun a w h => h.weak ⟨rfl, rfl, rfl, rfl, rfl, rfl, rfl, rfl, trivial⟩ [0] (by decide) rfl) ?_
          rintro x9 o1 hres hox1 aa ww hS
          refine (?_ : JX Go.Proofs.Try.prog w [] 124 _ _ [(1, .slice a_1 q1.length c_1), (2, .int .i64 q2), (3, .int .i64 q3), (4, .int .i64 q4), (5, ptrAt (some ⟨g1, 0, none⟩) 0), (34, .slice a_1 q1.length c_1), (35, .int .i64 (q1.length : Int)), (36, .int .i64 x9)] [boxO 26 g1 [.int .i64 q0.W, .int .i64 q0.H, .slice a_0_2 q0.Breaks.length c_0_2]] _) aa ww hS
          clear hS
          unfold sh59_1 at hres
          refine JX.seq ?_
          refine JX.region ?_
          refine JL.val (yl_lss rfl rfl) rfl ?_
          refine JL.nil ?_
          refine JE.code ?_
          refine JX.seq ?_
          rcases cond_some hres with ⟨hb, hres⟩ | ⟨hb, hres⟩
          · refine JX.condT rfl hb ?_
            refine JX.skip ?_
            refine JE.code ?_
            refine JX.seq ?_
            refine JX.block ?_
            refine JX.seq ?_
            refine JX.region ?_
            refine JL.val (yl_move rfl) rfl ?_
            obtain ⟨x10, hx10, hres⟩ := bind_some hres
            refine JL.val (yl_idxT Go.Proofs.Try.underlying65 i88 i88s rfl rfl hx10 rfl (fun w hC => rd_arg g_1 hC)) rfl ?_
            refine JL.val (yl_loadTn Go.Proofs.Try.underlying88 rfl i88 i88s rfl hx10 (fun w hC => rd_arg g_1 hC)) rfl ?_
            refine JL.eff (ef_alloc i88 i88z rfl) rfl ?_
            rintro _ _ ⟨g11, rfl, rfl⟩
            refine JL.val (yl_assign rfl) rfl ?_
            refine JL.eff (ef_store_box (i := 1) (v := .agg #[.int .i64 x10.X, .int .i64 x10.Y, .int .i64 x10.Z]) i88 rfl rfl rfl (i88s).symm (Nat.le_of_ble_eq_true rfl) (by simp [Value.cells, Value.oneCell'])) rfl ?_
            rintro _ _ rfl
            refine JL.nil ?_
            refine JE.weak (env' := [(1, .slice a_1 q1.length c_1), (2, .int .i64 q2), (3, .int .i64 q3), (4, .int .i64 q4), (5, ptrAt (some ⟨g1, 0, none⟩) 0), (12, .int .i64 x9), (13, ptrAt (some ⟨g11, 0, none⟩) 0), (34, .slice a_1 q1.length c_1), (35, .int .i64 (q1.length : Int)), (36, .int .i64 x9)]) (es' := [boxO 26 g1 [.int .i64 q0.W, .int .i64 q0.H, .slice a_0_2 q0.Breaks.length c_0_2], boxO 88 g11 [.int .i64 x10.X, .int .i64 x10.Y, .int .i64 x10.Z]]) [0, 1] ?_ ⟨rfl, rfl, rfl, rfl, rfl, rfl, rfl, rfl, rfl, rfl, trivial⟩ (by decide) rfl
            refine JE.code ?_
            refine JX.seq ?_
            refine JX.region ?_
            refine JL.val (yl_fieldAt (a := some _) Go.Proofs.Try.underlying88 rfl i2 i2n rfl rfl) rfl ?_
            refine JL.val (yl_load1 Go.Proofs.Try.underlying2 rfl rfl (fun w hC => rd_box hC 1 rfl) rfl) rfl ?_
            refine JL.val (yl_lss rfl rfl) rfl ?_
            refine JL.val (yl_assign rfl) rfl ?_
            refine JL.nil ?_
            refine JE.weak (env' := [(1, .slice a_1 q1.length c_1), (2, .int .i64 q2), (3, .int .i64 q3), (4, .int .i64 q4), (5, ptrAt (some ⟨g1, 0, none⟩) 0), (12, .int .i64 x9), (13, ptrAt (some ⟨g11, 0, none⟩) 0), (14, .bool (decide (x10.Z < 0))), (34, .slice a_1 q1.length c_1), (35, .int .i64 (q1.length : Int)), (36, .int .i64 x9)]) (es' := [boxO 26 g1 [.int .i64 q0.W, .int .i64 q0.H, .slice a_0_2 q0.Breaks.length c_0_2], boxO 88 g11 [.int .i64 x10.X, .int .i64 x10.Y, .int .i64 x10.Z]]) [0, 1] ?_ ⟨rfl, rfl, rfl, rfl, rfl, rfl, rfl, rfl, rfl, rfl, rfl, trivial⟩ (by decide) rfl
            refine JE.code ?_
            refine JX.seq ?_
            refine JX.region ?_
            refine JL.val (yl_fieldAt (a := some _) Go.Proofs.Try.underlying88 rfl i2 i2n rfl rfl) rfl ?_
            refine JL.val (yl_load1 Go.Proofs.Try.underlying2 rfl rfl (fun w hC => rd_box hC 1 rfl) rfl) rfl ?_
            refine JL.val (yl_move rfl) rfl ?_
            refine JL.val (yl_neg rfl) rfl ?_
            refine JL.val (yl_fieldAt (a := some _) Go.Proofs.Try.underlying26 rfl i2 i2n rfl rfl) rfl ?_
            refine JL.val (yl_load1 Go.Proofs.Try.underlying2 rfl rfl (fun w hC => rd_box hC 0 rfl) rfl) rfl ?_
            refine JL.val (yl_mul rfl rfl) rfl ?_
            refine JL.val (yl_move rfl) rfl ?_
            refine JL.val (yl_mul rfl rfl) rfl ?_
            refine JL.val (yl_move rfl) rfl ?_
            refine JL.val (yl_add rfl rfl) rfl ?_
            obtain ⟨x13, hx13, hres⟩ := bind_some hres
            refine JL.eff (ef_call (T := T107 x13) Go.Proofs.Try.func107 rfl (by kernel_rfl) rfl (fun w hC => c107  hx13)) rfl ?_
            rintro _ _ ⟨_, ⟨rfl, rfl⟩, rfl⟩
            refine JL.val (yl_not rfl) rfl ?_
            refine JL.val (yl_move rfl) rfl ?_
            obtain ⟨cb14, hcb14, hres⟩ := bind_some hres
            refine JL.cut (K := fun J => J [(1, .slice a_1 q1.length c_1), (2, .int .i64 q2), (3, .int .i64 q3), (4, .int .i64 q4), (5, ptrAt (some ⟨g1, 0, none⟩) 0), (12, .int .i64 x9), (13, ptrAt (some ⟨g11, 0, none⟩) 0), (14, .bool (decide (x10.Z < 0))), (34, .slice a_1 q1.length c_1), (35, .int .i64 (q1.length : Int)), (36, .int .i64 x9), (71, .bool cb14)] [boxO 26 g1 [.int .i64 q0.W, .int .i64 q0.H, .slice a_0_2 q0.Breaks.length c_0_2], boxO 88 g11 [.int .i64 x10.X, .int .i64 x10.Y, .int .i64 x10.Z]]) 14 ?_ ?_
            · refine JL.val (yl_assign rfl) rfl ?_
              refine JL.nil ?_
              refine JE.weak (env' := [(1, .slice a_1 q1.length c_1), (2, .int .i64 q2), (3, .int .i64 q3), (4, .int .i64 q4), (5, ptrAt (some ⟨g1, 0, none⟩) 0), (12, .int .i64 x9), (13, ptrAt (some ⟨g11, 0, none⟩) 0), (14, .bool (decide (x10.Z < 0))), (15, .bool cb14), (34, .slice a_1 q1.length c_1), (35, .int .i64 (q1.length : Int)), (36, .int .i64 x9)]) (es' := [boxO 26 g1 [.int .i64 q0.W, .int .i64 q0.H, .slice a_0_2 q0.Breaks.length c_0_2], boxO 88 g11 [.int .i64 x10.X, .int .i64 x10.Y, .int .i64 x10.Z]]) [0, 1] ?_ ⟨rfl, rfl, rfl, rfl, rfl, rfl, rfl, rfl, rfl, rfl, rfl, rfl, trivial⟩ (by decide) rfl
              refine JE.code ?_
              refine JX.seq ?_
              refine JX.drawH [(0, .pure), (1, .pure), (2, .pure), (3, .pure), (4, .pure), (5, .pure), (6, .pure), (7, .pure), (8, .read), (9, .pure), (10, .pure), (11, .pure), (12, .pure), (13, .pure), (14, .pure), (15, .pure), (16, .pure), (17, .read), (18, .pure), (19, .read), (20, .pure), (21, .pure), (22, .pure), (23, .pure), (24, .pure), (25, .pure), (26, .pure), (27, .read), (28, .pure), (29, .read), (30, .pure), (31, .pure), (32, .pure), (33, .pure)] [] [] [0, 1] [] [boxO 26 g1 [.int .i64 q0.W, .int .i64 q0.H, .slice a_0_2 q0.Breaks.length c_0_2], boxO 88 g11 [.int .i64 x10.X, .int .i64 x10.Y, .int .i64 x10.Z]] mixedP (by kernel_rfl) (by kernel_rfl) (by decide) rfl rfl ?_
              intro wrr16 Nr16 hFr16
              refine JH.pure rfl (yl_move rfl) rfl ?_
              refine JH.pure rfl (yl_gtr rfl rfl) rfl ?_
              refine JH.pure rfl (yl_move rfl) rfl ?_
              obtain ⟨cb17, hcb17, hres⟩ := bind_some hres
              refine JH.cut (K := fun J => J [(1, .slice a_1 q1.length c_1), (2, .int .i64 q2), (3, .int .i64 q3), (4, .int .i64 q4), (5, ptrAt (some ⟨g1, 0, none⟩) 0), (12, .int .i64 x9), (13, ptrAt (some ⟨g11, 0, none⟩) 0), (14, .bool (decide (x10.Z < 0))), (15, .bool cb14), (34, .slice a_1 q1.length c_1), (35, .int .i64 (q1.length : Int)), (36, .int .i64 x9), (82, .bool cb17)] []) 8 ?_ ?_
              · refine JH.pure rfl (yl_move rfl) rfl ?_
                obtain ⟨cb19, hcb19, hres⟩ := bind_some hres
                refine JH.cut (K := fun J => J [(1, .slice a_1 q1.length c_1), (2, .int .i64 q2), (3, .int .i64 q3), (4, .int .i64 q4), (5, ptrAt (some ⟨g1, 0, none⟩) 0), (12, .int .i64 x9), (13, ptrAt (some ⟨g11, 0, none⟩) 0), (14, .bool (decide (x10.Z < 0))), (15, .bool cb14), (34, .slice a_1 q1.length c_1), (35, .int .i64 (q1.length : Int)), (36, .int .i64 x9), (104, .bool cb19)] []) 21 ?_ ?_
                · refine JH.pure rfl (yl_assign rfl) rfl ?_
                  refine JH.nil ?_
                  refine JE.weak (env' := [(1, .slice a_1 q1.length c_1), (2, .int .i64 q2), (3, .int .i64 q3), (4, .int .i64 q4), (5, ptrAt (some ⟨g1, 0, none⟩) 0), (12, .int .i64 x9), (13, ptrAt (some ⟨g11, 0, none⟩) 0), (14, .bool (decide (x10.Z < 0))), (15, .bool cb14), (16, .bool cb19), (34, .slice a_1 q1.length c_1), (35, .int .i64 (q1.length : Int)), (36, .int .i64 x9)]) (es' := [boxO 26 g1 [.int .i64 q0.W, .int .i64 q0.H, .slice a_0_2 q0.Breaks.length c_0_2], boxO 88 g11 [.int .i64 x10.X, .int .i64 x10.Y, .int .i64 x10.Z]]) [0, 1] ?_ ⟨rfl, rfl, rfl, rfl, rfl, rfl, rfl, rfl, rfl, rfl, rfl, rfl, rfl, trivial⟩ (by decide) rfl
                  refine JE.code ?_
                  refine JX.seq ?_
                  refine JX.region ?_
                  refine JL.val (yl_move rfl) rfl ?_
                  refine JL.val (yl_move rfl) rfl ?_
                  refine JL.cut (K := fun J => J [(1, .slice a_1 q1.length c_1), (2, .int .i64 q2), (3, .int .i64 q3), (4, .int .i64 q4), (5, ptrAt (some ⟨g1, 0, none⟩) 0), (12, .int .i64 x9), (13, ptrAt (some ⟨g11, 0, none⟩) 0), (14, .bool (decide (x10.Z < 0))), (16, .bool cb19), (34, .slice a_1 q1.length c_1), (35, .int .i64 (q1.length : Int)), (36, .int .i64 x9), (108, .bool ((decide (x10.Z < 0)) && cb14))] [boxO 26 g1 [.int .i64 q0.W, .int .i64 q0.H, .slice a_0_2 q0.Breaks.length c_0_2], boxO 88 g11 [.int .i64 x10.X, .int .i64 x10.Y, .int .i64 x10.Z]]) 2 ?_ ?_
                  · refine JL.val (yl_move rfl) rfl ?_
                    refine JL.cut (K := fun J => J [(1, .slice a_1 q1.length c_1), (2, .int .i64 q2), (3, .int .i64 q3), (4, .int .i64 q4), (5, ptrAt (some ⟨g1, 0, none⟩) 0), (12, .int .i64 x9), (14, .bool (decide (x10.Z < 0))), (16, .bool cb19), (34, .slice a_1 q1.length c_1), (35, .int .i64 (q1.length : Int)), (36, .int .i64 x9), (115, .bool (((decide (x10.Z < 0)) && cb14) || (decide (x10.Z < (w64 (0 - q4))))))] [boxO 26 g1 [.int .i64 q0.W, .int .i64 q0.H, .slice a_0_2 q0.Breaks.length c_0_2]]) 6 ?_ ?_
                    · refine JL.val (yl_move rfl) rfl ?_
                      refine JL.cut (K := fun J => J [(1, .slice a_1 q1.length c_1), (2, .int .i64 q2), (3, .int .i64 q3), (4, .int .i64 q4), (5, ptrAt (some ⟨g1, 0, none⟩) 0), (12, .int .i64 x9), (34, .slice a_1 q1.length c_1), (35, .int .i64 (q1.length : Int)), (36, .int .i64 x9), (121, .bool ((((decide (x10.Z < 0)) && cb14) || (decide (x10.Z < (w64 (0 - q4))))) || ((decide (x10.Z < 0)) && cb19)))] [boxO 26 g1 [.int .i64 q0.W, .int .i64 q0.H, .slice a_0_2 q0.Breaks.length c_0_2]]) 5 ?_ ?_
                      · refine JL.nil ?_
                        refine JE.weak (env' := [(1, .slice a_1 q1.length c_1), (2, .int .i64 q2), (3, .int .i64 q3), (4, .int .i64 q4), (5, ptrAt (some ⟨g1, 0, none⟩) 0), (12, .int .i64 x9), (34, .slice a_1 q1.length c_1), (35, .int .i64 (q1.length : Int)), (36, .int .i64 x9), (121, .bool ((((decide (x10.Z < 0)) && cb14) || (decide (x10.Z < (w64 (0 - q4))))) || ((decide (x10.Z < 0)) && cb19)))]) (es' := [boxO 26 g1 [.int .i64 q0.W, .int .i64 q0.H, .slice a_0_2 q0.Breaks.length c_0_2]]) [0] ?_ ⟨rfl, rfl, rfl, rfl, rfl, rfl, rfl, rfl, rfl, rfl, trivial⟩ (by decide) rfl
                        refine JE.code ?_
                        rcases cond_some hres with ⟨hb, hres⟩ | ⟨hb, hres⟩
                        · refine JX.condT rfl hb ?_
                          refine JX.seq ?_
                          refine JX.region ?_
                          refine JL.val (yl_move rfl) rfl ?_
                          refine JL.val (yl_assign rfl) rfl ?_
                          refine JL.val (yl_assign rfl) rfl ?_
                          refine JL.nil ?_
                          refine JE.weak (env' := [(10, .int .i64 x9), (11, .int .i64 0)]) (es' := []) [] ?_ ⟨rfl, rfl, trivial⟩ (by decide) rfl
                          refine JE.code ?_
                          refine JX.ret ?_
                          refine JE.qbr ?_
                          refine JE.qbr ?_
                          have hres := elimS_inr hresO1 (hox1 _ (Option.some.inj hres).symm)
                          obtain rfl := Option.some.inj hres
                          refine JE.ret (rs := [.tmp 10, .tmp 11]) (vs := [.int .i64 x9, .int .i64 0]) rfl ⟨rfl, rfl, trivial⟩ ?_
                          exact fun w' hb hs => ⟨_, _, ⟨rfl, rfl⟩, rfl, hb, hs.sel [] _ (by decide) rfl⟩
                        · refine JX.condF rfl hb ?_
                          refine JX.skip ?_
                          refine JE.code ?_
                          refine JX.region ?_
                          refine JL.val (yl_add rfl rfl) rfl ?_
                          refine JL.val (yl_move rfl) rfl ?_
                          refine JL.nil ?_
                          refine JE.cont hres ?_
                          exact fun a w h => h.weak ⟨rfl, rfl, rfl, rfl, rfl, rfl, rfl, rfl, trivial⟩ [0] (by decide) rfl
                      · intro K
                        rcases Bool.eq_false_or_eq_true (((decide (x10.Z < 0)) && cb14) || (decide (x10.Z < (w64 (0 - q4))))) with hb | hb
                        · refine JL.set (d := 116) (v := .bool true) (congrArg (fun b => some (Value.bool b)) hb) ?_
                          refine JL.gskip rfl rfl rfl rfl ?_
                          refine JL.gskip rfl rfl rfl rfl ?_
                          refine JL.gnone rfl rfl rfl ?_
                          refine JL.gskip rfl rfl rfl rfl ?_
                          refine JL.val (yl_pick_true rfl rfl) rfl ?_
                          exact JL.weak [0] K ⟨rfl, rfl, rfl, rfl, rfl, rfl, rfl, rfl, rfl, (by rw [hb]; rfl), trivial⟩ (by decide) rfl
                        · refine JL.set (d := 116) (v := .bool false) (congrArg (fun b => some (Value.bool b)) hb) ?_
                          refine JL.gval rfl rfl (yl_move rfl) rfl ?_
                          refine JL.gval rfl rfl (yl_move rfl) rfl ?_
                          refine JL.cut (K := fun J => J [(1, .slice a_1 q1.length c_1), (2, .int .i64 q2), (3, .int .i64 q3), (4, .int .i64 q4), (5, ptrAt (some ⟨g1, 0, none⟩) 0), (12, .int .i64 x9), (34, .slice a_1 q1.length c_1), (35, .int .i64 (q1.length : Int)), (36, .int .i64 x9), (116, .bool false), (120, .bool ((decide (x10.Z < 0)) && cb19))] [boxO 26 g1 [.int .i64 q0.W, .int .i64 q0.H, .slice a_0_2 q0.Breaks.length c_0_2]]) 2 ?_ ?_
                          · refine JL.val (yl_pick_false rfl rfl) rfl ?_
                            exact JL.weak [0] K ⟨rfl, rfl, rfl, rfl, rfl, rfl, rfl, rfl, rfl, (by rw [hb]; rfl), trivial⟩ (by decide) rfl
                          · intro K
                            rcases Bool.eq_false_or_eq_true (decide (x10.Z < 0)) with hb | hb
                            · refine JL.set (d := 118) (v := .bool true) (congrArg (fun b => some (Value.bool b)) hb) ?_
                              refine JL.gval rfl rfl (yl_move rfl) rfl ?_
                              refine JL.gval rfl rfl (yl_pick_true rfl rfl) rfl ?_
                              exact JL.weak [0] K ⟨rfl, rfl, rfl, rfl, rfl, rfl, rfl, rfl, rfl, rfl, (by rw [hb]; rfl), trivial⟩ (by decide) rfl
                            · refine JL.set (d := 118) (v := .bool false) (congrArg (fun b => some (Value.bool b)) hb) ?_
                              refine JL.gskip rfl rfl rfl rfl ?_
                              refine JL.gval rfl rfl (yl_pick_false rfl rfl) rfl ?_
                              exact JL.weak [0] K ⟨rfl, rfl, rfl, rfl, rfl, rfl, rfl, rfl, rfl, rfl, (by rw [hb]; rfl), trivial⟩ (by decide) rfl
                    · intro K
                      rcases Bool.eq_false_or_eq_true ((decide (x10.Z < 0)) && cb14) with hb | hb
                      · refine JL.set (d := 109) (v := .bool true) (congrArg (fun b => some (Value.bool b)) hb) ?_
                        refine JL.gskip rfl rfl rfl rfl ?_
                        refine JL.gskip rfl rfl rfl rfl ?_
                        refine JL.gskip rfl rfl rfl rfl ?_
                        refine JL.gskip rfl rfl rfl rfl ?_
                        refine JL.gskip rfl rfl rfl rfl ?_
                        refine JL.val (yl_pick_true rfl rfl) rfl ?_
                        exact JL.weak [0] K ⟨rfl, rfl, rfl, rfl, rfl, rfl, rfl, rfl, rfl, rfl, rfl, (by rw [hb]; rfl), trivial⟩ (by decide) rfl
                      · refine JL.set (d := 109) (v := .bool false) (congrArg (fun b => some (Value.bool b)) hb) ?_
                        refine JL.gval rfl rfl (yl_fieldAt (a := some _) Go.Proofs.Try.underlying88 rfl i2 i2n rfl rfl) rfl ?_
                        refine JL.gval rfl rfl (yl_load1 Go.Proofs.Try.underlying2 rfl rfl (fun w hC => rd_box hC 1 rfl) rfl) rfl ?_
                        refine JL.gval rfl rfl (yl_move rfl) rfl ?_
                        refine JL.gval rfl rfl (yl_neg rfl) rfl ?_
                        refine JL.gval rfl rfl (yl_lss rfl rfl) rfl ?_
                        refine JL.val (yl_pick_false rfl rfl) rfl ?_
                        exact JL.weak [0] K ⟨rfl, rfl, rfl, rfl, rfl, rfl, rfl, rfl, rfl, rfl, rfl, (by rw [hb]; rfl), trivial⟩ (by decide) rfl
                  · intro K
                    rcases Bool.eq_false_or_eq_true (decide (x10.Z < 0)) with hb | hb
                    · refine JL.set (d := 106) (v := .bool true) (congrArg (fun b => some (Value.bool b)) hb) ?_
                      refine JL.gval rfl rfl (yl_move rfl) rfl ?_
                      refine JL.val (yl_pick_true rfl rfl) rfl ?_
                      exact JL.weak [0, 1] K ⟨rfl, rfl, rfl, rfl, rfl, rfl, rfl, rfl, rfl, rfl, rfl, rfl, (by rw [hb]; rfl), trivial⟩ (by decide) rfl
                    · refine JL.set (d := 106) (v := .bool false) (congrArg (fun b => some (Value.bool b)) hb) ?_
                      refine JL.gskip rfl rfl rfl rfl ?_
                      refine JL.val (yl_pick_false rfl rfl) rfl ?_
                      exact JL.weak [0, 1] K ⟨rfl, rfl, rfl, rfl, rfl, rfl, rfl, rfl, rfl, rfl, rfl, rfl, (by rw [hb]; rfl), trivial⟩ (by decide) rfl
                · intro K
                  rcases cond_some hcb19 with ⟨hb, hres⟩ | ⟨hb, hres⟩
                  · refine JH.set (d := 83) (v := .bool true) (congrArg (fun b => some (Value.bool b)) hb) ?_
                    refine JH.gpure rfl rfl rfl (yl_move rfl) rfl ?_
                    refine JH.gpure rfl rfl rfl (yl_move rfl) rfl ?_
                    refine JH.gpure rfl rfl rfl (yl_sub rfl rfl) rfl ?_
                    obtain ⟨x20, hx20, hres⟩ := bind_some hres
                    refine JH.gpure rfl rfl rfl (yl_idxQ Go.Proofs.Try.underlying65 i88 i88s rfl rfl hx20 rfl (rd_arg g_1 hFr16.cl) rfl) rfl ?_
                    refine JH.gpure rfl rfl rfl (yl_fieldAt Go.Proofs.Try.underlying88 rfl i2 i2n rfl (RdT.someQ (rd_arg g_1 hFr16.cl) hx20 rfl rfl)) rfl ?_
                    refine JH.gread rfl rfl rfl (yl_loadT1 Go.Proofs.Try.underlying2 rfl rfl hx20 (fun w hw => hFr16.arg g_1 hw) rfl) rfl ?_
                    refine JH.gpure rfl rfl rfl (yl_fieldAt (a := some _) Go.Proofs.Try.underlying88 rfl i2 i2n rfl rfl) rfl ?_
                    refine JH.gread rfl rfl rfl (yl_load1 Go.Proofs.Try.underlying2 rfl rfl (fun w hw => hFr16.box 1 rfl rfl hw) rfl) rfl ?_
                    refine JH.gpure rfl rfl rfl (yl_neq rfl rfl) rfl ?_
                    refine JH.gpure rfl rfl rfl (yl_move rfl) rfl ?_
                    obtain ⟨cb21, hcb21, hres⟩ := bind_some hres
                    refine JH.cut (K := fun J => J [(1, .slice a_1 q1.length c_1), (2, .int .i64 q2), (3, .int .i64 q3), (4, .int .i64 q4), (5, ptrAt (some ⟨g1, 0, none⟩) 0), (12, .int .i64 x9), (13, ptrAt (some ⟨g11, 0, none⟩) 0), (14, .bool (decide (x10.Z < 0))), (15, .bool cb14), (34, .slice a_1 q1.length c_1), (35, .int .i64 (q1.length : Int)), (36, .int .i64 x9), (83, .bool true), (103, .bool cb21)] []) 10 ?_ ?_
                    · refine JH.pure rfl (yl_pick_true rfl rfl) rfl ?_
                      have he := Option.some.inj hres
                      exact JH.weak [] K ⟨rfl, rfl, rfl, rfl, rfl, rfl, rfl, rfl, rfl, rfl, rfl, rfl, (by rw [← he]; rfl), trivial⟩ (by decide) rfl
                    · intro K
                      rcases cond_some hcb21 with ⟨hb, hres⟩ | ⟨hb, hres⟩
                      · refine JH.set (d := 93) (v := .bool true) (congrArg (fun b => some (Value.bool b)) hb) ?_
                        refine JH.gskip rfl rfl rfl rfl rfl rfl ?_
                        refine JH.gskip rfl rfl rfl rfl rfl rfl ?_
                        refine JH.gskip rfl rfl rfl rfl rfl rfl ?_
                        refine JH.gskip rfl rfl rfl rfl rfl rfl ?_
                        refine JH.gskip rfl rfl rfl rfl rfl rfl ?_
                        refine JH.gskip rfl rfl rfl rfl rfl rfl ?_
                        refine JH.gskip rfl rfl rfl rfl rfl rfl ?_
                        refine JH.gskip rfl rfl rfl rfl rfl rfl ?_
                        refine JH.gskip rfl rfl rfl rfl rfl rfl ?_
                        refine JH.gpure rfl rfl rfl (yl_pick_true rfl rfl) rfl ?_
                        have he := Option.some.inj hres
                        exact JH.weak [] K ⟨rfl, rfl, rfl, rfl, rfl, rfl, rfl, rfl, rfl, rfl, rfl, rfl, rfl, (by rw [← he]; rfl), trivial⟩ (by decide) rfl
                      · refine JH.set (d := 93) (v := .bool false) (congrArg (fun b => some (Value.bool b)) hb) ?_
                        refine JH.gpure rfl rfl rfl (yl_move rfl) rfl ?_
                        refine JH.gpure rfl rfl rfl (yl_move rfl) rfl ?_
                        refine JH.gpure rfl rfl rfl (yl_sub rfl rfl) rfl ?_
                        obtain ⟨x22, hx22, hres⟩ := bind_some hres
                        refine JH.gpure rfl rfl rfl (yl_idxQ Go.Proofs.Try.underlying65 i88 i88s rfl rfl hx22 rfl (rd_arg g_1 hFr16.cl) rfl) rfl ?_
                        refine JH.gpure rfl rfl rfl (yl_fieldAt Go.Proofs.Try.underlying88 rfl i2 i2n rfl (RdT.someQ (rd_arg g_1 hFr16.cl) hx22 rfl rfl)) rfl ?_
                        refine JH.gread rfl rfl rfl (yl_loadT1 Go.Proofs.Try.underlying2 rfl rfl hx22 (fun w hw => hFr16.arg g_1 hw) rfl) rfl ?_
                        refine JH.gpure rfl rfl rfl (yl_fieldAt (a := some _) Go.Proofs.Try.underlying88 rfl i2 i2n rfl rfl) rfl ?_
                        refine JH.gread rfl rfl rfl (yl_load1 Go.Proofs.Try.underlying2 rfl rfl (fun w hw => hFr16.box 1 rfl rfl hw) rfl) rfl ?_
                        refine JH.gpure rfl rfl rfl (yl_neq rfl rfl) rfl ?_
                        refine JH.gpure rfl rfl rfl (yl_pick_false rfl rfl) rfl ?_
                        have he := Option.some.inj hres
                        exact JH.weak [] K ⟨rfl, rfl, rfl, rfl, rfl, rfl, rfl, rfl, rfl, rfl, rfl, rfl, rfl, (by rw [← he]; rfl), trivial⟩ (by decide) rfl
                  · refine JH.set (d := 83) (v := .bool false) (congrArg (fun b => some (Value.bool b)) hb) ?_
                    refine JH.gskip rfl rfl rfl rfl rfl rfl ?_
                    refine JH.gskip rfl rfl rfl rfl rfl rfl ?_
                    refine JH.gskip rfl rfl rfl rfl rfl rfl ?_
                    refine JH.gskip rfl rfl rfl rfl rfl rfl ?_
                    refine JH.gskip rfl rfl rfl rfl rfl rfl ?_
                    refine JH.gskip rfl rfl rfl rfl rfl rfl ?_
                    refine JH.gskip rfl rfl rfl rfl rfl rfl ?_
                    refine JH.gskip rfl rfl rfl rfl rfl rfl ?_
                    refine JH.gskip rfl rfl rfl rfl rfl rfl ?_
                    refine JH.gskip rfl rfl rfl rfl rfl rfl ?_
                    refine JH.gnone rfl rfl rfl rfl rfl ?_
                    refine JH.gnone rfl rfl rfl rfl rfl ?_
                    refine JH.gnone rfl rfl rfl rfl rfl ?_
                    refine JH.gnone rfl rfl rfl rfl rfl ?_
                    refine JH.gnone rfl rfl rfl rfl rfl ?_
                    refine JH.gnone rfl rfl rfl rfl rfl ?_
                    refine JH.gnone rfl rfl rfl rfl rfl ?_
                    refine JH.gnone rfl rfl rfl rfl rfl ?_
                    refine JH.gnone rfl rfl rfl rfl rfl ?_
                    refine JH.gskip rfl rfl rfl rfl rfl rfl ?_
                    refine JH.pure rfl (yl_pick_false rfl rfl) rfl ?_
                    have he := Option.some.inj hres
                    exact JH.weak [] K ⟨rfl, rfl, rfl, rfl, rfl, rfl, rfl, rfl, rfl, rfl, rfl, rfl, (by rw [← he]; rfl), trivial⟩ (by decide) rfl
              · intro K
                rcases cond_some hcb17 with ⟨hb, hres⟩ | ⟨hb, hres⟩
                · refine JH.set (d := 74) (v := .bool true) (congrArg (fun b => some (Value.bool b)) hb) ?_
                  refine JH.gpure rfl rfl rfl (yl_move rfl) rfl ?_
                  refine JH.gpure rfl rfl rfl (yl_move rfl) rfl ?_
                  refine JH.gpure rfl rfl rfl (yl_sub rfl rfl) rfl ?_
                  obtain ⟨x18, hx18, hres⟩ := bind_some hres
                  refine JH.gpure rfl rfl rfl (yl_idxQ Go.Proofs.Try.underlying65 i88 i88s rfl rfl hx18 rfl (rd_arg g_1 hFr16.cl) rfl) rfl ?_
                  refine JH.gpure rfl rfl rfl (yl_fieldAt Go.Proofs.Try.underlying88 rfl i2 i2n rfl (RdT.someQ (rd_arg g_1 hFr16.cl) hx18 rfl rfl)) rfl ?_
                  refine JH.gread rfl rfl rfl (yl_loadT1 Go.Proofs.Try.underlying2 rfl rfl hx18 (fun w hw => hFr16.arg g_1 hw) rfl) rfl ?_
                  refine JH.gpure rfl rfl rfl (yl_geq rfl rfl) rfl ?_
                  refine JH.pure rfl (yl_pick_true rfl rfl) rfl ?_
                  have he := Option.some.inj hres
                  exact JH.weak [] K ⟨rfl, rfl, rfl, rfl, rfl, rfl, rfl, rfl, rfl, rfl, rfl, rfl, (by rw [← he]; rfl), trivial⟩ (by decide) rfl
                · refine JH.set (d := 74) (v := .bool false) (congrArg (fun b => some (Value.bool b)) hb) ?_
                  refine JH.gskip rfl rfl rfl rfl rfl rfl ?_
                  refine JH.gskip rfl rfl rfl rfl rfl rfl ?_
                  refine JH.gskip rfl rfl rfl rfl rfl rfl ?_
                  refine JH.gskip rfl rfl rfl rfl rfl rfl ?_
                  refine JH.gskip rfl rfl rfl rfl rfl rfl ?_
                  refine JH.gskip rfl rfl rfl rfl rfl rfl ?_
                  refine JH.gskip rfl rfl rfl rfl rfl rfl ?_
                  refine JH.pure rfl (yl_pick_false rfl rfl) rfl ?_
                  have he := Option.some.inj hres
                  exact JH.weak [] K ⟨rfl, rfl, rfl, rfl, rfl, rfl, rfl, rfl, rfl, rfl, rfl, rfl, (by rw [← he]; rfl), trivial⟩ (by decide) rfl
            · intro K
              rcases cond_some hcb14 with ⟨hb, hres⟩ | ⟨hb, hres⟩
              · refine JL.set (d := 57) (v := .bool true) (congrArg (fun b => some (Value.bool b)) hb) ?_
                refine JL.gskip rfl rfl rfl rfl ?_
                refine JL.gskip rfl rfl rfl rfl ?_
                refine JL.gskip rfl rfl rfl rfl ?_
                refine JL.gskip rfl rfl rfl rfl ?_
                refine JL.gskip rfl rfl rfl rfl ?_
                refine JL.gskip rfl rfl rfl rfl ?_
                refine JL.gskip rfl rfl rfl rfl ?_
                refine JL.gskip rfl rfl rfl rfl ?_
                refine JL.gskip rfl rfl rfl rfl ?_
                refine JL.gskip rfl rfl rfl rfl ?_
                refine JL.gskip rfl rfl rfl rfl ?_
                refine JL.gskip rfl rfl rfl rfl ?_
                refine JL.gskip rfl rfl rfl rfl ?_
                refine JL.val (yl_pick_true rfl rfl) rfl ?_
                have he := Option.some.inj hres
                exact JL.weak [0, 1] K ⟨rfl, rfl, rfl, rfl, rfl, rfl, rfl, rfl, rfl, rfl, rfl, (by rw [← he]; rfl), trivial⟩ (by decide) rfl
              · refine JL.set (d := 57) (v := .bool false) (congrArg (fun b => some (Value.bool b)) hb) ?_
                refine JL.gval rfl rfl (yl_fieldAt (a := some _) Go.Proofs.Try.underlying88 rfl i2 i2n rfl rfl) rfl ?_
                refine JL.gval rfl rfl (yl_load1 Go.Proofs.Try.underlying2 rfl rfl (fun w hC => rd_box hC 1 rfl) rfl) rfl ?_
                refine JL.gval rfl rfl (yl_move rfl) rfl ?_
                refine JL.gval rfl rfl (yl_neg rfl) rfl ?_
                refine JL.gval rfl rfl (yl_fieldAt (a := some _) Go.Proofs.Try.underlying26 rfl i2 i2n rfl rfl) rfl ?_
                refine JL.gval rfl rfl (yl_load1 Go.Proofs.Try.underlying2 rfl rfl (fun w hC => rd_box hC 0 rfl) rfl) rfl ?_
                refine JL.gval rfl rfl (yl_mul rfl rfl) rfl ?_
                refine JL.gval rfl rfl (yl_move rfl) rfl ?_
                refine JL.gval rfl rfl (yl_mul rfl rfl) rfl ?_
                refine JL.gval rfl rfl (yl_move rfl) rfl ?_
                refine JL.gval rfl rfl (yl_add rfl rfl) rfl ?_
                obtain ⟨x15, hx15, hres⟩ := bind_some hres
                refine JL.geff rfl rfl (ef_call (T := T107 x15) Go.Proofs.Try.func107 rfl (by kernel_rfl) rfl (fun w hC => c107  hx15)) rfl ?_
                rintro _ _ ⟨_, ⟨rfl, rfl⟩, rfl⟩
                refine JL.gval rfl rfl (yl_not rfl) rfl ?_
                refine JL.val (yl_pick_false rfl rfl) rfl ?_
                have he := Option.some.inj hres
                exact JL.weak [0, 1] K ⟨rfl, rfl, rfl, rfl, rfl, rfl, rfl, rfl, rfl, rfl, rfl, (by rw [← he]; rfl), trivial⟩ (by decide) rfl
          · refine JX.condF rfl hb ?_
            refine JX.exit ?_
            refine JE.qb rfl ?_
            obtain ⟨b1, hb1⟩ : ∃ b : Unit, b = () := ⟨_, rfl⟩
            have hy1 : Sum.inl b1 = y1 := by rw [hb1]; exact hox1 _ (Option.some.inj hres).symm
            have hres := elimS_inl hresO1 hy1
            refine JE.weak (env' := []) (es' := []) [] ?_ trivial (by decide) (by subst hb1; rfl)
            refine JE.code ?_
            refine JX.seq ?_
            refine JX.region ?_
            refine JL.val (yl_assign rfl) rfl ?_
            refine JL.val (yl_assign rfl) rfl ?_
            refine JL.nil ?_
            refine JE.code ?_
            refine JX.ret ?_
            obtain rfl := Option.some.inj hres
            refine JE.ret (rs := [.tmp 10, .tmp 11]) (vs := [.int .i64 (-1), .int .i64 0]) rfl ⟨rfl, rfl, trivial⟩ ?_
            exact fun w' hb hs => ⟨_, _, ⟨rfl, rfl⟩, rfl, hb, hs.sel [] _ (by decide) rfl⟩
      · intro K
        rcases cond_some hcb7 with ⟨hb, hres⟩ | ⟨hb, hres⟩
        · refine JL.set (d := 29) (v := .bool true) (congrArg (fun b => some (Value.bool b)) hb) ?_
          refine JL.gskip rfl rfl rfl rfl ?_
          refine JL.gskip rfl rfl rfl rfl ?_
          refine JL.gskip rfl rfl rfl rfl ?_
          refine JL.val (yl_pick_true rfl rfl) rfl ?_
          have he := Option.some.inj hres
          exact JL.weak [0] K ⟨rfl, rfl, rfl, rfl, rfl, (by rw [← he]; rfl), trivial⟩ (by decide) rfl
        · refine JL.set (d := 29) (v := .bool false) (congrArg (fun b => some (Value.bool b)) hb) ?_
          refine JL.gval rfl rfl (yl_move rfl) rfl ?_
          obtain ⟨x8, hx8, hres⟩ := bind_some hres
          refine JL.geff rfl rfl (ef_call (T := T107 x8) Go.Proofs.Try.func107 rfl (by kernel_rfl) rfl (fun w hC => c107  hx8)) rfl ?_
          rintro _ _ ⟨_, ⟨rfl, rfl⟩, rfl⟩
          refine JL.gval rfl rfl (yl_not rfl) rfl ?_
          refine JL.val (yl_pick_false rfl rfl) rfl ?_
          have he := Option.some.inj hres
          exact JL.weak [0] K ⟨rfl, rfl, rfl, rfl, rfl, (by rw [← he]; rfl), trivial⟩ (by decide) rfl
  · intro K
    rcases cond_some hcb4 with ⟨hb, hres⟩ | ⟨hb, hres⟩
    · refine JL.set (d := 20) (v := .bool true) (congrArg (fun b => some (Value.bool b)) hb) ?_
      refine JL.gskip rfl rfl rfl rfl ?_
      refine JL.gskip rfl rfl rfl rfl ?_
      refine JL.gskip rfl rfl rfl rfl ?_
      refine JL.val (yl_pick_true rfl rfl) rfl ?_
      have he := Option.some.inj hres
      exact JL.weak [0] K ⟨rfl, rfl, rfl, rfl, rfl, (by rw [← he]; rfl), trivial⟩ (by decide) rfl
    · refine JL.set (d := 20) (v := .bool false) (congrArg (fun b => some (Value.bool b)) hb) ?_
      refine JL.gval rfl rfl (yl_move rfl) rfl ?_
      obtain ⟨x5, hx5, hres⟩ := bind_some hres
      refine JL.geff rfl rfl (ef_call (T := T151 x5) Go.Proofs.Try.func151 rfl (by kernel_rfl) rfl (fun w hC => c151 (rd_arg g_1 hC) rfl k_1 hx5)) rfl ?_
      rintro _ _ ⟨_, ⟨rfl, rfl⟩, rfl⟩
      refine JL.gval rfl rfl (yl_not rfl) rfl ?_
      refine JL.val (yl_pick_false rfl rfl) rfl ?_
      have he := Option.some.inj hres
      exact JL.weak [0] K ⟨rfl, rfl, rfl, rfl, rfl, (by rw [← he]; rfl), trivial⟩ (by decide) rfl

/- spec.l22Ok -/
def sh152_1 (q0 : List SToolMove) : Int → Option (Int ⊕ (Unit ⊕ Bool))
  | x1 => bif decide (x1 < (q0.length : Int)) then (Option.bind (getI q0 x1) fun x2 => Option.bind (sh100 x2.X (-100000) 100000) fun x3 => Option.bind (bif !x3 then (some true) else (Option.bind (sh100 x2.Y (-100000) 100000) fun x5 => some !x5)) fun cb4 => (Option.bind (bif cb4 then (some true) else (Option.bind (sh100 x2.Z (-500) 500) fun x7 => some !x7)) fun cb6 => (bif cb6 then (some (.inr (.inr false))) else (some (.inl (w64 (x1 + 1))))))) else (some (.inr (.inl ())))
def sh152 (q0 : List SToolMove) : Option (Bool) := Option.bind (iter (sh152_1 q0) 0) fun y1 => elimS y1 (fun r => some r) fun b1 => (some (decide ((q0.length : Int) ≤ 700)))
def T152 (r : Bool) (v : Value) (rs : List Own) : Prop := v = rets [.bool r] ∧ rs = []
set_option maxRecDepth 100000 in
theorem c152 {w : World} {q0 : List SToolMove} {a_0 : Option Addr} {n_0 c_0 : Nat} (g_0 : Rd w a_0 (eSToolMove.fl q0)) (l_0 : q0.length = n_0) (k_0 : n_0 ≤ c_0) {r : Bool} (hres : sh152 q0 = some r) : Calls Go.Proofs.Try.prog 152 [.slice a_0 n_0 c_0].toArray w (Ret w (T152 r)) := by
  subst l_0
  unfold sh152 at hres
  refine calls_of (n := 39) (M := []) (es := []) Go.Proofs.Try.func152 rfl rfl rfl (Sep.nil _ _ _) ?_
  refine JX.seq ?_
  refine JX.region ?_
  refine JL.val (yl_assign rfl) rfl ?_
  refine JL.nil ?_
  refine JE.code ?_
  refine JX.seq ?_
  refine JX.seq ?_
  refine JX.region ?_
  refine JL.val (yl_assign rfl) rfl ?_
  refine JL.nil ?_
  refine JE.code ?_
  refine JX.block ?_
  obtain ⟨y1, hy1, hresO1⟩ := bind_some hres
  refine JX.loop (I := fun (s1 : Int) aa ww => St w [] 39 [(0, .slice a_0 q0.length c_0), (3, .int .i64 s1)] [] aa ww) (sh152_1 q0) hy1 (fun a w h => h.weak ⟨rfl, rfl, trivial⟩ [] (by decide) rfl) ?_
  rintro x1 o1 hres hox1 aa ww hS
  refine (?_ : JX Go.Proofs.Try.prog w [] 39 _ _ [(0, .slice a_0 q0.length c_0), (3, .int .i64 x1)] [] _) aa ww hS
  clear hS
  unfold sh152_1 at hres
  refine JX.seq ?_
  refine JX.seq ?_
  refine JX.region ?_
  refine JL.val (yl_move rfl) rfl ?_
  refine JL.val (yl_move rfl) rfl ?_
  refine JL.val (yl_len_slice Go.Proofs.Try.underlying65 rfl) rfl ?_
  refine JL.val (yl_lss rfl rfl) rfl ?_
  refine JL.nil ?_
  refine JE.weak (env' := [(0, .slice a_0 q0.length c_0), (3, .int .i64 x1), (8, .bool (decide (x1 < (q0.length : Int))))]) (es' := []) [] ?_ ⟨rfl, rfl, rfl, trivial⟩ (by decide) rfl
  refine JE.code ?_
  rcases cond_some hres with ⟨hb, hres⟩ | ⟨hb, hres⟩
  · refine JX.condT rfl hb ?_
    refine JX.skip ?_
    refine JE.code ?_
    refine JX.seq ?_
    refine JX.block ?_
    refine JX.seq ?_
    refine JX.region ?_
    refine JL.val (yl_move rfl) rfl ?_
    refine JL.val (yl_move rfl) rfl ?_
    obtain ⟨x2, hx2, hres⟩ := bind_some hres
    refine JL.val (yl_idxT Go.Proofs.Try.underlying65 i88 i88s rfl rfl hx2 rfl (fun w hC => rd_arg g_0 hC)) rfl ?_
    refine JL.val (yl_assign rfl) rfl ?_
    refine JL.nil ?_
    refine JE.weak (env' := [(0, .slice a_0 q0.length c_0), (3, .int .i64 x1), (4, ptrAt a_0 ((x1).toNat * eSToolMove.k))]) (es' := []) [] ?_ ⟨rfl, rfl, rfl, trivial⟩ (by decide) rfl
    refine JE.code ?_
    refine JX.seq ?_
    refine JX.region ?_
    refine JL.val (yl_move rfl) rfl ?_
    refine JL.val (yl_nilCheckT rfl hx2 (fun w hC => rd_arg g_0 hC)) rfl ?_
    refine JL.val (yl_fieldAtT Go.Proofs.Try.underlying88 rfl i2 i2n rfl hx2 (fun w hC => rd_arg g_0 hC)) rfl ?_
    refine JL.val (yl_loadT1 Go.Proofs.Try.underlying2 rfl rfl hx2 (fun w hC => rd_arg g_0 hC) rfl) rfl ?_
    obtain ⟨x3, hx3, hres⟩ := bind_some hres
    refine JL.eff (ef_call (T := T100 x3) Go.Proofs.Try.func100 rfl (by kernel_rfl) rfl (fun w hC => c100  hx3)) rfl ?_
    rintro _ _ ⟨_, ⟨rfl, rfl⟩, rfl⟩
    refine JL.val (yl_not rfl) rfl ?_
    refine JL.val (yl_move rfl) rfl ?_
    obtain ⟨cb4, hcb4, hres⟩ := bind_some hres
    refine JL.cut (K := fun J => J [(0, .slice a_0 q0.length c_0), (3, .int .i64 x1), (4, ptrAt a_0 ((x1).toNat * eSToolMove.k)), (27, .bool cb4)] []) 7 ?_ ?_
    · refine JL.val (yl_move rfl) rfl ?_
      obtain ⟨cb6, hcb6, hres⟩ := bind_some hres
      refine JL.cut (K := fun J => J [(0, .slice a_0 q0.length c_0), (3, .int .i64 x1), (35, .bool cb6)] []) 7 ?_ ?_
      · refine JL.nil ?_
        refine JE.weak (env' := [(0, .slice a_0 q0.length c_0), (3, .int .i64 x1), (35, .bool cb6)]) (es' := []) [] ?_ ⟨rfl, rfl, rfl, trivial⟩ (by decide) rfl
        refine JE.code ?_
        rcases cond_some hres with ⟨hb, hres⟩ | ⟨hb, hres⟩
        · refine JX.condT rfl hb ?_
          refine JX.seq ?_
          refine JX.region ?_
          refine JL.val (yl_assign rfl) rfl ?_
          refine JL.nil ?_
          refine JE.code ?_
          refine JX.ret ?_
          refine JE.qbr ?_
          refine JE.qbr ?_
          have hres := elimS_inr hresO1 (hox1 _ (Option.some.inj hres).symm)
          obtain rfl := Option.some.inj hres
          refine JE.ret (rs := [.tmp 2]) (vs := [.bool false]) rfl ⟨rfl, trivial⟩ ?_
          exact fun w' hb hs => ⟨_, _, ⟨rfl, rfl⟩, rfl, hb, hs.sel [] _ (by decide) rfl⟩
        · refine JX.condF rfl hb ?_
          refine JX.skip ?_
          refine JE.code ?_
          refine JX.region ?_
          refine JL.val (yl_move rfl) rfl ?_
          refine JL.val (yl_add rfl rfl) rfl ?_
          refine JL.val (yl_assign rfl) rfl ?_
          refine JL.nil ?_
          refine JE.cont hres ?_
          exact fun a w h => h.weak ⟨rfl, rfl, trivial⟩ [] (by decide) rfl
      · intro K
        rcases cond_some hcb6 with ⟨hb, hres⟩ | ⟨hb, hres⟩
        · refine JL.set (d := 28) (v := .bool true) (congrArg (fun b => some (Value.bool b)) hb) ?_
          refine JL.gskip rfl rfl rfl rfl ?_
          refine JL.gskip rfl rfl rfl rfl ?_
          refine JL.gskip rfl rfl rfl rfl ?_
          refine JL.gskip rfl rfl rfl rfl ?_
          refine JL.gskip rfl rfl rfl rfl ?_
          refine JL.gskip rfl rfl rfl rfl ?_
          refine JL.val (yl_pick_true rfl rfl) rfl ?_
          have he := Option.some.inj hres
          exact JL.weak [] K ⟨rfl, rfl, (by rw [← he]; rfl), trivial⟩ (by decide) rfl
        · refine JL.set (d := 28) (v := .bool false) (congrArg (fun b => some (Value.bool b)) hb) ?_
          refine JL.gval rfl rfl (yl_move rfl) rfl ?_
          refine JL.gval rfl rfl (yl_nilCheckT rfl hx2 (fun w hC => rd_arg g_0 hC)) rfl ?_
          refine JL.gval rfl rfl (yl_fieldAtT Go.Proofs.Try.underlying88 rfl i2 i2n rfl hx2 (fun w hC => rd_arg g_0 hC)) rfl ?_
          refine JL.gval rfl rfl (yl_loadT1 Go.Proofs.Try.underlying2 rfl rfl hx2 (fun w hC => rd_arg g_0 hC) rfl) rfl ?_
          obtain ⟨x7, hx7, hres⟩ := bind_some hres
          refine JL.geff rfl rfl (ef_call (T := T100 x7) Go.Proofs.Try.func100 rfl (by kernel_rfl) rfl (fun w hC => c100  hx7)) rfl ?_
          rintro _ _ ⟨_, ⟨rfl, rfl⟩, rfl⟩
          refine JL.gval rfl rfl (yl_not rfl) rfl ?_
          refine JL.val (yl_pick_false rfl rfl) rfl ?_
          have he := Option.some.inj hres
          exact JL.weak [] K ⟨rfl, rfl, (by rw [← he]; rfl), trivial⟩ (by decide) rfl
    · intro K
      rcases cond_some hcb4 with ⟨hb, hres⟩ | ⟨hb, hres⟩
      · refine JL.set (d := 20) (v := .bool true) (congrArg (fun b => some (Value.bool b)) hb) ?_
        refine JL.gskip rfl rfl rfl rfl ?_
        refine JL.gskip rfl rfl rfl rfl ?_
        refine JL.gskip rfl rfl rfl rfl ?_
        refine JL.gskip rfl rfl rfl rfl ?_
        refine JL.gskip rfl rfl rfl rfl ?_
        refine JL.gskip rfl rfl rfl rfl ?_
        refine JL.val (yl_pick_true rfl rfl) rfl ?_
        have he := Option.some.inj hres
        exact JL.weak [] K ⟨rfl, rfl, rfl, (by rw [← he]; rfl), trivial⟩ (by decide) rfl
      · refine JL.set (d := 20) (v := .bool false) (congrArg (fun b => some (Value.bool b)) hb) ?_
        refine JL.gval rfl rfl (yl_move rfl) rfl ?_
        refine JL.gval rfl rfl (yl_nilCheckT rfl hx2 (fun w hC => rd_arg g_0 hC)) rfl ?_
        refine JL.gval rfl rfl (yl_fieldAtT Go.Proofs.Try.underlying88 rfl i2 i2n rfl hx2 (fun w hC => rd_arg g_0 hC)) rfl ?_
        refine JL.gval rfl rfl (yl_loadT1 Go.Proofs.Try.underlying2 rfl rfl hx2 (fun w hC => rd_arg g_0 hC) rfl) rfl ?_
        obtain ⟨x5, hx5, hres⟩ := bind_some hres
        refine JL.geff rfl rfl (ef_call (T := T100 x5) Go.Proofs.Try.func100 rfl (by kernel_rfl) rfl (fun w hC => c100  hx5)) rfl ?_
        rintro _ _ ⟨_, ⟨rfl, rfl⟩, rfl⟩
        refine JL.gval rfl rfl (yl_not rfl) rfl ?_
        refine JL.val (yl_pick_false rfl rfl) rfl ?_
        have he := Option.some.inj hres
        exact JL.weak [] K ⟨rfl, rfl, rfl, (by rw [← he]; rfl), trivial⟩ (by decide) rfl
  · refine JX.condF rfl hb ?_
    refine JX.exit ?_
    refine JE.qb rfl ?_
    obtain ⟨b1, hb1⟩ : ∃ b : Unit, b = () := ⟨_, rfl⟩
    have hy1 : Sum.inl b1 = y1 := by rw [hb1]; exact hox1 _ (Option.some.inj hres).symm
    have hres := elimS_inl hresO1 hy1
    refine JE.weak (env' := [(0, .slice a_0 q0.length c_0)]) (es' := []) [] ?_ ⟨(by subst hb1; rfl), trivial⟩ (by decide) (by subst hb1; rfl)
    refine JE.code ?_
    refine JX.seq ?_
    refine JX.region ?_
    refine JL.val (yl_move rfl) rfl ?_
    refine JL.val (yl_len_slice Go.Proofs.Try.underlying65 rfl) rfl ?_
    refine JL.val (yl_leq rfl rfl) rfl ?_
    refine JL.val (yl_assign rfl) rfl ?_
    refine JL.nil ?_
    refine JE.weak (env' := [(2, .bool (decide ((q0.length : Int) ≤ 700)))]) (es' := []) [] ?_ ⟨rfl, trivial⟩ (by decide) rfl
    refine JE.code ?_
    refine JX.ret ?_
    obtain rfl := Option.some.inj hres
    refine JE.ret (rs := [.tmp 2]) (vs := [.bool (decide ((q0.length : Int) ≤ 700))]) rfl ⟨rfl, trivial⟩ ?_
    exact fun w' hb hs => ⟨_, _, ⟨rfl, rfl⟩, rfl, hb, hs.sel [] _ (by decide) rfl⟩

/- spec.CheckMoves -/
def sh60_1 (q0 : SPanel) (q1 : List SToolMove) (q2 : Int) (q3 : Int) (q4 : Int) : Int → Option (Int ⊕ (Unit ⊕ (Int × Int)))
  | x11 => bif decide (x11 < (q1.length : Int)) then (Option.bind (getI q1 x11) fun x12 => Option.bind (sh100 x12.X (w64 (0 - q3)) (w64 ((w64 ((w64 (2 * q0.W)) * q2)) + q3))) fun x14 => Option.bind (bif !x14 then (some true) else (Option.bind (sh100 x12.Y (w64 (0 - q3)) (w64 ((w64 ((w64 (2 * q0.H)) * q2)) + q3))) fun x16 => some !x16)) fun cb15 => (bif ((decide (x12.Z < 0)) && cb15) || (decide (x12.Z < (w64 (0 - q4)))) then (some (.inr (.inr (x11, 0)))) else (Option.bind (bif (decide (0 < x11)) && (decide (x12.Z < 0)) then (Option.bind (getI q1 (w64 (x11 - 1))) fun x19 => some (decide (0 ≤ x19.Z))) else (some false)) fun cb18 => (Option.bind (bif cb18 then (Option.bind (getI q1 (w64 (x11 - 1))) fun x21 => Option.bind (bif x12.X != x21.X then (some true) else (Option.bind (getI q1 (w64 (x11 - 1))) fun x23 => some (x12.Y != x23.Y))) fun cb22 => (some cb22)) else (some false)) fun cb20 => (bif cb20 then (some (.inr (.inr (x11, 0)))) else (some (.inl (w64 (x11 + 1))))))))) else (some (.inr (.inl ())))
def sh60 (q0 : SPanel) (q1 : List SToolMove) (q2 : Int) (q3 : Int) (q4 : Int) : Option (Int × Int) := Option.bind (sh139 q0) fun x3 => Option.bind (bif !x3 then (some true) else (Option.bind (sh152 q1) fun x5 => some !x5)) fun cb4 => (bif cb4 then (some (0, 1)) else (Option.bind (sh100 q2 1 1000) fun x6 => Option.bind (bif !x6 then (some true) else (Option.bind (sh100 q3 0 200) fun x8 => some !x8)) fun cb7 => (Option.bind (bif cb7 then (some true) else (Option.bind (sh100 q4 1 500) fun x10 => some !x10)) fun cb9 => (bif cb9 then (some (0, 2)) else (Option.bind (iter (sh60_1 q0 q1 q2 q3 q4) 0) fun y1 => elimS y1 (fun r => some r) fun b1 => (some ((-1), 0)))))))
def T60 (r : Int × Int) (v : Value) (rs : List Own) : Prop := v = rets [.int .i64 r.1, .int .i64 r.2] ∧ rs = []
set_option maxRecDepth 100000 in
set_option maxHeartbeats 1000000 in
theorem c60 {w : World} {q0 : SPanel} {a_0_2 : Option Addr} {n_0_2 c_0_2 : Nat} (g_0_2 : Rd w a_0_2 (eI64.fl q0.Breaks)) (l_0_2 : q0.Breaks.length = n_0_2) (k_0_2 : n_0_2 ≤ c_0_2) {q1 : List SToolMove} {a_1 : Option Addr} {n_1 c_1 : Nat} (g_1 : Rd w a_1 (eSToolMove.fl q1)) (l_1 : q1.length = n_1) (k_1 : n_1 ≤ c_1) {q2 : Int} {q3 : Int} {q4 : Int} {r : Int × Int} (hres : sh60 q0 q1 q2 q3 q4 = some r) : Calls Go.Proofs.Try.prog 60 [.agg #[.int .i64 q0.W, .int .i64 q0.H, .slice a_0_2 n_0_2 c_0_2], .slice a_1 n_1 c_1, .int .i64 q2, .int .i64 q3, .int .i64 q4].toArray w (Ret w (T60 r)) := by
  subst l_0_2
  subst l_1
  unfold sh60 at hres
  refine calls_of (n := 139) (M := []) (es := []) Go.Proofs.Try.func60 rfl rfl rfl (Sep.nil _ _ _) ?_
  refine JX.seq ?_
  refine JX.region ?_
  refine JL.eff (ef_box rfl rfl) rfl ?_
  rintro _ _ ⟨g1, rfl, rfl⟩
  refine JL.val (yl_assign rfl) rfl ?_
  refine JL.val (yl_assign rfl) rfl ?_
  refine JL.nil ?_
  refine JE.code ?_
  refine JX.seq ?_
  refine JX.seq ?_
  refine JX.region ?_
  obtain ⟨x3, hx3, hres⟩ := bind_some hres
  refine JL.eff (ef_call (T := T139 x3) Go.Proofs.Try.func139 rfl (by kernel_rfl) rfl (fun w hC => c139 (RdAt.of0 (rd_box hC 0 rfl)) (rd_arg g_0_2 hC) rfl k_0_2 hx3)) rfl ?_
  rintro _ _ ⟨_, ⟨rfl, rfl⟩, rfl⟩
  refine JL.val (yl_not rfl) rfl ?_
  refine JL.val (yl_move rfl) rfl ?_
  obtain ⟨cb4, hcb4, hres⟩ := bind_some hres
  refine JL.cut (K := fun J => J [(1, .slice a_1 q1.length c_1), (2, .int .i64 q2), (3, .int .i64 q3), (4, .int .i64 q4), (5, ptrAt (some ⟨g1, 0, none⟩) 0), (21, .bool cb4)] [boxO 26 g1 [.int .i64 q0.W, .int .i64 q0.H, .slice a_0_2 q0.Breaks.length c_0_2]]) 4 ?_ ?_
  · refine JL.nil ?_
    refine JE.weak (env' := [(1, .slice a_1 q1.length c_1), (2, .int .i64 q2), (3, .int .i64 q3), (4, .int .i64 q4), (5, ptrAt (some ⟨g1, 0, none⟩) 0), (21, .bool cb4)]) (es' := [boxO 26 g1 [.int .i64 q0.W, .int .i64 q0.H, .slice a_0_2 q0.Breaks.length c_0_2]]) [0] ?_ ⟨rfl, rfl, rfl, rfl, rfl, rfl, trivial⟩ (by decide) rfl
    refine JE.code ?_
    rcases cond_some hres with ⟨hb, hres⟩ | ⟨hb, hres⟩
    · refine JX.condT rfl hb ?_
      refine JX.seq ?_
      refine JX.region ?_
      refine JL.val (yl_assign rfl) rfl ?_
      refine JL.val (yl_assign rfl) rfl ?_
      refine JL.nil ?_
      refine JE.weak (env' := [(10, .int .i64 0), (11, .int .i64 1)]) (es' := []) [] ?_ ⟨rfl, rfl, trivial⟩ (by decide) rfl
      refine JE.code ?_
      refine JX.ret ?_
      obtain rfl := Option.some.inj hres
      refine JE.ret (rs := [.tmp 10, .tmp 11]) (vs := [.int .i64 0, .int .i64 1]) rfl ⟨rfl, rfl, trivial⟩ ?_
      exact fun w' hb hs => ⟨_, _, ⟨rfl, rfl⟩, rfl, hb, hs.sel [] _ (by decide) rfl⟩
    · refine JX.condF rfl hb ?_
      refine JX.skip ?_
      refine JE.code ?_
      refine JX.seq ?_
      refine JX.seq ?_
      refine JX.region ?_
      refine JL.val (yl_move rfl) rfl ?_
      obtain ⟨x6, hx6, hres⟩ := bind_some hres
      refine JL.eff (ef_call (T := T100 x6) Go.Proofs.Try.func100 rfl (by kernel_rfl) rfl (fun w hC => c100  hx6)) rfl ?_
      rintro _ _ ⟨_, ⟨rfl, rfl⟩, rfl⟩
      refine JL.val (yl_not rfl) rfl ?_
      refine JL.val (yl_move rfl) rfl ?_
      obtain ⟨cb7, hcb7, hres⟩ := bind_some hres
      refine JL.cut (K := fun J => J [(1, .slice a_1 q1.length c_1), (2, .int .i64 q2), (3, .int .i64 q3), (4, .int .i64 q4), (5, ptrAt (some ⟨g1, 0, none⟩) 0), (29, .bool cb7)] [boxO 26 g1 [.int .i64 q0.W, .int .i64 q0.H, .slice a_0_2 q0.Breaks.length c_0_2]]) 4 ?_ ?_
      · refine JL.val (yl_move rfl) rfl ?_
        obtain ⟨cb9, hcb9, hres⟩ := bind_some hres
        refine JL.cut (K := fun J => J [(1, .slice a_1 q1.length c_1), (2, .int .i64 q2), (3, .int .i64 q3), (4, .int .i64 q4), (5, ptrAt (some ⟨g1, 0, none⟩) 0), (34, .bool cb9)] [boxO 26 g1 [.int .i64 q0.W, .int .i64 q0.H, .slice a_0_2 q0.Breaks.length c_0_2]]) 4 ?_ ?_
        · refine JL.nil ?_
          refine JE.weak (env' := [(1, .slice a_1 q1.length c_1), (2, .int .i64 q2), (3, .int .i64 q3), (4, .int .i64 q4), (5, ptrAt (some ⟨g1, 0, none⟩) 0), (34, .bool cb9)]) (es' := [boxO 26 g1 [.int .i64 q0.W, .int .i64 q0.H, .slice a_0_2 q0.Breaks.length c_0_2]]) [0] ?_ ⟨rfl, rfl, rfl, rfl, rfl, rfl, trivial⟩ (by decide) rfl
          refine JE.code ?_
          rcases cond_some hres with ⟨hb, hres⟩ | ⟨hb, hres⟩
          · refine JX.condT rfl hb ?_
            refine JX.seq ?_
            refine JX.region ?_
            refine JL.val (yl_assign rfl) rfl ?_
            refine JL.val (yl_assign rfl) rfl ?_
            refine JL.nil ?_
            refine JE.weak (env' := [(10, .int .i64 0), (11, .int .i64 2)]) (es' := []) [] ?_ ⟨rfl, rfl, trivial⟩ (by decide) rfl
            refine JE.code ?_
            refine JX.ret ?_
            obtain rfl := Option.some.inj hres
            refine JE.ret (rs := [.tmp 10, .tmp 11]) (vs := [.int .i64 0, .int .i64 2]) rfl ⟨rfl, rfl, trivial⟩ ?_
            exact fun w' hb hs => ⟨_, _, ⟨rfl, rfl⟩, rfl, hb, hs.sel [] _ (by decide) rfl⟩
          · refine JX.condF rfl hb ?_
            refine JX.skip ?_
            refine JE.code ?_
            refine JX.seq ?_
            refine JX.seq ?_
            refine JX.region ?_
            refine JL.val (yl_assign rfl) rfl ?_
            refine JL.nil ?_
            refine JE.code ?_
            refine JX.block ?_
            obtain ⟨y1, hy1, hresO1⟩ := bind_some hres
            refine JX.loop (I := fun (s1 : Int) aa ww => St w [] 139 [(1, .slice a_1 q1.length c_1), (2, .int .i64 q2), (3, .int .i64 q3), (4, .int .i64 q4), (5, ptrAt (some ⟨g1, 0, none⟩) 0), (12, .int .i64 s1)] [boxO 26 g1 [.int .i64 q0.W, .int .i64 q0.H, .slice a_0_2 q0.Breaks.length c_0_2]] aa ww) (sh60_1 q0 q1 q2 q3 q4) hy1 (fun a w h => h.weak ⟨rfl, rfl, rfl, rfl, rfl, rfl, trivial⟩ [0] (by decide) rfl) ?_
            rintro x11 o1 hres hox1 aa ww hS
            refine (?_ : JX Go.Proofs.Try.prog w [] 139 _ _ [(1, .slice a_1 q1.length c_1), (2, .int .i64 q2), (3, .int .i64 q3), (4, .int .i64 q4), (5, ptrAt (some ⟨g1, 0, none⟩) 0), (12, .int .i64 x11)] [boxO 26 g1 [.int .i64 q0.W, .int .i64 q0.H, .slice a_0_2 q0.Breaks.length c_0_2]] _) aa ww hS
            clear hS
            unfold sh60_1 at hres
            refine JX.seq ?_
            refine JX.seq ?_
            refine JX.region ?_
            refine JL.val (yl_move rfl) rfl ?_
            refine JL.val (yl_move rfl) rfl ?_
            refine JL.val (yl_len_slice Go.Proofs.Try.underlying65 rfl) rfl ?_
            refine JL.val (yl_lss rfl rfl) rfl ?_
            refine JL.nil ?_
            refine JE.weak (env' := [(1, .slice a_1 q1.length c_1), (2, .int .i64 q2), (3, .int .i64 q3), (4, .int .i64 q4), (5, ptrAt (some ⟨g1, 0, none⟩) 0), (12, .int .i64 x11), (38, .bool (decide (x11 < (q1.length : Int))))]) (es' := [boxO 26 g1 [.int .i64 q0.W, .int .i64 q0.H, .slice a_0_2 q0.Breaks.length c_0_2]]) [0] ?_ ⟨rfl, rfl, rfl, rfl, rfl, rfl, rfl, trivial⟩ (by decide) rfl
            refine JE.code ?_
            rcases cond_some hres with ⟨hb, hres⟩ | ⟨hb, hres⟩
            · refine JX.condT rfl hb ?_
              refine JX.skip ?_
              refine JE.code ?_
              refine JX.seq ?_
              refine JX.block ?_
              refine JX.seq ?_
              refine JX.region ?_
              refine JL.val (yl_move rfl) rfl ?_
              refine JL.val (yl_move rfl) rfl ?_
              obtain ⟨x12, hx12, hres⟩ := bind_some hres
              refine JL.val (yl_idxT Go.Proofs.Try.underlying65 i88 i88s rfl rfl hx12 rfl (fun w hC => rd_arg g_1 hC)) rfl ?_
              refine JL.val (yl_assign rfl) rfl ?_
              refine JL.nil ?_
              refine JE.weak (env' := [(1, .slice a_1 q1.length c_1), (2, .int .i64 q2), (3, .int .i64 q3), (4, .int .i64 q4), (5, ptrAt (some ⟨g1, 0, none⟩) 0), (12, .int .i64 x11), (13, ptrAt a_1 ((x11).toNat * eSToolMove.k))]) (es' := [boxO 26 g1 [.int .i64 q0.W, .int .i64 q0.H, .slice a_0_2 q0.Breaks.length c_0_2]]) [0] ?_ ⟨rfl, rfl, rfl, rfl, rfl, rfl, rfl, trivial⟩ (by decide) rfl
              refine JE.code ?_
              refine JX.seq ?_
              refine JX.drawH [(0, .pure), (1, .pure), (2, .pure), (3, .read), (4, .pure), (5, .pure), (6, .pure), (7, .read), (8, .pure), (9, .pure), (10, .pure), (11, .pure), (12, .pure), (13, .must), (14, .pure), (15, .pure), (16, .pure), (17, .pure), (18, .pure), (19, .read), (20, .pure), (21, .pure), (22, .pure), (23, .read), (24, .pure), (25, .pure), (26, .pure), (27, .pure), (28, .pure), (29, .must), (30, .pure), (31, .pure), (32, .pure)] [] [] [0] [] [boxO 26 g1 [.int .i64 q0.W, .int .i64 q0.H, .slice a_0_2 q0.Breaks.length c_0_2]] mixedP (by kernel_rfl) (by kernel_rfl) (by decide) rfl rfl ?_
              intro wrr13 Nr13 hFr13
              refine JH.pure rfl (yl_move rfl) rfl ?_
              refine JH.pure rfl (yl_nilCheckAt rfl (RdT.someQ (rd_arg g_1 hFr13.cl) hx12 rfl rfl)) rfl ?_
              refine JH.pure rfl (yl_fieldAt Go.Proofs.Try.underlying88 rfl i2 i2n rfl (RdT.someQ (rd_arg g_1 hFr13.cl) hx12 rfl rfl)) rfl ?_
              refine JH.read rfl (yl_loadT1 Go.Proofs.Try.underlying2 rfl rfl hx12 (fun w hw => hFr13.arg g_1 hw) rfl) rfl ?_
              refine JH.pure rfl (yl_move rfl) rfl ?_
              refine JH.pure rfl (yl_neg rfl) rfl ?_
              refine JH.pure rfl (yl_fieldAt (a := some _) Go.Proofs.Try.underlying26 rfl i2 i2n rfl rfl) rfl ?_
              refine JH.read rfl (yl_load1 Go.Proofs.Try.underlying2 rfl rfl (fun w hw => hFr13.box 0 rfl rfl hw) rfl) rfl ?_
              refine JH.pure rfl (yl_mul rfl rfl) rfl ?_
              refine JH.pure rfl (yl_move rfl) rfl ?_
              refine JH.pure rfl (yl_mul rfl rfl) rfl ?_
              refine JH.pure rfl (yl_move rfl) rfl ?_
              refine JH.pure rfl (yl_add rfl rfl) rfl ?_
              obtain ⟨x14, hx14, hres⟩ := bind_some hres
              refine JH.must rfl (ef_call (T := T100 x14) Go.Proofs.Try.func100 rfl (by kernel_rfl) rfl (fun w hC => c100  hx14)) rfl rfl ?_
              rintro _ _ ⟨_, ⟨rfl, rfl⟩, rfl⟩
              refine JH.pure rfl (yl_not rfl) rfl ?_
              refine JH.pure rfl (yl_move rfl) rfl ?_
              obtain ⟨cb15, hcb15, hres⟩ := bind_some hres
              refine JH.cut (K := fun J => J [(1, .slice a_1 q1.length c_1), (2, .int .i64 q2), (3, .int .i64 q3), (4, .int .i64 q4), (5, ptrAt (some ⟨g1, 0, none⟩) 0), (12, .int .i64 x11), (13, ptrAt a_1 ((x11).toNat * eSToolMove.k)), (75, .bool cb15)] []) 16 ?_ ?_
              · refine JH.pure rfl (yl_assign rfl) rfl ?_
                refine JH.nil ?_
                refine JE.weak (env' := [(1, .slice a_1 q1.length c_1), (2, .int .i64 q2), (3, .int .i64 q3), (4, .int .i64 q4), (5, ptrAt (some ⟨g1, 0, none⟩) 0), (12, .int .i64 x11), (13, ptrAt a_1 ((x11).toNat * eSToolMove.k)), (14, .bool cb15)]) (es' := [boxO 26 g1 [.int .i64 q0.W, .int .i64 q0.H, .slice a_0_2 q0.Breaks.length c_0_2]]) [0] ?_ ⟨rfl, rfl, rfl, rfl, rfl, rfl, rfl, rfl, trivial⟩ (by decide) rfl
                refine JE.code ?_
                refine JX.seq ?_
                refine JX.seq ?_
                refine JX.region ?_
                refine JL.val (yl_move rfl) rfl ?_
                refine JL.val (yl_nilCheckT rfl hx12 (fun w hC => rd_arg g_1 hC)) rfl ?_
                refine JL.val (yl_fieldAtT Go.Proofs.Try.underlying88 rfl i2 i2n rfl hx12 (fun w hC => rd_arg g_1 hC)) rfl ?_
                refine JL.val (yl_loadT1 Go.Proofs.Try.underlying2 rfl rfl hx12 (fun w hC => rd_arg g_1 hC) rfl) rfl ?_
                refine JL.val (yl_lss rfl rfl) rfl ?_
                refine JL.val (yl_move rfl) rfl ?_
                refine JL.cut (K := fun J => J [(1, .slice a_1 q1.length c_1), (2, .int .i64 q2), (3, .int .i64 q3), (4, .int .i64 q4), (5, ptrAt (some ⟨g1, 0, none⟩) 0), (12, .int .i64 x11), (13, ptrAt a_1 ((x11).toNat * eSToolMove.k)), (83, .bool ((decide (x12.Z < 0)) && cb15))] [boxO 26 g1 [.int .i64 q0.W, .int .i64 q0.H, .slice a_0_2 q0.Breaks.length c_0_2]]) 2 ?_ ?_
                · refine JL.val (yl_move rfl) rfl ?_
                  refine JL.cut (K := fun J => J [(1, .slice a_1 q1.length c_1), (2, .int .i64 q2), (3, .int .i64 q3), (4, .int .i64 q4), (5, ptrAt (some ⟨g1, 0, none⟩) 0), (12, .int .i64 x11), (13, ptrAt a_1 ((x11).toNat * eSToolMove.k)), (92, .bool (((decide (x12.Z < 0)) && cb15) || (decide (x12.Z < (w64 (0 - q4))))))] [boxO 26 g1 [.int .i64 q0.W, .int .i64 q0.H, .slice a_0_2 q0.Breaks.length c_0_2]]) 8 ?_ ?_
                  · refine JL.nil ?_
                    refine JE.weak (env' := [(1, .slice a_1 q1.length c_1), (2, .int .i64 q2), (3, .int .i64 q3), (4, .int .i64 q4), (5, ptrAt (some ⟨g1, 0, none⟩) 0), (12, .int .i64 x11), (13, ptrAt a_1 ((x11).toNat * eSToolMove.k)), (92, .bool (((decide (x12.Z < 0)) && cb15) || (decide (x12.Z < (w64 (0 - q4))))))]) (es' := [boxO 26 g1 [.int .i64 q0.W, .int .i64 q0.H, .slice a_0_2 q0.Breaks.length c_0_2]]) [0] ?_ ⟨rfl, rfl, rfl, rfl, rfl, rfl, rfl, rfl, trivial⟩ (by decide) rfl
                    refine JE.code ?_
                    rcases cond_some hres with ⟨hb, hres⟩ | ⟨hb, hres⟩
                    · refine JX.condT rfl hb ?_
                      refine JX.seq ?_
                      refine JX.region ?_
                      refine JL.val (yl_move rfl) rfl ?_
                      refine JL.val (yl_assign rfl) rfl ?_
                      refine JL.val (yl_assign rfl) rfl ?_
                      refine JL.nil ?_
                      refine JE.weak (env' := [(10, .int .i64 x11), (11, .int .i64 0)]) (es' := []) [] ?_ ⟨rfl, rfl, trivial⟩ (by decide) rfl
                      refine JE.code ?_
                      refine JX.ret ?_
                      refine JE.qbr ?_
                      refine JE.qbr ?_
                      have hres := elimS_inr hresO1 (hox1 _ (Option.some.inj hres).symm)
                      obtain rfl := Option.some.inj hres
                      refine JE.ret (rs := [.tmp 10, .tmp 11]) (vs := [.int .i64 x11, .int .i64 0]) rfl ⟨rfl, rfl, trivial⟩ ?_
                      exact fun w' hb hs => ⟨_, _, ⟨rfl, rfl⟩, rfl, hb, hs.sel [] _ (by decide) rfl⟩
                    · refine JX.condF rfl hb ?_
                      refine JX.skip ?_
                      refine JE.code ?_
                      refine JX.seq ?_
                      refine JX.drawH [(0, .pure), (1, .pure), (2, .pure), (3, .pure), (4, .pure), (5, .pure), (6, .read), (7, .pure), (8, .pure), (9, .pure), (10, .pure), (11, .pure), (12, .pure), (13, .pure), (14, .pure), (15, .read), (16, .pure), (17, .pure), (18, .pure), (19, .pure), (20, .pure), (21, .pure), (22, .read), (23, .pure), (24, .pure), (25, .pure), (26, .pure), (27, .pure), (28, .read), (29, .pure), (30, .pure), (31, .pure), (32, .pure), (33, .pure), (34, .read), (35, .pure), (36, .pure), (37, .pure), (38, .pure), (39, .pure), (40, .read), (41, .pure), (42, .pure), (43, .pure)] [] [] [0] [] [boxO 26 g1 [.int .i64 q0.W, .int .i64 q0.H, .slice a_0_2 q0.Breaks.length c_0_2]] mixedP (by kernel_rfl) (by kernel_rfl) (by decide) rfl rfl ?_
                      intro wrr17 Nr17 hFr17
                      refine JH.pure rfl (yl_move rfl) rfl ?_
                      refine JH.pure rfl (yl_gtr rfl rfl) rfl ?_
                      refine JH.pure rfl (yl_move rfl) rfl ?_
                      refine JH.cut (K := fun J => J [(1, .slice a_1 q1.length c_1), (2, .int .i64 q2), (3, .int .i64 q3), (4, .int .i64 q4), (5, ptrAt (some ⟨g1, 0, none⟩) 0), (12, .int .i64 x11), (13, ptrAt a_1 ((x11).toNat * eSToolMove.k)), (102, .bool ((decide (0 < x11)) && (decide (x12.Z < 0))))] []) 6 ?_ ?_
                      · refine JH.pure rfl (yl_move rfl) rfl ?_
                        obtain ⟨cb18, hcb18, hres⟩ := bind_some hres
                        refine JH.cut (K := fun J => J [(1, .slice a_1 q1.length c_1), (2, .int .i64 q2), (3, .int .i64 q3), (4, .int .i64 q4), (5, ptrAt (some ⟨g1, 0, none⟩) 0), (12, .int .i64 x11), (13, ptrAt a_1 ((x11).toNat * eSToolMove.k)), (111, .bool cb18)] []) 8 ?_ ?_
                        · refine JH.pure rfl (yl_move rfl) rfl ?_
                          obtain ⟨cb20, hcb20, hres⟩ := bind_some hres
                          refine JH.cut (K := fun J => J [(1, .slice a_1 q1.length c_1), (2, .int .i64 q2), (3, .int .i64 q3), (4, .int .i64 q4), (5, ptrAt (some ⟨g1, 0, none⟩) 0), (12, .int .i64 x11), (137, .bool cb20)] []) 25 ?_ ?_
                          · refine JH.nil ?_
                            refine JE.weak (env' := [(1, .slice a_1 q1.length c_1), (2, .int .i64 q2), (3, .int .i64 q3), (4, .int .i64 q4), (5, ptrAt (some ⟨g1, 0, none⟩) 0), (12, .int .i64 x11), (137, .bool cb20)]) (es' := [boxO 26 g1 [.int .i64 q0.W, .int .i64 q0.H, .slice a_0_2 q0.Breaks.length c_0_2]]) [0] ?_ ⟨rfl, rfl, rfl, rfl, rfl, rfl, rfl, trivial⟩ (by decide) rfl
                            refine JE.code ?_
                            rcases cond_some hres with ⟨hb, hres⟩ | ⟨hb, hres⟩
                            · refine JX.condT rfl hb ?_
                              refine JX.seq ?_
                              refine JX.region ?_
                              refine JL.val (yl_move rfl) rfl ?_
                              refine JL.val (yl_assign rfl) rfl ?_
                              refine JL.val (yl_assign rfl) rfl ?_
                              refine JL.nil ?_
                              refine JE.weak (env' := [(10, .int .i64 x11), (11, .int .i64 0)]) (es' := []) [] ?_ ⟨rfl, rfl, trivial⟩ (by decide) rfl
                              refine JE.code ?_
                              refine JX.ret ?_
                              refine JE.qbr ?_
                              refine JE.qbr ?_
                              have hres := elimS_inr hresO1 (hox1 _ (Option.some.inj hres).symm)
                              obtain rfl := Option.some.inj hres
                              refine JE.ret (rs := [.tmp 10, .tmp 11]) (vs := [.int .i64 x11, .int .i64 0]) rfl ⟨rfl, rfl, trivial⟩ ?_
                              exact fun w' hb hs => ⟨_, _, ⟨rfl, rfl⟩, rfl, hb, hs.sel [] _ (by decide) rfl⟩
                            · refine JX.condF rfl hb ?_
                              refine JX.skip ?_
                              refine JE.code ?_
                              refine JX.region ?_
                              refine JL.val (yl_move rfl) rfl ?_
                              refine JL.val (yl_add rfl rfl) rfl ?_
                              refine JL.val (yl_assign rfl) rfl ?_
                              refine JL.nil ?_
                              refine JE.cont hres ?_
                              exact fun a w h => h.weak ⟨rfl, rfl, rfl, rfl, rfl, rfl, trivial⟩ [0] (by decide) rfl
                          · intro K
                            rcases cond_some hcb20 with ⟨hb, hres⟩ | ⟨hb, hres⟩
                            · refine JH.set (d := 112) (v := .bool true) (congrArg (fun b => some (Value.bool b)) hb) ?_
                              refine JH.gpure rfl rfl rfl (yl_move rfl) rfl ?_
                              refine JH.gpure rfl rfl rfl (yl_nilCheckAt rfl (RdT.someQ (rd_arg g_1 hFr17.cl) hx12 rfl rfl)) rfl ?_
                              refine JH.gpure rfl rfl rfl (yl_fieldAt Go.Proofs.Try.underlying88 rfl i2 i2n rfl (RdT.someQ (rd_arg g_1 hFr17.cl) hx12 rfl rfl)) rfl ?_
                              refine JH.gread rfl rfl rfl (yl_loadT1 Go.Proofs.Try.underlying2 rfl rfl hx12 (fun w hw => hFr17.arg g_1 hw) rfl) rfl ?_
                              refine JH.gpure rfl rfl rfl (yl_move rfl) rfl ?_
                              refine JH.gpure rfl rfl rfl (yl_move rfl) rfl ?_
                              refine JH.gpure rfl rfl rfl (yl_sub rfl rfl) rfl ?_
                              obtain ⟨x21, hx21, hres⟩ := bind_some hres
                              refine JH.gpure rfl rfl rfl (yl_idxQ Go.Proofs.Try.underlying65 i88 i88s rfl rfl hx21 rfl (rd_arg g_1 hFr17.cl) rfl) rfl ?_
                              refine JH.gpure rfl rfl rfl (yl_fieldAt Go.Proofs.Try.underlying88 rfl i2 i2n rfl (RdT.someQ (rd_arg g_1 hFr17.cl) hx21 rfl rfl)) rfl ?_
                              refine JH.gread rfl rfl rfl (yl_loadT1 Go.Proofs.Try.underlying2 rfl rfl hx21 (fun w hw => hFr17.arg g_1 hw) rfl) rfl ?_
                              refine JH.gpure rfl rfl rfl (yl_neq rfl rfl) rfl ?_
                              refine JH.gpure rfl rfl rfl (yl_move rfl) rfl ?_
                              obtain ⟨cb22, hcb22, hres⟩ := bind_some hres
                              refine JH.cut (K := fun J => J [(1, .slice a_1 q1.length c_1), (2, .int .i64 q2), (3, .int .i64 q3), (4, .int .i64 q4), (5, ptrAt (some ⟨g1, 0, none⟩) 0), (12, .int .i64 x11), (112, .bool true), (136, .bool cb22)] []) 12 ?_ ?_
                              · refine JH.pure rfl (yl_pick_true rfl rfl) rfl ?_
                                have he := Option.some.inj hres
                                exact JH.weak [] K ⟨rfl, rfl, rfl, rfl, rfl, rfl, (by rw [← he]; rfl), trivial⟩ (by decide) rfl
                              · intro K
                                rcases cond_some hcb22 with ⟨hb, hres⟩ | ⟨hb, hres⟩
                                · refine JH.set (d := 124) (v := .bool true) (congrArg (fun b => some (Value.bool b)) hb) ?_
                                  refine JH.gskip rfl rfl rfl rfl rfl rfl ?_
                                  refine JH.gskip rfl rfl rfl rfl rfl rfl ?_
                                  refine JH.gskip rfl rfl rfl rfl rfl rfl ?_
                                  refine JH.gskip rfl rfl rfl rfl rfl rfl ?_
                                  refine JH.gskip rfl rfl rfl rfl rfl rfl ?_
                                  refine JH.gskip rfl rfl rfl rfl rfl rfl ?_
                                  refine JH.gskip rfl rfl rfl rfl rfl rfl ?_
                                  refine JH.gskip rfl rfl rfl rfl rfl rfl ?_
                                  refine JH.gskip rfl rfl rfl rfl rfl rfl ?_
                                  refine JH.gskip rfl rfl rfl rfl rfl rfl ?_
                                  refine JH.gskip rfl rfl rfl rfl rfl rfl ?_
                                  refine JH.gpure rfl rfl rfl (yl_pick_true rfl rfl) rfl ?_
                                  have he := Option.some.inj hres
                                  exact JH.weak [] K ⟨rfl, rfl, rfl, rfl, rfl, rfl, rfl, (by rw [← he]; rfl), trivial⟩ (by decide) rfl
                                · refine JH.set (d := 124) (v := .bool false) (congrArg (fun b => some (Value.bool b)) hb) ?_
                                  refine JH.gpure rfl rfl rfl (yl_move rfl) rfl ?_
                                  refine JH.gpure rfl rfl rfl (yl_nilCheckAt rfl (RdT.someQ (rd_arg g_1 hFr17.cl) hx12 rfl rfl)) rfl ?_
                                  refine JH.gpure rfl rfl rfl (yl_fieldAt Go.Proofs.Try.underlying88 rfl i2 i2n rfl (RdT.someQ (rd_arg g_1 hFr17.cl) hx12 rfl rfl)) rfl ?_
                                  refine JH.gread rfl rfl rfl (yl_loadT1 Go.Proofs.Try.underlying2 rfl rfl hx12 (fun w hw => hFr17.arg g_1 hw) rfl) rfl ?_
                                  refine JH.gpure rfl rfl rfl (yl_move rfl) rfl ?_
                                  refine JH.gpure rfl rfl rfl (yl_move rfl) rfl ?_
                                  refine JH.gpure rfl rfl rfl (yl_sub rfl rfl) rfl ?_
                                  obtain ⟨x23, hx23, hres⟩ := bind_some hres
                                  refine JH.gpure rfl rfl rfl (yl_idxQ Go.Proofs.Try.underlying65 i88 i88s rfl rfl hx23 rfl (rd_arg g_1 hFr17.cl) rfl) rfl ?_
                                  refine JH.gpure rfl rfl rfl (yl_fieldAt Go.Proofs.Try.underlying88 rfl i2 i2n rfl (RdT.someQ (rd_arg g_1 hFr17.cl) hx23 rfl rfl)) rfl ?_
                                  refine JH.gread rfl rfl rfl (yl_loadT1 Go.Proofs.Try.underlying2 rfl rfl hx23 (fun w hw => hFr17.arg g_1 hw) rfl) rfl ?_
                                  refine JH.gpure rfl rfl rfl (yl_neq rfl rfl) rfl ?_
                                  refine JH.gpure rfl rfl rfl (yl_pick_false rfl rfl) rfl ?_
                                  have he := Option.some.inj hres
                                  exact JH.weak [] K ⟨rfl, rfl, rfl, rfl, rfl, rfl, rfl, (by rw [← he]; rfl), trivial⟩ (by decide) rfl
                            · refine JH.set (d := 112) (v := .bool false) (congrArg (fun b => some (Value.bool b)) hb) ?_
                              refine JH.gskip rfl rfl rfl rfl rfl rfl ?_
                              refine JH.gskip rfl rfl rfl rfl rfl rfl ?_
                              refine JH.gskip rfl rfl rfl rfl rfl rfl ?_
                              refine JH.gskip rfl rfl rfl rfl rfl rfl ?_
                              refine JH.gskip rfl rfl rfl rfl rfl rfl ?_
                              refine JH.gskip rfl rfl rfl rfl rfl rfl ?_
                              refine JH.gskip rfl rfl rfl rfl rfl rfl ?_
                              refine JH.gskip rfl rfl rfl rfl rfl rfl ?_
                              refine JH.gskip rfl rfl rfl rfl rfl rfl ?_
                              refine JH.gskip rfl rfl rfl rfl rfl rfl ?_
                              refine JH.gskip rfl rfl rfl rfl rfl rfl ?_
                              refine JH.gskip rfl rfl rfl rfl rfl rfl ?_
                              refine JH.gnone rfl rfl rfl rfl rfl ?_
                              refine JH.gnone rfl rfl rfl rfl rfl ?_
                              refine JH.gnone rfl rfl rfl rfl rfl ?_
                              refine JH.gnone rfl rfl rfl rfl rfl ?_
                              refine JH.gnone rfl rfl rfl rfl rfl ?_
                              refine JH.gnone rfl rfl rfl rfl rfl ?_
                              refine JH.gnone rfl rfl rfl rfl rfl ?_
                              refine JH.gnone rfl rfl rfl rfl rfl ?_
                              refine JH.gnone rfl rfl rfl rfl rfl ?_
                              refine JH.gnone rfl rfl rfl rfl rfl ?_
                              refine JH.gnone rfl rfl rfl rfl rfl ?_
                              refine JH.gskip rfl rfl rfl rfl rfl rfl ?_
                              refine JH.pure rfl (yl_pick_false rfl rfl) rfl ?_
                              have he := Option.some.inj hres
                              exact JH.weak [] K ⟨rfl, rfl, rfl, rfl, rfl, rfl, (by rw [← he]; rfl), trivial⟩ (by decide) rfl
                        · intro K
                          rcases cond_some hcb18 with ⟨hb, hres⟩ | ⟨hb, hres⟩
                          · refine JH.set (d := 103) (v := .bool true) (congrArg (fun b => some (Value.bool b)) hb) ?_
                            refine JH.gpure rfl rfl rfl (yl_move rfl) rfl ?_
                            refine JH.gpure rfl rfl rfl (yl_move rfl) rfl ?_
                            refine JH.gpure rfl rfl rfl (yl_sub rfl rfl) rfl ?_
                            obtain ⟨x19, hx19, hres⟩ := bind_some hres
                            refine JH.gpure rfl rfl rfl (yl_idxQ Go.Proofs.Try.underlying65 i88 i88s rfl rfl hx19 rfl (rd_arg g_1 hFr17.cl) rfl) rfl ?_
                            refine JH.gpure rfl rfl rfl (yl_fieldAt Go.Proofs.Try.underlying88 rfl i2 i2n rfl (RdT.someQ (rd_arg g_1 hFr17.cl) hx19 rfl rfl)) rfl ?_
                            refine JH.gread rfl rfl rfl (yl_loadT1 Go.Proofs.Try.underlying2 rfl rfl hx19 (fun w hw => hFr17.arg g_1 hw) rfl) rfl ?_
                            refine JH.gpure rfl rfl rfl (yl_geq rfl rfl) rfl ?_
                            refine JH.pure rfl (yl_pick_true rfl rfl) rfl ?_
                            have he := Option.some.inj hres
                            exact JH.weak [] K ⟨rfl, rfl, rfl, rfl, rfl, rfl, rfl, (by rw [← he]; rfl), trivial⟩ (by decide) rfl
                          · refine JH.set (d := 103) (v := .bool false) (congrArg (fun b => some (Value.bool b)) hb) ?_
                            refine JH.gskip rfl rfl rfl rfl rfl rfl ?_
                            refine JH.gskip rfl rfl rfl rfl rfl rfl ?_
                            refine JH.gskip rfl rfl rfl rfl rfl rfl ?_
                            refine JH.gskip rfl rfl rfl rfl rfl rfl ?_
                            refine JH.gskip rfl rfl rfl rfl rfl rfl ?_
                            refine JH.gskip rfl rfl rfl rfl rfl rfl ?_
                            refine JH.gskip rfl rfl rfl rfl rfl rfl ?_
                            refine JH.pure rfl (yl_pick_false rfl rfl) rfl ?_
                            have he := Option.some.inj hres
                            exact JH.weak [] K ⟨rfl, rfl, rfl, rfl, rfl, rfl, rfl, (by rw [← he]; rfl), trivial⟩ (by decide) rfl
                      · intro K
                        rcases Bool.eq_false_or_eq_true (decide (0 < x11)) with hb | hb
                        · refine JH.set (d := 96) (v := .bool true) (congrArg (fun b => some (Value.bool b)) hb) ?_
                          refine JH.gpure rfl rfl rfl (yl_move rfl) rfl ?_
                          refine JH.gpure rfl rfl rfl (yl_nilCheckAt rfl (RdT.someQ (rd_arg g_1 hFr17.cl) hx12 rfl rfl)) rfl ?_
                          refine JH.gpure rfl rfl rfl (yl_fieldAt Go.Proofs.Try.underlying88 rfl i2 i2n rfl (RdT.someQ (rd_arg g_1 hFr17.cl) hx12 rfl rfl)) rfl ?_
                          refine JH.gread rfl rfl rfl (yl_loadT1 Go.Proofs.Try.underlying2 rfl rfl hx12 (fun w hw => hFr17.arg g_1 hw) rfl) rfl ?_
                          refine JH.gpure rfl rfl rfl (yl_lss rfl rfl) rfl ?_
                          refine JH.pure rfl (yl_pick_true rfl rfl) rfl ?_
                          exact JH.weak [] K ⟨rfl, rfl, rfl, rfl, rfl, rfl, rfl, (by rw [hb]; rfl), trivial⟩ (by decide) rfl
                        · refine JH.set (d := 96) (v := .bool false) (congrArg (fun b => some (Value.bool b)) hb) ?_
                          refine JH.gskip rfl rfl rfl rfl rfl rfl ?_
                          refine JH.gskip rfl rfl rfl rfl rfl rfl ?_
                          refine JH.gskip rfl rfl rfl rfl rfl rfl ?_
                          refine JH.gskip rfl rfl rfl rfl rfl rfl ?_
                          refine JH.gskip rfl rfl rfl rfl rfl rfl ?_
                          refine JH.pure rfl (yl_pick_false rfl rfl) rfl ?_
                          exact JH.weak [] K ⟨rfl, rfl, rfl, rfl, rfl, rfl, rfl, (by rw [hb]; rfl), trivial⟩ (by decide) rfl
                  · intro K
                    rcases Bool.eq_false_or_eq_true ((decide (x12.Z < 0)) && cb15) with hb | hb
                    · refine JL.set (d := 84) (v := .bool true) (congrArg (fun b => some (Value.bool b)) hb) ?_
                      refine JL.gskip rfl rfl rfl rfl ?_
                      refine JL.gskip rfl rfl rfl rfl ?_
                      refine JL.gskip rfl rfl rfl rfl ?_
                      refine JL.gskip rfl rfl rfl rfl ?_
                      refine JL.gskip rfl rfl rfl rfl ?_
                      refine JL.gskip rfl rfl rfl rfl ?_
                      refine JL.gskip rfl rfl rfl rfl ?_
                      refine JL.val (yl_pick_true rfl rfl) rfl ?_
                      exact JL.weak [0] K ⟨rfl, rfl, rfl, rfl, rfl, rfl, rfl, (by rw [hb]; rfl), trivial⟩ (by decide) rfl
                    · refine JL.set (d := 84) (v := .bool false) (congrArg (fun b => some (Value.bool b)) hb) ?_
                      refine JL.gval rfl rfl (yl_move rfl) rfl ?_
                      refine JL.gval rfl rfl (yl_nilCheckT rfl hx12 (fun w hC => rd_arg g_1 hC)) rfl ?_
                      refine JL.gval rfl rfl (yl_fieldAtT Go.Proofs.Try.underlying88 rfl i2 i2n rfl hx12 (fun w hC => rd_arg g_1 hC)) rfl ?_
                      refine JL.gval rfl rfl (yl_loadT1 Go.Proofs.Try.underlying2 rfl rfl hx12 (fun w hC => rd_arg g_1 hC) rfl) rfl ?_
                      refine JL.gval rfl rfl (yl_move rfl) rfl ?_
                      refine JL.gval rfl rfl (yl_neg rfl) rfl ?_
                      refine JL.gval rfl rfl (yl_lss rfl rfl) rfl ?_
                      refine JL.val (yl_pick_false rfl rfl) rfl ?_
                      exact JL.weak [0] K ⟨rfl, rfl, rfl, rfl, rfl, rfl, rfl, (by rw [hb]; rfl), trivial⟩ (by decide) rfl
                · intro K
                  rcases Bool.eq_false_or_eq_true (decide (x12.Z < 0)) with hb | hb
                  · refine JL.set (d := 81) (v := .bool true) (congrArg (fun b => some (Value.bool b)) hb) ?_
                    refine JL.gval rfl rfl (yl_move rfl) rfl ?_
                    refine JL.val (yl_pick_true rfl rfl) rfl ?_
                    exact JL.weak [0] K ⟨rfl, rfl, rfl, rfl, rfl, rfl, rfl, (by rw [hb]; rfl), trivial⟩ (by decide) rfl
                  · refine JL.set (d := 81) (v := .bool false) (congrArg (fun b => some (Value.bool b)) hb) ?_
                    refine JL.gskip rfl rfl rfl rfl ?_
                    refine JL.val (yl_pick_false rfl rfl) rfl ?_
                    exact JL.weak [0] K ⟨rfl, rfl, rfl, rfl, rfl, rfl, rfl, (by rw [hb]; rfl), trivial⟩ (by decide) rfl
              · intro K
                rcases cond_some hcb15 with ⟨hb, hres⟩ | ⟨hb, hres⟩
                · refine JH.set (d := 59) (v := .bool true) (congrArg (fun b => some (Value.bool b)) hb) ?_
                  refine JH.gskip rfl rfl rfl rfl rfl rfl ?_
                  refine JH.gskip rfl rfl rfl rfl rfl rfl ?_
                  refine JH.gskip rfl rfl rfl rfl rfl rfl ?_
                  refine JH.gskip rfl rfl rfl rfl rfl rfl ?_
                  refine JH.gskip rfl rfl rfl rfl rfl rfl ?_
                  refine JH.gskip rfl rfl rfl rfl rfl rfl ?_
                  refine JH.gskip rfl rfl rfl rfl rfl rfl ?_
                  refine JH.gskip rfl rfl rfl rfl rfl rfl ?_
                  refine JH.gskip rfl rfl rfl rfl rfl rfl ?_
                  refine JH.gskip rfl rfl rfl rfl rfl rfl ?_
                  refine JH.gskip rfl rfl rfl rfl rfl rfl ?_
                  refine JH.gskip rfl rfl rfl rfl rfl rfl ?_
                  refine JH.gskip rfl rfl rfl rfl rfl rfl ?_
                  refine JH.gskip rfl rfl rfl rfl rfl rfl ?_
                  refine JH.gskip rfl rfl rfl rfl rfl rfl ?_
                  refine JH.pure rfl (yl_pick_true rfl rfl) rfl ?_
                  have he := Option.some.inj hres
                  exact JH.weak [] K ⟨rfl, rfl, rfl, rfl, rfl, rfl, rfl, (by rw [← he]; rfl), trivial⟩ (by decide) rfl
                · refine JH.set (d := 59) (v := .bool false) (congrArg (fun b => some (Value.bool b)) hb) ?_
                  refine JH.gpure rfl rfl rfl (yl_move rfl) rfl ?_
                  refine JH.gpure rfl rfl rfl (yl_nilCheckAt rfl (RdT.someQ (rd_arg g_1 hFr13.cl) hx12 rfl rfl)) rfl ?_
                  refine JH.gpure rfl rfl rfl (yl_fieldAt Go.Proofs.Try.underlying88 rfl i2 i2n rfl (RdT.someQ (rd_arg g_1 hFr13.cl) hx12 rfl rfl)) rfl ?_
                  refine JH.gread rfl rfl rfl (yl_loadT1 Go.Proofs.Try.underlying2 rfl rfl hx12 (fun w hw => hFr13.arg g_1 hw) rfl) rfl ?_
                  refine JH.gpure rfl rfl rfl (yl_move rfl) rfl ?_
                  refine JH.gpure rfl rfl rfl (yl_neg rfl) rfl ?_
                  refine JH.gpure rfl rfl rfl (yl_fieldAt (a := some _) Go.Proofs.Try.underlying26 rfl i2 i2n rfl rfl) rfl ?_
                  refine JH.gread rfl rfl rfl (yl_load1 Go.Proofs.Try.underlying2 rfl rfl (fun w hw => hFr13.box 0 rfl rfl hw) rfl) rfl ?_
                  refine JH.gpure rfl rfl rfl (yl_mul rfl rfl) rfl ?_
                  refine JH.gpure rfl rfl rfl (yl_move rfl) rfl ?_
                  refine JH.gpure rfl rfl rfl (yl_mul rfl rfl) rfl ?_
                  refine JH.gpure rfl rfl rfl (yl_move rfl) rfl ?_
                  refine JH.gpure rfl rfl rfl (yl_add rfl rfl) rfl ?_
                  obtain ⟨x16, hx16, hres⟩ := bind_some hres
                  refine JH.gmust rfl rfl rfl (ef_call (T := T100 x16) Go.Proofs.Try.func100 rfl (by kernel_rfl) rfl (fun w hC => c100  hx16)) rfl rfl ?_
                  rintro _ _ ⟨_, ⟨rfl, rfl⟩, rfl⟩
                  refine JH.gpure rfl rfl rfl (yl_not rfl) rfl ?_
                  refine JH.pure rfl (yl_pick_false rfl rfl) rfl ?_
                  have he := Option.some.inj hres
                  exact JH.weak [] K ⟨rfl, rfl, rfl, rfl, rfl, rfl, rfl, (by rw [← he]; rfl), trivial⟩ (by decide) rfl
            · refine JX.condF rfl hb ?_
              refine JX.exit ?_
              refine JE.qb rfl ?_
              obtain ⟨b1, hb1⟩ : ∃ b : Unit, b = () := ⟨_, rfl⟩
              have hy1 : Sum.inl b1 = y1 := by rw [hb1]; exact hox1 _ (Option.some.inj hres).symm
              have hres := elimS_inl hresO1 hy1
              refine JE.weak (env' := []) (es' := []) [] ?_ trivial (by decide) (by subst hb1; rfl)
              refine JE.code ?_
              refine JX.seq ?_
              refine JX.region ?_
              refine JL.val (yl_assign rfl) rfl ?_
              refine JL.val (yl_assign rfl) rfl ?_
              refine JL.nil ?_
              refine JE.code ?_
              refine JX.ret ?_
              obtain rfl := Option.some.inj hres
              refine JE.ret (rs := [.tmp 10, .tmp 11]) (vs := [.int .i64 (-1), .int .i64 0]) rfl ⟨rfl, rfl, trivial⟩ ?_
              exact fun w' hb hs => ⟨_, _, ⟨rfl, rfl⟩, rfl, hb, hs.sel [] _ (by decide) rfl⟩
        · intro K
          rcases cond_some hcb9 with ⟨hb, hres⟩ | ⟨hb, hres⟩
          · refine JL.set (d := 30) (v := .bool true) (congrArg (fun b => some (Value.bool b)) hb) ?_
            refine JL.gskip rfl rfl rfl rfl ?_
            refine JL.gskip rfl rfl rfl rfl ?_
            refine JL.gskip rfl rfl rfl rfl ?_
            refine JL.val (yl_pick_true rfl rfl) rfl ?_
            have he := Option.some.inj hres
            exact JL.weak [0] K ⟨rfl, rfl, rfl, rfl, rfl, (by rw [← he]; rfl), trivial⟩ (by decide) rfl
          · refine JL.set (d := 30) (v := .bool false) (congrArg (fun b => some (Value.bool b)) hb) ?_
            refine JL.gval rfl rfl (yl_move rfl) rfl ?_
            obtain ⟨x10, hx10, hres⟩ := bind_some hres
            refine JL.geff rfl rfl (ef_call (T := T100 x10) Go.Proofs.Try.func100 rfl (by kernel_rfl) rfl (fun w hC => c100  hx10)) rfl ?_
            rintro _ _ ⟨_, ⟨rfl, rfl⟩, rfl⟩
            refine JL.gval rfl rfl (yl_not rfl) rfl ?_
            refine JL.val (yl_pick_false rfl rfl) rfl ?_
            have he := Option.some.inj hres
            exact JL.weak [0] K ⟨rfl, rfl, rfl, rfl, rfl, (by rw [← he]; rfl), trivial⟩ (by decide) rfl
      · intro K
        rcases cond_some hcb7 with ⟨hb, hres⟩ | ⟨hb, hres⟩
        · refine JL.set (d := 25) (v := .bool true) (congrArg (fun b => some (Value.bool b)) hb) ?_
          refine JL.gskip rfl rfl rfl rfl ?_
          refine JL.gskip rfl rfl rfl rfl ?_
          refine JL.gskip rfl rfl rfl rfl ?_
          refine JL.val (yl_pick_true rfl rfl) rfl ?_
          have he := Option.some.inj hres
          exact JL.weak [0] K ⟨rfl, rfl, rfl, rfl, rfl, (by rw [← he]; rfl), trivial⟩ (by decide) rfl
        · refine JL.set (d := 25) (v := .bool false) (congrArg (fun b => some (Value.bool b)) hb) ?_
          refine JL.gval rfl rfl (yl_move rfl) rfl ?_
          obtain ⟨x8, hx8, hres⟩ := bind_some hres
          refine JL.geff rfl rfl (ef_call (T := T100 x8) Go.Proofs.Try.func100 rfl (by kernel_rfl) rfl (fun w hC => c100  hx8)) rfl ?_
          rintro _ _ ⟨_, ⟨rfl, rfl⟩, rfl⟩
          refine JL.gval rfl rfl (yl_not rfl) rfl ?_
          refine JL.val (yl_pick_false rfl rfl) rfl ?_
          have he := Option.some.inj hres
          exact JL.weak [0] K ⟨rfl, rfl, rfl, rfl, rfl, (by rw [← he]; rfl), trivial⟩ (by decide) rfl
  · intro K
    rcases cond_some hcb4 with ⟨hb, hres⟩ | ⟨hb, hres⟩
    · refine JL.set (d := 17) (v := .bool true) (congrArg (fun b => some (Value.bool b)) hb) ?_
      refine JL.gskip rfl rfl rfl rfl ?_
      refine JL.gskip rfl rfl rfl rfl ?_
      refine JL.gskip rfl rfl rfl rfl ?_
      refine JL.val (yl_pick_true rfl rfl) rfl ?_
      have he := Option.some.inj hres
      exact JL.weak [0] K ⟨rfl, rfl, rfl, rfl, rfl, (by rw [← he]; rfl), trivial⟩ (by decide) rfl
    · refine JL.set (d := 17) (v := .bool false) (congrArg (fun b => some (Value.bool b)) hb) ?_
      refine JL.gval rfl rfl (yl_move rfl) rfl ?_
      obtain ⟨x5, hx5, hres⟩ := bind_some hres
      refine JL.geff rfl rfl (ef_call (T := T152 x5) Go.Proofs.Try.func152 rfl (by kernel_rfl) rfl (fun w hC => c152 (rd_arg g_1 hC) rfl k_1 hx5)) rfl ?_
      rintro _ _ ⟨_, ⟨rfl, rfl⟩, rfl⟩
      refine JL.gval rfl rfl (yl_not rfl) rfl ?_
      refine JL.val (yl_pick_false rfl rfl) rfl ?_
      have he := Option.some.inj hres
      exact JL.weak [0] K ⟨rfl, rfl, rfl, rfl, rfl, (by rw [← he]; rfl), trivial⟩ (by decide) rfl

/- laws.f6tools -/
def sh61_1 (q0 : List SToolMove) (q1 : List SToolMove) : Int → Option (Int ⊕ (Unit ⊕ Bool))
  | x1 => bif decide (x1 < (q0.length : Int)) then (Option.bind (getI q0 x1) fun x3 => Option.bind (getI q1 x1) fun x4 => bif !(((x3.X == x4.X) && ((x3.Y == x4.Y) && ((x3.Z == x4.Z) && true)))) then (some (.inr (.inr false))) else (some (.inl (w64 (x1 + 1))))) else (some (.inr (.inl ())))
def sh61 (q0 : List SToolMove) (q1 : List SToolMove) : Option (Bool) := bif (q0.length : Int) != (q1.length : Int) then (some false) else (Option.bind (iter (sh61_1 q0 q1) 0) fun y1 => elimS y1 (fun r => some r) fun b1 => (some true))
def T61 (r : Bool) (v : Value) (rs : List Own) : Prop := v = rets [.bool r] ∧ rs = []
set_option maxRecDepth 100000 in
theorem c61 {w : World} {q0 : List SToolMove} {a_0 : Option Addr} {n_0 c_0 : Nat} (g_0 : Rd w a_0 (eSToolMove.fl q0)) (l_0 : q0.length = n_0) (k_0 : n_0 ≤ c_0) {q1 : List SToolMove} {a_1 : Option Addr} {n_1 c_1 : Nat} (g_1 : Rd w a_1 (eSToolMove.fl q1)) (l_1 : q1.length = n_1) (k_1 : n_1 ≤ c_1) {r : Bool} (hres : sh61 q0 q1 = some r) : Calls Go.Proofs.Try.prog 61 [.slice a_0 n_0 c_0, .slice a_1 n_1 c_1].toArray w (Ret w (T61 r)) := by
  subst l_0
  subst l_1
  unfold sh61 at hres
  refine calls_of (n := 26) (M := []) (es := []) Go.Proofs.Try.func61 rfl rfl rfl (Sep.nil _ _ _) ?_
  refine JX.seq ?_
  refine JX.region ?_
  refine JL.val (yl_assign rfl) rfl ?_
  refine JL.nil ?_
  refine JE.code ?_
  refine JX.seq ?_
  refine JX.seq ?_
  refine JX.region ?_
  refine JL.val (yl_move rfl) rfl ?_
  refine JL.val (yl_len_slice Go.Proofs.Try.underlying65 rfl) rfl ?_
  refine JL.val (yl_move rfl) rfl ?_
  refine JL.val (yl_len_slice Go.Proofs.Try.underlying65 rfl) rfl ?_
  refine JL.val (yl_neq rfl rfl) rfl ?_
  refine JL.nil ?_
  refine JE.weak (env' := [(0, .slice a_0 q0.length c_0), (1, .slice a_1 q1.length c_1), (10, .bool ((q0.length : Int) != (q1.length : Int)))]) (es' := []) [] ?_ ⟨rfl, rfl, rfl, trivial⟩ (by decide) rfl
  refine JE.code ?_
  rcases cond_some hres with ⟨hb, hres⟩ | ⟨hb, hres⟩
  · refine JX.condT rfl hb ?_
    refine JX.seq ?_
    refine JX.region ?_
    refine JL.val (yl_assign rfl) rfl ?_
    refine JL.nil ?_
    refine JE.code ?_
    refine JX.ret ?_
    obtain rfl := Option.some.inj hres
    refine JE.ret (rs := [.tmp 4]) (vs := [.bool false]) rfl ⟨rfl, trivial⟩ ?_
    exact fun w' hb hs => ⟨_, _, ⟨rfl, rfl⟩, rfl, hb, hs.sel [] _ (by decide) rfl⟩
  · refine JX.condF rfl hb ?_
    refine JX.skip ?_
    refine JE.code ?_
    refine JX.seq ?_
    refine JX.seq ?_
    refine JX.region ?_
    refine JL.val (yl_assign rfl) rfl ?_
    refine JL.nil ?_
    refine JE.code ?_
    refine JX.block ?_
    obtain ⟨y1, hy1, hresO1⟩ := bind_some hres
    refine JX.loop (I := fun (s1 : Int) aa ww => St w [] 26 [(0, .slice a_0 q0.length c_0), (1, .slice a_1 q1.length c_1), (5, .int .i64 s1)] [] aa ww) (sh61_1 q0 q1) hy1 (fun a w h => h.weak ⟨rfl, rfl, rfl, trivial⟩ [] (by decide) rfl) ?_
    rintro x1 o1 hres hox1 aa ww hS
    refine (?_ : JX Go.Proofs.Try.prog w [] 26 _ _ [(0, .slice a_0 q0.length c_0), (1, .slice a_1 q1.length c_1), (5, .int .i64 x1)] [] _) aa ww hS
    clear hS
    unfold sh61_1 at hres
    refine JX.seq ?_
    refine JX.seq ?_
    refine JX.region ?_
    refine JL.val (yl_move rfl) rfl ?_
    refine JL.val (yl_move rfl) rfl ?_
    refine JL.val (yl_len_slice Go.Proofs.Try.underlying65 rfl) rfl ?_
    refine JL.val (yl_lss rfl rfl) rfl ?_
    refine JL.nil ?_
    refine JE.weak (env' := [(0, .slice a_0 q0.length c_0), (1, .slice a_1 q1.length c_1), (5, .int .i64 x1), (14, .bool (decide (x1 < (q0.length : Int))))]) (es' := []) [] ?_ ⟨rfl, rfl, rfl, rfl, trivial⟩ (by decide) rfl
    refine JE.code ?_
    rcases cond_some hres with ⟨hb, hres⟩ | ⟨hb, hres⟩
    · refine JX.condT rfl hb ?_
      refine JX.skip ?_
      refine JE.code ?_
      refine JX.seq ?_
      refine JX.block ?_
      refine JX.seq ?_
      refine JX.drawH [(0, .pure), (1, .pure), (2, .pure), (3, .read), (4, .pure), (5, .pure), (6, .pure), (7, .read), (8, .pure)] [] [] [] [] [] mixedP (by kernel_rfl) (by kernel_rfl) (by decide) rfl rfl ?_
      intro wrr2 Nr2 hFr2
      refine JH.pure rfl (yl_move rfl) rfl ?_
      refine JH.pure rfl (yl_move rfl) rfl ?_
      obtain ⟨x3, hx3, hres⟩ := bind_some hres
      refine JH.pure rfl (yl_idxQ Go.Proofs.Try.underlying65 i88 i88s rfl rfl hx3 rfl (rd_arg g_0 hFr2.cl) rfl) rfl ?_
      refine JH.read rfl (yl_loadTn Go.Proofs.Try.underlying88 rfl i88 i88s rfl hx3 (fun w hw => hFr2.arg g_0 hw)) rfl ?_
      refine JH.pure rfl (yl_move rfl) rfl ?_
      refine JH.pure rfl (yl_move rfl) rfl ?_
      obtain ⟨x4, hx4, hres⟩ := bind_some hres
      refine JH.pure rfl (yl_idxQ Go.Proofs.Try.underlying65 i88 i88s rfl rfl hx4 rfl (rd_arg g_1 hFr2.cl) rfl) rfl ?_
      refine JH.read rfl (yl_loadTn Go.Proofs.Try.underlying88 rfl i88 i88s rfl hx4 (fun w hw => hFr2.arg g_1 hw)) rfl ?_
      refine JH.pure rfl (yl_binop_of rfl rfl (fun w => eqs88_g _ _ _ _ _ w) (fun w => eqs88_neq x3.X x3.Y x3.Z x4.X x4.Y x4.Z w)) rfl ?_
      refine JH.nil ?_
      refine JE.weak (env' := [(0, .slice a_0 q0.length c_0), (1, .slice a_1 q1.length c_1), (5, .int .i64 x1), (25, .bool (!(((x3.X == x4.X) && ((x3.Y == x4.Y) && ((x3.Z == x4.Z) && true))))))]) (es' := []) [] ?_ ⟨rfl, rfl, rfl, rfl, trivial⟩ (by decide) rfl
      refine JE.code ?_
      rcases cond_some hres with ⟨hb, hres⟩ | ⟨hb, hres⟩
      · refine JX.condT rfl hb ?_
        refine JX.seq ?_
        refine JX.region ?_
        refine JL.val (yl_assign rfl) rfl ?_
        refine JL.nil ?_
        refine JE.code ?_
        refine JX.ret ?_
        refine JE.qbr ?_
        refine JE.qbr ?_
        have hres := elimS_inr hresO1 (hox1 _ (Option.some.inj hres).symm)
        obtain rfl := Option.some.inj hres
        refine JE.ret (rs := [.tmp 4]) (vs := [.bool false]) rfl ⟨rfl, trivial⟩ ?_
        exact fun w' hb hs => ⟨_, _, ⟨rfl, rfl⟩, rfl, hb, hs.sel [] _ (by decide) rfl⟩
      · refine JX.condF rfl hb ?_
        refine JX.skip ?_
        refine JE.code ?_
        refine JX.region ?_
        refine JL.val (yl_move rfl) rfl ?_
        refine JL.val (yl_add rfl rfl) rfl ?_
        refine JL.val (yl_assign rfl) rfl ?_
        refine JL.nil ?_
        refine JE.cont hres ?_
        exact fun a w h => h.weak ⟨rfl, rfl, rfl, trivial⟩ [] (by decide) rfl
    · refine JX.condF rfl hb ?_
      refine JX.exit ?_
      refine JE.qb rfl ?_
      obtain ⟨b1, hb1⟩ : ∃ b : Unit, b = () := ⟨_, rfl⟩
      have hy1 : Sum.inl b1 = y1 := by rw [hb1]; exact hox1 _ (Option.some.inj hres).symm
      have hres := elimS_inl hresO1 hy1
      refine JE.weak (env' := []) (es' := []) [] ?_ trivial (by decide) (by subst hb1; rfl)
      refine JE.code ?_
      refine JX.seq ?_
      refine JX.region ?_
      refine JL.val (yl_assign rfl) rfl ?_
      refine JL.nil ?_
      refine JE.code ?_
      refine JX.ret ?_
      obtain rfl := Option.some.inj hres
      refine JE.ret (rs := [.tmp 4]) (vs := [.bool true]) rfl ⟨rfl, trivial⟩ ?_
      exact fun w' hb hs => ⟨_, _, ⟨rfl, rfl⟩, rfl, hb, hs.sel [] _ (by decide) rfl⟩

/- spec.l04Count -/
def sh153 (q0 : SPanel) : Option (Int) := Option.bind (sh147 q0) fun x1 => some ((x1.1.length : Nat) : Int)
def T153 (r : Int) (v : Value) (rs : List Own) : Prop := v = rets [.int .i64 r] ∧ rs = []
set_option maxRecDepth 100000 in
theorem c153 {w : World} {q0 : SPanel} {a_0 : Option Addr} {n_0 : Nat} {a_0_2 : Option Addr} {n_0_2 c_0_2 : Nat} (g_0 : RdAt w a_0 n_0 [.int .i64 q0.W, .int .i64 q0.H, .slice a_0_2 n_0_2 c_0_2]) (g_0_2 : Rd w a_0_2 (eI64.fl q0.Breaks)) (l_0_2 : q0.Breaks.length = n_0_2) (k_0_2 : n_0_2 ≤ c_0_2) {r : Int} (hres : sh153 q0 = some r) : Calls Go.Proofs.Try.prog 153 [ptrAt a_0 n_0].toArray w (Ret w (T153 r)) := by
  subst l_0_2
  obtain ⟨b_0, e_0, g_0⟩ := g_0.norm0
  rw [e_0]
  unfold sh153 at hres
  refine calls_of (n := 12) (M := []) (es := []) Go.Proofs.Try.func153 rfl rfl rfl (Sep.nil _ _ _) ?_
  refine JX.seq ?_
  refine JX.region ?_
  refine JL.val (yl_assign rfl) rfl ?_
  refine JL.nil ?_
  refine JE.code ?_
  refine JX.seq ?_
  refine JX.region ?_
  refine JL.val (yl_move rfl) rfl ?_
  obtain ⟨x1, hx1, hres⟩ := bind_some hres
  refine JL.eff (ef_call (T := T147 x1) Go.Proofs.Try.func147 rfl (by kernel_rfl) rfl (fun w hC => c147 (RdAt.of0 (rd_arg g_0 hC)) (rd_arg g_0_2 hC) rfl k_0_2 hx1)) rfl ?_
  rintro _ _ ⟨_, ⟨a2, _, cp3, hs5, rfl, hi6, a8, _, cp9, rfl, rfl, rfl⟩, rfl⟩
  refine JL.val (yl_move rfl) rfl ?_
  refine JL.val (yl_extract rfl rfl) rfl ?_
  refine JL.val (yl_extract rfl rfl) rfl ?_
  refine JL.val (yl_assign rfl) rfl ?_
  refine JL.val (yl_assign rfl) rfl ?_
  refine JL.nil ?_
  refine JE.weak (env' := [(3, .slice a2 x1.1.length cp3)]) (es' := [rowT 34 eHd a2 x1.1.length cp3 hs5, innO 42 eSPoint none hs5 x1.1]) [0, 1] ?_ ⟨rfl, trivial⟩ (by decide) rfl
  refine JE.code ?_
  refine JX.seq ?_
  refine JX.region ?_
  refine JL.val (yl_move rfl) rfl ?_
  refine JL.val (yl_len_slice Go.Proofs.Try.underlying29 rfl) rfl ?_
  refine JL.val (yl_assign rfl) rfl ?_
  refine JL.nil ?_
  refine JE.weak (env' := [(2, .int .i64 ((x1.1.length : Nat) : Int))]) (es' := []) [] ?_ ⟨rfl, trivial⟩ (by decide) rfl
  refine JE.code ?_
  refine JX.ret ?_
  obtain rfl := Option.some.inj hres
  refine JE.ret (rs := [.tmp 2]) (vs := [.int .i64 ((x1.1.length : Nat) : Int)]) rfl ⟨rfl, trivial⟩ ?_
  exact fun w' hb hs => ⟨_, _, ⟨rfl, rfl⟩, rfl, hb, hs.sel [] _ (by decide) rfl⟩

/- spec.CountCurves -/
def sh62 (q0 : SPanel) : Option (Int × Int) := Option.bind (sh139 q0) fun x3 => bif !x3 then (some (0, 1)) else (Option.bind (sh153 q0) fun x4 => some (x4, 0))
def T62 (r : Int × Int) (v : Value) (rs : List Own) : Prop := v = rets [.int .i64 r.1, .int .i64 r.2] ∧ rs = []
set_option maxRecDepth 100000 in
theorem c62 {w : World} {q0 : SPanel} {a_0_2 : Option Addr} {n_0_2 c_0_2 : Nat} (g_0_2 : Rd w a_0_2 (eI64.fl q0.Breaks)) (l_0_2 : q0.Breaks.length = n_0_2) (k_0_2 : n_0_2 ≤ c_0_2) {r : Int × Int} (hres : sh62 q0 = some r) : Calls Go.Proofs.Try.prog 62 [.agg #[.int .i64 q0.W, .int .i64 q0.H, .slice a_0_2 n_0_2 c_0_2]].toArray w (Ret w (T62 r)) := by
  subst l_0_2
  unfold sh62 at hres
  refine calls_of (n := 7) (M := []) (es := []) Go.Proofs.Try.func62 rfl rfl rfl (Sep.nil _ _ _) ?_
  refine JX.seq ?_
  refine JX.region ?_
  refine JL.eff (ef_box rfl rfl) rfl ?_
  rintro _ _ ⟨g1, rfl, rfl⟩
  refine JL.val (yl_assign rfl) rfl ?_
  refine JL.val (yl_assign rfl) rfl ?_
  refine JL.nil ?_
  refine JE.code ?_
  refine JX.seq ?_
  refine JX.seq ?_
  refine JX.region ?_
  obtain ⟨x3, hx3, hres⟩ := bind_some hres
  refine JL.eff (ef_call (T := T139 x3) Go.Proofs.Try.func139 rfl (by kernel_rfl) rfl (fun w hC => c139 (RdAt.of0 (rd_box hC 0 rfl)) (rd_arg g_0_2 hC) rfl k_0_2 hx3)) rfl ?_
  rintro _ _ ⟨_, ⟨rfl, rfl⟩, rfl⟩
  refine JL.val (yl_not rfl) rfl ?_
  refine JL.nil ?_
  refine JE.code ?_
  rcases cond_some hres with ⟨hb, hres⟩ | ⟨hb, hres⟩
  · refine JX.condT rfl hb ?_
    refine JX.seq ?_
    refine JX.region ?_
    refine JL.val (yl_assign rfl) rfl ?_
    refine JL.val (yl_assign rfl) rfl ?_
    refine JL.nil ?_
    refine JE.weak (env' := [(2, .int .i64 0), (3, .int .i64 1)]) (es' := []) [] ?_ ⟨rfl, rfl, trivial⟩ (by decide) rfl
    refine JE.code ?_
    refine JX.ret ?_
    obtain rfl := Option.some.inj hres
    refine JE.ret (rs := [.tmp 2, .tmp 3]) (vs := [.int .i64 0, .int .i64 1]) rfl ⟨rfl, rfl, trivial⟩ ?_
    exact fun w' hb hs => ⟨_, _, ⟨rfl, rfl⟩, rfl, hb, hs.sel [] _ (by decide) rfl⟩
  · refine JX.condF rfl hb ?_
    refine JX.skip ?_
    refine JE.code ?_
    refine JX.seq ?_
    refine JX.region ?_
    obtain ⟨x4, hx4, hres⟩ := bind_some hres
    refine JL.eff (ef_call (T := T153 x4) Go.Proofs.Try.func153 rfl (by kernel_rfl) rfl (fun w hC => c153 (RdAt.of0 (rd_box hC 0 rfl)) (rd_arg g_0_2 hC) rfl k_0_2 hx4)) rfl ?_
    rintro _ _ ⟨_, ⟨rfl, rfl⟩, rfl⟩
    refine JL.val (yl_assign rfl) rfl ?_
    refine JL.val (yl_assign rfl) rfl ?_
    refine JL.nil ?_
    refine JE.weak (env' := [(2, .int .i64 x4), (3, .int .i64 0)]) (es' := []) [] ?_ ⟨rfl, rfl, trivial⟩ (by decide) rfl
    refine JE.code ?_
    refine JX.ret ?_
    obtain rfl := Option.some.inj hres
    refine JE.ret (rs := [.tmp 2, .tmp 3]) (vs := [.int .i64 x4, .int .i64 0]) rfl ⟨rfl, rfl, trivial⟩ ?_
    exact fun w' hb hs => ⟨_, _, ⟨rfl, rfl⟩, rfl, hb, hs.sel [] _ (by decide) rfl⟩

/- impl.lengthOf -/
def sh154_1 (q0 : List SToolMove) (q1 : Bool) : (Int × Int) → Option ((Int × Int) ⊕ (Int))
  | (x2, x3) => bif decide (x3 < (q0.length : Int)) then (Option.bind (getI q0 (w64 (x3 - 1))) fun x5 => Option.bind (getI q0 x3) fun x6 => Option.bind (bif ((decide (x5.Z < 0)) || (decide (x6.Z < 0))) == q1 then (Option.bind (sh204 x5.X x6.X) fun x13 => Option.bind (sh204 x5.Y x6.Y) fun x14 => Option.bind (sh204 x5.Z x6.Z) fun x15 => some (w64 (x2 + (if (if x13 < x14 then x14 else x13) < x15 then x15 else (if x13 < x14 then x14 else x13))))) else (some x2)) fun j11 => (some (.inl (j11, w64 (x3 + 1))))) else (some (.inr x2))
def sh154 (q0 : List SToolMove) (q1 : Bool) : Option (Int × Int) := Option.bind (sh151 q0) fun x1 => bif !x1 then (some (0, 1)) else (Option.bind (iter (sh154_1 q0 q1) (0, 1)) fun b1 => (some (b1, 0)))
def T154 (r : Int × Int) (v : Value) (rs : List Own) : Prop := v = rets [.int .i64 r.1, .int .i64 r.2] ∧ rs = []
set_option maxRecDepth 100000 in
theorem c154 {w : World} {q0 : List SToolMove} {a_0 : Option Addr} {n_0 c_0 : Nat} (g_0 : Rd w a_0 (eSToolMove.fl q0)) (l_0 : q0.length = n_0) (k_0 : n_0 ≤ c_0) {q1 : Bool} {r : Int × Int} (hres : sh154 q0 q1 = some r) : Calls Go.Proofs.Try.prog 154 [.slice a_0 n_0 c_0, .bool q1].toArray w (Ret w (T154 r)) := by
  subst l_0
  unfold sh154 at hres
  refine calls_of (n := 57) (M := []) (es := []) Go.Proofs.Try.func154 rfl rfl rfl (Sep.nil _ _ _) ?_
  refine JX.seq ?_
  refine JX.region ?_
  refine JL.val (yl_assign rfl) rfl ?_
  refine JL.val (yl_assign rfl) rfl ?_
  refine JL.nil ?_
  refine JE.code ?_
  refine JX.seq ?_
  refine JX.seq ?_
  refine JX.region ?_
  refine JL.val (yl_move rfl) rfl ?_
  obtain ⟨x1, hx1, hres⟩ := bind_some hres
  refine JL.eff (ef_call (T := T151 x1) Go.Proofs.Try.func151 rfl (by kernel_rfl) rfl (fun w hC => c151 (rd_arg g_0 hC) rfl k_0 hx1)) rfl ?_
  rintro _ _ ⟨_, ⟨rfl, rfl⟩, rfl⟩
  refine JL.val (yl_not rfl) rfl ?_
  refine JL.nil ?_
  refine JE.code ?_
  rcases cond_some hres with ⟨hb, hres⟩ | ⟨hb, hres⟩
  · refine JX.condT rfl hb ?_
    refine JX.seq ?_
    refine JX.region ?_
    refine JL.val (yl_assign rfl) rfl ?_
    refine JL.val (yl_assign rfl) rfl ?_
    refine JL.nil ?_
    refine JE.code ?_
    refine JX.ret ?_
    obtain rfl := Option.some.inj hres
    refine JE.ret (rs := [.tmp 4, .tmp 5]) (vs := [.int .i64 0, .int .i64 1]) rfl ⟨rfl, rfl, trivial⟩ ?_
    exact fun w' hb hs => ⟨_, _, ⟨rfl, rfl⟩, rfl, hb, hs.sel [] _ (by decide) rfl⟩
  · refine JX.condF rfl hb ?_
    refine JX.skip ?_
    refine JE.code ?_
    refine JX.seq ?_
    refine JX.region ?_
    refine JL.val (yl_assign rfl) rfl ?_
    refine JL.nil ?_
    refine JE.code ?_
    refine JX.seq ?_
    refine JX.seq ?_
    refine JX.region ?_
    refine JL.val (yl_assign rfl) rfl ?_
    refine JL.nil ?_
    refine JE.code ?_
    refine JX.block ?_
    obtain ⟨y1, hy1, hresO1⟩ := bind_some hres
    refine JX.loop (I := fun (s1 : Int × Int) aa ww => St w [] 57 [(0, .slice a_0 q0.length c_0), (1, .bool q1), (6, .int .i64 s1.1), (7, .int .i64 s1.2)] [] aa ww) (sh154_1 q0 q1) hy1 (fun a w h => h.weak ⟨rfl, rfl, rfl, rfl, trivial⟩ [] (by decide) rfl) ?_
    rintro ⟨x2, x3⟩ o1 hres hox1 aa ww hS
    refine (?_ : JX Go.Proofs.Try.prog w [] 57 _ _ [(0, .slice a_0 q0.length c_0), (1, .bool q1), (6, .int .i64 x2), (7, .int .i64 x3)] [] _) aa ww hS
    clear hS
    simp only [sh154_1] at hres
    refine JX.seq ?_
    refine JX.seq ?_
    refine JX.region ?_
    refine JL.val (yl_move rfl) rfl ?_
    refine JL.val (yl_move rfl) rfl ?_
    refine JL.val (yl_len_slice Go.Proofs.Try.underlying65 rfl) rfl ?_
    refine JL.val (yl_lss rfl rfl) rfl ?_
    refine JL.nil ?_
    refine JE.weak (env' := [(0, .slice a_0 q0.length c_0), (1, .bool q1), (6, .int .i64 x2), (7, .int .i64 x3), (16, .bool (decide (x3 < (q0.length : Int))))]) (es' := []) [] ?_ ⟨rfl, rfl, rfl, rfl, rfl, trivial⟩ (by decide) rfl
    refine JE.code ?_
    rcases cond_some hres with ⟨hb, hres⟩ | ⟨hb, hres⟩
    · refine JX.condT rfl hb ?_
      refine JX.skip ?_
      refine JE.code ?_
      refine JX.seq ?_
      refine JX.block ?_
      refine JX.seq ?_
      refine JX.drawH [(0, .pure), (1, .pure), (2, .pure), (3, .pure), (4, .read), (5, .pure), (6, .pure), (7, .pure), (8, .read), (9, .two 10), (11, .must), (12, .must)] [11, 12] [] [] [] [] mixedP (by kernel_rfl) (by kernel_rfl) (by decide) rfl rfl ?_
      intro wrr4 Nr4 hFr4
      refine JH.pure rfl (yl_move rfl) rfl ?_
      refine JH.pure rfl (yl_move rfl) rfl ?_
      refine JH.pure rfl (yl_sub rfl rfl) rfl ?_
      obtain ⟨x5, hx5, hres⟩ := bind_some hres
      refine JH.pure rfl (yl_idxQ Go.Proofs.Try.underlying65 i88 i88s rfl rfl hx5 rfl (rd_arg g_0 hFr4.cl) rfl) rfl ?_
      refine JH.read rfl (yl_loadTn Go.Proofs.Try.underlying88 rfl i88 i88s rfl hx5 (fun w hw => hFr4.arg g_0 hw)) rfl ?_
      refine JH.pure rfl (yl_move rfl) rfl ?_
      refine JH.pure rfl (yl_move rfl) rfl ?_
      obtain ⟨x6, hx6, hres⟩ := bind_some hres
      refine JH.pure rfl (yl_idxQ Go.Proofs.Try.underlying65 i88 i88s rfl rfl hx6 rfl (rd_arg g_0 hFr4.cl) rfl) rfl ?_
      refine JH.read rfl (yl_loadTn Go.Proofs.Try.underlying88 rfl i88 i88s rfl hx6 (fun w hw => hFr4.arg g_0 hw)) rfl ?_
      refine JH.cut (K := fun J => ∀ (g7 : Nat) (g9 : Nat), J [(0, .slice a_0 q0.length c_0), (1, .bool q1), (6, .int .i64 x2), (7, .int .i64 x3), (8, ptrAt (some ⟨g7, 0, none⟩) 0), (9, ptrAt (some ⟨g9, 0, none⟩) 0), (23, .agg #[.int .i64 x5.X, .int .i64 x5.Y, .int .i64 x5.Z]), (27, .agg #[.int .i64 x6.X, .int .i64 x6.Y, .int .i64 x6.Z])] [boxO 88 g7 [.int .i64 0, .int .i64 0, .int .i64 0], boxO 88 g9 [.int .i64 0, .int .i64 0, .int .i64 0]]) 1 ?_ ?_
      · intro g7 g9
        refine JH.must rfl (ef_store_box (i := 0) (v := .agg #[.int .i64 x5.X, .int .i64 x5.Y, .int .i64 x5.Z]) i88 rfl rfl rfl (i88s).symm (Nat.le_of_ble_eq_true rfl) (by simp [Value.cells, Value.oneCell'])) rfl rfl ?_
        rintro _ _ rfl
        refine JH.must rfl (ef_store_box (i := 1) (v := .agg #[.int .i64 x6.X, .int .i64 x6.Y, .int .i64 x6.Z]) i88 rfl rfl rfl (i88s).symm (Nat.le_of_ble_eq_true rfl) (by simp [Value.cells, Value.oneCell'])) rfl rfl ?_
        rintro _ _ rfl
        refine JH.nil ?_
        refine JE.weak (env' := [(0, .slice a_0 q0.length c_0), (1, .bool q1), (6, .int .i64 x2), (7, .int .i64 x3), (8, ptrAt (some ⟨g7, 0, none⟩) 0), (9, ptrAt (some ⟨g9, 0, none⟩) 0)]) (es' := [boxO 88 g7 [.int .i64 x5.X, .int .i64 x5.Y, .int .i64 x5.Z], boxO 88 g9 [.int .i64 x6.X, .int .i64 x6.Y, .int .i64 x6.Z]]) [0, 1] ?_ ⟨rfl, rfl, rfl, rfl, rfl, rfl, trivial⟩ (by decide) rfl
        refine JE.code ?_
        refine JX.seq ?_
        refine JX.region ?_
        refine JL.val (yl_fieldAt (a := some _) Go.Proofs.Try.underlying88 rfl i2 i2n rfl rfl) rfl ?_
        refine JL.val (yl_load1 Go.Proofs.Try.underlying2 rfl rfl (fun w hC => rd_box hC 0 rfl) rfl) rfl ?_
        refine JL.val (yl_lss rfl rfl) rfl ?_
        refine JL.val (yl_move rfl) rfl ?_
        refine JL.cut (K := fun J => J [(0, .slice a_0 q0.length c_0), (1, .bool q1), (6, .int .i64 x2), (7, .int .i64 x3), (8, ptrAt (some ⟨g7, 0, none⟩) 0), (9, ptrAt (some ⟨g9, 0, none⟩) 0), (35, .bool ((decide (x5.Z < 0)) || (decide (x6.Z < 0))))] [boxO 88 g7 [.int .i64 x5.X, .int .i64 x5.Y, .int .i64 x5.Z], boxO 88 g9 [.int .i64 x6.X, .int .i64 x6.Y, .int .i64 x6.Z]]) 4 ?_ ?_
        · refine JL.val (yl_move rfl) rfl ?_
          refine JL.val (yl_beql Go.Proofs.Try.underlying4 rfl rfl) rfl ?_
          refine JL.nil ?_
          refine JE.weak (env' := [(0, .slice a_0 q0.length c_0), (1, .bool q1), (6, .int .i64 x2), (7, .int .i64 x3), (8, ptrAt (some ⟨g7, 0, none⟩) 0), (9, ptrAt (some ⟨g9, 0, none⟩) 0), (37, .bool (((decide (x5.Z < 0)) || (decide (x6.Z < 0))) == q1))]) (es' := [boxO 88 g7 [.int .i64 x5.X, .int .i64 x5.Y, .int .i64 x5.Z], boxO 88 g9 [.int .i64 x6.X, .int .i64 x6.Y, .int .i64 x6.Z]]) [0, 1] ?_ ⟨rfl, rfl, rfl, rfl, rfl, rfl, rfl, trivial⟩ (by decide) rfl
          refine JE.code ?_
          obtain ⟨j11, hj11, hresj11⟩ := bind_some hres
          refine JX.cut (K := fun J => J [(0, .slice a_0 q0.length c_0), (1, .bool q1), (6, .int .i64 j11), (7, .int .i64 x3)] []) ?_ ?_
          · have hres := hresj11
            refine JE.code ?_
            refine JX.region ?_
            refine JL.val (yl_move rfl) rfl ?_
            refine JL.val (yl_add rfl rfl) rfl ?_
            refine JL.val (yl_assign rfl) rfl ?_
            refine JL.nil ?_
            refine JE.cont hres ?_
            exact fun a w h => h.weak ⟨rfl, rfl, rfl, rfl, trivial⟩ [] (by decide) rfl
          · intro K
            rcases cond_some hj11 with ⟨hb, hres⟩ | ⟨hb, hres⟩
            · refine JX.condT rfl hb ?_
              refine JX.drawH [(0, .pure), (1, .pure), (2, .read), (3, .pure), (4, .read), (6, .pure), (7, .read), (8, .pure), (9, .read), (11, .pure), (12, .read), (13, .pure), (14, .read), (5, .must), (10, .must), (15, .must), (16, .pure), (17, .pure), (18, .pure)] [] [] [0, 1] [] [boxO 88 g7 [.int .i64 x5.X, .int .i64 x5.Y, .int .i64 x5.Z], boxO 88 g9 [.int .i64 x6.X, .int .i64 x6.Y, .int .i64 x6.Z]] mixedP (by kernel_rfl) (by kernel_rfl) (by decide) rfl rfl ?_
              intro wrr12 Nr12 hFr12
              refine JH.pure rfl (yl_move rfl) rfl ?_
              refine JH.pure rfl (yl_fieldAt (a := some _) Go.Proofs.Try.underlying88 rfl i2 i2n rfl rfl) rfl ?_
              refine JH.read rfl (yl_load1 Go.Proofs.Try.underlying2 rfl rfl (fun w hw => hFr12.box 0 rfl rfl hw) rfl) rfl ?_
              refine JH.pure rfl (yl_fieldAt (a := some _) Go.Proofs.Try.underlying88 rfl i2 i2n rfl rfl) rfl ?_
              refine JH.read rfl (yl_load1 Go.Proofs.Try.underlying2 rfl rfl (fun w hw => hFr12.box 1 rfl rfl hw) rfl) rfl ?_
              refine JH.pure rfl (yl_fieldAt (a := some _) Go.Proofs.Try.underlying88 rfl i2 i2n rfl rfl) rfl ?_
              refine JH.read rfl (yl_load1 Go.Proofs.Try.underlying2 rfl rfl (fun w hw => hFr12.box 0 rfl rfl hw) rfl) rfl ?_
              refine JH.pure rfl (yl_fieldAt (a := some _) Go.Proofs.Try.underlying88 rfl i2 i2n rfl rfl) rfl ?_
              refine JH.read rfl (yl_load1 Go.Proofs.Try.underlying2 rfl rfl (fun w hw => hFr12.box 1 rfl rfl hw) rfl) rfl ?_
              refine JH.pure rfl (yl_fieldAt (a := some _) Go.Proofs.Try.underlying88 rfl i2 i2n rfl rfl) rfl ?_
              refine JH.read rfl (yl_load1 Go.Proofs.Try.underlying2 rfl rfl (fun w hw => hFr12.box 0 rfl rfl hw) rfl) rfl ?_
              refine JH.pure rfl (yl_fieldAt (a := some _) Go.Proofs.Try.underlying88 rfl i2 i2n rfl rfl) rfl ?_
              refine JH.read rfl (yl_load1 Go.Proofs.Try.underlying2 rfl rfl (fun w hw => hFr12.box 1 rfl rfl hw) rfl) rfl ?_
              obtain ⟨x13, hx13, hres⟩ := bind_some hres
              refine JH.must rfl (ef_call (T := T204 x13) Go.Proofs.Try.func204 rfl (by kernel_rfl) rfl (fun w hC => c204  hx13)) rfl rfl ?_
              rintro _ _ ⟨_, ⟨rfl, rfl⟩, rfl⟩
              obtain ⟨x14, hx14, hres⟩ := bind_some hres
              refine JH.must rfl (ef_call (T := T204 x14) Go.Proofs.Try.func204 rfl (by kernel_rfl) rfl (fun w hC => c204  hx14)) rfl rfl ?_
              rintro _ _ ⟨_, ⟨rfl, rfl⟩, rfl⟩
              obtain ⟨x15, hx15, hres⟩ := bind_some hres
              refine JH.must rfl (ef_call (T := T204 x15) Go.Proofs.Try.func204 rfl (by kernel_rfl) rfl (fun w hC => c204  hx15)) rfl rfl ?_
              rintro _ _ ⟨_, ⟨rfl, rfl⟩, rfl⟩
              refine JH.pure rfl (yl_max3 rfl rfl rfl) rfl ?_
              refine JH.pure rfl (yl_add rfl rfl) rfl ?_
              refine JH.pure rfl (yl_assign rfl) rfl ?_
              refine JH.nil ?_
              refine JE.weak (env' := [(0, .slice a_0 q0.length c_0), (1, .bool q1), (6, .int .i64 (w64 (x2 + (if (if x13 < x14 then x14 else x13) < x15 then x15 else (if x13 < x14 then x14 else x13))))), (7, .int .i64 x3)]) (es' := []) [] ?_ ⟨rfl, rfl, rfl, rfl, trivial⟩ (by decide) rfl
              have hj := Option.some.inj hres
              exact JE.weak [] (K) ⟨(by subst hj; rfl), (by subst hj; rfl), (by subst hj; rfl), (by subst hj; rfl), trivial⟩ (by decide) (by subst hj; rfl)
            · refine JX.condF rfl hb ?_
              refine JX.skip ?_
              have hj := Option.some.inj hres
              exact JE.weak [] (K) ⟨(by subst hj; rfl), (by subst hj; rfl), (by subst hj; rfl), (by subst hj; rfl), trivial⟩ (by decide) (by subst hj; rfl)
        · intro K
          rcases Bool.eq_false_or_eq_true (decide (x5.Z < 0)) with hb | hb
          · refine JL.set (d := 31) (v := .bool true) (congrArg (fun b => some (Value.bool b)) hb) ?_
            refine JL.gskip rfl rfl rfl rfl ?_
            refine JL.gskip rfl rfl rfl rfl ?_
            refine JL.gskip rfl rfl rfl rfl ?_
            refine JL.val (yl_pick_true rfl rfl) rfl ?_
            exact JL.weak [0, 1] K ⟨rfl, rfl, rfl, rfl, rfl, rfl, (by rw [hb]; rfl), trivial⟩ (by decide) rfl
          · refine JL.set (d := 31) (v := .bool false) (congrArg (fun b => some (Value.bool b)) hb) ?_
            refine JL.gval rfl rfl (yl_fieldAt (a := some _) Go.Proofs.Try.underlying88 rfl i2 i2n rfl rfl) rfl ?_
            refine JL.gval rfl rfl (yl_load1 Go.Proofs.Try.underlying2 rfl rfl (fun w hC => rd_box hC 1 rfl) rfl) rfl ?_
            refine JL.gval rfl rfl (yl_lss rfl rfl) rfl ?_
            refine JL.val (yl_pick_false rfl rfl) rfl ?_
            exact JL.weak [0, 1] K ⟨rfl, rfl, rfl, rfl, rfl, rfl, (by rw [hb]; rfl), trivial⟩ (by decide) rfl
      · intro K
        refine JH.two ?_ ?_
        · refine JH.must rfl (ef_alloc i88 i88z rfl) rfl rfl ?_
          rintro _ _ ⟨g7, rfl, rfl⟩
          refine JH.must rfl (ef_alloc i88 i88z rfl) rfl rfl ?_
          rintro _ _ ⟨g9, rfl, rfl⟩
          exact JH.weak [0, 1] (K g7 g9) ⟨rfl, rfl, rfl, rfl, rfl, rfl, rfl, rfl, trivial⟩ (by decide) rfl
        · refine JH.must rfl (ef_alloc i88 i88z rfl) rfl rfl ?_
          rintro _ _ ⟨g9, rfl, rfl⟩
          refine JH.must rfl (ef_alloc i88 i88z rfl) rfl rfl ?_
          rintro _ _ ⟨g7, rfl, rfl⟩
          exact JH.weak [1, 0] (K g7 g9) ⟨rfl, rfl, rfl, rfl, rfl, rfl, rfl, rfl, trivial⟩ (by decide) rfl
    · refine JX.condF rfl hb ?_
      refine JX.exit ?_
      refine JE.qb rfl ?_
      obtain ⟨b1, hb1⟩ : ∃ b : Int, b = x2 := ⟨_, rfl⟩
      have hy1 : b1 = y1 := by rw [hb1]; exact hox1 _ (Option.some.inj hres).symm
      have hres := hresO1
      rw [← hy1] at hres
      refine JE.weak (env' := [(6, .int .i64 b1)]) (es' := []) [] ?_ ⟨(by subst hb1; rfl), trivial⟩ (by decide) (by subst hb1; rfl)
      refine JE.code ?_
      refine JX.seq ?_
      refine JX.region ?_
      refine JL.val (yl_move rfl) rfl ?_
      refine JL.val (yl_assign rfl) rfl ?_
      refine JL.val (yl_assign rfl) rfl ?_
      refine JL.nil ?_
      refine JE.code ?_
      refine JX.ret ?_
      obtain rfl := Option.some.inj hres
      refine JE.ret (rs := [.tmp 4, .tmp 5]) (vs := [.int .i64 b1, .int .i64 0]) rfl ⟨rfl, rfl, trivial⟩ ?_
      exact fun w' hb hs => ⟨_, _, ⟨rfl, rfl⟩, rfl, hb, hs.sel [] _ (by decide) rfl⟩

/- impl.CutLength -/
def sh63 (q0 : List SToolMove) : Option (Int × Int) := Option.bind (sh154 q0 true) fun x1 => some (x1.1, x1.2)
def T63 (r : Int × Int) (v : Value) (rs : List Own) : Prop := v = rets [.int .i64 r.1, .int .i64 r.2] ∧ rs = []
set_option maxRecDepth 100000 in
theorem c63 {w : World} {q0 : List SToolMove} {a_0 : Option Addr} {n_0 c_0 : Nat} (g_0 : Rd w a_0 (eSToolMove.fl q0)) (l_0 : q0.length = n_0) (k_0 : n_0 ≤ c_0) {r : Int × Int} (hres : sh63 q0 = some r) : Calls Go.Proofs.Try.prog 63 [.slice a_0 n_0 c_0].toArray w (Ret w (T63 r)) := by
  subst l_0
  unfold sh63 at hres
  refine calls_of (n := 8) (M := []) (es := []) Go.Proofs.Try.func63 rfl rfl rfl (Sep.nil _ _ _) ?_
  refine JX.seq ?_
  refine JX.region ?_
  refine JL.val (yl_assign rfl) rfl ?_
  refine JL.val (yl_assign rfl) rfl ?_
  refine JL.nil ?_
  refine JE.code ?_
  refine JX.seq ?_
  refine JX.region ?_
  refine JL.val (yl_move rfl) rfl ?_
  obtain ⟨x1, hx1, hres⟩ := bind_some hres
  refine JL.eff (ef_call (T := T154 x1) Go.Proofs.Try.func154 rfl (by kernel_rfl) rfl (fun w hC => c154 (rd_arg g_0 hC) rfl k_0 hx1)) rfl ?_
  rintro _ _ ⟨_, ⟨rfl, rfl⟩, rfl⟩
  refine JL.val (yl_extract rfl rfl) rfl ?_
  refine JL.val (yl_extract rfl rfl) rfl ?_
  refine JL.val (yl_assign rfl) rfl ?_
  refine JL.val (yl_assign rfl) rfl ?_
  refine JL.nil ?_
  refine JE.weak (env' := [(2, .int .i64 x1.1), (3, .int .i64 x1.2)]) (es' := []) [] ?_ ⟨rfl, rfl, trivial⟩ (by decide) rfl
  refine JE.code ?_
  refine JX.ret ?_
  obtain rfl := Option.some.inj hres
  refine JE.ret (rs := [.tmp 2, .tmp 3]) (vs := [.int .i64 x1.1, .int .i64 x1.2]) rfl ⟨rfl, rfl, trivial⟩ ?_
  exact fun w' hb hs => ⟨_, _, ⟨rfl, rfl⟩, rfl, hb, hs.sel [] _ (by decide) rfl⟩

/- laws.FnCarved -/
def sh6 (q0 : List Int) : Option (Bool) := Option.bind (sh9 q0) fun x1 => bif x1 then (some true) else (Option.bind (sh49 q0) fun x2 => Option.bind (sh50 x2.1 x2.2.1 x2.2.2.1 x2.2.2.2) fun x8 => Option.bind (sh51 x2.1 x2.2.1 x2.2.2.1 x2.2.2.2) fun x12 => Option.bind (sh52 q0) fun x16 => Option.bind (sh53 x16.1 x16.2.1 x16.2.2.1 x16.2.2.2.1 x16.2.2.2.2) fun x22 => Option.bind (sh54 x16.1 x16.2.1 x16.2.2.1 x16.2.2.2.1 x16.2.2.2.2) fun x26 => Option.bind (sh55 q0) fun x30 => Option.bind (sh56 x30) fun x36 => Option.bind (sh57 x30) fun x40 => Option.bind (sh58 q0) fun x44 => Option.bind (sh59 x44.1 x44.2.1 x44.2.2.1 x44.2.2.2.1 x44.2.2.2.2) fun x53 => Option.bind (sh60 x44.1 x44.2.1 x44.2.2.1 x44.2.2.2.1 x44.2.2.2.2) fun x54 => Option.bind (bif x8.2 != x12.2 then (some true) else (Option.bind (sh61 x8.1 x12.1) fun x56 => some !x56)) fun cb55 => (Option.bind (bif cb55 || (x22.2 != x26.2) then (some true) else (Option.bind (sh61 x22.1 x26.1) fun x58 => some !x58)) fun cb57 => (Option.bind (bif cb57 || (x36.2 != x40.2) then (some true) else (Option.bind (sh46 x36.1 x40.1) fun x60 => some !x60)) fun cb59 => (bif (cb59 || (x53.2 != x54.2)) || (x53.1 != x54.1) then (some false) else (bif x8.2 != 0 then (some true) else (Option.bind (sh62 x2.1) fun x61 => Option.bind (sh63 x8.1) fun x62 => Option.bind (sh59 x2.1 x8.1 x2.2.1 0 x2.2.2.1) fun x63 => some ((((((x61.2 == 0) && (x62.2 == 0)) && (x62.1 == (w64 ((w64 ((w64 ((w64 (4 * x2.1.W)) * x2.1.H)) * x2.2.1)) + (w64 ((w64 (2 * x61.1)) * (w64 (x2.2.2.1 + x2.2.2.2)))))))) && (x63.2 == 0)) && (x63.1 == (-1))) && ((x8.1.length : Int) == (w64 ((w64 ((w64 (4 * x2.1.W)) * x2.1.H)) + (w64 (3 * x61.1))))))))))))
def T6 (r : Bool) (v : Value) (rs : List Own) : Prop := v = rets [.bool r] ∧ rs = []
set_option maxRecDepth 100000 in
set_option maxHeartbeats 1000000 in
theorem c6 {w : World} {q0 : List Int} {a_0 : Option Addr} {n_0 c_0 : Nat} (g_0 : Rd w a_0 (eU8.fl q0)) (l_0 : q0.length = n_0) (k_0 : n_0 ≤ c_0) {r : Bool} (hres : sh6 q0 = some r) : Calls Go.Proofs.Try.prog 6 [.slice a_0 n_0 c_0].toArray w (Ret w (T6 r)) := by
  subst l_0
  unfold sh6 at hres
  refine calls_of (n := 234) (M := []) (es := []) Go.Proofs.Try.func6 rfl rfl rfl (Sep.nil _ _ _) ?_
  refine JX.seq ?_
  refine JX.region ?_
  refine JL.val (yl_assign rfl) rfl ?_
  refine JL.nil ?_
  refine JE.code ?_
  refine JX.seq ?_
  refine JX.seq ?_
  refine JX.region ?_
  refine JL.val (yl_move rfl) rfl ?_
  obtain ⟨x1, hx1, hres⟩ := bind_some hres
  refine JL.eff (ef_call (T := T9 x1) Go.Proofs.Try.func9 rfl (by kernel_rfl) rfl (fun w hC => c9 (rd_arg g_0 hC) rfl k_0 hx1)) rfl ?_
  rintro _ _ ⟨_, ⟨rfl, rfl⟩, rfl⟩
  refine JL.nil ?_
  refine JE.code ?_
  rcases cond_some hres with ⟨hb, hres⟩ | ⟨hb, hres⟩
  · refine JX.condT rfl hb ?_
    refine JX.seq ?_
    refine JX.region ?_
    refine JL.val (yl_assign rfl) rfl ?_
    refine JL.nil ?_
    refine JE.code ?_
    refine JX.ret ?_
    obtain rfl := Option.some.inj hres
    refine JE.ret (rs := [.tmp 2]) (vs := [.bool true]) rfl ⟨rfl, trivial⟩ ?_
    exact fun w' hb hs => ⟨_, _, ⟨rfl, rfl⟩, rfl, hb, hs.sel [] _ (by decide) rfl⟩
  · refine JX.condF rfl hb ?_
    refine JX.skip ?_
    refine JE.code ?_
    refine JX.seq ?_
    refine JX.region ?_
    refine JL.val (yl_move rfl) rfl ?_
    obtain ⟨x2, hx2, hres⟩ := bind_some hres
    refine JL.eff (ef_call (T := T49 x2) Go.Proofs.Try.func49 rfl (by kernel_rfl) rfl (fun w hC => c49 (rd_arg g_0 hC) rfl k_0 hx2)) rfl ?_
    rintro _ _ ⟨_, ⟨a3, _, cp4, rfl, rfl, rfl⟩, rfl⟩
    refine JL.val (yl_move rfl) rfl ?_
    refine JL.val (yl_extract rfl rfl) rfl ?_
    refine JL.val (yl_extract rfl rfl) rfl ?_
    refine JL.val (yl_extract rfl rfl) rfl ?_
    refine JL.val (yl_extract rfl rfl) rfl ?_
    refine JL.eff (ef_alloc i26 i26z rfl) rfl ?_
    rintro _ _ ⟨g6, rfl, rfl⟩
    refine JL.eff (ef_store_box (i := 1) (v := .agg #[.int .i64 x2.1.W, .int .i64 x2.1.H, .slice a3 x2.1.Breaks.length cp4]) i26 rfl rfl rfl (i26s).symm (Nat.le_of_ble_eq_true rfl) (by simp [Value.cells, Value.oneCell'])) rfl ?_
    rintro _ _ rfl
    refine JL.val (yl_assign rfl) rfl ?_
    refine JL.val (yl_assign rfl) rfl ?_
    refine JL.val (yl_assign rfl) rfl ?_
    refine JL.nil ?_
    refine JE.weak (env' := [(0, .slice a_0 q0.length c_0), (3, ptrAt (some ⟨g6, 0, none⟩) 0), (4, .int .i64 x2.2.1), (5, .int .i64 x2.2.2.1), (6, .int .i64 x2.2.2.2)]) (es' := [boxO 26 g6 [.int .i64 x2.1.W, .int .i64 x2.1.H, .slice a3 x2.1.Breaks.length cp4], rowT 2 eI64 a3 x2.1.Breaks.length cp4 x2.1.Breaks]) [1, 0] ?_ ⟨rfl, rfl, rfl, rfl, rfl, trivial⟩ (by decide) rfl
    refine JE.code ?_
    refine JX.seq ?_
    refine JX.region ?_
    refine JL.val (yl_loadn Go.Proofs.Try.underlying26 rfl i26 rfl (fun w hC => rd_box hC 0 rfl) rfl (i26s).symm i26p) rfl ?_
    refine JL.val (yl_move rfl) rfl ?_
    refine JL.val (yl_move rfl) rfl ?_
    refine JL.val (yl_move rfl) rfl ?_
    obtain ⟨x8, hx8, hres⟩ := bind_some hres
    refine JL.eff (ef_call (vs := [.agg #[.int .i64 x2.1.W, .int .i64 x2.1.H, .slice a3 x2.1.Breaks.length cp4], .int .i64 x2.2.1, .int .i64 x2.2.2.1, .int .i64 x2.2.2.2]) (T := T50 x8) Go.Proofs.Try.func50 rfl (by kernel_rfl) rfl (fun w hC => c50 (q0 := x2.1) (rd_row hC 1 rfl) rfl (ln_row hC 1 rfl) hx8)) rfl ?_
    rintro _ _ ⟨_, ⟨a9, _, cp10, rfl, rfl, rfl⟩, rfl⟩
    refine JL.val (yl_move rfl) rfl ?_
    refine JL.val (yl_extract rfl rfl) rfl ?_
    refine JL.val (yl_extract rfl rfl) rfl ?_
    refine JL.val (yl_assign rfl) rfl ?_
    refine JL.val (yl_assign rfl) rfl ?_
    refine JL.nil ?_
    refine JE.weak (env' := [(0, .slice a_0 q0.length c_0), (3, ptrAt (some ⟨g6, 0, none⟩) 0), (4, .int .i64 x2.2.1), (5, .int .i64 x2.2.2.1), (6, .int .i64 x2.2.2.2), (7, .slice a9 x8.1.length cp10), (8, .int .i64 x8.2)]) (es' := [boxO 26 g6 [.int .i64 x2.1.W, .int .i64 x2.1.H, .slice a3 x2.1.Breaks.length cp4], rowT 2 eI64 a3 x2.1.Breaks.length cp4 x2.1.Breaks, rowT 88 eSToolMove a9 x8.1.length cp10 x8.1]) [0, 1, 2] ?_ ⟨rfl, rfl, rfl, rfl, rfl, rfl, rfl, trivial⟩ (by decide) rfl
    refine JE.code ?_
    refine JX.seq ?_
    refine JX.region ?_
    refine JL.val (yl_loadn Go.Proofs.Try.underlying26 rfl i26 rfl (fun w hC => rd_box hC 0 rfl) rfl (i26s).symm i26p) rfl ?_
    refine JL.val (yl_move rfl) rfl ?_
    refine JL.val (yl_move rfl) rfl ?_
    refine JL.val (yl_move rfl) rfl ?_
    obtain ⟨x12, hx12, hres⟩ := bind_some hres
    refine JL.eff (ef_call (vs := [.agg #[.int .i64 x2.1.W, .int .i64 x2.1.H, .slice a3 x2.1.Breaks.length cp4], .int .i64 x2.2.1, .int .i64 x2.2.2.1, .int .i64 x2.2.2.2]) (T := T51 x12) Go.Proofs.Try.func51 rfl (by kernel_rfl) rfl (fun w hC => c51 (q0 := x2.1) (rd_row hC 1 rfl) rfl (ln_row hC 1 rfl) hx12)) rfl ?_
    rintro _ _ ⟨_, ⟨a13, _, cp14, rfl, rfl, rfl⟩, rfl⟩
    refine JL.val (yl_move rfl) rfl ?_
    refine JL.val (yl_extract rfl rfl) rfl ?_
    refine JL.val (yl_extract rfl rfl) rfl ?_
    refine JL.val (yl_assign rfl) rfl ?_
    refine JL.val (yl_assign rfl) rfl ?_
    refine JL.nil ?_
    refine JE.weak (env' := [(0, .slice a_0 q0.length c_0), (3, ptrAt (some ⟨g6, 0, none⟩) 0), (4, .int .i64 x2.2.1), (5, .int .i64 x2.2.2.1), (6, .int .i64 x2.2.2.2), (7, .slice a9 x8.1.length cp10), (8, .int .i64 x8.2), (9, .slice a13 x12.1.length cp14), (10, .int .i64 x12.2)]) (es' := [boxO 26 g6 [.int .i64 x2.1.W, .int .i64 x2.1.H, .slice a3 x2.1.Breaks.length cp4], rowT 2 eI64 a3 x2.1.Breaks.length cp4 x2.1.Breaks, rowT 88 eSToolMove a9 x8.1.length cp10 x8.1, rowT 88 eSToolMove a13 x12.1.length cp14 x12.1]) [0, 1, 2, 3] ?_ ⟨rfl, rfl, rfl, rfl, rfl, rfl, rfl, rfl, rfl, trivial⟩ (by decide) rfl
    refine JE.code ?_
    refine JX.seq ?_
    refine JX.region ?_
    refine JL.val (yl_move rfl) rfl ?_
    obtain ⟨x16, hx16, hres⟩ := bind_some hres
    refine JL.eff (ef_call (T := T52 x16) Go.Proofs.Try.func52 rfl (by kernel_rfl) rfl (fun w hC => c52 (rd_arg g_0 hC) rfl k_0 hx16)) rfl ?_
    rintro _ _ ⟨_, ⟨a17, _, cp18, rfl, rfl, rfl⟩, rfl⟩
    refine JL.val (yl_move rfl) rfl ?_
    refine JL.val (yl_extract rfl rfl) rfl ?_
    refine JL.val (yl_extract rfl rfl) rfl ?_
    refine JL.val (yl_extract rfl rfl) rfl ?_
    refine JL.val (yl_extract rfl rfl) rfl ?_
    refine JL.val (yl_extract rfl rfl) rfl ?_
    refine JL.eff (ef_alloc i26 i26z rfl) rfl ?_
    rintro _ _ ⟨g20, rfl, rfl⟩
    refine JL.eff (ef_store_box (i := 5) (v := .agg #[.int .i64 x16.1.W, .int .i64 x16.1.H, .slice a17 x16.1.Breaks.length cp18]) i26 rfl rfl rfl (i26s).symm (Nat.le_of_ble_eq_true rfl) (by simp [Value.cells, Value.oneCell'])) rfl ?_
    rintro _ _ rfl
    refine JL.val (yl_assign rfl) rfl ?_
    refine JL.val (yl_assign rfl) rfl ?_
    refine JL.val (yl_assign rfl) rfl ?_
    refine JL.val (yl_assign rfl) rfl ?_
    refine JL.nil ?_
    refine JE.weak (env' := [(0, .slice a_0 q0.length c_0), (3, ptrAt (some ⟨g6, 0, none⟩) 0), (4, .int .i64 x2.2.1), (5, .int .i64 x2.2.2.1), (6, .int .i64 x2.2.2.2), (7, .slice a9 x8.1.length cp10), (8, .int .i64 x8.2), (9, .slice a13 x12.1.length cp14), (10, .int .i64 x12.2), (11, ptrAt (some ⟨g20, 0, none⟩) 0), (12, .int .i64 x16.2.1), (13, .int .i64 x16.2.2.1), (14, .int .i64 x16.2.2.2.1), (15, .int .i64 x16.2.2.2.2)]) (es' := [boxO 26 g6 [.int .i64 x2.1.W, .int .i64 x2.1.H, .slice a3 x2.1.Breaks.length cp4], rowT 2 eI64 a3 x2.1.Breaks.length cp4 x2.1.Breaks, rowT 88 eSToolMove a9 x8.1.length cp10 x8.1, rowT 88 eSToolMove a13 x12.1.length cp14 x12.1, boxO 26 g20 [.int .i64 x16.1.W, .int .i64 x16.1.H, .slice a17 x16.1.Breaks.length cp18], rowT 2 eI64 a17 x16.1.Breaks.length cp18 x16.1.Breaks]) [0, 1, 2, 3, 5, 4] ?_ ⟨rfl, rfl, rfl, rfl, rfl, rfl, rfl, rfl, rfl, rfl, rfl, rfl, rfl, rfl, trivial⟩ (by decide) rfl
    refine JE.code ?_
    refine JX.seq ?_
    refine JX.region ?_
    refine JL.val (yl_loadn Go.Proofs.Try.underlying26 rfl i26 rfl (fun w hC => rd_box hC 4 rfl) rfl (i26s).symm i26p) rfl ?_
    refine JL.val (yl_move rfl) rfl ?_
    refine JL.val (yl_move rfl) rfl ?_
    refine JL.val (yl_move rfl) rfl ?_
    refine JL.val (yl_move rfl) rfl ?_
    obtain ⟨x22, hx22, hres⟩ := bind_some hres
    refine JL.eff (ef_call (vs := [.agg #[.int .i64 x16.1.W, .int .i64 x16.1.H, .slice a17 x16.1.Breaks.length cp18], .int .i64 x16.2.1, .int .i64 x16.2.2.1, .int .i64 x16.2.2.2.1, .int .i64 x16.2.2.2.2]) (T := T53 x22) Go.Proofs.Try.func53 rfl (by kernel_rfl) rfl (fun w hC => c53 (q0 := x16.1) (rd_row hC 5 rfl) rfl (ln_row hC 5 rfl) hx22)) rfl ?_
    rintro _ _ ⟨_, ⟨a23, _, cp24, rfl, rfl, rfl⟩, rfl⟩
    refine JL.val (yl_move rfl) rfl ?_
    refine JL.val (yl_extract rfl rfl) rfl ?_
    refine JL.val (yl_extract rfl rfl) rfl ?_
    refine JL.val (yl_assign rfl) rfl ?_
    refine JL.val (yl_assign rfl) rfl ?_
    refine JL.nil ?_
    refine JE.weak (env' := [(0, .slice a_0 q0.length c_0), (3, ptrAt (some ⟨g6, 0, none⟩) 0), (4, .int .i64 x2.2.1), (5, .int .i64 x2.2.2.1), (6, .int .i64 x2.2.2.2), (7, .slice a9 x8.1.length cp10), (8, .int .i64 x8.2), (9, .slice a13 x12.1.length cp14), (10, .int .i64 x12.2), (11, ptrAt (some ⟨g20, 0, none⟩) 0), (12, .int .i64 x16.2.1), (13, .int .i64 x16.2.2.1), (14, .int .i64 x16.2.2.2.1), (15, .int .i64 x16.2.2.2.2), (16, .slice a23 x22.1.length cp24), (17, .int .i64 x22.2)]) (es' := [boxO 26 g6 [.int .i64 x2.1.W, .int .i64 x2.1.H, .slice a3 x2.1.Breaks.length cp4], rowT 2 eI64 a3 x2.1.Breaks.length cp4 x2.1.Breaks, rowT 88 eSToolMove a9 x8.1.length cp10 x8.1, rowT 88 eSToolMove a13 x12.1.length cp14 x12.1, boxO 26 g20 [.int .i64 x16.1.W, .int .i64 x16.1.H, .slice a17 x16.1.Breaks.length cp18], rowT 2 eI64 a17 x16.1.Breaks.length cp18 x16.1.Breaks, rowT 88 eSToolMove a23 x22.1.length cp24 x22.1]) [0, 1, 2, 3, 4, 5, 6] ?_ ⟨rfl, rfl, rfl, rfl, rfl, rfl, rfl, rfl, rfl, rfl, rfl, rfl, rfl, rfl, rfl, rfl, trivial⟩ (by decide) rfl
    refine JE.code ?_
    refine JX.seq ?_
    refine JX.region ?_
    refine JL.val (yl_loadn Go.Proofs.Try.underlying26 rfl i26 rfl (fun w hC => rd_box hC 4 rfl) rfl (i26s).symm i26p) rfl ?_
    refine JL.val (yl_move rfl) rfl ?_
    refine JL.val (yl_move rfl) rfl ?_
    refine JL.val (yl_move rfl) rfl ?_
    refine JL.val (yl_move rfl) rfl ?_
    obtain ⟨x26, hx26, hres⟩ := bind_some hres
    refine JL.eff (ef_call (vs := [.agg #[.int .i64 x16.1.W, .int .i64 x16.1.H, .slice a17 x16.1.Breaks.length cp18], .int .i64 x16.2.1, .int .i64 x16.2.2.1, .int .i64 x16.2.2.2.1, .int .i64 x16.2.2.2.2]) (T := T54 x26) Go.Proofs.Try.func54 rfl (by kernel_rfl) rfl (fun w hC => c54 (q0 := x16.1) (rd_row hC 5 rfl) rfl (ln_row hC 5 rfl) hx26)) rfl ?_
    rintro _ _ ⟨_, ⟨a27, _, cp28, rfl, rfl, rfl⟩, rfl⟩
    refine JL.val (yl_move rfl) rfl ?_
    refine JL.val (yl_extract rfl rfl) rfl ?_
    refine JL.val (yl_extract rfl rfl) rfl ?_
    refine JL.val (yl_assign rfl) rfl ?_
    refine JL.val (yl_assign rfl) rfl ?_
    refine JL.nil ?_
    refine JE.weak (env' := [(0, .slice a_0 q0.length c_0), (3, ptrAt (some ⟨g6, 0, none⟩) 0), (4, .int .i64 x2.2.1), (5, .int .i64 x2.2.2.1), (6, .int .i64 x2.2.2.2), (7, .slice a9 x8.1.length cp10), (8, .int .i64 x8.2), (9, .slice a13 x12.1.length cp14), (10, .int .i64 x12.2), (16, .slice a23 x22.1.length cp24), (17, .int .i64 x22.2), (18, .slice a27 x26.1.length cp28), (19, .int .i64 x26.2)]) (es' := [boxO 26 g6 [.int .i64 x2.1.W, .int .i64 x2.1.H, .slice a3 x2.1.Breaks.length cp4], rowT 2 eI64 a3 x2.1.Breaks.length cp4 x2.1.Breaks, rowT 88 eSToolMove a9 x8.1.length cp10 x8.1, rowT 88 eSToolMove a13 x12.1.length cp14 x12.1, rowT 88 eSToolMove a23 x22.1.length cp24 x22.1, rowT 88 eSToolMove a27 x26.1.length cp28 x26.1]) [0, 1, 2, 3, 6, 7] ?_ ⟨rfl, rfl, rfl, rfl, rfl, rfl, rfl, rfl, rfl, rfl, rfl, rfl, rfl, trivial⟩ (by decide) rfl
    refine JE.code ?_
    refine JX.seq ?_
    refine JX.region ?_
    refine JL.val (yl_move rfl) rfl ?_
    obtain ⟨x30, hx30, hres⟩ := bind_some hres
    refine JL.eff (ef_call (T := T55 x30) Go.Proofs.Try.func55 rfl (by kernel_rfl) rfl (fun w hC => c55 (rd_arg g_0 hC) rfl k_0 hx30)) rfl ?_
    rintro _ _ ⟨_, ⟨a31, _, cp32, rfl, rfl, rfl⟩, rfl⟩
    refine JL.eff (ef_alloc i26 i26z rfl) rfl ?_
    rintro _ _ ⟨g34, rfl, rfl⟩
    refine JL.eff (ef_store_box (i := 7) (v := .agg #[.int .i64 x30.W, .int .i64 x30.H, .slice a31 x30.Breaks.length cp32]) i26 rfl rfl rfl (i26s).symm (Nat.le_of_ble_eq_true rfl) (by simp [Value.cells, Value.oneCell'])) rfl ?_
    rintro _ _ rfl
    refine JL.nil ?_
    refine JE.weak (env' := [(0, .slice a_0 q0.length c_0), (3, ptrAt (some ⟨g6, 0, none⟩) 0), (4, .int .i64 x2.2.1), (5, .int .i64 x2.2.2.1), (6, .int .i64 x2.2.2.2), (7, .slice a9 x8.1.length cp10), (8, .int .i64 x8.2), (9, .slice a13 x12.1.length cp14), (10, .int .i64 x12.2), (16, .slice a23 x22.1.length cp24), (17, .int .i64 x22.2), (18, .slice a27 x26.1.length cp28), (19, .int .i64 x26.2), (20, ptrAt (some ⟨g34, 0, none⟩) 0)]) (es' := [boxO 26 g6 [.int .i64 x2.1.W, .int .i64 x2.1.H, .slice a3 x2.1.Breaks.length cp4], rowT 2 eI64 a3 x2.1.Breaks.length cp4 x2.1.Breaks, rowT 88 eSToolMove a9 x8.1.length cp10 x8.1, rowT 88 eSToolMove a13 x12.1.length cp14 x12.1, rowT 88 eSToolMove a23 x22.1.length cp24 x22.1, rowT 88 eSToolMove a27 x26.1.length cp28 x26.1, boxO 26 g34 [.int .i64 x30.W, .int .i64 x30.H, .slice a31 x30.Breaks.length cp32], rowT 2 eI64 a31 x30.Breaks.length cp32 x30.Breaks]) [0, 1, 2, 3, 4, 5, 7, 6] ?_ ⟨rfl, rfl, rfl, rfl, rfl, rfl, rfl, rfl, rfl, rfl, rfl, rfl, rfl, rfl, trivial⟩ (by decide) rfl
    refine JE.code ?_
    refine JX.seq ?_
    refine JX.region ?_
    refine JL.val (yl_loadn Go.Proofs.Try.underlying26 rfl i26 rfl (fun w hC => rd_box hC 6 rfl) rfl (i26s).symm i26p) rfl ?_
    obtain ⟨x36, hx36, hres⟩ := bind_some hres
    refine JL.eff (ef_call (vs := [.agg #[.int .i64 x30.W, .int .i64 x30.H, .slice a31 x30.Breaks.length cp32]]) (T := T56 x36) Go.Proofs.Try.func56 rfl (by kernel_rfl) rfl (fun w hC => c56 (q0 := x30) (rd_row hC 7 rfl) rfl (ln_row hC 7 rfl) hx36)) rfl ?_
    rintro _ _ ⟨_, ⟨a37, _, cp38, rfl, rfl, rfl⟩, rfl⟩
    refine JL.val (yl_move rfl) rfl ?_
    refine JL.val (yl_extract rfl rfl) rfl ?_
    refine JL.val (yl_extract rfl rfl) rfl ?_
    refine JL.val (yl_assign rfl) rfl ?_
    refine JL.val (yl_assign rfl) rfl ?_
    refine JL.nil ?_
    refine JE.weak (env' := [(0, .slice a_0 q0.length c_0), (3, ptrAt (some ⟨g6, 0, none⟩) 0), (4, .int .i64 x2.2.1), (5, .int .i64 x2.2.2.1), (6, .int .i64 x2.2.2.2), (7, .slice a9 x8.1.length cp10), (8, .int .i64 x8.2), (9, .slice a13 x12.1.length cp14), (10, .int .i64 x12.2), (16, .slice a23 x22.1.length cp24), (17, .int .i64 x22.2), (18, .slice a27 x26.1.length cp28), (19, .int .i64 x26.2), (20, ptrAt (some ⟨g34, 0, none⟩) 0), (21, .slice a37 x36.1.length cp38), (22, .int .i64 x36.2)]) (es' := [boxO 26 g6 [.int .i64 x2.1.W, .int .i64 x2.1.H, .slice a3 x2.1.Breaks.length cp4], rowT 2 eI64 a3 x2.1.Breaks.length cp4 x2.1.Breaks, rowT 88 eSToolMove a9 x8.1.length cp10 x8.1, rowT 88 eSToolMove a13 x12.1.length cp14 x12.1, rowT 88 eSToolMove a23 x22.1.length cp24 x22.1, rowT 88 eSToolMove a27 x26.1.length cp28 x26.1, boxO 26 g34 [.int .i64 x30.W, .int .i64 x30.H, .slice a31 x30.Breaks.length cp32], rowT 2 eI64 a31 x30.Breaks.length cp32 x30.Breaks, rowT 2 eI64 a37 x36.1.length cp38 x36.1]) [0, 1, 2, 3, 4, 5, 6, 7, 8] ?_ ⟨rfl, rfl, rfl, rfl, rfl, rfl, rfl, rfl, rfl, rfl, rfl, rfl, rfl, rfl, rfl, rfl, trivial⟩ (by decide) rfl
    refine JE.code ?_
    refine JX.seq ?_
    refine JX.region ?_
    refine JL.val (yl_loadn Go.Proofs.Try.underlying26 rfl i26 rfl (fun w hC => rd_box hC 6 rfl) rfl (i26s).symm i26p) rfl ?_
    obtain ⟨x40, hx40, hres⟩ := bind_some hres
    refine JL.eff (ef_call (vs := [.agg #[.int .i64 x30.W, .int .i64 x30.H, .slice a31 x30.Breaks.length cp32]]) (T := T57 x40) Go.Proofs.Try.func57 rfl (by kernel_rfl) rfl (fun w hC => c57 (q0 := x30) (rd_row hC 7 rfl) rfl (ln_row hC 7 rfl) hx40)) rfl ?_
    rintro _ _ ⟨_, ⟨a41, _, cp42, rfl, rfl, rfl⟩, rfl⟩
    refine JL.val (yl_move rfl) rfl ?_
    refine JL.val (yl_extract rfl rfl) rfl ?_
    refine JL.val (yl_extract rfl rfl) rfl ?_
    refine JL.val (yl_assign rfl) rfl ?_
    refine JL.val (yl_assign rfl) rfl ?_
    refine JL.nil ?_
    refine JE.weak (env' := [(0, .slice a_0 q0.length c_0), (3, ptrAt (some ⟨g6, 0, none⟩) 0), (4, .int .i64 x2.2.1), (5, .int .i64 x2.2.2.1), (6, .int .i64 x2.2.2.2), (7, .slice a9 x8.1.length cp10), (8, .int .i64 x8.2), (9, .slice a13 x12.1.length cp14), (10, .int .i64 x12.2), (16, .slice a23 x22.1.length cp24), (17, .int .i64 x22.2), (18, .slice a27 x26.1.length cp28), (19, .int .i64 x26.2), (21, .slice a37 x36.1.length cp38), (22, .int .i64 x36.2), (23, .slice a41 x40.1.length cp42), (24, .int .i64 x40.2)]) (es' := [boxO 26 g6 [.int .i64 x2.1.W, .int .i64 x2.1.H, .slice a3 x2.1.Breaks.length cp4], rowT 2 eI64 a3 x2.1.Breaks.length cp4 x2.1.Breaks, rowT 88 eSToolMove a9 x8.1.length cp10 x8.1, rowT 88 eSToolMove a13 x12.1.length cp14 x12.1, rowT 88 eSToolMove a23 x22.1.length cp24 x22.1, rowT 88 eSToolMove a27 x26.1.length cp28 x26.1, rowT 2 eI64 a37 x36.1.length cp38 x36.1, rowT 2 eI64 a41 x40.1.length cp42 x40.1]) [0, 1, 2, 3, 4, 5, 8, 9] ?_ ⟨rfl, rfl, rfl, rfl, rfl, rfl, rfl, rfl, rfl, rfl, rfl, rfl, rfl, rfl, rfl, rfl, rfl, trivial⟩ (by decide) rfl
    refine JE.code ?_
    refine JX.seq ?_
    refine JX.region ?_
    refine JL.val (yl_move rfl) rfl ?_
    obtain ⟨x44, hx44, hres⟩ := bind_some hres
    refine JL.eff (ef_call (T := T58 x44) Go.Proofs.Try.func58 rfl (by kernel_rfl) rfl (fun w hC => c58 (rd_arg g_0 hC) rfl k_0 hx44)) rfl ?_
    rintro _ _ ⟨_, ⟨a45, _, cp46, rfl, a48, _, cp49, rfl, rfl, rfl⟩, rfl⟩
    refine JL.val (yl_move rfl) rfl ?_
    refine JL.val (yl_extract rfl rfl) rfl ?_
    refine JL.val (yl_extract rfl rfl) rfl ?_
    refine JL.val (yl_extract rfl rfl) rfl ?_
    refine JL.val (yl_extract rfl rfl) rfl ?_
    refine JL.val (yl_extract rfl rfl) rfl ?_
    refine JL.eff (ef_alloc i26 i26z rfl) rfl ?_
    rintro _ _ ⟨g51, rfl, rfl⟩
    refine JL.eff (ef_store_box (i := 10) (v := .agg #[.int .i64 x44.1.W, .int .i64 x44.1.H, .slice a45 x44.1.Breaks.length cp46]) i26 rfl rfl rfl (i26s).symm (Nat.le_of_ble_eq_true rfl) (by simp [Value.cells, Value.oneCell'])) rfl ?_
    rintro _ _ rfl
    refine JL.val (yl_assign rfl) rfl ?_
    refine JL.val (yl_assign rfl) rfl ?_
    refine JL.val (yl_assign rfl) rfl ?_
    refine JL.val (yl_assign rfl) rfl ?_
    refine JL.nil ?_
    refine JE.weak (env' := [(3, ptrAt (some ⟨g6, 0, none⟩) 0), (4, .int .i64 x2.2.1), (5, .int .i64 x2.2.2.1), (6, .int .i64 x2.2.2.2), (7, .slice a9 x8.1.length cp10), (8, .int .i64 x8.2), (9, .slice a13 x12.1.length cp14), (10, .int .i64 x12.2), (16, .slice a23 x22.1.length cp24), (17, .int .i64 x22.2), (18, .slice a27 x26.1.length cp28), (19, .int .i64 x26.2), (21, .slice a37 x36.1.length cp38), (22, .int .i64 x36.2), (23, .slice a41 x40.1.length cp42), (24, .int .i64 x40.2), (25, ptrAt (some ⟨g51, 0, none⟩) 0), (26, .slice a48 x44.2.1.length cp49), (27, .int .i64 x44.2.2.1), (28, .int .i64 x44.2.2.2.1), (29, .int .i64 x44.2.2.2.2)]) (es' := [boxO 26 g6 [.int .i64 x2.1.W, .int .i64 x2.1.H, .slice a3 x2.1.Breaks.length cp4], rowT 2 eI64 a3 x2.1.Breaks.length cp4 x2.1.Breaks, rowT 88 eSToolMove a9 x8.1.length cp10 x8.1, rowT 88 eSToolMove a13 x12.1.length cp14 x12.1, rowT 88 eSToolMove a23 x22.1.length cp24 x22.1, rowT 88 eSToolMove a27 x26.1.length cp28 x26.1, rowT 2 eI64 a37 x36.1.length cp38 x36.1, rowT 2 eI64 a41 x40.1.length cp42 x40.1, boxO 26 g51 [.int .i64 x44.1.W, .int .i64 x44.1.H, .slice a45 x44.1.Breaks.length cp46], rowT 2 eI64 a45 x44.1.Breaks.length cp46 x44.1.Breaks, rowT 88 eSToolMove a48 x44.2.1.length cp49 x44.2.1]) [0, 1, 2, 3, 4, 5, 6, 7, 10, 8, 9] ?_ ⟨rfl, rfl, rfl, rfl, rfl, rfl, rfl, rfl, rfl, rfl, rfl, rfl, rfl, rfl, rfl, rfl, rfl, rfl, rfl, rfl, rfl, trivial⟩ (by decide) rfl
    refine JE.code ?_
    refine JX.seq ?_
    refine JX.region ?_
    refine JL.val (yl_loadn Go.Proofs.Try.underlying26 rfl i26 rfl (fun w hC => rd_box hC 8 rfl) rfl (i26s).symm i26p) rfl ?_
    refine JL.val (yl_move rfl) rfl ?_
    refine JL.val (yl_move rfl) rfl ?_
    refine JL.val (yl_move rfl) rfl ?_
    refine JL.val (yl_move rfl) rfl ?_
    obtain ⟨x53, hx53, hres⟩ := bind_some hres
    refine JL.eff (ef_call (vs := [.agg #[.int .i64 x44.1.W, .int .i64 x44.1.H, .slice a45 x44.1.Breaks.length cp46], .slice a48 x44.2.1.length cp49, .int .i64 x44.2.2.1, .int .i64 x44.2.2.2.1, .int .i64 x44.2.2.2.2]) (T := T59 x53) Go.Proofs.Try.func59 rfl (by kernel_rfl) rfl (fun w hC => c59 (q0 := x44.1) (rd_row hC 9 rfl) rfl (ln_row hC 9 rfl) (rd_row hC 10 rfl) rfl (ln_row hC 10 rfl) hx53)) rfl ?_
    rintro _ _ ⟨_, ⟨rfl, rfl⟩, rfl⟩
    refine JL.val (yl_move rfl) rfl ?_
    refine JL.val (yl_extract rfl rfl) rfl ?_
    refine JL.val (yl_extract rfl rfl) rfl ?_
    refine JL.val (yl_assign rfl) rfl ?_
    refine JL.val (yl_assign rfl) rfl ?_
    refine JL.nil ?_
    refine JE.weak (env' := [(3, ptrAt (some ⟨g6, 0, none⟩) 0), (4, .int .i64 x2.2.1), (5, .int .i64 x2.2.2.1), (6, .int .i64 x2.2.2.2), (7, .slice a9 x8.1.length cp10), (8, .int .i64 x8.2), (9, .slice a13 x12.1.length cp14), (10, .int .i64 x12.2), (16, .slice a23 x22.1.length cp24), (17, .int .i64 x22.2), (18, .slice a27 x26.1.length cp28), (19, .int .i64 x26.2), (21, .slice a37 x36.1.length cp38), (22, .int .i64 x36.2), (23, .slice a41 x40.1.length cp42), (24, .int .i64 x40.2), (25, ptrAt (some ⟨g51, 0, none⟩) 0), (26, .slice a48 x44.2.1.length cp49), (27, .int .i64 x44.2.2.1), (28, .int .i64 x44.2.2.2.1), (29, .int .i64 x44.2.2.2.2), (30, .int .i64 x53.1), (31, .int .i64 x53.2)]) (es' := [boxO 26 g6 [.int .i64 x2.1.W, .int .i64 x2.1.H, .slice a3 x2.1.Breaks.length cp4], rowT 2 eI64 a3 x2.1.Breaks.length cp4 x2.1.Breaks, rowT 88 eSToolMove a9 x8.1.length cp10 x8.1, rowT 88 eSToolMove a13 x12.1.length cp14 x12.1, rowT 88 eSToolMove a23 x22.1.length cp24 x22.1, rowT 88 eSToolMove a27 x26.1.length cp28 x26.1, rowT 2 eI64 a37 x36.1.length cp38 x36.1, rowT 2 eI64 a41 x40.1.length cp42 x40.1, boxO 26 g51 [.int .i64 x44.1.W, .int .i64 x44.1.H, .slice a45 x44.1.Breaks.length cp46], rowT 2 eI64 a45 x44.1.Breaks.length cp46 x44.1.Breaks, rowT 88 eSToolMove a48 x44.2.1.length cp49 x44.2.1]) [0, 1, 2, 3, 4, 5, 6, 7, 8, 9, 10] ?_ ⟨rfl, rfl, rfl, rfl, rfl, rfl, rfl, rfl, rfl, rfl, rfl, rfl, rfl, rfl, rfl, rfl, rfl, rfl, rfl, rfl, rfl, rfl, rfl, trivial⟩ (by decide) rfl
    refine JE.code ?_
    refine JX.seq ?_
    refine JX.region ?_
    refine JL.val (yl_loadn Go.Proofs.Try.underlying26 rfl i26 rfl (fun w hC => rd_box hC 8 rfl) rfl (i26s).symm i26p) rfl ?_
    refine JL.val (yl_move rfl) rfl ?_
    refine JL.val (yl_move rfl) rfl ?_
    refine JL.val (yl_move rfl) rfl ?_
    refine JL.val (yl_move rfl) rfl ?_
    obtain ⟨x54, hx54, hres⟩ := bind_some hres
    refine JL.eff (ef_call (vs := [.agg #[.int .i64 x44.1.W, .int .i64 x44.1.H, .slice a45 x44.1.Breaks.length cp46], .slice a48 x44.2.1.length cp49, .int .i64 x44.2.2.1, .int .i64 x44.2.2.2.1, .int .i64 x44.2.2.2.2]) (T := T60 x54) Go.Proofs.Try.func60 rfl (by kernel_rfl) rfl (fun w hC => c60 (q0 := x44.1) (rd_row hC 9 rfl) rfl (ln_row hC 9 rfl) (rd_row hC 10 rfl) rfl (ln_row hC 10 rfl) hx54)) rfl ?_
    rintro _ _ ⟨_, ⟨rfl, rfl⟩, rfl⟩
    refine JL.val (yl_move rfl) rfl ?_
    refine JL.val (yl_extract rfl rfl) rfl ?_
    refine JL.val (yl_extract rfl rfl) rfl ?_
    refine JL.val (yl_assign rfl) rfl ?_
    refine JL.val (yl_assign rfl) rfl ?_
    refine JL.nil ?_
    refine JE.weak (env' := [(3, ptrAt (some ⟨g6, 0, none⟩) 0), (4, .int .i64 x2.2.1), (5, .int .i64 x2.2.2.1), (6, .int .i64 x2.2.2.2), (7, .slice a9 x8.1.length cp10), (8, .int .i64 x8.2), (9, .slice a13 x12.1.length cp14), (10, .int .i64 x12.2), (16, .slice a23 x22.1.length cp24), (17, .int .i64 x22.2), (18, .slice a27 x26.1.length cp28), (19, .int .i64 x26.2), (21, .slice a37 x36.1.length cp38), (22, .int .i64 x36.2), (23, .slice a41 x40.1.length cp42), (24, .int .i64 x40.2), (30, .int .i64 x53.1), (31, .int .i64 x53.2), (32, .int .i64 x54.1), (33, .int .i64 x54.2)]) (es' := [boxO 26 g6 [.int .i64 x2.1.W, .int .i64 x2.1.H, .slice a3 x2.1.Breaks.length cp4], rowT 2 eI64 a3 x2.1.Breaks.length cp4 x2.1.Breaks, rowT 88 eSToolMove a9 x8.1.length cp10 x8.1, rowT 88 eSToolMove a13 x12.1.length cp14 x12.1, rowT 88 eSToolMove a23 x22.1.length cp24 x22.1, rowT 88 eSToolMove a27 x26.1.length cp28 x26.1, rowT 2 eI64 a37 x36.1.length cp38 x36.1, rowT 2 eI64 a41 x40.1.length cp42 x40.1]) [0, 1, 2, 3, 4, 5, 6, 7] ?_ ⟨rfl, rfl, rfl, rfl, rfl, rfl, rfl, rfl, rfl, rfl, rfl, rfl, rfl, rfl, rfl, rfl, rfl, rfl, rfl, rfl, trivial⟩ (by decide) rfl
    refine JE.code ?_
    refine JX.seq ?_
    refine JX.seq ?_
    refine JX.region ?_
    refine JL.val (yl_move rfl) rfl ?_
    refine JL.val (yl_move rfl) rfl ?_
    refine JL.val (yl_neq rfl rfl) rfl ?_
    refine JL.val (yl_move rfl) rfl ?_
    obtain ⟨cb55, hcb55, hres⟩ := bind_some hres
    refine JL.cut (K := fun J => J [(3, ptrAt (some ⟨g6, 0, none⟩) 0), (4, .int .i64 x2.2.1), (5, .int .i64 x2.2.2.1), (6, .int .i64 x2.2.2.2), (7, .slice a9 x8.1.length cp10), (8, .int .i64 x8.2), (16, .slice a23 x22.1.length cp24), (17, .int .i64 x22.2), (18, .slice a27 x26.1.length cp28), (19, .int .i64 x26.2), (21, .slice a37 x36.1.length cp38), (22, .int .i64 x36.2), (23, .slice a41 x40.1.length cp42), (24, .int .i64 x40.2), (30, .int .i64 x53.1), (31, .int .i64 x53.2), (32, .int .i64 x54.1), (33, .int .i64 x54.2), (138, .bool cb55)] [boxO 26 g6 [.int .i64 x2.1.W, .int .i64 x2.1.H, .slice a3 x2.1.Breaks.length cp4], rowT 2 eI64 a3 x2.1.Breaks.length cp4 x2.1.Breaks, rowT 88 eSToolMove a9 x8.1.length cp10 x8.1, rowT 88 eSToolMove a23 x22.1.length cp24 x22.1, rowT 88 eSToolMove a27 x26.1.length cp28 x26.1, rowT 2 eI64 a37 x36.1.length cp38 x36.1, rowT 2 eI64 a41 x40.1.length cp42 x40.1]) 5 ?_ ?_
    · refine JL.val (yl_move rfl) rfl ?_
      refine JL.cut (K := fun J => J [(3, ptrAt (some ⟨g6, 0, none⟩) 0), (4, .int .i64 x2.2.1), (5, .int .i64 x2.2.2.1), (6, .int .i64 x2.2.2.2), (7, .slice a9 x8.1.length cp10), (8, .int .i64 x8.2), (16, .slice a23 x22.1.length cp24), (18, .slice a27 x26.1.length cp28), (21, .slice a37 x36.1.length cp38), (22, .int .i64 x36.2), (23, .slice a41 x40.1.length cp42), (24, .int .i64 x40.2), (30, .int .i64 x53.1), (31, .int .i64 x53.2), (32, .int .i64 x54.1), (33, .int .i64 x54.2), (143, .bool (cb55 || (x22.2 != x26.2)))] [boxO 26 g6 [.int .i64 x2.1.W, .int .i64 x2.1.H, .slice a3 x2.1.Breaks.length cp4], rowT 2 eI64 a3 x2.1.Breaks.length cp4 x2.1.Breaks, rowT 88 eSToolMove a9 x8.1.length cp10 x8.1, rowT 88 eSToolMove a23 x22.1.length cp24 x22.1, rowT 88 eSToolMove a27 x26.1.length cp28 x26.1, rowT 2 eI64 a37 x36.1.length cp38 x36.1, rowT 2 eI64 a41 x40.1.length cp42 x40.1]) 4 ?_ ?_
      · refine JL.val (yl_move rfl) rfl ?_
        obtain ⟨cb57, hcb57, hres⟩ := bind_some hres
        refine JL.cut (K := fun J => J [(3, ptrAt (some ⟨g6, 0, none⟩) 0), (4, .int .i64 x2.2.1), (5, .int .i64 x2.2.2.1), (6, .int .i64 x2.2.2.2), (7, .slice a9 x8.1.length cp10), (8, .int .i64 x8.2), (21, .slice a37 x36.1.length cp38), (22, .int .i64 x36.2), (23, .slice a41 x40.1.length cp42), (24, .int .i64 x40.2), (30, .int .i64 x53.1), (31, .int .i64 x53.2), (32, .int .i64 x54.1), (33, .int .i64 x54.2), (149, .bool cb57)] [boxO 26 g6 [.int .i64 x2.1.W, .int .i64 x2.1.H, .slice a3 x2.1.Breaks.length cp4], rowT 2 eI64 a3 x2.1.Breaks.length cp4 x2.1.Breaks, rowT 88 eSToolMove a9 x8.1.length cp10 x8.1, rowT 2 eI64 a37 x36.1.length cp38 x36.1, rowT 2 eI64 a41 x40.1.length cp42 x40.1]) 5 ?_ ?_
        · refine JL.val (yl_move rfl) rfl ?_
          refine JL.cut (K := fun J => J [(3, ptrAt (some ⟨g6, 0, none⟩) 0), (4, .int .i64 x2.2.1), (5, .int .i64 x2.2.2.1), (6, .int .i64 x2.2.2.2), (7, .slice a9 x8.1.length cp10), (8, .int .i64 x8.2), (21, .slice a37 x36.1.length cp38), (23, .slice a41 x40.1.length cp42), (30, .int .i64 x53.1), (31, .int .i64 x53.2), (32, .int .i64 x54.1), (33, .int .i64 x54.2), (154, .bool (cb57 || (x36.2 != x40.2)))] [boxO 26 g6 [.int .i64 x2.1.W, .int .i64 x2.1.H, .slice a3 x2.1.Breaks.length cp4], rowT 2 eI64 a3 x2.1.Breaks.length cp4 x2.1.Breaks, rowT 88 eSToolMove a9 x8.1.length cp10 x8.1, rowT 2 eI64 a37 x36.1.length cp38 x36.1, rowT 2 eI64 a41 x40.1.length cp42 x40.1]) 4 ?_ ?_
          · refine JL.val (yl_move rfl) rfl ?_
            obtain ⟨cb59, hcb59, hres⟩ := bind_some hres
            refine JL.cut (K := fun J => J [(3, ptrAt (some ⟨g6, 0, none⟩) 0), (4, .int .i64 x2.2.1), (5, .int .i64 x2.2.2.1), (6, .int .i64 x2.2.2.2), (7, .slice a9 x8.1.length cp10), (8, .int .i64 x8.2), (30, .int .i64 x53.1), (31, .int .i64 x53.2), (32, .int .i64 x54.1), (33, .int .i64 x54.2), (160, .bool cb59)] [boxO 26 g6 [.int .i64 x2.1.W, .int .i64 x2.1.H, .slice a3 x2.1.Breaks.length cp4], rowT 2 eI64 a3 x2.1.Breaks.length cp4 x2.1.Breaks, rowT 88 eSToolMove a9 x8.1.length cp10 x8.1]) 5 ?_ ?_
            · refine JL.val (yl_move rfl) rfl ?_
              refine JL.cut (K := fun J => J [(3, ptrAt (some ⟨g6, 0, none⟩) 0), (4, .int .i64 x2.2.1), (5, .int .i64 x2.2.2.1), (6, .int .i64 x2.2.2.2), (7, .slice a9 x8.1.length cp10), (8, .int .i64 x8.2), (30, .int .i64 x53.1), (32, .int .i64 x54.1), (165, .bool (cb59 || (x53.2 != x54.2)))] [boxO 26 g6 [.int .i64 x2.1.W, .int .i64 x2.1.H, .slice a3 x2.1.Breaks.length cp4], rowT 2 eI64 a3 x2.1.Breaks.length cp4 x2.1.Breaks, rowT 88 eSToolMove a9 x8.1.length cp10 x8.1]) 4 ?_ ?_
              · refine JL.val (yl_move rfl) rfl ?_
                refine JL.cut (K := fun J => J [(3, ptrAt (some ⟨g6, 0, none⟩) 0), (4, .int .i64 x2.2.1), (5, .int .i64 x2.2.2.1), (6, .int .i64 x2.2.2.2), (7, .slice a9 x8.1.length cp10), (8, .int .i64 x8.2), (170, .bool ((cb59 || (x53.2 != x54.2)) || (x53.1 != x54.1)))] [boxO 26 g6 [.int .i64 x2.1.W, .int .i64 x2.1.H, .slice a3 x2.1.Breaks.length cp4], rowT 2 eI64 a3 x2.1.Breaks.length cp4 x2.1.Breaks, rowT 88 eSToolMove a9 x8.1.length cp10 x8.1]) 4 ?_ ?_
                · refine JL.nil ?_
                  refine JE.weak (env' := [(3, ptrAt (some ⟨g6, 0, none⟩) 0), (4, .int .i64 x2.2.1), (5, .int .i64 x2.2.2.1), (6, .int .i64 x2.2.2.2), (7, .slice a9 x8.1.length cp10), (8, .int .i64 x8.2), (170, .bool ((cb59 || (x53.2 != x54.2)) || (x53.1 != x54.1)))]) (es' := [boxO 26 g6 [.int .i64 x2.1.W, .int .i64 x2.1.H, .slice a3 x2.1.Breaks.length cp4], rowT 2 eI64 a3 x2.1.Breaks.length cp4 x2.1.Breaks, rowT 88 eSToolMove a9 x8.1.length cp10 x8.1]) [0, 1, 2] ?_ ⟨rfl, rfl, rfl, rfl, rfl, rfl, rfl, trivial⟩ (by decide) rfl
                  refine JE.code ?_
                  rcases cond_some hres with ⟨hb, hres⟩ | ⟨hb, hres⟩
                  · refine JX.condT rfl hb ?_
                    refine JX.seq ?_
                    refine JX.region ?_
                    refine JL.val (yl_assign rfl) rfl ?_
                    refine JL.nil ?_
                    refine JE.weak (env' := [(2, .bool false)]) (es' := []) [] ?_ ⟨rfl, trivial⟩ (by decide) rfl
                    refine JE.code ?_
                    refine JX.ret ?_
                    obtain rfl := Option.some.inj hres
                    refine JE.ret (rs := [.tmp 2]) (vs := [.bool false]) rfl ⟨rfl, trivial⟩ ?_
                    exact fun w' hb hs => ⟨_, _, ⟨rfl, rfl⟩, rfl, hb, hs.sel [] _ (by decide) rfl⟩
                  · refine JX.condF rfl hb ?_
                    refine JX.skip ?_
                    refine JE.code ?_
                    refine JX.seq ?_
                    refine JX.seq ?_
                    refine JX.region ?_
                    refine JL.val (yl_move rfl) rfl ?_
                    refine JL.val (yl_neq rfl rfl) rfl ?_
                    refine JL.nil ?_
                    refine JE.code ?_
                    rcases cond_some hres with ⟨hb, hres⟩ | ⟨hb, hres⟩
                    · refine JX.condT rfl hb ?_
                      refine JX.seq ?_
                      refine JX.region ?_
                      refine JL.val (yl_assign rfl) rfl ?_
                      refine JL.nil ?_
                      refine JE.weak (env' := [(2, .bool true)]) (es' := []) [] ?_ ⟨rfl, trivial⟩ (by decide) rfl
                      refine JE.code ?_
                      refine JX.ret ?_
                      obtain rfl := Option.some.inj hres
                      refine JE.ret (rs := [.tmp 2]) (vs := [.bool true]) rfl ⟨rfl, trivial⟩ ?_
                      exact fun w' hb hs => ⟨_, _, ⟨rfl, rfl⟩, rfl, hb, hs.sel [] _ (by decide) rfl⟩
                    · refine JX.condF rfl hb ?_
                      refine JX.skip ?_
                      refine JE.code ?_
                      refine JX.seq ?_
                      refine JX.region ?_
                      refine JL.val (yl_loadn Go.Proofs.Try.underlying26 rfl i26 rfl (fun w hC => rd_box hC 0 rfl) rfl (i26s).symm i26p) rfl ?_
                      obtain ⟨x61, hx61, hres⟩ := bind_some hres
                      refine JL.eff (ef_call (vs := [.agg #[.int .i64 x2.1.W, .int .i64 x2.1.H, .slice a3 x2.1.Breaks.length cp4]]) (T := T62 x61) Go.Proofs.Try.func62 rfl (by kernel_rfl) rfl (fun w hC => c62 (q0 := x2.1) (rd_row hC 1 rfl) rfl (ln_row hC 1 rfl) hx61)) rfl ?_
                      rintro _ _ ⟨_, ⟨rfl, rfl⟩, rfl⟩
                      refine JL.val (yl_move rfl) rfl ?_
                      refine JL.val (yl_extract rfl rfl) rfl ?_
                      refine JL.val (yl_extract rfl rfl) rfl ?_
                      refine JL.val (yl_assign rfl) rfl ?_
                      refine JL.val (yl_assign rfl) rfl ?_
                      refine JL.nil ?_
                      refine JE.weak (env' := [(3, ptrAt (some ⟨g6, 0, none⟩) 0), (4, .int .i64 x2.2.1), (5, .int .i64 x2.2.2.1), (6, .int .i64 x2.2.2.2), (7, .slice a9 x8.1.length cp10), (34, .int .i64 x61.1), (35, .int .i64 x61.2)]) (es' := [boxO 26 g6 [.int .i64 x2.1.W, .int .i64 x2.1.H, .slice a3 x2.1.Breaks.length cp4], rowT 2 eI64 a3 x2.1.Breaks.length cp4 x2.1.Breaks, rowT 88 eSToolMove a9 x8.1.length cp10 x8.1]) [0, 1, 2] ?_ ⟨rfl, rfl, rfl, rfl, rfl, rfl, rfl, trivial⟩ (by decide) rfl
                      refine JE.code ?_
                      refine JX.seq ?_
                      refine JX.region ?_
                      refine JL.val (yl_move rfl) rfl ?_
                      obtain ⟨x62, hx62, hres⟩ := bind_some hres
                      refine JL.eff (ef_call (T := T63 x62) Go.Proofs.Try.func63 rfl (by kernel_rfl) rfl (fun w hC => c63 (rd_row hC 2 rfl) rfl (ln_row hC 2 rfl) hx62)) rfl ?_
                      rintro _ _ ⟨_, ⟨rfl, rfl⟩, rfl⟩
                      refine JL.val (yl_move rfl) rfl ?_
                      refine JL.val (yl_extract rfl rfl) rfl ?_
                      refine JL.val (yl_extract rfl rfl) rfl ?_
                      refine JL.val (yl_assign rfl) rfl ?_
                      refine JL.val (yl_assign rfl) rfl ?_
                      refine JL.nil ?_
                      refine JE.weak (env' := [(3, ptrAt (some ⟨g6, 0, none⟩) 0), (4, .int .i64 x2.2.1), (5, .int .i64 x2.2.2.1), (6, .int .i64 x2.2.2.2), (7, .slice a9 x8.1.length cp10), (34, .int .i64 x61.1), (35, .int .i64 x61.2), (36, .int .i64 x62.1), (37, .int .i64 x62.2)]) (es' := [boxO 26 g6 [.int .i64 x2.1.W, .int .i64 x2.1.H, .slice a3 x2.1.Breaks.length cp4], rowT 2 eI64 a3 x2.1.Breaks.length cp4 x2.1.Breaks, rowT 88 eSToolMove a9 x8.1.length cp10 x8.1]) [0, 1, 2] ?_ ⟨rfl, rfl, rfl, rfl, rfl, rfl, rfl, rfl, rfl, trivial⟩ (by decide) rfl
                      refine JE.code ?_
                      refine JX.seq ?_
                      refine JX.region ?_
                      refine JL.val (yl_loadn Go.Proofs.Try.underlying26 rfl i26 rfl (fun w hC => rd_box hC 0 rfl) rfl (i26s).symm i26p) rfl ?_
                      refine JL.val (yl_move rfl) rfl ?_
                      refine JL.val (yl_move rfl) rfl ?_
                      refine JL.val (yl_move rfl) rfl ?_
                      obtain ⟨x63, hx63, hres⟩ := bind_some hres
                      refine JL.eff (ef_call (vs := [.agg #[.int .i64 x2.1.W, .int .i64 x2.1.H, .slice a3 x2.1.Breaks.length cp4], .slice a9 x8.1.length cp10, .int .i64 x2.2.1, .int .i64 0, .int .i64 x2.2.2.1]) (T := T59 x63) Go.Proofs.Try.func59 rfl (by kernel_rfl) rfl (fun w hC => c59 (q0 := x2.1) (rd_row hC 1 rfl) rfl (ln_row hC 1 rfl) (rd_row hC 2 rfl) rfl (ln_row hC 2 rfl) hx63)) rfl ?_
                      rintro _ _ ⟨_, ⟨rfl, rfl⟩, rfl⟩
                      refine JL.val (yl_move rfl) rfl ?_
                      refine JL.val (yl_extract rfl rfl) rfl ?_
                      refine JL.val (yl_extract rfl rfl) rfl ?_
                      refine JL.val (yl_assign rfl) rfl ?_
                      refine JL.val (yl_assign rfl) rfl ?_
                      refine JL.nil ?_
                      refine JE.weak (env' := [(3, ptrAt (some ⟨g6, 0, none⟩) 0), (4, .int .i64 x2.2.1), (5, .int .i64 x2.2.2.1), (6, .int .i64 x2.2.2.2), (7, .slice a9 x8.1.length cp10), (34, .int .i64 x61.1), (35, .int .i64 x61.2), (36, .int .i64 x62.1), (37, .int .i64 x62.2), (38, .int .i64 x63.1), (39, .int .i64 x63.2)]) (es' := [boxO 26 g6 [.int .i64 x2.1.W, .int .i64 x2.1.H, .slice a3 x2.1.Breaks.length cp4], rowT 2 eI64 a3 x2.1.Breaks.length cp4 x2.1.Breaks, rowT 88 eSToolMove a9 x8.1.length cp10 x8.1]) [0, 1, 2] ?_ ⟨rfl, rfl, rfl, rfl, rfl, rfl, rfl, rfl, rfl, rfl, rfl, trivial⟩ (by decide) rfl
                      refine JE.code ?_
                      refine JX.seq ?_
                      refine JX.region ?_
                      refine JL.val (yl_fieldAt (a := some _) Go.Proofs.Try.underlying26 rfl i2 i2n rfl rfl) rfl ?_
                      refine JL.val (yl_load1 Go.Proofs.Try.underlying2 rfl rfl (fun w hC => rd_box hC 0 rfl) rfl) rfl ?_
                      refine JL.val (yl_mul rfl rfl) rfl ?_
                      refine JL.val (yl_fieldAt (a := some _) Go.Proofs.Try.underlying26 rfl i2 i2n rfl rfl) rfl ?_
                      refine JL.val (yl_load1 Go.Proofs.Try.underlying2 rfl rfl (fun w hC => rd_box hC 0 rfl) rfl) rfl ?_
                      refine JL.val (yl_mul rfl rfl) rfl ?_
                      refine JL.val (yl_assign rfl) rfl ?_
                      refine JL.nil ?_
                      refine JE.weak (env' := [(4, .int .i64 x2.2.1), (5, .int .i64 x2.2.2.1), (6, .int .i64 x2.2.2.2), (7, .slice a9 x8.1.length cp10), (34, .int .i64 x61.1), (35, .int .i64 x61.2), (36, .int .i64 x62.1), (37, .int .i64 x62.2), (38, .int .i64 x63.1), (39, .int .i64 x63.2), (40, .int .i64 (w64 ((w64 (4 * x2.1.W)) * x2.1.H)))]) (es' := [rowT 88 eSToolMove a9 x8.1.length cp10 x8.1]) [2] ?_ ⟨rfl, rfl, rfl, rfl, rfl, rfl, rfl, rfl, rfl, rfl, rfl, trivial⟩ (by decide) rfl
                      refine JE.code ?_
                      refine JX.seq ?_
                      refine JX.region ?_
                      refine JL.val (yl_move rfl) rfl ?_
                      refine JL.val (yl_eql rfl rfl) rfl ?_
                      refine JL.val (yl_move rfl) rfl ?_
                      refine JL.cut (K := fun J => J [(4, .int .i64 x2.2.1), (5, .int .i64 x2.2.2.1), (6, .int .i64 x2.2.2.2), (7, .slice a9 x8.1.length cp10), (34, .int .i64 x61.1), (36, .int .i64 x62.1), (38, .int .i64 x63.1), (39, .int .i64 x63.2), (40, .int .i64 (w64 ((w64 (4 * x2.1.W)) * x2.1.H))), (202, .bool ((x61.2 == 0) && (x62.2 == 0)))] [rowT 88 eSToolMove a9 x8.1.length cp10 x8.1]) 3 ?_ ?_
                      · refine JL.val (yl_move rfl) rfl ?_
                        refine JL.cut (K := fun J => J [(7, .slice a9 x8.1.length cp10), (34, .int .i64 x61.1), (38, .int .i64 x63.1), (39, .int .i64 x63.2), (40, .int .i64 (w64 ((w64 (4 * x2.1.W)) * x2.1.H))), (216, .bool (((x61.2 == 0) && (x62.2 == 0)) && (x62.1 == (w64 ((w64 ((w64 ((w64 (4 * x2.1.W)) * x2.1.H)) * x2.2.1)) + (w64 ((w64 (2 * x61.1)) * (w64 (x2.2.2.1 + x2.2.2.2)))))))))] [rowT 88 eSToolMove a9 x8.1.length cp10 x8.1]) 13 ?_ ?_
                        · refine JL.val (yl_move rfl) rfl ?_
                          refine JL.cut (K := fun J => J [(7, .slice a9 x8.1.length cp10), (34, .int .i64 x61.1), (38, .int .i64 x63.1), (40, .int .i64 (w64 ((w64 (4 * x2.1.W)) * x2.1.H))), (220, .bool ((((x61.2 == 0) && (x62.2 == 0)) && (x62.1 == (w64 ((w64 ((w64 ((w64 (4 * x2.1.W)) * x2.1.H)) * x2.2.1)) + (w64 ((w64 (2 * x61.1)) * (w64 (x2.2.2.1 + x2.2.2.2)))))))) && (x63.2 == 0)))] [rowT 88 eSToolMove a9 x8.1.length cp10 x8.1]) 3 ?_ ?_
                          · refine JL.val (yl_move rfl) rfl ?_
                            refine JL.cut (K := fun J => J [(7, .slice a9 x8.1.length cp10), (34, .int .i64 x61.1), (40, .int .i64 (w64 ((w64 (4 * x2.1.W)) * x2.1.H))), (224, .bool (((((x61.2 == 0) && (x62.2 == 0)) && (x62.1 == (w64 ((w64 ((w64 ((w64 (4 * x2.1.W)) * x2.1.H)) * x2.2.1)) + (w64 ((w64 (2 * x61.1)) * (w64 (x2.2.2.1 + x2.2.2.2)))))))) && (x63.2 == 0)) && (x63.1 == (-1))))] [rowT 88 eSToolMove a9 x8.1.length cp10 x8.1]) 3 ?_ ?_
                            · refine JL.val (yl_move rfl) rfl ?_
                              refine JL.cut (K := fun J => J [(233, .bool ((((((x61.2 == 0) && (x62.2 == 0)) && (x62.1 == (w64 ((w64 ((w64 ((w64 (4 * x2.1.W)) * x2.1.H)) * x2.2.1)) + (w64 ((w64 (2 * x61.1)) * (w64 (x2.2.2.1 + x2.2.2.2)))))))) && (x63.2 == 0)) && (x63.1 == (-1))) && ((x8.1.length : Int) == (w64 ((w64 ((w64 (4 * x2.1.W)) * x2.1.H)) + (w64 (3 * x61.1)))))))] []) 8 ?_ ?_
                              · refine JL.val (yl_assign rfl) rfl ?_
                                refine JL.nil ?_
                                refine JE.weak (env' := [(2, .bool ((((((x61.2 == 0) && (x62.2 == 0)) && (x62.1 == (w64 ((w64 ((w64 ((w64 (4 * x2.1.W)) * x2.1.H)) * x2.2.1)) + (w64 ((w64 (2 * x61.1)) * (w64 (x2.2.2.1 + x2.2.2.2)))))))) && (x63.2 == 0)) && (x63.1 == (-1))) && ((x8.1.length : Int) == (w64 ((w64 ((w64 (4 * x2.1.W)) * x2.1.H)) + (w64 (3 * x61.1)))))))]) (es' := []) [] ?_ ⟨rfl, trivial⟩ (by decide) rfl
                                refine JE.code ?_
                                refine JX.ret ?_
                                obtain rfl := Option.some.inj hres
                                refine JE.ret (rs := [.tmp 2]) (vs := [.bool ((((((x61.2 == 0) && (x62.2 == 0)) && (x62.1 == (w64 ((w64 ((w64 ((w64 (4 * x2.1.W)) * x2.1.H)) * x2.2.1)) + (w64 ((w64 (2 * x61.1)) * (w64 (x2.2.2.1 + x2.2.2.2)))))))) && (x63.2 == 0)) && (x63.1 == (-1))) && ((x8.1.length : Int) == (w64 ((w64 ((w64 (4 * x2.1.W)) * x2.1.H)) + (w64 (3 * x61.1))))))]) rfl ⟨rfl, trivial⟩ ?_
                                exact fun w' hb hs => ⟨_, _, ⟨rfl, rfl⟩, rfl, hb, hs.sel [] _ (by decide) rfl⟩
                              · intro K
                                rcases Bool.eq_false_or_eq_true (((((x61.2 == 0) && (x62.2 == 0)) && (x62.1 == (w64 ((w64 ((w64 ((w64 (4 * x2.1.W)) * x2.1.H)) * x2.2.1)) + (w64 ((w64 (2 * x61.1)) * (w64 (x2.2.2.1 + x2.2.2.2)))))))) && (x63.2 == 0)) && (x63.1 == (-1))) with hb | hb
                                · refine JL.set (d := 225) (v := .bool true) (congrArg (fun b => some (Value.bool b)) hb) ?_
                                  refine JL.gval rfl rfl (yl_move rfl) rfl ?_
                                  refine JL.gval rfl rfl (yl_len_slice Go.Proofs.Try.underlying65 rfl) rfl ?_
                                  refine JL.gval rfl rfl (yl_move rfl) rfl ?_
                                  refine JL.gval rfl rfl (yl_move rfl) rfl ?_
                                  refine JL.gval rfl rfl (yl_mul rfl rfl) rfl ?_
                                  refine JL.gval rfl rfl (yl_add rfl rfl) rfl ?_
                                  refine JL.gval rfl rfl (yl_eql rfl rfl) rfl ?_
                                  refine JL.val (yl_pick_true rfl rfl) rfl ?_
                                  exact JL.weak [] K ⟨(by rw [hb]; rfl), trivial⟩ (by decide) rfl
                                · refine JL.set (d := 225) (v := .bool false) (congrArg (fun b => some (Value.bool b)) hb) ?_
                                  refine JL.gskip rfl rfl rfl rfl ?_
                                  refine JL.gskip rfl rfl rfl rfl ?_
                                  refine JL.gskip rfl rfl rfl rfl ?_
                                  refine JL.gskip rfl rfl rfl rfl ?_
                                  refine JL.gskip rfl rfl rfl rfl ?_
                                  refine JL.gskip rfl rfl rfl rfl ?_
                                  refine JL.gskip rfl rfl rfl rfl ?_
                                  refine JL.val (yl_pick_false rfl rfl) rfl ?_
                                  exact JL.weak [] K ⟨(by rw [hb]; rfl), trivial⟩ (by decide) rfl
                            · intro K
                              rcases Bool.eq_false_or_eq_true ((((x61.2 == 0) && (x62.2 == 0)) && (x62.1 == (w64 ((w64 ((w64 ((w64 (4 * x2.1.W)) * x2.1.H)) * x2.2.1)) + (w64 ((w64 (2 * x61.1)) * (w64 (x2.2.2.1 + x2.2.2.2)))))))) && (x63.2 == 0)) with hb | hb
                              · refine JL.set (d := 221) (v := .bool true) (congrArg (fun b => some (Value.bool b)) hb) ?_
                                refine JL.gval rfl rfl (yl_move rfl) rfl ?_
                                refine JL.gval rfl rfl (yl_eql rfl rfl) rfl ?_
                                refine JL.val (yl_pick_true rfl rfl) rfl ?_
                                exact JL.weak [0] K ⟨rfl, rfl, rfl, (by rw [hb]; rfl), trivial⟩ (by decide) rfl
                              · refine JL.set (d := 221) (v := .bool false) (congrArg (fun b => some (Value.bool b)) hb) ?_
                                refine JL.gskip rfl rfl rfl rfl ?_
                                refine JL.gskip rfl rfl rfl rfl ?_
                                refine JL.val (yl_pick_false rfl rfl) rfl ?_
                                exact JL.weak [0] K ⟨rfl, rfl, rfl, (by rw [hb]; rfl), trivial⟩ (by decide) rfl
                          · intro K
                            rcases Bool.eq_false_or_eq_true (((x61.2 == 0) && (x62.2 == 0)) && (x62.1 == (w64 ((w64 ((w64 ((w64 (4 * x2.1.W)) * x2.1.H)) * x2.2.1)) + (w64 ((w64 (2 * x61.1)) * (w64 (x2.2.2.1 + x2.2.2.2)))))))) with hb | hb
                            · refine JL.set (d := 217) (v := .bool true) (congrArg (fun b => some (Value.bool b)) hb) ?_
                              refine JL.gval rfl rfl (yl_move rfl) rfl ?_
                              refine JL.gval rfl rfl (yl_eql rfl rfl) rfl ?_
                              refine JL.val (yl_pick_true rfl rfl) rfl ?_
                              exact JL.weak [0] K ⟨rfl, rfl, rfl, rfl, (by rw [hb]; rfl), trivial⟩ (by decide) rfl
                            · refine JL.set (d := 217) (v := .bool false) (congrArg (fun b => some (Value.bool b)) hb) ?_
                              refine JL.gskip rfl rfl rfl rfl ?_
                              refine JL.gskip rfl rfl rfl rfl ?_
                              refine JL.val (yl_pick_false rfl rfl) rfl ?_
                              exact JL.weak [0] K ⟨rfl, rfl, rfl, rfl, (by rw [hb]; rfl), trivial⟩ (by decide) rfl
                        · intro K
                          rcases Bool.eq_false_or_eq_true ((x61.2 == 0) && (x62.2 == 0)) with hb | hb
                          · refine JL.set (d := 203) (v := .bool true) (congrArg (fun b => some (Value.bool b)) hb) ?_
                            refine JL.gval rfl rfl (yl_move rfl) rfl ?_
                            refine JL.gval rfl rfl (yl_move rfl) rfl ?_
                            refine JL.gval rfl rfl (yl_move rfl) rfl ?_
                            refine JL.gval rfl rfl (yl_mul rfl rfl) rfl ?_
                            refine JL.gval rfl rfl (yl_move rfl) rfl ?_
                            refine JL.gval rfl rfl (yl_mul rfl rfl) rfl ?_
                            refine JL.gval rfl rfl (yl_move rfl) rfl ?_
                            refine JL.gval rfl rfl (yl_move rfl) rfl ?_
                            refine JL.gval rfl rfl (yl_add rfl rfl) rfl ?_
                            refine JL.gval rfl rfl (yl_mul rfl rfl) rfl ?_
                            refine JL.gval rfl rfl (yl_add rfl rfl) rfl ?_
                            refine JL.gval rfl rfl (yl_eql rfl rfl) rfl ?_
                            refine JL.val (yl_pick_true rfl rfl) rfl ?_
                            exact JL.weak [0] K ⟨rfl, rfl, rfl, rfl, rfl, (by rw [hb]; rfl), trivial⟩ (by decide) rfl
                          · refine JL.set (d := 203) (v := .bool false) (congrArg (fun b => some (Value.bool b)) hb) ?_
                            refine JL.gskip rfl rfl rfl rfl ?_
                            refine JL.gskip rfl rfl rfl rfl ?_
                            refine JL.gskip rfl rfl rfl rfl ?_
                            refine JL.gskip rfl rfl rfl rfl ?_
                            refine JL.gskip rfl rfl rfl rfl ?_
                            refine JL.gskip rfl rfl rfl rfl ?_
                            refine JL.gskip rfl rfl rfl rfl ?_
                            refine JL.gskip rfl rfl rfl rfl ?_
                            refine JL.gskip rfl rfl rfl rfl ?_
                            refine JL.gskip rfl rfl rfl rfl ?_
                            refine JL.gskip rfl rfl rfl rfl ?_
                            refine JL.gskip rfl rfl rfl rfl ?_
                            refine JL.val (yl_pick_false rfl rfl) rfl ?_
                            exact JL.weak [0] K ⟨rfl, rfl, rfl, rfl, rfl, (by rw [hb]; rfl), trivial⟩ (by decide) rfl
                      · intro K
                        rcases Bool.eq_false_or_eq_true (x61.2 == 0) with hb | hb
                        · refine JL.set (d := 199) (v := .bool true) (congrArg (fun b => some (Value.bool b)) hb) ?_
                          refine JL.gval rfl rfl (yl_move rfl) rfl ?_
                          refine JL.gval rfl rfl (yl_eql rfl rfl) rfl ?_
                          refine JL.val (yl_pick_true rfl rfl) rfl ?_
                          exact JL.weak [0] K ⟨rfl, rfl, rfl, rfl, rfl, rfl, rfl, rfl, rfl, (by rw [hb]; rfl), trivial⟩ (by decide) rfl
                        · refine JL.set (d := 199) (v := .bool false) (congrArg (fun b => some (Value.bool b)) hb) ?_
                          refine JL.gskip rfl rfl rfl rfl ?_
                          refine JL.gskip rfl rfl rfl rfl ?_
                          refine JL.val (yl_pick_false rfl rfl) rfl ?_
                          exact JL.weak [0] K ⟨rfl, rfl, rfl, rfl, rfl, rfl, rfl, rfl, rfl, (by rw [hb]; rfl), trivial⟩ (by decide) rfl
                · intro K
                  rcases Bool.eq_false_or_eq_true (cb59 || (x53.2 != x54.2)) with hb | hb
                  · refine JL.set (d := 166) (v := .bool true) (congrArg (fun b => some (Value.bool b)) hb) ?_
                    refine JL.gskip rfl rfl rfl rfl ?_
                    refine JL.gskip rfl rfl rfl rfl ?_
                    refine JL.gskip rfl rfl rfl rfl ?_
                    refine JL.val (yl_pick_true rfl rfl) rfl ?_
                    exact JL.weak [0, 1, 2] K ⟨rfl, rfl, rfl, rfl, rfl, rfl, (by rw [hb]; rfl), trivial⟩ (by decide) rfl
                  · refine JL.set (d := 166) (v := .bool false) (congrArg (fun b => some (Value.bool b)) hb) ?_
                    refine JL.gval rfl rfl (yl_move rfl) rfl ?_
                    refine JL.gval rfl rfl (yl_move rfl) rfl ?_
                    refine JL.gval rfl rfl (yl_neq rfl rfl) rfl ?_
                    refine JL.val (yl_pick_false rfl rfl) rfl ?_
                    exact JL.weak [0, 1, 2] K ⟨rfl, rfl, rfl, rfl, rfl, rfl, (by rw [hb]; rfl), trivial⟩ (by decide) rfl
              · intro K
                rcases Bool.eq_false_or_eq_true (cb59) with hb | hb
                · refine JL.set (d := 161) (v := .bool true) (congrArg (fun b => some (Value.bool b)) hb) ?_
                  refine JL.gskip rfl rfl rfl rfl ?_
                  refine JL.gskip rfl rfl rfl rfl ?_
                  refine JL.gskip rfl rfl rfl rfl ?_
                  refine JL.val (yl_pick_true rfl rfl) rfl ?_
                  exact JL.weak [0, 1, 2] K ⟨rfl, rfl, rfl, rfl, rfl, rfl, rfl, rfl, (by rw [hb]; rfl), trivial⟩ (by decide) rfl
                · refine JL.set (d := 161) (v := .bool false) (congrArg (fun b => some (Value.bool b)) hb) ?_
                  refine JL.gval rfl rfl (yl_move rfl) rfl ?_
                  refine JL.gval rfl rfl (yl_move rfl) rfl ?_
                  refine JL.gval rfl rfl (yl_neq rfl rfl) rfl ?_
                  refine JL.val (yl_pick_false rfl rfl) rfl ?_
                  exact JL.weak [0, 1, 2] K ⟨rfl, rfl, rfl, rfl, rfl, rfl, rfl, rfl, (by rw [hb]; rfl), trivial⟩ (by decide) rfl
            · intro K
              rcases cond_some hcb59 with ⟨hb, hres⟩ | ⟨hb, hres⟩
              · refine JL.set (d := 155) (v := .bool true) (congrArg (fun b => some (Value.bool b)) hb) ?_
                refine JL.gskip rfl rfl rfl rfl ?_
                refine JL.gskip rfl rfl rfl rfl ?_
                refine JL.gskip rfl rfl rfl rfl ?_
                refine JL.gskip rfl rfl rfl rfl ?_
                refine JL.val (yl_pick_true rfl rfl) rfl ?_
                have he := Option.some.inj hres
                exact JL.weak [0, 1, 2] K ⟨rfl, rfl, rfl, rfl, rfl, rfl, rfl, rfl, rfl, rfl, (by rw [← he]; rfl), trivial⟩ (by decide) rfl
              · refine JL.set (d := 155) (v := .bool false) (congrArg (fun b => some (Value.bool b)) hb) ?_
                refine JL.gval rfl rfl (yl_move rfl) rfl ?_
                refine JL.gval rfl rfl (yl_move rfl) rfl ?_
                obtain ⟨x60, hx60, hres⟩ := bind_some hres
                refine JL.geff rfl rfl (ef_call (T := T46 x60) Go.Proofs.Try.func46 rfl (by kernel_rfl) rfl (fun w hC => c46 (rd_row hC 3 rfl) rfl (ln_row hC 3 rfl) (rd_row hC 4 rfl) rfl (ln_row hC 4 rfl) hx60)) rfl ?_
                rintro _ _ ⟨_, ⟨rfl, rfl⟩, rfl⟩
                refine JL.gval rfl rfl (yl_not rfl) rfl ?_
                refine JL.val (yl_pick_false rfl rfl) rfl ?_
                have he := Option.some.inj hres
                exact JL.weak [0, 1, 2] K ⟨rfl, rfl, rfl, rfl, rfl, rfl, rfl, rfl, rfl, rfl, (by rw [← he]; rfl), trivial⟩ (by decide) rfl
          · intro K
            rcases Bool.eq_false_or_eq_true (cb57) with hb | hb
            · refine JL.set (d := 150) (v := .bool true) (congrArg (fun b => some (Value.bool b)) hb) ?_
              refine JL.gskip rfl rfl rfl rfl ?_
              refine JL.gskip rfl rfl rfl rfl ?_
              refine JL.gskip rfl rfl rfl rfl ?_
              refine JL.val (yl_pick_true rfl rfl) rfl ?_
              exact JL.weak [0, 1, 2, 3, 4] K ⟨rfl, rfl, rfl, rfl, rfl, rfl, rfl, rfl, rfl, rfl, rfl, rfl, (by rw [hb]; rfl), trivial⟩ (by decide) rfl
            · refine JL.set (d := 150) (v := .bool false) (congrArg (fun b => some (Value.bool b)) hb) ?_
              refine JL.gval rfl rfl (yl_move rfl) rfl ?_
              refine JL.gval rfl rfl (yl_move rfl) rfl ?_
              refine JL.gval rfl rfl (yl_neq rfl rfl) rfl ?_
              refine JL.val (yl_pick_false rfl rfl) rfl ?_
              exact JL.weak [0, 1, 2, 3, 4] K ⟨rfl, rfl, rfl, rfl, rfl, rfl, rfl, rfl, rfl, rfl, rfl, rfl, (by rw [hb]; rfl), trivial⟩ (by decide) rfl
        · intro K
          rcases cond_some hcb57 with ⟨hb, hres⟩ | ⟨hb, hres⟩
          · refine JL.set (d := 144) (v := .bool true) (congrArg (fun b => some (Value.bool b)) hb) ?_
            refine JL.gskip rfl rfl rfl rfl ?_
            refine JL.gskip rfl rfl rfl rfl ?_
            refine JL.gskip rfl rfl rfl rfl ?_
            refine JL.gskip rfl rfl rfl rfl ?_
            refine JL.val (yl_pick_true rfl rfl) rfl ?_
            have he := Option.some.inj hres
            exact JL.weak [0, 1, 2, 5, 6] K ⟨rfl, rfl, rfl, rfl, rfl, rfl, rfl, rfl, rfl, rfl, rfl, rfl, rfl, rfl, (by rw [← he]; rfl), trivial⟩ (by decide) rfl
          · refine JL.set (d := 144) (v := .bool false) (congrArg (fun b => some (Value.bool b)) hb) ?_
            refine JL.gval rfl rfl (yl_move rfl) rfl ?_
            refine JL.gval rfl rfl (yl_move rfl) rfl ?_
            obtain ⟨x58, hx58, hres⟩ := bind_some hres
            refine JL.geff rfl rfl (ef_call (T := T61 x58) Go.Proofs.Try.func61 rfl (by kernel_rfl) rfl (fun w hC => c61 (rd_row hC 3 rfl) rfl (ln_row hC 3 rfl) (rd_row hC 4 rfl) rfl (ln_row hC 4 rfl) hx58)) rfl ?_
            rintro _ _ ⟨_, ⟨rfl, rfl⟩, rfl⟩
            refine JL.gval rfl rfl (yl_not rfl) rfl ?_
            refine JL.val (yl_pick_false rfl rfl) rfl ?_
            have he := Option.some.inj hres
            exact JL.weak [0, 1, 2, 5, 6] K ⟨rfl, rfl, rfl, rfl, rfl, rfl, rfl, rfl, rfl, rfl, rfl, rfl, rfl, rfl, (by rw [← he]; rfl), trivial⟩ (by decide) rfl
      · intro K
        rcases Bool.eq_false_or_eq_true (cb55) with hb | hb
        · refine JL.set (d := 139) (v := .bool true) (congrArg (fun b => some (Value.bool b)) hb) ?_
          refine JL.gskip rfl rfl rfl rfl ?_
          refine JL.gskip rfl rfl rfl rfl ?_
          refine JL.gskip rfl rfl rfl rfl ?_
          refine JL.val (yl_pick_true rfl rfl) rfl ?_
          exact JL.weak [0, 1, 2, 3, 4, 5, 6] K ⟨rfl, rfl, rfl, rfl, rfl, rfl, rfl, rfl, rfl, rfl, rfl, rfl, rfl, rfl, rfl, rfl, (by rw [hb]; rfl), trivial⟩ (by decide) rfl
        · refine JL.set (d := 139) (v := .bool false) (congrArg (fun b => some (Value.bool b)) hb) ?_
          refine JL.gval rfl rfl (yl_move rfl) rfl ?_
          refine JL.gval rfl rfl (yl_move rfl) rfl ?_
          refine JL.gval rfl rfl (yl_neq rfl rfl) rfl ?_
          refine JL.val (yl_pick_false rfl rfl) rfl ?_
          exact JL.weak [0, 1, 2, 3, 4, 5, 6] K ⟨rfl, rfl, rfl, rfl, rfl, rfl, rfl, rfl, rfl, rfl, rfl, rfl, rfl, rfl, rfl, rfl, (by rw [hb]; rfl), trivial⟩ (by decide) rfl
    · intro K
      rcases cond_some hcb55 with ⟨hb, hres⟩ | ⟨hb, hres⟩
      · refine JL.set (d := 133) (v := .bool true) (congrArg (fun b => some (Value.bool b)) hb) ?_
        refine JL.gskip rfl rfl rfl rfl ?_
        refine JL.gskip rfl rfl rfl rfl ?_
        refine JL.gskip rfl rfl rfl rfl ?_
        refine JL.gskip rfl rfl rfl rfl ?_
        refine JL.val (yl_pick_true rfl rfl) rfl ?_
        have he := Option.some.inj hres
        exact JL.weak [0, 1, 2, 4, 5, 6, 7] K ⟨rfl, rfl, rfl, rfl, rfl, rfl, rfl, rfl, rfl, rfl, rfl, rfl, rfl, rfl, rfl, rfl, rfl, rfl, (by rw [← he]; rfl), trivial⟩ (by decide) rfl
      · refine JL.set (d := 133) (v := .bool false) (congrArg (fun b => some (Value.bool b)) hb) ?_
        refine JL.gval rfl rfl (yl_move rfl) rfl ?_
        refine JL.gval rfl rfl (yl_move rfl) rfl ?_
        obtain ⟨x56, hx56, hres⟩ := bind_some hres
        refine JL.geff rfl rfl (ef_call (T := T61 x56) Go.Proofs.Try.func61 rfl (by kernel_rfl) rfl (fun w hC => c61 (rd_row hC 2 rfl) rfl (ln_row hC 2 rfl) (rd_row hC 3 rfl) rfl (ln_row hC 3 rfl) hx56)) rfl ?_
        rintro _ _ ⟨_, ⟨rfl, rfl⟩, rfl⟩
        refine JL.gval rfl rfl (yl_not rfl) rfl ?_
        refine JL.val (yl_pick_false rfl rfl) rfl ?_
        have he := Option.some.inj hres
        exact JL.weak [0, 1, 2, 4, 5, 6, 7] K ⟨rfl, rfl, rfl, rfl, rfl, rfl, rfl, rfl, rfl, rfl, rfl, rfl, rfl, rfl, rfl, rfl, rfl, rfl, (by rw [← he]; rfl), trivial⟩ (by decide) rfl

end Go.Sh
