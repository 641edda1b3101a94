/- Walks through functions that the law reaches, printed by program. -/
import Derived.Test.YtinipjijgggjkaaF12W1
set_option linter.unusedVariables false
set_option linter.unusedSimpArgs false
namespace Go.Sh
open Go Go.RowKit
/- spec.RegionNeighbours -/
def sh43_2 (q0 : SPanel) (q1 : Int) (x3 : List (List SPoint) × List Int × Int) (x18 : Int) : (Int × List Int) → Option ((Int × List Int) ⊕ (List Int))
  | (x28, x29) => bif decide (x28 < 4) then (Option.bind (getI x3.1 q1) fun x33 => Option.bind (getI x33 x18) fun x37 => Option.bind (getI x3.1 q1) fun x38 => Option.bind (getI x38 x18) fun x42 => Option.bind (sh84 q0 (SPoint.mk (w64 ((w64 (x37.X + (w64 ((x28.tmod 2) * 2)))) - 1)) (w64 ((w64 (x42.Y + (w64 ((w64 (x28.tdiv 2)) * 2)))) - 1)))) fun x45 => Option.bind (bif x45 then (Option.bind (sh85 q0 (SPoint.mk (w64 ((w64 (x37.X + (w64 ((x28.tmod 2) * 2)))) - 1)) (w64 ((w64 (x42.Y + (w64 ((w64 (x28.tdiv 2)) * 2)))) - 1)))) fun x49 => Option.bind (getI x3.2.1 x49) fun x50 => Option.bind (sh105 x29 x50) fun x51 => some x51) else (some x29)) fun j46 => (some (.inl (w64 (x28 + 1), j46)))) else (some (.inr x29))
def sh43_1 (q0 : SPanel) (q1 : Int) (x3 : List (List SPoint) × List Int × Int) : (Int × List Int) → Option ((Int × List Int) ⊕ (List Int))
  | (x18, x19) => Option.bind (getI x3.1 q1) fun x22 => bif decide (x18 < (x22.length : Int)) then (Option.bind (iter (sh43_2 q0 q1 x3 x18) (0, x19)) fun b2 => (some (.inl (w64 (x18 + 1), b2)))) else (some (.inr x19))
def sh43 (q0 : SPanel) (q1 : Int) : Option (List Int × Int) := Option.bind (sh89 q0 q1) fun x3 => bif x3.2.2 != 0 then (some (([] : List Int), x3.2.2)) else (Option.bind (iter (sh43_1 q0 q1 x3) (0, ([] : List Int))) fun b1 => (some (b1, 0)))
def T43 (r : List Int × Int) (v : Value) (rs : List Own) : Prop := ∃ (a0 : Option Addr) (n0 c0 : Nat), r.1.length = n0 ∧ v = rets [.slice a0 n0 c0, .int .i64 r.2] ∧ rs = [rowT 2 eI64 a0 n0 c0 r.1]
set_option maxRecDepth 100000 in
theorem c43 {w : World} {q0 : SPanel} {a_0_2 : Option Addr} {n_0_2 c_0_2 : Nat} (g_0_2 : Rd w a_0_2 (eI64.fl q0.Breaks)) (l_0_2 : q0.Breaks.length = n_0_2) (k_0_2 : n_0_2 ≤ c_0_2) {q1 : Int} {r : List Int × Int} (hres : sh43 q0 q1 = some r) : Calls Go.Proofs.Try.prog 43 [.agg #[.int .i64 q0.W, .int .i64 q0.H, .slice a_0_2 n_0_2 c_0_2], .int .i64 q1].toArray w (Ret w (T43 r)) := by
  subst l_0_2
  unfold sh43 at hres
  refine calls_of (n := 73) (M := []) (es := []) Go.Proofs.Try.func43 rfl rfl rfl (Sep.nil _ _ _) ?_
  refine JX.seq ?_
  refine JX.region ?_
  refine JL.eff (ef_box rfl rfl) rfl ?_
  rintro _ _ ⟨g1, rfl, rfl⟩
  refine JL.val (yl_assign rfl) rfl ?_
  refine JL.val (yl_assign rfl) rfl ?_
  refine JL.nil ?_
  refine JE.code ?_
  refine JX.seq ?_
  refine JX.region ?_
  refine JL.val (yl_move rfl) rfl ?_
  obtain ⟨x3, hx3, hres⟩ := bind_some hres
  refine JL.eff (ef_call (T := T89 x3) Go.Proofs.Try.func89 rfl (by kernel_rfl) rfl (fun w hC => c89 (RdAt.of0 (rd_box hC 0 rfl)) (rd_arg g_0_2 hC) rfl k_0_2 hx3)) rfl ?_
  rintro _ _ ⟨_, ⟨a4, _, cp5, hs7, rfl, hi8, a10, _, cp11, rfl, rfl, rfl⟩, rfl⟩
  refine JL.val (yl_move rfl) rfl ?_
  refine JL.val (yl_extract rfl rfl) rfl ?_
  refine JL.val (yl_extract rfl rfl) rfl ?_
  refine JL.val (yl_extract rfl rfl) rfl ?_
  refine JL.val (yl_assign rfl) rfl ?_
  refine JL.val (yl_assign rfl) rfl ?_
  refine JL.val (yl_assign rfl) rfl ?_
  refine JL.nil ?_
  refine JE.weak (env' := [(1, .int .i64 q1), (2, ptrAt (some ⟨g1, 0, none⟩) 0), (6, .slice a4 x3.1.length cp5), (7, .slice a10 x3.2.1.length cp11), (8, .int .i64 x3.2.2)]) (es' := [boxO 28 g1 [.int .i64 q0.W, .int .i64 q0.H, .slice a_0_2 q0.Breaks.length c_0_2], rowT 61 eHd a4 x3.1.length cp5 hs7, innO 35 eSPoint none hs7 x3.1, rowT 2 eI64 a10 x3.2.1.length cp11 x3.2.1]) [0, 1, 2, 3] ?_ ⟨rfl, rfl, rfl, rfl, rfl, trivial⟩ (by decide) rfl
  refine JE.code ?_
  refine JX.seq ?_
  refine JX.seq ?_
  refine JX.region ?_
  refine JL.val (yl_move rfl) rfl ?_
  refine JL.val (yl_neq rfl rfl) rfl ?_
  refine JL.nil ?_
  refine JE.code ?_
  rcases cond_some hres with ⟨hb, hres⟩ | ⟨hb, hres⟩
  · refine JX.condT rfl hb ?_
    refine JX.seq ?_
    refine JX.region ?_
    refine JL.val (yl_move rfl) rfl ?_
    refine JL.val (yl_assign rfl) rfl ?_
    refine JL.val (yl_assign rfl) rfl ?_
    refine JL.nil ?_
    refine JE.weak (env' := [(4, .slice none 0 0), (5, .int .i64 x3.2.2)]) (es' := []) [] ?_ ⟨rfl, rfl, trivial⟩ (by decide) rfl
    refine JE.code ?_
    refine JX.ret ?_
    refine JE.nilrow 2 eI64 ?_
    obtain rfl := Option.some.inj hres
    refine JE.ret (rs := [.tmp 4, .tmp 5]) (vs := [.slice none 0 0, .int .i64 x3.2.2]) rfl ⟨rfl, rfl, trivial⟩ ?_
    exact fun w' hb hs => ⟨_, _, ⟨none, 0, 0, rfl, rfl, rfl⟩, rfl, hb, hs.sel [0] _ (by decide) rfl⟩
  · refine JX.condF rfl hb ?_
    refine JX.skip ?_
    refine JE.code ?_
    refine JX.seq ?_
    refine JX.region ?_
    refine JL.eff (ef_buildSlice (E := 2) (k := eI64.k) (us := eI64.fl ([] : List Int)) rfl (fun w => bsl22_0  w) rfl (by decide)) rfl ?_
    rintro _ _ ⟨a14, rfl, rfl⟩
    refine JL.val (yl_assign rfl) rfl ?_
    refine JL.nil ?_
    refine JE.code ?_
    refine JX.seq ?_
    refine JX.seq ?_
    refine JX.region ?_
    refine JL.val (yl_assign rfl) rfl ?_
    refine JL.nil ?_
    refine JE.code ?_
    refine JX.block ?_
    obtain ⟨y1, hy1, hresO1⟩ := bind_some hres
    refine JX.loop (I := fun (s1 : Int × List Int) aa ww => ∃ (a16 : Option Addr) (cp17 : Nat), St w [] 73 [(1, .int .i64 q1), (2, ptrAt (some ⟨g1, 0, none⟩) 0), (6, .slice a4 x3.1.length cp5), (7, .slice a10 x3.2.1.length cp11), (9, .slice a16 s1.2.length cp17), (10, .int .i64 s1.1)] [boxO 28 g1 [.int .i64 q0.W, .int .i64 q0.H, .slice a_0_2 q0.Breaks.length c_0_2], rowT 61 eHd a4 x3.1.length cp5 hs7, innO 35 eSPoint none hs7 x3.1, rowT 2 eI64 a10 x3.2.1.length cp11 x3.2.1, rowT 2 eI64 a16 s1.2.length cp17 s1.2] aa ww) (sh43_1 q0 q1 x3) hy1 (fun a w h => ⟨a14, 0, h.weak ⟨rfl, rfl, rfl, rfl, rfl, rfl, trivial⟩ [0, 1, 2, 3, 4] (by decide) rfl⟩) ?_
    rintro ⟨x18, x19⟩ o1 hres hox1 aa ww ⟨a20, cp21, hS⟩
    refine (?_ : JX Go.Proofs.Try.prog w [] 73 _ _ [(1, .int .i64 q1), (2, ptrAt (some ⟨g1, 0, none⟩) 0), (6, .slice a4 x3.1.length cp5), (7, .slice a10 x3.2.1.length cp11), (9, .slice a20 x19.length cp21), (10, .int .i64 x18)] [boxO 28 g1 [.int .i64 q0.W, .int .i64 q0.H, .slice a_0_2 q0.Breaks.length c_0_2], rowT 61 eHd a4 x3.1.length cp5 hs7, innO 35 eSPoint none hs7 x3.1, rowT 2 eI64 a10 x3.2.1.length cp11 x3.2.1, rowT 2 eI64 a20 x19.length cp21 x19] _) aa ww hS
    clear hS
    simp only [sh43_1] at hres
    refine JX.seq ?_
    refine JX.seq ?_
    refine JX.region ?_
    refine JL.val (yl_move rfl) rfl ?_
    refine JL.val (yl_move rfl) rfl ?_
    refine JL.val (yl_move rfl) rfl ?_
    obtain ⟨x22, hx22, hres⟩ := bind_some hres
    obtain ⟨ha23, hc24, hhx22⟩ := Inn.sub hi8 hx22
    refine JL.val (yl_idxT Go.Proofs.Try.underlying40 i61 i61s rfl rfl hhx22 (Inn.len hi8) (fun w hC => rd_row hC 1 rfl)) rfl ?_
    refine JL.val (yl_loadT0 (z := ⟨ha23, x22.length, hc24⟩) Go.Proofs.Try.underlying61 rfl rfl hhx22 (fun w hC => rd_row hC 1 rfl) rfl) rfl ?_
    refine JL.val (yl_len_slice Go.Proofs.Try.underlying61 rfl) rfl ?_
    refine JL.val (yl_lss rfl rfl) rfl ?_
    refine JL.nil ?_
    refine JE.weak (env' := [(1, .int .i64 q1), (2, ptrAt (some ⟨g1, 0, none⟩) 0), (6, .slice a4 x3.1.length cp5), (7, .slice a10 x3.2.1.length cp11), (9, .slice a20 x19.length cp21), (10, .int .i64 x18), (29, .bool (decide (x18 < (x22.length : Int))))]) (es' := [boxO 28 g1 [.int .i64 q0.W, .int .i64 q0.H, .slice a_0_2 q0.Breaks.length c_0_2], rowT 61 eHd a4 x3.1.length cp5 hs7, innO 35 eSPoint none hs7 x3.1, rowT 2 eI64 a10 x3.2.1.length cp11 x3.2.1, rowT 2 eI64 a20 x19.length cp21 x19]) [0, 1, 2, 3, 4] ?_ ⟨rfl, rfl, rfl, rfl, rfl, rfl, rfl, trivial⟩ (by decide) rfl
    refine JE.code ?_
    rcases cond_some hres with ⟨hb, hres⟩ | ⟨hb, hres⟩
    · refine JX.condT rfl hb ?_
      refine JX.skip ?_
      refine JE.code ?_
      refine JX.seq ?_
      refine JX.block ?_
      refine JX.seq ?_
      refine JX.region ?_
      refine JL.val (yl_assign rfl) rfl ?_
      refine JL.nil ?_
      refine JE.code ?_
      refine JX.block ?_
      obtain ⟨y2, hy2, hresO2⟩ := bind_some hres
      refine JX.loop (I := fun (s2 : Int × List Int) aa ww => ∃ (a26 : Option Addr) (cp27 : Nat), St w [] 73 [(1, .int .i64 q1), (2, ptrAt (some ⟨g1, 0, none⟩) 0), (6, .slice a4 x3.1.length cp5), (7, .slice a10 x3.2.1.length cp11), (9, .slice a26 s2.2.length cp27), (10, .int .i64 x18), (11, .int .i64 s2.1)] [boxO 28 g1 [.int .i64 q0.W, .int .i64 q0.H, .slice a_0_2 q0.Breaks.length c_0_2], rowT 61 eHd a4 x3.1.length cp5 hs7, innO 35 eSPoint none hs7 x3.1, rowT 2 eI64 a10 x3.2.1.length cp11 x3.2.1, rowT 2 eI64 a26 s2.2.length cp27 s2.2] aa ww) (sh43_2 q0 q1 x3 x18) hy2 (fun a w h => ⟨a20, cp21, h.weak ⟨rfl, rfl, rfl, rfl, rfl, rfl, rfl, trivial⟩ [0, 1, 2, 3, 4] (by decide) rfl⟩) ?_
      rintro ⟨x28, x29⟩ o2 hres hox2 aa ww ⟨a30, cp31, hS⟩
      refine (?_ : JX Go.Proofs.Try.prog w [] 73 _ _ [(1, .int .i64 q1), (2, ptrAt (some ⟨g1, 0, none⟩) 0), (6, .slice a4 x3.1.length cp5), (7, .slice a10 x3.2.1.length cp11), (9, .slice a30 x29.length cp31), (10, .int .i64 x18), (11, .int .i64 x28)] [boxO 28 g1 [.int .i64 q0.W, .int .i64 q0.H, .slice a_0_2 q0.Breaks.length c_0_2], rowT 61 eHd a4 x3.1.length cp5 hs7, innO 35 eSPoint none hs7 x3.1, rowT 2 eI64 a10 x3.2.1.length cp11 x3.2.1, rowT 2 eI64 a30 x29.length cp31 x29] _) aa ww hS
      clear hS
      simp only [sh43_2] at hres
      refine JX.seq ?_
      refine JX.seq ?_
      refine JX.region ?_
      refine JL.val (yl_move rfl) rfl ?_
      refine JL.val (yl_lss rfl rfl) rfl ?_
      refine JL.nil ?_
      refine JE.code ?_
      rcases cond_some hres with ⟨hb, hres⟩ | ⟨hb, hres⟩
      · refine JX.condT rfl hb ?_
        refine JX.skip ?_
        refine JE.code ?_
        refine JX.seq ?_
        refine JX.block ?_
        refine JX.seq ?_
        refine JX.drawH [(0, .pure), (1, .pure), (2, .pure), (3, .read), (4, .pure), (5, .pure), (6, .pure), (7, .read), (8, .pure), (9, .pure), (10, .pure), (11, .pure), (12, .pure), (13, .pure), (14, .pure), (15, .pure), (16, .read), (17, .pure), (18, .pure), (19, .pure), (20, .read), (21, .pure), (22, .pure), (23, .pure), (24, .pure), (25, .pure), (26, .pure), (27, .must), (28, .must)] [28] [] [0, 1, 2, 3, 4] [] [boxO 28 g1 [.int .i64 q0.W, .int .i64 q0.H, .slice a_0_2 q0.Breaks.length c_0_2], rowT 61 eHd a4 x3.1.length cp5 hs7, innO 35 eSPoint none hs7 x3.1, rowT 2 eI64 a10 x3.2.1.length cp11 x3.2.1, rowT 2 eI64 a30 x29.length cp31 x29] mixedP (by kernel_rfl) (by kernel_rfl) (by decide) rfl rfl ?_
        intro wrr32 Nr32 hFr32
        refine JH.pure rfl (yl_move rfl) rfl ?_
        refine JH.pure rfl (yl_move rfl) rfl ?_
        obtain ⟨x33, hx33, hres⟩ := bind_some hres
        obtain ⟨ha34, hc35, hhx33⟩ := Inn.sub hi8 hx33
        refine JH.pure rfl (yl_idxQ Go.Proofs.Try.underlying40 i61 i61s rfl rfl hhx33 (Inn.len hi8) (rd_row hFr32.cl 1 rfl) (Inn.len hi8)) rfl ?_
        refine JH.read rfl (yl_loadT0 (z := ⟨ha34, x33.length, hc35⟩) Go.Proofs.Try.underlying61 rfl rfl hhx33 (fun w hw => hFr32.row 1 rfl rfl hw) rfl) rfl ?_
        refine JH.pure rfl (yl_move rfl) rfl ?_
        obtain ⟨x37, hx37, hres⟩ := bind_some hres
        refine JH.pure rfl (yl_idxQ Go.Proofs.Try.underlying61 i35 i35s rfl rfl hx37 rfl (RdI.sub (rd_inn hFr32.cl 2 rfl) hx33 hhx33) rfl) rfl ?_
        refine JH.pure rfl (yl_fieldAt Go.Proofs.Try.underlying35 rfl i2 i2n rfl (RdT.someQ (RdI.sub (rd_inn hFr32.cl 2 rfl) hx33 hhx33) hx37 rfl rfl)) rfl ?_
        refine JH.read rfl (yl_loadT1 Go.Proofs.Try.underlying2 rfl rfl hx37 (fun w hw => RdI.sub (hFr32.inn 2 rfl rfl hw) hx33 hhx33) rfl) rfl ?_
        refine JH.pure rfl (yl_move rfl) rfl ?_
        refine JH.pure rfl (yl_rem rfl rfl (by decide)) rfl ?_
        refine JH.pure rfl (yl_mul rfl rfl) rfl ?_
        refine JH.pure rfl (yl_add rfl rfl) rfl ?_
        refine JH.pure rfl (yl_sub rfl rfl) rfl ?_
        refine JH.pure rfl (yl_move rfl) rfl ?_
        refine JH.pure rfl (yl_move rfl) rfl ?_
        obtain ⟨x38, hx38, hres⟩ := bind_some hres
        obtain ⟨ha39, hc40, hhx38⟩ := Inn.sub hi8 hx38
        refine JH.pure rfl (yl_idxQ Go.Proofs.Try.underlying40 i61 i61s rfl rfl hhx38 (Inn.len hi8) (rd_row hFr32.cl 1 rfl) (Inn.len hi8)) rfl ?_
        refine JH.read rfl (yl_loadT0 (z := ⟨ha39, x38.length, hc40⟩) Go.Proofs.Try.underlying61 rfl rfl hhx38 (fun w hw => hFr32.row 1 rfl rfl hw) rfl) rfl ?_
        refine JH.pure rfl (yl_move rfl) rfl ?_
        obtain ⟨x42, hx42, hres⟩ := bind_some hres
        refine JH.pure rfl (yl_idxQ Go.Proofs.Try.underlying61 i35 i35s rfl rfl hx42 rfl (RdI.sub (rd_inn hFr32.cl 2 rfl) hx38 hhx38) rfl) rfl ?_
        refine JH.pure rfl (yl_fieldAt Go.Proofs.Try.underlying35 rfl i2 i2n rfl (RdT.someQ (RdI.sub (rd_inn hFr32.cl 2 rfl) hx38 hhx38) hx42 rfl rfl)) rfl ?_
        refine JH.read rfl (yl_loadT1 Go.Proofs.Try.underlying2 rfl rfl hx42 (fun w hw => RdI.sub (hFr32.inn 2 rfl rfl hw) hx38 hhx38) rfl) rfl ?_
        refine JH.pure rfl (yl_move rfl) rfl ?_
        refine JH.pure rfl (yl_quo rfl rfl (by decide)) rfl ?_
        refine JH.pure rfl (yl_mul rfl rfl) rfl ?_
        refine JH.pure rfl (yl_add rfl rfl) rfl ?_
        refine JH.pure rfl (yl_sub rfl rfl) rfl ?_
        refine JH.pure rfl (yl_build rfl (fun w => bld35_0_1 (w64 ((w64 (x37.X + (w64 ((x28.tmod 2) * 2)))) - 1)) (w64 ((w64 (x42.Y + (w64 ((w64 (x28.tdiv 2)) * 2)))) - 1)) w)) rfl ?_
        refine JH.must rfl (ef_alloc i35 i35z rfl) rfl rfl ?_
        rintro _ _ ⟨g43, rfl, rfl⟩
        refine JH.must rfl (ef_store_box (i := 0) (v := .agg #[.int .i64 (w64 ((w64 (x37.X + (w64 ((x28.tmod 2) * 2)))) - 1)), .int .i64 (w64 ((w64 (x42.Y + (w64 ((w64 (x28.tdiv 2)) * 2)))) - 1))]) i35 rfl rfl rfl (i35s).symm (Nat.le_of_ble_eq_true rfl) (by simp [Value.cells, Value.oneCell'])) rfl rfl ?_
        rintro _ _ rfl
        refine JH.nil ?_
        refine JE.weak (env' := [(1, .int .i64 q1), (2, ptrAt (some ⟨g1, 0, none⟩) 0), (6, .slice a4 x3.1.length cp5), (7, .slice a10 x3.2.1.length cp11), (9, .slice a30 x29.length cp31), (10, .int .i64 x18), (11, .int .i64 x28), (12, ptrAt (some ⟨g43, 0, none⟩) 0)]) (es' := [boxO 28 g1 [.int .i64 q0.W, .int .i64 q0.H, .slice a_0_2 q0.Breaks.length c_0_2], rowT 61 eHd a4 x3.1.length cp5 hs7, innO 35 eSPoint none hs7 x3.1, rowT 2 eI64 a10 x3.2.1.length cp11 x3.2.1, rowT 2 eI64 a30 x29.length cp31 x29, boxO 35 g43 [.int .i64 (w64 ((w64 (x37.X + (w64 ((x28.tmod 2) * 2)))) - 1)), .int .i64 (w64 ((w64 (x42.Y + (w64 ((w64 (x28.tdiv 2)) * 2)))) - 1))]]) [0, 1, 2, 3, 4, 5] ?_ ⟨rfl, rfl, rfl, rfl, rfl, rfl, rfl, rfl, trivial⟩ (by decide) rfl
        refine JE.code ?_
        refine JX.seq ?_
        refine JX.region ?_
        refine JL.val (yl_loadn Go.Proofs.Try.underlying35 rfl i35 rfl (fun w hC => rd_box hC 5 rfl) rfl (i35s).symm i35p) rfl ?_
        obtain ⟨x45, hx45, hres⟩ := bind_some hres
        refine JL.eff (ef_call (vs := [ptrAt (some ⟨g1, 0, none⟩) 0, .agg #[.int .i64 (w64 ((w64 (x37.X + (w64 ((x28.tmod 2) * 2)))) - 1)), .int .i64 (w64 ((w64 (x42.Y + (w64 ((w64 (x28.tdiv 2)) * 2)))) - 1))]]) (T := T84 x45) Go.Proofs.Try.func84 rfl (by kernel_rfl) rfl (fun w hC => c84 (q1 := SPoint.mk (w64 ((w64 (x37.X + (w64 ((x28.tmod 2) * 2)))) - 1)) (w64 ((w64 (x42.Y + (w64 ((w64 (x28.tdiv 2)) * 2)))) - 1))) (RdAt.of0 (rd_box hC 0 rfl)) (rd_arg g_0_2 hC) rfl k_0_2 hx45)) rfl ?_
        rintro _ _ ⟨_, ⟨rfl, rfl⟩, rfl⟩
        refine JL.nil ?_
        refine JE.code ?_
        obtain ⟨j46, hj46, hresj46⟩ := bind_some hres
        refine JX.cut (K := fun J => ∀ (a47 : Option Addr) (cp48 : Nat), J [(1, .int .i64 q1), (2, ptrAt (some ⟨g1, 0, none⟩) 0), (6, .slice a4 x3.1.length cp5), (7, .slice a10 x3.2.1.length cp11), (9, .slice a47 j46.length cp48), (10, .int .i64 x18), (11, .int .i64 x28)] [boxO 28 g1 [.int .i64 q0.W, .int .i64 q0.H, .slice a_0_2 q0.Breaks.length c_0_2], rowT 61 eHd a4 x3.1.length cp5 hs7, innO 35 eSPoint none hs7 x3.1, rowT 2 eI64 a10 x3.2.1.length cp11 x3.2.1, rowT 2 eI64 a47 j46.length cp48 j46]) ?_ ?_
        · intro a47 cp48
          have hres := hresj46
          refine JE.code ?_
          refine JX.region ?_
          refine JL.val (yl_move rfl) rfl ?_
          refine JL.val (yl_add rfl rfl) rfl ?_
          refine JL.val (yl_assign rfl) rfl ?_
          refine JL.nil ?_
          refine JE.cont hres ?_
          exact fun a w h => ⟨a47, cp48, h.weak ⟨rfl, rfl, rfl, rfl, rfl, rfl, rfl, trivial⟩ [0, 1, 2, 3, 4] (by decide) rfl⟩
        · intro K
          rcases cond_some hj46 with ⟨hb, hres⟩ | ⟨hb, hres⟩
          · refine JX.condT rfl hb ?_
            refine JX.region ?_
            refine JL.val (yl_move rfl) rfl ?_
            refine JL.val (yl_move rfl) rfl ?_
            refine JL.val (yl_loadn Go.Proofs.Try.underlying35 rfl i35 rfl (fun w hC => rd_box hC 5 rfl) rfl (i35s).symm i35p) rfl ?_
            obtain ⟨x49, hx49, hres⟩ := bind_some hres
            refine JL.eff (ef_call (vs := [ptrAt (some ⟨g1, 0, none⟩) 0, .agg #[.int .i64 (w64 ((w64 (x37.X + (w64 ((x28.tmod 2) * 2)))) - 1)), .int .i64 (w64 ((w64 (x42.Y + (w64 ((w64 (x28.tdiv 2)) * 2)))) - 1))]]) (T := T85 x49) Go.Proofs.Try.func85 rfl (by kernel_rfl) rfl (fun w hC => c85 (q1 := SPoint.mk (w64 ((w64 (x37.X + (w64 ((x28.tmod 2) * 2)))) - 1)) (w64 ((w64 (x42.Y + (w64 ((w64 (x28.tdiv 2)) * 2)))) - 1))) (RdAt.of0 (rd_box hC 0 rfl)) (rd_arg g_0_2 hC) rfl k_0_2 hx49)) rfl ?_
            rintro _ _ ⟨_, ⟨rfl, rfl⟩, rfl⟩
            obtain ⟨x50, hx50, hres⟩ := bind_some hres
            refine JL.val (yl_idxT Go.Proofs.Try.underlying22 i2 i2s rfl rfl hx50 rfl (fun w hC => rd_row hC 3 rfl)) rfl ?_
            refine JL.val (yl_loadT0 Go.Proofs.Try.underlying2 rfl rfl hx50 (fun w hC => rd_row hC 3 rfl) rfl) rfl ?_
            obtain ⟨x51, hx51, hres⟩ := bind_some hres
            refine JL.eff (ef_call (T := T105 x51) Go.Proofs.Try.func105 rfl (by kernel_rfl) rfl (fun w hC => c105 (rd_row hC 4 rfl) rfl (ln_row hC 4 rfl) hx51)) rfl ?_
            rintro _ _ ⟨_, ⟨a52, _, cp53, rfl, rfl, rfl⟩, rfl⟩
            refine JL.val (yl_assign rfl) rfl ?_
            refine JL.nil ?_
            refine JE.weak (env' := [(1, .int .i64 q1), (2, ptrAt (some ⟨g1, 0, none⟩) 0), (6, .slice a4 x3.1.length cp5), (7, .slice a10 x3.2.1.length cp11), (9, .slice a52 x51.length cp53), (10, .int .i64 x18), (11, .int .i64 x28)]) (es' := [boxO 28 g1 [.int .i64 q0.W, .int .i64 q0.H, .slice a_0_2 q0.Breaks.length c_0_2], rowT 61 eHd a4 x3.1.length cp5 hs7, innO 35 eSPoint none hs7 x3.1, rowT 2 eI64 a10 x3.2.1.length cp11 x3.2.1, rowT 2 eI64 a52 x51.length cp53 x51]) [0, 1, 2, 3, 6] ?_ ⟨rfl, rfl, rfl, rfl, rfl, rfl, rfl, trivial⟩ (by decide) rfl
            have hj := Option.some.inj hres
            exact JE.weak [0, 1, 2, 3, 4] (K a52 cp53) ⟨(by subst hj; rfl), (by subst hj; rfl), (by subst hj; rfl), (by subst hj; rfl), (by subst hj; rfl), (by subst hj; rfl), (by subst hj; rfl), trivial⟩ (by decide) (by subst hj; rfl)
          · refine JX.condF rfl hb ?_
            refine JX.skip ?_
            have hj := Option.some.inj hres
            exact JE.weak [0, 1, 2, 3, 4] (K a30 cp31) ⟨(by subst hj; rfl), (by subst hj; rfl), (by subst hj; rfl), (by subst hj; rfl), (by subst hj; rfl), (by subst hj; rfl), (by subst hj; rfl), trivial⟩ (by decide) (by subst hj; rfl)
      · refine JX.condF rfl hb ?_
        refine JX.exit ?_
        refine JE.qb rfl ?_
        obtain ⟨b2, hb2⟩ : ∃ b : List Int, b = x29 := ⟨_, rfl⟩
        have hy2 : b2 = y2 := by rw [hb2]; exact hox2 _ (Option.some.inj hres).symm
        have hres := hresO2
        rw [← hy2] at hres
        refine JE.weak (env' := [(1, .int .i64 q1), (2, ptrAt (some ⟨g1, 0, none⟩) 0), (6, .slice a4 x3.1.length cp5), (7, .slice a10 x3.2.1.length cp11), (9, .slice a30 b2.length cp31), (10, .int .i64 x18)]) (es' := [boxO 28 g1 [.int .i64 q0.W, .int .i64 q0.H, .slice a_0_2 q0.Breaks.length c_0_2], rowT 61 eHd a4 x3.1.length cp5 hs7, innO 35 eSPoint none hs7 x3.1, rowT 2 eI64 a10 x3.2.1.length cp11 x3.2.1, rowT 2 eI64 a30 b2.length cp31 b2]) [0, 1, 2, 3, 4] ?_ ⟨(by subst hb2; rfl), (by subst hb2; rfl), (by subst hb2; rfl), (by subst hb2; rfl), (by subst hb2; rfl), (by subst hb2; rfl), trivial⟩ (by decide) (by subst hb2; rfl)
        refine JE.code ?_
        refine JX.region ?_
        refine JL.val (yl_move rfl) rfl ?_
        refine JL.val (yl_add rfl rfl) rfl ?_
        refine JL.val (yl_assign rfl) rfl ?_
        refine JL.nil ?_
        refine JE.cont hres ?_
        exact fun a w h => ⟨a30, cp31, h.weak ⟨rfl, rfl, rfl, rfl, rfl, rfl, trivial⟩ [0, 1, 2, 3, 4] (by decide) rfl⟩
    · refine JX.condF rfl hb ?_
      refine JX.exit ?_
      refine JE.qb rfl ?_
      obtain ⟨b1, hb1⟩ : ∃ b : List Int, b = x19 := ⟨_, rfl⟩
      have hy1 : b1 = y1 := by rw [hb1]; exact hox1 _ (Option.some.inj hres).symm
      have hres := hresO1
      rw [← hy1] at hres
      refine JE.weak (env' := [(9, .slice a20 b1.length cp21)]) (es' := [rowT 2 eI64 a20 b1.length cp21 b1]) [4] ?_ ⟨(by subst hb1; rfl), trivial⟩ (by decide) (by subst hb1; rfl)
      refine JE.code ?_
      refine JX.seq ?_
      refine JX.region ?_
      refine JL.val (yl_move rfl) rfl ?_
      refine JL.val (yl_assign rfl) rfl ?_
      refine JL.val (yl_assign rfl) rfl ?_
      refine JL.nil ?_
      refine JE.code ?_
      refine JX.ret ?_
      obtain rfl := Option.some.inj hres
      refine JE.ret (rs := [.tmp 4, .tmp 5]) (vs := [.slice a20 b1.length cp21, .int .i64 0]) rfl ⟨rfl, rfl, trivial⟩ ?_
      exact fun w' hb hs => ⟨_, _, ⟨a20, b1.length, cp21, rfl, rfl, rfl⟩, rfl, hb, hs.sel [0] _ (by decide) rfl⟩

/- impl.RegionNeighbours -/
def sh44_2 (x3 : List SPoint × (List (SPoint × Int)) × Int) (x18 : SPoint) : (Int × List Int) → Option ((Int × List Int) ⊕ (List Int))
  | (x23, x24) => bif decide (x23 < 4) then (Option.bind (getI ([A112.mk (-1) (-1), A112.mk (-1) 1, A112.mk 1 (-1), A112.mk 1 1] : List A112) x23) fun x27 => Option.bind (getI [x27.a0, x27.a1] (0 : Int)) fun x30 => Option.bind (getI [x27.a0, x27.a1] (1 : Int)) fun x31 => Option.bind (bif (mfind x3.2.1 (SPoint.mk (w64 (x18.X + x30)) (w64 (x18.Y + x31)))).isSome then (Option.bind (appL x24 [(mfind x3.2.1 (SPoint.mk (w64 (x18.X + x30)) (w64 (x18.Y + x31)))).getD 0]) fun x37 => some x37) else (some x24)) fun j32 => (some (.inl (w64 (x23 + 1), j32)))) else (some (.inr x24))
def sh44_1 (x3 : List SPoint × (List (SPoint × Int)) × Int) : (Int × List Int) → Option ((Int × List Int) ⊕ (List Int))
  | (x14, x15) => bif decide (x14 < (x3.1.length : Int)) then (Option.bind (getI x3.1 x14) fun x18 => Option.bind (iter (sh44_2 x3 x18) (0, x15)) fun b2 => (some (.inl (w64 (x14 + 1), b2)))) else (some (.inr x15))
def sh44 (q0 : SPanel) (q1 : Int) : Option (List Int × Int) := Option.bind (sh90 q0 q1) fun x3 => bif x3.2.2 != 0 then (some (([] : List Int), x3.2.2)) else (Option.bind (iter (sh44_1 x3) (0, ([] : List Int))) fun b1 => (Option.bind (sortR b1) fun x44 => Option.bind (compR x44) fun x45 => some (x45, 0)))
def T44 (r : List Int × Int) (v : Value) (rs : List Own) : Prop := ∃ (a0 : Option Addr) (n0 c0 : Nat), r.1.length = n0 ∧ v = rets [.slice a0 n0 c0, .int .i64 r.2] ∧ rs = [rowT 2 eI64 a0 n0 c0 r.1]
set_option maxRecDepth 100000 in
theorem c44 {w : World} {q0 : SPanel} {a_0_2 : Option Addr} {n_0_2 c_0_2 : Nat} (g_0_2 : Rd w a_0_2 (eI64.fl q0.Breaks)) (l_0_2 : q0.Breaks.length = n_0_2) (k_0_2 : n_0_2 ≤ c_0_2) {q1 : Int} {r : List Int × Int} (hres : sh44 q0 q1 = some r) : Calls Go.Proofs.Try.prog 44 [.agg #[.int .i64 q0.W, .int .i64 q0.H, .slice a_0_2 n_0_2 c_0_2], .int .i64 q1].toArray w (Ret w (T44 r)) := by
  subst l_0_2
  unfold sh44 at hres
  refine calls_of (n := 68) (M := []) (es := []) Go.Proofs.Try.func44 rfl rfl rfl (Sep.nil _ _ _) ?_
  refine JX.seq ?_
  refine JX.region ?_
  refine JL.eff (ef_box rfl rfl) rfl ?_
  rintro _ _ ⟨g1, rfl, rfl⟩
  refine JL.val (yl_assign rfl) rfl ?_
  refine JL.val (yl_assign rfl) rfl ?_
  refine JL.nil ?_
  refine JE.code ?_
  refine JX.seq ?_
  refine JX.region ?_
  refine JL.val (yl_loadn Go.Proofs.Try.underlying28 rfl i28 rfl (fun w hC => rd_box hC 0 rfl) rfl (i28s).symm i28p) rfl ?_
  refine JL.val (yl_move rfl) rfl ?_
  obtain ⟨x3, hx3, hres⟩ := bind_some hres
  refine JL.eff (ef_call (vs := [.agg #[.int .i64 q0.W, .int .i64 q0.H, .slice a_0_2 q0.Breaks.length c_0_2], .int .i64 q1]) (T := T90 x3) Go.Proofs.Try.func90 rfl (by kernel_rfl) rfl (fun w hC => c90 (q0 := q0) (rd_arg g_0_2 hC) rfl k_0_2 hx3)) rfl ?_
  rintro _ _ ⟨_, ⟨a4, _, cp5, rfl, o7, rfl, rfl⟩, rfl⟩
  refine JL.val (yl_move rfl) rfl ?_
  refine JL.val (yl_extract rfl rfl) rfl ?_
  refine JL.val (yl_extract rfl rfl) rfl ?_
  refine JL.val (yl_extract rfl rfl) rfl ?_
  refine JL.val (yl_assign rfl) rfl ?_
  refine JL.val (yl_assign rfl) rfl ?_
  refine JL.val (yl_assign rfl) rfl ?_
  refine JL.nil ?_
  refine JE.weak (env' := [(6, .slice a4 x3.1.length cp5), (7, .map o7), (8, .int .i64 x3.2.2)]) (es' := [rowT 35 eSPoint a4 x3.1.length cp5 x3.1, mapI eSPoint o7 x3.2.1]) [1, 2] ?_ ⟨rfl, rfl, rfl, trivial⟩ (by decide) rfl
  refine JE.code ?_
  refine JX.seq ?_
  refine JX.seq ?_
  refine JX.region ?_
  refine JL.val (yl_move rfl) rfl ?_
  refine JL.val (yl_neq rfl rfl) rfl ?_
  refine JL.nil ?_
  refine JE.code ?_
  rcases cond_some hres with ⟨hb, hres⟩ | ⟨hb, hres⟩
  · refine JX.condT rfl hb ?_
    refine JX.seq ?_
    refine JX.region ?_
    refine JL.val (yl_move rfl) rfl ?_
    refine JL.val (yl_assign rfl) rfl ?_
    refine JL.val (yl_assign rfl) rfl ?_
    refine JL.nil ?_
    refine JE.weak (env' := [(4, .slice none 0 0), (5, .int .i64 x3.2.2)]) (es' := []) [] ?_ ⟨rfl, rfl, trivial⟩ (by decide) rfl
    refine JE.code ?_
    refine JX.ret ?_
    refine JE.nilrow 2 eI64 ?_
    obtain rfl := Option.some.inj hres
    refine JE.ret (rs := [.tmp 4, .tmp 5]) (vs := [.slice none 0 0, .int .i64 x3.2.2]) rfl ⟨rfl, rfl, trivial⟩ ?_
    exact fun w' hb hs => ⟨_, _, ⟨none, 0, 0, rfl, rfl, rfl⟩, rfl, hb, hs.sel [0] _ (by decide) rfl⟩
  · refine JX.condF rfl hb ?_
    refine JX.skip ?_
    refine JE.code ?_
    refine JX.seq ?_
    refine JX.region ?_
    refine JL.eff (ef_buildSlice (E := 2) (k := eI64.k) (us := eI64.fl ([] : List Int)) rfl (fun w => bsl22_0  w) rfl (by decide)) rfl ?_
    rintro _ _ ⟨a10, rfl, rfl⟩
    refine JL.val (yl_assign rfl) rfl ?_
    refine JL.nil ?_
    refine JE.code ?_
    refine JX.seq ?_
    refine JX.seq ?_
    refine JX.region ?_
    refine JL.val (yl_move rfl) rfl ?_
    refine JL.val (yl_len_slice Go.Proofs.Try.underlying61 rfl) rfl ?_
    refine JL.val (yl_move rfl) rfl ?_
    refine JL.nil ?_
    refine JE.code ?_
    refine JX.block ?_
    obtain ⟨y1, hy1, hresO1⟩ := bind_some hres
    refine JX.loop (I := fun (s1 : Int × List Int) aa ww => ∃ (a12 : Option Addr) (cp13 : Nat), St w [] 68 [(7, .map o7), (9, .slice a12 s1.2.length cp13), (27, .slice a4 x3.1.length cp5), (28, .int .i64 (x3.1.length : Int)), (29, .int .i64 s1.1)] [mapI eSPoint o7 x3.2.1, rowT 2 eI64 a12 s1.2.length cp13 s1.2, rowT 35 eSPoint a4 x3.1.length cp5 x3.1] aa ww) (sh44_1 x3) hy1 (fun a w h => ⟨a10, 0, h.weak ⟨rfl, rfl, rfl, rfl, rfl, trivial⟩ [1, 2, 0] (by decide) rfl⟩) ?_
    rintro ⟨x14, x15⟩ o1 hres hox1 aa ww ⟨a16, cp17, hS⟩
    refine (?_ : JX Go.Proofs.Try.prog w [] 68 _ _ [(7, .map o7), (9, .slice a16 x15.length cp17), (27, .slice a4 x3.1.length cp5), (28, .int .i64 (x3.1.length : Int)), (29, .int .i64 x14)] [mapI eSPoint o7 x3.2.1, rowT 2 eI64 a16 x15.length cp17 x15, rowT 35 eSPoint a4 x3.1.length cp5 x3.1] _) aa ww hS
    clear hS
    simp only [sh44_1] at hres
    refine JX.seq ?_
    refine JX.region ?_
    refine JL.val (yl_lss rfl rfl) rfl ?_
    refine JL.nil ?_
    refine JE.code ?_
    refine JX.seq ?_
    rcases cond_some hres with ⟨hb, hres⟩ | ⟨hb, hres⟩
    · refine JX.condT rfl hb ?_
      refine JX.skip ?_
      refine JE.code ?_
      refine JX.seq ?_
      refine JX.block ?_
      refine JX.seq ?_
      refine JX.region ?_
      obtain ⟨x18, hx18, hres⟩ := bind_some hres
      refine JL.val (yl_idxT Go.Proofs.Try.underlying61 i35 i35s rfl rfl hx18 rfl (fun w hC => rd_row hC 2 rfl)) rfl ?_
      refine JL.val (yl_loadTn Go.Proofs.Try.underlying35 rfl i35 i35s rfl hx18 (fun w hC => rd_row hC 2 rfl)) rfl ?_
      refine JL.eff (ef_alloc i35 i35z rfl) rfl ?_
      rintro _ _ ⟨g19, rfl, rfl⟩
      refine JL.eff (ef_store_box (i := 3) (v := .agg #[.int .i64 x18.X, .int .i64 x18.Y]) i35 rfl rfl rfl (i35s).symm (Nat.le_of_ble_eq_true rfl) (by simp [Value.cells, Value.oneCell'])) rfl ?_
      rintro _ _ rfl
      refine JL.nil ?_
      refine JE.weak (env' := [(7, .map o7), (9, .slice a16 x15.length cp17), (11, ptrAt (some ⟨g19, 0, none⟩) 0), (27, .slice a4 x3.1.length cp5), (28, .int .i64 (x3.1.length : Int)), (29, .int .i64 x14)]) (es' := [mapI eSPoint o7 x3.2.1, rowT 2 eI64 a16 x15.length cp17 x15, boxO 35 g19 [.int .i64 x18.X, .int .i64 x18.Y], rowT 35 eSPoint a4 x3.1.length cp5 x3.1]) [0, 1, 3, 2] ?_ ⟨rfl, rfl, rfl, rfl, rfl, rfl, trivial⟩ (by decide) rfl
      refine JE.code ?_
      refine JX.seq ?_
      refine JX.region ?_
      refine JL.val (yl_build rfl (fun w => bld112_0_1 (-1) (-1) w)) rfl ?_
      refine JL.val (yl_build rfl (fun w => bld112_0_1 (-1) 1 w)) rfl ?_
      refine JL.val (yl_build rfl (fun w => bld112_0_1 1 (-1) w)) rfl ?_
      refine JL.val (yl_build rfl (fun w => bld112_0_1 1 1 w)) rfl ?_
      refine JL.val (yl_build rfl (fun w => bld113_0_1_2_3 (-1) (-1) (-1) 1 1 (-1) 1 1 w)) rfl ?_
      refine JL.val (yl_move rfl) rfl ?_
      refine JL.nil ?_
      refine JE.weak (env' := [(7, .map o7), (9, .slice a16 x15.length cp17), (11, ptrAt (some ⟨g19, 0, none⟩) 0), (27, .slice a4 x3.1.length cp5), (28, .int .i64 (x3.1.length : Int)), (29, .int .i64 x14), (37, .agg #[.int .i64 (-1), .int .i64 (-1), .int .i64 (-1), .int .i64 1, .int .i64 1, .int .i64 (-1), .int .i64 1, .int .i64 1]), (38, .int .i64 0)]) (es' := [mapI eSPoint o7 x3.2.1, rowT 2 eI64 a16 x15.length cp17 x15, boxO 35 g19 [.int .i64 x18.X, .int .i64 x18.Y], rowT 35 eSPoint a4 x3.1.length cp5 x3.1]) [0, 1, 2, 3] ?_ ⟨rfl, rfl, rfl, rfl, rfl, rfl, rfl, rfl, trivial⟩ (by decide) rfl
      refine JE.code ?_
      refine JX.block ?_
      obtain ⟨y2, hy2, hresO2⟩ := bind_some hres
      refine JX.loop (I := fun (s2 : Int × List Int) aa ww => ∃ (a21 : Option Addr) (cp22 : Nat), St w [] 68 [(7, .map o7), (9, .slice a21 s2.2.length cp22), (11, ptrAt (some ⟨g19, 0, none⟩) 0), (27, .slice a4 x3.1.length cp5), (28, .int .i64 (x3.1.length : Int)), (29, .int .i64 x14), (37, .agg #[.int .i64 (-1), .int .i64 (-1), .int .i64 (-1), .int .i64 1, .int .i64 1, .int .i64 (-1), .int .i64 1, .int .i64 1]), (38, .int .i64 s2.1)] [mapI eSPoint o7 x3.2.1, rowT 2 eI64 a21 s2.2.length cp22 s2.2, boxO 35 g19 [.int .i64 x18.X, .int .i64 x18.Y], rowT 35 eSPoint a4 x3.1.length cp5 x3.1] aa ww) (sh44_2 x3 x18) hy2 (fun a w h => ⟨a16, cp17, h.weak ⟨rfl, rfl, rfl, rfl, rfl, rfl, rfl, rfl, trivial⟩ [0, 1, 2, 3] (by decide) rfl⟩) ?_
      rintro ⟨x23, x24⟩ o2 hres hox2 aa ww ⟨a25, cp26, hS⟩
      refine (?_ : JX Go.Proofs.Try.prog w [] 68 _ _ [(7, .map o7), (9, .slice a25 x24.length cp26), (11, ptrAt (some ⟨g19, 0, none⟩) 0), (27, .slice a4 x3.1.length cp5), (28, .int .i64 (x3.1.length : Int)), (29, .int .i64 x14), (37, .agg #[.int .i64 (-1), .int .i64 (-1), .int .i64 (-1), .int .i64 1, .int .i64 1, .int .i64 (-1), .int .i64 1, .int .i64 1]), (38, .int .i64 x23)] [mapI eSPoint o7 x3.2.1, rowT 2 eI64 a25 x24.length cp26 x24, boxO 35 g19 [.int .i64 x18.X, .int .i64 x18.Y], rowT 35 eSPoint a4 x3.1.length cp5 x3.1] _) aa ww hS
      clear hS
      simp only [sh44_2] at hres
      refine JX.seq ?_
      refine JX.region ?_
      refine JL.val (yl_lss rfl rfl) rfl ?_
      refine JL.nil ?_
      refine JE.code ?_
      refine JX.seq ?_
      rcases cond_some hres with ⟨hb, hres⟩ | ⟨hb, hres⟩
      · refine JX.condT rfl hb ?_
        refine JX.skip ?_
        refine JE.code ?_
        refine JX.seq ?_
        refine JX.block ?_
        refine JX.seq ?_
        refine JX.region ?_
        obtain ⟨x27, hx27, hres⟩ := bind_some hres
        refine JL.val (yl_idxVT (e := eA112) (xs := [A112.mk (-1) (-1), A112.mk (-1) 1, A112.mk 1 (-1), A112.mk 1 1]) Go.Proofs.Try.underlying113 Go.Proofs.Try.underlying112 rfl i112 i112s rfl rfl rfl hx27) rfl ?_
        refine JL.eff (ef_alloc i112 i112z rfl) rfl ?_
        rintro _ _ ⟨g28, rfl, rfl⟩
        refine JL.boxrow eI64 4 (m := 2) (List.replicate 2 (0 : Int)) rfl rfl (Nat.le_of_ble_eq_true rfl) rfl ?_
        refine JL.eff (ef_storeArr (ix := 4) (ys := [x27.a0, x27.a1]) i112 rfl rfl rfl rfl (i112s.trans rfl) i112p rfl) rfl ?_
        rintro _ _ rfl
        refine JL.nil ?_
        refine JE.code ?_
        refine JX.seq ?_
        refine JX.region ?_
        refine JL.val (yl_move rfl) rfl ?_
        refine JL.val (yl_fieldAt (a := some _) Go.Proofs.Try.underlying35 rfl i2 i2n rfl rfl) rfl ?_
        refine JL.val (yl_load1 Go.Proofs.Try.underlying2 rfl rfl (fun w hC => rd_box hC 2 rfl) rfl) rfl ?_
        obtain ⟨x30, hx30, hres⟩ := bind_some hres
        refine JL.val (yl_idxArr (e := eI64) Go.Proofs.Try.underlying112 i2 i2s rfl rfl hx30 (rfl : [x27.a0, x27.a1].length = 2)) rfl ?_
        refine JL.val (yl_loadT0 Go.Proofs.Try.underlying2 rfl rfl hx30 (fun w hC => rd_row hC 4 rfl) rfl) rfl ?_
        refine JL.val (yl_add rfl rfl) rfl ?_
        refine JL.val (yl_fieldAt (a := some _) Go.Proofs.Try.underlying35 rfl i2 i2n rfl rfl) rfl ?_
        refine JL.val (yl_load1 Go.Proofs.Try.underlying2 rfl rfl (fun w hC => rd_box hC 2 rfl) rfl) rfl ?_
        obtain ⟨x31, hx31, hres⟩ := bind_some hres
        refine JL.val (yl_idxArr (e := eI64) Go.Proofs.Try.underlying112 i2 i2s rfl rfl hx31 (rfl : [x27.a0, x27.a1].length = 2)) rfl ?_
        refine JL.val (yl_loadT0 Go.Proofs.Try.underlying2 rfl rfl hx31 (fun w hC => rd_row hC 4 rfl) rfl) rfl ?_
        refine JL.val (yl_add rfl rfl) rfl ?_
        refine JL.val (yl_build rfl (fun w => bld35_0_1 (w64 (x18.X + x30)) (w64 (x18.Y + x31)) w)) rfl ?_
        refine JL.val (yl_lookIok (e := eSPoint) (mi := x3.2.1) (k := SPoint.mk (w64 (x18.X + x30)) (w64 (x18.Y + x31))) Go.Proofs.Try.underlying91 zv2 keyOk35 rfl rfl (fun w hC => rd_mapI hC 0 rfl)) rfl ?_
        refine JL.val (yl_move rfl) rfl ?_
        refine JL.val (yl_extract rfl rfl) rfl ?_
        refine JL.val (yl_extract rfl rfl) rfl ?_
        refine JL.val (yl_assign rfl) rfl ?_
        refine JL.val (yl_assign rfl) rfl ?_
        refine JL.nil ?_
        refine JE.weak (env' := [(7, .map o7), (9, .slice a25 x24.length cp26), (11, ptrAt (some ⟨g19, 0, none⟩) 0), (14, .int .i64 ((mfind x3.2.1 (SPoint.mk (w64 (x18.X + x30)) (w64 (x18.Y + x31)))).getD 0)), (15, .bool ((mfind x3.2.1 (SPoint.mk (w64 (x18.X + x30)) (w64 (x18.Y + x31)))).isSome)), (27, .slice a4 x3.1.length cp5), (28, .int .i64 (x3.1.length : Int)), (29, .int .i64 x14), (37, .agg #[.int .i64 (-1), .int .i64 (-1), .int .i64 (-1), .int .i64 1, .int .i64 1, .int .i64 (-1), .int .i64 1, .int .i64 1]), (38, .int .i64 x23)]) (es' := [mapI eSPoint o7 x3.2.1, rowT 2 eI64 a25 x24.length cp26 x24, boxO 35 g19 [.int .i64 x18.X, .int .i64 x18.Y], rowT 35 eSPoint a4 x3.1.length cp5 x3.1]) [0, 1, 2, 3] ?_ ⟨rfl, rfl, rfl, rfl, rfl, rfl, rfl, rfl, rfl, rfl, trivial⟩ (by decide) rfl
        refine JE.code ?_
        refine JX.seq ?_
        refine JX.region ?_
        refine JL.val (yl_move rfl) rfl ?_
        refine JL.nil ?_
        refine JE.code ?_
        obtain ⟨j32, hj32, hresj32⟩ := bind_some hres
        refine JX.cut (K := fun J => ∀ (a33 : Option Addr) (cp34 : Nat), J [(7, .map o7), (9, .slice a33 j32.length cp34), (11, ptrAt (some ⟨g19, 0, none⟩) 0), (27, .slice a4 x3.1.length cp5), (28, .int .i64 (x3.1.length : Int)), (29, .int .i64 x14), (37, .agg #[.int .i64 (-1), .int .i64 (-1), .int .i64 (-1), .int .i64 1, .int .i64 1, .int .i64 (-1), .int .i64 1, .int .i64 1]), (38, .int .i64 x23)] [mapI eSPoint o7 x3.2.1, rowT 2 eI64 a33 j32.length cp34 j32, boxO 35 g19 [.int .i64 x18.X, .int .i64 x18.Y], rowT 35 eSPoint a4 x3.1.length cp5 x3.1]) ?_ ?_
        · intro a33 cp34
          have hres := hresj32
          refine JE.code ?_
          refine JX.region ?_
          refine JL.val (yl_add rfl rfl) rfl ?_
          refine JL.val (yl_move rfl) rfl ?_
          refine JL.nil ?_
          refine JE.cont hres ?_
          exact fun a w h => ⟨a33, cp34, h.weak ⟨rfl, rfl, rfl, rfl, rfl, rfl, rfl, rfl, trivial⟩ [0, 1, 2, 3] (by decide) rfl⟩
        · intro K
          rcases cond_some hj32 with ⟨hb, hres⟩ | ⟨hb, hres⟩
          · refine JX.condT rfl hb ?_
            refine JX.region ?_
            refine JL.val (yl_move rfl) rfl ?_
            refine JL.val (yl_move rfl) rfl ?_
            refine JL.eff (ef_buildSlice (E := 2) (k := eI64.k) (us := eI64.fl [(mfind x3.2.1 (SPoint.mk (w64 (x18.X + x30)) (w64 (x18.Y + x31)))).getD 0]) rfl (fun w => bsl22_1 ((mfind x3.2.1 (SPoint.mk (w64 (x18.X + x30)) (w64 (x18.Y + x31)))).getD 0) w) rfl (by decide)) rfl ?_
            rintro _ _ ⟨a35, rfl, rfl⟩
            obtain ⟨x37, hx37, hres⟩ := bind_some hres
            refine JL.eff (ef_appendT (ix := 1) Go.Proofs.Try.underlying22 i2 i2z i2s rfl i2b0 i2b1 rfl rfl rfl rfl rfl (fun w hC => rd_row hC 4 rfl) hx37) rfl ?_
            rintro _ _ ⟨a38, cp39, rfl, rfl⟩
            refine JL.val (yl_assign rfl) rfl ?_
            refine JL.nil ?_
            refine JE.weak (env' := [(7, .map o7), (9, .slice a38 x37.length cp39), (11, ptrAt (some ⟨g19, 0, none⟩) 0), (27, .slice a4 x3.1.length cp5), (28, .int .i64 (x3.1.length : Int)), (29, .int .i64 x14), (37, .agg #[.int .i64 (-1), .int .i64 (-1), .int .i64 (-1), .int .i64 1, .int .i64 1, .int .i64 (-1), .int .i64 1, .int .i64 1]), (38, .int .i64 x23)]) (es' := [mapI eSPoint o7 x3.2.1, rowT 2 eI64 a38 x37.length cp39 x37, boxO 35 g19 [.int .i64 x18.X, .int .i64 x18.Y], rowT 35 eSPoint a4 x3.1.length cp5 x3.1]) [0, 1, 2, 3] ?_ ⟨rfl, rfl, rfl, rfl, rfl, rfl, rfl, rfl, trivial⟩ (by decide) rfl
            have hj := Option.some.inj hres
            exact JE.weak [0, 1, 2, 3] (K a38 cp39) ⟨(by subst hj; rfl), (by subst hj; rfl), (by subst hj; rfl), (by subst hj; rfl), (by subst hj; rfl), (by subst hj; rfl), (by subst hj; rfl), (by subst hj; rfl), trivial⟩ (by decide) (by subst hj; rfl)
          · refine JX.condF rfl hb ?_
            refine JX.skip ?_
            have hj := Option.some.inj hres
            exact JE.weak [0, 1, 2, 3] (K a25 cp26) ⟨(by subst hj; rfl), (by subst hj; rfl), (by subst hj; rfl), (by subst hj; rfl), (by subst hj; rfl), (by subst hj; rfl), (by subst hj; rfl), (by subst hj; rfl), trivial⟩ (by decide) (by subst hj; rfl)
      · refine JX.condF rfl hb ?_
        refine JX.exit ?_
        refine JE.qb rfl ?_
        obtain ⟨b2, hb2⟩ : ∃ b : List Int, b = x24 := ⟨_, rfl⟩
        have hy2 : b2 = y2 := by rw [hb2]; exact hox2 _ (Option.some.inj hres).symm
        have hres := hresO2
        rw [← hy2] at hres
        refine JE.weak (env' := [(7, .map o7), (9, .slice a25 b2.length cp26), (27, .slice a4 x3.1.length cp5), (28, .int .i64 (x3.1.length : Int)), (29, .int .i64 x14)]) (es' := [mapI eSPoint o7 x3.2.1, rowT 2 eI64 a25 b2.length cp26 b2, rowT 35 eSPoint a4 x3.1.length cp5 x3.1]) [0, 1, 3] ?_ ⟨(by subst hb2; rfl), (by subst hb2; rfl), (by subst hb2; rfl), (by subst hb2; rfl), (by subst hb2; rfl), trivial⟩ (by decide) (by subst hb2; rfl)
        refine JE.code ?_
        refine JX.region ?_
        refine JL.val (yl_add rfl rfl) rfl ?_
        refine JL.val (yl_move rfl) rfl ?_
        refine JL.nil ?_
        refine JE.cont hres ?_
        exact fun a w h => ⟨a25, cp26, h.weak ⟨rfl, rfl, rfl, rfl, rfl, trivial⟩ [0, 1, 2] (by decide) rfl⟩
    · refine JX.condF rfl hb ?_
      refine JX.exit ?_
      refine JE.qb rfl ?_
      obtain ⟨b1, hb1⟩ : ∃ b : List Int, b = x15 := ⟨_, rfl⟩
      have hy1 : b1 = y1 := by rw [hb1]; exact hox1 _ (Option.some.inj hres).symm
      have hres := hresO1
      rw [← hy1] at hres
      refine JE.weak (env' := [(9, .slice a16 b1.length cp17)]) (es' := [rowT 2 eI64 a16 b1.length cp17 b1]) [1] ?_ ⟨(by subst hb1; rfl), trivial⟩ (by decide) (by subst hb1; rfl)
      refine JE.code ?_
      refine JX.seq ?_
      refine JX.region ?_
      refine JL.val (yl_move rfl) rfl ?_
      obtain ⟨x44, hx44, hres⟩ := bind_some hres
      refine JL.eff (ef_callms (caps := []) (vs := [.slice a16 b1.length cp17]) (T := fun v es1 rs1 => v = .tuple #[] ∧ es1 = [rowT 2 eI64 a16 b1.length cp17 x44] ∧ rs1 = []) [0] [] [rowT 2 eI64 a16 b1.length cp17 b1] [] rfl Go.Proofs.Try.func106 rfl (by kernel_rfl) rfl (by decide) rfl rfl (fun w N hF hS => sort_ad Go.Proofs.Try.slices_Sort_int Go.Proofs.Try.slices_Sort_int_none hS rfl hx44)) rfl ?_
      rintro _ _ ⟨_, _, ⟨rfl, rfl, rfl⟩, rfl⟩
      refine JL.nil ?_
      refine JE.code ?_
      refine JX.seq ?_
      refine JX.region ?_
      refine JL.val (yl_move rfl) rfl ?_
      obtain ⟨x45, hx45, hres⟩ := bind_some hres
      refine JL.eff (ef_callms (caps := []) (vs := [.slice a16 b1.length cp17]) (T := fun v es1 rs1 => v = .slice a16 x45.length cp17 ∧ es1 = [rowT 2 eI64 a16 x45.length cp17 x45] ∧ rs1 = []) [0] [] [rowT 2 eI64 a16 b1.length cp17 x44] [] rfl Go.Proofs.Try.func107 rfl (by kernel_rfl) rfl (by decide) rfl rfl (fun w N hF hS => compact_ad Go.Proofs.Try.slices_Compact_int Go.Proofs.Try.slices_Compact_int_empty hS (sortR_len hx44) hx45)) rfl ?_
      rintro _ _ ⟨_, _, ⟨rfl, rfl, rfl⟩, rfl⟩
      refine JL.val (yl_assign rfl) rfl ?_
      refine JL.val (yl_assign rfl) rfl ?_
      refine JL.nil ?_
      refine JE.weak (env' := [(4, .slice a16 x45.length cp17), (5, .int .i64 0)]) (es' := [rowT 2 eI64 a16 x45.length cp17 x45]) [0] ?_ ⟨rfl, rfl, trivial⟩ (by decide) rfl
      refine JE.code ?_
      refine JX.ret ?_
      obtain rfl := Option.some.inj hres
      refine JE.ret (rs := [.tmp 4, .tmp 5]) (vs := [.slice a16 x45.length cp17, .int .i64 0]) rfl ⟨rfl, rfl, trivial⟩ ?_
      exact fun w' hb hs => ⟨_, _, ⟨a16, x45.length, cp17, rfl, rfl, rfl⟩, rfl, hb, hs.sel [0] _ (by decide) rfl⟩

/- laws.f6big -/
def sh45 (q0 : List Int) : Option (Bool) := some (decide (4096 < (q0.length : Int)))
def T45 (r : Bool) (v : Value) (rs : List Own) : Prop := v = rets [.bool r] ∧ rs = []
set_option maxRecDepth 100000 in
theorem c45 {w : World} {q0 : List Int} {a_0 : Option Addr} {n_0 c_0 : Nat} (g_0 : Rd w a_0 (eU8.fl q0)) (l_0 : q0.length = n_0) (k_0 : n_0 ≤ c_0) {r : Bool} (hres : sh45 q0 = some r) : Calls Go.Proofs.Try.prog 45 [.slice a_0 n_0 c_0].toArray w (Ret w (T45 r)) := by
  subst l_0
  unfold sh45 at hres
  refine calls_of (n := 6) (M := []) (es := []) Go.Proofs.Try.func45 rfl rfl rfl (Sep.nil _ _ _) ?_
  refine JX.seq ?_
  refine JX.region ?_
  refine JL.val (yl_assign rfl) rfl ?_
  refine JL.nil ?_
  refine JE.code ?_
  refine JX.seq ?_
  refine JX.region ?_
  refine JL.val (yl_move rfl) rfl ?_
  refine JL.val (yl_len_slice Go.Proofs.Try.underlying54 rfl) rfl ?_
  refine JL.val (yl_gtr rfl rfl) rfl ?_
  refine JL.val (yl_assign rfl) rfl ?_
  refine JL.nil ?_
  refine JE.weak (env' := [(2, .bool (decide (4096 < (q0.length : Int))))]) (es' := []) [] ?_ ⟨rfl, trivial⟩ (by decide) rfl
  refine JE.code ?_
  refine JX.ret ?_
  obtain rfl := Option.some.inj hres
  refine JE.ret (rs := [.tmp 2]) (vs := [.bool (decide (4096 < (q0.length : Int)))]) rfl ⟨rfl, trivial⟩ ?_
  exact fun w' hb hs => ⟨_, _, ⟨rfl, rfl⟩, rfl, hb, hs.sel [] _ (by decide) rfl⟩

/- (*spec.l00Src).next -/
def sh165 (q0 : Sl00Src) : Option (Int × Int × Int) := Option.bind (bif decide (q0.at_ < (q0.code.length : Int)) then (Option.bind (getI q0.code q0.at_) fun x5 => some (w64 (x5))) else (some 0)) fun j2 => (bif decide ((w64 (q0.at_ + 1)) ≤ (q0.code.length : Int)) then (some (j2, w64 (q0.at_ + 1), IntKind.u64.wrap ((IntKind.u64.wrap ((IntKind.u64.wrap (q0.seed * 6364136223846793005)) + (IntKind.u64.wrap (j2)))) + 1442695040888963407))) else (some (w64 (andI .u64 ((IntKind.u64.wrap ((IntKind.u64.wrap ((IntKind.u64.wrap (q0.seed * 6364136223846793005)) + (IntKind.u64.wrap (j2)))) + 1442695040888963407)) / 2 ^ 40) 255), w64 (q0.at_ + 1), IntKind.u64.wrap ((IntKind.u64.wrap ((IntKind.u64.wrap (q0.seed * 6364136223846793005)) + (IntKind.u64.wrap (j2)))) + 1442695040888963407))))
def T165 (gb_0 : Nat) (a_0_0 : Option Addr) (n_0_0 c_0_0 : Nat) (r : Int × Int × Int) (v : Value) (es' rs : List Own) : Prop := es' = [boxO 162 gb_0 [.slice a_0_0 n_0_0 c_0_0, .int .i64 r.2.1, .int .u64 r.2.2]] ∧ v = rets [.int .i64 r.1] ∧ rs = []
set_option maxRecDepth 100000 in
theorem c165 {w : World} {M : List Nat} {q0 : Sl00Src} {gb_0 : Nat} {a_0_0 : Option Addr} {n_0_0 c_0_0 : Nat} (g_0_0 : RdS M w a_0_0 (eU8.fl q0.code)) (l_0_0 : q0.code.length = n_0_0) (k_0_0 : n_0_0 ≤ c_0_0) (gs : Sep w.heap.size M w [boxO 162 gb_0 [.slice a_0_0 n_0_0 c_0_0, .int .i64 q0.at_, .int .u64 q0.seed]]) {r : Int × Int × Int} (hres : sh165 q0 = some r) : Calls Go.Proofs.Try.prog 165 [ptrAt (some ⟨gb_0, 0, none⟩) 0].toArray w (RetMs w M (T165 gb_0 a_0_0 n_0_0 c_0_0 r)) := by
  subst l_0_0
  unfold sh165 at hres
  refine calls_of (n := 62) (M := M) (es := [boxO 162 gb_0 [.slice a_0_0 q0.code.length c_0_0, .int .i64 q0.at_, .int .u64 q0.seed]]) Go.Proofs.Try.func165 rfl rfl rfl gs ?_
  refine JX.seq ?_
  refine JX.region ?_
  refine JL.val (yl_assign rfl) rfl ?_
  refine JL.nil ?_
  refine JE.code ?_
  refine JX.seq ?_
  refine JX.region ?_
  refine JL.val (yl_assign rfl) rfl ?_
  refine JL.nil ?_
  refine JE.code ?_
  refine JX.seq ?_
  refine JX.seq ?_
  refine JX.drawH [(0, .pure), (1, .pure), (2, .pure), (3, .read), (4, .pure), (5, .pure), (6, .pure), (7, .read), (8, .pure), (9, .pure)] [] [] [0] [] [boxO 162 gb_0 [.slice a_0_0 q0.code.length c_0_0, .int .i64 q0.at_, .int .u64 q0.seed]] mixedP (by kernel_rfl) (by kernel_rfl) (by decide) rfl rfl ?_
  intro wrr1 Nr1 hFr1
  refine JH.pure rfl (yl_move rfl) rfl ?_
  refine JH.pure rfl (yl_nilCheckAt (a := some _) rfl rfl) rfl ?_
  refine JH.pure rfl (yl_fieldAt (a := some _) Go.Proofs.Try.underlying162 rfl i3 i3n rfl rfl) rfl ?_
  refine JH.read rfl (yl_load1 Go.Proofs.Try.underlying3 rfl rfl (fun w hw => hFr1.box 0 rfl rfl hw) rfl) rfl ?_
  refine JH.pure rfl (yl_move rfl) rfl ?_
  refine JH.pure rfl (yl_nilCheckAt (a := some _) rfl rfl) rfl ?_
  refine JH.pure rfl (yl_fieldAt (a := some _) Go.Proofs.Try.underlying162 rfl i54 i54n rfl rfl) rfl ?_
  refine JH.read rfl (yl_load1 Go.Proofs.Try.underlying54 rfl rfl (fun w hw => hFr1.box 0 rfl rfl hw) rfl) rfl ?_
  refine JH.pure rfl (yl_len_slice Go.Proofs.Try.underlying54 rfl) rfl ?_
  refine JH.pure rfl (yl_lss rfl rfl) rfl ?_
  refine JH.nil ?_
  refine JE.weak (env' := [(0, ptrAt (some ⟨gb_0, 0, none⟩) 0), (3, .int .i64 0), (13, .bool (decide (q0.at_ < (q0.code.length : Int))))]) (es' := [boxO 162 gb_0 [.slice a_0_0 q0.code.length c_0_0, .int .i64 q0.at_, .int .u64 q0.seed]]) [0] ?_ ⟨rfl, rfl, rfl, trivial⟩ (by decide) rfl
  refine JE.code ?_
  obtain ⟨j2, hj2, hresj2⟩ := bind_some hres
  refine JX.cut (K := fun J => J [(0, ptrAt (some ⟨gb_0, 0, none⟩) 0), (3, .int .i64 j2)] [boxO 162 gb_0 [.slice a_0_0 q0.code.length c_0_0, .int .i64 q0.at_, .int .u64 q0.seed]]) ?_ ?_
  · have hres := hresj2
    refine JE.code ?_
    refine JX.seq ?_
    refine JX.region ?_
    refine JL.val (yl_move rfl) rfl ?_
    refine JL.val (yl_nilCheckAt (a := some _) rfl rfl) rfl ?_
    refine JL.val (yl_fieldAt (a := some _) Go.Proofs.Try.underlying162 rfl i3 i3n rfl rfl) rfl ?_
    refine JL.val (yl_load1 Go.Proofs.Try.underlying3 rfl rfl (fun w hC => rd_box hC 0 rfl) rfl) rfl ?_
    refine JL.val (yl_add rfl rfl) rfl ?_
    refine JL.val (yl_nilCheckAt (a := some _) rfl rfl) rfl ?_
    refine JL.val (yl_fieldAt (a := some _) Go.Proofs.Try.underlying162 rfl i3 i3n rfl rfl) rfl ?_
    refine JL.eff (ef_store_box (i := 0) (v := .int .i64 (w64 (q0.at_ + 1))) i3 rfl rfl rfl (i3s).symm (Nat.le_of_ble_eq_true rfl) (by simp [Value.cells, Value.oneCell'])) rfl ?_
    rintro _ _ rfl
    refine JL.nil ?_
    refine JE.weak (env' := [(0, ptrAt (some ⟨gb_0, 0, none⟩) 0), (3, .int .i64 j2)]) (es' := [boxO 162 gb_0 [.slice a_0_0 q0.code.length c_0_0, .int .i64 (w64 (q0.at_ + 1)), .int .u64 q0.seed]]) [0] ?_ ⟨rfl, rfl, trivial⟩ (by decide) rfl
    refine JE.code ?_
    refine JX.seq ?_
    refine JX.region ?_
    refine JL.val (yl_move rfl) rfl ?_
    refine JL.val (yl_move rfl) rfl ?_
    refine JL.val (yl_nilCheckAt (a := some _) rfl rfl) rfl ?_
    refine JL.val (yl_fieldAt (a := some _) Go.Proofs.Try.underlying162 rfl i160 i160n rfl rfl) rfl ?_
    refine JL.val (yl_load1 Go.Proofs.Try.underlying160 rfl rfl (fun w hC => rd_box hC 0 rfl) rfl) rfl ?_
    refine JL.val (yl_mul rfl rfl) rfl ?_
    refine JL.val (yl_move rfl) rfl ?_
    refine JL.val (yl_conv Go.Proofs.Try.underlying3 Go.Proofs.Try.underlying160 rfl) rfl ?_
    refine JL.val (yl_add rfl rfl) rfl ?_
    refine JL.val (yl_add rfl rfl) rfl ?_
    refine JL.val (yl_nilCheckAt (a := some _) rfl rfl) rfl ?_
    refine JL.val (yl_fieldAt (a := some _) Go.Proofs.Try.underlying162 rfl i160 i160n rfl rfl) rfl ?_
    refine JL.eff (ef_store_box (i := 0) (v := .int .u64 (IntKind.u64.wrap ((IntKind.u64.wrap ((IntKind.u64.wrap (q0.seed * 6364136223846793005)) + (IntKind.u64.wrap (j2)))) + 1442695040888963407))) i160 rfl rfl rfl (i160s).symm (Nat.le_of_ble_eq_true rfl) (by simp [Value.cells, Value.oneCell'])) rfl ?_
    rintro _ _ rfl
    refine JL.nil ?_
    refine JE.weak (env' := [(0, ptrAt (some ⟨gb_0, 0, none⟩) 0), (3, .int .i64 j2)]) (es' := [boxO 162 gb_0 [.slice a_0_0 q0.code.length c_0_0, .int .i64 (w64 (q0.at_ + 1)), .int .u64 (IntKind.u64.wrap ((IntKind.u64.wrap ((IntKind.u64.wrap (q0.seed * 6364136223846793005)) + (IntKind.u64.wrap (j2)))) + 1442695040888963407))]]) [0] ?_ ⟨rfl, rfl, trivial⟩ (by decide) rfl
    refine JE.code ?_
    refine JX.seq ?_
    refine JX.seq ?_
    refine JX.drawH [(0, .pure), (1, .pure), (2, .pure), (3, .read), (4, .pure), (5, .pure), (6, .pure), (7, .read), (8, .pure), (9, .pure)] [] [] [0] [] [boxO 162 gb_0 [.slice a_0_0 q0.code.length c_0_0, .int .i64 (w64 (q0.at_ + 1)), .int .u64 (IntKind.u64.wrap ((IntKind.u64.wrap ((IntKind.u64.wrap (q0.seed * 6364136223846793005)) + (IntKind.u64.wrap (j2)))) + 1442695040888963407))]] mixedP (by kernel_rfl) (by kernel_rfl) (by decide) rfl rfl ?_
    intro wrr3 Nr3 hFr3
    refine JH.pure rfl (yl_move rfl) rfl ?_
    refine JH.pure rfl (yl_nilCheckAt (a := some _) rfl rfl) rfl ?_
    refine JH.pure rfl (yl_fieldAt (a := some _) Go.Proofs.Try.underlying162 rfl i3 i3n rfl rfl) rfl ?_
    refine JH.read rfl (yl_load1 Go.Proofs.Try.underlying3 rfl rfl (fun w hw => hFr3.box 0 rfl rfl hw) rfl) rfl ?_
    refine JH.pure rfl (yl_move rfl) rfl ?_
    refine JH.pure rfl (yl_nilCheckAt (a := some _) rfl rfl) rfl ?_
    refine JH.pure rfl (yl_fieldAt (a := some _) Go.Proofs.Try.underlying162 rfl i54 i54n rfl rfl) rfl ?_
    refine JH.read rfl (yl_load1 Go.Proofs.Try.underlying54 rfl rfl (fun w hw => hFr3.box 0 rfl rfl hw) rfl) rfl ?_
    refine JH.pure rfl (yl_len_slice Go.Proofs.Try.underlying54 rfl) rfl ?_
    refine JH.pure rfl (yl_leq rfl rfl) rfl ?_
    refine JH.nil ?_
    refine JE.weak (env' := [(0, ptrAt (some ⟨gb_0, 0, none⟩) 0), (3, .int .i64 j2), (53, .bool (decide ((w64 (q0.at_ + 1)) ≤ (q0.code.length : Int))))]) (es' := [boxO 162 gb_0 [.slice a_0_0 q0.code.length c_0_0, .int .i64 (w64 (q0.at_ + 1)), .int .u64 (IntKind.u64.wrap ((IntKind.u64.wrap ((IntKind.u64.wrap (q0.seed * 6364136223846793005)) + (IntKind.u64.wrap (j2)))) + 1442695040888963407))]]) [0] ?_ ⟨rfl, rfl, rfl, trivial⟩ (by decide) rfl
    refine JE.code ?_
    rcases cond_some hres with ⟨hb, hres⟩ | ⟨hb, hres⟩
    · refine JX.condT rfl hb ?_
      refine JX.seq ?_
      refine JX.region ?_
      refine JL.val (yl_move rfl) rfl ?_
      refine JL.val (yl_assign rfl) rfl ?_
      refine JL.nil ?_
      refine JE.code ?_
      refine JX.ret ?_
      obtain rfl := Option.some.inj hres
      refine JE.ret (rs := [.tmp 2]) (vs := [.int .i64 j2]) rfl ⟨rfl, trivial⟩ ?_
      exact fun w' hb hs => ⟨_, _, _, ⟨rfl, rfl, rfl⟩, rfl, hb, hs.sel [0] _ (by decide) rfl⟩
    · refine JX.condF rfl hb ?_
      refine JX.skip ?_
      refine JE.code ?_
      refine JX.seq ?_
      refine JX.region ?_
      refine JL.val (yl_move rfl) rfl ?_
      refine JL.val (yl_nilCheckAt (a := some _) rfl rfl) rfl ?_
      refine JL.val (yl_fieldAt (a := some _) Go.Proofs.Try.underlying162 rfl i160 i160n rfl rfl) rfl ?_
      refine JL.val (yl_load1 Go.Proofs.Try.underlying160 rfl rfl (fun w hC => rd_box hC 0 rfl) rfl) rfl ?_
      refine JL.val (yl_shr rfl rfl (by decide) (by decide)) rfl ?_
      refine JL.val (yl_and rfl rfl) rfl ?_
      refine JL.val (yl_conv Go.Proofs.Try.underlying160 Go.Proofs.Try.underlying2 rfl) rfl ?_
      refine JL.val (yl_assign rfl) rfl ?_
      refine JL.nil ?_
      refine JE.weak (env' := [(2, .int .i64 (w64 (andI .u64 ((IntKind.u64.wrap ((IntKind.u64.wrap ((IntKind.u64.wrap (q0.seed * 6364136223846793005)) + (IntKind.u64.wrap (j2)))) + 1442695040888963407)) / 2 ^ 40) 255)))]) (es' := [boxO 162 gb_0 [.slice a_0_0 q0.code.length c_0_0, .int .i64 (w64 (q0.at_ + 1)), .int .u64 (IntKind.u64.wrap ((IntKind.u64.wrap ((IntKind.u64.wrap (q0.seed * 6364136223846793005)) + (IntKind.u64.wrap (j2)))) + 1442695040888963407))]]) [0] ?_ ⟨rfl, trivial⟩ (by decide) rfl
      refine JE.code ?_
      refine JX.ret ?_
      obtain rfl := Option.some.inj hres
      refine JE.ret (rs := [.tmp 2]) (vs := [.int .i64 (w64 (andI .u64 ((IntKind.u64.wrap ((IntKind.u64.wrap ((IntKind.u64.wrap (q0.seed * 6364136223846793005)) + (IntKind.u64.wrap (j2)))) + 1442695040888963407)) / 2 ^ 40) 255))]) rfl ⟨rfl, trivial⟩ ?_
      exact fun w' hb hs => ⟨_, _, _, ⟨rfl, rfl, rfl⟩, rfl, hb, hs.sel [0] _ (by decide) rfl⟩
  · intro K
    rcases cond_some hj2 with ⟨hb, hres⟩ | ⟨hb, hres⟩
    · refine JX.condT rfl hb ?_
      refine JX.drawH [(0, .pure), (1, .pure), (2, .pure), (3, .read), (4, .pure), (5, .pure), (6, .pure), (7, .read), (8, .pure), (9, .read), (10, .pure), (11, .pure)] [] [] [0] [] [boxO 162 gb_0 [.slice a_0_0 q0.code.length c_0_0, .int .i64 q0.at_, .int .u64 q0.seed]] mixedP (by kernel_rfl) (by kernel_rfl) (by decide) rfl rfl ?_
      intro wrr4 Nr4 hFr4
      refine JH.pure rfl (yl_move rfl) rfl ?_
      refine JH.pure rfl (yl_nilCheckAt (a := some _) rfl rfl) rfl ?_
      refine JH.pure rfl (yl_fieldAt (a := some _) Go.Proofs.Try.underlying162 rfl i54 i54n rfl rfl) rfl ?_
      refine JH.read rfl (yl_load1 Go.Proofs.Try.underlying54 rfl rfl (fun w hw => hFr4.box 0 rfl rfl hw) rfl) rfl ?_
      refine JH.pure rfl (yl_move rfl) rfl ?_
      refine JH.pure rfl (yl_nilCheckAt (a := some _) rfl rfl) rfl ?_
      refine JH.pure rfl (yl_fieldAt (a := some _) Go.Proofs.Try.underlying162 rfl i3 i3n rfl rfl) rfl ?_
      refine JH.read rfl (yl_load1 Go.Proofs.Try.underlying3 rfl rfl (fun w hw => hFr4.box 0 rfl rfl hw) rfl) rfl ?_
      obtain ⟨x5, hx5, hres⟩ := bind_some hres
      refine JH.pure rfl (yl_idxQ Go.Proofs.Try.underlying54 i5 i5s rfl rfl hx5 rfl (rd_argS g_0_0 hFr4.cl) rfl) rfl ?_
      refine JH.read rfl (yl_loadT0 Go.Proofs.Try.underlying5 rfl rfl hx5 (fun w hw => hFr4.argS g_0_0 hw) rfl) rfl ?_
      refine JH.pure rfl (yl_conv Go.Proofs.Try.underlying5 Go.Proofs.Try.underlying3 rfl) rfl ?_
      refine JH.pure rfl (yl_assign rfl) rfl ?_
      refine JH.nil ?_
      refine JE.weak (env' := [(0, ptrAt (some ⟨gb_0, 0, none⟩) 0), (3, .int .i64 (w64 (x5)))]) (es' := [boxO 162 gb_0 [.slice a_0_0 q0.code.length c_0_0, .int .i64 q0.at_, .int .u64 q0.seed]]) [0] ?_ ⟨rfl, rfl, trivial⟩ (by decide) rfl
      have hj := Option.some.inj hres
      exact JE.weak [0] (K) ⟨(by subst hj; rfl), (by subst hj; rfl), trivial⟩ (by decide) (by subst hj; rfl)
    · refine JX.condF rfl hb ?_
      refine JX.skip ?_
      have hj := Option.some.inj hres
      exact JE.weak [0] (K) ⟨(by subst hj; rfl), (by subst hj; rfl), trivial⟩ (by decide) (by subst hj; rfl)

/- (*spec.l00Src).pick -/
def sh113 (q0 : Sl00Src) (q1 : Int) : Option (Int × Int × Int) := bif decide (q1 ≤ 1) then (some (0, q0.at_, q0.seed)) else (Option.bind (sh165 q0) fun x1 => Option.bind (bif decide (200 < q1) then (Option.bind (sh165 (Sl00Src.mk q0.code x1.2.1 x1.2.2)) fun x4 => some (w64 ((w64 (x1.1 * 256)) + x4.1), (x4.2.1, x4.2.2))) else (some (x1.1, (x1.2.1, x1.2.2)))) fun j2 => (Option.bind (nzI q1) fun x3 => some (j2.1.tmod q1, j2.2.1, j2.2.2)))
def T113 (gb_0 : Nat) (a_0_0 : Option Addr) (n_0_0 c_0_0 : Nat) (r : Int × Int × Int) (v : Value) (es' rs : List Own) : Prop := es' = [boxO 162 gb_0 [.slice a_0_0 n_0_0 c_0_0, .int .i64 r.2.1, .int .u64 r.2.2]] ∧ v = rets [.int .i64 r.1] ∧ rs = []
set_option maxRecDepth 100000 in
theorem c113 {w : World} {M : List Nat} {q0 : Sl00Src} {gb_0 : Nat} {a_0_0 : Option Addr} {n_0_0 c_0_0 : Nat} (g_0_0 : RdS M w a_0_0 (eU8.fl q0.code)) (l_0_0 : q0.code.length = n_0_0) (k_0_0 : n_0_0 ≤ c_0_0) {q1 : Int} (gs : Sep w.heap.size M w [boxO 162 gb_0 [.slice a_0_0 n_0_0 c_0_0, .int .i64 q0.at_, .int .u64 q0.seed]]) {r : Int × Int × Int} (hres : sh113 q0 q1 = some r) : Calls Go.Proofs.Try.prog 113 [ptrAt (some ⟨gb_0, 0, none⟩) 0, .int .i64 q1].toArray w (RetMs w M (T113 gb_0 a_0_0 n_0_0 c_0_0 r)) := by
  subst l_0_0
  unfold sh113 at hres
  refine calls_of (n := 20) (M := M) (es := [boxO 162 gb_0 [.slice a_0_0 q0.code.length c_0_0, .int .i64 q0.at_, .int .u64 q0.seed]]) Go.Proofs.Try.func113 rfl rfl rfl gs ?_
  refine JX.seq ?_
  refine JX.region ?_
  refine JL.val (yl_assign rfl) rfl ?_
  refine JL.nil ?_
  refine JE.code ?_
  refine JX.seq ?_
  refine JX.seq ?_
  refine JX.region ?_
  refine JL.val (yl_move rfl) rfl ?_
  refine JL.val (yl_leq rfl rfl) rfl ?_
  refine JL.nil ?_
  refine JE.code ?_
  rcases cond_some hres with ⟨hb, hres⟩ | ⟨hb, hres⟩
  · refine JX.condT rfl hb ?_
    refine JX.seq ?_
    refine JX.region ?_
    refine JL.val (yl_assign rfl) rfl ?_
    refine JL.nil ?_
    refine JE.code ?_
    refine JX.ret ?_
    obtain rfl := Option.some.inj hres
    refine JE.ret (rs := [.tmp 4]) (vs := [.int .i64 0]) rfl ⟨rfl, trivial⟩ ?_
    exact fun w' hb hs => ⟨_, _, _, ⟨rfl, rfl, rfl⟩, rfl, hb, hs.sel [0] _ (by decide) rfl⟩
  · refine JX.condF rfl hb ?_
    refine JX.skip ?_
    refine JE.code ?_
    refine JX.seq ?_
    refine JX.region ?_
    refine JL.val (yl_move rfl) rfl ?_
    obtain ⟨x1, hx1, hres⟩ := bind_some hres
    refine JL.eff (ef_callms (caps := []) (vs := [ptrAt (some ⟨gb_0, 0, none⟩) 0]) (T := T165 gb_0 a_0_0 q0.code.length c_0_0 x1) [0] [] [boxO 162 gb_0 [.slice a_0_0 q0.code.length c_0_0, .int .i64 q0.at_, .int .u64 q0.seed]] [] rfl Go.Proofs.Try.func165 rfl (by kernel_rfl) rfl (by decide) rfl rfl (fun w N hF hS => c165 (q0 := q0) (RdS.pass hF g_0_0) rfl k_0_0 hS hx1)) rfl ?_
    rintro _ _ ⟨_, _, ⟨rfl, rfl, rfl⟩, rfl⟩
    refine JL.val (yl_assign rfl) rfl ?_
    refine JL.nil ?_
    refine JE.code ?_
    refine JX.seq ?_
    refine JX.seq ?_
    refine JX.region ?_
    refine JL.val (yl_move rfl) rfl ?_
    refine JL.val (yl_gtr rfl rfl) rfl ?_
    refine JL.nil ?_
    refine JE.code ?_
    obtain ⟨j2, hj2, hresj2⟩ := bind_some hres
    refine JX.cut (K := fun J => J [(1, .int .i64 q1), (5, .int .i64 j2.1)] [boxO 162 gb_0 [.slice a_0_0 q0.code.length c_0_0, .int .i64 j2.2.1, .int .u64 j2.2.2]]) ?_ ?_
    · have hres := hresj2
      refine JE.code ?_
      refine JX.seq ?_
      refine JX.region ?_
      refine JL.val (yl_move rfl) rfl ?_
      refine JL.val (yl_move rfl) rfl ?_
      obtain ⟨x3, hx3, hres⟩ := bind_some hres
      refine JL.val (yl_rem rfl rfl (nzI_some hx3)) rfl ?_
      refine JL.val (yl_assign rfl) rfl ?_
      refine JL.nil ?_
      refine JE.weak (env' := [(4, .int .i64 (j2.1.tmod q1))]) (es' := [boxO 162 gb_0 [.slice a_0_0 q0.code.length c_0_0, .int .i64 j2.2.1, .int .u64 j2.2.2]]) [0] ?_ ⟨rfl, trivial⟩ (by decide) rfl
      refine JE.code ?_
      refine JX.ret ?_
      obtain rfl := Option.some.inj hres
      refine JE.ret (rs := [.tmp 4]) (vs := [.int .i64 (j2.1.tmod q1)]) rfl ⟨rfl, trivial⟩ ?_
      exact fun w' hb hs => ⟨_, _, _, ⟨rfl, rfl, rfl⟩, rfl, hb, hs.sel [0] _ (by decide) rfl⟩
    · intro K
      rcases cond_some hj2 with ⟨hb, hres⟩ | ⟨hb, hres⟩
      · refine JX.condT rfl hb ?_
        refine JX.region ?_
        refine JL.val (yl_move rfl) rfl ?_
        refine JL.val (yl_mul rfl rfl) rfl ?_
        refine JL.val (yl_move rfl) rfl ?_
        obtain ⟨x4, hx4, hres⟩ := bind_some hres
        refine JL.eff (ef_callms (caps := []) (vs := [ptrAt (some ⟨gb_0, 0, none⟩) 0]) (T := T165 gb_0 a_0_0 q0.code.length c_0_0 x4) [0] [] [boxO 162 gb_0 [.slice a_0_0 q0.code.length c_0_0, .int .i64 x1.2.1, .int .u64 x1.2.2]] [] rfl Go.Proofs.Try.func165 rfl (by kernel_rfl) rfl (by decide) rfl rfl (fun w N hF hS => c165 (q0 := Sl00Src.mk q0.code x1.2.1 x1.2.2) (RdS.pass hF g_0_0) rfl k_0_0 hS hx4)) rfl ?_
        rintro _ _ ⟨_, _, ⟨rfl, rfl, rfl⟩, rfl⟩
        refine JL.val (yl_add rfl rfl) rfl ?_
        refine JL.val (yl_assign rfl) rfl ?_
        refine JL.nil ?_
        refine JE.weak (env' := [(1, .int .i64 q1), (5, .int .i64 (w64 ((w64 (x1.1 * 256)) + x4.1)))]) (es' := [boxO 162 gb_0 [.slice a_0_0 q0.code.length c_0_0, .int .i64 x4.2.1, .int .u64 x4.2.2]]) [0] ?_ ⟨rfl, rfl, trivial⟩ (by decide) rfl
        have hj := Option.some.inj hres
        exact JE.weak [0] (K) ⟨(by subst hj; rfl), (by subst hj; rfl), trivial⟩ (by decide) (by subst hj; rfl)
      · refine JX.condF rfl hb ?_
        refine JX.skip ?_
        have hj := Option.some.inj hres
        exact JE.weak [0] (K) ⟨(by subst hj; rfl), (by subst hj; rfl), trivial⟩ (by decide) (by subst hj; rfl)

/- (*spec.l00Src).among -/
def sh124 (q0 : Sl00Src) (q1 : List Int) : Option (Int × Int × Int) := Option.bind (sh113 q0 (q1.length : Int)) fun x1 => Option.bind (getI q1 x1.1) fun x2 => some (x2, x1.2.1, x1.2.2)
def T124 (gb_0 : Nat) (a_0_0 : Option Addr) (n_0_0 c_0_0 : Nat) (r : Int × Int × Int) (v : Value) (es' rs : List Own) : Prop := es' = [boxO 162 gb_0 [.slice a_0_0 n_0_0 c_0_0, .int .i64 r.2.1, .int .u64 r.2.2]] ∧ v = rets [.int .i64 r.1] ∧ rs = []
set_option maxRecDepth 100000 in
theorem c124 {w : World} {M : List Nat} {q0 : Sl00Src} {gb_0 : Nat} {a_0_0 : Option Addr} {n_0_0 c_0_0 : Nat} (g_0_0 : RdS M w a_0_0 (eU8.fl q0.code)) (l_0_0 : q0.code.length = n_0_0) (k_0_0 : n_0_0 ≤ c_0_0) {q1 : List Int} {a_1 : Option Addr} {n_1 c_1 : Nat} (g_1 : RdS M w a_1 (eI64.fl q1)) (l_1 : q1.length = n_1) (k_1 : n_1 ≤ c_1) (gs : Sep w.heap.size M w [boxO 162 gb_0 [.slice a_0_0 n_0_0 c_0_0, .int .i64 q0.at_, .int .u64 q0.seed]]) {r : Int × Int × Int} (hres : sh124 q0 q1 = some r) : Calls Go.Proofs.Try.prog 124 [ptrAt (some ⟨gb_0, 0, none⟩) 0, .slice a_1 n_1 c_1].toArray w (RetMs w M (T124 gb_0 a_0_0 n_0_0 c_0_0 r)) := by
  subst l_0_0
  subst l_1
  unfold sh124 at hres
  refine calls_of (n := 12) (M := M) (es := [boxO 162 gb_0 [.slice a_0_0 q0.code.length c_0_0, .int .i64 q0.at_, .int .u64 q0.seed]]) Go.Proofs.Try.func124 rfl rfl rfl gs ?_
  refine JX.seq ?_
  refine JX.region ?_
  refine JL.val (yl_assign rfl) rfl ?_
  refine JL.nil ?_
  refine JE.code ?_
  refine JX.seq ?_
  refine JX.region ?_
  refine JL.val (yl_move rfl) rfl ?_
  refine JL.val (yl_move rfl) rfl ?_
  refine JL.val (yl_move rfl) rfl ?_
  refine JL.val (yl_len_slice Go.Proofs.Try.underlying22 rfl) rfl ?_
  obtain ⟨x1, hx1, hres⟩ := bind_some hres
  refine JL.eff (ef_callms (caps := []) (vs := [ptrAt (some ⟨gb_0, 0, none⟩) 0, .int .i64 (q1.length : Int)]) (T := T113 gb_0 a_0_0 q0.code.length c_0_0 x1) [0] [] [boxO 162 gb_0 [.slice a_0_0 q0.code.length c_0_0, .int .i64 q0.at_, .int .u64 q0.seed]] [] rfl Go.Proofs.Try.func113 rfl (by kernel_rfl) rfl (by decide) rfl rfl (fun w N hF hS => c113 (q0 := q0) (RdS.pass hF g_0_0) rfl k_0_0 hS hx1)) rfl ?_
  rintro _ _ ⟨_, _, ⟨rfl, rfl, rfl⟩, rfl⟩
  obtain ⟨x2, hx2, hres⟩ := bind_some hres
  refine JL.val (yl_idxT Go.Proofs.Try.underlying22 i2 i2s rfl rfl hx2 rfl (fun w hC => rd_argS g_1 hC)) rfl ?_
  refine JL.val (yl_loadT0 Go.Proofs.Try.underlying2 rfl rfl hx2 (fun w hC => rd_argS g_1 hC) rfl) rfl ?_
  refine JL.val (yl_assign rfl) rfl ?_
  refine JL.nil ?_
  refine JE.weak (env' := [(4, .int .i64 x2)]) (es' := [boxO 162 gb_0 [.slice a_0_0 q0.code.length c_0_0, .int .i64 x1.2.1, .int .u64 x1.2.2]]) [0] ?_ ⟨rfl, trivial⟩ (by decide) rfl
  refine JE.code ?_
  refine JX.ret ?_
  obtain rfl := Option.some.inj hres
  refine JE.ret (rs := [.tmp 4]) (vs := [.int .i64 x2]) rfl ⟨rfl, trivial⟩ ?_
  exact fun w' hb hs => ⟨_, _, _, ⟨rfl, rfl, rfl⟩, rfl, hb, hs.sel [0] _ (by decide) rfl⟩

/- spec.l02New -/
def sh163 (q0 : Int) (q1 : Int) : Option (SPanel) := Option.bind (sh144 q0 q1) fun x3 => Option.bind (mkL x3 0) fun x4 => some (SPanel.mk q0 q1 x4)
def T163 (r : SPanel) (v : Value) (rs : List Own) : Prop := ∃ (a0_2 : Option Addr) (n0_2 c0_2 : Nat), r.Breaks.length = n0_2 ∧ v = rets [.agg #[.int .i64 r.W, .int .i64 r.H, .slice a0_2 n0_2 c0_2]] ∧ rs = [rowT 2 eI64 a0_2 n0_2 c0_2 r.Breaks]
set_option maxRecDepth 100000 in
theorem c163 {w : World} {q0 : Int} {q1 : Int} {r : SPanel} (hres : sh163 q0 q1 = some r) : Calls Go.Proofs.Try.prog 163 [.int .i64 q0, .int .i64 q1].toArray w (Ret w (T163 r)) := by
  unfold sh163 at hres
  refine calls_of (n := 12) (M := []) (es := []) Go.Proofs.Try.func163 rfl rfl rfl (Sep.nil _ _ _) ?_
  refine JX.seq ?_
  refine JX.region ?_
  refine JL.eff (ef_alloc i28 i28z rfl) rfl ?_
  rintro _ _ ⟨g1, rfl, rfl⟩
  refine JL.nil ?_
  refine JE.code ?_
  refine JX.seq ?_
  refine JX.region ?_
  refine JL.val (yl_move rfl) rfl ?_
  refine JL.val (yl_move rfl) rfl ?_
  refine JL.val (yl_move rfl) rfl ?_
  refine JL.val (yl_move rfl) rfl ?_
  obtain ⟨x3, hx3, hres⟩ := bind_some hres
  refine JL.eff (ef_call (T := T144 x3) Go.Proofs.Try.func144 rfl (by kernel_rfl) rfl (fun w hC => c144  hx3)) rfl ?_
  rintro _ _ ⟨_, ⟨rfl, rfl⟩, rfl⟩
  obtain ⟨x4, hx4, hres⟩ := bind_some hres
  refine JL.eff (ef_makeS (e := eI64) Go.Proofs.Try.underlying22 i2 i2s i2z rfl i2b1 rfl rfl hx4) rfl ?_
  rintro _ _ ⟨a5, rfl, rfl⟩
  refine JL.val (yl_build rfl (fun w => bld28_0_1_2 q0 q1 a5 x4.length x4.length w)) rfl ?_
  refine JL.eff (ef_store_box (i := 0) (v := .agg #[.int .i64 q0, .int .i64 q1, .slice a5 x4.length x4.length]) i28 rfl rfl rfl (i28s).symm (Nat.le_of_ble_eq_true rfl) (by simp [Value.cells, Value.oneCell'])) rfl ?_
  rintro _ _ rfl
  refine JL.nil ?_
  refine JE.weak (env' := [(4, ptrAt (some ⟨g1, 0, none⟩) 0)]) (es' := [boxO 28 g1 [.int .i64 q0, .int .i64 q1, .slice a5 x4.length x4.length], rowT 2 eI64 a5 x4.length x4.length x4]) [0, 1] ?_ ⟨rfl, trivial⟩ (by decide) rfl
  refine JE.code ?_
  refine JX.ret ?_
  obtain rfl := Option.some.inj hres
  refine JE.ret (rs := [.cell 4 28]) (vs := [.agg #[.int .i64 q0, .int .i64 q1, .slice a5 x4.length x4.length]]) rfl ⟨rv_box 0 rfl rfl Go.Proofs.Try.underlying28 rfl i28 (i28s).symm, trivial⟩ ?_
  exact fun w' hb hs => ⟨_, _, ⟨a5, x4.length, x4.length, rfl, rfl, rfl⟩, rfl, hb, hs.sel [1] _ (by decide) rfl⟩

/- spec.l02Draw -/
def sh162_1 (q0 : Sl00Src) (x5 : SPanel) (x11 : Int × Int × Int) : (Int × (Int × Int) × List Int) → Option ((Int × (Int × Int) × List Int) ⊕ ((Int × Int) × List Int))
  | (x13, x14, x15) => bif decide (x13 < ((x5.Breaks.length : Nat) : Int)) then (Option.bind (sh113 (Sl00Src.mk q0.code x14.1 x14.2) 4) fun x17 => Option.bind (bif decide (x17.1 < x11.1) then (Option.bind (sh113 (Sl00Src.mk q0.code x17.2.1 x17.2.2) 2) fun x21 => Option.bind (getI x15 x13) fun x22 => some ((x21.2.1, x21.2.2), x15.set (x13).toNat (w64 (1 + x21.1)))) else (some ((x17.2.1, x17.2.2), x15))) fun j18 => (some (.inl (w64 (x13 + 1), (j18.1.1, j18.1.2), j18.2)))) else (some (.inr ((x14.1, x14.2), x15)))
def sh162 (q0 : Sl00Src) (q1 : Int) : Option (SPanel × Int × Int) := Option.bind (sh113 q0 q1) fun x3 => Option.bind (sh113 (Sl00Src.mk q0.code x3.2.1 x3.2.2) q1) fun x4 => Option.bind (sh163 (w64 (1 + x3.1)) (w64 (1 + x4.1))) fun x5 => Option.bind (sh113 (Sl00Src.mk q0.code x4.2.1 x4.2.2) 4) fun x11 => Option.bind (iter (sh162_1 q0 x5 x11) (0, (x11.2.1, x11.2.2), x5.Breaks)) fun b1 => (some (SPanel.mk x5.W x5.H b1.2, b1.1.1, b1.1.2))
def T162 (gb_0 : Nat) (a_0_0 : Option Addr) (n_0_0 c_0_0 : Nat) (r : SPanel × Int × Int) (v : Value) (es' rs : List Own) : Prop := es' = [boxO 162 gb_0 [.slice a_0_0 n_0_0 c_0_0, .int .i64 r.2.1, .int .u64 r.2.2]] ∧ ∃ (a0_2 : Option Addr) (n0_2 c0_2 : Nat), r.1.Breaks.length = n0_2 ∧ v = rets [.agg #[.int .i64 r.1.W, .int .i64 r.1.H, .slice a0_2 n0_2 c0_2]] ∧ rs = [rowT 2 eI64 a0_2 n0_2 c0_2 r.1.Breaks]
set_option maxRecDepth 100000 in
theorem c162 {w : World} {M : List Nat} {q0 : Sl00Src} {gb_0 : Nat} {a_0_0 : Option Addr} {n_0_0 c_0_0 : Nat} (g_0_0 : RdS M w a_0_0 (eU8.fl q0.code)) (l_0_0 : q0.code.length = n_0_0) (k_0_0 : n_0_0 ≤ c_0_0) {q1 : Int} (gs : Sep w.heap.size M w [boxO 162 gb_0 [.slice a_0_0 n_0_0 c_0_0, .int .i64 q0.at_, .int .u64 q0.seed]]) {r : SPanel × Int × Int} (hres : sh162 q0 q1 = some r) : Calls Go.Proofs.Try.prog 162 [ptrAt (some ⟨gb_0, 0, none⟩) 0, .int .i64 q1].toArray w (RetMs w M (T162 gb_0 a_0_0 n_0_0 c_0_0 r)) := by
  subst l_0_0
  unfold sh162 at hres
  refine calls_of (n := 40) (M := M) (es := [boxO 162 gb_0 [.slice a_0_0 q0.code.length c_0_0, .int .i64 q0.at_, .int .u64 q0.seed]]) Go.Proofs.Try.func162 rfl rfl rfl gs ?_
  refine JX.seq ?_
  refine JX.region ?_
  refine JL.eff (ef_alloc i28 i28z rfl) rfl ?_
  rintro _ _ ⟨g1, rfl, rfl⟩
  refine JL.nil ?_
  refine JE.code ?_
  refine JX.seq ?_
  refine JX.region ?_
  refine JL.val (yl_move rfl) rfl ?_
  refine JL.val (yl_move rfl) rfl ?_
  obtain ⟨x3, hx3, hres⟩ := bind_some hres
  refine JL.eff (ef_callms (caps := []) (vs := [ptrAt (some ⟨gb_0, 0, none⟩) 0, .int .i64 q1]) (T := T113 gb_0 a_0_0 q0.code.length c_0_0 x3) [0] [1] [boxO 162 gb_0 [.slice a_0_0 q0.code.length c_0_0, .int .i64 q0.at_, .int .u64 q0.seed]] [boxO 28 g1 [.int .i64 0, .int .i64 0, .slice none 0 0]] rfl Go.Proofs.Try.func113 rfl (by kernel_rfl) rfl (by decide) rfl rfl (fun w N hF hS => c113 (q0 := q0) (RdS.pass hF g_0_0) rfl k_0_0 hS hx3)) rfl ?_
  rintro _ _ ⟨_, _, ⟨rfl, rfl, rfl⟩, rfl⟩
  refine JL.val (yl_add rfl rfl) rfl ?_
  refine JL.val (yl_assign rfl) rfl ?_
  refine JL.nil ?_
  refine JE.weak (env' := [(0, ptrAt (some ⟨gb_0, 0, none⟩) 0), (1, .int .i64 q1), (4, ptrAt (some ⟨g1, 0, none⟩) 0), (5, .int .i64 (w64 (1 + x3.1)))]) (es' := [boxO 162 gb_0 [.slice a_0_0 q0.code.length c_0_0, .int .i64 x3.2.1, .int .u64 x3.2.2], boxO 28 g1 [.int .i64 0, .int .i64 0, .slice none 0 0]]) [1, 0] ?_ ⟨rfl, rfl, rfl, rfl, trivial⟩ (by decide) rfl
  refine JE.code ?_
  refine JX.seq ?_
  refine JX.region ?_
  refine JL.val (yl_move rfl) rfl ?_
  refine JL.val (yl_move rfl) rfl ?_
  refine JL.val (yl_move rfl) rfl ?_
  obtain ⟨x4, hx4, hres⟩ := bind_some hres
  refine JL.eff (ef_callms (caps := []) (vs := [ptrAt (some ⟨gb_0, 0, none⟩) 0, .int .i64 q1]) (T := T113 gb_0 a_0_0 q0.code.length c_0_0 x4) [0] [1] [boxO 162 gb_0 [.slice a_0_0 q0.code.length c_0_0, .int .i64 x3.2.1, .int .u64 x3.2.2]] [boxO 28 g1 [.int .i64 0, .int .i64 0, .slice none 0 0]] rfl Go.Proofs.Try.func113 rfl (by kernel_rfl) rfl (by decide) rfl rfl (fun w N hF hS => c113 (q0 := Sl00Src.mk q0.code x3.2.1 x3.2.2) (RdS.pass hF g_0_0) rfl k_0_0 hS hx4)) rfl ?_
  rintro _ _ ⟨_, _, ⟨rfl, rfl, rfl⟩, rfl⟩
  refine JL.val (yl_add rfl rfl) rfl ?_
  obtain ⟨x5, hx5, hres⟩ := bind_some hres
  refine JL.eff (ef_call (T := T163 x5) Go.Proofs.Try.func163 rfl (by kernel_rfl) rfl (fun w hC => c163  hx5)) rfl ?_
  rintro _ _ ⟨_, ⟨a6, _, cp7, rfl, rfl, rfl⟩, rfl⟩
  refine JL.eff (ef_alloc i28 i28z rfl) rfl ?_
  rintro _ _ ⟨g9, rfl, rfl⟩
  refine JL.eff (ef_store_box (i := 3) (v := .agg #[.int .i64 x5.W, .int .i64 x5.H, .slice a6 x5.Breaks.length cp7]) i28 rfl rfl rfl (i28s).symm (Nat.le_of_ble_eq_true rfl) (by simp [Value.cells, Value.oneCell'])) rfl ?_
  rintro _ _ rfl
  refine JL.nil ?_
  refine JE.weak (env' := [(0, ptrAt (some ⟨gb_0, 0, none⟩) 0), (4, ptrAt (some ⟨g1, 0, none⟩) 0), (6, ptrAt (some ⟨g9, 0, none⟩) 0)]) (es' := [boxO 162 gb_0 [.slice a_0_0 q0.code.length c_0_0, .int .i64 x4.2.1, .int .u64 x4.2.2], boxO 28 g1 [.int .i64 0, .int .i64 0, .slice none 0 0], boxO 28 g9 [.int .i64 x5.W, .int .i64 x5.H, .slice a6 x5.Breaks.length cp7], rowT 2 eI64 a6 x5.Breaks.length cp7 x5.Breaks]) [1, 0, 3, 2] ?_ ⟨rfl, rfl, rfl, trivial⟩ (by decide) rfl
  refine JE.code ?_
  refine JX.seq ?_
  refine JX.region ?_
  refine JL.val (yl_move rfl) rfl ?_
  obtain ⟨x11, hx11, hres⟩ := bind_some hres
  refine JL.eff (ef_callms (caps := []) (vs := [ptrAt (some ⟨gb_0, 0, none⟩) 0, .int .i64 4]) (T := T113 gb_0 a_0_0 q0.code.length c_0_0 x11) [0] [1, 2, 3] [boxO 162 gb_0 [.slice a_0_0 q0.code.length c_0_0, .int .i64 x4.2.1, .int .u64 x4.2.2]] [boxO 28 g1 [.int .i64 0, .int .i64 0, .slice none 0 0], boxO 28 g9 [.int .i64 x5.W, .int .i64 x5.H, .slice a6 x5.Breaks.length cp7], rowT 2 eI64 a6 x5.Breaks.length cp7 x5.Breaks] rfl Go.Proofs.Try.func113 rfl (by kernel_rfl) rfl (by decide) rfl rfl (fun w N hF hS => c113 (q0 := Sl00Src.mk q0.code x4.2.1 x4.2.2) (RdS.pass hF g_0_0) rfl k_0_0 hS hx11)) rfl ?_
  rintro _ _ ⟨_, _, ⟨rfl, rfl, rfl⟩, rfl⟩
  refine JL.val (yl_assign rfl) rfl ?_
  refine JL.nil ?_
  refine JE.code ?_
  refine JX.seq ?_
  refine JX.seq ?_
  refine JX.region ?_
  refine JL.val (yl_assign rfl) rfl ?_
  refine JL.nil ?_
  refine JE.code ?_
  refine JX.block ?_
  obtain ⟨y1, hy1, hresO1⟩ := bind_some hres
  refine JX.loop (I := fun (s1 : Int × (Int × Int) × List Int) aa ww => ∃ (l12 : s1.2.2.length = x5.Breaks.length), St w M 40 [(0, ptrAt (some ⟨gb_0, 0, none⟩) 0), (4, ptrAt (some ⟨g1, 0, none⟩) 0), (6, ptrAt (some ⟨g9, 0, none⟩) 0), (7, .int .i64 x11.1), (8, .int .i64 s1.1)] [boxO 162 gb_0 [.slice a_0_0 q0.code.length c_0_0, .int .i64 s1.2.1.1, .int .u64 s1.2.1.2], boxO 28 g1 [.int .i64 0, .int .i64 0, .slice none 0 0], boxO 28 g9 [.int .i64 x5.W, .int .i64 x5.H, .slice a6 x5.Breaks.length cp7], rowT 2 eI64 a6 x5.Breaks.length cp7 s1.2.2] aa ww) (sh162_1 q0 x5 x11) hy1 (fun a w h => ⟨rfl, h.weak ⟨rfl, rfl, rfl, rfl, rfl, trivial⟩ [3, 0, 1, 2] (by decide) rfl⟩) ?_
  rintro ⟨x13, x14, x15⟩ o1 hres hox1 aa ww ⟨l16, hS⟩
  refine (?_ : JX Go.Proofs.Try.prog w M 40 _ _ [(0, ptrAt (some ⟨gb_0, 0, none⟩) 0), (4, ptrAt (some ⟨g1, 0, none⟩) 0), (6, ptrAt (some ⟨g9, 0, none⟩) 0), (7, .int .i64 x11.1), (8, .int .i64 x13)] [boxO 162 gb_0 [.slice a_0_0 q0.code.length c_0_0, .int .i64 x14.1, .int .u64 x14.2], boxO 28 g1 [.int .i64 0, .int .i64 0, .slice none 0 0], boxO 28 g9 [.int .i64 x5.W, .int .i64 x5.H, .slice a6 x5.Breaks.length cp7], rowT 2 eI64 a6 x5.Breaks.length cp7 x15] _) aa ww hS
  clear hS
  simp only [sh162_1] at hres
  refine JX.seq ?_
  refine JX.seq ?_
  refine JX.region ?_
  refine JL.val (yl_move rfl) rfl ?_
  refine JL.val (yl_fieldAt (a := some _) Go.Proofs.Try.underlying28 rfl i22 i22n rfl rfl) rfl ?_
  refine JL.val (yl_load1 Go.Proofs.Try.underlying22 rfl rfl (fun w hC => rd_box hC 2 rfl) rfl) rfl ?_
  refine JL.val (yl_len_slice Go.Proofs.Try.underlying22 rfl) rfl ?_
  refine JL.val (yl_lss rfl rfl) rfl ?_
  refine JL.nil ?_
  refine JE.weak (env' := [(0, ptrAt (some ⟨gb_0, 0, none⟩) 0), (4, ptrAt (some ⟨g1, 0, none⟩) 0), (6, ptrAt (some ⟨g9, 0, none⟩) 0), (7, .int .i64 x11.1), (8, .int .i64 x13), (25, .bool (decide (x13 < ((x5.Breaks.length : Nat) : Int))))]) (es' := [boxO 162 gb_0 [.slice a_0_0 q0.code.length c_0_0, .int .i64 x14.1, .int .u64 x14.2], boxO 28 g1 [.int .i64 0, .int .i64 0, .slice none 0 0], boxO 28 g9 [.int .i64 x5.W, .int .i64 x5.H, .slice a6 x5.Breaks.length cp7], rowT 2 eI64 a6 x5.Breaks.length cp7 x15]) [0, 1, 2, 3] ?_ ⟨rfl, rfl, rfl, rfl, rfl, rfl, trivial⟩ (by decide) rfl
  refine JE.code ?_
  rcases cond_some hres with ⟨hb, hres⟩ | ⟨hb, hres⟩
  · refine JX.condT rfl hb ?_
    refine JX.skip ?_
    refine JE.code ?_
    refine JX.seq ?_
    refine JX.block ?_
    refine JX.seq ?_
    refine JX.region ?_
    refine JL.val (yl_move rfl) rfl ?_
    obtain ⟨x17, hx17, hres⟩ := bind_some hres
    refine JL.eff (ef_callms (caps := []) (vs := [ptrAt (some ⟨gb_0, 0, none⟩) 0, .int .i64 4]) (T := T113 gb_0 a_0_0 q0.code.length c_0_0 x17) [0] [1, 2, 3] [boxO 162 gb_0 [.slice a_0_0 q0.code.length c_0_0, .int .i64 x14.1, .int .u64 x14.2]] [boxO 28 g1 [.int .i64 0, .int .i64 0, .slice none 0 0], boxO 28 g9 [.int .i64 x5.W, .int .i64 x5.H, .slice a6 x5.Breaks.length cp7], rowT 2 eI64 a6 x5.Breaks.length cp7 x15] rfl Go.Proofs.Try.func113 rfl (by kernel_rfl) rfl (by decide) rfl rfl (fun w N hF hS => c113 (q0 := Sl00Src.mk q0.code x14.1 x14.2) (RdS.pass hF g_0_0) rfl k_0_0 hS hx17)) rfl ?_
    rintro _ _ ⟨_, _, ⟨rfl, rfl, rfl⟩, rfl⟩
    refine JL.val (yl_move rfl) rfl ?_
    refine JL.val (yl_lss rfl rfl) rfl ?_
    refine JL.nil ?_
    refine JE.weak (env' := [(0, ptrAt (some ⟨gb_0, 0, none⟩) 0), (4, ptrAt (some ⟨g1, 0, none⟩) 0), (6, ptrAt (some ⟨g9, 0, none⟩) 0), (7, .int .i64 x11.1), (8, .int .i64 x13), (31, .bool (decide (x17.1 < x11.1)))]) (es' := [boxO 162 gb_0 [.slice a_0_0 q0.code.length c_0_0, .int .i64 x17.2.1, .int .u64 x17.2.2], boxO 28 g1 [.int .i64 0, .int .i64 0, .slice none 0 0], boxO 28 g9 [.int .i64 x5.W, .int .i64 x5.H, .slice a6 x5.Breaks.length cp7], rowT 2 eI64 a6 x5.Breaks.length cp7 x15]) [3, 0, 1, 2] ?_ ⟨rfl, rfl, rfl, rfl, rfl, rfl, trivial⟩ (by decide) rfl
    refine JE.code ?_
    obtain ⟨j18, hj18, hresj18⟩ := bind_some hres
    refine JX.cut (K := fun J => ∀ (l19 : j18.2.length = x5.Breaks.length), J [(0, ptrAt (some ⟨gb_0, 0, none⟩) 0), (4, ptrAt (some ⟨g1, 0, none⟩) 0), (6, ptrAt (some ⟨g9, 0, none⟩) 0), (7, .int .i64 x11.1), (8, .int .i64 x13)] [boxO 162 gb_0 [.slice a_0_0 q0.code.length c_0_0, .int .i64 j18.1.1, .int .u64 j18.1.2], boxO 28 g1 [.int .i64 0, .int .i64 0, .slice none 0 0], boxO 28 g9 [.int .i64 x5.W, .int .i64 x5.H, .slice a6 x5.Breaks.length cp7], rowT 2 eI64 a6 x5.Breaks.length cp7 j18.2]) ?_ ?_
    · intro l19
      have hres := hresj18
      refine JE.code ?_
      refine JX.region ?_
      refine JL.val (yl_move rfl) rfl ?_
      refine JL.val (yl_add rfl rfl) rfl ?_
      refine JL.val (yl_assign rfl) rfl ?_
      refine JL.nil ?_
      refine JE.cont hres ?_
      exact fun a w h => ⟨l19, h.weak ⟨rfl, rfl, rfl, rfl, rfl, trivial⟩ [0, 1, 2, 3] (by decide) rfl⟩
    · intro K
      rcases cond_some hj18 with ⟨hb, hres⟩ | ⟨hb, hres⟩
      · refine JX.condT rfl hb ?_
        refine JX.drawH [(0, .pure), (1, .read), (2, .pure), (3, .pure), (4, .must), (5, .pure), (6, .must), (7, .must)] [4, 7] [0, 3] [1, 2] [boxO 162 gb_0 [.slice a_0_0 q0.code.length c_0_0, .int .i64 x17.2.1, .int .u64 x17.2.2], rowT 2 eI64 a6 x5.Breaks.length cp7 x15] [boxO 28 g1 [.int .i64 0, .int .i64 0, .slice none 0 0], boxO 28 g9 [.int .i64 x5.W, .int .i64 x5.H, .slice a6 x5.Breaks.length cp7]] mixedP (by kernel_rfl) (by kernel_rfl) (by decide) rfl rfl ?_
        intro wrr20 Nr20 hFr20
        refine JH.pure rfl (yl_fieldAt (a := some _) Go.Proofs.Try.underlying28 rfl i22 i22n rfl rfl) rfl ?_
        refine JH.read rfl (yl_load1 Go.Proofs.Try.underlying22 rfl rfl (fun w hw => hFr20.box 2 rfl rfl hw) rfl) rfl ?_
        refine JH.pure rfl (yl_move rfl) rfl ?_
        refine JH.pure rfl (yl_move rfl) rfl ?_
        obtain ⟨x21, hx21, hres⟩ := bind_some hres
        refine JH.must rfl (ef_callms (caps := []) (vs := [ptrAt (some ⟨gb_0, 0, none⟩) 0, .int .i64 2]) (T := T113 gb_0 a_0_0 q0.code.length c_0_0 x21) [0] [1] [boxO 162 gb_0 [.slice a_0_0 q0.code.length c_0_0, .int .i64 x17.2.1, .int .u64 x17.2.2]] [rowT 2 eI64 a6 x5.Breaks.length cp7 x15] rfl Go.Proofs.Try.func113 rfl (by kernel_rfl) rfl (by decide) rfl rfl (fun w N hF hS => c113 (q0 := Sl00Src.mk q0.code x17.2.1 x17.2.2) (RdS.pass hF (RdS.pass hFr20 g_0_0)) rfl k_0_0 hS hx21)) rfl rfl ?_
        rintro _ _ ⟨_, _, ⟨rfl, rfl, rfl⟩, rfl⟩
        refine JH.pure rfl (yl_add rfl rfl) rfl ?_
        obtain ⟨x22, hx22, hres⟩ := bind_some hres
        refine JH.mval rfl (yl_idxQ Go.Proofs.Try.underlying22 i2 i2s rfl rfl hx22 l16 (rd_row hFr20.cl 3 rfl) l16) rfl ?_
        refine JH.must rfl (ef_storeT (ix := 0) (u := w64 (1 + x21.1)) i2 i2s rfl rfl rfl hx22 rfl) rfl rfl ?_
        rintro _ _ rfl
        refine JH.nil ?_
        refine JE.weak (env' := [(0, ptrAt (some ⟨gb_0, 0, none⟩) 0), (4, ptrAt (some ⟨g1, 0, none⟩) 0), (6, ptrAt (some ⟨g9, 0, none⟩) 0), (7, .int .i64 x11.1), (8, .int .i64 x13)]) (es' := [boxO 162 gb_0 [.slice a_0_0 q0.code.length c_0_0, .int .i64 x21.2.1, .int .u64 x21.2.2], boxO 28 g1 [.int .i64 0, .int .i64 0, .slice none 0 0], boxO 28 g9 [.int .i64 x5.W, .int .i64 x5.H, .slice a6 x5.Breaks.length cp7], rowT 2 eI64 a6 x5.Breaks.length cp7 (x15.set (x13).toNat (w64 (1 + x21.1)))]) [3, 0, 1, 2] ?_ ⟨rfl, rfl, rfl, rfl, rfl, trivial⟩ (by decide) rfl
        have hj := Option.some.inj hres
        exact JE.weak [0, 1, 2, 3] (K (by subst hj; exact (List.length_set.trans l16))) ⟨(by subst hj; rfl), (by subst hj; rfl), (by subst hj; rfl), (by subst hj; rfl), (by subst hj; rfl), trivial⟩ (by decide) (by subst hj; rfl)
      · refine JX.condF rfl hb ?_
        refine JX.skip ?_
        have hj := Option.some.inj hres
        exact JE.weak [0, 1, 2, 3] (K (by subst hj; exact l16)) ⟨(by subst hj; rfl), (by subst hj; rfl), (by subst hj; rfl), (by subst hj; rfl), (by subst hj; rfl), trivial⟩ (by decide) (by subst hj; rfl)
  · refine JX.condF rfl hb ?_
    refine JX.exit ?_
    refine JE.qb rfl ?_
    obtain ⟨b1, hb1⟩ : ∃ b : (Int × Int) × List Int, b = ((x14.1, x14.2), x15) := ⟨_, rfl⟩
    have hy1 : b1 = y1 := by rw [hb1]; exact hox1 _ (Option.some.inj hres).symm
    have hres := hresO1
    rw [← hy1] at hres
    have l23 : b1.2.length = x5.Breaks.length := by subst hb1; exact l16
    refine JE.weak (env' := [(4, ptrAt (some ⟨g1, 0, none⟩) 0), (6, ptrAt (some ⟨g9, 0, none⟩) 0)]) (es' := [boxO 162 gb_0 [.slice a_0_0 q0.code.length c_0_0, .int .i64 b1.1.1, .int .u64 b1.1.2], boxO 28 g1 [.int .i64 0, .int .i64 0, .slice none 0 0], boxO 28 g9 [.int .i64 x5.W, .int .i64 x5.H, .slice a6 x5.Breaks.length cp7], rowT 2 eI64 a6 x5.Breaks.length cp7 b1.2]) [0, 1, 2, 3] ?_ ⟨(by subst hb1; rfl), (by subst hb1; rfl), trivial⟩ (by decide) (by subst hb1; rfl)
    refine JE.code ?_
    refine JX.seq ?_
    refine JX.region ?_
    refine JL.val (yl_loadn Go.Proofs.Try.underlying28 rfl i28 rfl (fun w hC => rd_box hC 2 rfl) rfl (i28s).symm i28p) rfl ?_
    refine JL.eff (ef_store_box (i := 1) (v := .agg #[.int .i64 x5.W, .int .i64 x5.H, .slice a6 x5.Breaks.length cp7]) i28 rfl rfl rfl (i28s).symm (Nat.le_of_ble_eq_true rfl) (by simp [Value.cells, Value.oneCell'])) rfl ?_
    rintro _ _ rfl
    refine JL.nil ?_
    refine JE.weak (env' := [(4, ptrAt (some ⟨g1, 0, none⟩) 0)]) (es' := [boxO 162 gb_0 [.slice a_0_0 q0.code.length c_0_0, .int .i64 b1.1.1, .int .u64 b1.1.2], boxO 28 g1 [.int .i64 x5.W, .int .i64 x5.H, .slice a6 x5.Breaks.length cp7], rowT 2 eI64 a6 x5.Breaks.length cp7 b1.2]) [0, 1, 3] ?_ ⟨rfl, trivial⟩ (by decide) rfl
    refine JE.code ?_
    refine JX.ret ?_
    obtain rfl := Option.some.inj hres
    refine JE.ret (rs := [.cell 4 28]) (vs := [.agg #[.int .i64 x5.W, .int .i64 x5.H, .slice a6 x5.Breaks.length cp7]]) rfl ⟨rv_box 1 rfl rfl Go.Proofs.Try.underlying28 rfl i28 (i28s).symm, trivial⟩ ?_
    exact fun w' hb hs => ⟨_, _, _, ⟨rfl, a6, x5.Breaks.length, cp7, l23, rfl, rfl⟩, rfl, hb, hs.sel [0, 2] _ (by decide) rfl⟩

/- spec.l02Bent -/
def sh108 (q0 : Sl00Src) : Option (SPanel × Int × Int) := Option.bind (sh162 q0 5) fun x3 => Option.bind (sh113 (Sl00Src.mk q0.code x3.2.1 x3.2.2) 20) fun x9 => Option.bind (bif x9.1 == 0 then (Option.bind (sh124 (Sl00Src.mk q0.code x9.2.1 x9.2.2) [0, 8, 9, (-9223372036854775808)]) fun x15 => some ((x15.2.1, x15.2.2), (x15.1, x3.1.H), x3.1.Breaks)) else (Option.bind (bif x9.1 == 1 then (Option.bind (appL x3.1.Breaks [0]) fun x21 => some ((x9.2.1, x9.2.2), (x3.1.W, x3.1.H), x21)) else (Option.bind (bif x9.1 == 2 then (Option.bind (bif decide (0 < (x3.1.Breaks.length : Int)) then (Option.bind (sh113 (Sl00Src.mk q0.code x9.2.1 x9.2.2) (x3.1.Breaks.length : Int)) fun x30 => Option.bind (sh124 (Sl00Src.mk q0.code x30.2.1 x30.2.2) [(-1), 2, 3]) fun x630 => Option.bind (getI x3.1.Breaks x30.1) fun x631 => some ((x630.2.1, x630.2.2), x3.1.Breaks.set (x30.1).toNat x630.1)) else (some ((x9.2.1, x9.2.2), x3.1.Breaks))) fun j27 => (some ((j27.1.1, j27.1.2), (x3.1.W, x3.1.H), j27.2))) else (Option.bind (bif x9.1 == 3 then (Option.bind (sh163 8 8) fun x635 => some ((x635.W, x635.H), x635.Breaks)) else (some ((x3.1.W, x3.1.H), x3.1.Breaks))) fun j632 => (some ((x9.2.1, x9.2.2), (j632.1.1, j632.1.2), j632.2)))) fun j24 => (some ((j24.1.1, j24.1.2), (j24.2.1.1, j24.2.1.2), j24.2.2)))) fun j16 => (some ((j16.1.1, j16.1.2), (j16.2.1.1, j16.2.1.2), j16.2.2)))) fun j10 => (some (SPanel.mk j10.2.1.1 j10.2.1.2 j10.2.2, j10.1.1, j10.1.2))
def T108 (gb_0 : Nat) (a_0_0 : Option Addr) (n_0_0 c_0_0 : Nat) (r : SPanel × Int × Int) (v : Value) (es' rs : List Own) : Prop := es' = [boxO 162 gb_0 [.slice a_0_0 n_0_0 c_0_0, .int .i64 r.2.1, .int .u64 r.2.2]] ∧ ∃ (a0_2 : Option Addr) (n0_2 c0_2 : Nat), r.1.Breaks.length = n0_2 ∧ v = rets [.agg #[.int .i64 r.1.W, .int .i64 r.1.H, .slice a0_2 n0_2 c0_2]] ∧ rs = [rowT 2 eI64 a0_2 n0_2 c0_2 r.1.Breaks]
set_option maxRecDepth 100000 in
theorem c108 {w : World} {M : List Nat} {q0 : Sl00Src} {gb_0 : Nat} {a_0_0 : Option Addr} {n_0_0 c_0_0 : Nat} (g_0_0 : RdS M w a_0_0 (eU8.fl q0.code)) (l_0_0 : q0.code.length = n_0_0) (k_0_0 : n_0_0 ≤ c_0_0) (gs : Sep w.heap.size M w [boxO 162 gb_0 [.slice a_0_0 n_0_0 c_0_0, .int .i64 q0.at_, .int .u64 q0.seed]]) {r : SPanel × Int × Int} (hres : sh108 q0 = some r) : Calls Go.Proofs.Try.prog 108 [ptrAt (some ⟨gb_0, 0, none⟩) 0].toArray w (RetMs w M (T108 gb_0 a_0_0 n_0_0 c_0_0 r)) := by
  subst l_0_0
  unfold sh108 at hres
  refine calls_of (n := 42) (M := M) (es := [boxO 162 gb_0 [.slice a_0_0 q0.code.length c_0_0, .int .i64 q0.at_, .int .u64 q0.seed]]) Go.Proofs.Try.func108 rfl rfl rfl gs ?_
  refine JX.seq ?_
  refine JX.region ?_
  refine JL.eff (ef_alloc i28 i28z rfl) rfl ?_
  rintro _ _ ⟨g1, rfl, rfl⟩
  refine JL.nil ?_
  refine JE.code ?_
  refine JX.seq ?_
  refine JX.region ?_
  refine JL.val (yl_move rfl) rfl ?_
  obtain ⟨x3, hx3, hres⟩ := bind_some hres
  refine JL.eff (ef_callms (caps := []) (vs := [ptrAt (some ⟨gb_0, 0, none⟩) 0, .int .i64 5]) (T := T162 gb_0 a_0_0 q0.code.length c_0_0 x3) [0] [1] [boxO 162 gb_0 [.slice a_0_0 q0.code.length c_0_0, .int .i64 q0.at_, .int .u64 q0.seed]] [boxO 28 g1 [.int .i64 0, .int .i64 0, .slice none 0 0]] rfl Go.Proofs.Try.func162 rfl (by kernel_rfl) rfl (by decide) rfl rfl (fun w N hF hS => c162 (q0 := q0) (RdS.pass hF g_0_0) rfl k_0_0 hS hx3)) rfl ?_
  rintro _ _ ⟨_, _, ⟨rfl, a4, _, cp5, rfl, rfl, rfl⟩, rfl⟩
  refine JL.eff (ef_alloc i28 i28z rfl) rfl ?_
  rintro _ _ ⟨g7, rfl, rfl⟩
  refine JL.eff (ef_store_box (i := 3) (v := .agg #[.int .i64 x3.1.W, .int .i64 x3.1.H, .slice a4 x3.1.Breaks.length cp5]) i28 rfl rfl rfl (i28s).symm (Nat.le_of_ble_eq_true rfl) (by simp [Value.cells, Value.oneCell'])) rfl ?_
  rintro _ _ rfl
  refine JL.nil ?_
  refine JE.weak (env' := [(0, ptrAt (some ⟨gb_0, 0, none⟩) 0), (2, ptrAt (some ⟨g1, 0, none⟩) 0), (3, ptrAt (some ⟨g7, 0, none⟩) 0)]) (es' := [boxO 162 gb_0 [.slice a_0_0 q0.code.length c_0_0, .int .i64 x3.2.1, .int .u64 x3.2.2], boxO 28 g1 [.int .i64 0, .int .i64 0, .slice none 0 0], boxO 28 g7 [.int .i64 x3.1.W, .int .i64 x3.1.H, .slice a4 x3.1.Breaks.length cp5], rowT 2 eI64 a4 x3.1.Breaks.length cp5 x3.1.Breaks]) [1, 0, 3, 2] ?_ ⟨rfl, rfl, rfl, trivial⟩ (by decide) rfl
  refine JE.code ?_
  refine JX.seq ?_
  refine JX.seq ?_
  refine JX.region ?_
  refine JL.val (yl_move rfl) rfl ?_
  obtain ⟨x9, hx9, hres⟩ := bind_some hres
  refine JL.eff (ef_callms (caps := []) (vs := [ptrAt (some ⟨gb_0, 0, none⟩) 0, .int .i64 20]) (T := T113 gb_0 a_0_0 q0.code.length c_0_0 x9) [0] [1, 2, 3] [boxO 162 gb_0 [.slice a_0_0 q0.code.length c_0_0, .int .i64 x3.2.1, .int .u64 x3.2.2]] [boxO 28 g1 [.int .i64 0, .int .i64 0, .slice none 0 0], boxO 28 g7 [.int .i64 x3.1.W, .int .i64 x3.1.H, .slice a4 x3.1.Breaks.length cp5], rowT 2 eI64 a4 x3.1.Breaks.length cp5 x3.1.Breaks] rfl Go.Proofs.Try.func113 rfl (by kernel_rfl) rfl (by decide) rfl rfl (fun w N hF hS => c113 (q0 := Sl00Src.mk q0.code x3.2.1 x3.2.2) (RdS.pass hF g_0_0) rfl k_0_0 hS hx9)) rfl ?_
  rintro _ _ ⟨_, _, ⟨rfl, rfl, rfl⟩, rfl⟩
  refine JL.nil ?_
  refine JE.code ?_
  refine JX.block ?_
  refine JX.seq ?_
  refine JX.region ?_
  refine JL.val (yl_eql rfl rfl) rfl ?_
  refine JL.val (yl_assign rfl) rfl ?_
  refine JL.nil ?_
  refine JE.code ?_
  obtain ⟨j10, hj10, hresj10⟩ := bind_some hres
  refine JX.cut (K := fun J => ∀ (a11 : Option Addr) (cp12 : Nat), J [(2, ptrAt (some ⟨g1, 0, none⟩) 0), (3, ptrAt (some ⟨g7, 0, none⟩) 0)] [boxO 162 gb_0 [.slice a_0_0 q0.code.length c_0_0, .int .i64 j10.1.1, .int .u64 j10.1.2], boxO 28 g1 [.int .i64 0, .int .i64 0, .slice none 0 0], boxO 28 g7 [.int .i64 j10.2.1.1, .int .i64 j10.2.1.2, .slice a11 j10.2.2.length cp12], rowT 2 eI64 a11 j10.2.2.length cp12 j10.2.2]) ?_ ?_
  · intro a11 cp12
    have hres := hresj10
    refine JE.code ?_
    refine JX.seq ?_
    refine JX.region ?_
    refine JL.val (yl_loadn Go.Proofs.Try.underlying28 rfl i28 rfl (fun w hC => rd_box hC 2 rfl) rfl (i28s).symm i28p) rfl ?_
    refine JL.eff (ef_store_box (i := 1) (v := .agg #[.int .i64 j10.2.1.1, .int .i64 j10.2.1.2, .slice a11 j10.2.2.length cp12]) i28 rfl rfl rfl (i28s).symm (Nat.le_of_ble_eq_true rfl) (by simp [Value.cells, Value.oneCell'])) rfl ?_
    rintro _ _ rfl
    refine JL.nil ?_
    refine JE.weak (env' := [(2, ptrAt (some ⟨g1, 0, none⟩) 0)]) (es' := [boxO 162 gb_0 [.slice a_0_0 q0.code.length c_0_0, .int .i64 j10.1.1, .int .u64 j10.1.2], boxO 28 g1 [.int .i64 j10.2.1.1, .int .i64 j10.2.1.2, .slice a11 j10.2.2.length cp12], rowT 2 eI64 a11 j10.2.2.length cp12 j10.2.2]) [0, 1, 3] ?_ ⟨rfl, trivial⟩ (by decide) rfl
    refine JE.code ?_
    refine JX.ret ?_
    obtain rfl := Option.some.inj hres
    refine JE.ret (rs := [.cell 2 28]) (vs := [.agg #[.int .i64 j10.2.1.1, .int .i64 j10.2.1.2, .slice a11 j10.2.2.length cp12]]) rfl ⟨rv_box 1 rfl rfl Go.Proofs.Try.underlying28 rfl i28 (i28s).symm, trivial⟩ ?_
    exact fun w' hb hs => ⟨_, _, _, ⟨rfl, a11, j10.2.2.length, cp12, rfl, rfl, rfl⟩, rfl, hb, hs.sel [0, 2] _ (by decide) rfl⟩
  · intro K
    rcases cond_some hj10 with ⟨hb, hres⟩ | ⟨hb, hres⟩
    · refine JX.condT rfl hb ?_
      refine JX.region ?_
      refine JL.val (yl_move rfl) rfl ?_
      refine JL.eff (ef_buildSlice (E := 2) (k := eI64.k) (us := eI64.fl [0, 8, 9, (-9223372036854775808)]) rfl (fun w => bsl22_4 0 8 9 (-9223372036854775808) w) rfl (by decide)) rfl ?_
      rintro _ _ ⟨a13, rfl, rfl⟩
      obtain ⟨x15, hx15, hres⟩ := bind_some hres
      refine JL.eff (ef_callms (caps := []) (vs := [ptrAt (some ⟨gb_0, 0, none⟩) 0, .slice a13 4 4]) (T := T124 gb_0 a_0_0 q0.code.length c_0_0 x15) [3] [0, 1, 2, 4] [boxO 162 gb_0 [.slice a_0_0 q0.code.length c_0_0, .int .i64 x9.2.1, .int .u64 x9.2.2]] [boxO 28 g1 [.int .i64 0, .int .i64 0, .slice none 0 0], boxO 28 g7 [.int .i64 x3.1.W, .int .i64 x3.1.H, .slice a4 x3.1.Breaks.length cp5], rowT 2 eI64 a4 x3.1.Breaks.length cp5 x3.1.Breaks, rowT 2 eI64 a13 4 4 [0, 8, 9, (-9223372036854775808)]] rfl Go.Proofs.Try.func124 rfl (by kernel_rfl) rfl (by decide) rfl rfl (fun w N hF hS => c124 (q0 := Sl00Src.mk q0.code x9.2.1 x9.2.2) (RdS.pass hF g_0_0) rfl k_0_0 (RdS.row hF 4 rfl rfl) rfl (ln_row hF.cl 4 rfl) hS hx15)) rfl ?_
      rintro _ _ ⟨_, _, ⟨rfl, rfl, rfl⟩, rfl⟩
      refine JL.val (yl_fieldAt (a := some _) Go.Proofs.Try.underlying28 rfl i2 i2n rfl rfl) rfl ?_
      refine JL.eff (ef_store_box (i := 1) (v := .int .i64 x15.1) i2 rfl rfl rfl (i2s).symm (Nat.le_of_ble_eq_true rfl) (by simp [Value.cells, Value.oneCell'])) rfl ?_
      rintro _ _ rfl
      refine JL.nil ?_
      refine JE.weak (env' := [(2, ptrAt (some ⟨g1, 0, none⟩) 0), (3, ptrAt (some ⟨g7, 0, none⟩) 0)]) (es' := [boxO 162 gb_0 [.slice a_0_0 q0.code.length c_0_0, .int .i64 x15.2.1, .int .u64 x15.2.2], boxO 28 g1 [.int .i64 0, .int .i64 0, .slice none 0 0], boxO 28 g7 [.int .i64 x15.1, .int .i64 x3.1.H, .slice a4 x3.1.Breaks.length cp5], rowT 2 eI64 a4 x3.1.Breaks.length cp5 x3.1.Breaks]) [4, 0, 1, 2] ?_ ⟨rfl, rfl, trivial⟩ (by decide) rfl
      have hj := Option.some.inj hres
      exact JE.weak [0, 1, 2, 3] (K a4 cp5) ⟨(by subst hj; rfl), (by subst hj; rfl), trivial⟩ (by decide) (by subst hj; rfl)
    · refine JX.condF rfl hb ?_
      refine JX.seq ?_
      refine JX.region ?_
      refine JL.val (yl_eql rfl rfl) rfl ?_
      refine JL.val (yl_assign rfl) rfl ?_
      refine JL.nil ?_
      refine JE.code ?_
      obtain ⟨j16, hj16, hresj16⟩ := bind_some hres
      refine JX.cut (K := fun J => ∀ (a17 : Option Addr) (cp18 : Nat), J [(2, ptrAt (some ⟨g1, 0, none⟩) 0), (3, ptrAt (some ⟨g7, 0, none⟩) 0)] [boxO 162 gb_0 [.slice a_0_0 q0.code.length c_0_0, .int .i64 j16.1.1, .int .u64 j16.1.2], boxO 28 g1 [.int .i64 0, .int .i64 0, .slice none 0 0], boxO 28 g7 [.int .i64 j16.2.1.1, .int .i64 j16.2.1.2, .slice a17 j16.2.2.length cp18], rowT 2 eI64 a17 j16.2.2.length cp18 j16.2.2]) ?_ ?_
      · intro a17 cp18
        have hres := hresj16
        have hj := Option.some.inj hres
        exact JE.weak [0, 1, 2, 3] (K a17 cp18) ⟨(by subst hj; rfl), (by subst hj; rfl), trivial⟩ (by decide) (by subst hj; rfl)
      · intro K
        rcases cond_some hj16 with ⟨hb, hres⟩ | ⟨hb, hres⟩
        · refine JX.condT rfl hb ?_
          refine JX.region ?_
          refine JL.val (yl_fieldAt (a := some _) Go.Proofs.Try.underlying28 rfl i22 i22n rfl rfl) rfl ?_
          refine JL.val (yl_load1 Go.Proofs.Try.underlying22 rfl rfl (fun w hC => rd_box hC 1 rfl) rfl) rfl ?_
          refine JL.eff (ef_buildSlice (E := 2) (k := eI64.k) (us := eI64.fl [0]) rfl (fun w => bsl22_1 0 w) rfl (by decide)) rfl ?_
          rintro _ _ ⟨a19, rfl, rfl⟩
          obtain ⟨x21, hx21, hres⟩ := bind_some hres
          refine JL.eff (ef_appendT (ix := 2) Go.Proofs.Try.underlying22 i2 i2z i2s rfl i2b0 i2b1 rfl rfl rfl rfl rfl (fun w hC => rd_row hC 4 rfl) hx21) rfl ?_
          rintro _ _ ⟨a22, cp23, rfl, rfl⟩
          refine JL.val (yl_fieldAt (a := some _) Go.Proofs.Try.underlying28 rfl i22 i22n rfl rfl) rfl ?_
          refine JL.eff (ef_store_box (i := 1) (v := .slice a22 x21.length cp23) i22 rfl rfl rfl (i22s).symm (Nat.le_of_ble_eq_true rfl) (by simp [Value.cells, Value.oneCell'])) rfl ?_
          rintro _ _ rfl
          refine JL.nil ?_
          refine JE.weak (env' := [(2, ptrAt (some ⟨g1, 0, none⟩) 0), (3, ptrAt (some ⟨g7, 0, none⟩) 0)]) (es' := [boxO 162 gb_0 [.slice a_0_0 q0.code.length c_0_0, .int .i64 x9.2.1, .int .u64 x9.2.2], boxO 28 g1 [.int .i64 0, .int .i64 0, .slice none 0 0], boxO 28 g7 [.int .i64 x3.1.W, .int .i64 x3.1.H, .slice a22 x21.length cp23], rowT 2 eI64 a22 x21.length cp23 x21]) [3, 0, 1, 2] ?_ ⟨rfl, rfl, trivial⟩ (by decide) rfl
          have hj := Option.some.inj hres
          exact JE.weak [0, 1, 2, 3] (K a22 cp23) ⟨(by subst hj; rfl), (by subst hj; rfl), trivial⟩ (by decide) (by subst hj; rfl)
        · refine JX.condF rfl hb ?_
          refine JX.seq ?_
          refine JX.region ?_
          refine JL.val (yl_eql rfl rfl) rfl ?_
          refine JL.val (yl_assign rfl) rfl ?_
          refine JL.nil ?_
          refine JE.code ?_
          obtain ⟨j24, hj24, hresj24⟩ := bind_some hres
          refine JX.cut (K := fun J => ∀ (a25 : Option Addr) (cp26 : Nat), J [(2, ptrAt (some ⟨g1, 0, none⟩) 0), (3, ptrAt (some ⟨g7, 0, none⟩) 0)] [boxO 162 gb_0 [.slice a_0_0 q0.code.length c_0_0, .int .i64 j24.1.1, .int .u64 j24.1.2], boxO 28 g1 [.int .i64 0, .int .i64 0, .slice none 0 0], boxO 28 g7 [.int .i64 j24.2.1.1, .int .i64 j24.2.1.2, .slice a25 j24.2.2.length cp26], rowT 2 eI64 a25 j24.2.2.length cp26 j24.2.2]) ?_ ?_
          · intro a25 cp26
            have hres := hresj24
            have hj := Option.some.inj hres
            exact JE.weak [0, 1, 2, 3] (K a25 cp26) ⟨(by subst hj; rfl), (by subst hj; rfl), trivial⟩ (by decide) (by subst hj; rfl)
          · intro K
            rcases cond_some hj24 with ⟨hb, hres⟩ | ⟨hb, hres⟩
            · refine JX.condT rfl hb ?_
              refine JX.seq ?_
              refine JX.region ?_
              refine JL.val (yl_fieldAt (a := some _) Go.Proofs.Try.underlying28 rfl i22 i22n rfl rfl) rfl ?_
              refine JL.val (yl_load1 Go.Proofs.Try.underlying22 rfl rfl (fun w hC => rd_box hC 1 rfl) rfl) rfl ?_
              refine JL.val (yl_len_slice Go.Proofs.Try.underlying22 rfl) rfl ?_
              refine JL.val (yl_gtr rfl rfl) rfl ?_
              refine JL.nil ?_
              refine JE.weak (env' := [(0, ptrAt (some ⟨gb_0, 0, none⟩) 0), (2, ptrAt (some ⟨g1, 0, none⟩) 0), (3, ptrAt (some ⟨g7, 0, none⟩) 0), (26, .bool (decide (0 < (x3.1.Breaks.length : Int))))]) (es' := [boxO 162 gb_0 [.slice a_0_0 q0.code.length c_0_0, .int .i64 x9.2.1, .int .u64 x9.2.2], boxO 28 g1 [.int .i64 0, .int .i64 0, .slice none 0 0], boxO 28 g7 [.int .i64 x3.1.W, .int .i64 x3.1.H, .slice a4 x3.1.Breaks.length cp5], rowT 2 eI64 a4 x3.1.Breaks.length cp5 x3.1.Breaks]) [3, 0, 1, 2] ?_ ⟨rfl, rfl, rfl, rfl, trivial⟩ (by decide) rfl
              refine JE.code ?_
              obtain ⟨j27, hj27, hresj27⟩ := bind_some hres
              refine JX.cut (K := fun J => ∀ (l28 : j27.2.length = x3.1.Breaks.length), J [(2, ptrAt (some ⟨g1, 0, none⟩) 0), (3, ptrAt (some ⟨g7, 0, none⟩) 0)] [boxO 162 gb_0 [.slice a_0_0 q0.code.length c_0_0, .int .i64 j27.1.1, .int .u64 j27.1.2], boxO 28 g1 [.int .i64 0, .int .i64 0, .slice none 0 0], boxO 28 g7 [.int .i64 x3.1.W, .int .i64 x3.1.H, .slice a4 x3.1.Breaks.length cp5], rowT 2 eI64 a4 x3.1.Breaks.length cp5 j27.2]) ?_ ?_
              · intro l28
                have hres := hresj27
                have hj := Option.some.inj hres
                exact JE.weak [0, 1, 2, 3] (K a4 cp5) ⟨(by subst hj; rfl), (by subst hj; rfl), trivial⟩ (by decide) (by subst hj; first | rfl | (simp only [List.length_set, l28]; rfl) | simp only [List.length_set, l28])
              · intro K
                rcases cond_some hj27 with ⟨hb, hres⟩ | ⟨hb, hres⟩
                · refine JX.condT rfl hb ?_
                  refine JX.drawH [(0, .pure), (1, .read), (2, .pure), (3, .pure), (4, .read), (5, .pure), (7, .pure), (0, .tree (.alt 6 (.alt 8 .done .nil) (.alt 8 (.alt 6 .done .nil) .nil))), (9, .must), (10, .must), (11, .must)] [6, 9, 11] [0, 3] [1, 2] [boxO 162 gb_0 [.slice a_0_0 q0.code.length c_0_0, .int .i64 x9.2.1, .int .u64 x9.2.2], rowT 2 eI64 a4 x3.1.Breaks.length cp5 x3.1.Breaks] [boxO 28 g1 [.int .i64 0, .int .i64 0, .slice none 0 0], boxO 28 g7 [.int .i64 x3.1.W, .int .i64 x3.1.H, .slice a4 x3.1.Breaks.length cp5]] mixedP (by kernel_rfl) (by kernel_rfl) (by decide) rfl rfl ?_
                  intro wrr29 Nr29 hFr29
                  refine JH.pure rfl (yl_fieldAt (a := some _) Go.Proofs.Try.underlying28 rfl i22 i22n rfl rfl) rfl ?_
                  refine JH.read rfl (yl_load1 Go.Proofs.Try.underlying22 rfl rfl (fun w hw => hFr29.box 2 rfl rfl hw) rfl) rfl ?_
                  refine JH.pure rfl (yl_move rfl) rfl ?_
                  refine JH.pure rfl (yl_fieldAt (a := some _) Go.Proofs.Try.underlying28 rfl i22 i22n rfl rfl) rfl ?_
                  refine JH.read rfl (yl_load1 Go.Proofs.Try.underlying22 rfl rfl (fun w hw => hFr29.box 2 rfl rfl hw) rfl) rfl ?_
                  refine JH.pure rfl (yl_len_slice Go.Proofs.Try.underlying22 rfl) rfl ?_
                  refine JH.pure rfl (yl_move rfl) rfl ?_
                  obtain ⟨x30, hx30, hres⟩ := bind_some hres
                  refine JH.cutS (K := fun J => ∀ (a330 : Option Addr), J [(2, ptrAt (some ⟨g1, 0, none⟩) 0), (3, ptrAt (some ⟨g7, 0, none⟩) 0), (28, .slice a4 x3.1.Breaks.length cp5), (33, .int .i64 x30.1), (34, ptrAt (some ⟨gb_0, 0, none⟩) 0), (35, .slice a330 3 3)] [rowT 2 eI64 a4 x3.1.Breaks.length cp5 x3.1.Breaks, boxO 162 gb_0 [.slice a_0_0 q0.code.length c_0_0, .int .i64 x30.2.1, .int .u64 x30.2.2], rowT 2 eI64 a330 3 3 [(-1), 2, 3]]) false 1 ?_ ?_
                  · intro a330
                    obtain ⟨x630, hx630, hres⟩ := bind_some hres
                    refine JH.must rfl (ef_callms (caps := []) (vs := [ptrAt (some ⟨gb_0, 0, none⟩) 0, .slice a330 3 3]) (T := T124 gb_0 a_0_0 q0.code.length c_0_0 x630) [1] [0, 2] [boxO 162 gb_0 [.slice a_0_0 q0.code.length c_0_0, .int .i64 x30.2.1, .int .u64 x30.2.2]] [rowT 2 eI64 a4 x3.1.Breaks.length cp5 x3.1.Breaks, rowT 2 eI64 a330 3 3 [(-1), 2, 3]] rfl Go.Proofs.Try.func124 rfl (by kernel_rfl) rfl (by decide) rfl rfl (fun w N hF hS => c124 (q0 := Sl00Src.mk q0.code x30.2.1 x30.2.2) (RdS.pass hF (RdS.pass hFr29 g_0_0)) rfl k_0_0 (RdS.row hF 2 rfl rfl) rfl (ln_row hF.cl 2 rfl) hS hx630)) rfl rfl ?_
                    rintro _ _ ⟨_, _, ⟨rfl, rfl, rfl⟩, rfl⟩
                    obtain ⟨x631, hx631, hres⟩ := bind_some hres
                    refine JH.mval rfl (yl_idxQ Go.Proofs.Try.underlying22 i2 i2s rfl rfl hx631 rfl (rd_row hFr29.cl 3 rfl) rfl) rfl ?_
                    refine JH.must rfl (ef_storeT (ix := 0) (u := x630.1) i2 i2s rfl rfl rfl hx631 rfl) rfl rfl ?_
                    rintro _ _ rfl
                    refine JH.nil ?_
                    refine JE.weak (env' := [(2, ptrAt (some ⟨g1, 0, none⟩) 0), (3, ptrAt (some ⟨g7, 0, none⟩) 0)]) (es' := [boxO 162 gb_0 [.slice a_0_0 q0.code.length c_0_0, .int .i64 x630.2.1, .int .u64 x630.2.2], boxO 28 g1 [.int .i64 0, .int .i64 0, .slice none 0 0], boxO 28 g7 [.int .i64 x3.1.W, .int .i64 x3.1.H, .slice a4 x3.1.Breaks.length cp5], rowT 2 eI64 a4 x3.1.Breaks.length cp5 (x3.1.Breaks.set (x30.1).toNat x630.1)]) [4, 0, 1, 2] ?_ ⟨rfl, rfl, trivial⟩ (by decide) rfl
                    have hj := Option.some.inj hres
                    exact JE.weak [0, 1, 2, 3] (K (by subst hj; exact List.length_set)) ⟨(by subst hj; rfl), (by subst hj; rfl), trivial⟩ (by decide) (by subst hj; rfl)
                  · intro K
                    refine JH.talt ?_ ?_
                    · refine JH.must rfl (ef_callms (caps := []) (vs := [ptrAt (some ⟨gb_0, 0, none⟩) 0, .int .i64 (x3.1.Breaks.length : Int)]) (T := T113 gb_0 a_0_0 q0.code.length c_0_0 x30) [0] [1] [boxO 162 gb_0 [.slice a_0_0 q0.code.length c_0_0, .int .i64 x9.2.1, .int .u64 x9.2.2]] [rowT 2 eI64 a4 x3.1.Breaks.length cp5 x3.1.Breaks] rfl Go.Proofs.Try.func113 rfl (by kernel_rfl) rfl (by decide) rfl rfl (fun w N hF hS => c113 (q0 := Sl00Src.mk q0.code x9.2.1 x9.2.2) (RdS.pass hF (RdS.pass hFr29 g_0_0)) rfl k_0_0 hS hx30)) rfl rfl ?_
                      rintro _ _ ⟨_, _, ⟨rfl, rfl, rfl⟩, rfl⟩
                      refine JH.talt ?_ ?_
                      · refine JH.must rfl (ef_buildSlice (E := 2) (k := eI64.k) (us := eI64.fl [(-1), 2, 3]) rfl (fun w => bsl22_3 (-1) 2 3 w) rfl (by decide)) rfl rfl ?_
                        rintro _ _ ⟨a330, rfl, rfl⟩
                        refine JH.tdone ?_
                        exact JH.weak [0, 1, 2] (K a330) ⟨rfl, rfl, rfl, rfl, rfl, rfl, trivial⟩ (by decide) rfl
                      · exact JH.tnil
                    · refine JH.talt ?_ ?_
                      · refine JH.must rfl (ef_buildSlice (E := 2) (k := eI64.k) (us := eI64.fl [(-1), 2, 3]) rfl (fun w => bsl22_3 (-1) 2 3 w) rfl (by decide)) rfl rfl ?_
                        rintro _ _ ⟨a330, rfl, rfl⟩
                        refine JH.talt ?_ ?_
                        · refine JH.must rfl (ef_callms (caps := []) (vs := [ptrAt (some ⟨gb_0, 0, none⟩) 0, .int .i64 (x3.1.Breaks.length : Int)]) (T := T113 gb_0 a_0_0 q0.code.length c_0_0 x30) [0] [1, 2] [boxO 162 gb_0 [.slice a_0_0 q0.code.length c_0_0, .int .i64 x9.2.1, .int .u64 x9.2.2]] [rowT 2 eI64 a4 x3.1.Breaks.length cp5 x3.1.Breaks, rowT 2 eI64 a330 3 3 [(-1), 2, 3]] rfl Go.Proofs.Try.func113 rfl (by kernel_rfl) rfl (by decide) rfl rfl (fun w N hF hS => c113 (q0 := Sl00Src.mk q0.code x9.2.1 x9.2.2) (RdS.pass hF (RdS.pass hFr29 g_0_0)) rfl k_0_0 hS hx30)) rfl rfl ?_
                          rintro _ _ ⟨_, _, ⟨rfl, rfl, rfl⟩, rfl⟩
                          refine JH.tdone ?_
                          exact JH.weak [0, 2, 1] (K a330) ⟨rfl, rfl, rfl, rfl, rfl, rfl, trivial⟩ (by decide) rfl
                        · exact JH.tnil
                      · exact JH.tnil
                · refine JX.condF rfl hb ?_
                  refine JX.skip ?_
                  have hj := Option.some.inj hres
                  exact JE.weak [0, 1, 2, 3] (K (by subst hj; exact rfl)) ⟨(by subst hj; rfl), (by subst hj; rfl), trivial⟩ (by decide) (by subst hj; rfl)
            · refine JX.condF rfl hb ?_
              refine JX.seq ?_
              refine JX.region ?_
              refine JL.val (yl_eql rfl rfl) rfl ?_
              refine JL.val (yl_assign rfl) rfl ?_
              refine JL.nil ?_
              refine JE.code ?_
              obtain ⟨j632, hj632, hresj632⟩ := bind_some hres
              refine JX.cut (K := fun J => ∀ (a633 : Option Addr) (cp634 : Nat), J [(2, ptrAt (some ⟨g1, 0, none⟩) 0), (3, ptrAt (some ⟨g7, 0, none⟩) 0)] [boxO 162 gb_0 [.slice a_0_0 q0.code.length c_0_0, .int .i64 x9.2.1, .int .u64 x9.2.2], boxO 28 g1 [.int .i64 0, .int .i64 0, .slice none 0 0], boxO 28 g7 [.int .i64 j632.1.1, .int .i64 j632.1.2, .slice a633 j632.2.length cp634], rowT 2 eI64 a633 j632.2.length cp634 j632.2]) ?_ ?_
              · intro a633 cp634
                have hres := hresj632
                have hj := Option.some.inj hres
                exact JE.weak [0, 1, 2, 3] (K a633 cp634) ⟨(by subst hj; rfl), (by subst hj; rfl), trivial⟩ (by decide) (by subst hj; rfl)
              · intro K
                rcases cond_some hj632 with ⟨hb, hres⟩ | ⟨hb, hres⟩
                · refine JX.condT rfl hb ?_
                  refine JX.region ?_
                  obtain ⟨x635, hx635, hres⟩ := bind_some hres
                  refine JL.eff (ef_call (T := T163 x635) Go.Proofs.Try.func163 rfl (by kernel_rfl) rfl (fun w hC => c163  hx635)) rfl ?_
                  rintro _ _ ⟨_, ⟨a636, _, cp637, rfl, rfl, rfl⟩, rfl⟩
                  refine JL.eff (ef_store_box (i := 1) (v := .agg #[.int .i64 x635.W, .int .i64 x635.H, .slice a636 x635.Breaks.length cp637]) i28 rfl rfl rfl (i28s).symm (Nat.le_of_ble_eq_true rfl) (by simp [Value.cells, Value.oneCell'])) rfl ?_
                  rintro _ _ rfl
                  refine JL.nil ?_
                  refine JE.weak (env' := [(2, ptrAt (some ⟨g1, 0, none⟩) 0), (3, ptrAt (some ⟨g7, 0, none⟩) 0)]) (es' := [boxO 162 gb_0 [.slice a_0_0 q0.code.length c_0_0, .int .i64 x9.2.1, .int .u64 x9.2.2], boxO 28 g1 [.int .i64 0, .int .i64 0, .slice none 0 0], boxO 28 g7 [.int .i64 x635.W, .int .i64 x635.H, .slice a636 x635.Breaks.length cp637], rowT 2 eI64 a636 x635.Breaks.length cp637 x635.Breaks]) [3, 0, 1, 4] ?_ ⟨rfl, rfl, trivial⟩ (by decide) rfl
                  have hj := Option.some.inj hres
                  exact JE.weak [0, 1, 2, 3] (K a636 cp637) ⟨(by subst hj; rfl), (by subst hj; rfl), trivial⟩ (by decide) (by subst hj; rfl)
                · refine JX.condF rfl hb ?_
                  refine JX.skip ?_
                  have hj := Option.some.inj hres
                  exact JE.weak [3, 0, 1, 2] (K a4 cp5) ⟨(by subst hj; rfl), (by subst hj; rfl), trivial⟩ (by decide) (by subst hj; rfl)

/- spec.l00From -/
def sh109 (q0 : List Int) : Option (Sl00Src) := some (Sl00Src.mk q0 0 0)
def T109 (a_0 : Option Addr) (n_0 c_0 : Nat) (r : Sl00Src) (v : Value) (rs : List Own) : Prop := ∃ (gr0 : Nat), v = rets [ptrAt (some ⟨gr0, 0, none⟩) 0] ∧ rs = [boxO 162 gr0 [.slice a_0 n_0 c_0, .int .i64 r.at_, .int .u64 r.seed]]
set_option maxRecDepth 100000 in
theorem c109 {w : World} {q0 : List Int} {a_0 : Option Addr} {n_0 c_0 : Nat} (g_0 : Rd w a_0 (eU8.fl q0)) (l_0 : q0.length = n_0) (k_0 : n_0 ≤ c_0) {r : Sl00Src} (hres : sh109 q0 = some r) : Calls Go.Proofs.Try.prog 109 [.slice a_0 n_0 c_0].toArray w (Ret w (T109 a_0 n_0 c_0 r)) := by
  subst l_0
  unfold sh109 at hres
  refine calls_of (n := 6) (M := []) (es := []) Go.Proofs.Try.func109 rfl rfl rfl (Sep.nil _ _ _) ?_
  refine JX.seq ?_
  refine JX.region ?_
  refine JL.val (yl_assign rfl) rfl ?_
  refine JL.nil ?_
  refine JE.code ?_
  refine JX.seq ?_
  refine JX.region ?_
  refine JL.val (yl_move rfl) rfl ?_
  refine JL.val (yl_build rfl (fun w => bld162_0 a_0 q0.length c_0 w)) rfl ?_
  refine JL.eff (ef_box rfl rfl) rfl ?_
  rintro _ _ ⟨g1, rfl, rfl⟩
  refine JL.val (yl_assign rfl) rfl ?_
  refine JL.nil ?_
  refine JE.weak (env' := [(2, ptrAt (some ⟨g1, 0, none⟩) 0)]) (es' := [boxO 162 g1 [.slice a_0 q0.length c_0, .int .i64 0, .int .u64 0]]) [0] ?_ ⟨rfl, trivial⟩ (by decide) rfl
  refine JE.code ?_
  refine JX.ret ?_
  obtain rfl := Option.some.inj hres
  refine JE.ret (rs := [.tmp 2]) (vs := [ptrAt (some ⟨g1, 0, none⟩) 0]) rfl ⟨rfl, trivial⟩ ?_
  exact fun w' hb hs => ⟨_, _, ⟨g1, rfl, rfl⟩, rfl, hb, hs.sel [0] _ (by decide) rfl⟩

/- spec.DrawRegionsOf -/
def sh46 (q0 : List Int) : Option (SPanel) := Option.bind (sh109 q0) fun x3 => Option.bind (sh108 (Sl00Src.mk q0 x3.at_ x3.seed)) fun x6 => some x6.1
def T46 (r : SPanel) (v : Value) (rs : List Own) : Prop := ∃ (a0_2 : Option Addr) (n0_2 c0_2 : Nat), r.Breaks.length = n0_2 ∧ v = rets [.agg #[.int .i64 r.W, .int .i64 r.H, .slice a0_2 n0_2 c0_2]] ∧ rs = [rowT 2 eI64 a0_2 n0_2 c0_2 r.Breaks]
set_option maxRecDepth 100000 in
theorem c46 {w : World} {q0 : List Int} {a_0 : Option Addr} {n_0 c_0 : Nat} (g_0 : Rd w a_0 (eU8.fl q0)) (l_0 : q0.length = n_0) (k_0 : n_0 ≤ c_0) {r : SPanel} (hres : sh46 q0 = some r) : Calls Go.Proofs.Try.prog 46 [.slice a_0 n_0 c_0].toArray w (Ret w (T46 r)) := by
  subst l_0
  unfold sh46 at hres
  refine calls_of (n := 6) (M := []) (es := []) Go.Proofs.Try.func46 rfl rfl rfl (Sep.nil _ _ _) ?_
  refine JX.seq ?_
  refine JX.region ?_
  refine JL.eff (ef_alloc i28 i28z rfl) rfl ?_
  rintro _ _ ⟨g1, rfl, rfl⟩
  refine JL.nil ?_
  refine JE.code ?_
  refine JX.seq ?_
  refine JX.region ?_
  refine JL.val (yl_move rfl) rfl ?_
  obtain ⟨x3, hx3, hres⟩ := bind_some hres
  refine JL.eff (ef_call (T := T109 a_0 q0.length c_0 x3) Go.Proofs.Try.func109 rfl (by kernel_rfl) rfl (fun w hC => c109 (rd_arg g_0 hC) rfl k_0 hx3)) rfl ?_
  rintro _ _ ⟨_, ⟨g4, rfl, rfl⟩, rfl⟩
  obtain ⟨x6, hx6, hres⟩ := bind_some hres
  refine JL.eff (ef_callms (caps := []) (vs := [ptrAt (some ⟨g4, 0, none⟩) 0]) (T := T108 g4 a_0 q0.length c_0 x6) [1] [0] [boxO 162 g4 [.slice a_0 q0.length c_0, .int .i64 x3.at_, .int .u64 x3.seed]] [boxO 28 g1 [.int .i64 0, .int .i64 0, .slice none 0 0]] rfl Go.Proofs.Try.func108 rfl (by kernel_rfl) rfl (by decide) rfl rfl (fun w N hF hS => c108 (q0 := Sl00Src.mk q0 x3.at_ x3.seed) (RdS.pass0 hF g_0) rfl k_0 hS hx6)) rfl ?_
  rintro _ _ ⟨_, _, ⟨rfl, a7, _, cp8, rfl, rfl, rfl⟩, rfl⟩
  refine JL.eff (ef_store_box (i := 0) (v := .agg #[.int .i64 x6.1.W, .int .i64 x6.1.H, .slice a7 x6.1.Breaks.length cp8]) i28 rfl rfl rfl (i28s).symm (Nat.le_of_ble_eq_true rfl) (by simp [Value.cells, Value.oneCell'])) rfl ?_
  rintro _ _ rfl
  refine JL.nil ?_
  refine JE.weak (env' := [(2, ptrAt (some ⟨g1, 0, none⟩) 0)]) (es' := [boxO 28 g1 [.int .i64 x6.1.W, .int .i64 x6.1.H, .slice a7 x6.1.Breaks.length cp8], rowT 2 eI64 a7 x6.1.Breaks.length cp8 x6.1.Breaks]) [0, 2] ?_ ⟨rfl, trivial⟩ (by decide) rfl
  refine JE.code ?_
  refine JX.ret ?_
  obtain rfl := Option.some.inj hres
  refine JE.ret (rs := [.cell 2 28]) (vs := [.agg #[.int .i64 x6.1.W, .int .i64 x6.1.H, .slice a7 x6.1.Breaks.length cp8]]) rfl ⟨rv_box 0 rfl rfl Go.Proofs.Try.underlying28 rfl i28 (i28s).symm, trivial⟩ ?_
  exact fun w' hb hs => ⟨_, _, ⟨a7, x6.1.Breaks.length, cp8, rfl, rfl, rfl⟩, rfl, hb, hs.sel [1] _ (by decide) rfl⟩

/- (*spec.l00Src).one -/
def sh123 (q0 : Sl00Src) (q1 : Int) : Option (Bool × Int × Int) := Option.bind (sh113 q0 q1) fun x1 => some (x1.1 == 0, x1.2.1, x1.2.2)
def T123 (gb_0 : Nat) (a_0_0 : Option Addr) (n_0_0 c_0_0 : Nat) (r : Bool × Int × Int) (v : Value) (es' rs : List Own) : Prop := es' = [boxO 162 gb_0 [.slice a_0_0 n_0_0 c_0_0, .int .i64 r.2.1, .int .u64 r.2.2]] ∧ v = rets [.bool r.1] ∧ rs = []
set_option maxRecDepth 100000 in
theorem c123 {w : World} {M : List Nat} {q0 : Sl00Src} {gb_0 : Nat} {a_0_0 : Option Addr} {n_0_0 c_0_0 : Nat} (g_0_0 : RdS M w a_0_0 (eU8.fl q0.code)) (l_0_0 : q0.code.length = n_0_0) (k_0_0 : n_0_0 ≤ c_0_0) {q1 : Int} (gs : Sep w.heap.size M w [boxO 162 gb_0 [.slice a_0_0 n_0_0 c_0_0, .int .i64 q0.at_, .int .u64 q0.seed]]) {r : Bool × Int × Int} (hres : sh123 q0 q1 = some r) : Calls Go.Proofs.Try.prog 123 [ptrAt (some ⟨gb_0, 0, none⟩) 0, .int .i64 q1].toArray w (RetMs w M (T123 gb_0 a_0_0 n_0_0 c_0_0 r)) := by
  subst l_0_0
  unfold sh123 at hres
  refine calls_of (n := 9) (M := M) (es := [boxO 162 gb_0 [.slice a_0_0 q0.code.length c_0_0, .int .i64 q0.at_, .int .u64 q0.seed]]) Go.Proofs.Try.func123 rfl rfl rfl gs ?_
  refine JX.seq ?_
  refine JX.region ?_
  refine JL.val (yl_assign rfl) rfl ?_
  refine JL.nil ?_
  refine JE.code ?_
  refine JX.seq ?_
  refine JX.region ?_
  refine JL.val (yl_move rfl) rfl ?_
  refine JL.val (yl_move rfl) rfl ?_
  obtain ⟨x1, hx1, hres⟩ := bind_some hres
  refine JL.eff (ef_callms (caps := []) (vs := [ptrAt (some ⟨gb_0, 0, none⟩) 0, .int .i64 q1]) (T := T113 gb_0 a_0_0 q0.code.length c_0_0 x1) [0] [] [boxO 162 gb_0 [.slice a_0_0 q0.code.length c_0_0, .int .i64 q0.at_, .int .u64 q0.seed]] [] rfl Go.Proofs.Try.func113 rfl (by kernel_rfl) rfl (by decide) rfl rfl (fun w N hF hS => c113 (q0 := q0) (RdS.pass hF g_0_0) rfl k_0_0 hS hx1)) rfl ?_
  rintro _ _ ⟨_, _, ⟨rfl, rfl, rfl⟩, rfl⟩
  refine JL.val (yl_eql rfl rfl) rfl ?_
  refine JL.val (yl_assign rfl) rfl ?_
  refine JL.nil ?_
  refine JE.weak (env' := [(4, .bool (x1.1 == 0))]) (es' := [boxO 162 gb_0 [.slice a_0_0 q0.code.length c_0_0, .int .i64 x1.2.1, .int .u64 x1.2.2]]) [0] ?_ ⟨rfl, trivial⟩ (by decide) rfl
  refine JE.code ?_
  refine JX.ret ?_
  obtain rfl := Option.some.inj hres
  refine JE.ret (rs := [.tmp 4]) (vs := [.bool (x1.1 == 0)]) rfl ⟨rfl, trivial⟩ ?_
  exact fun w' hb hs => ⟨_, _, _, ⟨rfl, rfl, rfl⟩, rfl, hb, hs.sel [0] _ (by decide) rfl⟩

/- spec.l21Place -/
def sh110 (q0 : Sl00Src) (q1 : SPanel) : Option (SPoint × Int × Int) := Option.bind (sh113 q0 10) fun x3 => Option.bind (sh113 (Sl00Src.mk q0.code x3.2.1 x3.2.2) 5) fun x4 => Option.bind (sh123 (Sl00Src.mk q0.code x4.2.1 x4.2.2) 8) fun x7 => Option.bind (bif x7.1 then (some (SPoint.mk x3.1 (w64 ((w64 ((w64 (x4.1 * 2)) + (x3.1.tmod 2))) + 1)))) else (some (SPoint.mk x3.1 (w64 ((w64 (x4.1 * 2)) + (x3.1.tmod 2)))))) fun j8 => (Option.bind (sh123 (Sl00Src.mk q0.code x7.2.1 x7.2.2) 16) fun x9 => Option.bind (bif x9.1 then (Option.bind (sh124 (Sl00Src.mk q0.code x9.2.1 x9.2.2) [(-2), (-9223372036854775808), 9223372036854775807]) fun x13 => some ((x13.2.1, x13.2.2), SPoint.mk x13.1 j8.Y)) else (some ((x9.2.1, x9.2.2), j8))) fun j10 => (some (j10.2, j10.1.1, j10.1.2)))
def T110 (gb_0 : Nat) (a_0_0 : Option Addr) (n_0_0 c_0_0 : Nat) (r : SPoint × Int × Int) (v : Value) (es' rs : List Own) : Prop := es' = [boxO 162 gb_0 [.slice a_0_0 n_0_0 c_0_0, .int .i64 r.2.1, .int .u64 r.2.2]] ∧ v = rets [.agg #[.int .i64 r.1.X, .int .i64 r.1.Y]] ∧ rs = []
set_option maxRecDepth 100000 in
theorem c110 {w : World} {M : List Nat} {q0 : Sl00Src} {gb_0 : Nat} {a_0_0 : Option Addr} {n_0_0 c_0_0 : Nat} (g_0_0 : RdS M w a_0_0 (eU8.fl q0.code)) (l_0_0 : q0.code.length = n_0_0) (k_0_0 : n_0_0 ≤ c_0_0) {q1 : SPanel} {a_1 : Option Addr} {n_1 : Nat} {a_1_2 : Option Addr} {n_1_2 c_1_2 : Nat} (g_1 : RdAtS M w a_1 n_1 [.int .i64 q1.W, .int .i64 q1.H, .slice a_1_2 n_1_2 c_1_2]) (g_1_2 : RdS M w a_1_2 (eI64.fl q1.Breaks)) (l_1_2 : q1.Breaks.length = n_1_2) (k_1_2 : n_1_2 ≤ c_1_2) (gs : Sep w.heap.size M w [boxO 162 gb_0 [.slice a_0_0 n_0_0 c_0_0, .int .i64 q0.at_, .int .u64 q0.seed]]) {r : SPoint × Int × Int} (hres : sh110 q0 q1 = some r) : Calls Go.Proofs.Try.prog 110 [ptrAt (some ⟨gb_0, 0, none⟩) 0, ptrAt a_1 n_1].toArray w (RetMs w M (T110 gb_0 a_0_0 n_0_0 c_0_0 r)) := by
  subst l_0_0
  subst l_1_2
  obtain ⟨b_1, e_1, g_1⟩ := g_1.norm0
  rw [e_1]
  unfold sh110 at hres
  refine calls_of (n := 30) (M := M) (es := [boxO 162 gb_0 [.slice a_0_0 q0.code.length c_0_0, .int .i64 q0.at_, .int .u64 q0.seed]]) Go.Proofs.Try.func110 rfl rfl rfl gs ?_
  refine JX.seq ?_
  refine JX.region ?_
  refine JL.eff (ef_alloc i35 i35z rfl) rfl ?_
  rintro _ _ ⟨g1, rfl, rfl⟩
  refine JL.nil ?_
  refine JE.code ?_
  refine JX.seq ?_
  refine JX.region ?_
  refine JL.val (yl_move rfl) rfl ?_
  obtain ⟨x3, hx3, hres⟩ := bind_some hres
  refine JL.eff (ef_callms (caps := []) (vs := [ptrAt (some ⟨gb_0, 0, none⟩) 0, .int .i64 10]) (T := T113 gb_0 a_0_0 q0.code.length c_0_0 x3) [0] [1] [boxO 162 gb_0 [.slice a_0_0 q0.code.length c_0_0, .int .i64 q0.at_, .int .u64 q0.seed]] [boxO 35 g1 [.int .i64 0, .int .i64 0]] rfl Go.Proofs.Try.func113 rfl (by kernel_rfl) rfl (by decide) rfl rfl (fun w N hF hS => c113 (q0 := q0) (RdS.pass hF g_0_0) rfl k_0_0 hS hx3)) rfl ?_
  rintro _ _ ⟨_, _, ⟨rfl, rfl, rfl⟩, rfl⟩
  refine JL.val (yl_assign rfl) rfl ?_
  refine JL.nil ?_
  refine JE.code ?_
  refine JX.seq ?_
  refine JX.region ?_
  refine JL.val (yl_move rfl) rfl ?_
  refine JL.val (yl_move rfl) rfl ?_
  obtain ⟨x4, hx4, hres⟩ := bind_some hres
  refine JL.eff (ef_callms (caps := []) (vs := [ptrAt (some ⟨gb_0, 0, none⟩) 0, .int .i64 5]) (T := T113 gb_0 a_0_0 q0.code.length c_0_0 x4) [1] [0] [boxO 162 gb_0 [.slice a_0_0 q0.code.length c_0_0, .int .i64 x3.2.1, .int .u64 x3.2.2]] [boxO 35 g1 [.int .i64 0, .int .i64 0]] rfl Go.Proofs.Try.func113 rfl (by kernel_rfl) rfl (by decide) rfl rfl (fun w N hF hS => c113 (q0 := Sl00Src.mk q0.code x3.2.1 x3.2.2) (RdS.pass hF g_0_0) rfl k_0_0 hS hx4)) rfl ?_
  rintro _ _ ⟨_, _, ⟨rfl, rfl, rfl⟩, rfl⟩
  refine JL.val (yl_mul rfl rfl) rfl ?_
  refine JL.val (yl_move rfl) rfl ?_
  refine JL.val (yl_rem rfl rfl (by decide)) rfl ?_
  refine JL.val (yl_add rfl rfl) rfl ?_
  refine JL.val (yl_build rfl (fun w => bld35_0_1 x3.1 (w64 ((w64 (x4.1 * 2)) + (x3.1.tmod 2))) w)) rfl ?_
  refine JL.eff (ef_alloc i35 i35z rfl) rfl ?_
  rintro _ _ ⟨g5, rfl, rfl⟩
  refine JL.eff (ef_store_box (i := 2) (v := .agg #[.int .i64 x3.1, .int .i64 (w64 ((w64 (x4.1 * 2)) + (x3.1.tmod 2)))]) i35 rfl rfl rfl (i35s).symm (Nat.le_of_ble_eq_true rfl) (by simp [Value.cells, Value.oneCell'])) rfl ?_
  rintro _ _ rfl
  refine JL.nil ?_
  refine JE.weak (env' := [(0, ptrAt (some ⟨gb_0, 0, none⟩) 0), (4, ptrAt (some ⟨g1, 0, none⟩) 0), (6, ptrAt (some ⟨g5, 0, none⟩) 0)]) (es' := [boxO 162 gb_0 [.slice a_0_0 q0.code.length c_0_0, .int .i64 x4.2.1, .int .u64 x4.2.2], boxO 35 g1 [.int .i64 0, .int .i64 0], boxO 35 g5 [.int .i64 x3.1, .int .i64 (w64 ((w64 (x4.1 * 2)) + (x3.1.tmod 2)))]]) [1, 0, 2] ?_ ⟨rfl, rfl, rfl, trivial⟩ (by decide) rfl
  refine JE.code ?_
  refine JX.seq ?_
  refine JX.seq ?_
  refine JX.region ?_
  refine JL.val (yl_move rfl) rfl ?_
  obtain ⟨x7, hx7, hres⟩ := bind_some hres
  refine JL.eff (ef_callms (caps := []) (vs := [ptrAt (some ⟨gb_0, 0, none⟩) 0, .int .i64 8]) (T := T123 gb_0 a_0_0 q0.code.length c_0_0 x7) [0] [1, 2] [boxO 162 gb_0 [.slice a_0_0 q0.code.length c_0_0, .int .i64 x4.2.1, .int .u64 x4.2.2]] [boxO 35 g1 [.int .i64 0, .int .i64 0], boxO 35 g5 [.int .i64 x3.1, .int .i64 (w64 ((w64 (x4.1 * 2)) + (x3.1.tmod 2)))]] rfl Go.Proofs.Try.func123 rfl (by kernel_rfl) rfl (by decide) rfl rfl (fun w N hF hS => c123 (q0 := Sl00Src.mk q0.code x4.2.1 x4.2.2) (RdS.pass hF g_0_0) rfl k_0_0 hS hx7)) rfl ?_
  rintro _ _ ⟨_, _, ⟨rfl, rfl, rfl⟩, rfl⟩
  refine JL.nil ?_
  refine JE.code ?_
  obtain ⟨j8, hj8, hresj8⟩ := bind_some hres
  refine JX.cut (K := fun J => J [(0, ptrAt (some ⟨gb_0, 0, none⟩) 0), (4, ptrAt (some ⟨g1, 0, none⟩) 0), (6, ptrAt (some ⟨g5, 0, none⟩) 0)] [boxO 162 gb_0 [.slice a_0_0 q0.code.length c_0_0, .int .i64 x7.2.1, .int .u64 x7.2.2], boxO 35 g1 [.int .i64 0, .int .i64 0], boxO 35 g5 [.int .i64 j8.X, .int .i64 j8.Y]]) ?_ ?_
  · have hres := hresj8
    refine JE.code ?_
    refine JX.seq ?_
    refine JX.seq ?_
    refine JX.region ?_
    refine JL.val (yl_move rfl) rfl ?_
    obtain ⟨x9, hx9, hres⟩ := bind_some hres
    refine JL.eff (ef_callms (caps := []) (vs := [ptrAt (some ⟨gb_0, 0, none⟩) 0, .int .i64 16]) (T := T123 gb_0 a_0_0 q0.code.length c_0_0 x9) [0] [1, 2] [boxO 162 gb_0 [.slice a_0_0 q0.code.length c_0_0, .int .i64 x7.2.1, .int .u64 x7.2.2]] [boxO 35 g1 [.int .i64 0, .int .i64 0], boxO 35 g5 [.int .i64 j8.X, .int .i64 j8.Y]] rfl Go.Proofs.Try.func123 rfl (by kernel_rfl) rfl (by decide) rfl rfl (fun w N hF hS => c123 (q0 := Sl00Src.mk q0.code x7.2.1 x7.2.2) (RdS.pass hF g_0_0) rfl k_0_0 hS hx9)) rfl ?_
    rintro _ _ ⟨_, _, ⟨rfl, rfl, rfl⟩, rfl⟩
    refine JL.nil ?_
    refine JE.code ?_
    obtain ⟨j10, hj10, hresj10⟩ := bind_some hres
    refine JX.cut (K := fun J => J [(4, ptrAt (some ⟨g1, 0, none⟩) 0), (6, ptrAt (some ⟨g5, 0, none⟩) 0)] [boxO 162 gb_0 [.slice a_0_0 q0.code.length c_0_0, .int .i64 j10.1.1, .int .u64 j10.1.2], boxO 35 g1 [.int .i64 0, .int .i64 0], boxO 35 g5 [.int .i64 j10.2.X, .int .i64 j10.2.Y]]) ?_ ?_
    · have hres := hresj10
      refine JE.code ?_
      refine JX.seq ?_
      refine JX.region ?_
      refine JL.val (yl_loadn Go.Proofs.Try.underlying35 rfl i35 rfl (fun w hC => rd_box hC 2 rfl) rfl (i35s).symm i35p) rfl ?_
      refine JL.eff (ef_store_box (i := 1) (v := .agg #[.int .i64 j10.2.X, .int .i64 j10.2.Y]) i35 rfl rfl rfl (i35s).symm (Nat.le_of_ble_eq_true rfl) (by simp [Value.cells, Value.oneCell'])) rfl ?_
      rintro _ _ rfl
      refine JL.nil ?_
      refine JE.weak (env' := [(4, ptrAt (some ⟨g1, 0, none⟩) 0)]) (es' := [boxO 162 gb_0 [.slice a_0_0 q0.code.length c_0_0, .int .i64 j10.1.1, .int .u64 j10.1.2], boxO 35 g1 [.int .i64 j10.2.X, .int .i64 j10.2.Y]]) [0, 1] ?_ ⟨rfl, trivial⟩ (by decide) rfl
      refine JE.code ?_
      refine JX.ret ?_
      obtain rfl := Option.some.inj hres
      refine JE.ret (rs := [.cell 4 35]) (vs := [.agg #[.int .i64 j10.2.X, .int .i64 j10.2.Y]]) rfl ⟨rv_box 1 rfl rfl Go.Proofs.Try.underlying35 rfl i35 (i35s).symm, trivial⟩ ?_
      exact fun w' hb hs => ⟨_, _, _, ⟨rfl, rfl, rfl⟩, rfl, hb, hs.sel [0] _ (by decide) rfl⟩
    · intro K
      rcases cond_some hj10 with ⟨hb, hres⟩ | ⟨hb, hres⟩
      · refine JX.condT rfl hb ?_
        refine JX.region ?_
        refine JL.val (yl_move rfl) rfl ?_
        refine JL.eff (ef_buildSlice (E := 2) (k := eI64.k) (us := eI64.fl [(-2), (-9223372036854775808), 9223372036854775807]) rfl (fun w => bsl22_3 (-2) (-9223372036854775808) 9223372036854775807 w) rfl (by decide)) rfl ?_
        rintro _ _ ⟨a11, rfl, rfl⟩
        obtain ⟨x13, hx13, hres⟩ := bind_some hres
        refine JL.eff (ef_callms (caps := []) (vs := [ptrAt (some ⟨gb_0, 0, none⟩) 0, .slice a11 3 3]) (T := T124 gb_0 a_0_0 q0.code.length c_0_0 x13) [2] [0, 1, 3] [boxO 162 gb_0 [.slice a_0_0 q0.code.length c_0_0, .int .i64 x9.2.1, .int .u64 x9.2.2]] [boxO 35 g1 [.int .i64 0, .int .i64 0], boxO 35 g5 [.int .i64 j8.X, .int .i64 j8.Y], rowT 2 eI64 a11 3 3 [(-2), (-9223372036854775808), 9223372036854775807]] rfl Go.Proofs.Try.func124 rfl (by kernel_rfl) rfl (by decide) rfl rfl (fun w N hF hS => c124 (q0 := Sl00Src.mk q0.code x9.2.1 x9.2.2) (RdS.pass hF g_0_0) rfl k_0_0 (RdS.row hF 3 rfl rfl) rfl (ln_row hF.cl 3 rfl) hS hx13)) rfl ?_
        rintro _ _ ⟨_, _, ⟨rfl, rfl, rfl⟩, rfl⟩
        refine JL.val (yl_fieldAt (a := some _) Go.Proofs.Try.underlying35 rfl i2 i2n rfl rfl) rfl ?_
        refine JL.eff (ef_store_box (i := 1) (v := .int .i64 x13.1) i2 rfl rfl rfl (i2s).symm (Nat.le_of_ble_eq_true rfl) (by simp [Value.cells, Value.oneCell'])) rfl ?_
        rintro _ _ rfl
        refine JL.nil ?_
        refine JE.weak (env' := [(4, ptrAt (some ⟨g1, 0, none⟩) 0), (6, ptrAt (some ⟨g5, 0, none⟩) 0)]) (es' := [boxO 162 gb_0 [.slice a_0_0 q0.code.length c_0_0, .int .i64 x13.2.1, .int .u64 x13.2.2], boxO 35 g1 [.int .i64 0, .int .i64 0], boxO 35 g5 [.int .i64 x13.1, .int .i64 j8.Y]]) [3, 0, 1] ?_ ⟨rfl, rfl, trivial⟩ (by decide) rfl
        have hj := Option.some.inj hres
        exact JE.weak [0, 1, 2] (K) ⟨(by subst hj; rfl), (by subst hj; rfl), trivial⟩ (by decide) (by subst hj; rfl)
      · refine JX.condF rfl hb ?_
        refine JX.skip ?_
        have hj := Option.some.inj hres
        exact JE.weak [2, 0, 1] (K) ⟨(by subst hj; rfl), (by subst hj; rfl), trivial⟩ (by decide) (by subst hj; rfl)
  · intro K
    rcases cond_some hj8 with ⟨hb, hres⟩ | ⟨hb, hres⟩
    · refine JX.condT rfl hb ?_
      refine JX.region ?_
      refine JL.val (yl_fieldAt (a := some _) Go.Proofs.Try.underlying35 rfl i2 i2n rfl rfl) rfl ?_
      refine JL.val (yl_load1 Go.Proofs.Try.underlying2 rfl rfl (fun w hC => rd_box hC 1 rfl) rfl) rfl ?_
      refine JL.val (yl_add rfl rfl) rfl ?_
      refine JL.val (yl_fieldAt (a := some _) Go.Proofs.Try.underlying35 rfl i2 i2n rfl rfl) rfl ?_
      refine JL.eff (ef_store_box (i := 1) (v := .int .i64 (w64 ((w64 ((w64 (x4.1 * 2)) + (x3.1.tmod 2))) + 1))) i2 rfl rfl rfl (i2s).symm (Nat.le_of_ble_eq_true rfl) (by simp [Value.cells, Value.oneCell'])) rfl ?_
      rintro _ _ rfl
      refine JL.nil ?_
      refine JE.weak (env' := [(0, ptrAt (some ⟨gb_0, 0, none⟩) 0), (4, ptrAt (some ⟨g1, 0, none⟩) 0), (6, ptrAt (some ⟨g5, 0, none⟩) 0)]) (es' := [boxO 162 gb_0 [.slice a_0_0 q0.code.length c_0_0, .int .i64 x7.2.1, .int .u64 x7.2.2], boxO 35 g1 [.int .i64 0, .int .i64 0], boxO 35 g5 [.int .i64 x3.1, .int .i64 (w64 ((w64 ((w64 (x4.1 * 2)) + (x3.1.tmod 2))) + 1))]]) [2, 0, 1] ?_ ⟨rfl, rfl, rfl, trivial⟩ (by decide) rfl
      have hj := Option.some.inj hres
      exact JE.weak [0, 1, 2] (K) ⟨(by subst hj; rfl), (by subst hj; rfl), (by subst hj; rfl), trivial⟩ (by decide) (by subst hj; rfl)
    · refine JX.condF rfl hb ?_
      refine JX.skip ?_
      have hj := Option.some.inj hres
      exact JE.weak [2, 0, 1] (K) ⟨(by subst hj; rfl), (by subst hj; rfl), (by subst hj; rfl), trivial⟩ (by decide) (by subst hj; rfl)

/- spec.DrawRegionAt -/
def sh47 (q0 : List Int) : Option (SPanel × SPoint) := Option.bind (sh109 q0) fun x5 => Option.bind (sh108 (Sl00Src.mk q0 x5.at_ x5.seed)) fun x8 => Option.bind (sh110 (Sl00Src.mk q0 x8.2.1 x8.2.2) x8.1) fun x15 => some (x8.1, x15.1)
def T47 (r : SPanel × SPoint) (v : Value) (rs : List Own) : Prop := ∃ (a0_2 : Option Addr) (n0_2 c0_2 : Nat), r.1.Breaks.length = n0_2 ∧ v = rets [.agg #[.int .i64 r.1.W, .int .i64 r.1.H, .slice a0_2 n0_2 c0_2], .agg #[.int .i64 r.2.X, .int .i64 r.2.Y]] ∧ rs = [rowT 2 eI64 a0_2 n0_2 c0_2 r.1.Breaks]
set_option maxRecDepth 100000 in
theorem c47 {w : World} {q0 : List Int} {a_0 : Option Addr} {n_0 c_0 : Nat} (g_0 : Rd w a_0 (eU8.fl q0)) (l_0 : q0.length = n_0) (k_0 : n_0 ≤ c_0) {r : SPanel × SPoint} (hres : sh47 q0 = some r) : Calls Go.Proofs.Try.prog 47 [.slice a_0 n_0 c_0].toArray w (Ret w (T47 r)) := by
  subst l_0
  unfold sh47 at hres
  refine calls_of (n := 13) (M := []) (es := []) Go.Proofs.Try.func47 rfl rfl rfl (Sep.nil _ _ _) ?_
  refine JX.seq ?_
  refine JX.region ?_
  refine JL.eff (ef_alloc i28 i28z rfl) rfl ?_
  rintro _ _ ⟨g1, rfl, rfl⟩
  refine JL.eff (ef_alloc i35 i35z rfl) rfl ?_
  rintro _ _ ⟨g3, rfl, rfl⟩
  refine JL.nil ?_
  refine JE.code ?_
  refine JX.seq ?_
  refine JX.region ?_
  refine JL.val (yl_move rfl) rfl ?_
  obtain ⟨x5, hx5, hres⟩ := bind_some hres
  refine JL.eff (ef_call (T := T109 a_0 q0.length c_0 x5) Go.Proofs.Try.func109 rfl (by kernel_rfl) rfl (fun w hC => c109 (rd_arg g_0 hC) rfl k_0 hx5)) rfl ?_
  rintro _ _ ⟨_, ⟨g6, rfl, rfl⟩, rfl⟩
  refine JL.val (yl_assign rfl) rfl ?_
  refine JL.nil ?_
  refine JE.code ?_
  refine JX.seq ?_
  refine JX.region ?_
  refine JL.val (yl_move rfl) rfl ?_
  obtain ⟨x8, hx8, hres⟩ := bind_some hres
  refine JL.eff (ef_callms (caps := []) (vs := [ptrAt (some ⟨g6, 0, none⟩) 0]) (T := T108 g6 a_0 q0.length c_0 x8) [2] [0, 1] [boxO 162 g6 [.slice a_0 q0.length c_0, .int .i64 x5.at_, .int .u64 x5.seed]] [boxO 28 g1 [.int .i64 0, .int .i64 0, .slice none 0 0], boxO 35 g3 [.int .i64 0, .int .i64 0]] rfl Go.Proofs.Try.func108 rfl (by kernel_rfl) rfl (by decide) rfl rfl (fun w N hF hS => c108 (q0 := Sl00Src.mk q0 x5.at_ x5.seed) (RdS.pass0 hF g_0) rfl k_0 hS hx8)) rfl ?_
  rintro _ _ ⟨_, _, ⟨rfl, a9, _, cp10, rfl, rfl, rfl⟩, rfl⟩
  refine JL.eff (ef_alloc i28 i28z rfl) rfl ?_
  rintro _ _ ⟨g12, rfl, rfl⟩
  refine JL.eff (ef_store_box (i := 4) (v := .agg #[.int .i64 x8.1.W, .int .i64 x8.1.H, .slice a9 x8.1.Breaks.length cp10]) i28 rfl rfl rfl (i28s).symm (Nat.le_of_ble_eq_true rfl) (by simp [Value.cells, Value.oneCell'])) rfl ?_
  rintro _ _ rfl
  refine JL.nil ?_
  refine JE.weak (env' := [(2, ptrAt (some ⟨g1, 0, none⟩) 0), (3, ptrAt (some ⟨g3, 0, none⟩) 0), (4, ptrAt (some ⟨g6, 0, none⟩) 0), (5, ptrAt (some ⟨g12, 0, none⟩) 0)]) (es' := [boxO 28 g1 [.int .i64 0, .int .i64 0, .slice none 0 0], boxO 35 g3 [.int .i64 0, .int .i64 0], boxO 162 g6 [.slice a_0 q0.length c_0, .int .i64 x8.2.1, .int .u64 x8.2.2], boxO 28 g12 [.int .i64 x8.1.W, .int .i64 x8.1.H, .slice a9 x8.1.Breaks.length cp10], rowT 2 eI64 a9 x8.1.Breaks.length cp10 x8.1.Breaks]) [0, 1, 2, 4, 3] ?_ ⟨rfl, rfl, rfl, rfl, trivial⟩ (by decide) rfl
  refine JE.code ?_
  refine JX.seq ?_
  refine JX.drawH [(0, .read), (1, .pure), (2, .must), (3, .must), (4, .must)] [2, 3, 4] [2, 0, 1] [3, 4] [boxO 162 g6 [.slice a_0 q0.length c_0, .int .i64 x8.2.1, .int .u64 x8.2.2], boxO 28 g1 [.int .i64 0, .int .i64 0, .slice none 0 0], boxO 35 g3 [.int .i64 0, .int .i64 0]] [boxO 28 g12 [.int .i64 x8.1.W, .int .i64 x8.1.H, .slice a9 x8.1.Breaks.length cp10], rowT 2 eI64 a9 x8.1.Breaks.length cp10 x8.1.Breaks] mixedP (by kernel_rfl) (by kernel_rfl) (by decide) rfl rfl ?_
  intro wrr14 Nr14 hFr14
  refine JH.read rfl (yl_loadn Go.Proofs.Try.underlying28 rfl i28 rfl (fun w hw => hFr14.box 3 rfl rfl hw) rfl (i28s).symm i28p) rfl ?_
  refine JH.pure rfl (yl_move rfl) rfl ?_
  obtain ⟨x15, hx15, hres⟩ := bind_some hres
  refine JH.must rfl (ef_callms (caps := []) (vs := [ptrAt (some ⟨g6, 0, none⟩) 0, ptrAt (some ⟨g12, 0, none⟩) 0]) (T := T110 g6 a_0 q0.length c_0 x15) [0] [1, 2] [boxO 162 g6 [.slice a_0 q0.length c_0, .int .i64 x8.2.1, .int .u64 x8.2.2]] [boxO 28 g1 [.int .i64 0, .int .i64 0, .slice none 0 0], boxO 35 g3 [.int .i64 0, .int .i64 0]] rfl Go.Proofs.Try.func110 rfl (by kernel_rfl) rfl (by decide) rfl rfl (fun w N hF hS => c110 (q0 := Sl00Src.mk q0 x8.2.1 x8.2.2) (q1 := x8.1) (RdS.pass hF (RdS.pass0 hFr14 g_0)) rfl k_0 (RdAtS.of0 (RdS.pass hF (RdS.box hFr14 3 rfl rfl))) (RdS.pass hF (RdS.row hFr14 4 rfl rfl)) rfl (ln_row hFr14.cl 4 rfl) hS hx15)) rfl rfl ?_
  rintro _ _ ⟨_, _, ⟨rfl, rfl, rfl⟩, rfl⟩
  refine JH.must rfl (ef_store_box (i := 0) (v := .agg #[.int .i64 x8.1.W, .int .i64 x8.1.H, .slice a9 x8.1.Breaks.length cp10]) i28 rfl rfl rfl (i28s).symm (Nat.le_of_ble_eq_true rfl) (by simp [Value.cells, Value.oneCell'])) rfl rfl ?_
  rintro _ _ rfl
  refine JH.must rfl (ef_store_box (i := 1) (v := .agg #[.int .i64 x15.1.X, .int .i64 x15.1.Y]) i35 rfl rfl rfl (i35s).symm (Nat.le_of_ble_eq_true rfl) (by simp [Value.cells, Value.oneCell'])) rfl rfl ?_
  rintro _ _ rfl
  refine JH.nil ?_
  refine JE.weak (env' := [(2, ptrAt (some ⟨g1, 0, none⟩) 0), (3, ptrAt (some ⟨g3, 0, none⟩) 0)]) (es' := [boxO 28 g1 [.int .i64 x8.1.W, .int .i64 x8.1.H, .slice a9 x8.1.Breaks.length cp10], rowT 2 eI64 a9 x8.1.Breaks.length cp10 x8.1.Breaks, boxO 35 g3 [.int .i64 x15.1.X, .int .i64 x15.1.Y]]) [2, 1, 3] ?_ ⟨rfl, rfl, trivial⟩ (by decide) rfl
  refine JE.code ?_
  refine JX.ret ?_
  obtain rfl := Option.some.inj hres
  refine JE.ret (rs := [.cell 2 28, .cell 3 35]) (vs := [.agg #[.int .i64 x8.1.W, .int .i64 x8.1.H, .slice a9 x8.1.Breaks.length cp10], .agg #[.int .i64 x15.1.X, .int .i64 x15.1.Y]]) rfl ⟨rv_box 0 rfl rfl Go.Proofs.Try.underlying28 rfl i28 (i28s).symm, rv_box 2 rfl rfl Go.Proofs.Try.underlying35 rfl i35 (i35s).symm, trivial⟩ ?_
  exact fun w' hb hs => ⟨_, _, ⟨a9, x8.1.Breaks.length, cp10, rfl, rfl, rfl⟩, rfl, hb, hs.sel [1] _ (by decide) rfl⟩

/- spec.l21Region -/
def sh111 (q0 : List Int) : Option (SPanel × Int) := Option.bind (sh109 q0) fun x3 => Option.bind (sh108 (Sl00Src.mk q0 x3.at_ x3.seed)) fun x6 => Option.bind (sh113 (Sl00Src.mk q0 x6.2.1 x6.2.2) 14) fun x13 => Option.bind (sh113 (Sl00Src.mk q0 x13.2.1 x13.2.2) 12) fun x14 => some (x6.1, w64 (x13.1 - (w64 (x14.1.tdiv 11))))
def T111 (r : SPanel × Int) (v : Value) (rs : List Own) : Prop := ∃ (a0_2 : Option Addr) (n0_2 c0_2 : Nat), r.1.Breaks.length = n0_2 ∧ v = rets [.agg #[.int .i64 r.1.W, .int .i64 r.1.H, .slice a0_2 n0_2 c0_2], .int .i64 r.2] ∧ rs = [rowT 2 eI64 a0_2 n0_2 c0_2 r.1.Breaks]
set_option maxRecDepth 100000 in
theorem c111 {w : World} {q0 : List Int} {a_0 : Option Addr} {n_0 c_0 : Nat} (g_0 : Rd w a_0 (eU8.fl q0)) (l_0 : q0.length = n_0) (k_0 : n_0 ≤ c_0) {r : SPanel × Int} (hres : sh111 q0 = some r) : Calls Go.Proofs.Try.prog 111 [.slice a_0 n_0 c_0].toArray w (Ret w (T111 r)) := by
  subst l_0
  unfold sh111 at hres
  refine calls_of (n := 17) (M := []) (es := []) Go.Proofs.Try.func111 rfl rfl rfl (Sep.nil _ _ _) ?_
  refine JX.seq ?_
  refine JX.region ?_
  refine JL.eff (ef_alloc i28 i28z rfl) rfl ?_
  rintro _ _ ⟨g1, rfl, rfl⟩
  refine JL.val (yl_assign rfl) rfl ?_
  refine JL.nil ?_
  refine JE.code ?_
  refine JX.seq ?_
  refine JX.region ?_
  refine JL.val (yl_move rfl) rfl ?_
  obtain ⟨x3, hx3, hres⟩ := bind_some hres
  refine JL.eff (ef_call (T := T109 a_0 q0.length c_0 x3) Go.Proofs.Try.func109 rfl (by kernel_rfl) rfl (fun w hC => c109 (rd_arg g_0 hC) rfl k_0 hx3)) rfl ?_
  rintro _ _ ⟨_, ⟨g4, rfl, rfl⟩, rfl⟩
  refine JL.val (yl_assign rfl) rfl ?_
  refine JL.nil ?_
  refine JE.code ?_
  refine JX.seq ?_
  refine JX.region ?_
  refine JL.val (yl_move rfl) rfl ?_
  obtain ⟨x6, hx6, hres⟩ := bind_some hres
  refine JL.eff (ef_callms (caps := []) (vs := [ptrAt (some ⟨g4, 0, none⟩) 0]) (T := T108 g4 a_0 q0.length c_0 x6) [1] [0] [boxO 162 g4 [.slice a_0 q0.length c_0, .int .i64 x3.at_, .int .u64 x3.seed]] [boxO 28 g1 [.int .i64 0, .int .i64 0, .slice none 0 0]] rfl Go.Proofs.Try.func108 rfl (by kernel_rfl) rfl (by decide) rfl rfl (fun w N hF hS => c108 (q0 := Sl00Src.mk q0 x3.at_ x3.seed) (RdS.pass0 hF g_0) rfl k_0 hS hx6)) rfl ?_
  rintro _ _ ⟨_, _, ⟨rfl, a7, _, cp8, rfl, rfl, rfl⟩, rfl⟩
  refine JL.eff (ef_alloc i28 i28z rfl) rfl ?_
  rintro _ _ ⟨g10, rfl, rfl⟩
  refine JL.eff (ef_store_box (i := 3) (v := .agg #[.int .i64 x6.1.W, .int .i64 x6.1.H, .slice a7 x6.1.Breaks.length cp8]) i28 rfl rfl rfl (i28s).symm (Nat.le_of_ble_eq_true rfl) (by simp [Value.cells, Value.oneCell'])) rfl ?_
  rintro _ _ rfl
  refine JL.nil ?_
  refine JE.weak (env' := [(2, ptrAt (some ⟨g1, 0, none⟩) 0), (4, ptrAt (some ⟨g4, 0, none⟩) 0), (5, ptrAt (some ⟨g10, 0, none⟩) 0)]) (es' := [boxO 28 g1 [.int .i64 0, .int .i64 0, .slice none 0 0], boxO 162 g4 [.slice a_0 q0.length c_0, .int .i64 x6.2.1, .int .u64 x6.2.2], boxO 28 g10 [.int .i64 x6.1.W, .int .i64 x6.1.H, .slice a7 x6.1.Breaks.length cp8], rowT 2 eI64 a7 x6.1.Breaks.length cp8 x6.1.Breaks]) [0, 1, 3, 2] ?_ ⟨rfl, rfl, rfl, trivial⟩ (by decide) rfl
  refine JE.code ?_
  refine JX.seq ?_
  refine JX.drawH [(0, .read), (1, .pure), (3, .pure), (2, .must), (4, .must), (5, .pure), (6, .pure), (7, .must), (8, .pure)] [2, 4, 7] [1, 0] [2, 3] [boxO 162 g4 [.slice a_0 q0.length c_0, .int .i64 x6.2.1, .int .u64 x6.2.2], boxO 28 g1 [.int .i64 0, .int .i64 0, .slice none 0 0]] [boxO 28 g10 [.int .i64 x6.1.W, .int .i64 x6.1.H, .slice a7 x6.1.Breaks.length cp8], rowT 2 eI64 a7 x6.1.Breaks.length cp8 x6.1.Breaks] mixedP (by kernel_rfl) (by kernel_rfl) (by decide) rfl rfl ?_
  intro wrr12 Nr12 hFr12
  refine JH.read rfl (yl_loadn Go.Proofs.Try.underlying28 rfl i28 rfl (fun w hw => hFr12.box 2 rfl rfl hw) rfl (i28s).symm i28p) rfl ?_
  refine JH.pure rfl (yl_move rfl) rfl ?_
  refine JH.pure rfl (yl_move rfl) rfl ?_
  obtain ⟨x13, hx13, hres⟩ := bind_some hres
  refine JH.must rfl (ef_callms (caps := []) (vs := [ptrAt (some ⟨g4, 0, none⟩) 0, .int .i64 14]) (T := T113 g4 a_0 q0.length c_0 x13) [0] [1] [boxO 162 g4 [.slice a_0 q0.length c_0, .int .i64 x6.2.1, .int .u64 x6.2.2]] [boxO 28 g1 [.int .i64 0, .int .i64 0, .slice none 0 0]] rfl Go.Proofs.Try.func113 rfl (by kernel_rfl) rfl (by decide) rfl rfl (fun w N hF hS => c113 (q0 := Sl00Src.mk q0 x6.2.1 x6.2.2) (RdS.pass hF (RdS.pass0 hFr12 g_0)) rfl k_0 hS hx13)) rfl rfl ?_
  rintro _ _ ⟨_, _, ⟨rfl, rfl, rfl⟩, rfl⟩
  obtain ⟨x14, hx14, hres⟩ := bind_some hres
  refine JH.must rfl (ef_callms (caps := []) (vs := [ptrAt (some ⟨g4, 0, none⟩) 0, .int .i64 12]) (T := T113 g4 a_0 q0.length c_0 x14) [1] [0] [boxO 162 g4 [.slice a_0 q0.length c_0, .int .i64 x13.2.1, .int .u64 x13.2.2]] [boxO 28 g1 [.int .i64 0, .int .i64 0, .slice none 0 0]] rfl Go.Proofs.Try.func113 rfl (by kernel_rfl) rfl (by decide) rfl rfl (fun w N hF hS => c113 (q0 := Sl00Src.mk q0 x13.2.1 x13.2.2) (RdS.pass hF (RdS.pass0 hFr12 g_0)) rfl k_0 hS hx14)) rfl rfl ?_
  rintro _ _ ⟨_, _, ⟨rfl, rfl, rfl⟩, rfl⟩
  refine JH.pure rfl (yl_quo rfl rfl (by decide)) rfl ?_
  refine JH.pure rfl (yl_sub rfl rfl) rfl ?_
  refine JH.must rfl (ef_store_box (i := 0) (v := .agg #[.int .i64 x6.1.W, .int .i64 x6.1.H, .slice a7 x6.1.Breaks.length cp8]) i28 rfl rfl rfl (i28s).symm (Nat.le_of_ble_eq_true rfl) (by simp [Value.cells, Value.oneCell'])) rfl rfl ?_
  rintro _ _ rfl
  refine JH.pure rfl (yl_assign rfl) rfl ?_
  refine JH.nil ?_
  refine JE.weak (env' := [(2, ptrAt (some ⟨g1, 0, none⟩) 0), (3, .int .i64 (w64 (x13.1 - (w64 (x14.1.tdiv 11)))))]) (es' := [boxO 28 g1 [.int .i64 x6.1.W, .int .i64 x6.1.H, .slice a7 x6.1.Breaks.length cp8], rowT 2 eI64 a7 x6.1.Breaks.length cp8 x6.1.Breaks]) [2, 1] ?_ ⟨rfl, rfl, trivial⟩ (by decide) rfl
  refine JE.code ?_
  refine JX.ret ?_
  obtain rfl := Option.some.inj hres
  refine JE.ret (rs := [.cell 2 28, .tmp 3]) (vs := [.agg #[.int .i64 x6.1.W, .int .i64 x6.1.H, .slice a7 x6.1.Breaks.length cp8], .int .i64 (w64 (x13.1 - (w64 (x14.1.tdiv 11))))]) rfl ⟨rv_box 0 rfl rfl Go.Proofs.Try.underlying28 rfl i28 (i28s).symm, rfl, trivial⟩ ?_
  exact fun w' hb hs => ⟨_, _, ⟨a7, x6.1.Breaks.length, cp8, rfl, rfl, rfl⟩, rfl, hb, hs.sel [1] _ (by decide) rfl⟩

/- spec.DrawRegionNeighbours -/
def sh48 (q0 : List Int) : Option (SPanel × Int) := Option.bind (sh111 q0) fun x3 => some (x3.1, x3.2)
def T48 (r : SPanel × Int) (v : Value) (rs : List Own) : Prop := ∃ (a0_2 : Option Addr) (n0_2 c0_2 : Nat), r.1.Breaks.length = n0_2 ∧ v = rets [.agg #[.int .i64 r.1.W, .int .i64 r.1.H, .slice a0_2 n0_2 c0_2], .int .i64 r.2] ∧ rs = [rowT 2 eI64 a0_2 n0_2 c0_2 r.1.Breaks]
set_option maxRecDepth 100000 in
theorem c48 {w : World} {q0 : List Int} {a_0 : Option Addr} {n_0 c_0 : Nat} (g_0 : Rd w a_0 (eU8.fl q0)) (l_0 : q0.length = n_0) (k_0 : n_0 ≤ c_0) {r : SPanel × Int} (hres : sh48 q0 = some r) : Calls Go.Proofs.Try.prog 48 [.slice a_0 n_0 c_0].toArray w (Ret w (T48 r)) := by
  subst l_0
  unfold sh48 at hres
  refine calls_of (n := 8) (M := []) (es := []) Go.Proofs.Try.func48 rfl rfl rfl (Sep.nil _ _ _) ?_
  refine JX.seq ?_
  refine JX.region ?_
  refine JL.eff (ef_alloc i28 i28z rfl) rfl ?_
  rintro _ _ ⟨g1, rfl, rfl⟩
  refine JL.val (yl_assign rfl) rfl ?_
  refine JL.nil ?_
  refine JE.code ?_
  refine JX.seq ?_
  refine JX.region ?_
  refine JL.val (yl_move rfl) rfl ?_
  obtain ⟨x3, hx3, hres⟩ := bind_some hres
  refine JL.eff (ef_call (T := T111 x3) Go.Proofs.Try.func111 rfl (by kernel_rfl) rfl (fun w hC => c111 (rd_arg g_0 hC) rfl k_0 hx3)) rfl ?_
  rintro _ _ ⟨_, ⟨a4, _, cp5, rfl, rfl, rfl⟩, rfl⟩
  refine JL.val (yl_extract rfl rfl) rfl ?_
  refine JL.val (yl_extract rfl rfl) rfl ?_
  refine JL.eff (ef_store_box (i := 0) (v := .agg #[.int .i64 x3.1.W, .int .i64 x3.1.H, .slice a4 x3.1.Breaks.length cp5]) i28 rfl rfl rfl (i28s).symm (Nat.le_of_ble_eq_true rfl) (by simp [Value.cells, Value.oneCell'])) rfl ?_
  rintro _ _ rfl
  refine JL.val (yl_assign rfl) rfl ?_
  refine JL.nil ?_
  refine JE.weak (env' := [(2, ptrAt (some ⟨g1, 0, none⟩) 0), (3, .int .i64 x3.2)]) (es' := [boxO 28 g1 [.int .i64 x3.1.W, .int .i64 x3.1.H, .slice a4 x3.1.Breaks.length cp5], rowT 2 eI64 a4 x3.1.Breaks.length cp5 x3.1.Breaks]) [0, 1] ?_ ⟨rfl, rfl, trivial⟩ (by decide) rfl
  refine JE.code ?_
  refine JX.ret ?_
  obtain rfl := Option.some.inj hres
  refine JE.ret (rs := [.cell 2 28, .tmp 3]) (vs := [.agg #[.int .i64 x3.1.W, .int .i64 x3.1.H, .slice a4 x3.1.Breaks.length cp5], .int .i64 x3.2]) rfl ⟨rv_box 0 rfl rfl Go.Proofs.Try.underlying28 rfl i28 (i28s).symm, rfl, trivial⟩ ?_
  exact fun w' hb hs => ⟨_, _, ⟨a4, x3.1.Breaks.length, cp5, rfl, rfl, rfl⟩, rfl, hb, hs.sel [1] _ (by decide) rfl⟩

/- spec.DrawCountRegions -/
def sh49 (q0 : List Int) : Option (SPanel) := Option.bind (sh109 q0) fun x3 => Option.bind (sh108 (Sl00Src.mk q0 x3.at_ x3.seed)) fun x6 => some x6.1
def T49 (r : SPanel) (v : Value) (rs : List Own) : Prop := ∃ (a0_2 : Option Addr) (n0_2 c0_2 : Nat), r.Breaks.length = n0_2 ∧ v = rets [.agg #[.int .i64 r.W, .int .i64 r.H, .slice a0_2 n0_2 c0_2]] ∧ rs = [rowT 2 eI64 a0_2 n0_2 c0_2 r.Breaks]
set_option maxRecDepth 100000 in
theorem c49 {w : World} {q0 : List Int} {a_0 : Option Addr} {n_0 c_0 : Nat} (g_0 : Rd w a_0 (eU8.fl q0)) (l_0 : q0.length = n_0) (k_0 : n_0 ≤ c_0) {r : SPanel} (hres : sh49 q0 = some r) : Calls Go.Proofs.Try.prog 49 [.slice a_0 n_0 c_0].toArray w (Ret w (T49 r)) := by
  subst l_0
  unfold sh49 at hres
  refine calls_of (n := 6) (M := []) (es := []) Go.Proofs.Try.func49 rfl rfl rfl (Sep.nil _ _ _) ?_
  refine JX.seq ?_
  refine JX.region ?_
  refine JL.eff (ef_alloc i28 i28z rfl) rfl ?_
  rintro _ _ ⟨g1, rfl, rfl⟩
  refine JL.nil ?_
  refine JE.code ?_
  refine JX.seq ?_
  refine JX.region ?_
  refine JL.val (yl_move rfl) rfl ?_
  obtain ⟨x3, hx3, hres⟩ := bind_some hres
  refine JL.eff (ef_call (T := T109 a_0 q0.length c_0 x3) Go.Proofs.Try.func109 rfl (by kernel_rfl) rfl (fun w hC => c109 (rd_arg g_0 hC) rfl k_0 hx3)) rfl ?_
  rintro _ _ ⟨_, ⟨g4, rfl, rfl⟩, rfl⟩
  obtain ⟨x6, hx6, hres⟩ := bind_some hres
  refine JL.eff (ef_callms (caps := []) (vs := [ptrAt (some ⟨g4, 0, none⟩) 0]) (T := T108 g4 a_0 q0.length c_0 x6) [1] [0] [boxO 162 g4 [.slice a_0 q0.length c_0, .int .i64 x3.at_, .int .u64 x3.seed]] [boxO 28 g1 [.int .i64 0, .int .i64 0, .slice none 0 0]] rfl Go.Proofs.Try.func108 rfl (by kernel_rfl) rfl (by decide) rfl rfl (fun w N hF hS => c108 (q0 := Sl00Src.mk q0 x3.at_ x3.seed) (RdS.pass0 hF g_0) rfl k_0 hS hx6)) rfl ?_
  rintro _ _ ⟨_, _, ⟨rfl, a7, _, cp8, rfl, rfl, rfl⟩, rfl⟩
  refine JL.eff (ef_store_box (i := 0) (v := .agg #[.int .i64 x6.1.W, .int .i64 x6.1.H, .slice a7 x6.1.Breaks.length cp8]) i28 rfl rfl rfl (i28s).symm (Nat.le_of_ble_eq_true rfl) (by simp [Value.cells, Value.oneCell'])) rfl ?_
  rintro _ _ rfl
  refine JL.nil ?_
  refine JE.weak (env' := [(2, ptrAt (some ⟨g1, 0, none⟩) 0)]) (es' := [boxO 28 g1 [.int .i64 x6.1.W, .int .i64 x6.1.H, .slice a7 x6.1.Breaks.length cp8], rowT 2 eI64 a7 x6.1.Breaks.length cp8 x6.1.Breaks]) [0, 2] ?_ ⟨rfl, trivial⟩ (by decide) rfl
  refine JE.code ?_
  refine JX.ret ?_
  obtain rfl := Option.some.inj hres
  refine JE.ret (rs := [.cell 2 28]) (vs := [.agg #[.int .i64 x6.1.W, .int .i64 x6.1.H, .slice a7 x6.1.Breaks.length cp8]]) rfl ⟨rv_box 0 rfl rfl Go.Proofs.Try.underlying28 rfl i28 (i28s).symm, trivial⟩ ?_
  exact fun w' hb hs => ⟨_, _, ⟨a7, x6.1.Breaks.length, cp8, rfl, rfl, rfl⟩, rfl, hb, hs.sel [1] _ (by decide) rfl⟩

/- laws.f6points -/
def sh77_1 (q0 : List SPoint) (q1 : List SPoint) : Int → Option (Int ⊕ (Unit ⊕ Bool))
  | x1 => bif decide (x1 < (q0.length : Int)) then (Option.bind (getI q0 x1) fun x3 => Option.bind (getI q1 x1) fun x4 => bif !(((x3.X == x4.X) && ((x3.Y == x4.Y) && true))) then (some (.inr (.inr false))) else (some (.inl (w64 (x1 + 1))))) else (some (.inr (.inl ())))
def sh77 (q0 : List SPoint) (q1 : List SPoint) : Option (Bool) := bif (q0.length : Int) != (q1.length : Int) then (some false) else (Option.bind (iter (sh77_1 q0 q1) 0) fun y1 => elimS y1 (fun r => some r) fun b1 => (some true))
def T77 (r : Bool) (v : Value) (rs : List Own) : Prop := v = rets [.bool r] ∧ rs = []
set_option maxRecDepth 100000 in
theorem c77 {w : World} {q0 : List SPoint} {a_0 : Option Addr} {n_0 c_0 : Nat} (g_0 : Rd w a_0 (eSPoint.fl q0)) (l_0 : q0.length = n_0) (k_0 : n_0 ≤ c_0) {q1 : List SPoint} {a_1 : Option Addr} {n_1 c_1 : Nat} (g_1 : Rd w a_1 (eSPoint.fl q1)) (l_1 : q1.length = n_1) (k_1 : n_1 ≤ c_1) {r : Bool} (hres : sh77 q0 q1 = some r) : Calls Go.Proofs.Try.prog 77 [.slice a_0 n_0 c_0, .slice a_1 n_1 c_1].toArray w (Ret w (T77 r)) := by
  subst l_0
  subst l_1
  unfold sh77 at hres
  refine calls_of (n := 26) (M := []) (es := []) Go.Proofs.Try.func77 rfl rfl rfl (Sep.nil _ _ _) ?_
  refine JX.seq ?_
  refine JX.region ?_
  refine JL.val (yl_assign rfl) rfl ?_
  refine JL.nil ?_
  refine JE.code ?_
  refine JX.seq ?_
  refine JX.seq ?_
  refine JX.region ?_
  refine JL.val (yl_move rfl) rfl ?_
  refine JL.val (yl_len_slice Go.Proofs.Try.underlying61 rfl) rfl ?_
  refine JL.val (yl_move rfl) rfl ?_
  refine JL.val (yl_len_slice Go.Proofs.Try.underlying61 rfl) rfl ?_
  refine JL.val (yl_neq rfl rfl) rfl ?_
  refine JL.nil ?_
  refine JE.weak (env' := [(0, .slice a_0 q0.length c_0), (1, .slice a_1 q1.length c_1), (10, .bool ((q0.length : Int) != (q1.length : Int)))]) (es' := []) [] ?_ ⟨rfl, rfl, rfl, trivial⟩ (by decide) rfl
  refine JE.code ?_
  rcases cond_some hres with ⟨hb, hres⟩ | ⟨hb, hres⟩
  · refine JX.condT rfl hb ?_
    refine JX.seq ?_
    refine JX.region ?_
    refine JL.val (yl_assign rfl) rfl ?_
    refine JL.nil ?_
    refine JE.code ?_
    refine JX.ret ?_
    obtain rfl := Option.some.inj hres
    refine JE.ret (rs := [.tmp 4]) (vs := [.bool false]) rfl ⟨rfl, trivial⟩ ?_
    exact fun w' hb hs => ⟨_, _, ⟨rfl, rfl⟩, rfl, hb, hs.sel [] _ (by decide) rfl⟩
  · refine JX.condF rfl hb ?_
    refine JX.skip ?_
    refine JE.code ?_
    refine JX.seq ?_
    refine JX.seq ?_
    refine JX.region ?_
    refine JL.val (yl_assign rfl) rfl ?_
    refine JL.nil ?_
    refine JE.code ?_
    refine JX.block ?_
    obtain ⟨y1, hy1, hresO1⟩ := bind_some hres
    refine JX.loop (I := fun (s1 : Int) aa ww => St w [] 26 [(0, .slice a_0 q0.length c_0), (1, .slice a_1 q1.length c_1), (5, .int .i64 s1)] [] aa ww) (sh77_1 q0 q1) hy1 (fun a w h => h.weak ⟨rfl, rfl, rfl, trivial⟩ [] (by decide) rfl) ?_
    rintro x1 o1 hres hox1 aa ww hS
    refine (?_ : JX Go.Proofs.Try.prog w [] 26 _ _ [(0, .slice a_0 q0.length c_0), (1, .slice a_1 q1.length c_1), (5, .int .i64 x1)] [] _) aa ww hS
    clear hS
    unfold sh77_1 at hres
    refine JX.seq ?_
    refine JX.seq ?_
    refine JX.region ?_
    refine JL.val (yl_move rfl) rfl ?_
    refine JL.val (yl_move rfl) rfl ?_
    refine JL.val (yl_len_slice Go.Proofs.Try.underlying61 rfl) rfl ?_
    refine JL.val (yl_lss rfl rfl) rfl ?_
    refine JL.nil ?_
    refine JE.weak (env' := [(0, .slice a_0 q0.length c_0), (1, .slice a_1 q1.length c_1), (5, .int .i64 x1), (14, .bool (decide (x1 < (q0.length : Int))))]) (es' := []) [] ?_ ⟨rfl, rfl, rfl, rfl, trivial⟩ (by decide) rfl
    refine JE.code ?_
    rcases cond_some hres with ⟨hb, hres⟩ | ⟨hb, hres⟩
    · refine JX.condT rfl hb ?_
      refine JX.skip ?_
      refine JE.code ?_
      refine JX.seq ?_
      refine JX.block ?_
      refine JX.seq ?_
      refine JX.drawH [(0, .pure), (1, .pure), (2, .pure), (3, .read), (4, .pure), (5, .pure), (6, .pure), (7, .read), (8, .pure)] [] [] [] [] [] mixedP (by kernel_rfl) (by kernel_rfl) (by decide) rfl rfl ?_
      intro wrr2 Nr2 hFr2
      refine JH.pure rfl (yl_move rfl) rfl ?_
      refine JH.pure rfl (yl_move rfl) rfl ?_
      obtain ⟨x3, hx3, hres⟩ := bind_some hres
      refine JH.pure rfl (yl_idxQ Go.Proofs.Try.underlying61 i35 i35s rfl rfl hx3 rfl (rd_arg g_0 hFr2.cl) rfl) rfl ?_
      refine JH.read rfl (yl_loadTn Go.Proofs.Try.underlying35 rfl i35 i35s rfl hx3 (fun w hw => hFr2.arg g_0 hw)) rfl ?_
      refine JH.pure rfl (yl_move rfl) rfl ?_
      refine JH.pure rfl (yl_move rfl) rfl ?_
      obtain ⟨x4, hx4, hres⟩ := bind_some hres
      refine JH.pure rfl (yl_idxQ Go.Proofs.Try.underlying61 i35 i35s rfl rfl hx4 rfl (rd_arg g_1 hFr2.cl) rfl) rfl ?_
      refine JH.read rfl (yl_loadTn Go.Proofs.Try.underlying35 rfl i35 i35s rfl hx4 (fun w hw => hFr2.arg g_1 hw)) rfl ?_
      refine JH.pure rfl (yl_binop_of rfl rfl (fun w => eqs35_g _ _ _ _ _ w) (fun w => eqs35_neq x3.X x3.Y x4.X x4.Y w)) rfl ?_
      refine JH.nil ?_
      refine JE.weak (env' := [(0, .slice a_0 q0.length c_0), (1, .slice a_1 q1.length c_1), (5, .int .i64 x1), (25, .bool (!(((x3.X == x4.X) && ((x3.Y == x4.Y) && true)))))]) (es' := []) [] ?_ ⟨rfl, rfl, rfl, rfl, trivial⟩ (by decide) rfl
      refine JE.code ?_
      rcases cond_some hres with ⟨hb, hres⟩ | ⟨hb, hres⟩
      · refine JX.condT rfl hb ?_
        refine JX.seq ?_
        refine JX.region ?_
        refine JL.val (yl_assign rfl) rfl ?_
        refine JL.nil ?_
        refine JE.code ?_
        refine JX.ret ?_
        refine JE.qbr ?_
        refine JE.qbr ?_
        have hres := elimS_inr hresO1 (hox1 _ (Option.some.inj hres).symm)
        obtain rfl := Option.some.inj hres
        refine JE.ret (rs := [.tmp 4]) (vs := [.bool false]) rfl ⟨rfl, trivial⟩ ?_
        exact fun w' hb hs => ⟨_, _, ⟨rfl, rfl⟩, rfl, hb, hs.sel [] _ (by decide) rfl⟩
      · refine JX.condF rfl hb ?_
        refine JX.skip ?_
        refine JE.code ?_
        refine JX.region ?_
        refine JL.val (yl_move rfl) rfl ?_
        refine JL.val (yl_add rfl rfl) rfl ?_
        refine JL.val (yl_assign rfl) rfl ?_
        refine JL.nil ?_
        refine JE.cont hres ?_
        exact fun a w h => h.weak ⟨rfl, rfl, rfl, trivial⟩ [] (by decide) rfl
    · refine JX.condF rfl hb ?_
      refine JX.exit ?_
      refine JE.qb rfl ?_
      obtain ⟨b1, hb1⟩ : ∃ b : Unit, b = () := ⟨_, rfl⟩
      have hy1 : Sum.inl b1 = y1 := by rw [hb1]; exact hox1 _ (Option.some.inj hres).symm
      have hres := elimS_inl hresO1 hy1
      refine JE.weak (env' := []) (es' := []) [] ?_ trivial (by decide) (by subst hb1; rfl)
      refine JE.code ?_
      refine JX.seq ?_
      refine JX.region ?_
      refine JL.val (yl_assign rfl) rfl ?_
      refine JL.nil ?_
      refine JE.code ?_
      refine JX.ret ?_
      obtain rfl := Option.some.inj hres
      refine JE.ret (rs := [.tmp 4]) (vs := [.bool true]) rfl ⟨rfl, trivial⟩ ?_
      exact fun w' hb hs => ⟨_, _, ⟨rfl, rfl⟩, rfl, hb, hs.sel [] _ (by decide) rfl⟩

/- laws.f6shapes -/
def sh50_1 (q0 : List (List SPoint)) (q1 : List (List SPoint)) : Int → Option (Int ⊕ (Unit ⊕ Bool))
  | x1 => bif decide (x1 < ((q0.length : Nat) : Int)) then (Option.bind (getI q0 x1) fun x3 => Option.bind (getI q1 x1) fun x7 => Option.bind (sh77 x3 x7) fun x11 => bif !x11 then (some (.inr (.inr false))) else (some (.inl (w64 (x1 + 1))))) else (some (.inr (.inl ())))
def sh50 (q0 : List (List SPoint)) (q1 : List (List SPoint)) : Option (Bool) := bif ((q0.length : Nat) : Int) != ((q1.length : Nat) : Int) then (some false) else (Option.bind (iter (sh50_1 q0 q1) 0) fun y1 => elimS y1 (fun r => some r) fun b1 => (some true))
def T50 (r : Bool) (v : Value) (rs : List Own) : Prop := v = rets [.bool r] ∧ rs = []
set_option maxRecDepth 100000 in
theorem c50 {w : World} {q0 : List (List SPoint)} {a_0 : Option Addr} {n_0 c_0 : Nat} {h_0 : List Hd} (g_0 : Rd w a_0 (eHd.fl h_0)) (r_0 : RdI w eSPoint h_0 q0) (i_0 : Inn h_0 q0) (l_0 : q0.length = n_0) (k_0 : n_0 ≤ c_0) {q1 : List (List SPoint)} {a_1 : Option Addr} {n_1 c_1 : Nat} {h_1 : List Hd} (g_1 : Rd w a_1 (eHd.fl h_1)) (r_1 : RdI w eSPoint h_1 q1) (i_1 : Inn h_1 q1) (l_1 : q1.length = n_1) (k_1 : n_1 ≤ c_1) {r : Bool} (hres : sh50 q0 q1 = some r) : Calls Go.Proofs.Try.prog 50 [.slice a_0 n_0 c_0, .slice a_1 n_1 c_1].toArray w (Ret w (T50 r)) := by
  subst l_0
  subst l_1
  unfold sh50 at hres
  refine calls_of (n := 27) (M := []) (es := []) Go.Proofs.Try.func50 rfl rfl rfl (Sep.nil _ _ _) ?_
  refine JX.seq ?_
  refine JX.region ?_
  refine JL.val (yl_assign rfl) rfl ?_
  refine JL.nil ?_
  refine JE.code ?_
  refine JX.seq ?_
  refine JX.seq ?_
  refine JX.region ?_
  refine JL.val (yl_move rfl) rfl ?_
  refine JL.val (yl_len_slice Go.Proofs.Try.underlying40 rfl) rfl ?_
  refine JL.val (yl_move rfl) rfl ?_
  refine JL.val (yl_len_slice Go.Proofs.Try.underlying40 rfl) rfl ?_
  refine JL.val (yl_neq rfl rfl) rfl ?_
  refine JL.nil ?_
  refine JE.weak (env' := [(0, .slice a_0 q0.length c_0), (1, .slice a_1 q1.length c_1), (10, .bool (((q0.length : Nat) : Int) != ((q1.length : Nat) : Int)))]) (es' := []) [] ?_ ⟨rfl, rfl, rfl, trivial⟩ (by decide) rfl
  refine JE.code ?_
  rcases cond_some hres with ⟨hb, hres⟩ | ⟨hb, hres⟩
  · refine JX.condT rfl hb ?_
    refine JX.seq ?_
    refine JX.region ?_
    refine JL.val (yl_assign rfl) rfl ?_
    refine JL.nil ?_
    refine JE.code ?_
    refine JX.ret ?_
    obtain rfl := Option.some.inj hres
    refine JE.ret (rs := [.tmp 4]) (vs := [.bool false]) rfl ⟨rfl, trivial⟩ ?_
    exact fun w' hb hs => ⟨_, _, ⟨rfl, rfl⟩, rfl, hb, hs.sel [] _ (by decide) rfl⟩
  · refine JX.condF rfl hb ?_
    refine JX.skip ?_
    refine JE.code ?_
    refine JX.seq ?_
    refine JX.seq ?_
    refine JX.region ?_
    refine JL.val (yl_assign rfl) rfl ?_
    refine JL.nil ?_
    refine JE.code ?_
    refine JX.block ?_
    obtain ⟨y1, hy1, hresO1⟩ := bind_some hres
    refine JX.loop (I := fun (s1 : Int) aa ww => St w [] 27 [(0, .slice a_0 q0.length c_0), (1, .slice a_1 q1.length c_1), (5, .int .i64 s1)] [] aa ww) (sh50_1 q0 q1) hy1 (fun a w h => h.weak ⟨rfl, rfl, rfl, trivial⟩ [] (by decide) rfl) ?_
    rintro x1 o1 hres hox1 aa ww hS
    refine (?_ : JX Go.Proofs.Try.prog w [] 27 _ _ [(0, .slice a_0 q0.length c_0), (1, .slice a_1 q1.length c_1), (5, .int .i64 x1)] [] _) aa ww hS
    clear hS
    unfold sh50_1 at hres
    refine JX.seq ?_
    refine JX.seq ?_
    refine JX.region ?_
    refine JL.val (yl_move rfl) rfl ?_
    refine JL.val (yl_move rfl) rfl ?_
    refine JL.val (yl_len_slice Go.Proofs.Try.underlying40 rfl) rfl ?_
    refine JL.val (yl_lss rfl rfl) rfl ?_
    refine JL.nil ?_
    refine JE.weak (env' := [(0, .slice a_0 q0.length c_0), (1, .slice a_1 q1.length c_1), (5, .int .i64 x1), (14, .bool (decide (x1 < ((q0.length : Nat) : Int))))]) (es' := []) [] ?_ ⟨rfl, rfl, rfl, rfl, trivial⟩ (by decide) rfl
    refine JE.code ?_
    rcases cond_some hres with ⟨hb, hres⟩ | ⟨hb, hres⟩
    · refine JX.condT rfl hb ?_
      refine JX.skip ?_
      refine JE.code ?_
      refine JX.seq ?_
      refine JX.block ?_
      refine JX.seq ?_
      refine JX.drawH [(0, .pure), (1, .pure), (2, .pure), (3, .read), (4, .pure), (5, .pure), (6, .pure), (7, .read), (8, .must), (9, .pure)] [] [] [] [] [] mixedP (by kernel_rfl) (by kernel_rfl) (by decide) rfl rfl ?_
      intro wrr2 Nr2 hFr2
      refine JH.pure rfl (yl_move rfl) rfl ?_
      refine JH.pure rfl (yl_move rfl) rfl ?_
      obtain ⟨x3, hx3, hres⟩ := bind_some hres
      obtain ⟨ha4, hc5, hhx3⟩ := Inn.sub i_0 hx3
      refine JH.pure rfl (yl_idxQ Go.Proofs.Try.underlying40 i61 i61s rfl rfl hhx3 (Inn.len i_0) (rd_arg g_0 hFr2.cl) (Inn.len i_0)) rfl ?_
      refine JH.read rfl (yl_loadT0 (z := ⟨ha4, x3.length, hc5⟩) Go.Proofs.Try.underlying61 rfl rfl hhx3 (fun w hw => hFr2.arg g_0 hw) rfl) rfl ?_
      refine JH.pure rfl (yl_move rfl) rfl ?_
      refine JH.pure rfl (yl_move rfl) rfl ?_
      obtain ⟨x7, hx7, hres⟩ := bind_some hres
      obtain ⟨ha8, hc9, hhx7⟩ := Inn.sub i_1 hx7
      refine JH.pure rfl (yl_idxQ Go.Proofs.Try.underlying40 i61 i61s rfl rfl hhx7 (Inn.len i_1) (rd_arg g_1 hFr2.cl) (Inn.len i_1)) rfl ?_
      refine JH.read rfl (yl_loadT0 (z := ⟨ha8, x7.length, hc9⟩) Go.Proofs.Try.underlying61 rfl rfl hhx7 (fun w hw => hFr2.arg g_1 hw) rfl) rfl ?_
      obtain ⟨x11, hx11, hres⟩ := bind_some hres
      refine JH.must rfl (ef_call (T := T77 x11) Go.Proofs.Try.func77 rfl (by kernel_rfl) rfl (fun w hC => c77 (hFr2.arg (RdI.sub r_0 hx3 hhx3) hC.1) rfl (RdI.ln r_0 hx3 hhx3) (hFr2.arg (RdI.sub r_1 hx7 hhx7) hC.1) rfl (RdI.ln r_1 hx7 hhx7) hx11)) rfl rfl ?_
      rintro _ _ ⟨_, ⟨rfl, rfl⟩, rfl⟩
      refine JH.pure rfl (yl_not rfl) rfl ?_
      refine JH.nil ?_
      refine JE.weak (env' := [(0, .slice a_0 q0.length c_0), (1, .slice a_1 q1.length c_1), (5, .int .i64 x1), (26, .bool !x11)]) (es' := []) [] ?_ ⟨rfl, rfl, rfl, rfl, trivial⟩ (by decide) rfl
      refine JE.code ?_
      rcases cond_some hres with ⟨hb, hres⟩ | ⟨hb, hres⟩
      · refine JX.condT rfl hb ?_
        refine JX.seq ?_
        refine JX.region ?_
        refine JL.val (yl_assign rfl) rfl ?_
        refine JL.nil ?_
        refine JE.code ?_
        refine JX.ret ?_
        refine JE.qbr ?_
        refine JE.qbr ?_
        have hres := elimS_inr hresO1 (hox1 _ (Option.some.inj hres).symm)
        obtain rfl := Option.some.inj hres
        refine JE.ret (rs := [.tmp 4]) (vs := [.bool false]) rfl ⟨rfl, trivial⟩ ?_
        exact fun w' hb hs => ⟨_, _, ⟨rfl, rfl⟩, rfl, hb, hs.sel [] _ (by decide) rfl⟩
      · refine JX.condF rfl hb ?_
        refine JX.skip ?_
        refine JE.code ?_
        refine JX.region ?_
        refine JL.val (yl_move rfl) rfl ?_
        refine JL.val (yl_add rfl rfl) rfl ?_
        refine JL.val (yl_assign rfl) rfl ?_
        refine JL.nil ?_
        refine JE.cont hres ?_
        exact fun a w h => h.weak ⟨rfl, rfl, rfl, trivial⟩ [] (by decide) rfl
    · refine JX.condF rfl hb ?_
      refine JX.exit ?_
      refine JE.qb rfl ?_
      obtain ⟨b1, hb1⟩ : ∃ b : Unit, b = () := ⟨_, rfl⟩
      have hy1 : Sum.inl b1 = y1 := by rw [hb1]; exact hox1 _ (Option.some.inj hres).symm
      have hres := elimS_inl hresO1 hy1
      refine JE.weak (env' := []) (es' := []) [] ?_ trivial (by decide) (by subst hb1; rfl)
      refine JE.code ?_
      refine JX.seq ?_
      refine JX.region ?_
      refine JL.val (yl_assign rfl) rfl ?_
      refine JL.nil ?_
      refine JE.code ?_
      refine JX.ret ?_
      obtain rfl := Option.some.inj hres
      refine JE.ret (rs := [.tmp 4]) (vs := [.bool true]) rfl ⟨rfl, trivial⟩ ?_
      exact fun w' hb hs => ⟨_, _, ⟨rfl, rfl⟩, rfl, hb, hs.sel [] _ (by decide) rfl⟩

/- laws.f6ints -/
def sh51_1 (q0 : List Int) (q1 : List Int) : Int → Option (Int ⊕ (Unit ⊕ Bool))
  | x1 => bif decide (x1 < (q0.length : Int)) then (Option.bind (getI q0 x1) fun x3 => Option.bind (getI q1 x1) fun x4 => bif x3 != x4 then (some (.inr (.inr false))) else (some (.inl (w64 (x1 + 1))))) else (some (.inr (.inl ())))
def sh51 (q0 : List Int) (q1 : List Int) : Option (Bool) := bif (q0.length : Int) != (q1.length : Int) then (some false) else (Option.bind (iter (sh51_1 q0 q1) 0) fun y1 => elimS y1 (fun r => some r) fun b1 => (some true))
def T51 (r : Bool) (v : Value) (rs : List Own) : Prop := v = rets [.bool r] ∧ rs = []
set_option maxRecDepth 100000 in
theorem c51 {w : World} {q0 : List Int} {a_0 : Option Addr} {n_0 c_0 : Nat} (g_0 : Rd w a_0 (eI64.fl q0)) (l_0 : q0.length = n_0) (k_0 : n_0 ≤ c_0) {q1 : List Int} {a_1 : Option Addr} {n_1 c_1 : Nat} (g_1 : Rd w a_1 (eI64.fl q1)) (l_1 : q1.length = n_1) (k_1 : n_1 ≤ c_1) {r : Bool} (hres : sh51 q0 q1 = some r) : Calls Go.Proofs.Try.prog 51 [.slice a_0 n_0 c_0, .slice a_1 n_1 c_1].toArray w (Ret w (T51 r)) := by
  subst l_0
  subst l_1
  unfold sh51 at hres
  refine calls_of (n := 26) (M := []) (es := []) Go.Proofs.Try.func51 rfl rfl rfl (Sep.nil _ _ _) ?_
  refine JX.seq ?_
  refine JX.region ?_
  refine JL.val (yl_assign rfl) rfl ?_
  refine JL.nil ?_
  refine JE.code ?_
  refine JX.seq ?_
  refine JX.seq ?_
  refine JX.region ?_
  refine JL.val (yl_move rfl) rfl ?_
  refine JL.val (yl_len_slice Go.Proofs.Try.underlying22 rfl) rfl ?_
  refine JL.val (yl_move rfl) rfl ?_
  refine JL.val (yl_len_slice Go.Proofs.Try.underlying22 rfl) rfl ?_
  refine JL.val (yl_neq rfl rfl) rfl ?_
  refine JL.nil ?_
  refine JE.weak (env' := [(0, .slice a_0 q0.length c_0), (1, .slice a_1 q1.length c_1), (10, .bool ((q0.length : Int) != (q1.length : Int)))]) (es' := []) [] ?_ ⟨rfl, rfl, rfl, trivial⟩ (by decide) rfl
  refine JE.code ?_
  rcases cond_some hres with ⟨hb, hres⟩ | ⟨hb, hres⟩
  · refine JX.condT rfl hb ?_
    refine JX.seq ?_
    refine JX.region ?_
    refine JL.val (yl_assign rfl) rfl ?_
    refine JL.nil ?_
    refine JE.code ?_
    refine JX.ret ?_
    obtain rfl := Option.some.inj hres
    refine JE.ret (rs := [.tmp 4]) (vs := [.bool false]) rfl ⟨rfl, trivial⟩ ?_
    exact fun w' hb hs => ⟨_, _, ⟨rfl, rfl⟩, rfl, hb, hs.sel [] _ (by decide) rfl⟩
  · refine JX.condF rfl hb ?_
    refine JX.skip ?_
    refine JE.code ?_
    refine JX.seq ?_
    refine JX.seq ?_
    refine JX.region ?_
    refine JL.val (yl_assign rfl) rfl ?_
    refine JL.nil ?_
    refine JE.code ?_
    refine JX.block ?_
    obtain ⟨y1, hy1, hresO1⟩ := bind_some hres
    refine JX.loop (I := fun (s1 : Int) aa ww => St w [] 26 [(0, .slice a_0 q0.length c_0), (1, .slice a_1 q1.length c_1), (5, .int .i64 s1)] [] aa ww) (sh51_1 q0 q1) hy1 (fun a w h => h.weak ⟨rfl, rfl, rfl, trivial⟩ [] (by decide) rfl) ?_
    rintro x1 o1 hres hox1 aa ww hS
    refine (?_ : JX Go.Proofs.Try.prog w [] 26 _ _ [(0, .slice a_0 q0.length c_0), (1, .slice a_1 q1.length c_1), (5, .int .i64 x1)] [] _) aa ww hS
    clear hS
    unfold sh51_1 at hres
    refine JX.seq ?_
    refine JX.seq ?_
    refine JX.region ?_
    refine JL.val (yl_move rfl) rfl ?_
    refine JL.val (yl_move rfl) rfl ?_
    refine JL.val (yl_len_slice Go.Proofs.Try.underlying22 rfl) rfl ?_
    refine JL.val (yl_lss rfl rfl) rfl ?_
    refine JL.nil ?_
    refine JE.weak (env' := [(0, .slice a_0 q0.length c_0), (1, .slice a_1 q1.length c_1), (5, .int .i64 x1), (14, .bool (decide (x1 < (q0.length : Int))))]) (es' := []) [] ?_ ⟨rfl, rfl, rfl, rfl, trivial⟩ (by decide) rfl
    refine JE.code ?_
    rcases cond_some hres with ⟨hb, hres⟩ | ⟨hb, hres⟩
    · refine JX.condT rfl hb ?_
      refine JX.skip ?_
      refine JE.code ?_
      refine JX.seq ?_
      refine JX.block ?_
      refine JX.seq ?_
      refine JX.drawH [(0, .pure), (1, .pure), (2, .pure), (3, .read), (4, .pure), (5, .pure), (6, .pure), (7, .read), (8, .pure)] [] [] [] [] [] mixedP (by kernel_rfl) (by kernel_rfl) (by decide) rfl rfl ?_
      intro wrr2 Nr2 hFr2
      refine JH.pure rfl (yl_move rfl) rfl ?_
      refine JH.pure rfl (yl_move rfl) rfl ?_
      obtain ⟨x3, hx3, hres⟩ := bind_some hres
      refine JH.pure rfl (yl_idxQ Go.Proofs.Try.underlying22 i2 i2s rfl rfl hx3 rfl (rd_arg g_0 hFr2.cl) rfl) rfl ?_
      refine JH.read rfl (yl_loadT0 Go.Proofs.Try.underlying2 rfl rfl hx3 (fun w hw => hFr2.arg g_0 hw) rfl) rfl ?_
      refine JH.pure rfl (yl_move rfl) rfl ?_
      refine JH.pure rfl (yl_move rfl) rfl ?_
      obtain ⟨x4, hx4, hres⟩ := bind_some hres
      refine JH.pure rfl (yl_idxQ Go.Proofs.Try.underlying22 i2 i2s rfl rfl hx4 rfl (rd_arg g_1 hFr2.cl) rfl) rfl ?_
      refine JH.read rfl (yl_loadT0 Go.Proofs.Try.underlying2 rfl rfl hx4 (fun w hw => hFr2.arg g_1 hw) rfl) rfl ?_
      refine JH.pure rfl (yl_neq rfl rfl) rfl ?_
      refine JH.nil ?_
      refine JE.weak (env' := [(0, .slice a_0 q0.length c_0), (1, .slice a_1 q1.length c_1), (5, .int .i64 x1), (25, .bool (x3 != x4))]) (es' := []) [] ?_ ⟨rfl, rfl, rfl, rfl, trivial⟩ (by decide) rfl
      refine JE.code ?_
      rcases cond_some hres with ⟨hb, hres⟩ | ⟨hb, hres⟩
      · refine JX.condT rfl hb ?_
        refine JX.seq ?_
        refine JX.region ?_
        refine JL.val (yl_assign rfl) rfl ?_
        refine JL.nil ?_
        refine JE.code ?_
        refine JX.ret ?_
        refine JE.qbr ?_
        refine JE.qbr ?_
        have hres := elimS_inr hresO1 (hox1 _ (Option.some.inj hres).symm)
        obtain rfl := Option.some.inj hres
        refine JE.ret (rs := [.tmp 4]) (vs := [.bool false]) rfl ⟨rfl, trivial⟩ ?_
        exact fun w' hb hs => ⟨_, _, ⟨rfl, rfl⟩, rfl, hb, hs.sel [] _ (by decide) rfl⟩
      · refine JX.condF rfl hb ?_
        refine JX.skip ?_
        refine JE.code ?_
        refine JX.region ?_
        refine JL.val (yl_move rfl) rfl ?_
        refine JL.val (yl_add rfl rfl) rfl ?_
        refine JL.val (yl_assign rfl) rfl ?_
        refine JL.nil ?_
        refine JE.cont hres ?_
        exact fun a w h => h.weak ⟨rfl, rfl, rfl, trivial⟩ [] (by decide) rfl
    · refine JX.condF rfl hb ?_
      refine JX.exit ?_
      refine JE.qb rfl ?_
      obtain ⟨b1, hb1⟩ : ∃ b : Unit, b = () := ⟨_, rfl⟩
      have hy1 : Sum.inl b1 = y1 := by rw [hb1]; exact hox1 _ (Option.some.inj hres).symm
      have hres := elimS_inl hresO1 hy1
      refine JE.weak (env' := []) (es' := []) [] ?_ trivial (by decide) (by subst hb1; rfl)
      refine JE.code ?_
      refine JX.seq ?_
      refine JX.region ?_
      refine JL.val (yl_assign rfl) rfl ?_
      refine JL.nil ?_
      refine JE.code ?_
      refine JX.ret ?_
      obtain rfl := Option.some.inj hres
      refine JE.ret (rs := [.tmp 4]) (vs := [.bool true]) rfl ⟨rfl, trivial⟩ ?_
      exact fun w' hb hs => ⟨_, _, ⟨rfl, rfl⟩, rfl, hb, hs.sel [] _ (by decide) rfl⟩

end Go.Sh
