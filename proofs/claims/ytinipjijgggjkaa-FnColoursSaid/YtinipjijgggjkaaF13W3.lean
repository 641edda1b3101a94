/- Walks through functions that the law reaches, printed by program. -/
import Derived.Test.YtinipjijgggjkaaF13W2
set_option linter.unusedVariables false
set_option linter.unusedSimpArgs false
namespace Go.Sh
open Go Go.RowKit
/- spec.l02Bent -/
def sh108 (q0 : Sl00Src) : Option (SPanel × Int × Int) := Option.bind (sh162 q0 5) fun x3 => Option.bind (sh113 (Sl00Src.mk q0.code x3.2.1 x3.2.2) 20) fun x9 => Option.bind (bif x9.1 == 0 then (Option.bind (sh124 (Sl00Src.mk q0.code x9.2.1 x9.2.2) [0, 8, 9, (-9223372036854775808)]) fun x15 => some ((x15.2.1, x15.2.2), (x15.1, x3.1.H), x3.1.Breaks)) else (Option.bind (bif x9.1 == 1 then (Option.bind (appL x3.1.Breaks [0]) fun x21 => some ((x9.2.1, x9.2.2), (x3.1.W, x3.1.H), x21)) else (Option.bind (bif x9.1 == 2 then (Option.bind (bif decide (0 < (x3.1.Breaks.length : Int)) then (Option.bind (sh113 (Sl00Src.mk q0.code x9.2.1 x9.2.2) (x3.1.Breaks.length : Int)) fun x30 => Option.bind (sh124 (Sl00Src.mk q0.code x30.2.1 x30.2.2) [(-1), 2, 3]) fun x630 => Option.bind (getI x3.1.Breaks x30.1) fun x631 => some ((x630.2.1, x630.2.2), x3.1.Breaks.set (x30.1).toNat x630.1)) else (some ((x9.2.1, x9.2.2), x3.1.Breaks))) fun j27 => (some ((j27.1.1, j27.1.2), (x3.1.W, x3.1.H), j27.2))) else (Option.bind (bif x9.1 == 3 then (Option.bind (sh163 8 8) fun x635 => some ((x635.W, x635.H), x635.Breaks)) else (some ((x3.1.W, x3.1.H), x3.1.Breaks))) fun j632 => (some ((x9.2.1, x9.2.2), (j632.1.1, j632.1.2), j632.2)))) fun j24 => (some ((j24.1.1, j24.1.2), (j24.2.1.1, j24.2.1.2), j24.2.2)))) fun j16 => (some ((j16.1.1, j16.1.2), (j16.2.1.1, j16.2.1.2), j16.2.2)))) fun j10 => (some (SPanel.mk j10.2.1.1 j10.2.1.2 j10.2.2, j10.1.1, j10.1.2))
def T108 (gb_0 : Nat) (a_0_0 : Option Addr) (n_0_0 c_0_0 : Nat) (r : SPanel × Int × Int) (v : Value) (es' rs : List Own) : Prop := es' = [boxO 162 gb_0 [.slice a_0_0 n_0_0 c_0_0, .int .i64 r.2.1, .int .u64 r.2.2]] ∧ ∃ (a0_2 : Option Addr) (n0_2 c0_2 : Nat), r.1.Breaks.length = n0_2 ∧ v = rets [.agg #[.int .i64 r.1.W, .int .i64 r.1.H, .slice a0_2 n0_2 c0_2]] ∧ rs = [rowT 2 eI64 a0_2 n0_2 c0_2 r.1.Breaks]
set_option maxRecDepth 100000 in
theorem c108 {w : World} {M : List Nat} {q0 : Sl00Src} {gb_0 : Nat} {a_0_0 : Option Addr} {n_0_0 c_0_0 : Nat} (g_0_0 : RdS M w a_0_0 (eU8.fl q0.code)) (l_0_0 : q0.code.length = n_0_0) (k_0_0 : n_0_0 ≤ c_0_0) (gs : Sep w.heap.size M w [boxO 162 gb_0 [.slice a_0_0 n_0_0 c_0_0, .int .i64 q0.at_, .int .u64 q0.seed]]) {r : SPanel × Int × Int} (hres : sh108 q0 = some r) : Calls Go.Proofs.Try.prog 108 [ptrAt (some ⟨gb_0, 0, none⟩) 0].toArray w (RetMs w M (T108 gb_0 a_0_0 n_0_0 c_0_0 r)) := by
  subst l_0_0
  unfold sh108 at hres
  refine calls_of (n := 42) (M := M) (es := [boxO 162 gb_0 [.slice a_0_0 q0.code.length c_0_0, .int .i64 q0.at_, .int .u64 q0.seed]]) Go.Proofs.Try.func108 rfl rfl rfl gs ?_
  refine JX.seq ?_
  refine JX.region ?_
  refine JL.eff (ef_alloc i28 i28z rfl) rfl ?_
  rintro _ _ ⟨g1, rfl, rfl⟩
  refine JL.nil ?_
  refine JE.code ?_
  refine JX.seq ?_
  refine JX.region ?_
  refine JL.val (yl_move rfl) rfl ?_
  obtain ⟨x3, hx3, hres⟩ := bind_some hres
  refine JL.eff (ef_callms (caps := []) (vs := [ptrAt (some ⟨gb_0, 0, none⟩) 0, .int .i64 5]) (T := T162 gb_0 a_0_0 q0.code.length c_0_0 x3) [0] [1] [boxO 162 gb_0 [.slice a_0_0 q0.code.length c_0_0, .int .i64 q0.at_, .int .u64 q0.seed]] [boxO 28 g1 [.int .i64 0, .int .i64 0, .slice none 0 0]] rfl Go.Proofs.Try.func162 rfl (by kernel_rfl) rfl (by decide) rfl rfl (fun w N hF hS => c162 (q0 := q0) (RdS.pass hF g_0_0) rfl k_0_0 hS hx3)) rfl ?_
  rintro _ _ ⟨_, _, ⟨rfl, a4, _, cp5, rfl, rfl, rfl⟩, rfl⟩
  refine JL.eff (ef_alloc i28 i28z rfl) rfl ?_
  rintro _ _ ⟨g7, rfl, rfl⟩
  refine JL.eff (ef_store_box (i := 3) (v := .agg #[.int .i64 x3.1.W, .int .i64 x3.1.H, .slice a4 x3.1.Breaks.length cp5]) i28 rfl rfl rfl (i28s).symm (Nat.le_of_ble_eq_true rfl) (by simp [Value.cells, Value.oneCell'])) rfl ?_
  rintro _ _ rfl
  refine JL.nil ?_
  refine JE.weak (env' := [(0, ptrAt (some ⟨gb_0, 0, none⟩) 0), (2, ptrAt (some ⟨g1, 0, none⟩) 0), (3, ptrAt (some ⟨g7, 0, none⟩) 0)]) (es' := [boxO 162 gb_0 [.slice a_0_0 q0.code.length c_0_0, .int .i64 x3.2.1, .int .u64 x3.2.2], boxO 28 g1 [.int .i64 0, .int .i64 0, .slice none 0 0], boxO 28 g7 [.int .i64 x3.1.W, .int .i64 x3.1.H, .slice a4 x3.1.Breaks.length cp5], rowT 2 eI64 a4 x3.1.Breaks.length cp5 x3.1.Breaks]) [1, 0, 3, 2] ?_ ⟨rfl, rfl, rfl, trivial⟩ (by decide) rfl
  refine JE.code ?_
  refine JX.seq ?_
  refine JX.seq ?_
  refine JX.region ?_
  refine JL.val (yl_move rfl) rfl ?_
  obtain ⟨x9, hx9, hres⟩ := bind_some hres
  refine JL.eff (ef_callms (caps := []) (vs := [ptrAt (some ⟨gb_0, 0, none⟩) 0, .int .i64 20]) (T := T113 gb_0 a_0_0 q0.code.length c_0_0 x9) [0] [1, 2, 3] [boxO 162 gb_0 [.slice a_0_0 q0.code.length c_0_0, .int .i64 x3.2.1, .int .u64 x3.2.2]] [boxO 28 g1 [.int .i64 0, .int .i64 0, .slice none 0 0], boxO 28 g7 [.int .i64 x3.1.W, .int .i64 x3.1.H, .slice a4 x3.1.Breaks.length cp5], rowT 2 eI64 a4 x3.1.Breaks.length cp5 x3.1.Breaks] rfl Go.Proofs.Try.func113 rfl (by kernel_rfl) rfl (by decide) rfl rfl (fun w N hF hS => c113 (q0 := Sl00Src.mk q0.code x3.2.1 x3.2.2) (RdS.pass hF g_0_0) rfl k_0_0 hS hx9)) rfl ?_
  rintro _ _ ⟨_, _, ⟨rfl, rfl, rfl⟩, rfl⟩
  refine JL.nil ?_
  refine JE.code ?_
  refine JX.block ?_
  refine JX.seq ?_
  refine JX.region ?_
  refine JL.val (yl_eql rfl rfl) rfl ?_
  refine JL.val (yl_assign rfl) rfl ?_
  refine JL.nil ?_
  refine JE.code ?_
  obtain ⟨j10, hj10, hresj10⟩ := bind_some hres
  refine JX.cut (K := fun J => ∀ (a11 : Option Addr) (cp12 : Nat), J [(2, ptrAt (some ⟨g1, 0, none⟩) 0), (3, ptrAt (some ⟨g7, 0, none⟩) 0)] [boxO 162 gb_0 [.slice a_0_0 q0.code.length c_0_0, .int .i64 j10.1.1, .int .u64 j10.1.2], boxO 28 g1 [.int .i64 0, .int .i64 0, .slice none 0 0], boxO 28 g7 [.int .i64 j10.2.1.1, .int .i64 j10.2.1.2, .slice a11 j10.2.2.length cp12], rowT 2 eI64 a11 j10.2.2.length cp12 j10.2.2]) ?_ ?_
  · intro a11 cp12
    have hres := hresj10
    refine JE.code ?_
    refine JX.seq ?_
    refine JX.region ?_
    refine JL.val (yl_loadn Go.Proofs.Try.underlying28 rfl i28 rfl (fun w hC => rd_box hC 2 rfl) rfl (i28s).symm i28p) rfl ?_
    refine JL.eff (ef_store_box (i := 1) (v := .agg #[.int .i64 j10.2.1.1, .int .i64 j10.2.1.2, .slice a11 j10.2.2.length cp12]) i28 rfl rfl rfl (i28s).symm (Nat.le_of_ble_eq_true rfl) (by simp [Value.cells, Value.oneCell'])) rfl ?_
    rintro _ _ rfl
    refine JL.nil ?_
    refine JE.weak (env' := [(2, ptrAt (some ⟨g1, 0, none⟩) 0)]) (es' := [boxO 162 gb_0 [.slice a_0_0 q0.code.length c_0_0, .int .i64 j10.1.1, .int .u64 j10.1.2], boxO 28 g1 [.int .i64 j10.2.1.1, .int .i64 j10.2.1.2, .slice a11 j10.2.2.length cp12], rowT 2 eI64 a11 j10.2.2.length cp12 j10.2.2]) [0, 1, 3] ?_ ⟨rfl, trivial⟩ (by decide) rfl
    refine JE.code ?_
    refine JX.ret ?_
    obtain rfl := Option.some.inj hres
    refine JE.ret (rs := [.cell 2 28]) (vs := [.agg #[.int .i64 j10.2.1.1, .int .i64 j10.2.1.2, .slice a11 j10.2.2.length cp12]]) rfl ⟨rv_box 1 rfl rfl Go.Proofs.Try.underlying28 rfl i28 (i28s).symm, trivial⟩ ?_
    exact fun w' hb hs => ⟨_, _, _, ⟨rfl, a11, j10.2.2.length, cp12, rfl, rfl, rfl⟩, rfl, hb, hs.sel [0, 2] _ (by decide) rfl⟩
  · intro K
    rcases cond_some hj10 with ⟨hb, hres⟩ | ⟨hb, hres⟩
    · refine JX.condT rfl hb ?_
      refine JX.region ?_
      refine JL.val (yl_move rfl) rfl ?_
      refine JL.eff (ef_buildSlice (E := 2) (k := eI64.k) (us := eI64.fl [0, 8, 9, (-9223372036854775808)]) rfl (fun w => bsl22_4 0 8 9 (-9223372036854775808) w) rfl (by decide)) rfl ?_
      rintro _ _ ⟨a13, rfl, rfl⟩
      obtain ⟨x15, hx15, hres⟩ := bind_some hres
      refine JL.eff (ef_callms (caps := []) (vs := [ptrAt (some ⟨gb_0, 0, none⟩) 0, .slice a13 4 4]) (T := T124 gb_0 a_0_0 q0.code.length c_0_0 x15) [3] [0, 1, 2, 4] [boxO 162 gb_0 [.slice a_0_0 q0.code.length c_0_0, .int .i64 x9.2.1, .int .u64 x9.2.2]] [boxO 28 g1 [.int .i64 0, .int .i64 0, .slice none 0 0], boxO 28 g7 [.int .i64 x3.1.W, .int .i64 x3.1.H, .slice a4 x3.1.Breaks.length cp5], rowT 2 eI64 a4 x3.1.Breaks.length cp5 x3.1.Breaks, rowT 2 eI64 a13 4 4 [0, 8, 9, (-9223372036854775808)]] rfl Go.Proofs.Try.func124 rfl (by kernel_rfl) rfl (by decide) rfl rfl (fun w N hF hS => c124 (q0 := Sl00Src.mk q0.code x9.2.1 x9.2.2) (RdS.pass hF g_0_0) rfl k_0_0 (RdS.row hF 4 rfl rfl) rfl (ln_row hF.cl 4 rfl) hS hx15)) rfl ?_
      rintro _ _ ⟨_, _, ⟨rfl, rfl, rfl⟩, rfl⟩
      refine JL.val (yl_fieldAt (a := some _) Go.Proofs.Try.underlying28 rfl i2 i2n rfl rfl) rfl ?_
      refine JL.eff (ef_store_box (i := 1) (v := .int .i64 x15.1) i2 rfl rfl rfl (i2s).symm (Nat.le_of_ble_eq_true rfl) (by simp [Value.cells, Value.oneCell'])) rfl ?_
      rintro _ _ rfl
      refine JL.nil ?_
      refine JE.weak (env' := [(2, ptrAt (some ⟨g1, 0, none⟩) 0), (3, ptrAt (some ⟨g7, 0, none⟩) 0)]) (es' := [boxO 162 gb_0 [.slice a_0_0 q0.code.length c_0_0, .int .i64 x15.2.1, .int .u64 x15.2.2], boxO 28 g1 [.int .i64 0, .int .i64 0, .slice none 0 0], boxO 28 g7 [.int .i64 x15.1, .int .i64 x3.1.H, .slice a4 x3.1.Breaks.length cp5], rowT 2 eI64 a4 x3.1.Breaks.length cp5 x3.1.Breaks]) [4, 0, 1, 2] ?_ ⟨rfl, rfl, trivial⟩ (by decide) rfl
      have hj := Option.some.inj hres
      exact JE.weak [0, 1, 2, 3] (K a4 cp5) ⟨(by subst hj; rfl), (by subst hj; rfl), trivial⟩ (by decide) (by subst hj; rfl)
    · refine JX.condF rfl hb ?_
      refine JX.seq ?_
      refine JX.region ?_
      refine JL.val (yl_eql rfl rfl) rfl ?_
      refine JL.val (yl_assign rfl) rfl ?_
      refine JL.nil ?_
      refine JE.code ?_
      obtain ⟨j16, hj16, hresj16⟩ := bind_some hres
      refine JX.cut (K := fun J => ∀ (a17 : Option Addr) (cp18 : Nat), J [(2, ptrAt (some ⟨g1, 0, none⟩) 0), (3, ptrAt (some ⟨g7, 0, none⟩) 0)] [boxO 162 gb_0 [.slice a_0_0 q0.code.length c_0_0, .int .i64 j16.1.1, .int .u64 j16.1.2], boxO 28 g1 [.int .i64 0, .int .i64 0, .slice none 0 0], boxO 28 g7 [.int .i64 j16.2.1.1, .int .i64 j16.2.1.2, .slice a17 j16.2.2.length cp18], rowT 2 eI64 a17 j16.2.2.length cp18 j16.2.2]) ?_ ?_
      · intro a17 cp18
        have hres := hresj16
        have hj := Option.some.inj hres
        exact JE.weak [0, 1, 2, 3] (K a17 cp18) ⟨(by subst hj; rfl), (by subst hj; rfl), trivial⟩ (by decide) (by subst hj; rfl)
      · intro K
        rcases cond_some hj16 with ⟨hb, hres⟩ | ⟨hb, hres⟩
        · refine JX.condT rfl hb ?_
          refine JX.region ?_
          refine JL.val (yl_fieldAt (a := some _) Go.Proofs.Try.underlying28 rfl i22 i22n rfl rfl) rfl ?_
          refine JL.val (yl_load1 Go.Proofs.Try.underlying22 rfl rfl (fun w hC => rd_box hC 1 rfl) rfl) rfl ?_
          refine JL.eff (ef_buildSlice (E := 2) (k := eI64.k) (us := eI64.fl [0]) rfl (fun w => bsl22_1 0 w) rfl (by decide)) rfl ?_
          rintro _ _ ⟨a19, rfl, rfl⟩
          obtain ⟨x21, hx21, hres⟩ := bind_some hres
          refine JL.eff (ef_appendT (ix := 2) Go.Proofs.Try.underlying22 i2 i2z i2s rfl i2b0 i2b1 rfl rfl rfl rfl rfl (fun w hC => rd_row hC 4 rfl) hx21) rfl ?_
          rintro _ _ ⟨a22, cp23, rfl, rfl⟩
          refine JL.val (yl_fieldAt (a := some _) Go.Proofs.Try.underlying28 rfl i22 i22n rfl rfl) rfl ?_
          refine JL.eff (ef_store_box (i := 1) (v := .slice a22 x21.length cp23) i22 rfl rfl rfl (i22s).symm (Nat.le_of_ble_eq_true rfl) (by simp [Value.cells, Value.oneCell'])) rfl ?_
          rintro _ _ rfl
          refine JL.nil ?_
          refine JE.weak (env' := [(2, ptrAt (some ⟨g1, 0, none⟩) 0), (3, ptrAt (some ⟨g7, 0, none⟩) 0)]) (es' := [boxO 162 gb_0 [.slice a_0_0 q0.code.length c_0_0, .int .i64 x9.2.1, .int .u64 x9.2.2], boxO 28 g1 [.int .i64 0, .int .i64 0, .slice none 0 0], boxO 28 g7 [.int .i64 x3.1.W, .int .i64 x3.1.H, .slice a22 x21.length cp23], rowT 2 eI64 a22 x21.length cp23 x21]) [3, 0, 1, 2] ?_ ⟨rfl, rfl, trivial⟩ (by decide) rfl
          have hj := Option.some.inj hres
          exact JE.weak [0, 1, 2, 3] (K a22 cp23) ⟨(by subst hj; rfl), (by subst hj; rfl), trivial⟩ (by decide) (by subst hj; rfl)
        · refine JX.condF rfl hb ?_
          refine JX.seq ?_
          refine JX.region ?_
          refine JL.val (yl_eql rfl rfl) rfl ?_
          refine JL.val (yl_assign rfl) rfl ?_
          refine JL.nil ?_
          refine JE.code ?_
          obtain ⟨j24, hj24, hresj24⟩ := bind_some hres
          refine JX.cut (K := fun J => ∀ (a25 : Option Addr) (cp26 : Nat), J [(2, ptrAt (some ⟨g1, 0, none⟩) 0), (3, ptrAt (some ⟨g7, 0, none⟩) 0)] [boxO 162 gb_0 [.slice a_0_0 q0.code.length c_0_0, .int .i64 j24.1.1, .int .u64 j24.1.2], boxO 28 g1 [.int .i64 0, .int .i64 0, .slice none 0 0], boxO 28 g7 [.int .i64 j24.2.1.1, .int .i64 j24.2.1.2, .slice a25 j24.2.2.length cp26], rowT 2 eI64 a25 j24.2.2.length cp26 j24.2.2]) ?_ ?_
          · intro a25 cp26
            have hres := hresj24
            have hj := Option.some.inj hres
            exact JE.weak [0, 1, 2, 3] (K a25 cp26) ⟨(by subst hj; rfl), (by subst hj; rfl), trivial⟩ (by decide) (by subst hj; rfl)
          · intro K
            rcases cond_some hj24 with ⟨hb, hres⟩ | ⟨hb, hres⟩
            · refine JX.condT rfl hb ?_
              refine JX.seq ?_
              refine JX.region ?_
              refine JL.val (yl_fieldAt (a := some _) Go.Proofs.Try.underlying28 rfl i22 i22n rfl rfl) rfl ?_
              refine JL.val (yl_load1 Go.Proofs.Try.underlying22 rfl rfl (fun w hC => rd_box hC 1 rfl) rfl) rfl ?_
              refine JL.val (yl_len_slice Go.Proofs.Try.underlying22 rfl) rfl ?_
              refine JL.val (yl_gtr rfl rfl) rfl ?_
              refine JL.nil ?_
              refine JE.weak (env' := [(0, ptrAt (some ⟨gb_0, 0, none⟩) 0), (2, ptrAt (some ⟨g1, 0, none⟩) 0), (3, ptrAt (some ⟨g7, 0, none⟩) 0), (26, .bool (decide (0 < (x3.1.Breaks.length : Int))))]) (es' := [boxO 162 gb_0 [.slice a_0_0 q0.code.length c_0_0, .int .i64 x9.2.1, .int .u64 x9.2.2], boxO 28 g1 [.int .i64 0, .int .i64 0, .slice none 0 0], boxO 28 g7 [.int .i64 x3.1.W, .int .i64 x3.1.H, .slice a4 x3.1.Breaks.length cp5], rowT 2 eI64 a4 x3.1.Breaks.length cp5 x3.1.Breaks]) [3, 0, 1, 2] ?_ ⟨rfl, rfl, rfl, rfl, trivial⟩ (by decide) rfl
              refine JE.code ?_
              obtain ⟨j27, hj27, hresj27⟩ := bind_some hres
              refine JX.cut (K := fun J => ∀ (l28 : j27.2.length = x3.1.Breaks.length), J [(2, ptrAt (some ⟨g1, 0, none⟩) 0), (3, ptrAt (some ⟨g7, 0, none⟩) 0)] [boxO 162 gb_0 [.slice a_0_0 q0.code.length c_0_0, .int .i64 j27.1.1, .int .u64 j27.1.2], boxO 28 g1 [.int .i64 0, .int .i64 0, .slice none 0 0], boxO 28 g7 [.int .i64 x3.1.W, .int .i64 x3.1.H, .slice a4 x3.1.Breaks.length cp5], rowT 2 eI64 a4 x3.1.Breaks.length cp5 j27.2]) ?_ ?_
              · intro l28
                have hres := hresj27
                have hj := Option.some.inj hres
                exact JE.weak [0, 1, 2, 3] (K a4 cp5) ⟨(by subst hj; rfl), (by subst hj; rfl), trivial⟩ (by decide) (by subst hj; first | rfl | (simp only [List.length_set, l28]; rfl) | simp only [List.length_set, l28])
              · intro K
                rcases cond_some hj27 with ⟨hb, hres⟩ | ⟨hb, hres⟩
                · refine JX.condT rfl hb ?_
                  refine JX.drawH [(0, .pure), (1, .read), (2, .pure), (3, .pure), (4, .read), (5, .pure), (7, .pure), (0, .tree (.alt 6 (.alt 8 .done .nil) (.alt 8 (.alt 6 .done .nil) .nil))), (9, .must), (10, .must), (11, .must)] [6, 9, 11] [0, 3] [1, 2] [boxO 162 gb_0 [.slice a_0_0 q0.code.length c_0_0, .int .i64 x9.2.1, .int .u64 x9.2.2], rowT 2 eI64 a4 x3.1.Breaks.length cp5 x3.1.Breaks] [boxO 28 g1 [.int .i64 0, .int .i64 0, .slice none 0 0], boxO 28 g7 [.int .i64 x3.1.W, .int .i64 x3.1.H, .slice a4 x3.1.Breaks.length cp5]] mixedP (by kernel_rfl) (by kernel_rfl) (by decide) rfl rfl ?_
                  intro wrr29 Nr29 hFr29
                  refine JH.pure rfl (yl_fieldAt (a := some _) Go.Proofs.Try.underlying28 rfl i22 i22n rfl rfl) rfl ?_
                  refine JH.read rfl (yl_load1 Go.Proofs.Try.underlying22 rfl rfl (fun w hw => hFr29.box 2 rfl rfl hw) rfl) rfl ?_
                  refine JH.pure rfl (yl_move rfl) rfl ?_
                  refine JH.pure rfl (yl_fieldAt (a := some _) Go.Proofs.Try.underlying28 rfl i22 i22n rfl rfl) rfl ?_
                  refine JH.read rfl (yl_load1 Go.Proofs.Try.underlying22 rfl rfl (fun w hw => hFr29.box 2 rfl rfl hw) rfl) rfl ?_
                  refine JH.pure rfl (yl_len_slice Go.Proofs.Try.underlying22 rfl) rfl ?_
                  refine JH.pure rfl (yl_move rfl) rfl ?_
                  obtain ⟨x30, hx30, hres⟩ := bind_some hres
                  refine JH.cutS (K := fun J => ∀ (a330 : Option Addr), J [(2, ptrAt (some ⟨g1, 0, none⟩) 0), (3, ptrAt (some ⟨g7, 0, none⟩) 0), (28, .slice a4 x3.1.Breaks.length cp5), (33, .int .i64 x30.1), (34, ptrAt (some ⟨gb_0, 0, none⟩) 0), (35, .slice a330 3 3)] [rowT 2 eI64 a4 x3.1.Breaks.length cp5 x3.1.Breaks, boxO 162 gb_0 [.slice a_0_0 q0.code.length c_0_0, .int .i64 x30.2.1, .int .u64 x30.2.2], rowT 2 eI64 a330 3 3 [(-1), 2, 3]]) false 1 ?_ ?_
                  · intro a330
                    obtain ⟨x630, hx630, hres⟩ := bind_some hres
                    refine JH.must rfl (ef_callms (caps := []) (vs := [ptrAt (some ⟨gb_0, 0, none⟩) 0, .slice a330 3 3]) (T := T124 gb_0 a_0_0 q0.code.length c_0_0 x630) [1] [0, 2] [boxO 162 gb_0 [.slice a_0_0 q0.code.length c_0_0, .int .i64 x30.2.1, .int .u64 x30.2.2]] [rowT 2 eI64 a4 x3.1.Breaks.length cp5 x3.1.Breaks, rowT 2 eI64 a330 3 3 [(-1), 2, 3]] rfl Go.Proofs.Try.func124 rfl (by kernel_rfl) rfl (by decide) rfl rfl (fun w N hF hS => c124 (q0 := Sl00Src.mk q0.code x30.2.1 x30.2.2) (RdS.pass hF (RdS.pass hFr29 g_0_0)) rfl k_0_0 (RdS.row hF 2 rfl rfl) rfl (ln_row hF.cl 2 rfl) hS hx630)) rfl rfl ?_
                    rintro _ _ ⟨_, _, ⟨rfl, rfl, rfl⟩, rfl⟩
                    obtain ⟨x631, hx631, hres⟩ := bind_some hres
                    refine JH.mval rfl (yl_idxQ Go.Proofs.Try.underlying22 i2 i2s rfl rfl hx631 rfl (rd_row hFr29.cl 3 rfl) rfl) rfl ?_
                    refine JH.must rfl (ef_storeT (ix := 0) (u := x630.1) i2 i2s rfl rfl rfl hx631 rfl) rfl rfl ?_
                    rintro _ _ rfl
                    refine JH.nil ?_
                    refine JE.weak (env' := [(2, ptrAt (some ⟨g1, 0, none⟩) 0), (3, ptrAt (some ⟨g7, 0, none⟩) 0)]) (es' := [boxO 162 gb_0 [.slice a_0_0 q0.code.length c_0_0, .int .i64 x630.2.1, .int .u64 x630.2.2], boxO 28 g1 [.int .i64 0, .int .i64 0, .slice none 0 0], boxO 28 g7 [.int .i64 x3.1.W, .int .i64 x3.1.H, .slice a4 x3.1.Breaks.length cp5], rowT 2 eI64 a4 x3.1.Breaks.length cp5 (x3.1.Breaks.set (x30.1).toNat x630.1)]) [4, 0, 1, 2] ?_ ⟨rfl, rfl, trivial⟩ (by decide) rfl
                    have hj := Option.some.inj hres
                    exact JE.weak [0, 1, 2, 3] (K (by subst hj; exact List.length_set)) ⟨(by subst hj; rfl), (by subst hj; rfl), trivial⟩ (by decide) (by subst hj; rfl)
                  · intro K
                    refine JH.talt ?_ ?_
                    · refine JH.must rfl (ef_callms (caps := []) (vs := [ptrAt (some ⟨gb_0, 0, none⟩) 0, .int .i64 (x3.1.Breaks.length : Int)]) (T := T113 gb_0 a_0_0 q0.code.length c_0_0 x30) [0] [1] [boxO 162 gb_0 [.slice a_0_0 q0.code.length c_0_0, .int .i64 x9.2.1, .int .u64 x9.2.2]] [rowT 2 eI64 a4 x3.1.Breaks.length cp5 x3.1.Breaks] rfl Go.Proofs.Try.func113 rfl (by kernel_rfl) rfl (by decide) rfl rfl (fun w N hF hS => c113 (q0 := Sl00Src.mk q0.code x9.2.1 x9.2.2) (RdS.pass hF (RdS.pass hFr29 g_0_0)) rfl k_0_0 hS hx30)) rfl rfl ?_
                      rintro _ _ ⟨_, _, ⟨rfl, rfl, rfl⟩, rfl⟩
                      refine JH.talt ?_ ?_
                      · refine JH.must rfl (ef_buildSlice (E := 2) (k := eI64.k) (us := eI64.fl [(-1), 2, 3]) rfl (fun w => bsl22_3 (-1) 2 3 w) rfl (by decide)) rfl rfl ?_
                        rintro _ _ ⟨a330, rfl, rfl⟩
                        refine JH.tdone ?_
                        exact JH.weak [0, 1, 2] (K a330) ⟨rfl, rfl, rfl, rfl, rfl, rfl, trivial⟩ (by decide) rfl
                      · exact JH.tnil
                    · refine JH.talt ?_ ?_
                      · refine JH.must rfl (ef_buildSlice (E := 2) (k := eI64.k) (us := eI64.fl [(-1), 2, 3]) rfl (fun w => bsl22_3 (-1) 2 3 w) rfl (by decide)) rfl rfl ?_
                        rintro _ _ ⟨a330, rfl, rfl⟩
                        refine JH.talt ?_ ?_
                        · refine JH.must rfl (ef_callms (caps := []) (vs := [ptrAt (some ⟨gb_0, 0, none⟩) 0, .int .i64 (x3.1.Breaks.length : Int)]) (T := T113 gb_0 a_0_0 q0.code.length c_0_0 x30) [0] [1, 2] [boxO 162 gb_0 [.slice a_0_0 q0.code.length c_0_0, .int .i64 x9.2.1, .int .u64 x9.2.2]] [rowT 2 eI64 a4 x3.1.Breaks.length cp5 x3.1.Breaks, rowT 2 eI64 a330 3 3 [(-1), 2, 3]] rfl Go.Proofs.Try.func113 rfl (by kernel_rfl) rfl (by decide) rfl rfl (fun w N hF hS => c113 (q0 := Sl00Src.mk q0.code x9.2.1 x9.2.2) (RdS.pass hF (RdS.pass hFr29 g_0_0)) rfl k_0_0 hS hx30)) rfl rfl ?_
                          rintro _ _ ⟨_, _, ⟨rfl, rfl, rfl⟩, rfl⟩
                          refine JH.tdone ?_
                          exact JH.weak [0, 2, 1] (K a330) ⟨rfl, rfl, rfl, rfl, rfl, rfl, trivial⟩ (by decide) rfl
                        · exact JH.tnil
                      · exact JH.tnil
                · refine JX.condF rfl hb ?_
                  refine JX.skip ?_
                  have hj := Option.some.inj hres
                  exact JE.weak [0, 1, 2, 3] (K (by subst hj; exact rfl)) ⟨(by subst hj; rfl), (by subst hj; rfl), trivial⟩ (by decide) (by subst hj; rfl)
            · refine JX.condF rfl hb ?_
              refine JX.seq ?_
              refine JX.region ?_
              refine JL.val (yl_eql rfl rfl) rfl ?_
              refine JL.val (yl_assign rfl) rfl ?_
              refine JL.nil ?_
              refine JE.code ?_
              obtain ⟨j632, hj632, hresj632⟩ := bind_some hres
              refine JX.cut (K := fun J => ∀ (a633 : Option Addr) (cp634 : Nat), J [(2, ptrAt (some ⟨g1, 0, none⟩) 0), (3, ptrAt (some ⟨g7, 0, none⟩) 0)] [boxO 162 gb_0 [.slice a_0_0 q0.code.length c_0_0, .int .i64 x9.2.1, .int .u64 x9.2.2], boxO 28 g1 [.int .i64 0, .int .i64 0, .slice none 0 0], boxO 28 g7 [.int .i64 j632.1.1, .int .i64 j632.1.2, .slice a633 j632.2.length cp634], rowT 2 eI64 a633 j632.2.length cp634 j632.2]) ?_ ?_
              · intro a633 cp634
                have hres := hresj632
                have hj := Option.some.inj hres
                exact JE.weak [0, 1, 2, 3] (K a633 cp634) ⟨(by subst hj; rfl), (by subst hj; rfl), trivial⟩ (by decide) (by subst hj; rfl)
              · intro K
                rcases cond_some hj632 with ⟨hb, hres⟩ | ⟨hb, hres⟩
                · refine JX.condT rfl hb ?_
                  refine JX.region ?_
                  obtain ⟨x635, hx635, hres⟩ := bind_some hres
                  refine JL.eff (ef_call (T := T163 x635) Go.Proofs.Try.func163 rfl (by kernel_rfl) rfl (fun w hC => c163  hx635)) rfl ?_
                  rintro _ _ ⟨_, ⟨a636, _, cp637, rfl, rfl, rfl⟩, rfl⟩
                  refine JL.eff (ef_store_box (i := 1) (v := .agg #[.int .i64 x635.W, .int .i64 x635.H, .slice a636 x635.Breaks.length cp637]) i28 rfl rfl rfl (i28s).symm (Nat.le_of_ble_eq_true rfl) (by simp [Value.cells, Value.oneCell'])) rfl ?_
                  rintro _ _ rfl
                  refine JL.nil ?_
                  refine JE.weak (env' := [(2, ptrAt (some ⟨g1, 0, none⟩) 0), (3, ptrAt (some ⟨g7, 0, none⟩) 0)]) (es' := [boxO 162 gb_0 [.slice a_0_0 q0.code.length c_0_0, .int .i64 x9.2.1, .int .u64 x9.2.2], boxO 28 g1 [.int .i64 0, .int .i64 0, .slice none 0 0], boxO 28 g7 [.int .i64 x635.W, .int .i64 x635.H, .slice a636 x635.Breaks.length cp637], rowT 2 eI64 a636 x635.Breaks.length cp637 x635.Breaks]) [3, 0, 1, 4] ?_ ⟨rfl, rfl, trivial⟩ (by decide) rfl
                  have hj := Option.some.inj hres
                  exact JE.weak [0, 1, 2, 3] (K a636 cp637) ⟨(by subst hj; rfl), (by subst hj; rfl), trivial⟩ (by decide) (by subst hj; rfl)
                · refine JX.condF rfl hb ?_
                  refine JX.skip ?_
                  have hj := Option.some.inj hres
                  exact JE.weak [3, 0, 1, 2] (K a4 cp5) ⟨(by subst hj; rfl), (by subst hj; rfl), trivial⟩ (by decide) (by subst hj; rfl)

/- spec.l00From -/
def sh109 (q0 : List Int) : Option (Sl00Src) := some (Sl00Src.mk q0 0 0)
def T109 (a_0 : Option Addr) (n_0 c_0 : Nat) (r : Sl00Src) (v : Value) (rs : List Own) : Prop := ∃ (gr0 : Nat), v = rets [ptrAt (some ⟨gr0, 0, none⟩) 0] ∧ rs = [boxO 162 gr0 [.slice a_0 n_0 c_0, .int .i64 r.at_, .int .u64 r.seed]]
set_option maxRecDepth 100000 in
theorem c109 {w : World} {q0 : List Int} {a_0 : Option Addr} {n_0 c_0 : Nat} (g_0 : Rd w a_0 (eU8.fl q0)) (l_0 : q0.length = n_0) (k_0 : n_0 ≤ c_0) {r : Sl00Src} (hres : sh109 q0 = some r) : Calls Go.Proofs.Try.prog 109 [.slice a_0 n_0 c_0].toArray w (Ret w (T109 a_0 n_0 c_0 r)) := by
  subst l_0
  unfold sh109 at hres
  refine calls_of (n := 6) (M := []) (es := []) Go.Proofs.Try.func109 rfl rfl rfl (Sep.nil _ _ _) ?_
  refine JX.seq ?_
  refine JX.region ?_
  refine JL.val (yl_assign rfl) rfl ?_
  refine JL.nil ?_
  refine JE.code ?_
  refine JX.seq ?_
  refine JX.region ?_
  refine JL.val (yl_move rfl) rfl ?_
  refine JL.val (yl_build rfl (fun w => bld162_0 a_0 q0.length c_0 w)) rfl ?_
  refine JL.eff (ef_box rfl rfl) rfl ?_
  rintro _ _ ⟨g1, rfl, rfl⟩
  refine JL.val (yl_assign rfl) rfl ?_
  refine JL.nil ?_
  refine JE.weak (env' := [(2, ptrAt (some ⟨g1, 0, none⟩) 0)]) (es' := [boxO 162 g1 [.slice a_0 q0.length c_0, .int .i64 0, .int .u64 0]]) [0] ?_ ⟨rfl, trivial⟩ (by decide) rfl
  refine JE.code ?_
  refine JX.ret ?_
  obtain rfl := Option.some.inj hres
  refine JE.ret (rs := [.tmp 2]) (vs := [ptrAt (some ⟨g1, 0, none⟩) 0]) rfl ⟨rfl, trivial⟩ ?_
  exact fun w' hb hs => ⟨_, _, ⟨g1, rfl, rfl⟩, rfl, hb, hs.sel [0] _ (by decide) rfl⟩

/- spec.DrawColourCurves -/
def sh52 (q0 : List Int) : Option (SPanel) := Option.bind (sh109 q0) fun x3 => Option.bind (sh108 (Sl00Src.mk q0 x3.at_ x3.seed)) fun x6 => some x6.1
def T52 (r : SPanel) (v : Value) (rs : List Own) : Prop := ∃ (a0_2 : Option Addr) (n0_2 c0_2 : Nat), r.Breaks.length = n0_2 ∧ v = rets [.agg #[.int .i64 r.W, .int .i64 r.H, .slice a0_2 n0_2 c0_2]] ∧ rs = [rowT 2 eI64 a0_2 n0_2 c0_2 r.Breaks]
set_option maxRecDepth 100000 in
theorem c52 {w : World} {q0 : List Int} {a_0 : Option Addr} {n_0 c_0 : Nat} (g_0 : Rd w a_0 (eU8.fl q0)) (l_0 : q0.length = n_0) (k_0 : n_0 ≤ c_0) {r : SPanel} (hres : sh52 q0 = some r) : Calls Go.Proofs.Try.prog 52 [.slice a_0 n_0 c_0].toArray w (Ret w (T52 r)) := by
  subst l_0
  unfold sh52 at hres
  refine calls_of (n := 6) (M := []) (es := []) Go.Proofs.Try.func52 rfl rfl rfl (Sep.nil _ _ _) ?_
  refine JX.seq ?_
  refine JX.region ?_
  refine JL.eff (ef_alloc i28 i28z rfl) rfl ?_
  rintro _ _ ⟨g1, rfl, rfl⟩
  refine JL.nil ?_
  refine JE.code ?_
  refine JX.seq ?_
  refine JX.region ?_
  refine JL.val (yl_move rfl) rfl ?_
  obtain ⟨x3, hx3, hres⟩ := bind_some hres
  refine JL.eff (ef_call (T := T109 a_0 q0.length c_0 x3) Go.Proofs.Try.func109 rfl (by kernel_rfl) rfl (fun w hC => c109 (rd_arg g_0 hC) rfl k_0 hx3)) rfl ?_
  rintro _ _ ⟨_, ⟨g4, rfl, rfl⟩, rfl⟩
  obtain ⟨x6, hx6, hres⟩ := bind_some hres
  refine JL.eff (ef_callms (caps := []) (vs := [ptrAt (some ⟨g4, 0, none⟩) 0]) (T := T108 g4 a_0 q0.length c_0 x6) [1] [0] [boxO 162 g4 [.slice a_0 q0.length c_0, .int .i64 x3.at_, .int .u64 x3.seed]] [boxO 28 g1 [.int .i64 0, .int .i64 0, .slice none 0 0]] rfl Go.Proofs.Try.func108 rfl (by kernel_rfl) rfl (by decide) rfl rfl (fun w N hF hS => c108 (q0 := Sl00Src.mk q0 x3.at_ x3.seed) (RdS.pass0 hF g_0) rfl k_0 hS hx6)) rfl ?_
  rintro _ _ ⟨_, _, ⟨rfl, a7, _, cp8, rfl, rfl, rfl⟩, rfl⟩
  refine JL.eff (ef_store_box (i := 0) (v := .agg #[.int .i64 x6.1.W, .int .i64 x6.1.H, .slice a7 x6.1.Breaks.length cp8]) i28 rfl rfl rfl (i28s).symm (Nat.le_of_ble_eq_true rfl) (by simp [Value.cells, Value.oneCell'])) rfl ?_
  rintro _ _ rfl
  refine JL.nil ?_
  refine JE.weak (env' := [(2, ptrAt (some ⟨g1, 0, none⟩) 0)]) (es' := [boxO 28 g1 [.int .i64 x6.1.W, .int .i64 x6.1.H, .slice a7 x6.1.Breaks.length cp8], rowT 2 eI64 a7 x6.1.Breaks.length cp8 x6.1.Breaks]) [0, 2] ?_ ⟨rfl, trivial⟩ (by decide) rfl
  refine JE.code ?_
  refine JX.ret ?_
  obtain rfl := Option.some.inj hres
  refine JE.ret (rs := [.cell 2 28]) (vs := [.agg #[.int .i64 x6.1.W, .int .i64 x6.1.H, .slice a7 x6.1.Breaks.length cp8]]) rfl ⟨rv_box 0 rfl rfl Go.Proofs.Try.underlying28 rfl i28 (i28s).symm, trivial⟩ ?_
  exact fun w' hb hs => ⟨_, _, ⟨a7, x6.1.Breaks.length, cp8, rfl, rfl, rfl⟩, rfl, hb, hs.sel [1] _ (by decide) rfl⟩

/- spec.DrawFewestColours -/
def sh53 (q0 : List Int) : Option (SPanel) := Option.bind (sh109 q0) fun x3 => Option.bind (sh108 (Sl00Src.mk q0 x3.at_ x3.seed)) fun x6 => some x6.1
def T53 (r : SPanel) (v : Value) (rs : List Own) : Prop := ∃ (a0_2 : Option Addr) (n0_2 c0_2 : Nat), r.Breaks.length = n0_2 ∧ v = rets [.agg #[.int .i64 r.W, .int .i64 r.H, .slice a0_2 n0_2 c0_2]] ∧ rs = [rowT 2 eI64 a0_2 n0_2 c0_2 r.Breaks]
set_option maxRecDepth 100000 in
theorem c53 {w : World} {q0 : List Int} {a_0 : Option Addr} {n_0 c_0 : Nat} (g_0 : Rd w a_0 (eU8.fl q0)) (l_0 : q0.length = n_0) (k_0 : n_0 ≤ c_0) {r : SPanel} (hres : sh53 q0 = some r) : Calls Go.Proofs.Try.prog 53 [.slice a_0 n_0 c_0].toArray w (Ret w (T53 r)) := by
  subst l_0
  unfold sh53 at hres
  refine calls_of (n := 6) (M := []) (es := []) Go.Proofs.Try.func53 rfl rfl rfl (Sep.nil _ _ _) ?_
  refine JX.seq ?_
  refine JX.region ?_
  refine JL.eff (ef_alloc i28 i28z rfl) rfl ?_
  rintro _ _ ⟨g1, rfl, rfl⟩
  refine JL.nil ?_
  refine JE.code ?_
  refine JX.seq ?_
  refine JX.region ?_
  refine JL.val (yl_move rfl) rfl ?_
  obtain ⟨x3, hx3, hres⟩ := bind_some hres
  refine JL.eff (ef_call (T := T109 a_0 q0.length c_0 x3) Go.Proofs.Try.func109 rfl (by kernel_rfl) rfl (fun w hC => c109 (rd_arg g_0 hC) rfl k_0 hx3)) rfl ?_
  rintro _ _ ⟨_, ⟨g4, rfl, rfl⟩, rfl⟩
  obtain ⟨x6, hx6, hres⟩ := bind_some hres
  refine JL.eff (ef_callms (caps := []) (vs := [ptrAt (some ⟨g4, 0, none⟩) 0]) (T := T108 g4 a_0 q0.length c_0 x6) [1] [0] [boxO 162 g4 [.slice a_0 q0.length c_0, .int .i64 x3.at_, .int .u64 x3.seed]] [boxO 28 g1 [.int .i64 0, .int .i64 0, .slice none 0 0]] rfl Go.Proofs.Try.func108 rfl (by kernel_rfl) rfl (by decide) rfl rfl (fun w N hF hS => c108 (q0 := Sl00Src.mk q0 x3.at_ x3.seed) (RdS.pass0 hF g_0) rfl k_0 hS hx6)) rfl ?_
  rintro _ _ ⟨_, _, ⟨rfl, a7, _, cp8, rfl, rfl, rfl⟩, rfl⟩
  refine JL.eff (ef_store_box (i := 0) (v := .agg #[.int .i64 x6.1.W, .int .i64 x6.1.H, .slice a7 x6.1.Breaks.length cp8]) i28 rfl rfl rfl (i28s).symm (Nat.le_of_ble_eq_true rfl) (by simp [Value.cells, Value.oneCell'])) rfl ?_
  rintro _ _ rfl
  refine JL.nil ?_
  refine JE.weak (env' := [(2, ptrAt (some ⟨g1, 0, none⟩) 0)]) (es' := [boxO 28 g1 [.int .i64 x6.1.W, .int .i64 x6.1.H, .slice a7 x6.1.Breaks.length cp8], rowT 2 eI64 a7 x6.1.Breaks.length cp8 x6.1.Breaks]) [0, 2] ?_ ⟨rfl, trivial⟩ (by decide) rfl
  refine JE.code ?_
  refine JX.ret ?_
  obtain rfl := Option.some.inj hres
  refine JE.ret (rs := [.cell 2 28]) (vs := [.agg #[.int .i64 x6.1.W, .int .i64 x6.1.H, .slice a7 x6.1.Breaks.length cp8]]) rfl ⟨rv_box 0 rfl rfl Go.Proofs.Try.underlying28 rfl i28 (i28s).symm, trivial⟩ ?_
  exact fun w' hb hs => ⟨_, _, ⟨a7, x6.1.Breaks.length, cp8, rfl, rfl, rfl⟩, rfl, hb, hs.sel [1] _ (by decide) rfl⟩

/- spec.l00Min -/
def sh164 (q0 : Int) (q1 : Int) : Option (Int) := bif decide (q0 < q1) then (some q0) else (some q1)
def T164 (r : Int) (v : Value) (rs : List Own) : Prop := v = rets [.int .i64 r] ∧ rs = []
set_option maxRecDepth 100000 in
theorem c164 {w : World} {q0 : Int} {q1 : Int} {r : Int} (hres : sh164 q0 q1 = some r) : Calls Go.Proofs.Try.prog 164 [.int .i64 q0, .int .i64 q1].toArray w (Ret w (T164 r)) := by
  unfold sh164 at hres
  refine calls_of (n := 10) (M := []) (es := []) Go.Proofs.Try.func164 rfl rfl rfl (Sep.nil _ _ _) ?_
  refine JX.seq ?_
  refine JX.region ?_
  refine JL.val (yl_assign rfl) rfl ?_
  refine JL.nil ?_
  refine JE.code ?_
  refine JX.seq ?_
  refine JX.seq ?_
  refine JX.region ?_
  refine JL.val (yl_move rfl) rfl ?_
  refine JL.val (yl_move rfl) rfl ?_
  refine JL.val (yl_lss rfl rfl) rfl ?_
  refine JL.nil ?_
  refine JE.code ?_
  rcases cond_some hres with ⟨hb, hres⟩ | ⟨hb, hres⟩
  · refine JX.condT rfl hb ?_
    refine JX.seq ?_
    refine JX.region ?_
    refine JL.val (yl_move rfl) rfl ?_
    refine JL.val (yl_assign rfl) rfl ?_
    refine JL.nil ?_
    refine JE.code ?_
    refine JX.ret ?_
    obtain rfl := Option.some.inj hres
    refine JE.ret (rs := [.tmp 4]) (vs := [.int .i64 q0]) rfl ⟨rfl, trivial⟩ ?_
    exact fun w' hb hs => ⟨_, _, ⟨rfl, rfl⟩, rfl, hb, hs.sel [] _ (by decide) rfl⟩
  · refine JX.condF rfl hb ?_
    refine JX.skip ?_
    refine JE.code ?_
    refine JX.seq ?_
    refine JX.region ?_
    refine JL.val (yl_move rfl) rfl ?_
    refine JL.val (yl_assign rfl) rfl ?_
    refine JL.nil ?_
    refine JE.code ?_
    refine JX.ret ?_
    obtain rfl := Option.some.inj hres
    refine JE.ret (rs := [.tmp 4]) (vs := [.int .i64 q1]) rfl ⟨rfl, trivial⟩ ?_
    exact fun w' hb hs => ⟨_, _, ⟨rfl, rfl⟩, rfl, hb, hs.sel [] _ (by decide) rfl⟩

/- spec.l21Colours -/
def sh112_1 (x22 : List Int) : (Int × List Int) → Option ((Int × List Int) ⊕ (List Int))
  | (x27, x28) => bif decide (x27 < (x22.length : Int)) then (Option.bind (getI x28 x27) fun x30 => Option.bind (sh164 x30 9) fun x31 => Option.bind (getI x28 x27) fun x32 => some (.inl (w64 (x27 + 1), x28.set (x27).toNat x31))) else (some (.inr x28))
def sh112 (q0 : List Int) : Option (SPanel × List Int) := Option.bind (sh109 q0) fun x3 => Option.bind (sh108 (Sl00Src.mk q0 x3.at_ x3.seed)) fun x6 => Option.bind (sh82 x6.1) fun x12 => bif !x12 then (some (x6.1, [0])) else (Option.bind (sh94 x6.1) fun x15 => Option.bind (sh99 x15) fun x22 => Option.bind (iter (sh112_1 x22) (0, x22)) fun b1 => (Option.bind (sh113 (Sl00Src.mk q0 x6.2.1 x6.2.2) 6) fun x34 => Option.bind (bif x34.1 == 0 then (Option.bind (sh113 (Sl00Src.mk q0 x34.2.1 x34.2.2) ((x22.length : Nat) : Int)) fun x38 => Option.bind (sh113 (Sl00Src.mk q0 x38.2.1 x38.2.2) 4) fun x39 => Option.bind (getI b1 x38.1) fun x40 => some (b1.set (x38.1).toNat x39.1)) else (Option.bind (bif x34.1 == 1 then (Option.bind (sh124 (Sl00Src.mk q0 x34.2.1 x34.2.2) [(-1), 9, 10]) fun x46 => Option.bind (getI b1 (0 : Int)) fun x47 => some (b1.set ((0 : Int)).toNat x46.1)) else (Option.bind (bif x34.1 == 2 then (Option.bind (appL b1 [0]) fun x53 => some x53) else (some b1)) fun j48 => (some j48))) fun j41 => (some j41))) fun j35 => (some (x6.1, j35))))
def T112 (r : SPanel × List Int) (v : Value) (rs : List Own) : Prop := ∃ (a0_2 : Option Addr) (n0_2 c0_2 : Nat), r.1.Breaks.length = n0_2 ∧ ∃ (a1 : Option Addr) (n1 c1 : Nat), r.2.length = n1 ∧ v = rets [.agg #[.int .i64 r.1.W, .int .i64 r.1.H, .slice a0_2 n0_2 c0_2], .slice a1 n1 c1] ∧ rs = [rowT 2 eI64 a0_2 n0_2 c0_2 r.1.Breaks, rowT 2 eI64 a1 n1 c1 r.2]
set_option maxRecDepth 100000 in
theorem c112 {w : World} {q0 : List Int} {a_0 : Option Addr} {n_0 c_0 : Nat} (g_0 : Rd w a_0 (eU8.fl q0)) (l_0 : q0.length = n_0) (k_0 : n_0 ≤ c_0) {r : SPanel × List Int} (hres : sh112 q0 = some r) : Calls Go.Proofs.Try.prog 112 [.slice a_0 n_0 c_0].toArray w (Ret w (T112 r)) := by
  subst l_0
  unfold sh112 at hres
  refine calls_of (n := 58) (M := []) (es := []) Go.Proofs.Try.func112 rfl rfl rfl (Sep.nil _ _ _) ?_
  refine JX.seq ?_
  refine JX.region ?_
  refine JL.eff (ef_alloc i28 i28z rfl) rfl ?_
  rintro _ _ ⟨g1, rfl, rfl⟩
  refine JL.val (yl_assign rfl) rfl ?_
  refine JL.nil ?_
  refine JE.code ?_
  refine JX.seq ?_
  refine JX.region ?_
  refine JL.val (yl_move rfl) rfl ?_
  obtain ⟨x3, hx3, hres⟩ := bind_some hres
  refine JL.eff (ef_call (T := T109 a_0 q0.length c_0 x3) Go.Proofs.Try.func109 rfl (by kernel_rfl) rfl (fun w hC => c109 (rd_arg g_0 hC) rfl k_0 hx3)) rfl ?_
  rintro _ _ ⟨_, ⟨g4, rfl, rfl⟩, rfl⟩
  refine JL.val (yl_assign rfl) rfl ?_
  refine JL.nil ?_
  refine JE.code ?_
  refine JX.seq ?_
  refine JX.region ?_
  refine JL.val (yl_move rfl) rfl ?_
  obtain ⟨x6, hx6, hres⟩ := bind_some hres
  refine JL.eff (ef_callms (caps := []) (vs := [ptrAt (some ⟨g4, 0, none⟩) 0]) (T := T108 g4 a_0 q0.length c_0 x6) [1] [0] [boxO 162 g4 [.slice a_0 q0.length c_0, .int .i64 x3.at_, .int .u64 x3.seed]] [boxO 28 g1 [.int .i64 0, .int .i64 0, .slice none 0 0]] rfl Go.Proofs.Try.func108 rfl (by kernel_rfl) rfl (by decide) rfl rfl (fun w N hF hS => c108 (q0 := Sl00Src.mk q0 x3.at_ x3.seed) (RdS.pass0 hF g_0) rfl k_0 hS hx6)) rfl ?_
  rintro _ _ ⟨_, _, ⟨rfl, a7, _, cp8, rfl, rfl, rfl⟩, rfl⟩
  refine JL.eff (ef_alloc i28 i28z rfl) rfl ?_
  rintro _ _ ⟨g10, rfl, rfl⟩
  refine JL.eff (ef_store_box (i := 3) (v := .agg #[.int .i64 x6.1.W, .int .i64 x6.1.H, .slice a7 x6.1.Breaks.length cp8]) i28 rfl rfl rfl (i28s).symm (Nat.le_of_ble_eq_true rfl) (by simp [Value.cells, Value.oneCell'])) rfl ?_
  rintro _ _ rfl
  refine JL.nil ?_
  refine JE.weak (env' := [(2, ptrAt (some ⟨g1, 0, none⟩) 0), (4, ptrAt (some ⟨g4, 0, none⟩) 0), (5, ptrAt (some ⟨g10, 0, none⟩) 0)]) (es' := [boxO 28 g1 [.int .i64 0, .int .i64 0, .slice none 0 0], boxO 162 g4 [.slice a_0 q0.length c_0, .int .i64 x6.2.1, .int .u64 x6.2.2], boxO 28 g10 [.int .i64 x6.1.W, .int .i64 x6.1.H, .slice a7 x6.1.Breaks.length cp8], rowT 2 eI64 a7 x6.1.Breaks.length cp8 x6.1.Breaks]) [0, 1, 3, 2] ?_ ⟨rfl, rfl, rfl, trivial⟩ (by decide) rfl
  refine JE.code ?_
  refine JX.seq ?_
  refine JX.seq ?_
  refine JX.region ?_
  obtain ⟨x12, hx12, hres⟩ := bind_some hres
  refine JL.eff (ef_call (T := T82 x12) Go.Proofs.Try.func82 rfl (by kernel_rfl) rfl (fun w hC => c82 (RdAt.of0 (rd_box hC 2 rfl)) (rd_row hC 3 rfl) rfl (ln_row hC 3 rfl) hx12)) rfl ?_
  rintro _ _ ⟨_, ⟨rfl, rfl⟩, rfl⟩
  refine JL.val (yl_not rfl) rfl ?_
  refine JL.nil ?_
  refine JE.code ?_
  rcases cond_some hres with ⟨hb, hres⟩ | ⟨hb, hres⟩
  · refine JX.condT rfl hb ?_
    refine JX.seq ?_
    refine JX.region ?_
    refine JL.val (yl_loadn Go.Proofs.Try.underlying28 rfl i28 rfl (fun w hC => rd_box hC 2 rfl) rfl (i28s).symm i28p) rfl ?_
    refine JL.eff (ef_buildSlice (E := 2) (k := eI64.k) (us := eI64.fl [0]) rfl (fun w => bsl22_1 0 w) rfl (by decide)) rfl ?_
    rintro _ _ ⟨a13, rfl, rfl⟩
    refine JL.eff (ef_store_box (i := 0) (v := .agg #[.int .i64 x6.1.W, .int .i64 x6.1.H, .slice a7 x6.1.Breaks.length cp8]) i28 rfl rfl rfl (i28s).symm (Nat.le_of_ble_eq_true rfl) (by simp [Value.cells, Value.oneCell'])) rfl ?_
    rintro _ _ rfl
    refine JL.val (yl_assign rfl) rfl ?_
    refine JL.nil ?_
    refine JE.weak (env' := [(2, ptrAt (some ⟨g1, 0, none⟩) 0), (3, .slice a13 1 1)]) (es' := [boxO 28 g1 [.int .i64 x6.1.W, .int .i64 x6.1.H, .slice a7 x6.1.Breaks.length cp8], rowT 2 eI64 a7 x6.1.Breaks.length cp8 x6.1.Breaks, rowT 2 eI64 a13 1 1 [0]]) [0, 3, 4] ?_ ⟨rfl, rfl, trivial⟩ (by decide) rfl
    refine JE.code ?_
    refine JX.ret ?_
    obtain rfl := Option.some.inj hres
    refine JE.ret (rs := [.cell 2 28, .tmp 3]) (vs := [.agg #[.int .i64 x6.1.W, .int .i64 x6.1.H, .slice a7 x6.1.Breaks.length cp8], .slice a13 1 1]) rfl ⟨rv_box 0 rfl rfl Go.Proofs.Try.underlying28 rfl i28 (i28s).symm, rfl, trivial⟩ ?_
    exact fun w' hb hs => ⟨_, _, ⟨a7, x6.1.Breaks.length, cp8, rfl, a13, 1, 1, rfl, rfl, rfl⟩, rfl, hb, hs.sel [1, 2] _ (by decide) rfl⟩
  · refine JX.condF rfl hb ?_
    refine JX.skip ?_
    refine JE.code ?_
    refine JX.seq ?_
    refine JX.region ?_
    obtain ⟨x15, hx15, hres⟩ := bind_some hres
    refine JL.eff (ef_call (T := T94 x15) Go.Proofs.Try.func94 rfl (by kernel_rfl) rfl (fun w hC => c94 (RdAt.of0 (rd_box hC 2 rfl)) (rd_row hC 3 rfl) rfl (ln_row hC 3 rfl) hx15)) rfl ?_
    rintro _ _ ⟨_, ⟨a16, _, cp17, hs19, rfl, hi20, rfl, rfl⟩, rfl⟩
    obtain ⟨x22, hx22, hres⟩ := bind_some hres
    refine JL.eff (ef_call (T := T99 x22) Go.Proofs.Try.func99 rfl (by kernel_rfl) rfl (fun w hC => c99 (rd_row hC 4 rfl) (rd_inn hC 5 rfl) hi20 rfl (ln_row hC 4 rfl) hx22)) rfl ?_
    rintro _ _ ⟨_, ⟨a23, _, cp24, rfl, rfl, rfl⟩, rfl⟩
    refine JL.val (yl_assign rfl) rfl ?_
    refine JL.nil ?_
    refine JE.weak (env' := [(2, ptrAt (some ⟨g1, 0, none⟩) 0), (4, ptrAt (some ⟨g4, 0, none⟩) 0), (5, ptrAt (some ⟨g10, 0, none⟩) 0), (6, .slice a23 x22.length cp24)]) (es' := [boxO 28 g1 [.int .i64 0, .int .i64 0, .slice none 0 0], boxO 162 g4 [.slice a_0 q0.length c_0, .int .i64 x6.2.1, .int .u64 x6.2.2], boxO 28 g10 [.int .i64 x6.1.W, .int .i64 x6.1.H, .slice a7 x6.1.Breaks.length cp8], rowT 2 eI64 a7 x6.1.Breaks.length cp8 x6.1.Breaks, rowT 2 eI64 a23 x22.length cp24 x22]) [0, 1, 2, 3, 6] ?_ ⟨rfl, rfl, rfl, rfl, trivial⟩ (by decide) rfl
    refine JE.code ?_
    refine JX.seq ?_
    refine JX.seq ?_
    refine JX.region ?_
    refine JL.val (yl_move rfl) rfl ?_
    refine JL.val (yl_len_slice Go.Proofs.Try.underlying22 rfl) rfl ?_
    refine JL.val (yl_move rfl) rfl ?_
    refine JL.nil ?_
    refine JE.code ?_
    refine JX.block ?_
    obtain ⟨y1, hy1, hresO1⟩ := bind_some hres
    refine JX.loop (I := fun (s1 : Int × List Int) aa ww => ∃ (l26 : s1.2.length = x22.length), St w [] 58 [(2, ptrAt (some ⟨g1, 0, none⟩) 0), (4, ptrAt (some ⟨g4, 0, none⟩) 0), (5, ptrAt (some ⟨g10, 0, none⟩) 0), (6, .slice a23 x22.length cp24), (19, .int .i64 (x22.length : Int)), (20, .int .i64 s1.1)] [boxO 28 g1 [.int .i64 0, .int .i64 0, .slice none 0 0], boxO 162 g4 [.slice a_0 q0.length c_0, .int .i64 x6.2.1, .int .u64 x6.2.2], boxO 28 g10 [.int .i64 x6.1.W, .int .i64 x6.1.H, .slice a7 x6.1.Breaks.length cp8], rowT 2 eI64 a7 x6.1.Breaks.length cp8 x6.1.Breaks, rowT 2 eI64 a23 x22.length cp24 s1.2] aa ww) (sh112_1 x22) hy1 (fun a w h => ⟨rfl, h.weak ⟨rfl, rfl, rfl, rfl, rfl, rfl, trivial⟩ [0, 1, 2, 3, 4] (by decide) rfl⟩) ?_
    rintro ⟨x27, x28⟩ o1 hres hox1 aa ww ⟨l29, hS⟩
    refine (?_ : JX Go.Proofs.Try.prog w [] 58 _ _ [(2, ptrAt (some ⟨g1, 0, none⟩) 0), (4, ptrAt (some ⟨g4, 0, none⟩) 0), (5, ptrAt (some ⟨g10, 0, none⟩) 0), (6, .slice a23 x22.length cp24), (19, .int .i64 (x22.length : Int)), (20, .int .i64 x27)] [boxO 28 g1 [.int .i64 0, .int .i64 0, .slice none 0 0], boxO 162 g4 [.slice a_0 q0.length c_0, .int .i64 x6.2.1, .int .u64 x6.2.2], boxO 28 g10 [.int .i64 x6.1.W, .int .i64 x6.1.H, .slice a7 x6.1.Breaks.length cp8], rowT 2 eI64 a7 x6.1.Breaks.length cp8 x6.1.Breaks, rowT 2 eI64 a23 x22.length cp24 x28] _) aa ww hS
    clear hS
    simp only [sh112_1] at hres
    refine JX.seq ?_
    refine JX.region ?_
    refine JL.val (yl_lss rfl rfl) rfl ?_
    refine JL.nil ?_
    refine JE.code ?_
    refine JX.seq ?_
    rcases cond_some hres with ⟨hb, hres⟩ | ⟨hb, hres⟩
    · refine JX.condT rfl hb ?_
      refine JX.skip ?_
      refine JE.code ?_
      refine JX.seq ?_
      refine JX.block ?_
      refine JX.seq ?_
      refine JX.region ?_
      refine JL.val (yl_move rfl) rfl ?_
      refine JL.val (yl_assign rfl) rfl ?_
      refine JL.nil ?_
      refine JE.code ?_
      refine JX.region ?_
      refine JL.val (yl_move rfl) rfl ?_
      refine JL.val (yl_move rfl) rfl ?_
      refine JL.val (yl_move rfl) rfl ?_
      refine JL.val (yl_move rfl) rfl ?_
      obtain ⟨x30, hx30, hres⟩ := bind_some hres
      refine JL.val (yl_idxT Go.Proofs.Try.underlying22 i2 i2s rfl rfl hx30 l29 (fun w hC => rd_row hC 4 rfl)) rfl ?_
      refine JL.val (yl_loadT0 Go.Proofs.Try.underlying2 rfl rfl hx30 (fun w hC => rd_row hC 4 rfl) rfl) rfl ?_
      obtain ⟨x31, hx31, hres⟩ := bind_some hres
      refine JL.eff (ef_call (T := T164 x31) Go.Proofs.Try.func164 rfl (by kernel_rfl) rfl (fun w hC => c164  hx31)) rfl ?_
      rintro _ _ ⟨_, ⟨rfl, rfl⟩, rfl⟩
      obtain ⟨x32, hx32, hres⟩ := bind_some hres
      refine JL.val (yl_idxT Go.Proofs.Try.underlying22 i2 i2s rfl rfl hx32 l29 (fun w hC => rd_row hC 4 rfl)) rfl ?_
      refine JL.eff (ef_storeT (ix := 4) (u := x31) i2 i2s rfl rfl rfl hx32 rfl) rfl ?_
      rintro _ _ rfl
      refine JL.nil ?_
      refine JE.weak (env' := [(2, ptrAt (some ⟨g1, 0, none⟩) 0), (4, ptrAt (some ⟨g4, 0, none⟩) 0), (5, ptrAt (some ⟨g10, 0, none⟩) 0), (6, .slice a23 x22.length cp24), (19, .int .i64 (x22.length : Int)), (20, .int .i64 x27)]) (es' := [boxO 28 g1 [.int .i64 0, .int .i64 0, .slice none 0 0], boxO 162 g4 [.slice a_0 q0.length c_0, .int .i64 x6.2.1, .int .u64 x6.2.2], boxO 28 g10 [.int .i64 x6.1.W, .int .i64 x6.1.H, .slice a7 x6.1.Breaks.length cp8], rowT 2 eI64 a7 x6.1.Breaks.length cp8 x6.1.Breaks, rowT 2 eI64 a23 x22.length cp24 (x28.set (x27).toNat x31)]) [0, 1, 2, 3, 4] ?_ ⟨rfl, rfl, rfl, rfl, rfl, rfl, trivial⟩ (by decide) rfl
      refine JE.code ?_
      refine JX.region ?_
      refine JL.val (yl_add rfl rfl) rfl ?_
      refine JL.val (yl_move rfl) rfl ?_
      refine JL.nil ?_
      refine JE.cont hres ?_
      exact fun a w h => ⟨(List.length_set.trans l29), h.weak ⟨rfl, rfl, rfl, rfl, rfl, rfl, trivial⟩ [0, 1, 2, 3, 4] (by decide) rfl⟩
    · refine JX.condF rfl hb ?_
      refine JX.exit ?_
      refine JE.qb rfl ?_
      obtain ⟨b1, hb1⟩ : ∃ b : List Int, b = x28 := ⟨_, rfl⟩
      have hy1 : b1 = y1 := by rw [hb1]; exact hox1 _ (Option.some.inj hres).symm
      have hres := hresO1
      rw [← hy1] at hres
      have l33 : b1.length = x22.length := by subst hb1; exact l29
      refine JE.weak (env' := [(2, ptrAt (some ⟨g1, 0, none⟩) 0), (4, ptrAt (some ⟨g4, 0, none⟩) 0), (5, ptrAt (some ⟨g10, 0, none⟩) 0), (6, .slice a23 x22.length cp24)]) (es' := [boxO 28 g1 [.int .i64 0, .int .i64 0, .slice none 0 0], boxO 162 g4 [.slice a_0 q0.length c_0, .int .i64 x6.2.1, .int .u64 x6.2.2], boxO 28 g10 [.int .i64 x6.1.W, .int .i64 x6.1.H, .slice a7 x6.1.Breaks.length cp8], rowT 2 eI64 a7 x6.1.Breaks.length cp8 x6.1.Breaks, rowT 2 eI64 a23 x22.length cp24 b1]) [0, 1, 2, 3, 4] ?_ ⟨(by subst hb1; rfl), (by subst hb1; rfl), (by subst hb1; rfl), (by subst hb1; rfl), trivial⟩ (by decide) (by subst hb1; rfl)
      refine JE.code ?_
      refine JX.seq ?_
      refine JX.seq ?_
      refine JX.region ?_
      refine JL.val (yl_move rfl) rfl ?_
      obtain ⟨x34, hx34, hres⟩ := bind_some hres
      refine JL.eff (ef_callms (caps := []) (vs := [ptrAt (some ⟨g4, 0, none⟩) 0, .int .i64 6]) (T := T113 g4 a_0 q0.length c_0 x34) [1] [0, 2, 3, 4] [boxO 162 g4 [.slice a_0 q0.length c_0, .int .i64 x6.2.1, .int .u64 x6.2.2]] [boxO 28 g1 [.int .i64 0, .int .i64 0, .slice none 0 0], boxO 28 g10 [.int .i64 x6.1.W, .int .i64 x6.1.H, .slice a7 x6.1.Breaks.length cp8], rowT 2 eI64 a7 x6.1.Breaks.length cp8 x6.1.Breaks, rowT 2 eI64 a23 x22.length cp24 b1] rfl Go.Proofs.Try.func113 rfl (by kernel_rfl) rfl (by decide) rfl rfl (fun w N hF hS => c113 (q0 := Sl00Src.mk q0 x6.2.1 x6.2.2) (RdS.pass0 hF g_0) rfl k_0 hS hx34)) rfl ?_
      rintro _ _ ⟨_, _, ⟨rfl, rfl, rfl⟩, rfl⟩
      refine JL.nil ?_
      refine JE.code ?_
      refine JX.block ?_
      refine JX.seq ?_
      refine JX.region ?_
      refine JL.val (yl_eql rfl rfl) rfl ?_
      refine JL.val (yl_assign rfl) rfl ?_
      refine JL.nil ?_
      refine JE.code ?_
      obtain ⟨j35, hj35, hresj35⟩ := bind_some hres
      refine JX.cut (K := fun J => ∀ (a36 : Option Addr) (cp37 : Nat), J [(2, ptrAt (some ⟨g1, 0, none⟩) 0), (5, ptrAt (some ⟨g10, 0, none⟩) 0), (6, .slice a36 j35.length cp37)] [boxO 28 g1 [.int .i64 0, .int .i64 0, .slice none 0 0], boxO 28 g10 [.int .i64 x6.1.W, .int .i64 x6.1.H, .slice a7 x6.1.Breaks.length cp8], rowT 2 eI64 a7 x6.1.Breaks.length cp8 x6.1.Breaks, rowT 2 eI64 a36 j35.length cp37 j35]) ?_ ?_
      · intro a36 cp37
        have hres := hresj35
        refine JE.code ?_
        refine JX.seq ?_
        refine JX.region ?_
        refine JL.val (yl_loadn Go.Proofs.Try.underlying28 rfl i28 rfl (fun w hC => rd_box hC 1 rfl) rfl (i28s).symm i28p) rfl ?_
        refine JL.val (yl_move rfl) rfl ?_
        refine JL.eff (ef_store_box (i := 0) (v := .agg #[.int .i64 x6.1.W, .int .i64 x6.1.H, .slice a7 x6.1.Breaks.length cp8]) i28 rfl rfl rfl (i28s).symm (Nat.le_of_ble_eq_true rfl) (by simp [Value.cells, Value.oneCell'])) rfl ?_
        rintro _ _ rfl
        refine JL.val (yl_assign rfl) rfl ?_
        refine JL.nil ?_
        refine JE.weak (env' := [(2, ptrAt (some ⟨g1, 0, none⟩) 0), (3, .slice a36 j35.length cp37)]) (es' := [boxO 28 g1 [.int .i64 x6.1.W, .int .i64 x6.1.H, .slice a7 x6.1.Breaks.length cp8], rowT 2 eI64 a7 x6.1.Breaks.length cp8 x6.1.Breaks, rowT 2 eI64 a36 j35.length cp37 j35]) [0, 2, 3] ?_ ⟨rfl, rfl, trivial⟩ (by decide) rfl
        refine JE.code ?_
        refine JX.ret ?_
        obtain rfl := Option.some.inj hres
        refine JE.ret (rs := [.cell 2 28, .tmp 3]) (vs := [.agg #[.int .i64 x6.1.W, .int .i64 x6.1.H, .slice a7 x6.1.Breaks.length cp8], .slice a36 j35.length cp37]) rfl ⟨rv_box 0 rfl rfl Go.Proofs.Try.underlying28 rfl i28 (i28s).symm, rfl, trivial⟩ ?_
        exact fun w' hb hs => ⟨_, _, ⟨a7, x6.1.Breaks.length, cp8, rfl, a36, j35.length, cp37, rfl, rfl, rfl⟩, rfl, hb, hs.sel [1, 2] _ (by decide) rfl⟩
      · intro K
        rcases cond_some hj35 with ⟨hb, hres⟩ | ⟨hb, hres⟩
        · refine JX.condT rfl hb ?_
          refine JX.region ?_
          refine JL.val (yl_move rfl) rfl ?_
          refine JL.val (yl_move rfl) rfl ?_
          refine JL.val (yl_move rfl) rfl ?_
          refine JL.val (yl_len_slice Go.Proofs.Try.underlying22 rfl) rfl ?_
          obtain ⟨x38, hx38, hres⟩ := bind_some hres
          refine JL.eff (ef_callms (caps := []) (vs := [ptrAt (some ⟨g4, 0, none⟩) 0, .int .i64 ((x22.length : Nat) : Int)]) (T := T113 g4 a_0 q0.length c_0 x38) [4] [0, 1, 2, 3] [boxO 162 g4 [.slice a_0 q0.length c_0, .int .i64 x34.2.1, .int .u64 x34.2.2]] [boxO 28 g1 [.int .i64 0, .int .i64 0, .slice none 0 0], boxO 28 g10 [.int .i64 x6.1.W, .int .i64 x6.1.H, .slice a7 x6.1.Breaks.length cp8], rowT 2 eI64 a7 x6.1.Breaks.length cp8 x6.1.Breaks, rowT 2 eI64 a23 x22.length cp24 b1] rfl Go.Proofs.Try.func113 rfl (by kernel_rfl) rfl (by decide) rfl rfl (fun w N hF hS => c113 (q0 := Sl00Src.mk q0 x34.2.1 x34.2.2) (RdS.pass0 hF g_0) rfl k_0 hS hx38)) rfl ?_
          rintro _ _ ⟨_, _, ⟨rfl, rfl, rfl⟩, rfl⟩
          refine JL.val (yl_move rfl) rfl ?_
          obtain ⟨x39, hx39, hres⟩ := bind_some hres
          refine JL.eff (ef_callms (caps := []) (vs := [ptrAt (some ⟨g4, 0, none⟩) 0, .int .i64 4]) (T := T113 g4 a_0 q0.length c_0 x39) [4] [0, 1, 2, 3] [boxO 162 g4 [.slice a_0 q0.length c_0, .int .i64 x38.2.1, .int .u64 x38.2.2]] [boxO 28 g1 [.int .i64 0, .int .i64 0, .slice none 0 0], boxO 28 g10 [.int .i64 x6.1.W, .int .i64 x6.1.H, .slice a7 x6.1.Breaks.length cp8], rowT 2 eI64 a7 x6.1.Breaks.length cp8 x6.1.Breaks, rowT 2 eI64 a23 x22.length cp24 b1] rfl Go.Proofs.Try.func113 rfl (by kernel_rfl) rfl (by decide) rfl rfl (fun w N hF hS => c113 (q0 := Sl00Src.mk q0 x38.2.1 x38.2.2) (RdS.pass0 hF g_0) rfl k_0 hS hx39)) rfl ?_
          rintro _ _ ⟨_, _, ⟨rfl, rfl, rfl⟩, rfl⟩
          obtain ⟨x40, hx40, hres⟩ := bind_some hres
          refine JL.val (yl_idxT Go.Proofs.Try.underlying22 i2 i2s rfl rfl hx40 l33 (fun w hC => rd_row hC 3 rfl)) rfl ?_
          refine JL.eff (ef_storeT (ix := 3) (u := x39.1) i2 i2s rfl rfl rfl hx40 rfl) rfl ?_
          rintro _ _ rfl
          refine JL.nil ?_
          refine JE.weak (env' := [(2, ptrAt (some ⟨g1, 0, none⟩) 0), (5, ptrAt (some ⟨g10, 0, none⟩) 0), (6, .slice a23 x22.length cp24)]) (es' := [boxO 28 g1 [.int .i64 0, .int .i64 0, .slice none 0 0], boxO 28 g10 [.int .i64 x6.1.W, .int .i64 x6.1.H, .slice a7 x6.1.Breaks.length cp8], rowT 2 eI64 a7 x6.1.Breaks.length cp8 x6.1.Breaks, rowT 2 eI64 a23 x22.length cp24 (b1.set (x38.1).toNat x39.1)]) [0, 1, 2, 3] ?_ ⟨rfl, rfl, rfl, trivial⟩ (by decide) rfl
          have hj := Option.some.inj hres
          exact JE.weak [0, 1, 2, 3] (K a23 cp24) ⟨(by subst hj; rfl), (by subst hj; rfl), (by subst hj; first | rfl | (simp only [List.length_set, l33]; rfl) | simp only [List.length_set, l33]), trivial⟩ (by decide) (by subst hj; first | rfl | (simp only [List.length_set, l33]; rfl) | simp only [List.length_set, l33])
        · refine JX.condF rfl hb ?_
          refine JX.seq ?_
          refine JX.region ?_
          refine JL.val (yl_eql rfl rfl) rfl ?_
          refine JL.val (yl_assign rfl) rfl ?_
          refine JL.nil ?_
          refine JE.code ?_
          obtain ⟨j41, hj41, hresj41⟩ := bind_some hres
          refine JX.cut (K := fun J => ∀ (a42 : Option Addr) (cp43 : Nat), J [(2, ptrAt (some ⟨g1, 0, none⟩) 0), (5, ptrAt (some ⟨g10, 0, none⟩) 0), (6, .slice a42 j41.length cp43)] [boxO 28 g1 [.int .i64 0, .int .i64 0, .slice none 0 0], boxO 28 g10 [.int .i64 x6.1.W, .int .i64 x6.1.H, .slice a7 x6.1.Breaks.length cp8], rowT 2 eI64 a7 x6.1.Breaks.length cp8 x6.1.Breaks, rowT 2 eI64 a42 j41.length cp43 j41]) ?_ ?_
          · intro a42 cp43
            have hres := hresj41
            have hj := Option.some.inj hres
            exact JE.weak [0, 1, 2, 3] (K a42 cp43) ⟨(by subst hj; rfl), (by subst hj; rfl), (by subst hj; rfl), trivial⟩ (by decide) (by subst hj; rfl)
          · intro K
            rcases cond_some hj41 with ⟨hb, hres⟩ | ⟨hb, hres⟩
            · refine JX.condT rfl hb ?_
              refine JX.region ?_
              refine JL.val (yl_move rfl) rfl ?_
              refine JL.val (yl_move rfl) rfl ?_
              refine JL.eff (ef_buildSlice (E := 2) (k := eI64.k) (us := eI64.fl [(-1), 9, 10]) rfl (fun w => bsl22_3 (-1) 9 10 w) rfl (by decide)) rfl ?_
              rintro _ _ ⟨a44, rfl, rfl⟩
              obtain ⟨x46, hx46, hres⟩ := bind_some hres
              refine JL.eff (ef_callms (caps := []) (vs := [ptrAt (some ⟨g4, 0, none⟩) 0, .slice a44 3 3]) (T := T124 g4 a_0 q0.length c_0 x46) [4] [0, 1, 2, 3, 5] [boxO 162 g4 [.slice a_0 q0.length c_0, .int .i64 x34.2.1, .int .u64 x34.2.2]] [boxO 28 g1 [.int .i64 0, .int .i64 0, .slice none 0 0], boxO 28 g10 [.int .i64 x6.1.W, .int .i64 x6.1.H, .slice a7 x6.1.Breaks.length cp8], rowT 2 eI64 a7 x6.1.Breaks.length cp8 x6.1.Breaks, rowT 2 eI64 a23 x22.length cp24 b1, rowT 2 eI64 a44 3 3 [(-1), 9, 10]] rfl Go.Proofs.Try.func124 rfl (by kernel_rfl) rfl (by decide) rfl rfl (fun w N hF hS => c124 (q0 := Sl00Src.mk q0 x34.2.1 x34.2.2) (RdS.pass0 hF g_0) rfl k_0 (RdS.row hF 5 rfl rfl) rfl (ln_row hF.cl 5 rfl) hS hx46)) rfl ?_
              rintro _ _ ⟨_, _, ⟨rfl, rfl, rfl⟩, rfl⟩
              obtain ⟨x47, hx47, hres⟩ := bind_some hres
              refine JL.val (yl_idxT Go.Proofs.Try.underlying22 i2 i2s rfl rfl hx47 l33 (fun w hC => rd_row hC 3 rfl)) rfl ?_
              refine JL.eff (ef_storeT (ix := 3) (u := x46.1) i2 i2s rfl rfl rfl hx47 rfl) rfl ?_
              rintro _ _ rfl
              refine JL.nil ?_
              refine JE.weak (env' := [(2, ptrAt (some ⟨g1, 0, none⟩) 0), (5, ptrAt (some ⟨g10, 0, none⟩) 0), (6, .slice a23 x22.length cp24)]) (es' := [boxO 28 g1 [.int .i64 0, .int .i64 0, .slice none 0 0], boxO 28 g10 [.int .i64 x6.1.W, .int .i64 x6.1.H, .slice a7 x6.1.Breaks.length cp8], rowT 2 eI64 a7 x6.1.Breaks.length cp8 x6.1.Breaks, rowT 2 eI64 a23 x22.length cp24 (b1.set ((0 : Int)).toNat x46.1)]) [0, 1, 2, 3] ?_ ⟨rfl, rfl, rfl, trivial⟩ (by decide) rfl
              have hj := Option.some.inj hres
              exact JE.weak [0, 1, 2, 3] (K a23 cp24) ⟨(by subst hj; rfl), (by subst hj; rfl), (by subst hj; first | rfl | (simp only [List.length_set, l33]; rfl) | simp only [List.length_set, l33]), trivial⟩ (by decide) (by subst hj; first | rfl | (simp only [List.length_set, l33]; rfl) | simp only [List.length_set, l33])
            · refine JX.condF rfl hb ?_
              refine JX.seq ?_
              refine JX.region ?_
              refine JL.val (yl_eql rfl rfl) rfl ?_
              refine JL.val (yl_assign rfl) rfl ?_
              refine JL.nil ?_
              refine JE.weak (env' := [(2, ptrAt (some ⟨g1, 0, none⟩) 0), (5, ptrAt (some ⟨g10, 0, none⟩) 0), (6, .slice a23 x22.length cp24), (51, .bool (x34.1 == 2))]) (es' := [boxO 28 g1 [.int .i64 0, .int .i64 0, .slice none 0 0], boxO 28 g10 [.int .i64 x6.1.W, .int .i64 x6.1.H, .slice a7 x6.1.Breaks.length cp8], rowT 2 eI64 a7 x6.1.Breaks.length cp8 x6.1.Breaks, rowT 2 eI64 a23 x22.length cp24 b1]) [0, 1, 2, 3] ?_ ⟨rfl, rfl, rfl, rfl, trivial⟩ (by decide) rfl
              refine JE.code ?_
              obtain ⟨j48, hj48, hresj48⟩ := bind_some hres
              refine JX.cut (K := fun J => ∀ (a49 : Option Addr) (cp50 : Nat), J [(2, ptrAt (some ⟨g1, 0, none⟩) 0), (5, ptrAt (some ⟨g10, 0, none⟩) 0), (6, .slice a49 j48.length cp50)] [boxO 28 g1 [.int .i64 0, .int .i64 0, .slice none 0 0], boxO 28 g10 [.int .i64 x6.1.W, .int .i64 x6.1.H, .slice a7 x6.1.Breaks.length cp8], rowT 2 eI64 a7 x6.1.Breaks.length cp8 x6.1.Breaks, rowT 2 eI64 a49 j48.length cp50 j48]) ?_ ?_
              · intro a49 cp50
                have hres := hresj48
                have hj := Option.some.inj hres
                exact JE.weak [0, 1, 2, 3] (K a49 cp50) ⟨(by subst hj; rfl), (by subst hj; rfl), (by subst hj; rfl), trivial⟩ (by decide) (by subst hj; rfl)
              · intro K
                rcases cond_some hj48 with ⟨hb, hres⟩ | ⟨hb, hres⟩
                · refine JX.condT rfl hb ?_
                  refine JX.region ?_
                  refine JL.val (yl_move rfl) rfl ?_
                  refine JL.eff (ef_buildSlice (E := 2) (k := eI64.k) (us := eI64.fl [0]) rfl (fun w => bsl22_1 0 w) rfl (by decide)) rfl ?_
                  rintro _ _ ⟨a51, rfl, rfl⟩
                  obtain ⟨x53, hx53, hres⟩ := bind_some hres
                  refine JL.eff (ef_appendT (ix := 3) Go.Proofs.Try.underlying22 i2 i2z i2s rfl i2b0 i2b1 rfl rfl l33 rfl rfl (fun w hC => rd_row hC 4 rfl) hx53) rfl ?_
                  rintro _ _ ⟨a54, cp55, rfl, rfl⟩
                  refine JL.val (yl_assign rfl) rfl ?_
                  refine JL.nil ?_
                  refine JE.weak (env' := [(2, ptrAt (some ⟨g1, 0, none⟩) 0), (5, ptrAt (some ⟨g10, 0, none⟩) 0), (6, .slice a54 x53.length cp55)]) (es' := [boxO 28 g1 [.int .i64 0, .int .i64 0, .slice none 0 0], boxO 28 g10 [.int .i64 x6.1.W, .int .i64 x6.1.H, .slice a7 x6.1.Breaks.length cp8], rowT 2 eI64 a7 x6.1.Breaks.length cp8 x6.1.Breaks, rowT 2 eI64 a54 x53.length cp55 x53]) [0, 1, 2, 3] ?_ ⟨rfl, rfl, rfl, trivial⟩ (by decide) rfl
                  have hj := Option.some.inj hres
                  exact JE.weak [0, 1, 2, 3] (K a54 cp55) ⟨(by subst hj; rfl), (by subst hj; rfl), (by subst hj; rfl), trivial⟩ (by decide) (by subst hj; rfl)
                · refine JX.condF rfl hb ?_
                  refine JX.skip ?_
                  have hj := Option.some.inj hres
                  exact JE.weak [0, 1, 2, 3] (K a23 cp24) ⟨(by subst hj; rfl), (by subst hj; rfl), (by subst hj; first | rfl | (simp only [List.length_set, l33]; rfl) | simp only [List.length_set, l33]), trivial⟩ (by decide) (by subst hj; first | rfl | (simp only [List.length_set, l33]; rfl) | simp only [List.length_set, l33])

/- spec.DrawIsColouring -/
def sh54 (q0 : List Int) : Option (SPanel × List Int) := Option.bind (sh112 q0) fun x3 => some (x3.1, x3.2)
def T54 (r : SPanel × List Int) (v : Value) (rs : List Own) : Prop := ∃ (a0_2 : Option Addr) (n0_2 c0_2 : Nat), r.1.Breaks.length = n0_2 ∧ ∃ (a1 : Option Addr) (n1 c1 : Nat), r.2.length = n1 ∧ v = rets [.agg #[.int .i64 r.1.W, .int .i64 r.1.H, .slice a0_2 n0_2 c0_2], .slice a1 n1 c1] ∧ rs = [rowT 2 eI64 a0_2 n0_2 c0_2 r.1.Breaks, rowT 2 eI64 a1 n1 c1 r.2]
set_option maxRecDepth 100000 in
theorem c54 {w : World} {q0 : List Int} {a_0 : Option Addr} {n_0 c_0 : Nat} (g_0 : Rd w a_0 (eU8.fl q0)) (l_0 : q0.length = n_0) (k_0 : n_0 ≤ c_0) {r : SPanel × List Int} (hres : sh54 q0 = some r) : Calls Go.Proofs.Try.prog 54 [.slice a_0 n_0 c_0].toArray w (Ret w (T54 r)) := by
  subst l_0
  unfold sh54 at hres
  refine calls_of (n := 8) (M := []) (es := []) Go.Proofs.Try.func54 rfl rfl rfl (Sep.nil _ _ _) ?_
  refine JX.seq ?_
  refine JX.region ?_
  refine JL.eff (ef_alloc i28 i28z rfl) rfl ?_
  rintro _ _ ⟨g1, rfl, rfl⟩
  refine JL.val (yl_assign rfl) rfl ?_
  refine JL.nil ?_
  refine JE.code ?_
  refine JX.seq ?_
  refine JX.region ?_
  refine JL.val (yl_move rfl) rfl ?_
  obtain ⟨x3, hx3, hres⟩ := bind_some hres
  refine JL.eff (ef_call (T := T112 x3) Go.Proofs.Try.func112 rfl (by kernel_rfl) rfl (fun w hC => c112 (rd_arg g_0 hC) rfl k_0 hx3)) rfl ?_
  rintro _ _ ⟨_, ⟨a4, _, cp5, rfl, a7, _, cp8, rfl, rfl, rfl⟩, rfl⟩
  refine JL.val (yl_extract rfl rfl) rfl ?_
  refine JL.val (yl_extract rfl rfl) rfl ?_
  refine JL.eff (ef_store_box (i := 0) (v := .agg #[.int .i64 x3.1.W, .int .i64 x3.1.H, .slice a4 x3.1.Breaks.length cp5]) i28 rfl rfl rfl (i28s).symm (Nat.le_of_ble_eq_true rfl) (by simp [Value.cells, Value.oneCell'])) rfl ?_
  rintro _ _ rfl
  refine JL.val (yl_assign rfl) rfl ?_
  refine JL.nil ?_
  refine JE.weak (env' := [(2, ptrAt (some ⟨g1, 0, none⟩) 0), (3, .slice a7 x3.2.length cp8)]) (es' := [boxO 28 g1 [.int .i64 x3.1.W, .int .i64 x3.1.H, .slice a4 x3.1.Breaks.length cp5], rowT 2 eI64 a4 x3.1.Breaks.length cp5 x3.1.Breaks, rowT 2 eI64 a7 x3.2.length cp8 x3.2]) [0, 1, 2] ?_ ⟨rfl, rfl, trivial⟩ (by decide) rfl
  refine JE.code ?_
  refine JX.ret ?_
  obtain rfl := Option.some.inj hres
  refine JE.ret (rs := [.cell 2 28, .tmp 3]) (vs := [.agg #[.int .i64 x3.1.W, .int .i64 x3.1.H, .slice a4 x3.1.Breaks.length cp5], .slice a7 x3.2.length cp8]) rfl ⟨rv_box 0 rfl rfl Go.Proofs.Try.underlying28 rfl i28 (i28s).symm, rfl, trivial⟩ ?_
  exact fun w' hb hs => ⟨_, _, ⟨a4, x3.1.Breaks.length, cp5, rfl, a7, x3.2.length, cp8, rfl, rfl, rfl⟩, rfl, hb, hs.sel [1, 2] _ (by decide) rfl⟩

/- spec.DrawCurveNeighbours -/
def sh55 (q0 : List Int) : Option (SPanel × Int) := Option.bind (sh109 q0) fun x3 => Option.bind (sh108 (Sl00Src.mk q0 x3.at_ x3.seed)) fun x6 => Option.bind (sh113 (Sl00Src.mk q0 x6.2.1 x6.2.2) 5) fun x13 => Option.bind (sh113 (Sl00Src.mk q0 x13.2.1 x13.2.2) 12) fun x14 => some (x6.1, w64 (x13.1 - (w64 (x14.1.tdiv 11))))
def T55 (r : SPanel × Int) (v : Value) (rs : List Own) : Prop := ∃ (a0_2 : Option Addr) (n0_2 c0_2 : Nat), r.1.Breaks.length = n0_2 ∧ v = rets [.agg #[.int .i64 r.1.W, .int .i64 r.1.H, .slice a0_2 n0_2 c0_2], .int .i64 r.2] ∧ rs = [rowT 2 eI64 a0_2 n0_2 c0_2 r.1.Breaks]
set_option maxRecDepth 100000 in
theorem c55 {w : World} {q0 : List Int} {a_0 : Option Addr} {n_0 c_0 : Nat} (g_0 : Rd w a_0 (eU8.fl q0)) (l_0 : q0.length = n_0) (k_0 : n_0 ≤ c_0) {r : SPanel × Int} (hres : sh55 q0 = some r) : Calls Go.Proofs.Try.prog 55 [.slice a_0 n_0 c_0].toArray w (Ret w (T55 r)) := by
  subst l_0
  unfold sh55 at hres
  refine calls_of (n := 17) (M := []) (es := []) Go.Proofs.Try.func55 rfl rfl rfl (Sep.nil _ _ _) ?_
  refine JX.seq ?_
  refine JX.region ?_
  refine JL.eff (ef_alloc i28 i28z rfl) rfl ?_
  rintro _ _ ⟨g1, rfl, rfl⟩
  refine JL.val (yl_assign rfl) rfl ?_
  refine JL.nil ?_
  refine JE.code ?_
  refine JX.seq ?_
  refine JX.region ?_
  refine JL.val (yl_move rfl) rfl ?_
  obtain ⟨x3, hx3, hres⟩ := bind_some hres
  refine JL.eff (ef_call (T := T109 a_0 q0.length c_0 x3) Go.Proofs.Try.func109 rfl (by kernel_rfl) rfl (fun w hC => c109 (rd_arg g_0 hC) rfl k_0 hx3)) rfl ?_
  rintro _ _ ⟨_, ⟨g4, rfl, rfl⟩, rfl⟩
  refine JL.val (yl_assign rfl) rfl ?_
  refine JL.nil ?_
  refine JE.code ?_
  refine JX.seq ?_
  refine JX.region ?_
  refine JL.val (yl_move rfl) rfl ?_
  obtain ⟨x6, hx6, hres⟩ := bind_some hres
  refine JL.eff (ef_callms (caps := []) (vs := [ptrAt (some ⟨g4, 0, none⟩) 0]) (T := T108 g4 a_0 q0.length c_0 x6) [1] [0] [boxO 162 g4 [.slice a_0 q0.length c_0, .int .i64 x3.at_, .int .u64 x3.seed]] [boxO 28 g1 [.int .i64 0, .int .i64 0, .slice none 0 0]] rfl Go.Proofs.Try.func108 rfl (by kernel_rfl) rfl (by decide) rfl rfl (fun w N hF hS => c108 (q0 := Sl00Src.mk q0 x3.at_ x3.seed) (RdS.pass0 hF g_0) rfl k_0 hS hx6)) rfl ?_
  rintro _ _ ⟨_, _, ⟨rfl, a7, _, cp8, rfl, rfl, rfl⟩, rfl⟩
  refine JL.eff (ef_alloc i28 i28z rfl) rfl ?_
  rintro _ _ ⟨g10, rfl, rfl⟩
  refine JL.eff (ef_store_box (i := 3) (v := .agg #[.int .i64 x6.1.W, .int .i64 x6.1.H, .slice a7 x6.1.Breaks.length cp8]) i28 rfl rfl rfl (i28s).symm (Nat.le_of_ble_eq_true rfl) (by simp [Value.cells, Value.oneCell'])) rfl ?_
  rintro _ _ rfl
  refine JL.nil ?_
  refine JE.weak (env' := [(2, ptrAt (some ⟨g1, 0, none⟩) 0), (4, ptrAt (some ⟨g4, 0, none⟩) 0), (5, ptrAt (some ⟨g10, 0, none⟩) 0)]) (es' := [boxO 28 g1 [.int .i64 0, .int .i64 0, .slice none 0 0], boxO 162 g4 [.slice a_0 q0.length c_0, .int .i64 x6.2.1, .int .u64 x6.2.2], boxO 28 g10 [.int .i64 x6.1.W, .int .i64 x6.1.H, .slice a7 x6.1.Breaks.length cp8], rowT 2 eI64 a7 x6.1.Breaks.length cp8 x6.1.Breaks]) [0, 1, 3, 2] ?_ ⟨rfl, rfl, rfl, trivial⟩ (by decide) rfl
  refine JE.code ?_
  refine JX.seq ?_
  refine JX.drawH [(0, .read), (1, .pure), (3, .pure), (2, .must), (4, .must), (5, .pure), (6, .pure), (7, .must), (8, .pure)] [2, 4, 7] [1, 0] [2, 3] [boxO 162 g4 [.slice a_0 q0.length c_0, .int .i64 x6.2.1, .int .u64 x6.2.2], boxO 28 g1 [.int .i64 0, .int .i64 0, .slice none 0 0]] [boxO 28 g10 [.int .i64 x6.1.W, .int .i64 x6.1.H, .slice a7 x6.1.Breaks.length cp8], rowT 2 eI64 a7 x6.1.Breaks.length cp8 x6.1.Breaks] mixedP (by kernel_rfl) (by kernel_rfl) (by decide) rfl rfl ?_
  intro wrr12 Nr12 hFr12
  refine JH.read rfl (yl_loadn Go.Proofs.Try.underlying28 rfl i28 rfl (fun w hw => hFr12.box 2 rfl rfl hw) rfl (i28s).symm i28p) rfl ?_
  refine JH.pure rfl (yl_move rfl) rfl ?_
  refine JH.pure rfl (yl_move rfl) rfl ?_
  obtain ⟨x13, hx13, hres⟩ := bind_some hres
  refine JH.must rfl (ef_callms (caps := []) (vs := [ptrAt (some ⟨g4, 0, none⟩) 0, .int .i64 5]) (T := T113 g4 a_0 q0.length c_0 x13) [0] [1] [boxO 162 g4 [.slice a_0 q0.length c_0, .int .i64 x6.2.1, .int .u64 x6.2.2]] [boxO 28 g1 [.int .i64 0, .int .i64 0, .slice none 0 0]] rfl Go.Proofs.Try.func113 rfl (by kernel_rfl) rfl (by decide) rfl rfl (fun w N hF hS => c113 (q0 := Sl00Src.mk q0 x6.2.1 x6.2.2) (RdS.pass hF (RdS.pass0 hFr12 g_0)) rfl k_0 hS hx13)) rfl rfl ?_
  rintro _ _ ⟨_, _, ⟨rfl, rfl, rfl⟩, rfl⟩
  obtain ⟨x14, hx14, hres⟩ := bind_some hres
  refine JH.must rfl (ef_callms (caps := []) (vs := [ptrAt (some ⟨g4, 0, none⟩) 0, .int .i64 12]) (T := T113 g4 a_0 q0.length c_0 x14) [1] [0] [boxO 162 g4 [.slice a_0 q0.length c_0, .int .i64 x13.2.1, .int .u64 x13.2.2]] [boxO 28 g1 [.int .i64 0, .int .i64 0, .slice none 0 0]] rfl Go.Proofs.Try.func113 rfl (by kernel_rfl) rfl (by decide) rfl rfl (fun w N hF hS => c113 (q0 := Sl00Src.mk q0 x13.2.1 x13.2.2) (RdS.pass hF (RdS.pass0 hFr12 g_0)) rfl k_0 hS hx14)) rfl rfl ?_
  rintro _ _ ⟨_, _, ⟨rfl, rfl, rfl⟩, rfl⟩
  refine JH.pure rfl (yl_quo rfl rfl (by decide)) rfl ?_
  refine JH.pure rfl (yl_sub rfl rfl) rfl ?_
  refine JH.must rfl (ef_store_box (i := 0) (v := .agg #[.int .i64 x6.1.W, .int .i64 x6.1.H, .slice a7 x6.1.Breaks.length cp8]) i28 rfl rfl rfl (i28s).symm (Nat.le_of_ble_eq_true rfl) (by simp [Value.cells, Value.oneCell'])) rfl rfl ?_
  rintro _ _ rfl
  refine JH.pure rfl (yl_assign rfl) rfl ?_
  refine JH.nil ?_
  refine JE.weak (env' := [(2, ptrAt (some ⟨g1, 0, none⟩) 0), (3, .int .i64 (w64 (x13.1 - (w64 (x14.1.tdiv 11)))))]) (es' := [boxO 28 g1 [.int .i64 x6.1.W, .int .i64 x6.1.H, .slice a7 x6.1.Breaks.length cp8], rowT 2 eI64 a7 x6.1.Breaks.length cp8 x6.1.Breaks]) [2, 1] ?_ ⟨rfl, rfl, trivial⟩ (by decide) rfl
  refine JE.code ?_
  refine JX.ret ?_
  obtain rfl := Option.some.inj hres
  refine JE.ret (rs := [.cell 2 28, .tmp 3]) (vs := [.agg #[.int .i64 x6.1.W, .int .i64 x6.1.H, .slice a7 x6.1.Breaks.length cp8], .int .i64 (w64 (x13.1 - (w64 (x14.1.tdiv 11))))]) rfl ⟨rv_box 0 rfl rfl Go.Proofs.Try.underlying28 rfl i28 (i28s).symm, rfl, trivial⟩ ?_
  exact fun w' hb hs => ⟨_, _, ⟨a7, x6.1.Breaks.length, cp8, rfl, rfl, rfl⟩, rfl, hb, hs.sel [1] _ (by decide) rfl⟩

/- spec.DrawColourLines -/
def sh56 (q0 : List Int) : Option (SPanel × List Int) := Option.bind (sh112 q0) fun x3 => some (x3.1, x3.2)
def T56 (r : SPanel × List Int) (v : Value) (rs : List Own) : Prop := ∃ (a0_2 : Option Addr) (n0_2 c0_2 : Nat), r.1.Breaks.length = n0_2 ∧ ∃ (a1 : Option Addr) (n1 c1 : Nat), r.2.length = n1 ∧ v = rets [.agg #[.int .i64 r.1.W, .int .i64 r.1.H, .slice a0_2 n0_2 c0_2], .slice a1 n1 c1] ∧ rs = [rowT 2 eI64 a0_2 n0_2 c0_2 r.1.Breaks, rowT 2 eI64 a1 n1 c1 r.2]
set_option maxRecDepth 100000 in
theorem c56 {w : World} {q0 : List Int} {a_0 : Option Addr} {n_0 c_0 : Nat} (g_0 : Rd w a_0 (eU8.fl q0)) (l_0 : q0.length = n_0) (k_0 : n_0 ≤ c_0) {r : SPanel × List Int} (hres : sh56 q0 = some r) : Calls Go.Proofs.Try.prog 56 [.slice a_0 n_0 c_0].toArray w (Ret w (T56 r)) := by
  subst l_0
  unfold sh56 at hres
  refine calls_of (n := 8) (M := []) (es := []) Go.Proofs.Try.func56 rfl rfl rfl (Sep.nil _ _ _) ?_
  refine JX.seq ?_
  refine JX.region ?_
  refine JL.eff (ef_alloc i28 i28z rfl) rfl ?_
  rintro _ _ ⟨g1, rfl, rfl⟩
  refine JL.val (yl_assign rfl) rfl ?_
  refine JL.nil ?_
  refine JE.code ?_
  refine JX.seq ?_
  refine JX.region ?_
  refine JL.val (yl_move rfl) rfl ?_
  obtain ⟨x3, hx3, hres⟩ := bind_some hres
  refine JL.eff (ef_call (T := T112 x3) Go.Proofs.Try.func112 rfl (by kernel_rfl) rfl (fun w hC => c112 (rd_arg g_0 hC) rfl k_0 hx3)) rfl ?_
  rintro _ _ ⟨_, ⟨a4, _, cp5, rfl, a7, _, cp8, rfl, rfl, rfl⟩, rfl⟩
  refine JL.val (yl_extract rfl rfl) rfl ?_
  refine JL.val (yl_extract rfl rfl) rfl ?_
  refine JL.eff (ef_store_box (i := 0) (v := .agg #[.int .i64 x3.1.W, .int .i64 x3.1.H, .slice a4 x3.1.Breaks.length cp5]) i28 rfl rfl rfl (i28s).symm (Nat.le_of_ble_eq_true rfl) (by simp [Value.cells, Value.oneCell'])) rfl ?_
  rintro _ _ rfl
  refine JL.val (yl_assign rfl) rfl ?_
  refine JL.nil ?_
  refine JE.weak (env' := [(2, ptrAt (some ⟨g1, 0, none⟩) 0), (3, .slice a7 x3.2.length cp8)]) (es' := [boxO 28 g1 [.int .i64 x3.1.W, .int .i64 x3.1.H, .slice a4 x3.1.Breaks.length cp5], rowT 2 eI64 a4 x3.1.Breaks.length cp5 x3.1.Breaks, rowT 2 eI64 a7 x3.2.length cp8 x3.2]) [0, 1, 2] ?_ ⟨rfl, rfl, trivial⟩ (by decide) rfl
  refine JE.code ?_
  refine JX.ret ?_
  obtain rfl := Option.some.inj hres
  refine JE.ret (rs := [.cell 2 28, .tmp 3]) (vs := [.agg #[.int .i64 x3.1.W, .int .i64 x3.1.H, .slice a4 x3.1.Breaks.length cp5], .slice a7 x3.2.length cp8]) rfl ⟨rv_box 0 rfl rfl Go.Proofs.Try.underlying28 rfl i28 (i28s).symm, rfl, trivial⟩ ?_
  exact fun w' hb hs => ⟨_, _, ⟨a4, x3.1.Breaks.length, cp5, rfl, a7, x3.2.length, cp8, rfl, rfl, rfl⟩, rfl, hb, hs.sel [1, 2] _ (by decide) rfl⟩

/- impl.Decimal -/
def sh115_1 : (Int × Int × List Int) → Option ((Int × Int × List Int) ⊕ (Int × List Int))
  | (x5, x6, x7) => bif decide (0 < x6) then (Option.bind (getI x7 (w64 (x5 - 1))) fun x9 => some (.inl (w64 (x5 - 1), IntKind.u64.wrap (x6.tdiv 10), x7.set (w64 (x5 - 1)).toNat (IntKind.u8.wrap (IntKind.u64.wrap (48 + (x6.tmod 10))))))) else (some (.inr (x5, x7)))
def sh115 (q0 : Int) : Option (ByteArray) := bif q0 == 0 then (some (ByteArray.mk #[48])) else (Option.bind (bif decide (q0 < 0) then (some (IntKind.u64.wrap (0 - (IntKind.u64.wrap (q0))))) else (some (IntKind.u64.wrap (q0)))) fun j3 => (Option.bind (iter (sh115_1) (20, j3, List.replicate 20 (0 : Int))) fun b1 => (Option.bind (bif decide (q0 < 0) then (Option.bind (getI b1.2 (w64 (b1.1 - 1))) fun x15 => some (w64 (b1.1 - 1), b1.2.set (w64 (b1.1 - 1)).toNat 45)) else (some (b1.1, b1.2))) fun j11 => (Option.bind (dropL j11.2 j11.1) fun x13 => some (bytesS x13)))))
def T115 (r : ByteArray) (v : Value) (rs : List Own) : Prop := v = rets [.string r] ∧ rs = []
set_option maxRecDepth 100000 in
theorem c115 {w : World} {q0 : Int} {r : ByteArray} (hres : sh115 q0 = some r) : Calls Go.Proofs.Try.prog 115 [.int .i64 q0].toArray w (Ret w (T115 r)) := by
  unfold sh115 at hres
  refine calls_of (n := 36) (M := []) (es := []) Go.Proofs.Try.func115 rfl rfl rfl (Sep.nil _ _ _) ?_
  refine JX.seq ?_
  refine JX.region ?_
  refine JL.val (yl_assign rfl) rfl ?_
  refine JL.nil ?_
  refine JE.code ?_
  refine JX.seq ?_
  refine JX.seq ?_
  refine JX.region ?_
  refine JL.val (yl_move rfl) rfl ?_
  refine JL.val (yl_eql rfl rfl) rfl ?_
  refine JL.nil ?_
  refine JE.code ?_
  rcases cond_some hres with ⟨hb, hres⟩ | ⟨hb, hres⟩
  · refine JX.condT rfl hb ?_
    refine JX.seq ?_
    refine JX.region ?_
    refine JL.val (yl_assign rfl) rfl ?_
    refine JL.nil ?_
    refine JE.code ?_
    refine JX.ret ?_
    obtain rfl := Option.some.inj hres
    refine JE.ret (rs := [.tmp 2]) (vs := [.string (ByteArray.mk #[48])]) rfl ⟨rfl, trivial⟩ ?_
    exact fun w' hb hs => ⟨_, _, ⟨rfl, rfl⟩, rfl, hb, hs.sel [] _ (by decide) rfl⟩
  · refine JX.condF rfl hb ?_
    refine JX.skip ?_
    refine JE.code ?_
    refine JX.seq ?_
    refine JX.region ?_
    refine JL.val (yl_build rfl (fun w => bld169_  w)) rfl ?_
    refine JL.eff (ef_alloc i169 i169z rfl) rfl ?_
    rintro _ _ ⟨g1, rfl, rfl⟩
    refine JL.boxrow eU8 0 (m := 20) (List.replicate 20 (0 : Int)) rfl rfl (Nat.le_of_ble_eq_true rfl) rfl ?_
    refine JL.eff (ef_storeArr (ix := 0) (ys := List.replicate 20 (0 : Int)) i169 rfl rfl rfl rfl (i169s.trans rfl) i169p rfl) rfl ?_
    rintro _ _ rfl
    refine JL.nil ?_
    refine JE.code ?_
    refine JX.seq ?_
    refine JX.region ?_
    refine JL.val (yl_assign rfl) rfl ?_
    refine JL.nil ?_
    refine JE.code ?_
    refine JX.seq ?_
    refine JX.region ?_
    refine JL.val (yl_move rfl) rfl ?_
    refine JL.val (yl_conv Go.Proofs.Try.underlying2 Go.Proofs.Try.underlying160 rfl) rfl ?_
    refine JL.val (yl_assign rfl) rfl ?_
    refine JL.nil ?_
    refine JE.code ?_
    refine JX.seq ?_
    refine JX.seq ?_
    refine JX.region ?_
    refine JL.val (yl_move rfl) rfl ?_
    refine JL.val (yl_lss rfl rfl) rfl ?_
    refine JL.nil ?_
    refine JE.code ?_
    obtain ⟨j3, hj3, hresj3⟩ := bind_some hres
    refine JX.cut (K := fun J => J [(0, .int .i64 q0), (3, ptrAt (some ⟨g1, 0, none⟩) 0), (4, .int .i64 20), (5, .int .u64 j3)] [rowT 169 eU8 (some ⟨g1, 0, none⟩) 20 20 (List.replicate 20 (0 : Int))]) ?_ ?_
    · have hres := hresj3
      refine JE.code ?_
      refine JX.seq ?_
      refine JX.block ?_
      obtain ⟨y1, hy1, hresO1⟩ := bind_some hres
      refine JX.loop (I := fun (s1 : Int × Int × List Int) aa ww => ∃ (l4 : s1.2.2.length = 20), St w [] 36 [(0, .int .i64 q0), (3, ptrAt (some ⟨g1, 0, none⟩) 0), (4, .int .i64 s1.1), (5, .int .u64 s1.2.1)] [rowT 169 eU8 (some ⟨g1, 0, none⟩) 20 20 s1.2.2] aa ww) (sh115_1) hy1 (fun a w h => ⟨(rfl : (List.replicate 20 (0 : Int)).length = 20), h.weak ⟨rfl, rfl, rfl, rfl, trivial⟩ [0] (by decide) rfl⟩) ?_
      rintro ⟨x5, x6, x7⟩ o1 hres hox1 aa ww ⟨l8, hS⟩
      refine (?_ : JX Go.Proofs.Try.prog w [] 36 _ _ [(0, .int .i64 q0), (3, ptrAt (some ⟨g1, 0, none⟩) 0), (4, .int .i64 x5), (5, .int .u64 x6)] [rowT 169 eU8 (some ⟨g1, 0, none⟩) 20 20 x7] _) aa ww hS
      clear hS
      simp only [sh115_1] at hres
      refine JX.seq ?_
      refine JX.seq ?_
      refine JX.region ?_
      refine JL.val (yl_move rfl) rfl ?_
      refine JL.val (yl_gtr rfl rfl) rfl ?_
      refine JL.nil ?_
      refine JE.code ?_
      rcases cond_some hres with ⟨hb, hres⟩ | ⟨hb, hres⟩
      · refine JX.condT rfl hb ?_
        refine JX.skip ?_
        refine JE.code ?_
        refine JX.block ?_
        refine JX.seq ?_
        refine JX.region ?_
        refine JL.val (yl_move rfl) rfl ?_
        refine JL.val (yl_sub rfl rfl) rfl ?_
        refine JL.val (yl_assign rfl) rfl ?_
        refine JL.nil ?_
        refine JE.code ?_
        refine JX.seq ?_
        refine JX.region ?_
        refine JL.val (yl_move rfl) rfl ?_
        refine JL.val (yl_move rfl) rfl ?_
        refine JL.val (yl_rem rfl rfl (by decide)) rfl ?_
        refine JL.val (yl_add rfl rfl) rfl ?_
        refine JL.val (yl_conv Go.Proofs.Try.underlying160 Go.Proofs.Try.underlying5 rfl) rfl ?_
        obtain ⟨x9, hx9, hres⟩ := bind_some hres
        refine JL.val (yl_idxArr (e := eU8) Go.Proofs.Try.underlying169 i5 i5s rfl rfl hx9 l8) rfl ?_
        refine JL.eff (ef_storeT (ix := 0) (u := IntKind.u8.wrap (IntKind.u64.wrap (48 + (x6.tmod 10)))) i5 i5s rfl rfl rfl hx9 rfl) rfl ?_
        rintro _ _ rfl
        refine JL.nil ?_
        refine JE.weak (env' := [(0, .int .i64 q0), (3, ptrAt (some ⟨g1, 0, none⟩) 0), (4, .int .i64 (w64 (x5 - 1))), (5, .int .u64 x6)]) (es' := [rowT 169 eU8 (some ⟨g1, 0, none⟩) 20 20 (x7.set (w64 (x5 - 1)).toNat (IntKind.u8.wrap (IntKind.u64.wrap (48 + (x6.tmod 10)))))]) [0] ?_ ⟨rfl, rfl, rfl, rfl, trivial⟩ (by decide) rfl
        refine JE.code ?_
        refine JX.region ?_
        refine JL.val (yl_move rfl) rfl ?_
        refine JL.val (yl_quo rfl rfl (by decide)) rfl ?_
        refine JL.val (yl_assign rfl) rfl ?_
        refine JL.nil ?_
        refine JE.cont hres ?_
        exact fun a w h => ⟨(List.length_set.trans l8), h.weak ⟨rfl, rfl, rfl, rfl, trivial⟩ [0] (by decide) rfl⟩
      · refine JX.condF rfl hb ?_
        refine JX.exit ?_
        refine JE.qb rfl ?_
        obtain ⟨b1, hb1⟩ : ∃ b : Int × List Int, b = (x5, x7) := ⟨_, rfl⟩
        have hy1 : b1 = y1 := by rw [hb1]; exact hox1 _ (Option.some.inj hres).symm
        have hres := hresO1
        rw [← hy1] at hres
        have l10 : b1.2.length = 20 := by subst hb1; exact l8
        refine JE.weak (env' := [(0, .int .i64 q0), (3, ptrAt (some ⟨g1, 0, none⟩) 0), (4, .int .i64 b1.1)]) (es' := [rowT 169 eU8 (some ⟨g1, 0, none⟩) 20 20 b1.2]) [0] ?_ ⟨(by subst hb1; rfl), (by subst hb1; rfl), (by subst hb1; rfl), trivial⟩ (by decide) (by subst hb1; rfl)
        refine JE.code ?_
        refine JX.seq ?_
        refine JX.seq ?_
        refine JX.region ?_
        refine JL.val (yl_move rfl) rfl ?_
        refine JL.val (yl_lss rfl rfl) rfl ?_
        refine JL.nil ?_
        refine JE.code ?_
        obtain ⟨j11, hj11, hresj11⟩ := bind_some hres
        refine JX.cut (K := fun J => ∀ (l12 : j11.2.length = 20), J [(3, ptrAt (some ⟨g1, 0, none⟩) 0), (4, .int .i64 j11.1)] [rowT 169 eU8 (some ⟨g1, 0, none⟩) 20 20 j11.2]) ?_ ?_
        · intro l12
          have hres := hresj11
          refine JE.code ?_
          refine JX.seq ?_
          refine JX.region ?_
          refine JL.val (yl_move rfl) rfl ?_
          obtain ⟨x13, hx13, hres⟩ := bind_some hres
          refine JL.val (yl_dropArr (e := eU8) Go.Proofs.Try.underlying169 i5 i5s rfl rfl hx13 l12) rfl ?_
          refine JL.val (yl_bytesT Go.Proofs.Try.underlying54 Go.Proofs.Try.underlying9 Go.Proofs.Try.underlying5 rfl (dropL_len hx13 l12) (fun w hC => Rd.dropT (rd_row hC 0 rfl) hx13 l12 (Nat.le_refl _))) rfl ?_
          refine JL.val (yl_assign rfl) rfl ?_
          refine JL.nil ?_
          refine JE.weak (env' := [(2, .string (bytesS x13))]) (es' := []) [] ?_ ⟨rfl, trivial⟩ (by decide) rfl
          refine JE.code ?_
          refine JX.ret ?_
          obtain rfl := Option.some.inj hres
          refine JE.ret (rs := [.tmp 2]) (vs := [.string (bytesS x13)]) rfl ⟨rfl, trivial⟩ ?_
          exact fun w' hb hs => ⟨_, _, ⟨rfl, rfl⟩, rfl, hb, hs.sel [] _ (by decide) rfl⟩
        · intro K
          rcases cond_some hj11 with ⟨hb, hres⟩ | ⟨hb, hres⟩
          · refine JX.condT rfl hb ?_
            refine JX.seq ?_
            refine JX.region ?_
            refine JL.val (yl_move rfl) rfl ?_
            refine JL.val (yl_sub rfl rfl) rfl ?_
            refine JL.val (yl_assign rfl) rfl ?_
            refine JL.nil ?_
            refine JE.code ?_
            refine JX.region ?_
            refine JL.val (yl_move rfl) rfl ?_
            obtain ⟨x15, hx15, hres⟩ := bind_some hres
            refine JL.val (yl_idxArr (e := eU8) Go.Proofs.Try.underlying169 i5 i5s rfl rfl hx15 l10) rfl ?_
            refine JL.eff (ef_storeT (ix := 0) (u := 45) i5 i5s rfl rfl rfl hx15 rfl) rfl ?_
            rintro _ _ rfl
            refine JL.nil ?_
            have hj := Option.some.inj hres
            exact JE.weak [0] (K (by subst hj; exact (List.length_set.trans l10))) ⟨(by subst hj; rfl), (by subst hj; rfl), trivial⟩ (by decide) (by subst hj; rfl)
          · refine JX.condF rfl hb ?_
            refine JX.skip ?_
            have hj := Option.some.inj hres
            exact JE.weak [0] (K (by subst hj; exact l10)) ⟨(by subst hj; rfl), (by subst hj; rfl), trivial⟩ (by decide) (by subst hj; rfl)
    · intro K
      rcases cond_some hj3 with ⟨hb, hres⟩ | ⟨hb, hres⟩
      · refine JX.condT rfl hb ?_
        refine JX.region ?_
        refine JL.val (yl_move rfl) rfl ?_
        refine JL.val (yl_neg rfl) rfl ?_
        refine JL.val (yl_assign rfl) rfl ?_
        refine JL.nil ?_
        have hj := Option.some.inj hres
        exact JE.weak [0] (K) ⟨(by subst hj; rfl), (by subst hj; rfl), (by subst hj; rfl), (by subst hj; rfl), trivial⟩ (by decide) (by subst hj; rfl)
      · refine JX.condF rfl hb ?_
        refine JX.skip ?_
        have hj := Option.some.inj hres
        exact JE.weak [0] (K) ⟨(by subst hj; rfl), (by subst hj; rfl), (by subst hj; rfl), (by subst hj; rfl), trivial⟩ (by decide) (by subst hj; rfl)

/- impl.ColourLines -/
def sh57_2 (q0 : SPanel) (q1 : List Int) (x9 : List (List SWalker) × List Int) (x21 : Int) : (ByteArray × Int) → Option ((ByteArray × Int) ⊕ (ByteArray))
  | (x25, x26) => bif decide (x26 < (w64 (2 * q0.W))) then (Option.bind (getI x9.2 (w64 ((w64 ((w64 (x26 * 2)) * q0.H)) + x21))) fun x27 => Option.bind (getI q1 x27) fun x28 => Option.bind (sh115 x28) fun x29 => Option.bind (catS x25 x29) fun x30 => some (.inl (x30, w64 (x26 + 1)))) else (some (.inr x25))
def sh57_1 (q0 : SPanel) (q1 : List Int) (x9 : List (List SWalker) × List Int) : (Int × List ByteArray) → Option ((Int × List ByteArray) ⊕ (List ByteArray))
  | (x21, x22) => bif decide (x21 < (w64 (2 * q0.H))) then (Option.bind (iter (sh57_2 q0 q1 x9 x21) (ByteArray.mk #[], 0)) fun b2 => (Option.bind (appL x22 [b2]) fun x33 => some (.inl (w64 (x21 + 1), x33)))) else (some (.inr x22))
def sh57 (q0 : SPanel) (q1 : List Int) : Option (List ByteArray × Int) := Option.bind (sh86 q0) fun x3 => bif !x3 then (some (([] : List ByteArray), 1)) else (Option.bind (sh97 q0 q1) fun x5 => bif !x5 then (some (([] : List ByteArray), 2)) else (Option.bind (sh114 q0) fun x9 => Option.bind (iter (sh57_1 q0 q1 x9) (0, ([] : List ByteArray))) fun b1 => (some (b1, 0))))
def T57 (r : List ByteArray × Int) (v : Value) (rs : List Own) : Prop := ∃ (a0 : Option Addr) (n0 c0 : Nat), r.1.length = n0 ∧ v = rets [.slice a0 n0 c0, .int .i64 r.2] ∧ rs = [rowT 9 eStr a0 n0 c0 r.1]
set_option maxRecDepth 100000 in
theorem c57 {w : World} {q0 : SPanel} {a_0_2 : Option Addr} {n_0_2 c_0_2 : Nat} (g_0_2 : Rd w a_0_2 (eI64.fl q0.Breaks)) (l_0_2 : q0.Breaks.length = n_0_2) (k_0_2 : n_0_2 ≤ c_0_2) {q1 : List Int} {a_1 : Option Addr} {n_1 c_1 : Nat} (g_1 : Rd w a_1 (eI64.fl q1)) (l_1 : q1.length = n_1) (k_1 : n_1 ≤ c_1) {r : List ByteArray × Int} (hres : sh57 q0 q1 = some r) : Calls Go.Proofs.Try.prog 57 [.agg #[.int .i64 q0.W, .int .i64 q0.H, .slice a_0_2 n_0_2 c_0_2], .slice a_1 n_1 c_1].toArray w (Ret w (T57 r)) := by
  subst l_0_2
  subst l_1
  unfold sh57 at hres
  refine calls_of (n := 60) (M := []) (es := []) Go.Proofs.Try.func57 rfl rfl rfl (Sep.nil _ _ _) ?_
  refine JX.seq ?_
  refine JX.region ?_
  refine JL.eff (ef_box rfl rfl) rfl ?_
  rintro _ _ ⟨g1, rfl, rfl⟩
  refine JL.val (yl_assign rfl) rfl ?_
  refine JL.val (yl_assign rfl) rfl ?_
  refine JL.nil ?_
  refine JE.code ?_
  refine JX.seq ?_
  refine JX.seq ?_
  refine JX.region ?_
  refine JL.val (yl_loadn Go.Proofs.Try.underlying28 rfl i28 rfl (fun w hC => rd_box hC 0 rfl) rfl (i28s).symm i28p) rfl ?_
  obtain ⟨x3, hx3, hres⟩ := bind_some hres
  refine JL.eff (ef_call (vs := [.agg #[.int .i64 q0.W, .int .i64 q0.H, .slice a_0_2 q0.Breaks.length c_0_2]]) (T := T86 x3) Go.Proofs.Try.func86 rfl (by kernel_rfl) rfl (fun w hC => c86 (q0 := q0) (rd_arg g_0_2 hC) rfl k_0_2 hx3)) rfl ?_
  rintro _ _ ⟨_, ⟨rfl, rfl⟩, rfl⟩
  refine JL.val (yl_not rfl) rfl ?_
  refine JL.nil ?_
  refine JE.code ?_
  rcases cond_some hres with ⟨hb, hres⟩ | ⟨hb, hres⟩
  · refine JX.condT rfl hb ?_
    refine JX.seq ?_
    refine JX.region ?_
    refine JL.val (yl_assign rfl) rfl ?_
    refine JL.val (yl_assign rfl) rfl ?_
    refine JL.nil ?_
    refine JE.weak (env' := [(4, .slice none 0 0), (5, .int .i64 1)]) (es' := []) [] ?_ ⟨rfl, rfl, trivial⟩ (by decide) rfl
    refine JE.code ?_
    refine JX.ret ?_
    refine JE.nilrow 9 eStr ?_
    obtain rfl := Option.some.inj hres
    refine JE.ret (rs := [.tmp 4, .tmp 5]) (vs := [.slice none 0 0, .int .i64 1]) rfl ⟨rfl, rfl, trivial⟩ ?_
    exact fun w' hb hs => ⟨_, _, ⟨none, 0, 0, rfl, rfl, rfl⟩, rfl, hb, hs.sel [0] _ (by decide) rfl⟩
  · refine JX.condF rfl hb ?_
    refine JX.skip ?_
    refine JE.code ?_
    refine JX.seq ?_
    refine JX.seq ?_
    refine JX.region ?_
    refine JL.val (yl_loadn Go.Proofs.Try.underlying28 rfl i28 rfl (fun w hC => rd_box hC 0 rfl) rfl (i28s).symm i28p) rfl ?_
    refine JL.val (yl_move rfl) rfl ?_
    obtain ⟨x5, hx5, hres⟩ := bind_some hres
    refine JL.eff (ef_call (vs := [.agg #[.int .i64 q0.W, .int .i64 q0.H, .slice a_0_2 q0.Breaks.length c_0_2], .slice a_1 q1.length c_1]) (T := T97 x5) Go.Proofs.Try.func97 rfl (by kernel_rfl) rfl (fun w hC => c97 (q0 := q0) (rd_arg g_0_2 hC) rfl k_0_2 (rd_arg g_1 hC) rfl k_1 hx5)) rfl ?_
    rintro _ _ ⟨_, ⟨rfl, rfl⟩, rfl⟩
    refine JL.val (yl_not rfl) rfl ?_
    refine JL.nil ?_
    refine JE.weak (env' := [(1, .slice a_1 q1.length c_1), (2, ptrAt (some ⟨g1, 0, none⟩) 0), (18, .bool !x5)]) (es' := [boxO 28 g1 [.int .i64 q0.W, .int .i64 q0.H, .slice a_0_2 q0.Breaks.length c_0_2]]) [0] ?_ ⟨rfl, rfl, rfl, trivial⟩ (by decide) rfl
    refine JE.code ?_
    rcases cond_some hres with ⟨hb, hres⟩ | ⟨hb, hres⟩
    · refine JX.condT rfl hb ?_
      refine JX.seq ?_
      refine JX.region ?_
      refine JL.val (yl_assign rfl) rfl ?_
      refine JL.val (yl_assign rfl) rfl ?_
      refine JL.nil ?_
      refine JE.weak (env' := [(4, .slice none 0 0), (5, .int .i64 2)]) (es' := []) [] ?_ ⟨rfl, rfl, trivial⟩ (by decide) rfl
      refine JE.code ?_
      refine JX.ret ?_
      refine JE.nilrow 9 eStr ?_
      obtain rfl := Option.some.inj hres
      refine JE.ret (rs := [.tmp 4, .tmp 5]) (vs := [.slice none 0 0, .int .i64 2]) rfl ⟨rfl, rfl, trivial⟩ ?_
      exact fun w' hb hs => ⟨_, _, ⟨none, 0, 0, rfl, rfl, rfl⟩, rfl, hb, hs.sel [0] _ (by decide) rfl⟩
    · refine JX.condF rfl hb ?_
      refine JX.skip ?_
      refine JE.code ?_
      refine JX.seq ?_
      refine JX.region ?_
      refine JL.eff (ef_buildSlice (E := 9) (k := eStr.k) (us := eStr.fl ([] : List ByteArray)) rfl (fun w => bsl64_0  w) rfl (by decide)) rfl ?_
      rintro _ _ ⟨a7, rfl, rfl⟩
      refine JL.val (yl_assign rfl) rfl ?_
      refine JL.nil ?_
      refine JE.code ?_
      refine JX.seq ?_
      refine JX.region ?_
      refine JL.val (yl_loadn Go.Proofs.Try.underlying28 rfl i28 rfl (fun w hC => rd_box hC 0 rfl) rfl (i28s).symm i28p) rfl ?_
      obtain ⟨x9, hx9, hres⟩ := bind_some hres
      refine JL.eff (ef_call (vs := [.agg #[.int .i64 q0.W, .int .i64 q0.H, .slice a_0_2 q0.Breaks.length c_0_2]]) (T := T114 x9) Go.Proofs.Try.func114 rfl (by kernel_rfl) rfl (fun w hC => c114 (q0 := q0) (rd_arg g_0_2 hC) rfl k_0_2 hx9)) rfl ?_
      rintro _ _ ⟨_, ⟨a10, _, cp11, hs13, rfl, hi14, a16, _, cp17, rfl, rfl, rfl⟩, rfl⟩
      refine JL.val (yl_move rfl) rfl ?_
      refine JL.val (yl_extract rfl rfl) rfl ?_
      refine JL.val (yl_extract rfl rfl) rfl ?_
      refine JL.val (yl_assign rfl) rfl ?_
      refine JL.val (yl_assign rfl) rfl ?_
      refine JL.nil ?_
      refine JE.weak (env' := [(1, .slice a_1 q1.length c_1), (2, ptrAt (some ⟨g1, 0, none⟩) 0), (6, .slice a7 0 0), (8, .slice a16 x9.2.length cp17)]) (es' := [boxO 28 g1 [.int .i64 q0.W, .int .i64 q0.H, .slice a_0_2 q0.Breaks.length c_0_2], rowT 9 eStr a7 0 0 ([] : List ByteArray), rowT 2 eI64 a16 x9.2.length cp17 x9.2]) [0, 1, 4] ?_ ⟨rfl, rfl, rfl, rfl, trivial⟩ (by decide) rfl
      refine JE.code ?_
      refine JX.seq ?_
      refine JX.seq ?_
      refine JX.region ?_
      refine JL.val (yl_fieldAt (a := some _) Go.Proofs.Try.underlying28 rfl i2 i2n rfl rfl) rfl ?_
      refine JL.val (yl_load1 Go.Proofs.Try.underlying2 rfl rfl (fun w hC => rd_box hC 0 rfl) rfl) rfl ?_
      refine JL.val (yl_mul rfl rfl) rfl ?_
      refine JL.val (yl_move rfl) rfl ?_
      refine JL.nil ?_
      refine JE.weak (env' := [(1, .slice a_1 q1.length c_1), (2, ptrAt (some ⟨g1, 0, none⟩) 0), (6, .slice a7 0 0), (8, .slice a16 x9.2.length cp17), (27, .int .i64 (w64 (2 * q0.H))), (28, .int .i64 0)]) (es' := [boxO 28 g1 [.int .i64 q0.W, .int .i64 q0.H, .slice a_0_2 q0.Breaks.length c_0_2], rowT 9 eStr a7 0 0 ([] : List ByteArray), rowT 2 eI64 a16 x9.2.length cp17 x9.2]) [0, 1, 2] ?_ ⟨rfl, rfl, rfl, rfl, rfl, rfl, trivial⟩ (by decide) rfl
      refine JE.code ?_
      refine JX.block ?_
      obtain ⟨y1, hy1, hresO1⟩ := bind_some hres
      refine JX.loop (I := fun (s1 : Int × List ByteArray) aa ww => ∃ (a19 : Option Addr) (cp20 : Nat), St w [] 60 [(1, .slice a_1 q1.length c_1), (2, ptrAt (some ⟨g1, 0, none⟩) 0), (6, .slice a19 s1.2.length cp20), (8, .slice a16 x9.2.length cp17), (27, .int .i64 (w64 (2 * q0.H))), (28, .int .i64 s1.1)] [boxO 28 g1 [.int .i64 q0.W, .int .i64 q0.H, .slice a_0_2 q0.Breaks.length c_0_2], rowT 9 eStr a19 s1.2.length cp20 s1.2, rowT 2 eI64 a16 x9.2.length cp17 x9.2] aa ww) (sh57_1 q0 q1 x9) hy1 (fun a w h => ⟨a7, 0, h.weak ⟨rfl, rfl, rfl, rfl, rfl, rfl, trivial⟩ [0, 1, 2] (by decide) rfl⟩) ?_
      rintro ⟨x21, x22⟩ o1 hres hox1 aa ww ⟨a23, cp24, hS⟩
      refine (?_ : JX Go.Proofs.Try.prog w [] 60 _ _ [(1, .slice a_1 q1.length c_1), (2, ptrAt (some ⟨g1, 0, none⟩) 0), (6, .slice a23 x22.length cp24), (8, .slice a16 x9.2.length cp17), (27, .int .i64 (w64 (2 * q0.H))), (28, .int .i64 x21)] [boxO 28 g1 [.int .i64 q0.W, .int .i64 q0.H, .slice a_0_2 q0.Breaks.length c_0_2], rowT 9 eStr a23 x22.length cp24 x22, rowT 2 eI64 a16 x9.2.length cp17 x9.2] _) aa ww hS
      clear hS
      simp only [sh57_1] at hres
      refine JX.seq ?_
      refine JX.region ?_
      refine JL.val (yl_lss rfl rfl) rfl ?_
      refine JL.nil ?_
      refine JE.code ?_
      refine JX.seq ?_
      rcases cond_some hres with ⟨hb, hres⟩ | ⟨hb, hres⟩
      · refine JX.condT rfl hb ?_
        refine JX.skip ?_
        refine JE.code ?_
        refine JX.seq ?_
        refine JX.block ?_
        refine JX.seq ?_
        refine JX.region ?_
        refine JL.val (yl_move rfl) rfl ?_
        refine JL.val (yl_assign rfl) rfl ?_
        refine JL.nil ?_
        refine JE.code ?_
        refine JX.seq ?_
        refine JX.region ?_
        refine JL.val (yl_assign rfl) rfl ?_
        refine JL.nil ?_
        refine JE.code ?_
        refine JX.seq ?_
        refine JX.seq ?_
        refine JX.region ?_
        refine JL.val (yl_fieldAt (a := some _) Go.Proofs.Try.underlying28 rfl i2 i2n rfl rfl) rfl ?_
        refine JL.val (yl_load1 Go.Proofs.Try.underlying2 rfl rfl (fun w hC => rd_box hC 0 rfl) rfl) rfl ?_
        refine JL.val (yl_mul rfl rfl) rfl ?_
        refine JL.val (yl_move rfl) rfl ?_
        refine JL.nil ?_
        refine JE.weak (env' := [(1, .slice a_1 q1.length c_1), (2, ptrAt (some ⟨g1, 0, none⟩) 0), (6, .slice a23 x22.length cp24), (8, .slice a16 x9.2.length cp17), (9, .int .i64 x21), (10, .string (ByteArray.mk #[])), (27, .int .i64 (w64 (2 * q0.H))), (28, .int .i64 x21), (33, .int .i64 (w64 (2 * q0.W))), (34, .int .i64 0)]) (es' := [boxO 28 g1 [.int .i64 q0.W, .int .i64 q0.H, .slice a_0_2 q0.Breaks.length c_0_2], rowT 9 eStr a23 x22.length cp24 x22, rowT 2 eI64 a16 x9.2.length cp17 x9.2]) [0, 1, 2] ?_ ⟨rfl, rfl, rfl, rfl, rfl, rfl, rfl, rfl, rfl, rfl, trivial⟩ (by decide) rfl
        refine JE.code ?_
        refine JX.block ?_
        obtain ⟨y2, hy2, hresO2⟩ := bind_some hres
        refine JX.loop (I := fun (s2 : ByteArray × Int) aa ww => St w [] 60 [(1, .slice a_1 q1.length c_1), (2, ptrAt (some ⟨g1, 0, none⟩) 0), (6, .slice a23 x22.length cp24), (8, .slice a16 x9.2.length cp17), (9, .int .i64 x21), (10, .string s2.1), (27, .int .i64 (w64 (2 * q0.H))), (28, .int .i64 x21), (33, .int .i64 (w64 (2 * q0.W))), (34, .int .i64 s2.2)] [boxO 28 g1 [.int .i64 q0.W, .int .i64 q0.H, .slice a_0_2 q0.Breaks.length c_0_2], rowT 9 eStr a23 x22.length cp24 x22, rowT 2 eI64 a16 x9.2.length cp17 x9.2] aa ww) (sh57_2 q0 q1 x9 x21) hy2 (fun a w h => h.weak ⟨rfl, rfl, rfl, rfl, rfl, rfl, rfl, rfl, rfl, rfl, trivial⟩ [0, 1, 2] (by decide) rfl) ?_
        rintro ⟨x25, x26⟩ o2 hres hox2 aa ww hS
        refine (?_ : JX Go.Proofs.Try.prog w [] 60 _ _ [(1, .slice a_1 q1.length c_1), (2, ptrAt (some ⟨g1, 0, none⟩) 0), (6, .slice a23 x22.length cp24), (8, .slice a16 x9.2.length cp17), (9, .int .i64 x21), (10, .string x25), (27, .int .i64 (w64 (2 * q0.H))), (28, .int .i64 x21), (33, .int .i64 (w64 (2 * q0.W))), (34, .int .i64 x26)] [boxO 28 g1 [.int .i64 q0.W, .int .i64 q0.H, .slice a_0_2 q0.Breaks.length c_0_2], rowT 9 eStr a23 x22.length cp24 x22, rowT 2 eI64 a16 x9.2.length cp17 x9.2] _) aa ww hS
        clear hS
        simp only [sh57_2] at hres
        refine JX.seq ?_
        refine JX.region ?_
        refine JL.val (yl_lss rfl rfl) rfl ?_
        refine JL.nil ?_
        refine JE.code ?_
        refine JX.seq ?_
        rcases cond_some hres with ⟨hb, hres⟩ | ⟨hb, hres⟩
        · refine JX.condT rfl hb ?_
          refine JX.skip ?_
          refine JE.code ?_
          refine JX.seq ?_
          refine JX.block ?_
          refine JX.seq ?_
          refine JX.region ?_
          refine JL.val (yl_move rfl) rfl ?_
          refine JL.val (yl_assign rfl) rfl ?_
          refine JL.nil ?_
          refine JE.code ?_
          refine JX.region ?_
          refine JL.val (yl_move rfl) rfl ?_
          refine JL.val (yl_move rfl) rfl ?_
          refine JL.val (yl_move rfl) rfl ?_
          refine JL.val (yl_move rfl) rfl ?_
          refine JL.val (yl_mul rfl rfl) rfl ?_
          refine JL.val (yl_fieldAt (a := some _) Go.Proofs.Try.underlying28 rfl i2 i2n rfl rfl) rfl ?_
          refine JL.val (yl_load1 Go.Proofs.Try.underlying2 rfl rfl (fun w hC => rd_box hC 0 rfl) rfl) rfl ?_
          refine JL.val (yl_mul rfl rfl) rfl ?_
          refine JL.val (yl_move rfl) rfl ?_
          refine JL.val (yl_add rfl rfl) rfl ?_
          obtain ⟨x27, hx27, hres⟩ := bind_some hres
          refine JL.val (yl_idxT Go.Proofs.Try.underlying22 i2 i2s rfl rfl hx27 rfl (fun w hC => rd_row hC 2 rfl)) rfl ?_
          refine JL.val (yl_loadT0 Go.Proofs.Try.underlying2 rfl rfl hx27 (fun w hC => rd_row hC 2 rfl) rfl) rfl ?_
          obtain ⟨x28, hx28, hres⟩ := bind_some hres
          refine JL.val (yl_idxT Go.Proofs.Try.underlying22 i2 i2s rfl rfl hx28 rfl (fun w hC => rd_arg g_1 hC)) rfl ?_
          refine JL.val (yl_loadT0 Go.Proofs.Try.underlying2 rfl rfl hx28 (fun w hC => rd_arg g_1 hC) rfl) rfl ?_
          obtain ⟨x29, hx29, hres⟩ := bind_some hres
          refine JL.eff (ef_call (T := T115 x29) Go.Proofs.Try.func115 rfl (by kernel_rfl) rfl (fun w hC => c115  hx29)) rfl ?_
          rintro _ _ ⟨_, ⟨rfl, rfl⟩, rfl⟩
          obtain ⟨x30, hx30, hres⟩ := bind_some hres
          refine JL.val (yl_catS rfl rfl hx30) rfl ?_
          refine JL.val (yl_assign rfl) rfl ?_
          refine JL.nil ?_
          refine JE.weak (env' := [(1, .slice a_1 q1.length c_1), (2, ptrAt (some ⟨g1, 0, none⟩) 0), (6, .slice a23 x22.length cp24), (8, .slice a16 x9.2.length cp17), (9, .int .i64 x21), (10, .string x30), (27, .int .i64 (w64 (2 * q0.H))), (28, .int .i64 x21), (33, .int .i64 (w64 (2 * q0.W))), (34, .int .i64 x26)]) (es' := [boxO 28 g1 [.int .i64 q0.W, .int .i64 q0.H, .slice a_0_2 q0.Breaks.length c_0_2], rowT 9 eStr a23 x22.length cp24 x22, rowT 2 eI64 a16 x9.2.length cp17 x9.2]) [0, 1, 2] ?_ ⟨rfl, rfl, rfl, rfl, rfl, rfl, rfl, rfl, rfl, rfl, trivial⟩ (by decide) rfl
          refine JE.code ?_
          refine JX.region ?_
          refine JL.val (yl_add rfl rfl) rfl ?_
          refine JL.val (yl_move rfl) rfl ?_
          refine JL.nil ?_
          refine JE.cont hres ?_
          exact fun a w h => h.weak ⟨rfl, rfl, rfl, rfl, rfl, rfl, rfl, rfl, rfl, rfl, trivial⟩ [0, 1, 2] (by decide) rfl
        · refine JX.condF rfl hb ?_
          refine JX.exit ?_
          refine JE.qb rfl ?_
          obtain ⟨b2, hb2⟩ : ∃ b : ByteArray, b = x25 := ⟨_, rfl⟩
          have hy2 : b2 = y2 := by rw [hb2]; exact hox2 _ (Option.some.inj hres).symm
          have hres := hresO2
          rw [← hy2] at hres
          refine JE.weak (env' := [(1, .slice a_1 q1.length c_1), (2, ptrAt (some ⟨g1, 0, none⟩) 0), (6, .slice a23 x22.length cp24), (8, .slice a16 x9.2.length cp17), (10, .string b2), (27, .int .i64 (w64 (2 * q0.H))), (28, .int .i64 x21)]) (es' := [boxO 28 g1 [.int .i64 q0.W, .int .i64 q0.H, .slice a_0_2 q0.Breaks.length c_0_2], rowT 9 eStr a23 x22.length cp24 x22, rowT 2 eI64 a16 x9.2.length cp17 x9.2]) [0, 1, 2] ?_ ⟨(by subst hb2; rfl), (by subst hb2; rfl), (by subst hb2; rfl), (by subst hb2; rfl), (by subst hb2; rfl), (by subst hb2; rfl), (by subst hb2; rfl), trivial⟩ (by decide) (by subst hb2; rfl)
          refine JE.code ?_
          refine JX.region ?_
          refine JL.val (yl_move rfl) rfl ?_
          refine JL.val (yl_move rfl) rfl ?_
          refine JL.eff (ef_buildSlice (E := 9) (k := eStr.k) (us := eStr.fl [b2]) rfl (fun w => bsl64_1 b2 w) rfl (by decide)) rfl ?_
          rintro _ _ ⟨a31, rfl, rfl⟩
          obtain ⟨x33, hx33, hres⟩ := bind_some hres
          refine JL.eff (ef_appendT (ix := 1) Go.Proofs.Try.underlying64 i9 i9z i9s rfl i9b0 i9b1 rfl rfl rfl rfl rfl (fun w hC => rd_row hC 3 rfl) hx33) rfl ?_
          rintro _ _ ⟨a34, cp35, rfl, rfl⟩
          refine JL.val (yl_assign rfl) rfl ?_
          refine JL.nil ?_
          refine JE.weak (env' := [(1, .slice a_1 q1.length c_1), (2, ptrAt (some ⟨g1, 0, none⟩) 0), (6, .slice a34 x33.length cp35), (8, .slice a16 x9.2.length cp17), (27, .int .i64 (w64 (2 * q0.H))), (28, .int .i64 x21)]) (es' := [boxO 28 g1 [.int .i64 q0.W, .int .i64 q0.H, .slice a_0_2 q0.Breaks.length c_0_2], rowT 9 eStr a34 x33.length cp35 x33, rowT 2 eI64 a16 x9.2.length cp17 x9.2]) [0, 1, 2] ?_ ⟨rfl, rfl, rfl, rfl, rfl, rfl, trivial⟩ (by decide) rfl
          refine JE.code ?_
          refine JX.region ?_
          refine JL.val (yl_add rfl rfl) rfl ?_
          refine JL.val (yl_move rfl) rfl ?_
          refine JL.nil ?_
          refine JE.cont hres ?_
          exact fun a w h => ⟨a34, cp35, h.weak ⟨rfl, rfl, rfl, rfl, rfl, rfl, trivial⟩ [0, 1, 2] (by decide) rfl⟩
      · refine JX.condF rfl hb ?_
        refine JX.exit ?_
        refine JE.qb rfl ?_
        obtain ⟨b1, hb1⟩ : ∃ b : List ByteArray, b = x22 := ⟨_, rfl⟩
        have hy1 : b1 = y1 := by rw [hb1]; exact hox1 _ (Option.some.inj hres).symm
        have hres := hresO1
        rw [← hy1] at hres
        refine JE.weak (env' := [(6, .slice a23 b1.length cp24)]) (es' := [rowT 9 eStr a23 b1.length cp24 b1]) [1] ?_ ⟨(by subst hb1; rfl), trivial⟩ (by decide) (by subst hb1; rfl)
        refine JE.code ?_
        refine JX.seq ?_
        refine JX.region ?_
        refine JL.val (yl_move rfl) rfl ?_
        refine JL.val (yl_assign rfl) rfl ?_
        refine JL.val (yl_assign rfl) rfl ?_
        refine JL.nil ?_
        refine JE.code ?_
        refine JX.ret ?_
        obtain rfl := Option.some.inj hres
        refine JE.ret (rs := [.tmp 4, .tmp 5]) (vs := [.slice a23 b1.length cp24, .int .i64 0]) rfl ⟨rfl, rfl, trivial⟩ ?_
        exact fun w' hb hs => ⟨_, _, ⟨a23, b1.length, cp24, rfl, rfl, rfl⟩, rfl, hb, hs.sel [0] _ (by decide) rfl⟩

/- spec.ColourLines -/
def sh58_2 (q0 : SPanel) (q1 : List Int) (x5 : List (List SPoint) × List Int) (x21 : Int) : (Int × List Int) → Option ((Int × List Int) ⊕ (List Int))
  | (x29, x30) => bif decide (x29 < (w64 (2 * q0.W))) then (Option.bind (bif ((w64 (x29 + x21)).tmod 2) == 0 then (some (SWalker.mk (SPoint.mk x29 (w64 (x21 + 1))) 1 (-1))) else (some (SWalker.mk (SPoint.mk x29 x21) 1 1))) fun j35 => (Option.bind (sh117 q0 j35) fun x36 => Option.bind (getI x5.2 x36) fun x37 => Option.bind (getI q1 x37) fun x38 => Option.bind (appL x30 [IntKind.u8.wrap (w64 (48 + x38))]) fun x41 => some (.inl (w64 (x29 + 1), x41)))) else (some (.inr x30))
def sh58_1 (q0 : SPanel) (q1 : List Int) (x5 : List (List SPoint) × List Int) : (Int × List ByteArray) → Option ((Int × List ByteArray) ⊕ (List ByteArray))
  | (x21, x22) => bif decide (x21 < (w64 (2 * q0.H))) then (Option.bind (iter (sh58_2 q0 q1 x5 x21) (0, ([] : List Int))) fun b2 => (Option.bind (appL x22 [bytesS b2]) fun x48 => some (.inl (w64 (x21 + 1), x48)))) else (some (.inr x22))
def sh58 (q0 : SPanel) (q1 : List Int) : Option (List ByteArray × Int) := Option.bind (sh82 q0) fun x3 => bif !x3 then (some (([] : List ByteArray), 1)) else (Option.bind (sh116 q0) fun x5 => Option.bind (sh95 q1 ((x5.1.length : Nat) : Int)) fun x15 => bif !x15 then (some (([] : List ByteArray), 2)) else (Option.bind (iter (sh58_1 q0 q1 x5) (0, ([] : List ByteArray))) fun b1 => (some (b1, 0))))
def T58 (r : List ByteArray × Int) (v : Value) (rs : List Own) : Prop := ∃ (a0 : Option Addr) (n0 c0 : Nat), r.1.length = n0 ∧ v = rets [.slice a0 n0 c0, .int .i64 r.2] ∧ rs = [rowT 9 eStr a0 n0 c0 r.1]
set_option maxRecDepth 100000 in
set_option maxHeartbeats 1000000 in
theorem c58 {w : World} {q0 : SPanel} {a_0_2 : Option Addr} {n_0_2 c_0_2 : Nat} (g_0_2 : Rd w a_0_2 (eI64.fl q0.Breaks)) (l_0_2 : q0.Breaks.length = n_0_2) (k_0_2 : n_0_2 ≤ c_0_2) {q1 : List Int} {a_1 : Option Addr} {n_1 c_1 : Nat} (g_1 : Rd w a_1 (eI64.fl q1)) (l_1 : q1.length = n_1) (k_1 : n_1 ≤ c_1) {r : List ByteArray × Int} (hres : sh58 q0 q1 = some r) : Calls Go.Proofs.Try.prog 58 [.agg #[.int .i64 q0.W, .int .i64 q0.H, .slice a_0_2 n_0_2 c_0_2], .slice a_1 n_1 c_1].toArray w (Ret w (T58 r)) := by
  subst l_0_2
  subst l_1
  unfold sh58 at hres
  refine calls_of (n := 73) (M := []) (es := []) Go.Proofs.Try.func58 rfl rfl rfl (Sep.nil _ _ _) ?_
  refine JX.seq ?_
  refine JX.region ?_
  refine JL.eff (ef_box rfl rfl) rfl ?_
  rintro _ _ ⟨g1, rfl, rfl⟩
  refine JL.val (yl_assign rfl) rfl ?_
  refine JL.val (yl_assign rfl) rfl ?_
  refine JL.nil ?_
  refine JE.code ?_
  refine JX.seq ?_
  refine JX.seq ?_
  refine JX.region ?_
  obtain ⟨x3, hx3, hres⟩ := bind_some hres
  refine JL.eff (ef_call (T := T82 x3) Go.Proofs.Try.func82 rfl (by kernel_rfl) rfl (fun w hC => c82 (RdAt.of0 (rd_box hC 0 rfl)) (rd_arg g_0_2 hC) rfl k_0_2 hx3)) rfl ?_
  rintro _ _ ⟨_, ⟨rfl, rfl⟩, rfl⟩
  refine JL.val (yl_not rfl) rfl ?_
  refine JL.nil ?_
  refine JE.code ?_
  rcases cond_some hres with ⟨hb, hres⟩ | ⟨hb, hres⟩
  · refine JX.condT rfl hb ?_
    refine JX.seq ?_
    refine JX.region ?_
    refine JL.val (yl_assign rfl) rfl ?_
    refine JL.val (yl_assign rfl) rfl ?_
    refine JL.nil ?_
    refine JE.weak (env' := [(4, .slice none 0 0), (5, .int .i64 1)]) (es' := []) [] ?_ ⟨rfl, rfl, trivial⟩ (by decide) rfl
    refine JE.code ?_
    refine JX.ret ?_
    refine JE.nilrow 9 eStr ?_
    obtain rfl := Option.some.inj hres
    refine JE.ret (rs := [.tmp 4, .tmp 5]) (vs := [.slice none 0 0, .int .i64 1]) rfl ⟨rfl, rfl, trivial⟩ ?_
    exact fun w' hb hs => ⟨_, _, ⟨none, 0, 0, rfl, rfl, rfl⟩, rfl, hb, hs.sel [0] _ (by decide) rfl⟩
  · refine JX.condF rfl hb ?_
    refine JX.skip ?_
    refine JE.code ?_
    refine JX.seq ?_
    refine JX.region ?_
    obtain ⟨x5, hx5, hres⟩ := bind_some hres
    refine JL.eff (ef_call (T := T116 x5) Go.Proofs.Try.func116 rfl (by kernel_rfl) rfl (fun w hC => c116 (RdAt.of0 (rd_box hC 0 rfl)) (rd_arg g_0_2 hC) rfl k_0_2 hx5)) rfl ?_
    rintro _ _ ⟨_, ⟨a6, _, cp7, hs9, rfl, hi10, a12, _, cp13, rfl, rfl, rfl⟩, rfl⟩
    refine JL.val (yl_move rfl) rfl ?_
    refine JL.val (yl_extract rfl rfl) rfl ?_
    refine JL.val (yl_extract rfl rfl) rfl ?_
    refine JL.val (yl_assign rfl) rfl ?_
    refine JL.val (yl_assign rfl) rfl ?_
    refine JL.nil ?_
    refine JE.weak (env' := [(1, .slice a_1 q1.length c_1), (2, ptrAt (some ⟨g1, 0, none⟩) 0), (6, .slice a6 x5.1.length cp7), (7, .slice a12 x5.2.length cp13)]) (es' := [boxO 28 g1 [.int .i64 q0.W, .int .i64 q0.H, .slice a_0_2 q0.Breaks.length c_0_2], rowT 61 eHd a6 x5.1.length cp7 hs9, innO 35 eSPoint none hs9 x5.1, rowT 2 eI64 a12 x5.2.length cp13 x5.2]) [0, 1, 2, 3] ?_ ⟨rfl, rfl, rfl, rfl, trivial⟩ (by decide) rfl
    refine JE.code ?_
    refine JX.seq ?_
    refine JX.seq ?_
    refine JX.region ?_
    refine JL.val (yl_move rfl) rfl ?_
    refine JL.val (yl_move rfl) rfl ?_
    refine JL.val (yl_len_slice Go.Proofs.Try.underlying40 rfl) rfl ?_
    obtain ⟨x15, hx15, hres⟩ := bind_some hres
    refine JL.eff (ef_call (T := T95 x15) Go.Proofs.Try.func95 rfl (by kernel_rfl) rfl (fun w hC => c95 (rd_arg g_1 hC) rfl k_1 hx15)) rfl ?_
    rintro _ _ ⟨_, ⟨rfl, rfl⟩, rfl⟩
    refine JL.val (yl_not rfl) rfl ?_
    refine JL.nil ?_
    refine JE.weak (env' := [(1, .slice a_1 q1.length c_1), (2, ptrAt (some ⟨g1, 0, none⟩) 0), (7, .slice a12 x5.2.length cp13), (23, .bool !x15)]) (es' := [boxO 28 g1 [.int .i64 q0.W, .int .i64 q0.H, .slice a_0_2 q0.Breaks.length c_0_2], rowT 2 eI64 a12 x5.2.length cp13 x5.2]) [0, 3] ?_ ⟨rfl, rfl, rfl, rfl, trivial⟩ (by decide) rfl
    refine JE.code ?_
    rcases cond_some hres with ⟨hb, hres⟩ | ⟨hb, hres⟩
    · refine JX.condT rfl hb ?_
      refine JX.seq ?_
      refine JX.region ?_
      refine JL.val (yl_assign rfl) rfl ?_
      refine JL.val (yl_assign rfl) rfl ?_
      refine JL.nil ?_
      refine JE.weak (env' := [(4, .slice none 0 0), (5, .int .i64 2)]) (es' := []) [] ?_ ⟨rfl, rfl, trivial⟩ (by decide) rfl
      refine JE.code ?_
      refine JX.ret ?_
      refine JE.nilrow 9 eStr ?_
      obtain rfl := Option.some.inj hres
      refine JE.ret (rs := [.tmp 4, .tmp 5]) (vs := [.slice none 0 0, .int .i64 2]) rfl ⟨rfl, rfl, trivial⟩ ?_
      exact fun w' hb hs => ⟨_, _, ⟨none, 0, 0, rfl, rfl, rfl⟩, rfl, hb, hs.sel [0] _ (by decide) rfl⟩
    · refine JX.condF rfl hb ?_
      refine JX.skip ?_
      refine JE.code ?_
      refine JX.seq ?_
      refine JX.region ?_
      refine JL.eff (ef_buildSlice (E := 9) (k := eStr.k) (us := eStr.fl ([] : List ByteArray)) rfl (fun w => bsl64_0  w) rfl (by decide)) rfl ?_
      rintro _ _ ⟨a17, rfl, rfl⟩
      refine JL.val (yl_assign rfl) rfl ?_
      refine JL.nil ?_
      refine JE.code ?_
      refine JX.seq ?_
      refine JX.seq ?_
      refine JX.region ?_
      refine JL.val (yl_assign rfl) rfl ?_
      refine JL.nil ?_
      refine JE.code ?_
      refine JX.block ?_
      obtain ⟨y1, hy1, hresO1⟩ := bind_some hres
      refine JX.loop (I := fun (s1 : Int × List ByteArray) aa ww => ∃ (a19 : Option Addr) (cp20 : Nat), St w [] 73 [(1, .slice a_1 q1.length c_1), (2, ptrAt (some ⟨g1, 0, none⟩) 0), (7, .slice a12 x5.2.length cp13), (8, .slice a19 s1.2.length cp20), (9, .int .i64 s1.1)] [boxO 28 g1 [.int .i64 q0.W, .int .i64 q0.H, .slice a_0_2 q0.Breaks.length c_0_2], rowT 2 eI64 a12 x5.2.length cp13 x5.2, rowT 9 eStr a19 s1.2.length cp20 s1.2] aa ww) (sh58_1 q0 q1 x5) hy1 (fun a w h => ⟨a17, 0, h.weak ⟨rfl, rfl, rfl, rfl, rfl, trivial⟩ [0, 1, 2] (by decide) rfl⟩) ?_
      rintro ⟨x21, x22⟩ o1 hres hox1 aa ww ⟨a23, cp24, hS⟩
      refine (?_ : JX Go.Proofs.Try.prog w [] 73 _ _ [(1, .slice a_1 q1.length c_1), (2, ptrAt (some ⟨g1, 0, none⟩) 0), (7, .slice a12 x5.2.length cp13), (8, .slice a23 x22.length cp24), (9, .int .i64 x21)] [boxO 28 g1 [.int .i64 q0.W, .int .i64 q0.H, .slice a_0_2 q0.Breaks.length c_0_2], rowT 2 eI64 a12 x5.2.length cp13 x5.2, rowT 9 eStr a23 x22.length cp24 x22] _) aa ww hS
      clear hS
      simp only [sh58_1] at hres
      refine JX.seq ?_
      refine JX.seq ?_
      refine JX.region ?_
      refine JL.val (yl_move rfl) rfl ?_
      refine JL.val (yl_fieldAt (a := some _) Go.Proofs.Try.underlying28 rfl i2 i2n rfl rfl) rfl ?_
      refine JL.val (yl_load1 Go.Proofs.Try.underlying2 rfl rfl (fun w hC => rd_box hC 0 rfl) rfl) rfl ?_
      refine JL.val (yl_mul rfl rfl) rfl ?_
      refine JL.val (yl_lss rfl rfl) rfl ?_
      refine JL.nil ?_
      refine JE.weak (env' := [(1, .slice a_1 q1.length c_1), (2, ptrAt (some ⟨g1, 0, none⟩) 0), (7, .slice a12 x5.2.length cp13), (8, .slice a23 x22.length cp24), (9, .int .i64 x21), (29, .bool (decide (x21 < (w64 (2 * q0.H)))))]) (es' := [boxO 28 g1 [.int .i64 q0.W, .int .i64 q0.H, .slice a_0_2 q0.Breaks.length c_0_2], rowT 2 eI64 a12 x5.2.length cp13 x5.2, rowT 9 eStr a23 x22.length cp24 x22]) [0, 1, 2] ?_ ⟨rfl, rfl, rfl, rfl, rfl, rfl, trivial⟩ (by decide) rfl
      refine JE.code ?_
      rcases cond_some hres with ⟨hb, hres⟩ | ⟨hb, hres⟩
      · refine JX.condT rfl hb ?_
        refine JX.skip ?_
        refine JE.code ?_
        refine JX.seq ?_
        refine JX.block ?_
        refine JX.seq ?_
        refine JX.region ?_
        refine JL.eff (ef_buildSlice (E := 5) (k := eU8.k) (us := eU8.fl ([] : List Int)) rfl (fun w => bsl54_0  w) rfl (by decide)) rfl ?_
        rintro _ _ ⟨a25, rfl, rfl⟩
        refine JL.val (yl_assign rfl) rfl ?_
        refine JL.nil ?_
        refine JE.code ?_
        refine JX.seq ?_
        refine JX.seq ?_
        refine JX.region ?_
        refine JL.val (yl_assign rfl) rfl ?_
        refine JL.nil ?_
        refine JE.code ?_
        refine JX.block ?_
        obtain ⟨y2, hy2, hresO2⟩ := bind_some hres
        refine JX.loop (I := fun (s2 : Int × List Int) aa ww => ∃ (a27 : Option Addr) (cp28 : Nat), St w [] 73 [(1, .slice a_1 q1.length c_1), (2, ptrAt (some ⟨g1, 0, none⟩) 0), (7, .slice a12 x5.2.length cp13), (8, .slice a23 x22.length cp24), (9, .int .i64 x21), (10, .slice a27 s2.2.length cp28), (11, .int .i64 s2.1)] [boxO 28 g1 [.int .i64 q0.W, .int .i64 q0.H, .slice a_0_2 q0.Breaks.length c_0_2], rowT 2 eI64 a12 x5.2.length cp13 x5.2, rowT 9 eStr a23 x22.length cp24 x22, rowT 5 eU8 a27 s2.2.length cp28 s2.2] aa ww) (sh58_2 q0 q1 x5 x21) hy2 (fun a w h => ⟨a25, 0, h.weak ⟨rfl, rfl, rfl, rfl, rfl, rfl, rfl, trivial⟩ [0, 1, 2, 3] (by decide) rfl⟩) ?_
        rintro ⟨x29, x30⟩ o2 hres hox2 aa ww ⟨a31, cp32, hS⟩
        refine (?_ : JX Go.Proofs.Try.prog w [] 73 _ _ [(1, .slice a_1 q1.length c_1), (2, ptrAt (some ⟨g1, 0, none⟩) 0), (7, .slice a12 x5.2.length cp13), (8, .slice a23 x22.length cp24), (9, .int .i64 x21), (10, .slice a31 x30.length cp32), (11, .int .i64 x29)] [boxO 28 g1 [.int .i64 q0.W, .int .i64 q0.H, .slice a_0_2 q0.Breaks.length c_0_2], rowT 2 eI64 a12 x5.2.length cp13 x5.2, rowT 9 eStr a23 x22.length cp24 x22, rowT 5 eU8 a31 x30.length cp32 x30] _) aa ww hS
        clear hS
        simp only [sh58_2] at hres
        refine JX.seq ?_
        refine JX.seq ?_
        refine JX.region ?_
        refine JL.val (yl_move rfl) rfl ?_
        refine JL.val (yl_fieldAt (a := some _) Go.Proofs.Try.underlying28 rfl i2 i2n rfl rfl) rfl ?_
        refine JL.val (yl_load1 Go.Proofs.Try.underlying2 rfl rfl (fun w hC => rd_box hC 0 rfl) rfl) rfl ?_
        refine JL.val (yl_mul rfl rfl) rfl ?_
        refine JL.val (yl_lss rfl rfl) rfl ?_
        refine JL.nil ?_
        refine JE.weak (env' := [(1, .slice a_1 q1.length c_1), (2, ptrAt (some ⟨g1, 0, none⟩) 0), (7, .slice a12 x5.2.length cp13), (8, .slice a23 x22.length cp24), (9, .int .i64 x21), (10, .slice a31 x30.length cp32), (11, .int .i64 x29), (37, .bool (decide (x29 < (w64 (2 * q0.W)))))]) (es' := [boxO 28 g1 [.int .i64 q0.W, .int .i64 q0.H, .slice a_0_2 q0.Breaks.length c_0_2], rowT 2 eI64 a12 x5.2.length cp13 x5.2, rowT 9 eStr a23 x22.length cp24 x22, rowT 5 eU8 a31 x30.length cp32 x30]) [0, 1, 2, 3] ?_ ⟨rfl, rfl, rfl, rfl, rfl, rfl, rfl, rfl, trivial⟩ (by decide) rfl
        refine JE.code ?_
        rcases cond_some hres with ⟨hb, hres⟩ | ⟨hb, hres⟩
        · refine JX.condT rfl hb ?_
          refine JX.skip ?_
          refine JE.code ?_
          refine JX.seq ?_
          refine JX.block ?_
          refine JX.seq ?_
          refine JX.region ?_
          refine JL.val (yl_move rfl) rfl ?_
          refine JL.val (yl_move rfl) rfl ?_
          refine JL.val (yl_build rfl (fun w => bld35_0_1 x29 x21 w)) rfl ?_
          refine JL.val (yl_build rfl (fun w => bld126_0_1_2 x29 x21 1 1 w)) rfl ?_
          refine JL.eff (ef_alloc i126 i126z rfl) rfl ?_
          rintro _ _ ⟨g33, rfl, rfl⟩
          refine JL.eff (ef_store_box (i := 4) (v := .agg #[.int .i64 x29, .int .i64 x21, .int .i64 1, .int .i64 1]) i126 rfl rfl rfl (i126s).symm (Nat.le_of_ble_eq_true rfl) (by simp [Value.cells, Value.oneCell'])) rfl ?_
          rintro _ _ rfl
          refine JL.nil ?_
          refine JE.weak (env' := [(1, .slice a_1 q1.length c_1), (2, ptrAt (some ⟨g1, 0, none⟩) 0), (7, .slice a12 x5.2.length cp13), (8, .slice a23 x22.length cp24), (9, .int .i64 x21), (10, .slice a31 x30.length cp32), (11, .int .i64 x29), (12, ptrAt (some ⟨g33, 0, none⟩) 0)]) (es' := [boxO 28 g1 [.int .i64 q0.W, .int .i64 q0.H, .slice a_0_2 q0.Breaks.length c_0_2], rowT 2 eI64 a12 x5.2.length cp13 x5.2, rowT 9 eStr a23 x22.length cp24 x22, rowT 5 eU8 a31 x30.length cp32 x30, boxO 126 g33 [.int .i64 x29, .int .i64 x21, .int .i64 1, .int .i64 1]]) [0, 1, 2, 3, 4] ?_ ⟨rfl, rfl, rfl, rfl, rfl, rfl, rfl, rfl, trivial⟩ (by decide) rfl
          refine JE.code ?_
          refine JX.seq ?_
          refine JX.seq ?_
          refine JX.region ?_
          refine JL.val (yl_move rfl) rfl ?_
          refine JL.val (yl_move rfl) rfl ?_
          refine JL.val (yl_add rfl rfl) rfl ?_
          refine JL.val (yl_rem rfl rfl (by decide)) rfl ?_
          refine JL.val (yl_eql rfl rfl) rfl ?_
          refine JL.nil ?_
          refine JE.weak (env' := [(1, .slice a_1 q1.length c_1), (2, ptrAt (some ⟨g1, 0, none⟩) 0), (7, .slice a12 x5.2.length cp13), (8, .slice a23 x22.length cp24), (9, .int .i64 x21), (10, .slice a31 x30.length cp32), (11, .int .i64 x29), (12, ptrAt (some ⟨g33, 0, none⟩) 0), (48, .bool (((w64 (x29 + x21)).tmod 2) == 0))]) (es' := [boxO 28 g1 [.int .i64 q0.W, .int .i64 q0.H, .slice a_0_2 q0.Breaks.length c_0_2], rowT 2 eI64 a12 x5.2.length cp13 x5.2, rowT 9 eStr a23 x22.length cp24 x22, rowT 5 eU8 a31 x30.length cp32 x30, boxO 126 g33 [.int .i64 x29, .int .i64 x21, .int .i64 1, .int .i64 1]]) [0, 1, 2, 3, 4] ?_ ⟨rfl, rfl, rfl, rfl, rfl, rfl, rfl, rfl, rfl, trivial⟩ (by decide) rfl
          refine JE.code ?_
          obtain ⟨j35, hj35, hresj35⟩ := bind_some hres
          refine JX.cut (K := fun J => J [(1, .slice a_1 q1.length c_1), (2, ptrAt (some ⟨g1, 0, none⟩) 0), (7, .slice a12 x5.2.length cp13), (8, .slice a23 x22.length cp24), (9, .int .i64 x21), (10, .slice a31 x30.length cp32), (11, .int .i64 x29), (12, ptrAt (some ⟨g33, 0, none⟩) 0)] [boxO 28 g1 [.int .i64 q0.W, .int .i64 q0.H, .slice a_0_2 q0.Breaks.length c_0_2], rowT 2 eI64 a12 x5.2.length cp13 x5.2, rowT 9 eStr a23 x22.length cp24 x22, rowT 5 eU8 a31 x30.length cp32 x30, boxO 126 g33 [.int .i64 j35.At.X, .int .i64 j35.At.Y, .int .i64 j35.DX, .int .i64 j35.DY]]) ?_ ?_
          · have hres := hresj35
            refine JE.code ?_
            refine JX.region ?_
            refine JL.val (yl_move rfl) rfl ?_
            refine JL.val (yl_move rfl) rfl ?_
            refine JL.val (yl_move rfl) rfl ?_
            refine JL.val (yl_loadn Go.Proofs.Try.underlying126 rfl i126 rfl (fun w hC => rd_box hC 4 rfl) rfl (i126s).symm i126p) rfl ?_
            obtain ⟨x36, hx36, hres⟩ := bind_some hres
            refine JL.eff (ef_call (vs := [ptrAt (some ⟨g1, 0, none⟩) 0, .agg #[.int .i64 j35.At.X, .int .i64 j35.At.Y, .int .i64 j35.DX, .int .i64 j35.DY]]) (T := T117 x36) Go.Proofs.Try.func117 rfl (by kernel_rfl) rfl (fun w hC => c117 (q1 := j35) (RdAt.of0 (rd_box hC 0 rfl)) (rd_arg g_0_2 hC) rfl k_0_2 hx36)) rfl ?_
            rintro _ _ ⟨_, ⟨rfl, rfl⟩, rfl⟩
            obtain ⟨x37, hx37, hres⟩ := bind_some hres
            refine JL.val (yl_idxT Go.Proofs.Try.underlying22 i2 i2s rfl rfl hx37 rfl (fun w hC => rd_row hC 1 rfl)) rfl ?_
            refine JL.val (yl_loadT0 Go.Proofs.Try.underlying2 rfl rfl hx37 (fun w hC => rd_row hC 1 rfl) rfl) rfl ?_
            obtain ⟨x38, hx38, hres⟩ := bind_some hres
            refine JL.val (yl_idxT Go.Proofs.Try.underlying22 i2 i2s rfl rfl hx38 rfl (fun w hC => rd_arg g_1 hC)) rfl ?_
            refine JL.val (yl_loadT0 Go.Proofs.Try.underlying2 rfl rfl hx38 (fun w hC => rd_arg g_1 hC) rfl) rfl ?_
            refine JL.val (yl_add rfl rfl) rfl ?_
            refine JL.val (yl_conv Go.Proofs.Try.underlying2 Go.Proofs.Try.underlying5 rfl) rfl ?_
            refine JL.eff (ef_buildSlice (E := 5) (k := eU8.k) (us := eU8.fl [IntKind.u8.wrap (w64 (48 + x38))]) rfl (fun w => bsl54_1 (IntKind.u8.wrap (w64 (48 + x38))) w) rfl (by decide)) rfl ?_
            rintro _ _ ⟨a39, rfl, rfl⟩
            obtain ⟨x41, hx41, hres⟩ := bind_some hres
            refine JL.eff (ef_appendT (ix := 3) Go.Proofs.Try.underlying54 i5 i5z i5s rfl i5b0 i5b1 rfl rfl rfl rfl rfl (fun w hC => rd_row hC 5 rfl) hx41) rfl ?_
            rintro _ _ ⟨a42, cp43, rfl, rfl⟩
            refine JL.val (yl_assign rfl) rfl ?_
            refine JL.nil ?_
            refine JE.weak (env' := [(1, .slice a_1 q1.length c_1), (2, ptrAt (some ⟨g1, 0, none⟩) 0), (7, .slice a12 x5.2.length cp13), (8, .slice a23 x22.length cp24), (9, .int .i64 x21), (10, .slice a42 x41.length cp43), (11, .int .i64 x29)]) (es' := [boxO 28 g1 [.int .i64 q0.W, .int .i64 q0.H, .slice a_0_2 q0.Breaks.length c_0_2], rowT 2 eI64 a12 x5.2.length cp13 x5.2, rowT 9 eStr a23 x22.length cp24 x22, rowT 5 eU8 a42 x41.length cp43 x41]) [0, 1, 2, 3] ?_ ⟨rfl, rfl, rfl, rfl, rfl, rfl, rfl, trivial⟩ (by decide) rfl
            refine JE.code ?_
            refine JX.region ?_
            refine JL.val (yl_move rfl) rfl ?_
            refine JL.val (yl_add rfl rfl) rfl ?_
            refine JL.val (yl_assign rfl) rfl ?_
            refine JL.nil ?_
            refine JE.cont hres ?_
            exact fun a w h => ⟨a42, cp43, h.weak ⟨rfl, rfl, rfl, rfl, rfl, rfl, rfl, trivial⟩ [0, 1, 2, 3] (by decide) rfl⟩
          · intro K
            rcases cond_some hj35 with ⟨hb, hres⟩ | ⟨hb, hres⟩
            · refine JX.condT rfl hb ?_
              refine JX.region ?_
              refine JL.val (yl_move rfl) rfl ?_
              refine JL.val (yl_move rfl) rfl ?_
              refine JL.val (yl_add rfl rfl) rfl ?_
              refine JL.val (yl_build rfl (fun w => bld35_0_1 x29 (w64 (x21 + 1)) w)) rfl ?_
              refine JL.val (yl_build rfl (fun w => bld126_0_1_2 x29 (w64 (x21 + 1)) 1 (-1) w)) rfl ?_
              refine JL.eff (ef_store_box (i := 4) (v := .agg #[.int .i64 x29, .int .i64 (w64 (x21 + 1)), .int .i64 1, .int .i64 (-1)]) i126 rfl rfl rfl (i126s).symm (Nat.le_of_ble_eq_true rfl) (by simp [Value.cells, Value.oneCell'])) rfl ?_
              rintro _ _ rfl
              refine JL.nil ?_
              refine JE.weak (env' := [(1, .slice a_1 q1.length c_1), (2, ptrAt (some ⟨g1, 0, none⟩) 0), (7, .slice a12 x5.2.length cp13), (8, .slice a23 x22.length cp24), (9, .int .i64 x21), (10, .slice a31 x30.length cp32), (11, .int .i64 x29), (12, ptrAt (some ⟨g33, 0, none⟩) 0)]) (es' := [boxO 28 g1 [.int .i64 q0.W, .int .i64 q0.H, .slice a_0_2 q0.Breaks.length c_0_2], rowT 2 eI64 a12 x5.2.length cp13 x5.2, rowT 9 eStr a23 x22.length cp24 x22, rowT 5 eU8 a31 x30.length cp32 x30, boxO 126 g33 [.int .i64 x29, .int .i64 (w64 (x21 + 1)), .int .i64 1, .int .i64 (-1)]]) [0, 1, 2, 3, 4] ?_ ⟨rfl, rfl, rfl, rfl, rfl, rfl, rfl, rfl, trivial⟩ (by decide) rfl
              have hj := Option.some.inj hres
              exact JE.weak [0, 1, 2, 3, 4] (K) ⟨(by subst hj; rfl), (by subst hj; rfl), (by subst hj; rfl), (by subst hj; rfl), (by subst hj; rfl), (by subst hj; rfl), (by subst hj; rfl), (by subst hj; rfl), trivial⟩ (by decide) (by subst hj; rfl)
            · refine JX.condF rfl hb ?_
              refine JX.skip ?_
              have hj := Option.some.inj hres
              exact JE.weak [0, 1, 2, 3, 4] (K) ⟨(by subst hj; rfl), (by subst hj; rfl), (by subst hj; rfl), (by subst hj; rfl), (by subst hj; rfl), (by subst hj; rfl), (by subst hj; rfl), (by subst hj; rfl), trivial⟩ (by decide) (by subst hj; rfl)
        · refine JX.condF rfl hb ?_
          refine JX.exit ?_
          refine JE.qb rfl ?_
          obtain ⟨b2, hb2⟩ : ∃ b : List Int, b = x30 := ⟨_, rfl⟩
          have hy2 : b2 = y2 := by rw [hb2]; exact hox2 _ (Option.some.inj hres).symm
          have hres := hresO2
          rw [← hy2] at hres
          refine JE.weak (env' := [(1, .slice a_1 q1.length c_1), (2, ptrAt (some ⟨g1, 0, none⟩) 0), (7, .slice a12 x5.2.length cp13), (8, .slice a23 x22.length cp24), (9, .int .i64 x21), (10, .slice a31 b2.length cp32)]) (es' := [boxO 28 g1 [.int .i64 q0.W, .int .i64 q0.H, .slice a_0_2 q0.Breaks.length c_0_2], rowT 2 eI64 a12 x5.2.length cp13 x5.2, rowT 9 eStr a23 x22.length cp24 x22, rowT 5 eU8 a31 b2.length cp32 b2]) [0, 1, 2, 3] ?_ ⟨(by subst hb2; rfl), (by subst hb2; rfl), (by subst hb2; rfl), (by subst hb2; rfl), (by subst hb2; rfl), (by subst hb2; rfl), trivial⟩ (by decide) (by subst hb2; rfl)
          refine JE.code ?_
          refine JX.region ?_
          refine JL.val (yl_move rfl) rfl ?_
          refine JL.val (yl_move rfl) rfl ?_
          refine JL.val (yl_bytesT Go.Proofs.Try.underlying54 Go.Proofs.Try.underlying9 Go.Proofs.Try.underlying5 rfl rfl (fun w hC => rd_row hC 3 rfl)) rfl ?_
          refine JL.eff (ef_buildSlice (E := 9) (k := eStr.k) (us := eStr.fl [bytesS b2]) rfl (fun w => bsl64_1 (bytesS b2) w) rfl (by decide)) rfl ?_
          rintro _ _ ⟨a46, rfl, rfl⟩
          obtain ⟨x48, hx48, hres⟩ := bind_some hres
          refine JL.eff (ef_appendT (ix := 2) Go.Proofs.Try.underlying64 i9 i9z i9s rfl i9b0 i9b1 rfl rfl rfl rfl rfl (fun w hC => rd_row hC 4 rfl) hx48) rfl ?_
          rintro _ _ ⟨a49, cp50, rfl, rfl⟩
          refine JL.val (yl_assign rfl) rfl ?_
          refine JL.nil ?_
          refine JE.weak (env' := [(1, .slice a_1 q1.length c_1), (2, ptrAt (some ⟨g1, 0, none⟩) 0), (7, .slice a12 x5.2.length cp13), (8, .slice a49 x48.length cp50), (9, .int .i64 x21)]) (es' := [boxO 28 g1 [.int .i64 q0.W, .int .i64 q0.H, .slice a_0_2 q0.Breaks.length c_0_2], rowT 2 eI64 a12 x5.2.length cp13 x5.2, rowT 9 eStr a49 x48.length cp50 x48]) [0, 1, 2] ?_ ⟨rfl, rfl, rfl, rfl, rfl, trivial⟩ (by decide) rfl
          refine JE.code ?_
          refine JX.region ?_
          refine JL.val (yl_move rfl) rfl ?_
          refine JL.val (yl_add rfl rfl) rfl ?_
          refine JL.val (yl_assign rfl) rfl ?_
          refine JL.nil ?_
          refine JE.cont hres ?_
          exact fun a w h => ⟨a49, cp50, h.weak ⟨rfl, rfl, rfl, rfl, rfl, trivial⟩ [0, 1, 2] (by decide) rfl⟩
      · refine JX.condF rfl hb ?_
        refine JX.exit ?_
        refine JE.qb rfl ?_
        obtain ⟨b1, hb1⟩ : ∃ b : List ByteArray, b = x22 := ⟨_, rfl⟩
        have hy1 : b1 = y1 := by rw [hb1]; exact hox1 _ (Option.some.inj hres).symm
        have hres := hresO1
        rw [← hy1] at hres
        refine JE.weak (env' := [(8, .slice a23 b1.length cp24)]) (es' := [rowT 9 eStr a23 b1.length cp24 b1]) [2] ?_ ⟨(by subst hb1; rfl), trivial⟩ (by decide) (by subst hb1; rfl)
        refine JE.code ?_
        refine JX.seq ?_
        refine JX.region ?_
        refine JL.val (yl_move rfl) rfl ?_
        refine JL.val (yl_assign rfl) rfl ?_
        refine JL.val (yl_assign rfl) rfl ?_
        refine JL.nil ?_
        refine JE.code ?_
        refine JX.ret ?_
        obtain rfl := Option.some.inj hres
        refine JE.ret (rs := [.tmp 4, .tmp 5]) (vs := [.slice a23 b1.length cp24, .int .i64 0]) rfl ⟨rfl, rfl, trivial⟩ ?_
        exact fun w' hb hs => ⟨_, _, ⟨a23, b1.length, cp24, rfl, rfl, rfl⟩, rfl, hb, hs.sel [0] _ (by decide) rfl⟩

/- laws.f6texts -/
def sh59_1 (q0 : List ByteArray) (q1 : List ByteArray) : Int → Option (Int ⊕ (Unit ⊕ Bool))
  | x1 => bif decide (x1 < (q0.length : Int)) then (Option.bind (getI q0 x1) fun x3 => Option.bind (getI q1 x1) fun x4 => bif !(x3.toList == x4.toList) then (some (.inr (.inr false))) else (some (.inl (w64 (x1 + 1))))) else (some (.inr (.inl ())))
def sh59 (q0 : List ByteArray) (q1 : List ByteArray) : Option (Bool) := bif (q0.length : Int) != (q1.length : Int) then (some false) else (Option.bind (iter (sh59_1 q0 q1) 0) fun y1 => elimS y1 (fun r => some r) fun b1 => (some true))
def T59 (r : Bool) (v : Value) (rs : List Own) : Prop := v = rets [.bool r] ∧ rs = []
set_option maxRecDepth 100000 in
theorem c59 {w : World} {q0 : List ByteArray} {a_0 : Option Addr} {n_0 c_0 : Nat} (g_0 : Rd w a_0 (eStr.fl q0)) (l_0 : q0.length = n_0) (k_0 : n_0 ≤ c_0) {q1 : List ByteArray} {a_1 : Option Addr} {n_1 c_1 : Nat} (g_1 : Rd w a_1 (eStr.fl q1)) (l_1 : q1.length = n_1) (k_1 : n_1 ≤ c_1) {r : Bool} (hres : sh59 q0 q1 = some r) : Calls Go.Proofs.Try.prog 59 [.slice a_0 n_0 c_0, .slice a_1 n_1 c_1].toArray w (Ret w (T59 r)) := by
  subst l_0
  subst l_1
  unfold sh59 at hres
  refine calls_of (n := 26) (M := []) (es := []) Go.Proofs.Try.func59 rfl rfl rfl (Sep.nil _ _ _) ?_
  refine JX.seq ?_
  refine JX.region ?_
  refine JL.val (yl_assign rfl) rfl ?_
  refine JL.nil ?_
  refine JE.code ?_
  refine JX.seq ?_
  refine JX.seq ?_
  refine JX.region ?_
  refine JL.val (yl_move rfl) rfl ?_
  refine JL.val (yl_len_slice Go.Proofs.Try.underlying64 rfl) rfl ?_
  refine JL.val (yl_move rfl) rfl ?_
  refine JL.val (yl_len_slice Go.Proofs.Try.underlying64 rfl) rfl ?_
  refine JL.val (yl_neq rfl rfl) rfl ?_
  refine JL.nil ?_
  refine JE.weak (env' := [(0, .slice a_0 q0.length c_0), (1, .slice a_1 q1.length c_1), (10, .bool ((q0.length : Int) != (q1.length : Int)))]) (es' := []) [] ?_ ⟨rfl, rfl, rfl, trivial⟩ (by decide) rfl
  refine JE.code ?_
  rcases cond_some hres with ⟨hb, hres⟩ | ⟨hb, hres⟩
  · refine JX.condT rfl hb ?_
    refine JX.seq ?_
    refine JX.region ?_
    refine JL.val (yl_assign rfl) rfl ?_
    refine JL.nil ?_
    refine JE.code ?_
    refine JX.ret ?_
    obtain rfl := Option.some.inj hres
    refine JE.ret (rs := [.tmp 4]) (vs := [.bool false]) rfl ⟨rfl, trivial⟩ ?_
    exact fun w' hb hs => ⟨_, _, ⟨rfl, rfl⟩, rfl, hb, hs.sel [] _ (by decide) rfl⟩
  · refine JX.condF rfl hb ?_
    refine JX.skip ?_
    refine JE.code ?_
    refine JX.seq ?_
    refine JX.seq ?_
    refine JX.region ?_
    refine JL.val (yl_assign rfl) rfl ?_
    refine JL.nil ?_
    refine JE.code ?_
    refine JX.block ?_
    obtain ⟨y1, hy1, hresO1⟩ := bind_some hres
    refine JX.loop (I := fun (s1 : Int) aa ww => St w [] 26 [(0, .slice a_0 q0.length c_0), (1, .slice a_1 q1.length c_1), (5, .int .i64 s1)] [] aa ww) (sh59_1 q0 q1) hy1 (fun a w h => h.weak ⟨rfl, rfl, rfl, trivial⟩ [] (by decide) rfl) ?_
    rintro x1 o1 hres hox1 aa ww hS
    refine (?_ : JX Go.Proofs.Try.prog w [] 26 _ _ [(0, .slice a_0 q0.length c_0), (1, .slice a_1 q1.length c_1), (5, .int .i64 x1)] [] _) aa ww hS
    clear hS
    unfold sh59_1 at hres
    refine JX.seq ?_
    refine JX.seq ?_
    refine JX.region ?_
    refine JL.val (yl_move rfl) rfl ?_
    refine JL.val (yl_move rfl) rfl ?_
    refine JL.val (yl_len_slice Go.Proofs.Try.underlying64 rfl) rfl ?_
    refine JL.val (yl_lss rfl rfl) rfl ?_
    refine JL.nil ?_
    refine JE.weak (env' := [(0, .slice a_0 q0.length c_0), (1, .slice a_1 q1.length c_1), (5, .int .i64 x1), (14, .bool (decide (x1 < (q0.length : Int))))]) (es' := []) [] ?_ ⟨rfl, rfl, rfl, rfl, trivial⟩ (by decide) rfl
    refine JE.code ?_
    rcases cond_some hres with ⟨hb, hres⟩ | ⟨hb, hres⟩
    · refine JX.condT rfl hb ?_
      refine JX.skip ?_
      refine JE.code ?_
      refine JX.seq ?_
      refine JX.block ?_
      refine JX.seq ?_
      refine JX.drawH [(0, .pure), (1, .pure), (2, .pure), (3, .read), (4, .pure), (5, .pure), (6, .pure), (7, .read), (8, .pure)] [] [] [] [] [] mixedP (by kernel_rfl) (by kernel_rfl) (by decide) rfl rfl ?_
      intro wrr2 Nr2 hFr2
      refine JH.pure rfl (yl_move rfl) rfl ?_
      refine JH.pure rfl (yl_move rfl) rfl ?_
      obtain ⟨x3, hx3, hres⟩ := bind_some hres
      refine JH.pure rfl (yl_idxQ Go.Proofs.Try.underlying64 i9 i9s rfl rfl hx3 rfl (rd_arg g_0 hFr2.cl) rfl) rfl ?_
      refine JH.read rfl (yl_loadT0 Go.Proofs.Try.underlying9 rfl rfl hx3 (fun w hw => hFr2.arg g_0 hw) rfl) rfl ?_
      refine JH.pure rfl (yl_move rfl) rfl ?_
      refine JH.pure rfl (yl_move rfl) rfl ?_
      obtain ⟨x4, hx4, hres⟩ := bind_some hres
      refine JH.pure rfl (yl_idxQ Go.Proofs.Try.underlying64 i9 i9s rfl rfl hx4 rfl (rd_arg g_1 hFr2.cl) rfl) rfl ?_
      refine JH.read rfl (yl_loadT0 Go.Proofs.Try.underlying9 rfl rfl hx4 (fun w hw => hFr2.arg g_1 hw) rfl) rfl ?_
      refine JH.pure rfl (yl_sneq rfl rfl) rfl ?_
      refine JH.nil ?_
      refine JE.weak (env' := [(0, .slice a_0 q0.length c_0), (1, .slice a_1 q1.length c_1), (5, .int .i64 x1), (25, .bool (!(x3.toList == x4.toList)))]) (es' := []) [] ?_ ⟨rfl, rfl, rfl, rfl, trivial⟩ (by decide) rfl
      refine JE.code ?_
      rcases cond_some hres with ⟨hb, hres⟩ | ⟨hb, hres⟩
      · refine JX.condT rfl hb ?_
        refine JX.seq ?_
        refine JX.region ?_
        refine JL.val (yl_assign rfl) rfl ?_
        refine JL.nil ?_
        refine JE.code ?_
        refine JX.ret ?_
        refine JE.qbr ?_
        refine JE.qbr ?_
        have hres := elimS_inr hresO1 (hox1 _ (Option.some.inj hres).symm)
        obtain rfl := Option.some.inj hres
        refine JE.ret (rs := [.tmp 4]) (vs := [.bool false]) rfl ⟨rfl, trivial⟩ ?_
        exact fun w' hb hs => ⟨_, _, ⟨rfl, rfl⟩, rfl, hb, hs.sel [] _ (by decide) rfl⟩
      · refine JX.condF rfl hb ?_
        refine JX.skip ?_
        refine JE.code ?_
        refine JX.region ?_
        refine JL.val (yl_move rfl) rfl ?_
        refine JL.val (yl_add rfl rfl) rfl ?_
        refine JL.val (yl_assign rfl) rfl ?_
        refine JL.nil ?_
        refine JE.cont hres ?_
        exact fun a w h => h.weak ⟨rfl, rfl, rfl, trivial⟩ [] (by decide) rfl
    · refine JX.condF rfl hb ?_
      refine JX.exit ?_
      refine JE.qb rfl ?_
      obtain ⟨b1, hb1⟩ : ∃ b : Unit, b = () := ⟨_, rfl⟩
      have hy1 : Sum.inl b1 = y1 := by rw [hb1]; exact hox1 _ (Option.some.inj hres).symm
      have hres := elimS_inl hresO1 hy1
      refine JE.weak (env' := []) (es' := []) [] ?_ trivial (by decide) (by subst hb1; rfl)
      refine JE.code ?_
      refine JX.seq ?_
      refine JX.region ?_
      refine JL.val (yl_assign rfl) rfl ?_
      refine JL.nil ?_
      refine JE.code ?_
      refine JX.ret ?_
      obtain rfl := Option.some.inj hres
      refine JE.ret (rs := [.tmp 4]) (vs := [.bool true]) rfl ⟨rfl, trivial⟩ ?_
      exact fun w' hb hs => ⟨_, _, ⟨rfl, rfl⟩, rfl, hb, hs.sel [] _ (by decide) rfl⟩

/- impl.CountCurves -/
def sh60 (q0 : SPanel) : Option (Int × Int) := Option.bind (sh86 q0) fun x3 => bif !x3 then (some (0, 1)) else (Option.bind (sh118 q0) fun x4 => some (x4, 0))
def T60 (r : Int × Int) (v : Value) (rs : List Own) : Prop := v = rets [.int .i64 r.1, .int .i64 r.2] ∧ rs = []
set_option maxRecDepth 100000 in
theorem c60 {w : World} {q0 : SPanel} {a_0_2 : Option Addr} {n_0_2 c_0_2 : Nat} (g_0_2 : Rd w a_0_2 (eI64.fl q0.Breaks)) (l_0_2 : q0.Breaks.length = n_0_2) (k_0_2 : n_0_2 ≤ c_0_2) {r : Int × Int} (hres : sh60 q0 = some r) : Calls Go.Proofs.Try.prog 60 [.agg #[.int .i64 q0.W, .int .i64 q0.H, .slice a_0_2 n_0_2 c_0_2]].toArray w (Ret w (T60 r)) := by
  subst l_0_2
  unfold sh60 at hres
  refine calls_of (n := 9) (M := []) (es := []) Go.Proofs.Try.func60 rfl rfl rfl (Sep.nil _ _ _) ?_
  refine JX.seq ?_
  refine JX.region ?_
  refine JL.eff (ef_box rfl rfl) rfl ?_
  rintro _ _ ⟨g1, rfl, rfl⟩
  refine JL.val (yl_assign rfl) rfl ?_
  refine JL.val (yl_assign rfl) rfl ?_
  refine JL.nil ?_
  refine JE.code ?_
  refine JX.seq ?_
  refine JX.seq ?_
  refine JX.region ?_
  refine JL.val (yl_loadn Go.Proofs.Try.underlying28 rfl i28 rfl (fun w hC => rd_box hC 0 rfl) rfl (i28s).symm i28p) rfl ?_
  obtain ⟨x3, hx3, hres⟩ := bind_some hres
  refine JL.eff (ef_call (vs := [.agg #[.int .i64 q0.W, .int .i64 q0.H, .slice a_0_2 q0.Breaks.length c_0_2]]) (T := T86 x3) Go.Proofs.Try.func86 rfl (by kernel_rfl) rfl (fun w hC => c86 (q0 := q0) (rd_arg g_0_2 hC) rfl k_0_2 hx3)) rfl ?_
  rintro _ _ ⟨_, ⟨rfl, rfl⟩, rfl⟩
  refine JL.val (yl_not rfl) rfl ?_
  refine JL.nil ?_
  refine JE.code ?_
  rcases cond_some hres with ⟨hb, hres⟩ | ⟨hb, hres⟩
  · refine JX.condT rfl hb ?_
    refine JX.seq ?_
    refine JX.region ?_
    refine JL.val (yl_assign rfl) rfl ?_
    refine JL.val (yl_assign rfl) rfl ?_
    refine JL.nil ?_
    refine JE.weak (env' := [(2, .int .i64 0), (3, .int .i64 1)]) (es' := []) [] ?_ ⟨rfl, rfl, trivial⟩ (by decide) rfl
    refine JE.code ?_
    refine JX.ret ?_
    obtain rfl := Option.some.inj hres
    refine JE.ret (rs := [.tmp 2, .tmp 3]) (vs := [.int .i64 0, .int .i64 1]) rfl ⟨rfl, rfl, trivial⟩ ?_
    exact fun w' hb hs => ⟨_, _, ⟨rfl, rfl⟩, rfl, hb, hs.sel [] _ (by decide) rfl⟩
  · refine JX.condF rfl hb ?_
    refine JX.skip ?_
    refine JE.code ?_
    refine JX.seq ?_
    refine JX.region ?_
    refine JL.val (yl_loadn Go.Proofs.Try.underlying28 rfl i28 rfl (fun w hC => rd_box hC 0 rfl) rfl (i28s).symm i28p) rfl ?_
    obtain ⟨x4, hx4, hres⟩ := bind_some hres
    refine JL.eff (ef_call (vs := [.agg #[.int .i64 q0.W, .int .i64 q0.H, .slice a_0_2 q0.Breaks.length c_0_2]]) (T := T118 x4) Go.Proofs.Try.func118 rfl (by kernel_rfl) rfl (fun w hC => c118 (q0 := q0) (rd_arg g_0_2 hC) rfl k_0_2 hx4)) rfl ?_
    rintro _ _ ⟨_, ⟨rfl, rfl⟩, rfl⟩
    refine JL.val (yl_assign rfl) rfl ?_
    refine JL.val (yl_assign rfl) rfl ?_
    refine JL.nil ?_
    refine JE.weak (env' := [(2, .int .i64 x4), (3, .int .i64 0)]) (es' := []) [] ?_ ⟨rfl, rfl, trivial⟩ (by decide) rfl
    refine JE.code ?_
    refine JX.ret ?_
    obtain rfl := Option.some.inj hres
    refine JE.ret (rs := [.tmp 2, .tmp 3]) (vs := [.int .i64 x4, .int .i64 0]) rfl ⟨rfl, rfl, trivial⟩ ?_
    exact fun w' hb hs => ⟨_, _, ⟨rfl, rfl⟩, rfl, hb, hs.sel [] _ (by decide) rfl⟩

end Go.Sh
