/- Walks through functions that the law reaches, printed by program. -/
import Derived.Test.YtnaekndnmnbonaaF5T
set_option linter.unusedVariables false
set_option linter.unusedSimpArgs false
namespace Go.Sh
open Go Go.RowKit
/- spec.l01Split -/
def sh85_1 (q0 : ByteArray) (q1 : Int) : (Int × Int × List ByteArray) → Option ((Int × Int × List ByteArray) ⊕ (Int × List ByteArray))
  | (x5, x6, x7) => bif decide (x6 < (q0.size : Int)) then (Option.bind (getS q0 x6) fun x10 => Option.bind (bif x10 == q1 then (Option.bind (subS q0 x5 x6) fun x14 => Option.bind (appL x7 [x14]) fun x17 => some (w64 (x6 + 1), x17)) else (some (x5, x7))) fun j11 => (some (.inl (j11.1, w64 (x6 + 1), j11.2)))) else (some (.inr (x5, x7)))
def sh85 (q0 : ByteArray) (q1 : Int) : Option (List ByteArray) := Option.bind (iter (sh85_1 q0 q1) (0, 0, ([] : List ByteArray))) fun b1 => (Option.bind (subS q0 b1.1 (q0.size : Int)) fun x22 => Option.bind (appL b1.2 [x22]) fun x25 => some x25)
def T85 (r : List ByteArray) (v : Value) (rs : List Own) : Prop := ∃ (a0 : Option Addr) (n0 c0 : Nat), r.length = n0 ∧ v = rets [.slice a0 n0 c0] ∧ rs = [rowT 9 eStr a0 n0 c0 r]
set_option maxRecDepth 100000 in
theorem c85 {w : World} {q0 : ByteArray} {q1 : Int} {r : List ByteArray} (hres : sh85 q0 q1 = some r) : Calls Go.Proofs.Try.prog 85 [.string q0, .int .u8 q1].toArray w (Ret w (T85 r)) := by
  unfold sh85 at hres
  refine calls_of (n := 35) (M := []) (es := []) Go.Proofs.Try.func85 rfl rfl rfl (Sep.nil _ _ _) ?_
  refine JX.seq ?_
  refine JX.region ?_
  refine JL.val (yl_assign rfl) rfl ?_
  refine JL.nil ?_
  refine JE.code ?_
  refine JX.seq ?_
  refine JX.region ?_
  refine JL.eff (ef_buildSlice (E := 9) (k := eStr.k) (us := eStr.fl ([] : List ByteArray)) rfl (fun w => bsl49_0  w) rfl (by decide)) rfl ?_
  rintro _ _ ⟨a1, rfl, rfl⟩
  refine JL.val (yl_assign rfl) rfl ?_
  refine JL.nil ?_
  refine JE.code ?_
  refine JX.seq ?_
  refine JX.region ?_
  refine JL.val (yl_assign rfl) rfl ?_
  refine JL.nil ?_
  refine JE.code ?_
  refine JX.seq ?_
  refine JX.seq ?_
  refine JX.region ?_
  refine JL.val (yl_assign rfl) rfl ?_
  refine JL.nil ?_
  refine JE.code ?_
  refine JX.block ?_
  obtain ⟨y1, hy1, hresO1⟩ := bind_some hres
  refine JX.loop (I := fun (s1 : Int × Int × List ByteArray) aa ww => ∃ (a3 : Option Addr) (cp4 : Nat), St w [] 35 [(0, .string q0), (1, .int .u8 q1), (5, .slice a3 s1.2.2.length cp4), (6, .int .i64 s1.1), (7, .int .i64 s1.2.1)] [rowT 9 eStr a3 s1.2.2.length cp4 s1.2.2] aa ww) (sh85_1 q0 q1) hy1 (fun a w h => ⟨a1, 0, h.weak ⟨rfl, rfl, rfl, rfl, rfl, trivial⟩ [0] (by decide) rfl⟩) ?_
  rintro ⟨x5, x6, x7⟩ o1 hres hox1 aa ww ⟨a8, cp9, hS⟩
  refine (?_ : JX Go.Proofs.Try.prog w [] 35 _ _ [(0, .string q0), (1, .int .u8 q1), (5, .slice a8 x7.length cp9), (6, .int .i64 x5), (7, .int .i64 x6)] [rowT 9 eStr a8 x7.length cp9 x7] _) aa ww hS
  clear hS
  simp only [sh85_1] at hres
  refine JX.seq ?_
  refine JX.seq ?_
  refine JX.region ?_
  refine JL.val (yl_move rfl) rfl ?_
  refine JL.val (yl_move rfl) rfl ?_
  refine JL.val (yl_len_string Go.Proofs.Try.underlying9 rfl) rfl ?_
  refine JL.val (yl_lss rfl rfl) rfl ?_
  refine JL.nil ?_
  refine JE.weak (env' := [(0, .string q0), (1, .int .u8 q1), (5, .slice a8 x7.length cp9), (6, .int .i64 x5), (7, .int .i64 x6), (12, .bool (decide (x6 < (q0.size : Int))))]) (es' := [rowT 9 eStr a8 x7.length cp9 x7]) [0] ?_ ⟨rfl, rfl, rfl, rfl, rfl, rfl, trivial⟩ (by decide) rfl
  refine JE.code ?_
  rcases cond_some hres with ⟨hb, hres⟩ | ⟨hb, hres⟩
  · refine JX.condT rfl hb ?_
    refine JX.skip ?_
    refine JE.code ?_
    refine JX.seq ?_
    refine JX.block ?_
    refine JX.seq ?_
    refine JX.region ?_
    refine JL.val (yl_move rfl) rfl ?_
    refine JL.val (yl_move rfl) rfl ?_
    obtain ⟨x10, hx10, hres⟩ := bind_some hres
    refine JL.val (yl_getS Go.Proofs.Try.underlying9 rfl rfl hx10) rfl ?_
    refine JL.val (yl_move rfl) rfl ?_
    refine JL.val (yl_eql rfl rfl) rfl ?_
    refine JL.nil ?_
    refine JE.weak (env' := [(0, .string q0), (1, .int .u8 q1), (5, .slice a8 x7.length cp9), (6, .int .i64 x5), (7, .int .i64 x6), (19, .bool (x10 == q1))]) (es' := [rowT 9 eStr a8 x7.length cp9 x7]) [0] ?_ ⟨rfl, rfl, rfl, rfl, rfl, rfl, trivial⟩ (by decide) rfl
    refine JE.code ?_
    obtain ⟨j11, hj11, hresj11⟩ := bind_some hres
    refine JX.cut (K := fun J => ∀ (a12 : Option Addr) (cp13 : Nat), J [(0, .string q0), (1, .int .u8 q1), (5, .slice a12 j11.2.length cp13), (6, .int .i64 j11.1), (7, .int .i64 x6)] [rowT 9 eStr a12 j11.2.length cp13 j11.2]) ?_ ?_
    · intro a12 cp13
      have hres := hresj11
      refine JE.code ?_
      refine JX.region ?_
      refine JL.val (yl_move rfl) rfl ?_
      refine JL.val (yl_add rfl rfl) rfl ?_
      refine JL.val (yl_assign rfl) rfl ?_
      refine JL.nil ?_
      refine JE.cont hres ?_
      exact fun a w h => ⟨a12, cp13, h.weak ⟨rfl, rfl, rfl, rfl, rfl, trivial⟩ [0] (by decide) rfl⟩
    · intro K
      rcases cond_some hj11 with ⟨hb, hres⟩ | ⟨hb, hres⟩
      · refine JX.condT rfl hb ?_
        refine JX.seq ?_
        refine JX.region ?_
        refine JL.val (yl_move rfl) rfl ?_
        refine JL.val (yl_move rfl) rfl ?_
        refine JL.val (yl_move rfl) rfl ?_
        refine JL.val (yl_move rfl) rfl ?_
        obtain ⟨x14, hx14, hres⟩ := bind_some hres
        refine JL.val (yl_subSlh Go.Proofs.Try.underlying9 rfl rfl rfl hx14) rfl ?_
        refine JL.eff (ef_buildSlice (E := 9) (k := eStr.k) (us := eStr.fl [x14]) rfl (fun w => bsl49_1 x14 w) rfl (by decide)) rfl ?_
        rintro _ _ ⟨a15, rfl, rfl⟩
        obtain ⟨x17, hx17, hres⟩ := bind_some hres
        refine JL.eff (ef_appendT (ix := 0) Go.Proofs.Try.underlying49 i9 i9z i9s rfl i9b0 i9b1 rfl rfl rfl rfl rfl (fun w hC => rd_row hC 1 rfl) hx17) rfl ?_
        rintro _ _ ⟨a18, cp19, rfl, rfl⟩
        refine JL.val (yl_assign rfl) rfl ?_
        refine JL.nil ?_
        refine JE.weak (env' := [(0, .string q0), (1, .int .u8 q1), (5, .slice a18 x17.length cp19), (7, .int .i64 x6)]) (es' := [rowT 9 eStr a18 x17.length cp19 x17]) [0] ?_ ⟨rfl, rfl, rfl, rfl, trivial⟩ (by decide) rfl
        refine JE.code ?_
        refine JX.region ?_
        refine JL.val (yl_move rfl) rfl ?_
        refine JL.val (yl_add rfl rfl) rfl ?_
        refine JL.val (yl_assign rfl) rfl ?_
        refine JL.nil ?_
        have hj := Option.some.inj hres
        exact JE.weak [0] (K a18 cp19) ⟨(by subst hj; rfl), (by subst hj; rfl), (by subst hj; rfl), (by subst hj; rfl), (by subst hj; rfl), trivial⟩ (by decide) (by subst hj; rfl)
      · refine JX.condF rfl hb ?_
        refine JX.skip ?_
        have hj := Option.some.inj hres
        exact JE.weak [0] (K a8 cp9) ⟨(by subst hj; rfl), (by subst hj; rfl), (by subst hj; rfl), (by subst hj; rfl), (by subst hj; rfl), trivial⟩ (by decide) (by subst hj; rfl)
  · refine JX.condF rfl hb ?_
    refine JX.exit ?_
    refine JE.qb rfl ?_
    obtain ⟨b1, hb1⟩ : ∃ b : Int × List ByteArray, b = (x5, x7) := ⟨_, rfl⟩
    have hy1 : b1 = y1 := by rw [hb1]; exact hox1 _ (Option.some.inj hres).symm
    have hres := hresO1
    rw [← hy1] at hres
    refine JE.weak (env' := [(0, .string q0), (5, .slice a8 b1.2.length cp9), (6, .int .i64 b1.1)]) (es' := [rowT 9 eStr a8 b1.2.length cp9 b1.2]) [0] ?_ ⟨(by subst hb1; rfl), (by subst hb1; rfl), (by subst hb1; rfl), trivial⟩ (by decide) (by subst hb1; rfl)
    refine JE.code ?_
    refine JX.seq ?_
    refine JX.region ?_
    refine JL.val (yl_move rfl) rfl ?_
    refine JL.val (yl_move rfl) rfl ?_
    refine JL.val (yl_move rfl) rfl ?_
    obtain ⟨x22, hx22, hres⟩ := bind_some hres
    refine JL.val (yl_subSl Go.Proofs.Try.underlying9 rfl rfl hx22) rfl ?_
    refine JL.eff (ef_buildSlice (E := 9) (k := eStr.k) (us := eStr.fl [x22]) rfl (fun w => bsl49_1 x22 w) rfl (by decide)) rfl ?_
    rintro _ _ ⟨a23, rfl, rfl⟩
    obtain ⟨x25, hx25, hres⟩ := bind_some hres
    refine JL.eff (ef_appendT (ix := 0) Go.Proofs.Try.underlying49 i9 i9z i9s rfl i9b0 i9b1 rfl rfl rfl rfl rfl (fun w hC => rd_row hC 1 rfl) hx25) rfl ?_
    rintro _ _ ⟨a26, cp27, rfl, rfl⟩
    refine JL.val (yl_assign rfl) rfl ?_
    refine JL.nil ?_
    refine JE.weak (env' := [(4, .slice a26 x25.length cp27)]) (es' := [rowT 9 eStr a26 x25.length cp27 x25]) [0] ?_ ⟨rfl, trivial⟩ (by decide) rfl
    refine JE.code ?_
    refine JX.ret ?_
    obtain rfl := Option.some.inj hres
    refine JE.ret (rs := [.tmp 4]) (vs := [.slice a26 x25.length cp27]) rfl ⟨rfl, trivial⟩ ?_
    exact fun w' hb hs => ⟨_, _, ⟨a26, x25.length, cp27, rfl, rfl, rfl⟩, rfl, hb, hs.sel [0] _ (by decide) rfl⟩

/- spec.l01Dec -/
def sh144_1 : (Int × List Int) → Option ((Int × List Int) ⊕ (List Int))
  | (x5, x6) => bif x5 != 0 then (Option.bind (bif decide ((x5.tmod 10) < 0) then (some (w64 (0 - (x5.tmod 10)))) else (some (x5.tmod 10))) fun j9 => (Option.bind (appL [IntKind.u8.wrap (w64 (48 + j9))] x6) fun x12 => some (.inl (w64 (x5.tdiv 10), x12)))) else (some (.inr x6))
def sh144 (q0 : Int) : Option (ByteArray) := Option.bind (iter (sh144_1) (q0, ([] : List Int))) fun b1 => (bif (b1.length : Int) == 0 then (some (ByteArray.mk #[48])) else (bif decide (q0 < 0) then (Option.bind (catS (ByteArray.mk #[45]) (bytesS b1)) fun x17 => some x17) else (some (bytesS b1))))
def T144 (r : ByteArray) (v : Value) (rs : List Own) : Prop := v = rets [.string r] ∧ rs = []
set_option maxRecDepth 100000 in
theorem c144 {w : World} {q0 : Int} {r : ByteArray} (hres : sh144 q0 = some r) : Calls Go.Proofs.Try.prog 144 [.int .i64 q0].toArray w (Ret w (T144 r)) := by
  unfold sh144 at hres
  refine calls_of (n := 34) (M := []) (es := []) Go.Proofs.Try.func144 rfl rfl rfl (Sep.nil _ _ _) ?_
  refine JX.seq ?_
  refine JX.region ?_
  refine JL.val (yl_assign rfl) rfl ?_
  refine JL.nil ?_
  refine JE.code ?_
  refine JX.seq ?_
  refine JX.region ?_
  refine JL.eff (ef_buildSlice (E := 5) (k := eU8.k) (us := eU8.fl ([] : List Int)) rfl (fun w => bsl78_0  w) rfl (by decide)) rfl ?_
  rintro _ _ ⟨a1, rfl, rfl⟩
  refine JL.val (yl_assign rfl) rfl ?_
  refine JL.nil ?_
  refine JE.code ?_
  refine JX.seq ?_
  refine JX.seq ?_
  refine JX.region ?_
  refine JL.val (yl_move rfl) rfl ?_
  refine JL.val (yl_assign rfl) rfl ?_
  refine JL.nil ?_
  refine JE.code ?_
  refine JX.block ?_
  obtain ⟨y1, hy1, hresO1⟩ := bind_some hres
  refine JX.loop (I := fun (s1 : Int × List Int) aa ww => ∃ (a3 : Option Addr) (cp4 : Nat), St w [] 34 [(0, .int .i64 q0), (3, .slice a3 s1.2.length cp4), (4, .int .i64 s1.1)] [rowT 5 eU8 a3 s1.2.length cp4 s1.2] aa ww) (sh144_1) hy1 (fun a w h => ⟨a1, 0, h.weak ⟨rfl, rfl, rfl, trivial⟩ [0] (by decide) rfl⟩) ?_
  rintro ⟨x5, x6⟩ o1 hres hox1 aa ww ⟨a7, cp8, hS⟩
  refine (?_ : JX Go.Proofs.Try.prog w [] 34 _ _ [(0, .int .i64 q0), (3, .slice a7 x6.length cp8), (4, .int .i64 x5)] [rowT 5 eU8 a7 x6.length cp8 x6] _) aa ww hS
  clear hS
  simp only [sh144_1] at hres
  refine JX.seq ?_
  refine JX.seq ?_
  refine JX.region ?_
  refine JL.val (yl_move rfl) rfl ?_
  refine JL.val (yl_neq rfl rfl) rfl ?_
  refine JL.nil ?_
  refine JE.code ?_
  rcases cond_some hres with ⟨hb, hres⟩ | ⟨hb, hres⟩
  · refine JX.condT rfl hb ?_
    refine JX.skip ?_
    refine JE.code ?_
    refine JX.seq ?_
    refine JX.block ?_
    refine JX.seq ?_
    refine JX.region ?_
    refine JL.val (yl_move rfl) rfl ?_
    refine JL.val (yl_rem rfl rfl (by decide)) rfl ?_
    refine JL.val (yl_assign rfl) rfl ?_
    refine JL.nil ?_
    refine JE.code ?_
    refine JX.seq ?_
    refine JX.seq ?_
    refine JX.region ?_
    refine JL.val (yl_move rfl) rfl ?_
    refine JL.val (yl_lss rfl rfl) rfl ?_
    refine JL.nil ?_
    refine JE.code ?_
    obtain ⟨j9, hj9, hresj9⟩ := bind_some hres
    refine JX.cut (K := fun J => J [(0, .int .i64 q0), (3, .slice a7 x6.length cp8), (4, .int .i64 x5), (5, .int .i64 j9)] [rowT 5 eU8 a7 x6.length cp8 x6]) ?_ ?_
    · have hres := hresj9
      refine JE.code ?_
      refine JX.region ?_
      refine JL.val (yl_move rfl) rfl ?_
      refine JL.val (yl_add rfl rfl) rfl ?_
      refine JL.val (yl_conv Go.Proofs.Try.underlying2 Go.Proofs.Try.underlying5 rfl) rfl ?_
      refine JL.eff (ef_buildSlice (E := 5) (k := eU8.k) (us := eU8.fl [IntKind.u8.wrap (w64 (48 + j9))]) rfl (fun w => bsl78_1 (IntKind.u8.wrap (w64 (48 + j9))) w) rfl (by decide)) rfl ?_
      rintro _ _ ⟨a10, rfl, rfl⟩
      refine JL.val (yl_move rfl) rfl ?_
      obtain ⟨x12, hx12, hres⟩ := bind_some hres
      refine JL.eff (ef_appendT (ix := 1) Go.Proofs.Try.underlying78 i5 i5z i5s rfl i5b0 i5b1 rfl rfl rfl rfl rfl (fun w hC => rd_row hC 0 rfl) hx12) rfl ?_
      rintro _ _ ⟨a13, cp14, rfl, rfl⟩
      refine JL.val (yl_assign rfl) rfl ?_
      refine JL.nil ?_
      refine JE.weak (env' := [(0, .int .i64 q0), (3, .slice a13 x12.length cp14), (4, .int .i64 x5)]) (es' := [rowT 5 eU8 a13 x12.length cp14 x12]) [1] ?_ ⟨rfl, rfl, rfl, trivial⟩ (by decide) rfl
      refine JE.code ?_
      refine JX.region ?_
      refine JL.val (yl_move rfl) rfl ?_
      refine JL.val (yl_quo rfl rfl (by decide)) rfl ?_
      refine JL.val (yl_assign rfl) rfl ?_
      refine JL.nil ?_
      refine JE.cont hres ?_
      exact fun a w h => ⟨a13, cp14, h.weak ⟨rfl, rfl, rfl, trivial⟩ [0] (by decide) rfl⟩
    · intro K
      rcases cond_some hj9 with ⟨hb, hres⟩ | ⟨hb, hres⟩
      · refine JX.condT rfl hb ?_
        refine JX.region ?_
        refine JL.val (yl_move rfl) rfl ?_
        refine JL.val (yl_neg rfl) rfl ?_
        refine JL.val (yl_assign rfl) rfl ?_
        refine JL.nil ?_
        have hj := Option.some.inj hres
        exact JE.weak [0] (K) ⟨(by subst hj; rfl), (by subst hj; rfl), (by subst hj; rfl), (by subst hj; rfl), trivial⟩ (by decide) (by subst hj; rfl)
      · refine JX.condF rfl hb ?_
        refine JX.skip ?_
        have hj := Option.some.inj hres
        exact JE.weak [0] (K) ⟨(by subst hj; rfl), (by subst hj; rfl), (by subst hj; rfl), (by subst hj; rfl), trivial⟩ (by decide) (by subst hj; rfl)
  · refine JX.condF rfl hb ?_
    refine JX.exit ?_
    refine JE.qb rfl ?_
    obtain ⟨b1, hb1⟩ : ∃ b : List Int, b = x6 := ⟨_, rfl⟩
    have hy1 : b1 = y1 := by rw [hb1]; exact hox1 _ (Option.some.inj hres).symm
    have hres := hresO1
    rw [← hy1] at hres
    refine JE.weak (env' := [(0, .int .i64 q0), (3, .slice a7 b1.length cp8)]) (es' := [rowT 5 eU8 a7 b1.length cp8 b1]) [0] ?_ ⟨(by subst hb1; rfl), (by subst hb1; rfl), trivial⟩ (by decide) (by subst hb1; rfl)
    refine JE.code ?_
    refine JX.seq ?_
    refine JX.seq ?_
    refine JX.region ?_
    refine JL.val (yl_move rfl) rfl ?_
    refine JL.val (yl_len_slice Go.Proofs.Try.underlying78 rfl) rfl ?_
    refine JL.val (yl_eql rfl rfl) rfl ?_
    refine JL.nil ?_
    refine JE.code ?_
    rcases cond_some hres with ⟨hb, hres⟩ | ⟨hb, hres⟩
    · refine JX.condT rfl hb ?_
      refine JX.seq ?_
      refine JX.region ?_
      refine JL.val (yl_assign rfl) rfl ?_
      refine JL.nil ?_
      refine JE.weak (env' := [(2, .string (ByteArray.mk #[48]))]) (es' := []) [] ?_ ⟨rfl, trivial⟩ (by decide) rfl
      refine JE.code ?_
      refine JX.ret ?_
      obtain rfl := Option.some.inj hres
      refine JE.ret (rs := [.tmp 2]) (vs := [.string (ByteArray.mk #[48])]) rfl ⟨rfl, trivial⟩ ?_
      exact fun w' hb hs => ⟨_, _, ⟨rfl, rfl⟩, rfl, hb, hs.sel [] _ (by decide) rfl⟩
    · refine JX.condF rfl hb ?_
      refine JX.skip ?_
      refine JE.code ?_
      refine JX.seq ?_
      refine JX.seq ?_
      refine JX.region ?_
      refine JL.val (yl_move rfl) rfl ?_
      refine JL.val (yl_lss rfl rfl) rfl ?_
      refine JL.nil ?_
      refine JE.code ?_
      rcases cond_some hres with ⟨hb, hres⟩ | ⟨hb, hres⟩
      · refine JX.condT rfl hb ?_
        refine JX.seq ?_
        refine JX.region ?_
        refine JL.val (yl_move rfl) rfl ?_
        refine JL.val (yl_bytesT Go.Proofs.Try.underlying78 Go.Proofs.Try.underlying9 Go.Proofs.Try.underlying5 rfl rfl (fun w hC => rd_row hC 0 rfl)) rfl ?_
        obtain ⟨x17, hx17, hres⟩ := bind_some hres
        refine JL.val (yl_catS rfl rfl hx17) rfl ?_
        refine JL.val (yl_assign rfl) rfl ?_
        refine JL.nil ?_
        refine JE.weak (env' := [(2, .string x17)]) (es' := []) [] ?_ ⟨rfl, trivial⟩ (by decide) rfl
        refine JE.code ?_
        refine JX.ret ?_
        obtain rfl := Option.some.inj hres
        refine JE.ret (rs := [.tmp 2]) (vs := [.string x17]) rfl ⟨rfl, trivial⟩ ?_
        exact fun w' hb hs => ⟨_, _, ⟨rfl, rfl⟩, rfl, hb, hs.sel [] _ (by decide) rfl⟩
      · refine JX.condF rfl hb ?_
        refine JX.skip ?_
        refine JE.code ?_
        refine JX.seq ?_
        refine JX.region ?_
        refine JL.val (yl_move rfl) rfl ?_
        refine JL.val (yl_bytesT Go.Proofs.Try.underlying78 Go.Proofs.Try.underlying9 Go.Proofs.Try.underlying5 rfl rfl (fun w hC => rd_row hC 0 rfl)) rfl ?_
        refine JL.val (yl_assign rfl) rfl ?_
        refine JL.nil ?_
        refine JE.weak (env' := [(2, .string (bytesS b1))]) (es' := []) [] ?_ ⟨rfl, trivial⟩ (by decide) rfl
        refine JE.code ?_
        refine JX.ret ?_
        obtain rfl := Option.some.inj hres
        refine JE.ret (rs := [.tmp 2]) (vs := [.string (bytesS b1)]) rfl ⟨rfl, trivial⟩ ?_
        exact fun w' hb hs => ⟨_, _, ⟨rfl, rfl⟩, rfl, hb, hs.sel [] _ (by decide) rfl⟩

/- spec.l01Digit -/
def sh181 (q0 : Int) : Option (Bool) := some ((decide (48 ≤ q0)) && (decide (q0 ≤ 57)))
def T181 (r : Bool) (v : Value) (rs : List Own) : Prop := v = rets [.bool r] ∧ rs = []
set_option maxRecDepth 100000 in
theorem c181 {w : World} {q0 : Int} {r : Bool} (hres : sh181 q0 = some r) : Calls Go.Proofs.Try.prog 181 [.int .u8 q0].toArray w (Ret w (T181 r)) := by
  unfold sh181 at hres
  refine calls_of (n := 9) (M := []) (es := []) Go.Proofs.Try.func181 rfl rfl rfl (Sep.nil _ _ _) ?_
  refine JX.seq ?_
  refine JX.region ?_
  refine JL.val (yl_assign rfl) rfl ?_
  refine JL.nil ?_
  refine JE.code ?_
  refine JX.seq ?_
  refine JX.region ?_
  refine JL.val (yl_move rfl) rfl ?_
  refine JL.val (yl_geq rfl rfl) rfl ?_
  refine JL.val (yl_move rfl) rfl ?_
  refine JL.cut (K := fun J => J [(8, .bool ((decide (48 ≤ q0)) && (decide (q0 ≤ 57))))] []) 3 ?_ ?_
  · refine JL.val (yl_assign rfl) rfl ?_
    refine JL.nil ?_
    refine JE.weak (env' := [(2, .bool ((decide (48 ≤ q0)) && (decide (q0 ≤ 57))))]) (es' := []) [] ?_ ⟨rfl, trivial⟩ (by decide) rfl
    refine JE.code ?_
    refine JX.ret ?_
    obtain rfl := Option.some.inj hres
    refine JE.ret (rs := [.tmp 2]) (vs := [.bool ((decide (48 ≤ q0)) && (decide (q0 ≤ 57)))]) rfl ⟨rfl, trivial⟩ ?_
    exact fun w' hb hs => ⟨_, _, ⟨rfl, rfl⟩, rfl, hb, hs.sel [] _ (by decide) rfl⟩
  · intro K
    rcases Bool.eq_false_or_eq_true (decide (48 ≤ q0)) with hb | hb
    · refine JL.set (d := 5) (v := .bool true) (congrArg (fun b => some (Value.bool b)) hb) ?_
      refine JL.gval rfl rfl (yl_move rfl) rfl ?_
      refine JL.gval rfl rfl (yl_leq rfl rfl) rfl ?_
      refine JL.val (yl_pick_true rfl rfl) rfl ?_
      exact JL.weak [] K ⟨(by rw [hb]; rfl), trivial⟩ (by decide) rfl
    · refine JL.set (d := 5) (v := .bool false) (congrArg (fun b => some (Value.bool b)) hb) ?_
      refine JL.gskip rfl rfl rfl rfl ?_
      refine JL.gskip rfl rfl rfl rfl ?_
      refine JL.val (yl_pick_false rfl rfl) rfl ?_
      exact JL.weak [] K ⟨(by rw [hb]; rfl), trivial⟩ (by decide) rfl

/- spec.l01Number -/
def sh140_1 (j3 : ByteArray) : (Int × Int) → Option ((Int × Int) ⊕ (Int ⊕ (Int × Bool)))
  | (x4, x5) => bif decide (x5 < (j3.size : Int)) then (Option.bind (getS j3 x5) fun x6 => Option.bind (sh181 x6) fun x7 => bif !x7 then (some (.inr (.inr (0, false)))) else (Option.bind (getS j3 x5) fun x8 => some (.inl (w64 ((w64 (10 * x4)) + (w64 (IntKind.u8.wrap (x8 - 48)))), w64 (x5 + 1))))) else (some (.inr (.inl x4)))
def sh140 (q0 : ByteArray) : Option (Int × Bool) := Option.bind (bif !(q0.toList == (ByteArray.mk #[]).toList) then (Option.bind (getS q0 0) fun x2 => some (x2 == 45)) else (some false)) fun c1 => (Option.bind (bif c1 then (Option.bind (subS q0 1 (q0.size : Int)) fun x11 => some x11) else (some q0)) fun j3 => (bif (decide ((j3.size : Int) < 1)) || (decide (18 < (j3.size : Int))) then (some (0, false)) else (Option.bind (iter (sh140_1 j3) (0, 0)) fun y1 => elimS y1 (fun r => some r) fun b1 => (Option.bind (bif decide ((j3.size : Int) < (q0.size : Int)) then (some (w64 (0 - b1))) else (some b1)) fun j9 => (Option.bind (sh144 j9) fun x10 => bif !(x10.toList == q0.toList) then (some (0, false)) else (some (j9, true)))))))
def T140 (r : Int × Bool) (v : Value) (rs : List Own) : Prop := v = rets [.int .i64 r.1, .bool r.2] ∧ rs = []
set_option maxRecDepth 100000 in
set_option maxHeartbeats 1000000 in
theorem c140 {w : World} {q0 : ByteArray} {r : Int × Bool} (hres : sh140 q0 = some r) : Calls Go.Proofs.Try.prog 140 [.string q0].toArray w (Ret w (T140 r)) := by
  unfold sh140 at hres
  refine calls_of (n := 56) (M := []) (es := []) Go.Proofs.Try.func140 rfl rfl rfl (Sep.nil _ _ _) ?_
  refine JX.seq ?_
  refine JX.region ?_
  refine JL.val (yl_assign rfl) rfl ?_
  refine JL.val (yl_assign rfl) rfl ?_
  refine JL.nil ?_
  refine JE.code ?_
  refine JX.seq ?_
  refine JX.region ?_
  refine JL.val (yl_move rfl) rfl ?_
  refine JL.val (yl_assign rfl) rfl ?_
  refine JL.nil ?_
  refine JE.code ?_
  refine JX.seq ?_
  refine JX.seq ?_
  refine JX.region ?_
  refine JL.val (yl_move rfl) rfl ?_
  refine JL.val (yl_sneq rfl rfl) rfl ?_
  refine JL.val (yl_move rfl) rfl ?_
  obtain ⟨c1, hc1, hres⟩ := bind_some hres
  refine JL.cut (K := fun J => J [(0, .string q0), (4, .string q0), (14, .bool c1)] []) 4 ?_ ?_
  · refine JL.nil ?_
    refine JE.weak (env' := [(0, .string q0), (4, .string q0), (14, .bool c1)]) (es' := []) [] ?_ ⟨rfl, rfl, rfl, trivial⟩ (by decide) rfl
    refine JE.code ?_
    obtain ⟨j3, hj3, hresj3⟩ := bind_some hres
    refine JX.cut (K := fun J => J [(0, .string q0), (4, .string j3)] []) ?_ ?_
    · have hres := hresj3
      refine JE.code ?_
      refine JX.seq ?_
      refine JX.seq ?_
      refine JX.region ?_
      refine JL.val (yl_move rfl) rfl ?_
      refine JL.val (yl_len_string Go.Proofs.Try.underlying9 rfl) rfl ?_
      refine JL.val (yl_lss rfl rfl) rfl ?_
      refine JL.val (yl_move rfl) rfl ?_
      refine JL.cut (K := fun J => J [(0, .string q0), (4, .string j3), (24, .bool ((decide ((j3.size : Int) < 1)) || (decide (18 < (j3.size : Int)))))] []) 4 ?_ ?_
      · refine JL.nil ?_
        refine JE.weak (env' := [(0, .string q0), (4, .string j3), (24, .bool ((decide ((j3.size : Int) < 1)) || (decide (18 < (j3.size : Int)))))]) (es' := []) [] ?_ ⟨rfl, rfl, rfl, trivial⟩ (by decide) rfl
        refine JE.code ?_
        rcases cond_some hres with ⟨hb, hres⟩ | ⟨hb, hres⟩
        · refine JX.condT rfl hb ?_
          refine JX.seq ?_
          refine JX.region ?_
          refine JL.val (yl_assign rfl) rfl ?_
          refine JL.val (yl_assign rfl) rfl ?_
          refine JL.nil ?_
          refine JE.code ?_
          refine JX.ret ?_
          obtain rfl := Option.some.inj hres
          refine JE.ret (rs := [.tmp 2, .tmp 3]) (vs := [.int .i64 0, .bool false]) rfl ⟨rfl, rfl, trivial⟩ ?_
          exact fun w' hb hs => ⟨_, _, ⟨rfl, rfl⟩, rfl, hb, hs.sel [] _ (by decide) rfl⟩
        · refine JX.condF rfl hb ?_
          refine JX.skip ?_
          refine JE.code ?_
          refine JX.seq ?_
          refine JX.region ?_
          refine JL.val (yl_assign rfl) rfl ?_
          refine JL.nil ?_
          refine JE.code ?_
          refine JX.seq ?_
          refine JX.seq ?_
          refine JX.region ?_
          refine JL.val (yl_assign rfl) rfl ?_
          refine JL.nil ?_
          refine JE.code ?_
          refine JX.block ?_
          obtain ⟨y1, hy1, hresO1⟩ := bind_some hres
          refine JX.loop (I := fun (s1 : Int × Int) aa ww => St w [] 56 [(0, .string q0), (4, .string j3), (5, .int .i64 s1.1), (6, .int .i64 s1.2)] [] aa ww) (sh140_1 j3) hy1 (fun a w h => h.weak ⟨rfl, rfl, rfl, rfl, trivial⟩ [] (by decide) rfl) ?_
          rintro ⟨x4, x5⟩ o1 hres hox1 aa ww hS
          refine (?_ : JX Go.Proofs.Try.prog w [] 56 _ _ [(0, .string q0), (4, .string j3), (5, .int .i64 x4), (6, .int .i64 x5)] [] _) aa ww hS
          clear hS
          simp only [sh140_1] at hres
          refine JX.seq ?_
          refine JX.seq ?_
          refine JX.region ?_
          refine JL.val (yl_move rfl) rfl ?_
          refine JL.val (yl_move rfl) rfl ?_
          refine JL.val (yl_len_string Go.Proofs.Try.underlying9 rfl) rfl ?_
          refine JL.val (yl_lss rfl rfl) rfl ?_
          refine JL.nil ?_
          refine JE.weak (env' := [(0, .string q0), (4, .string j3), (5, .int .i64 x4), (6, .int .i64 x5), (28, .bool (decide (x5 < (j3.size : Int))))]) (es' := []) [] ?_ ⟨rfl, rfl, rfl, rfl, rfl, trivial⟩ (by decide) rfl
          refine JE.code ?_
          rcases cond_some hres with ⟨hb, hres⟩ | ⟨hb, hres⟩
          · refine JX.condT rfl hb ?_
            refine JX.skip ?_
            refine JE.code ?_
            refine JX.seq ?_
            refine JX.block ?_
            refine JX.seq ?_
            refine JX.seq ?_
            refine JX.region ?_
            refine JL.val (yl_move rfl) rfl ?_
            refine JL.val (yl_move rfl) rfl ?_
            obtain ⟨x6, hx6, hres⟩ := bind_some hres
            refine JL.val (yl_getS Go.Proofs.Try.underlying9 rfl rfl hx6) rfl ?_
            obtain ⟨x7, hx7, hres⟩ := bind_some hres
            refine JL.eff (ef_call (T := T181 x7) Go.Proofs.Try.func181 rfl (by kernel_rfl) rfl (fun w hC => c181  hx7)) rfl ?_
            rintro _ _ ⟨_, ⟨rfl, rfl⟩, rfl⟩
            refine JL.val (yl_not rfl) rfl ?_
            refine JL.nil ?_
            refine JE.weak (env' := [(0, .string q0), (4, .string j3), (5, .int .i64 x4), (6, .int .i64 x5), (35, .bool !x7)]) (es' := []) [] ?_ ⟨rfl, rfl, rfl, rfl, rfl, trivial⟩ (by decide) rfl
            refine JE.code ?_
            rcases cond_some hres with ⟨hb, hres⟩ | ⟨hb, hres⟩
            · refine JX.condT rfl hb ?_
              refine JX.seq ?_
              refine JX.region ?_
              refine JL.val (yl_assign rfl) rfl ?_
              refine JL.val (yl_assign rfl) rfl ?_
              refine JL.nil ?_
              refine JE.code ?_
              refine JX.ret ?_
              refine JE.qbr ?_
              refine JE.qbr ?_
              have hres := elimS_inr hresO1 (hox1 _ (Option.some.inj hres).symm)
              obtain rfl := Option.some.inj hres
              refine JE.ret (rs := [.tmp 2, .tmp 3]) (vs := [.int .i64 0, .bool false]) rfl ⟨rfl, rfl, trivial⟩ ?_
              exact fun w' hb hs => ⟨_, _, ⟨rfl, rfl⟩, rfl, hb, hs.sel [] _ (by decide) rfl⟩
            · refine JX.condF rfl hb ?_
              refine JX.skip ?_
              refine JE.code ?_
              refine JX.region ?_
              refine JL.val (yl_move rfl) rfl ?_
              refine JL.val (yl_mul rfl rfl) rfl ?_
              refine JL.val (yl_move rfl) rfl ?_
              refine JL.val (yl_move rfl) rfl ?_
              obtain ⟨x8, hx8, hres⟩ := bind_some hres
              refine JL.val (yl_getS Go.Proofs.Try.underlying9 rfl rfl hx8) rfl ?_
              refine JL.val (yl_sub rfl rfl) rfl ?_
              refine JL.val (yl_conv Go.Proofs.Try.underlying5 Go.Proofs.Try.underlying2 rfl) rfl ?_
              refine JL.val (yl_add rfl rfl) rfl ?_
              refine JL.val (yl_assign rfl) rfl ?_
              refine JL.nil ?_
              refine JE.weak (env' := [(0, .string q0), (4, .string j3), (5, .int .i64 (w64 ((w64 (10 * x4)) + (w64 (IntKind.u8.wrap (x8 - 48)))))), (6, .int .i64 x5)]) (es' := []) [] ?_ ⟨rfl, rfl, rfl, rfl, trivial⟩ (by decide) rfl
              refine JE.code ?_
              refine JX.region ?_
              refine JL.val (yl_move rfl) rfl ?_
              refine JL.val (yl_add rfl rfl) rfl ?_
              refine JL.val (yl_assign rfl) rfl ?_
              refine JL.nil ?_
              refine JE.cont hres ?_
              exact fun a w h => h.weak ⟨rfl, rfl, rfl, rfl, trivial⟩ [] (by decide) rfl
          · refine JX.condF rfl hb ?_
            refine JX.exit ?_
            refine JE.qb rfl ?_
            obtain ⟨b1, hb1⟩ : ∃ b : Int, b = x4 := ⟨_, rfl⟩
            have hy1 : Sum.inl b1 = y1 := by rw [hb1]; exact hox1 _ (Option.some.inj hres).symm
            have hres := elimS_inl hresO1 hy1
            refine JE.weak (env' := [(0, .string q0), (4, .string j3), (5, .int .i64 b1)]) (es' := []) [] ?_ ⟨(by subst hb1; rfl), (by subst hb1; rfl), (by subst hb1; rfl), trivial⟩ (by decide) (by subst hb1; rfl)
            refine JE.code ?_
            refine JX.seq ?_
            refine JX.seq ?_
            refine JX.region ?_
            refine JL.val (yl_move rfl) rfl ?_
            refine JL.val (yl_len_string Go.Proofs.Try.underlying9 rfl) rfl ?_
            refine JL.val (yl_move rfl) rfl ?_
            refine JL.val (yl_len_string Go.Proofs.Try.underlying9 rfl) rfl ?_
            refine JL.val (yl_lss rfl rfl) rfl ?_
            refine JL.nil ?_
            refine JE.weak (env' := [(0, .string q0), (5, .int .i64 b1), (48, .bool (decide ((j3.size : Int) < (q0.size : Int))))]) (es' := []) [] ?_ ⟨rfl, rfl, rfl, trivial⟩ (by decide) rfl
            refine JE.code ?_
            obtain ⟨j9, hj9, hresj9⟩ := bind_some hres
            refine JX.cut (K := fun J => J [(0, .string q0), (5, .int .i64 j9)] []) ?_ ?_
            · have hres := hresj9
              refine JE.code ?_
              refine JX.seq ?_
              refine JX.seq ?_
              refine JX.region ?_
              refine JL.val (yl_move rfl) rfl ?_
              obtain ⟨x10, hx10, hres⟩ := bind_some hres
              refine JL.eff (ef_call (T := T144 x10) Go.Proofs.Try.func144 rfl (by kernel_rfl) rfl (fun w hC => c144  hx10)) rfl ?_
              rintro _ _ ⟨_, ⟨rfl, rfl⟩, rfl⟩
              refine JL.val (yl_move rfl) rfl ?_
              refine JL.val (yl_sneq rfl rfl) rfl ?_
              refine JL.nil ?_
              refine JE.weak (env' := [(5, .int .i64 j9), (54, .bool (!(x10.toList == q0.toList)))]) (es' := []) [] ?_ ⟨rfl, rfl, trivial⟩ (by decide) rfl
              refine JE.code ?_
              rcases cond_some hres with ⟨hb, hres⟩ | ⟨hb, hres⟩
              · refine JX.condT rfl hb ?_
                refine JX.seq ?_
                refine JX.region ?_
                refine JL.val (yl_assign rfl) rfl ?_
                refine JL.val (yl_assign rfl) rfl ?_
                refine JL.nil ?_
                refine JE.code ?_
                refine JX.ret ?_
                obtain rfl := Option.some.inj hres
                refine JE.ret (rs := [.tmp 2, .tmp 3]) (vs := [.int .i64 0, .bool false]) rfl ⟨rfl, rfl, trivial⟩ ?_
                exact fun w' hb hs => ⟨_, _, ⟨rfl, rfl⟩, rfl, hb, hs.sel [] _ (by decide) rfl⟩
              · refine JX.condF rfl hb ?_
                refine JX.skip ?_
                refine JE.code ?_
                refine JX.seq ?_
                refine JX.region ?_
                refine JL.val (yl_move rfl) rfl ?_
                refine JL.val (yl_assign rfl) rfl ?_
                refine JL.val (yl_assign rfl) rfl ?_
                refine JL.nil ?_
                refine JE.code ?_
                refine JX.ret ?_
                obtain rfl := Option.some.inj hres
                refine JE.ret (rs := [.tmp 2, .tmp 3]) (vs := [.int .i64 j9, .bool true]) rfl ⟨rfl, rfl, trivial⟩ ?_
                exact fun w' hb hs => ⟨_, _, ⟨rfl, rfl⟩, rfl, hb, hs.sel [] _ (by decide) rfl⟩
            · intro K
              rcases cond_some hj9 with ⟨hb, hres⟩ | ⟨hb, hres⟩
              · refine JX.condT rfl hb ?_
                refine JX.region ?_
                refine JL.val (yl_move rfl) rfl ?_
                refine JL.val (yl_neg rfl) rfl ?_
                refine JL.val (yl_assign rfl) rfl ?_
                refine JL.nil ?_
                have hj := Option.some.inj hres
                exact JE.weak [] (K) ⟨(by subst hj; rfl), (by subst hj; rfl), trivial⟩ (by decide) (by subst hj; rfl)
              · refine JX.condF rfl hb ?_
                refine JX.skip ?_
                have hj := Option.some.inj hres
                exact JE.weak [] (K) ⟨(by subst hj; rfl), (by subst hj; rfl), trivial⟩ (by decide) (by subst hj; rfl)
      · intro K
        rcases Bool.eq_false_or_eq_true (decide ((j3.size : Int) < 1)) with hb | hb
        · refine JL.set (d := 20) (v := .bool true) (congrArg (fun b => some (Value.bool b)) hb) ?_
          refine JL.gskip rfl rfl rfl rfl ?_
          refine JL.gskip rfl rfl rfl rfl ?_
          refine JL.gskip rfl rfl rfl rfl ?_
          refine JL.val (yl_pick_true rfl rfl) rfl ?_
          exact JL.weak [] K ⟨rfl, rfl, (by rw [hb]; rfl), trivial⟩ (by decide) rfl
        · refine JL.set (d := 20) (v := .bool false) (congrArg (fun b => some (Value.bool b)) hb) ?_
          refine JL.gval rfl rfl (yl_move rfl) rfl ?_
          refine JL.gval rfl rfl (yl_len_string Go.Proofs.Try.underlying9 rfl) rfl ?_
          refine JL.gval rfl rfl (yl_gtr rfl rfl) rfl ?_
          refine JL.val (yl_pick_false rfl rfl) rfl ?_
          exact JL.weak [] K ⟨rfl, rfl, (by rw [hb]; rfl), trivial⟩ (by decide) rfl
    · intro K
      rcases cond_some hj3 with ⟨hb, hres⟩ | ⟨hb, hres⟩
      · refine JX.condT rfl hb ?_
        refine JX.region ?_
        refine JL.val (yl_move rfl) rfl ?_
        obtain ⟨x11, hx11, hres⟩ := bind_some hres
        refine JL.val (yl_subSl Go.Proofs.Try.underlying9 rfl rfl hx11) rfl ?_
        refine JL.val (yl_assign rfl) rfl ?_
        refine JL.nil ?_
        have hj := Option.some.inj hres
        exact JE.weak [] (K) ⟨(by subst hj; rfl), (by subst hj; rfl), trivial⟩ (by decide) (by subst hj; rfl)
      · refine JX.condF rfl hb ?_
        refine JX.skip ?_
        have hj := Option.some.inj hres
        exact JE.weak [] (K) ⟨(by subst hj; rfl), (by subst hj; rfl), trivial⟩ (by decide) (by subst hj; rfl)
  · intro K
    rcases cond_some hc1 with ⟨hb, hres⟩ | ⟨hb, hres⟩
    · refine JL.set (d := 10) (v := .bool true) (congrArg (fun b => some (Value.bool b)) hb) ?_
      refine JL.gval rfl rfl (yl_move rfl) rfl ?_
      obtain ⟨x2, hx2, hres⟩ := bind_some hres
      refine JL.gval rfl rfl (yl_getS Go.Proofs.Try.underlying9 rfl rfl hx2) rfl ?_
      refine JL.gval rfl rfl (yl_eql rfl rfl) rfl ?_
      refine JL.val (yl_pick_true rfl rfl) rfl ?_
      have he := Option.some.inj hres
      exact JL.weak [] K ⟨rfl, rfl, (by rw [← he]; rfl), trivial⟩ (by decide) rfl
    · refine JL.set (d := 10) (v := .bool false) (congrArg (fun b => some (Value.bool b)) hb) ?_
      refine JL.gskip rfl rfl rfl rfl ?_
      refine JL.gskip rfl rfl rfl rfl ?_
      refine JL.gskip rfl rfl rfl rfl ?_
      refine JL.val (yl_pick_false rfl rfl) rfl ?_
      have he := Option.some.inj hres
      exact JL.weak [] K ⟨rfl, rfl, (by rw [← he]; rfl), trivial⟩ (by decide) rfl

/- spec.l20Number -/
def sh86 (q0 : ByteArray) : Option (Int × Bool) := Option.bind (bif !(q0.toList == (ByteArray.mk #[]).toList) then (Option.bind (getS q0 0) fun x2 => some (x2 == 45)) else (some false)) fun c1 => (bif c1 then (Option.bind (subS q0 1 (q0.size : Int)) fun x3 => Option.bind (sh140 x3) fun x4 => some (w64 (0 - x4.1), x4.2 && (decide (0 < x4.1)))) else (Option.bind (sh140 q0) fun x5 => some (x5.1, x5.2)))
def T86 (r : Int × Bool) (v : Value) (rs : List Own) : Prop := v = rets [.int .i64 r.1, .bool r.2] ∧ rs = []
set_option maxRecDepth 100000 in
theorem c86 {w : World} {q0 : ByteArray} {r : Int × Bool} (hres : sh86 q0 = some r) : Calls Go.Proofs.Try.prog 86 [.string q0].toArray w (Ret w (T86 r)) := by
  unfold sh86 at hres
  refine calls_of (n := 30) (M := []) (es := []) Go.Proofs.Try.func86 rfl rfl rfl (Sep.nil _ _ _) ?_
  refine JX.seq ?_
  refine JX.region ?_
  refine JL.val (yl_assign rfl) rfl ?_
  refine JL.val (yl_assign rfl) rfl ?_
  refine JL.nil ?_
  refine JE.code ?_
  refine JX.seq ?_
  refine JX.seq ?_
  refine JX.region ?_
  refine JL.val (yl_move rfl) rfl ?_
  refine JL.val (yl_sneq rfl rfl) rfl ?_
  refine JL.val (yl_move rfl) rfl ?_
  obtain ⟨c1, hc1, hres⟩ := bind_some hres
  refine JL.cut (K := fun J => J [(0, .string q0), (12, .bool c1)] []) 4 ?_ ?_
  · refine JL.nil ?_
    refine JE.weak (env' := [(0, .string q0), (12, .bool c1)]) (es' := []) [] ?_ ⟨rfl, rfl, trivial⟩ (by decide) rfl
    refine JE.code ?_
    rcases cond_some hres with ⟨hb, hres⟩ | ⟨hb, hres⟩
    · refine JX.condT rfl hb ?_
      refine JX.seq ?_
      refine JX.region ?_
      refine JL.val (yl_move rfl) rfl ?_
      obtain ⟨x3, hx3, hres⟩ := bind_some hres
      refine JL.val (yl_subSl Go.Proofs.Try.underlying9 rfl rfl hx3) rfl ?_
      obtain ⟨x4, hx4, hres⟩ := bind_some hres
      refine JL.eff (ef_call (T := T140 x4) Go.Proofs.Try.func140 rfl (by kernel_rfl) rfl (fun w hC => c140  hx4)) rfl ?_
      rintro _ _ ⟨_, ⟨rfl, rfl⟩, rfl⟩
      refine JL.val (yl_move rfl) rfl ?_
      refine JL.val (yl_extract rfl rfl) rfl ?_
      refine JL.val (yl_extract rfl rfl) rfl ?_
      refine JL.val (yl_assign rfl) rfl ?_
      refine JL.val (yl_assign rfl) rfl ?_
      refine JL.nil ?_
      refine JE.weak (env' := [(4, .int .i64 x4.1), (5, .bool x4.2)]) (es' := []) [] ?_ ⟨rfl, rfl, trivial⟩ (by decide) rfl
      refine JE.code ?_
      refine JX.seq ?_
      refine JX.region ?_
      refine JL.val (yl_move rfl) rfl ?_
      refine JL.val (yl_neg rfl) rfl ?_
      refine JL.val (yl_move rfl) rfl ?_
      refine JL.val (yl_move rfl) rfl ?_
      refine JL.cut (K := fun J => J [(20, .int .i64 (w64 (0 - x4.1))), (25, .bool (x4.2 && (decide (0 < x4.1))))] []) 3 ?_ ?_
      · refine JL.val (yl_assign rfl) rfl ?_
        refine JL.val (yl_assign rfl) rfl ?_
        refine JL.nil ?_
        refine JE.weak (env' := [(2, .int .i64 (w64 (0 - x4.1))), (3, .bool (x4.2 && (decide (0 < x4.1))))]) (es' := []) [] ?_ ⟨rfl, rfl, trivial⟩ (by decide) rfl
        refine JE.code ?_
        refine JX.ret ?_
        obtain rfl := Option.some.inj hres
        refine JE.ret (rs := [.tmp 2, .tmp 3]) (vs := [.int .i64 (w64 (0 - x4.1)), .bool (x4.2 && (decide (0 < x4.1)))]) rfl ⟨rfl, rfl, trivial⟩ ?_
        exact fun w' hb hs => ⟨_, _, ⟨rfl, rfl⟩, rfl, hb, hs.sel [] _ (by decide) rfl⟩
      · intro K
        rcases Bool.eq_false_or_eq_true (x4.2) with hb | hb
        · refine JL.set (d := 22) (v := .bool true) (congrArg (fun b => some (Value.bool b)) hb) ?_
          refine JL.gval rfl rfl (yl_move rfl) rfl ?_
          refine JL.gval rfl rfl (yl_gtr rfl rfl) rfl ?_
          refine JL.val (yl_pick_true rfl rfl) rfl ?_
          exact JL.weak [] K ⟨rfl, (by rw [hb]; rfl), trivial⟩ (by decide) rfl
        · refine JL.set (d := 22) (v := .bool false) (congrArg (fun b => some (Value.bool b)) hb) ?_
          refine JL.gskip rfl rfl rfl rfl ?_
          refine JL.gskip rfl rfl rfl rfl ?_
          refine JL.val (yl_pick_false rfl rfl) rfl ?_
          exact JL.weak [] K ⟨rfl, (by rw [hb]; rfl), trivial⟩ (by decide) rfl
    · refine JX.condF rfl hb ?_
      refine JX.skip ?_
      refine JE.code ?_
      refine JX.seq ?_
      refine JX.region ?_
      refine JL.val (yl_move rfl) rfl ?_
      obtain ⟨x5, hx5, hres⟩ := bind_some hres
      refine JL.eff (ef_call (T := T140 x5) Go.Proofs.Try.func140 rfl (by kernel_rfl) rfl (fun w hC => c140  hx5)) rfl ?_
      rintro _ _ ⟨_, ⟨rfl, rfl⟩, rfl⟩
      refine JL.val (yl_extract rfl rfl) rfl ?_
      refine JL.val (yl_extract rfl rfl) rfl ?_
      refine JL.val (yl_assign rfl) rfl ?_
      refine JL.val (yl_assign rfl) rfl ?_
      refine JL.nil ?_
      refine JE.weak (env' := [(2, .int .i64 x5.1), (3, .bool x5.2)]) (es' := []) [] ?_ ⟨rfl, rfl, trivial⟩ (by decide) rfl
      refine JE.code ?_
      refine JX.ret ?_
      obtain rfl := Option.some.inj hres
      refine JE.ret (rs := [.tmp 2, .tmp 3]) (vs := [.int .i64 x5.1, .bool x5.2]) rfl ⟨rfl, rfl, trivial⟩ ?_
      exact fun w' hb hs => ⟨_, _, ⟨rfl, rfl⟩, rfl, hb, hs.sel [] _ (by decide) rfl⟩
  · intro K
    rcases cond_some hc1 with ⟨hb, hres⟩ | ⟨hb, hres⟩
    · refine JL.set (d := 8) (v := .bool true) (congrArg (fun b => some (Value.bool b)) hb) ?_
      refine JL.gval rfl rfl (yl_move rfl) rfl ?_
      obtain ⟨x2, hx2, hres⟩ := bind_some hres
      refine JL.gval rfl rfl (yl_getS Go.Proofs.Try.underlying9 rfl rfl hx2) rfl ?_
      refine JL.gval rfl rfl (yl_eql rfl rfl) rfl ?_
      refine JL.val (yl_pick_true rfl rfl) rfl ?_
      have he := Option.some.inj hres
      exact JL.weak [] K ⟨rfl, (by rw [← he]; rfl), trivial⟩ (by decide) rfl
    · refine JL.set (d := 8) (v := .bool false) (congrArg (fun b => some (Value.bool b)) hb) ?_
      refine JL.gskip rfl rfl rfl rfl ?_
      refine JL.gskip rfl rfl rfl rfl ?_
      refine JL.gskip rfl rfl rfl rfl ?_
      refine JL.val (yl_pick_false rfl rfl) rfl ?_
      have he := Option.some.inj hres
      exact JL.weak [] K ⟨rfl, (by rw [← he]; rfl), trivial⟩ (by decide) rfl

/- spec.l00In -/
def sh115 (q0 : Int) (q1 : Int) (q2 : Int) : Option (Bool) := some ((decide (q1 ≤ q0)) && (decide (q0 ≤ q2)))
def T115 (r : Bool) (v : Value) (rs : List Own) : Prop := v = rets [.bool r] ∧ rs = []
set_option maxRecDepth 100000 in
theorem c115 {w : World} {q0 : Int} {q1 : Int} {q2 : Int} {r : Bool} (hres : sh115 q0 q1 q2 = some r) : Calls Go.Proofs.Try.prog 115 [.int .i64 q0, .int .i64 q1, .int .i64 q2].toArray w (Ret w (T115 r)) := by
  unfold sh115 at hres
  refine calls_of (n := 15) (M := []) (es := []) Go.Proofs.Try.func115 rfl rfl rfl (Sep.nil _ _ _) ?_
  refine JX.seq ?_
  refine JX.region ?_
  refine JL.val (yl_assign rfl) rfl ?_
  refine JL.nil ?_
  refine JE.code ?_
  refine JX.seq ?_
  refine JX.region ?_
  refine JL.val (yl_move rfl) rfl ?_
  refine JL.val (yl_move rfl) rfl ?_
  refine JL.val (yl_geq rfl rfl) rfl ?_
  refine JL.val (yl_move rfl) rfl ?_
  refine JL.cut (K := fun J => J [(14, .bool ((decide (q1 ≤ q0)) && (decide (q0 ≤ q2))))] []) 4 ?_ ?_
  · refine JL.val (yl_assign rfl) rfl ?_
    refine JL.nil ?_
    refine JE.weak (env' := [(6, .bool ((decide (q1 ≤ q0)) && (decide (q0 ≤ q2))))]) (es' := []) [] ?_ ⟨rfl, trivial⟩ (by decide) rfl
    refine JE.code ?_
    refine JX.ret ?_
    obtain rfl := Option.some.inj hres
    refine JE.ret (rs := [.tmp 6]) (vs := [.bool ((decide (q1 ≤ q0)) && (decide (q0 ≤ q2)))]) rfl ⟨rfl, trivial⟩ ?_
    exact fun w' hb hs => ⟨_, _, ⟨rfl, rfl⟩, rfl, hb, hs.sel [] _ (by decide) rfl⟩
  · intro K
    rcases Bool.eq_false_or_eq_true (decide (q1 ≤ q0)) with hb | hb
    · refine JL.set (d := 10) (v := .bool true) (congrArg (fun b => some (Value.bool b)) hb) ?_
      refine JL.gval rfl rfl (yl_move rfl) rfl ?_
      refine JL.gval rfl rfl (yl_move rfl) rfl ?_
      refine JL.gval rfl rfl (yl_leq rfl rfl) rfl ?_
      refine JL.val (yl_pick_true rfl rfl) rfl ?_
      exact JL.weak [] K ⟨(by rw [hb]; rfl), trivial⟩ (by decide) rfl
    · refine JL.set (d := 10) (v := .bool false) (congrArg (fun b => some (Value.bool b)) hb) ?_
      refine JL.gskip rfl rfl rfl rfl ?_
      refine JL.gskip rfl rfl rfl rfl ?_
      refine JL.gskip rfl rfl rfl rfl ?_
      refine JL.val (yl_pick_false rfl rfl) rfl ?_
      exact JL.weak [] K ⟨(by rw [hb]; rfl), trivial⟩ (by decide) rfl

/- spec.l22Ok -/
def sh91_1 (q0 : List SToolMove) : Int → Option (Int ⊕ (Unit ⊕ Bool))
  | x1 => bif decide (x1 < (q0.length : Int)) then (Option.bind (getI q0 x1) fun x2 => Option.bind (sh115 x2.X (-100000) 100000) fun x3 => Option.bind (bif !x3 then (some true) else (Option.bind (sh115 x2.Y (-100000) 100000) fun x5 => some !x5)) fun c4 => (Option.bind (bif c4 then (some true) else (Option.bind (sh115 x2.Z (-500) 500) fun x7 => some !x7)) fun c6 => (bif c6 then (some (.inr (.inr false))) else (some (.inl (w64 (x1 + 1))))))) else (some (.inr (.inl ())))
def sh91 (q0 : List SToolMove) : Option (Bool) := Option.bind (iter (sh91_1 q0) 0) fun y1 => elimS y1 (fun r => some r) fun b1 => (some (decide ((q0.length : Int) ≤ 700)))
def T91 (r : Bool) (v : Value) (rs : List Own) : Prop := v = rets [.bool r] ∧ rs = []
set_option maxRecDepth 100000 in
theorem c91 {w : World} {q0 : List SToolMove} {a_0 : Option Addr} {n_0 c_0 : Nat} (g_0 : Rd w a_0 (eSToolMove.fl q0)) (l_0 : q0.length = n_0) (k_0 : n_0 ≤ c_0) {r : Bool} (hres : sh91 q0 = some r) : Calls Go.Proofs.Try.prog 91 [.slice a_0 n_0 c_0].toArray w (Ret w (T91 r)) := by
  subst l_0
  unfold sh91 at hres
  refine calls_of (n := 39) (M := []) (es := []) Go.Proofs.Try.func91 rfl rfl rfl (Sep.nil _ _ _) ?_
  refine JX.seq ?_
  refine JX.region ?_
  refine JL.val (yl_assign rfl) rfl ?_
  refine JL.nil ?_
  refine JE.code ?_
  refine JX.seq ?_
  refine JX.seq ?_
  refine JX.region ?_
  refine JL.val (yl_assign rfl) rfl ?_
  refine JL.nil ?_
  refine JE.code ?_
  refine JX.block ?_
  obtain ⟨y1, hy1, hresO1⟩ := bind_some hres
  refine JX.loop (I := fun (s1 : Int) aa ww => St w [] 39 [(0, .slice a_0 q0.length c_0), (3, .int .i64 s1)] [] aa ww) (sh91_1 q0) hy1 (fun a w h => h.weak ⟨rfl, rfl, trivial⟩ [] (by decide) rfl) ?_
  rintro x1 o1 hres hox1 aa ww hS
  refine (?_ : JX Go.Proofs.Try.prog w [] 39 _ _ [(0, .slice a_0 q0.length c_0), (3, .int .i64 x1)] [] _) aa ww hS
  clear hS
  unfold sh91_1 at hres
  refine JX.seq ?_
  refine JX.seq ?_
  refine JX.region ?_
  refine JL.val (yl_move rfl) rfl ?_
  refine JL.val (yl_move rfl) rfl ?_
  refine JL.val (yl_len_slice Go.Proofs.Try.underlying28 rfl) rfl ?_
  refine JL.val (yl_lss rfl rfl) rfl ?_
  refine JL.nil ?_
  refine JE.weak (env' := [(0, .slice a_0 q0.length c_0), (3, .int .i64 x1), (8, .bool (decide (x1 < (q0.length : Int))))]) (es' := []) [] ?_ ⟨rfl, rfl, rfl, trivial⟩ (by decide) rfl
  refine JE.code ?_
  rcases cond_some hres with ⟨hb, hres⟩ | ⟨hb, hres⟩
  · refine JX.condT rfl hb ?_
    refine JX.skip ?_
    refine JE.code ?_
    refine JX.seq ?_
    refine JX.block ?_
    refine JX.seq ?_
    refine JX.region ?_
    refine JL.val (yl_move rfl) rfl ?_
    refine JL.val (yl_move rfl) rfl ?_
    obtain ⟨x2, hx2, hres⟩ := bind_some hres
    refine JL.val (yl_idxT Go.Proofs.Try.underlying28 i97 i97s rfl rfl hx2 rfl (fun w hC => rd_arg g_0 hC)) rfl ?_
    refine JL.val (yl_assign rfl) rfl ?_
    refine JL.nil ?_
    refine JE.weak (env' := [(0, .slice a_0 q0.length c_0), (3, .int .i64 x1), (4, ptrAt a_0 ((x1).toNat * eSToolMove.k))]) (es' := []) [] ?_ ⟨rfl, rfl, rfl, trivial⟩ (by decide) rfl
    refine JE.code ?_
    refine JX.seq ?_
    refine JX.region ?_
    refine JL.val (yl_move rfl) rfl ?_
    refine JL.val (yl_nilCheckT rfl hx2 (fun w hC => rd_arg g_0 hC)) rfl ?_
    refine JL.val (yl_fieldAtT Go.Proofs.Try.underlying97 rfl i2 i2n rfl hx2 (fun w hC => rd_arg g_0 hC)) rfl ?_
    refine JL.val (yl_loadT1 Go.Proofs.Try.underlying2 rfl rfl hx2 (fun w hC => rd_arg g_0 hC) rfl) rfl ?_
    obtain ⟨x3, hx3, hres⟩ := bind_some hres
    refine JL.eff (ef_call (T := T115 x3) Go.Proofs.Try.func115 rfl (by kernel_rfl) rfl (fun w hC => c115  hx3)) rfl ?_
    rintro _ _ ⟨_, ⟨rfl, rfl⟩, rfl⟩
    refine JL.val (yl_not rfl) rfl ?_
    refine JL.val (yl_move rfl) rfl ?_
    obtain ⟨c4, hc4, hres⟩ := bind_some hres
    refine JL.cut (K := fun J => J [(0, .slice a_0 q0.length c_0), (3, .int .i64 x1), (4, ptrAt a_0 ((x1).toNat * eSToolMove.k)), (27, .bool c4)] []) 7 ?_ ?_
    · refine JL.val (yl_move rfl) rfl ?_
      obtain ⟨c6, hc6, hres⟩ := bind_some hres
      refine JL.cut (K := fun J => J [(0, .slice a_0 q0.length c_0), (3, .int .i64 x1), (35, .bool c6)] []) 7 ?_ ?_
      · refine JL.nil ?_
        refine JE.weak (env' := [(0, .slice a_0 q0.length c_0), (3, .int .i64 x1), (35, .bool c6)]) (es' := []) [] ?_ ⟨rfl, rfl, rfl, trivial⟩ (by decide) rfl
        refine JE.code ?_
        rcases cond_some hres with ⟨hb, hres⟩ | ⟨hb, hres⟩
        · refine JX.condT rfl hb ?_
          refine JX.seq ?_
          refine JX.region ?_
          refine JL.val (yl_assign rfl) rfl ?_
          refine JL.nil ?_
          refine JE.code ?_
          refine JX.ret ?_
          refine JE.qbr ?_
          refine JE.qbr ?_
          have hres := elimS_inr hresO1 (hox1 _ (Option.some.inj hres).symm)
          obtain rfl := Option.some.inj hres
          refine JE.ret (rs := [.tmp 2]) (vs := [.bool false]) rfl ⟨rfl, trivial⟩ ?_
          exact fun w' hb hs => ⟨_, _, ⟨rfl, rfl⟩, rfl, hb, hs.sel [] _ (by decide) rfl⟩
        · refine JX.condF rfl hb ?_
          refine JX.skip ?_
          refine JE.code ?_
          refine JX.region ?_
          refine JL.val (yl_move rfl) rfl ?_
          refine JL.val (yl_add rfl rfl) rfl ?_
          refine JL.val (yl_assign rfl) rfl ?_
          refine JL.nil ?_
          refine JE.cont hres ?_
          exact fun a w h => h.weak ⟨rfl, rfl, trivial⟩ [] (by decide) rfl
      · intro K
        rcases cond_some hc6 with ⟨hb, hres⟩ | ⟨hb, hres⟩
        · refine JL.set (d := 28) (v := .bool true) (congrArg (fun b => some (Value.bool b)) hb) ?_
          refine JL.gskip rfl rfl rfl rfl ?_
          refine JL.gskip rfl rfl rfl rfl ?_
          refine JL.gskip rfl rfl rfl rfl ?_
          refine JL.gskip rfl rfl rfl rfl ?_
          refine JL.gskip rfl rfl rfl rfl ?_
          refine JL.gskip rfl rfl rfl rfl ?_
          refine JL.val (yl_pick_true rfl rfl) rfl ?_
          have he := Option.some.inj hres
          exact JL.weak [] K ⟨rfl, rfl, (by rw [← he]; rfl), trivial⟩ (by decide) rfl
        · refine JL.set (d := 28) (v := .bool false) (congrArg (fun b => some (Value.bool b)) hb) ?_
          refine JL.gval rfl rfl (yl_move rfl) rfl ?_
          refine JL.gval rfl rfl (yl_nilCheckT rfl hx2 (fun w hC => rd_arg g_0 hC)) rfl ?_
          refine JL.gval rfl rfl (yl_fieldAtT Go.Proofs.Try.underlying97 rfl i2 i2n rfl hx2 (fun w hC => rd_arg g_0 hC)) rfl ?_
          refine JL.gval rfl rfl (yl_loadT1 Go.Proofs.Try.underlying2 rfl rfl hx2 (fun w hC => rd_arg g_0 hC) rfl) rfl ?_
          obtain ⟨x7, hx7, hres⟩ := bind_some hres
          refine JL.geff rfl rfl (ef_call (T := T115 x7) Go.Proofs.Try.func115 rfl (by kernel_rfl) rfl (fun w hC => c115  hx7)) rfl ?_
          rintro _ _ ⟨_, ⟨rfl, rfl⟩, rfl⟩
          refine JL.gval rfl rfl (yl_not rfl) rfl ?_
          refine JL.val (yl_pick_false rfl rfl) rfl ?_
          have he := Option.some.inj hres
          exact JL.weak [] K ⟨rfl, rfl, (by rw [← he]; rfl), trivial⟩ (by decide) rfl
    · intro K
      rcases cond_some hc4 with ⟨hb, hres⟩ | ⟨hb, hres⟩
      · refine JL.set (d := 20) (v := .bool true) (congrArg (fun b => some (Value.bool b)) hb) ?_
        refine JL.gskip rfl rfl rfl rfl ?_
        refine JL.gskip rfl rfl rfl rfl ?_
        refine JL.gskip rfl rfl rfl rfl ?_
        refine JL.gskip rfl rfl rfl rfl ?_
        refine JL.gskip rfl rfl rfl rfl ?_
        refine JL.gskip rfl rfl rfl rfl ?_
        refine JL.val (yl_pick_true rfl rfl) rfl ?_
        have he := Option.some.inj hres
        exact JL.weak [] K ⟨rfl, rfl, rfl, (by rw [← he]; rfl), trivial⟩ (by decide) rfl
      · refine JL.set (d := 20) (v := .bool false) (congrArg (fun b => some (Value.bool b)) hb) ?_
        refine JL.gval rfl rfl (yl_move rfl) rfl ?_
        refine JL.gval rfl rfl (yl_nilCheckT rfl hx2 (fun w hC => rd_arg g_0 hC)) rfl ?_
        refine JL.gval rfl rfl (yl_fieldAtT Go.Proofs.Try.underlying97 rfl i2 i2n rfl hx2 (fun w hC => rd_arg g_0 hC)) rfl ?_
        refine JL.gval rfl rfl (yl_loadT1 Go.Proofs.Try.underlying2 rfl rfl hx2 (fun w hC => rd_arg g_0 hC) rfl) rfl ?_
        obtain ⟨x5, hx5, hres⟩ := bind_some hres
        refine JL.geff rfl rfl (ef_call (T := T115 x5) Go.Proofs.Try.func115 rfl (by kernel_rfl) rfl (fun w hC => c115  hx5)) rfl ?_
        rintro _ _ ⟨_, ⟨rfl, rfl⟩, rfl⟩
        refine JL.gval rfl rfl (yl_not rfl) rfl ?_
        refine JL.val (yl_pick_false rfl rfl) rfl ?_
        have he := Option.some.inj hres
        exact JL.weak [] K ⟨rfl, rfl, rfl, (by rw [← he]; rfl), trivial⟩ (by decide) rfl
  · refine JX.condF rfl hb ?_
    refine JX.exit ?_
    refine JE.qb rfl ?_
    obtain ⟨b1, hb1⟩ : ∃ b : Unit, b = () := ⟨_, rfl⟩
    have hy1 : Sum.inl b1 = y1 := by rw [hb1]; exact hox1 _ (Option.some.inj hres).symm
    have hres := elimS_inl hresO1 hy1
    refine JE.weak (env' := [(0, .slice a_0 q0.length c_0)]) (es' := []) [] ?_ ⟨(by subst hb1; rfl), trivial⟩ (by decide) (by subst hb1; rfl)
    refine JE.code ?_
    refine JX.seq ?_
    refine JX.region ?_
    refine JL.val (yl_move rfl) rfl ?_
    refine JL.val (yl_len_slice Go.Proofs.Try.underlying28 rfl) rfl ?_
    refine JL.val (yl_leq rfl rfl) rfl ?_
    refine JL.val (yl_assign rfl) rfl ?_
    refine JL.nil ?_
    refine JE.weak (env' := [(2, .bool (decide ((q0.length : Int) ≤ 700)))]) (es' := []) [] ?_ ⟨rfl, trivial⟩ (by decide) rfl
    refine JE.code ?_
    refine JX.ret ?_
    obtain rfl := Option.some.inj hres
    refine JE.ret (rs := [.tmp 2]) (vs := [.bool (decide ((q0.length : Int) ≤ 700))]) rfl ⟨rfl, trivial⟩ ?_
    exact fun w' hb hs => ⟨_, _, ⟨rfl, rfl⟩, rfl, hb, hs.sel [] _ (by decide) rfl⟩

/- spec.ReadTool -/
def sh22_1 (x1 : List ByteArray) : (Int × List SToolMove) → Option ((Int × List SToolMove) ⊕ ((List SToolMove) ⊕ (List SToolMove × Bool)))
  | (x11, x12) => bif decide (x11 < (w64 ((x1.length : Int) - 1))) then (Option.bind (getI x1 x11) fun x15 => Option.bind (sh85 x15 32) fun x16 => bif (x16.length : Int) != 3 then (some (.inr (.inr (([] : List SToolMove), false)))) else (Option.bind (getI x16 0) fun x21 => Option.bind (sh86 x21) fun x22 => Option.bind (getI x16 1) fun x23 => Option.bind (sh86 x23) fun x24 => Option.bind (getI x16 2) fun x25 => Option.bind (sh86 x25) fun x26 => bif (!x22.2 || !x24.2) || !x26.2 then (some (.inr (.inr (([] : List SToolMove), false)))) else (Option.bind (appL x12 [SToolMove.mk x22.1 x24.1 x26.1]) fun x30 => some (.inl (w64 (x11 + 1), x30))))) else (some (.inr (.inl x12)))
def sh22 (q0 : ByteArray) : Option (List SToolMove × Bool) := Option.bind (sh85 q0 10) fun x1 => Option.bind (getI x1 (w64 ((x1.length : Int) - 1))) fun x7 => bif (!(x7.toList == (ByteArray.mk #[]).toList)) || (decide (701 < (x1.length : Int))) then (some (([] : List SToolMove), false)) else (Option.bind (iter (sh22_1 x1) (0, ([] : List SToolMove))) fun y1 => elimS y1 (fun r => some r) fun b1 => (Option.bind (sh91 b1) fun x35 => bif !x35 then (some (([] : List SToolMove), false)) else (some (b1, true))))
def T22 (r : List SToolMove × Bool) (v : Value) (rs : List Own) : Prop := ∃ (a0 : Option Addr) (n0 c0 : Nat), r.1.length = n0 ∧ v = rets [.slice a0 n0 c0, .bool r.2] ∧ rs = [rowT 97 eSToolMove a0 n0 c0 r.1]
set_option maxRecDepth 100000 in
set_option maxHeartbeats 1000000 in
theorem c22 {w : World} {q0 : ByteArray} {r : List SToolMove × Bool} (hres : sh22 q0 = some r) : Calls Go.Proofs.Try.prog 22 [.string q0].toArray w (Ret w (T22 r)) := by
  unfold sh22 at hres
  refine calls_of (n := 86) (M := []) (es := []) Go.Proofs.Try.func22 rfl rfl rfl (Sep.nil _ _ _) ?_
  refine JX.seq ?_
  refine JX.region ?_
  refine JL.val (yl_assign rfl) rfl ?_
  refine JL.val (yl_assign rfl) rfl ?_
  refine JL.nil ?_
  refine JE.code ?_
  refine JX.seq ?_
  refine JX.region ?_
  refine JL.val (yl_move rfl) rfl ?_
  obtain ⟨x1, hx1, hres⟩ := bind_some hres
  refine JL.eff (ef_call (T := T85 x1) Go.Proofs.Try.func85 rfl (by kernel_rfl) rfl (fun w hC => c85  hx1)) rfl ?_
  rintro _ _ ⟨_, ⟨a2, _, cp3, rfl, rfl, rfl⟩, rfl⟩
  refine JL.val (yl_assign rfl) rfl ?_
  refine JL.nil ?_
  refine JE.code ?_
  refine JX.seq ?_
  refine JX.region ?_
  refine JL.eff (ef_buildSlice (E := 97) (k := eSToolMove.k) (us := eSToolMove.fl ([] : List SToolMove)) rfl (fun w => bsl28_0  w) rfl (by decide)) rfl ?_
  rintro _ _ ⟨a5, rfl, rfl⟩
  refine JL.val (yl_assign rfl) rfl ?_
  refine JL.nil ?_
  refine JE.code ?_
  refine JX.seq ?_
  refine JX.seq ?_
  refine JX.region ?_
  refine JL.val (yl_move rfl) rfl ?_
  refine JL.val (yl_move rfl) rfl ?_
  refine JL.val (yl_len_slice Go.Proofs.Try.underlying49 rfl) rfl ?_
  refine JL.val (yl_sub rfl rfl) rfl ?_
  obtain ⟨x7, hx7, hres⟩ := bind_some hres
  refine JL.val (yl_idxT Go.Proofs.Try.underlying49 i9 i9s rfl rfl hx7 rfl (fun w hC => rd_row hC 0 rfl)) rfl ?_
  refine JL.val (yl_loadT0 Go.Proofs.Try.underlying9 rfl rfl hx7 (fun w hC => rd_row hC 0 rfl) rfl) rfl ?_
  refine JL.val (yl_sneq rfl rfl) rfl ?_
  refine JL.val (yl_move rfl) rfl ?_
  refine JL.cut (K := fun J => J [(4, .slice a2 x1.length cp3), (5, .slice a5 0 0), (28, .bool ((!(x7.toList == (ByteArray.mk #[]).toList)) || (decide (701 < (x1.length : Int)))))] [rowT 9 eStr a2 x1.length cp3 x1, rowT 97 eSToolMove a5 0 0 ([] : List SToolMove)]) 4 ?_ ?_
  · refine JL.nil ?_
    refine JE.weak (env' := [(4, .slice a2 x1.length cp3), (5, .slice a5 0 0), (28, .bool ((!(x7.toList == (ByteArray.mk #[]).toList)) || (decide (701 < (x1.length : Int)))))]) (es' := [rowT 9 eStr a2 x1.length cp3 x1, rowT 97 eSToolMove a5 0 0 ([] : List SToolMove)]) [0, 1] ?_ ⟨rfl, rfl, rfl, trivial⟩ (by decide) rfl
    refine JE.code ?_
    rcases cond_some hres with ⟨hb, hres⟩ | ⟨hb, hres⟩
    · refine JX.condT rfl hb ?_
      refine JX.seq ?_
      refine JX.region ?_
      refine JL.val (yl_assign rfl) rfl ?_
      refine JL.val (yl_assign rfl) rfl ?_
      refine JL.nil ?_
      refine JE.weak (env' := [(2, .slice none 0 0), (3, .bool false)]) (es' := []) [] ?_ ⟨rfl, rfl, trivial⟩ (by decide) rfl
      refine JE.code ?_
      refine JX.ret ?_
      refine JE.nilrow 97 eSToolMove ?_
      obtain rfl := Option.some.inj hres
      refine JE.ret (rs := [.tmp 2, .tmp 3]) (vs := [.slice none 0 0, .bool false]) rfl ⟨rfl, rfl, trivial⟩ ?_
      exact fun w' hb hs => ⟨_, _, ⟨none, 0, 0, rfl, rfl, rfl⟩, rfl, hb, hs.sel [0] _ (by decide) rfl⟩
    · refine JX.condF rfl hb ?_
      refine JX.skip ?_
      refine JE.code ?_
      refine JX.seq ?_
      refine JX.seq ?_
      refine JX.region ?_
      refine JL.val (yl_assign rfl) rfl ?_
      refine JL.nil ?_
      refine JE.code ?_
      refine JX.block ?_
      obtain ⟨y1, hy1, hresO1⟩ := bind_some hres
      refine JX.loop (I := fun (s1 : Int × List SToolMove) aa ww => ∃ (a9 : Option Addr) (cp10 : Nat), St w [] 86 [(4, .slice a2 x1.length cp3), (5, .slice a9 s1.2.length cp10), (6, .int .i64 s1.1)] [rowT 9 eStr a2 x1.length cp3 x1, rowT 97 eSToolMove a9 s1.2.length cp10 s1.2] aa ww) (sh22_1 x1) hy1 (fun a w h => ⟨a5, 0, h.weak ⟨rfl, rfl, rfl, trivial⟩ [0, 1] (by decide) rfl⟩) ?_
      rintro ⟨x11, x12⟩ o1 hres hox1 aa ww ⟨a13, cp14, hS⟩
      refine (?_ : JX Go.Proofs.Try.prog w [] 86 _ _ [(4, .slice a2 x1.length cp3), (5, .slice a13 x12.length cp14), (6, .int .i64 x11)] [rowT 9 eStr a2 x1.length cp3 x1, rowT 97 eSToolMove a13 x12.length cp14 x12] _) aa ww hS
      clear hS
      simp only [sh22_1] at hres
      refine JX.seq ?_
      refine JX.seq ?_
      refine JX.region ?_
      refine JL.val (yl_move rfl) rfl ?_
      refine JL.val (yl_move rfl) rfl ?_
      refine JL.val (yl_len_slice Go.Proofs.Try.underlying49 rfl) rfl ?_
      refine JL.val (yl_sub rfl rfl) rfl ?_
      refine JL.val (yl_lss rfl rfl) rfl ?_
      refine JL.nil ?_
      refine JE.weak (env' := [(4, .slice a2 x1.length cp3), (5, .slice a13 x12.length cp14), (6, .int .i64 x11), (33, .bool (decide (x11 < (w64 ((x1.length : Int) - 1)))))]) (es' := [rowT 9 eStr a2 x1.length cp3 x1, rowT 97 eSToolMove a13 x12.length cp14 x12]) [0, 1] ?_ ⟨rfl, rfl, rfl, rfl, trivial⟩ (by decide) rfl
      refine JE.code ?_
      rcases cond_some hres with ⟨hb, hres⟩ | ⟨hb, hres⟩
      · refine JX.condT rfl hb ?_
        refine JX.skip ?_
        refine JE.code ?_
        refine JX.seq ?_
        refine JX.block ?_
        refine JX.seq ?_
        refine JX.region ?_
        refine JL.val (yl_move rfl) rfl ?_
        refine JL.val (yl_move rfl) rfl ?_
        obtain ⟨x15, hx15, hres⟩ := bind_some hres
        refine JL.val (yl_idxT Go.Proofs.Try.underlying49 i9 i9s rfl rfl hx15 rfl (fun w hC => rd_row hC 0 rfl)) rfl ?_
        refine JL.val (yl_loadT0 Go.Proofs.Try.underlying9 rfl rfl hx15 (fun w hC => rd_row hC 0 rfl) rfl) rfl ?_
        obtain ⟨x16, hx16, hres⟩ := bind_some hres
        refine JL.eff (ef_call (T := T85 x16) Go.Proofs.Try.func85 rfl (by kernel_rfl) rfl (fun w hC => c85  hx16)) rfl ?_
        rintro _ _ ⟨_, ⟨a17, _, cp18, rfl, rfl, rfl⟩, rfl⟩
        refine JL.val (yl_assign rfl) rfl ?_
        refine JL.nil ?_
        refine JE.weak (env' := [(4, .slice a2 x1.length cp3), (5, .slice a13 x12.length cp14), (6, .int .i64 x11), (7, .slice a17 x16.length cp18)]) (es' := [rowT 9 eStr a2 x1.length cp3 x1, rowT 97 eSToolMove a13 x12.length cp14 x12, rowT 9 eStr a17 x16.length cp18 x16]) [0, 1, 2] ?_ ⟨rfl, rfl, rfl, rfl, trivial⟩ (by decide) rfl
        refine JE.code ?_
        refine JX.seq ?_
        refine JX.seq ?_
        refine JX.region ?_
        refine JL.val (yl_move rfl) rfl ?_
        refine JL.val (yl_len_slice Go.Proofs.Try.underlying49 rfl) rfl ?_
        refine JL.val (yl_neq rfl rfl) rfl ?_
        refine JL.nil ?_
        refine JE.code ?_
        rcases cond_some hres with ⟨hb, hres⟩ | ⟨hb, hres⟩
        · refine JX.condT rfl hb ?_
          refine JX.seq ?_
          refine JX.region ?_
          refine JL.val (yl_assign rfl) rfl ?_
          refine JL.val (yl_assign rfl) rfl ?_
          refine JL.nil ?_
          refine JE.weak (env' := [(2, .slice none 0 0), (3, .bool false)]) (es' := []) [] ?_ ⟨rfl, rfl, trivial⟩ (by decide) rfl
          refine JE.code ?_
          refine JX.ret ?_
          refine JE.qbr ?_
          refine JE.qbr ?_
          refine JE.nilrow 97 eSToolMove ?_
          have hres := elimS_inr hresO1 (hox1 _ (Option.some.inj hres).symm)
          obtain rfl := Option.some.inj hres
          refine JE.ret (rs := [.tmp 2, .tmp 3]) (vs := [.slice none 0 0, .bool false]) rfl ⟨rfl, rfl, trivial⟩ ?_
          exact fun w' hb hs => ⟨_, _, ⟨none, 0, 0, rfl, rfl, rfl⟩, rfl, hb, hs.sel [0] _ (by decide) rfl⟩
        · refine JX.condF rfl hb ?_
          refine JX.skip ?_
          refine JE.code ?_
          refine JX.seq ?_
          refine JX.region ?_
          refine JL.val (yl_move rfl) rfl ?_
          obtain ⟨x21, hx21, hres⟩ := bind_some hres
          refine JL.val (yl_idxT Go.Proofs.Try.underlying49 i9 i9s rfl rfl hx21 rfl (fun w hC => rd_row hC 2 rfl)) rfl ?_
          refine JL.val (yl_loadT0 Go.Proofs.Try.underlying9 rfl rfl hx21 (fun w hC => rd_row hC 2 rfl) rfl) rfl ?_
          obtain ⟨x22, hx22, hres⟩ := bind_some hres
          refine JL.eff (ef_call (T := T86 x22) Go.Proofs.Try.func86 rfl (by kernel_rfl) rfl (fun w hC => c86  hx22)) rfl ?_
          rintro _ _ ⟨_, ⟨rfl, rfl⟩, rfl⟩
          refine JL.val (yl_move rfl) rfl ?_
          refine JL.val (yl_extract rfl rfl) rfl ?_
          refine JL.val (yl_extract rfl rfl) rfl ?_
          refine JL.val (yl_assign rfl) rfl ?_
          refine JL.val (yl_assign rfl) rfl ?_
          refine JL.nil ?_
          refine JE.weak (env' := [(4, .slice a2 x1.length cp3), (5, .slice a13 x12.length cp14), (6, .int .i64 x11), (7, .slice a17 x16.length cp18), (8, .int .i64 x22.1), (9, .bool x22.2)]) (es' := [rowT 9 eStr a2 x1.length cp3 x1, rowT 97 eSToolMove a13 x12.length cp14 x12, rowT 9 eStr a17 x16.length cp18 x16]) [0, 1, 2] ?_ ⟨rfl, rfl, rfl, rfl, rfl, rfl, trivial⟩ (by decide) rfl
          refine JE.code ?_
          refine JX.seq ?_
          refine JX.region ?_
          refine JL.val (yl_move rfl) rfl ?_
          obtain ⟨x23, hx23, hres⟩ := bind_some hres
          refine JL.val (yl_idxT Go.Proofs.Try.underlying49 i9 i9s rfl rfl hx23 rfl (fun w hC => rd_row hC 2 rfl)) rfl ?_
          refine JL.val (yl_loadT0 Go.Proofs.Try.underlying9 rfl rfl hx23 (fun w hC => rd_row hC 2 rfl) rfl) rfl ?_
          obtain ⟨x24, hx24, hres⟩ := bind_some hres
          refine JL.eff (ef_call (T := T86 x24) Go.Proofs.Try.func86 rfl (by kernel_rfl) rfl (fun w hC => c86  hx24)) rfl ?_
          rintro _ _ ⟨_, ⟨rfl, rfl⟩, rfl⟩
          refine JL.val (yl_move rfl) rfl ?_
          refine JL.val (yl_extract rfl rfl) rfl ?_
          refine JL.val (yl_extract rfl rfl) rfl ?_
          refine JL.val (yl_assign rfl) rfl ?_
          refine JL.val (yl_assign rfl) rfl ?_
          refine JL.nil ?_
          refine JE.weak (env' := [(4, .slice a2 x1.length cp3), (5, .slice a13 x12.length cp14), (6, .int .i64 x11), (7, .slice a17 x16.length cp18), (8, .int .i64 x22.1), (9, .bool x22.2), (10, .int .i64 x24.1), (11, .bool x24.2)]) (es' := [rowT 9 eStr a2 x1.length cp3 x1, rowT 97 eSToolMove a13 x12.length cp14 x12, rowT 9 eStr a17 x16.length cp18 x16]) [0, 1, 2] ?_ ⟨rfl, rfl, rfl, rfl, rfl, rfl, rfl, rfl, trivial⟩ (by decide) rfl
          refine JE.code ?_
          refine JX.seq ?_
          refine JX.region ?_
          refine JL.val (yl_move rfl) rfl ?_
          obtain ⟨x25, hx25, hres⟩ := bind_some hres
          refine JL.val (yl_idxT Go.Proofs.Try.underlying49 i9 i9s rfl rfl hx25 rfl (fun w hC => rd_row hC 2 rfl)) rfl ?_
          refine JL.val (yl_loadT0 Go.Proofs.Try.underlying9 rfl rfl hx25 (fun w hC => rd_row hC 2 rfl) rfl) rfl ?_
          obtain ⟨x26, hx26, hres⟩ := bind_some hres
          refine JL.eff (ef_call (T := T86 x26) Go.Proofs.Try.func86 rfl (by kernel_rfl) rfl (fun w hC => c86  hx26)) rfl ?_
          rintro _ _ ⟨_, ⟨rfl, rfl⟩, rfl⟩
          refine JL.val (yl_move rfl) rfl ?_
          refine JL.val (yl_extract rfl rfl) rfl ?_
          refine JL.val (yl_extract rfl rfl) rfl ?_
          refine JL.val (yl_assign rfl) rfl ?_
          refine JL.val (yl_assign rfl) rfl ?_
          refine JL.nil ?_
          refine JE.weak (env' := [(4, .slice a2 x1.length cp3), (5, .slice a13 x12.length cp14), (6, .int .i64 x11), (8, .int .i64 x22.1), (9, .bool x22.2), (10, .int .i64 x24.1), (11, .bool x24.2), (12, .int .i64 x26.1), (13, .bool x26.2)]) (es' := [rowT 9 eStr a2 x1.length cp3 x1, rowT 97 eSToolMove a13 x12.length cp14 x12]) [0, 1] ?_ ⟨rfl, rfl, rfl, rfl, rfl, rfl, rfl, rfl, rfl, trivial⟩ (by decide) rfl
          refine JE.code ?_
          refine JX.seq ?_
          refine JX.seq ?_
          refine JX.region ?_
          refine JL.val (yl_move rfl) rfl ?_
          refine JL.val (yl_not rfl) rfl ?_
          refine JL.val (yl_move rfl) rfl ?_
          refine JL.cut (K := fun J => J [(4, .slice a2 x1.length cp3), (5, .slice a13 x12.length cp14), (6, .int .i64 x11), (8, .int .i64 x22.1), (10, .int .i64 x24.1), (12, .int .i64 x26.1), (13, .bool x26.2), (70, .bool (!x22.2 || !x24.2))] [rowT 9 eStr a2 x1.length cp3 x1, rowT 97 eSToolMove a13 x12.length cp14 x12]) 3 ?_ ?_
          · refine JL.val (yl_move rfl) rfl ?_
            refine JL.cut (K := fun J => J [(4, .slice a2 x1.length cp3), (5, .slice a13 x12.length cp14), (6, .int .i64 x11), (8, .int .i64 x22.1), (10, .int .i64 x24.1), (12, .int .i64 x26.1), (74, .bool ((!x22.2 || !x24.2) || !x26.2))] [rowT 9 eStr a2 x1.length cp3 x1, rowT 97 eSToolMove a13 x12.length cp14 x12]) 3 ?_ ?_
            · refine JL.nil ?_
              refine JE.weak (env' := [(4, .slice a2 x1.length cp3), (5, .slice a13 x12.length cp14), (6, .int .i64 x11), (8, .int .i64 x22.1), (10, .int .i64 x24.1), (12, .int .i64 x26.1), (74, .bool ((!x22.2 || !x24.2) || !x26.2))]) (es' := [rowT 9 eStr a2 x1.length cp3 x1, rowT 97 eSToolMove a13 x12.length cp14 x12]) [0, 1] ?_ ⟨rfl, rfl, rfl, rfl, rfl, rfl, rfl, trivial⟩ (by decide) rfl
              refine JE.code ?_
              rcases cond_some hres with ⟨hb, hres⟩ | ⟨hb, hres⟩
              · refine JX.condT rfl hb ?_
                refine JX.seq ?_
                refine JX.region ?_
                refine JL.val (yl_assign rfl) rfl ?_
                refine JL.val (yl_assign rfl) rfl ?_
                refine JL.nil ?_
                refine JE.weak (env' := [(2, .slice none 0 0), (3, .bool false)]) (es' := []) [] ?_ ⟨rfl, rfl, trivial⟩ (by decide) rfl
                refine JE.code ?_
                refine JX.ret ?_
                refine JE.qbr ?_
                refine JE.qbr ?_
                refine JE.nilrow 97 eSToolMove ?_
                have hres := elimS_inr hresO1 (hox1 _ (Option.some.inj hres).symm)
                obtain rfl := Option.some.inj hres
                refine JE.ret (rs := [.tmp 2, .tmp 3]) (vs := [.slice none 0 0, .bool false]) rfl ⟨rfl, rfl, trivial⟩ ?_
                exact fun w' hb hs => ⟨_, _, ⟨none, 0, 0, rfl, rfl, rfl⟩, rfl, hb, hs.sel [0] _ (by decide) rfl⟩
              · refine JX.condF rfl hb ?_
                refine JX.skip ?_
                refine JE.code ?_
                refine JX.region ?_
                refine JL.val (yl_move rfl) rfl ?_
                refine JL.val (yl_move rfl) rfl ?_
                refine JL.val (yl_move rfl) rfl ?_
                refine JL.val (yl_move rfl) rfl ?_
                refine JL.val (yl_build rfl (fun w => bld97_0_1_2 x22.1 x24.1 x26.1 w)) rfl ?_
                refine JL.eff (ef_buildSlice (E := 97) (k := eSToolMove.k) (us := eSToolMove.fl [SToolMove.mk x22.1 x24.1 x26.1]) rfl (fun w => bsl28_1 x22.1 x24.1 x26.1 w) rfl (by decide)) rfl ?_
                rintro _ _ ⟨a28, rfl, rfl⟩
                obtain ⟨x30, hx30, hres⟩ := bind_some hres
                refine JL.eff (ef_appendT (ix := 1) Go.Proofs.Try.underlying28 i97 i97z i97s rfl i97b0 i97b1 rfl rfl rfl rfl rfl (fun w hC => rd_row hC 2 rfl) hx30) rfl ?_
                rintro _ _ ⟨a31, cp32, rfl, rfl⟩
                refine JL.val (yl_assign rfl) rfl ?_
                refine JL.nil ?_
                refine JE.weak (env' := [(4, .slice a2 x1.length cp3), (5, .slice a31 x30.length cp32), (6, .int .i64 x11)]) (es' := [rowT 9 eStr a2 x1.length cp3 x1, rowT 97 eSToolMove a31 x30.length cp32 x30]) [0, 1] ?_ ⟨rfl, rfl, rfl, trivial⟩ (by decide) rfl
                refine JE.code ?_
                refine JX.region ?_
                refine JL.val (yl_move rfl) rfl ?_
                refine JL.val (yl_add rfl rfl) rfl ?_
                refine JL.val (yl_assign rfl) rfl ?_
                refine JL.nil ?_
                refine JE.cont hres ?_
                exact fun a w h => ⟨a31, cp32, h.weak ⟨rfl, rfl, rfl, trivial⟩ [0, 1] (by decide) rfl⟩
            · intro K
              rcases Bool.eq_false_or_eq_true (!x22.2 || !x24.2) with hb | hb
              · refine JL.set (d := 71) (v := .bool true) (congrArg (fun b => some (Value.bool b)) hb) ?_
                refine JL.gskip rfl rfl rfl rfl ?_
                refine JL.gskip rfl rfl rfl rfl ?_
                refine JL.val (yl_pick_true rfl rfl) rfl ?_
                exact JL.weak [0, 1] K ⟨rfl, rfl, rfl, rfl, rfl, rfl, (by rw [hb]; rfl), trivial⟩ (by decide) rfl
              · refine JL.set (d := 71) (v := .bool false) (congrArg (fun b => some (Value.bool b)) hb) ?_
                refine JL.gval rfl rfl (yl_move rfl) rfl ?_
                refine JL.gval rfl rfl (yl_not rfl) rfl ?_
                refine JL.val (yl_pick_false rfl rfl) rfl ?_
                exact JL.weak [0, 1] K ⟨rfl, rfl, rfl, rfl, rfl, rfl, (by rw [hb]; rfl), trivial⟩ (by decide) rfl
          · intro K
            rcases Bool.eq_false_or_eq_true (!x22.2) with hb | hb
            · refine JL.set (d := 67) (v := .bool true) (congrArg (fun b => some (Value.bool b)) hb) ?_
              refine JL.gskip rfl rfl rfl rfl ?_
              refine JL.gskip rfl rfl rfl rfl ?_
              refine JL.val (yl_pick_true rfl rfl) rfl ?_
              exact JL.weak [0, 1] K ⟨rfl, rfl, rfl, rfl, rfl, rfl, rfl, (by rw [hb]; rfl), trivial⟩ (by decide) rfl
            · refine JL.set (d := 67) (v := .bool false) (congrArg (fun b => some (Value.bool b)) hb) ?_
              refine JL.gval rfl rfl (yl_move rfl) rfl ?_
              refine JL.gval rfl rfl (yl_not rfl) rfl ?_
              refine JL.val (yl_pick_false rfl rfl) rfl ?_
              exact JL.weak [0, 1] K ⟨rfl, rfl, rfl, rfl, rfl, rfl, rfl, (by rw [hb]; rfl), trivial⟩ (by decide) rfl
      · refine JX.condF rfl hb ?_
        refine JX.exit ?_
        refine JE.qb rfl ?_
        obtain ⟨b1, hb1⟩ : ∃ b : List SToolMove, b = x12 := ⟨_, rfl⟩
        have hy1 : Sum.inl b1 = y1 := by rw [hb1]; exact hox1 _ (Option.some.inj hres).symm
        have hres := elimS_inl hresO1 hy1
        refine JE.weak (env' := [(5, .slice a13 b1.length cp14)]) (es' := [rowT 97 eSToolMove a13 b1.length cp14 b1]) [1] ?_ ⟨(by subst hb1; rfl), trivial⟩ (by decide) (by subst hb1; rfl)
        refine JE.code ?_
        refine JX.seq ?_
        refine JX.seq ?_
        refine JX.region ?_
        refine JL.val (yl_move rfl) rfl ?_
        obtain ⟨x35, hx35, hres⟩ := bind_some hres
        refine JL.eff (ef_call (T := T91 x35) Go.Proofs.Try.func91 rfl (by kernel_rfl) rfl (fun w hC => c91 (rd_row hC 0 rfl) rfl (ln_row hC 0 rfl) hx35)) rfl ?_
        rintro _ _ ⟨_, ⟨rfl, rfl⟩, rfl⟩
        refine JL.val (yl_not rfl) rfl ?_
        refine JL.nil ?_
        refine JE.code ?_
        rcases cond_some hres with ⟨hb, hres⟩ | ⟨hb, hres⟩
        · refine JX.condT rfl hb ?_
          refine JX.seq ?_
          refine JX.region ?_
          refine JL.val (yl_assign rfl) rfl ?_
          refine JL.val (yl_assign rfl) rfl ?_
          refine JL.nil ?_
          refine JE.weak (env' := [(2, .slice none 0 0), (3, .bool false)]) (es' := []) [] ?_ ⟨rfl, rfl, trivial⟩ (by decide) rfl
          refine JE.code ?_
          refine JX.ret ?_
          refine JE.nilrow 97 eSToolMove ?_
          obtain rfl := Option.some.inj hres
          refine JE.ret (rs := [.tmp 2, .tmp 3]) (vs := [.slice none 0 0, .bool false]) rfl ⟨rfl, rfl, trivial⟩ ?_
          exact fun w' hb hs => ⟨_, _, ⟨none, 0, 0, rfl, rfl, rfl⟩, rfl, hb, hs.sel [0] _ (by decide) rfl⟩
        · refine JX.condF rfl hb ?_
          refine JX.skip ?_
          refine JE.code ?_
          refine JX.seq ?_
          refine JX.region ?_
          refine JL.val (yl_move rfl) rfl ?_
          refine JL.val (yl_assign rfl) rfl ?_
          refine JL.val (yl_assign rfl) rfl ?_
          refine JL.nil ?_
          refine JE.code ?_
          refine JX.ret ?_
          obtain rfl := Option.some.inj hres
          refine JE.ret (rs := [.tmp 2, .tmp 3]) (vs := [.slice a13 b1.length cp14, .bool true]) rfl ⟨rfl, rfl, trivial⟩ ?_
          exact fun w' hb hs => ⟨_, _, ⟨a13, b1.length, cp14, rfl, rfl, rfl⟩, rfl, hb, hs.sel [0] _ (by decide) rfl⟩
  · intro K
    rcases Bool.eq_false_or_eq_true (!(x7.toList == (ByteArray.mk #[]).toList)) with hb | hb
    · refine JL.set (d := 24) (v := .bool true) (congrArg (fun b => some (Value.bool b)) hb) ?_
      refine JL.gskip rfl rfl rfl rfl ?_
      refine JL.gskip rfl rfl rfl rfl ?_
      refine JL.gskip rfl rfl rfl rfl ?_
      refine JL.val (yl_pick_true rfl rfl) rfl ?_
      exact JL.weak [0, 1] K ⟨rfl, rfl, (by rw [hb]; rfl), trivial⟩ (by decide) rfl
    · refine JL.set (d := 24) (v := .bool false) (congrArg (fun b => some (Value.bool b)) hb) ?_
      refine JL.gval rfl rfl (yl_move rfl) rfl ?_
      refine JL.gval rfl rfl (yl_len_slice Go.Proofs.Try.underlying49 rfl) rfl ?_
      refine JL.gval rfl rfl (yl_gtr rfl rfl) rfl ?_
      refine JL.val (yl_pick_false rfl rfl) rfl ?_
      exact JL.weak [0, 1] K ⟨rfl, rfl, (by rw [hb]; rfl), trivial⟩ (by decide) rfl

/- impl.splitAt -/
def sh80_1 (q0 : ByteArray) (q1 : Int) : (Int × Int × List ByteArray) → Option ((Int × Int × List ByteArray) ⊕ (Int × List ByteArray))
  | (x5, x6, x7) => bif decide (x6 < (q0.size : Int)) then (Option.bind (getS q0 x6) fun x10 => Option.bind (bif x10 == q1 then (Option.bind (subS q0 x5 x6) fun x14 => Option.bind (appL x7 [x14]) fun x17 => some (w64 (x6 + 1), x17)) else (some (x5, x7))) fun j11 => (some (.inl (j11.1, w64 (x6 + 1), j11.2)))) else (some (.inr (x5, x7)))
def sh80 (q0 : ByteArray) (q1 : Int) : Option (List ByteArray) := Option.bind (iter (sh80_1 q0 q1) (0, 0, ([] : List ByteArray))) fun b1 => (Option.bind (subS q0 b1.1 (q0.size : Int)) fun x22 => Option.bind (appL b1.2 [x22]) fun x25 => some x25)
def T80 (r : List ByteArray) (v : Value) (rs : List Own) : Prop := ∃ (a0 : Option Addr) (n0 c0 : Nat), r.length = n0 ∧ v = rets [.slice a0 n0 c0] ∧ rs = [rowT 9 eStr a0 n0 c0 r]
set_option maxRecDepth 100000 in
theorem c80 {w : World} {q0 : ByteArray} {q1 : Int} {r : List ByteArray} (hres : sh80 q0 q1 = some r) : Calls Go.Proofs.Try.prog 80 [.string q0, .int .u8 q1].toArray w (Ret w (T80 r)) := by
  unfold sh80 at hres
  refine calls_of (n := 35) (M := []) (es := []) Go.Proofs.Try.func80 rfl rfl rfl (Sep.nil _ _ _) ?_
  refine JX.seq ?_
  refine JX.region ?_
  refine JL.val (yl_assign rfl) rfl ?_
  refine JL.nil ?_
  refine JE.code ?_
  refine JX.seq ?_
  refine JX.region ?_
  refine JL.eff (ef_buildSlice (E := 9) (k := eStr.k) (us := eStr.fl ([] : List ByteArray)) rfl (fun w => bsl49_0  w) rfl (by decide)) rfl ?_
  rintro _ _ ⟨a1, rfl, rfl⟩
  refine JL.val (yl_assign rfl) rfl ?_
  refine JL.nil ?_
  refine JE.code ?_
  refine JX.seq ?_
  refine JX.region ?_
  refine JL.val (yl_assign rfl) rfl ?_
  refine JL.nil ?_
  refine JE.code ?_
  refine JX.seq ?_
  refine JX.seq ?_
  refine JX.region ?_
  refine JL.val (yl_move rfl) rfl ?_
  refine JL.val (yl_len_string Go.Proofs.Try.underlying9 rfl) rfl ?_
  refine JL.val (yl_move rfl) rfl ?_
  refine JL.nil ?_
  refine JE.code ?_
  refine JX.block ?_
  obtain ⟨y1, hy1, hresO1⟩ := bind_some hres
  refine JX.loop (I := fun (s1 : Int × Int × List ByteArray) aa ww => ∃ (a3 : Option Addr) (cp4 : Nat), St w [] 35 [(0, .string q0), (1, .int .u8 q1), (5, .slice a3 s1.2.2.length cp4), (6, .int .i64 s1.1), (10, .int .i64 (q0.size : Int)), (11, .int .i64 s1.2.1)] [rowT 9 eStr a3 s1.2.2.length cp4 s1.2.2] aa ww) (sh80_1 q0 q1) hy1 (fun a w h => ⟨a1, 0, h.weak ⟨rfl, rfl, rfl, rfl, rfl, rfl, trivial⟩ [0] (by decide) rfl⟩) ?_
  rintro ⟨x5, x6, x7⟩ o1 hres hox1 aa ww ⟨a8, cp9, hS⟩
  refine (?_ : JX Go.Proofs.Try.prog w [] 35 _ _ [(0, .string q0), (1, .int .u8 q1), (5, .slice a8 x7.length cp9), (6, .int .i64 x5), (10, .int .i64 (q0.size : Int)), (11, .int .i64 x6)] [rowT 9 eStr a8 x7.length cp9 x7] _) aa ww hS
  clear hS
  simp only [sh80_1] at hres
  refine JX.seq ?_
  refine JX.region ?_
  refine JL.val (yl_lss rfl rfl) rfl ?_
  refine JL.nil ?_
  refine JE.code ?_
  refine JX.seq ?_
  rcases cond_some hres with ⟨hb, hres⟩ | ⟨hb, hres⟩
  · refine JX.condT rfl hb ?_
    refine JX.skip ?_
    refine JE.code ?_
    refine JX.seq ?_
    refine JX.block ?_
    refine JX.seq ?_
    refine JX.region ?_
    refine JL.val (yl_move rfl) rfl ?_
    refine JL.val (yl_assign rfl) rfl ?_
    refine JL.nil ?_
    refine JE.code ?_
    refine JX.seq ?_
    refine JX.region ?_
    refine JL.val (yl_move rfl) rfl ?_
    refine JL.val (yl_move rfl) rfl ?_
    obtain ⟨x10, hx10, hres⟩ := bind_some hres
    refine JL.val (yl_getS Go.Proofs.Try.underlying9 rfl rfl hx10) rfl ?_
    refine JL.val (yl_move rfl) rfl ?_
    refine JL.val (yl_eql rfl rfl) rfl ?_
    refine JL.nil ?_
    refine JE.weak (env' := [(0, .string q0), (1, .int .u8 q1), (5, .slice a8 x7.length cp9), (6, .int .i64 x5), (7, .int .i64 x6), (10, .int .i64 (q0.size : Int)), (11, .int .i64 x6), (18, .bool (x10 == q1))]) (es' := [rowT 9 eStr a8 x7.length cp9 x7]) [0] ?_ ⟨rfl, rfl, rfl, rfl, rfl, rfl, rfl, rfl, trivial⟩ (by decide) rfl
    refine JE.code ?_
    obtain ⟨j11, hj11, hresj11⟩ := bind_some hres
    refine JX.cut (K := fun J => ∀ (a12 : Option Addr) (cp13 : Nat), J [(0, .string q0), (1, .int .u8 q1), (5, .slice a12 j11.2.length cp13), (6, .int .i64 j11.1), (10, .int .i64 (q0.size : Int)), (11, .int .i64 x6)] [rowT 9 eStr a12 j11.2.length cp13 j11.2]) ?_ ?_
    · intro a12 cp13
      have hres := hresj11
      refine JE.code ?_
      refine JX.region ?_
      refine JL.val (yl_add rfl rfl) rfl ?_
      refine JL.val (yl_move rfl) rfl ?_
      refine JL.nil ?_
      refine JE.cont hres ?_
      exact fun a w h => ⟨a12, cp13, h.weak ⟨rfl, rfl, rfl, rfl, rfl, rfl, trivial⟩ [0] (by decide) rfl⟩
    · intro K
      rcases cond_some hj11 with ⟨hb, hres⟩ | ⟨hb, hres⟩
      · refine JX.condT rfl hb ?_
        refine JX.seq ?_
        refine JX.region ?_
        refine JL.val (yl_move rfl) rfl ?_
        refine JL.val (yl_move rfl) rfl ?_
        refine JL.val (yl_move rfl) rfl ?_
        refine JL.val (yl_move rfl) rfl ?_
        obtain ⟨x14, hx14, hres⟩ := bind_some hres
        refine JL.val (yl_subSlh Go.Proofs.Try.underlying9 rfl rfl rfl hx14) rfl ?_
        refine JL.eff (ef_buildSlice (E := 9) (k := eStr.k) (us := eStr.fl [x14]) rfl (fun w => bsl49_1 x14 w) rfl (by decide)) rfl ?_
        rintro _ _ ⟨a15, rfl, rfl⟩
        obtain ⟨x17, hx17, hres⟩ := bind_some hres
        refine JL.eff (ef_appendT (ix := 0) Go.Proofs.Try.underlying49 i9 i9z i9s rfl i9b0 i9b1 rfl rfl rfl rfl rfl (fun w hC => rd_row hC 1 rfl) hx17) rfl ?_
        rintro _ _ ⟨a18, cp19, rfl, rfl⟩
        refine JL.val (yl_assign rfl) rfl ?_
        refine JL.nil ?_
        refine JE.weak (env' := [(0, .string q0), (1, .int .u8 q1), (5, .slice a18 x17.length cp19), (7, .int .i64 x6), (10, .int .i64 (q0.size : Int)), (11, .int .i64 x6)]) (es' := [rowT 9 eStr a18 x17.length cp19 x17]) [0] ?_ ⟨rfl, rfl, rfl, rfl, rfl, rfl, trivial⟩ (by decide) rfl
        refine JE.code ?_
        refine JX.region ?_
        refine JL.val (yl_move rfl) rfl ?_
        refine JL.val (yl_add rfl rfl) rfl ?_
        refine JL.val (yl_assign rfl) rfl ?_
        refine JL.nil ?_
        have hj := Option.some.inj hres
        exact JE.weak [0] (K a18 cp19) ⟨(by subst hj; rfl), (by subst hj; rfl), (by subst hj; rfl), (by subst hj; rfl), (by subst hj; rfl), (by subst hj; rfl), trivial⟩ (by decide) (by subst hj; rfl)
      · refine JX.condF rfl hb ?_
        refine JX.skip ?_
        have hj := Option.some.inj hres
        exact JE.weak [0] (K a8 cp9) ⟨(by subst hj; rfl), (by subst hj; rfl), (by subst hj; rfl), (by subst hj; rfl), (by subst hj; rfl), (by subst hj; rfl), trivial⟩ (by decide) (by subst hj; rfl)
  · refine JX.condF rfl hb ?_
    refine JX.exit ?_
    refine JE.qb rfl ?_
    obtain ⟨b1, hb1⟩ : ∃ b : Int × List ByteArray, b = (x5, x7) := ⟨_, rfl⟩
    have hy1 : b1 = y1 := by rw [hb1]; exact hox1 _ (Option.some.inj hres).symm
    have hres := hresO1
    rw [← hy1] at hres
    refine JE.weak (env' := [(0, .string q0), (5, .slice a8 b1.2.length cp9), (6, .int .i64 b1.1)]) (es' := [rowT 9 eStr a8 b1.2.length cp9 b1.2]) [0] ?_ ⟨(by subst hb1; rfl), (by subst hb1; rfl), (by subst hb1; rfl), trivial⟩ (by decide) (by subst hb1; rfl)
    refine JE.code ?_
    refine JX.seq ?_
    refine JX.region ?_
    refine JL.val (yl_move rfl) rfl ?_
    refine JL.val (yl_move rfl) rfl ?_
    refine JL.val (yl_move rfl) rfl ?_
    obtain ⟨x22, hx22, hres⟩ := bind_some hres
    refine JL.val (yl_subSl Go.Proofs.Try.underlying9 rfl rfl hx22) rfl ?_
    refine JL.eff (ef_buildSlice (E := 9) (k := eStr.k) (us := eStr.fl [x22]) rfl (fun w => bsl49_1 x22 w) rfl (by decide)) rfl ?_
    rintro _ _ ⟨a23, rfl, rfl⟩
    obtain ⟨x25, hx25, hres⟩ := bind_some hres
    refine JL.eff (ef_appendT (ix := 0) Go.Proofs.Try.underlying49 i9 i9z i9s rfl i9b0 i9b1 rfl rfl rfl rfl rfl (fun w hC => rd_row hC 1 rfl) hx25) rfl ?_
    rintro _ _ ⟨a26, cp27, rfl, rfl⟩
    refine JL.val (yl_assign rfl) rfl ?_
    refine JL.nil ?_
    refine JE.weak (env' := [(4, .slice a26 x25.length cp27)]) (es' := [rowT 9 eStr a26 x25.length cp27 x25]) [0] ?_ ⟨rfl, trivial⟩ (by decide) rfl
    refine JE.code ?_
    refine JX.ret ?_
    obtain rfl := Option.some.inj hres
    refine JE.ret (rs := [.tmp 4]) (vs := [.slice a26 x25.length cp27]) rfl ⟨rfl, trivial⟩ ?_
    exact fun w' hb hs => ⟨_, _, ⟨a26, x25.length, cp27, rfl, rfl, rfl⟩, rfl, hb, hs.sel [0] _ (by decide) rfl⟩

/- impl.Decimal -/
def sh109_1 : (Int × Int × List Int) → Option ((Int × Int × List Int) ⊕ (Int × List Int))
  | (x5, x6, x7) => bif decide (0 < x6) then (Option.bind (getI x7 (w64 (x5 - 1))) fun x9 => some (.inl (w64 (x5 - 1), IntKind.u64.wrap (x6.tdiv 10), x7.set (w64 (x5 - 1)).toNat (IntKind.u8.wrap (IntKind.u64.wrap (48 + (x6.tmod 10))))))) else (some (.inr (x5, x7)))
def sh109 (q0 : Int) : Option (ByteArray) := bif q0 == 0 then (some (ByteArray.mk #[48])) else (Option.bind (bif decide (q0 < 0) then (some (IntKind.u64.wrap (0 - (IntKind.u64.wrap (q0))))) else (some (IntKind.u64.wrap (q0)))) fun j3 => (Option.bind (iter (sh109_1) (20, j3, List.replicate 20 (0 : Int))) fun b1 => (Option.bind (bif decide (q0 < 0) then (Option.bind (getI b1.2 (w64 (b1.1 - 1))) fun x15 => some (w64 (b1.1 - 1), b1.2.set (w64 (b1.1 - 1)).toNat 45)) else (some (b1.1, b1.2))) fun j11 => (Option.bind (dropL j11.2 j11.1) fun x13 => some (bytesS x13)))))
def T109 (r : ByteArray) (v : Value) (rs : List Own) : Prop := v = rets [.string r] ∧ rs = []
set_option maxRecDepth 100000 in
theorem c109 {w : World} {q0 : Int} {r : ByteArray} (hres : sh109 q0 = some r) : Calls Go.Proofs.Try.prog 109 [.int .i64 q0].toArray w (Ret w (T109 r)) := by
  unfold sh109 at hres
  refine calls_of (n := 36) (M := []) (es := []) Go.Proofs.Try.func109 rfl rfl rfl (Sep.nil _ _ _) ?_
  refine JX.seq ?_
  refine JX.region ?_
  refine JL.val (yl_assign rfl) rfl ?_
  refine JL.nil ?_
  refine JE.code ?_
  refine JX.seq ?_
  refine JX.seq ?_
  refine JX.region ?_
  refine JL.val (yl_move rfl) rfl ?_
  refine JL.val (yl_eql rfl rfl) rfl ?_
  refine JL.nil ?_
  refine JE.code ?_
  rcases cond_some hres with ⟨hb, hres⟩ | ⟨hb, hres⟩
  · refine JX.condT rfl hb ?_
    refine JX.seq ?_
    refine JX.region ?_
    refine JL.val (yl_assign rfl) rfl ?_
    refine JL.nil ?_
    refine JE.code ?_
    refine JX.ret ?_
    obtain rfl := Option.some.inj hres
    refine JE.ret (rs := [.tmp 2]) (vs := [.string (ByteArray.mk #[48])]) rfl ⟨rfl, trivial⟩ ?_
    exact fun w' hb hs => ⟨_, _, ⟨rfl, rfl⟩, rfl, hb, hs.sel [] _ (by decide) rfl⟩
  · refine JX.condF rfl hb ?_
    refine JX.skip ?_
    refine JE.code ?_
    refine JX.seq ?_
    refine JX.region ?_
    refine JL.val (yl_build rfl (fun w => bld163_  w)) rfl ?_
    refine JL.eff (ef_alloc i163 i163z rfl) rfl ?_
    rintro _ _ ⟨g1, rfl, rfl⟩
    refine JL.boxrow eU8 0 (m := 20) (List.replicate 20 (0 : Int)) rfl rfl (Nat.le_of_ble_eq_true rfl) rfl ?_
    refine JL.eff (ef_storeArr (ix := 0) (ys := List.replicate 20 (0 : Int)) i163 rfl rfl rfl rfl (i163s.trans rfl) i163p rfl) rfl ?_
    rintro _ _ rfl
    refine JL.nil ?_
    refine JE.code ?_
    refine JX.seq ?_
    refine JX.region ?_
    refine JL.val (yl_assign rfl) rfl ?_
    refine JL.nil ?_
    refine JE.code ?_
    refine JX.seq ?_
    refine JX.region ?_
    refine JL.val (yl_move rfl) rfl ?_
    refine JL.val (yl_conv Go.Proofs.Try.underlying2 Go.Proofs.Try.underlying164 rfl) rfl ?_
    refine JL.val (yl_assign rfl) rfl ?_
    refine JL.nil ?_
    refine JE.code ?_
    refine JX.seq ?_
    refine JX.seq ?_
    refine JX.region ?_
    refine JL.val (yl_move rfl) rfl ?_
    refine JL.val (yl_lss rfl rfl) rfl ?_
    refine JL.nil ?_
    refine JE.code ?_
    obtain ⟨j3, hj3, hresj3⟩ := bind_some hres
    refine JX.cut (K := fun J => J [(0, .int .i64 q0), (3, ptrAt (some ⟨g1, 0, none⟩) 0), (4, .int .i64 20), (5, .int .u64 j3)] [rowT 163 eU8 (some ⟨g1, 0, none⟩) 20 20 (List.replicate 20 (0 : Int))]) ?_ ?_
    · have hres := hresj3
      refine JE.code ?_
      refine JX.seq ?_
      refine JX.block ?_
      obtain ⟨y1, hy1, hresO1⟩ := bind_some hres
      refine JX.loop (I := fun (s1 : Int × Int × List Int) aa ww => ∃ (l4 : s1.2.2.length = 20), St w [] 36 [(0, .int .i64 q0), (3, ptrAt (some ⟨g1, 0, none⟩) 0), (4, .int .i64 s1.1), (5, .int .u64 s1.2.1)] [rowT 163 eU8 (some ⟨g1, 0, none⟩) 20 20 s1.2.2] aa ww) (sh109_1) hy1 (fun a w h => ⟨(rfl : (List.replicate 20 (0 : Int)).length = 20), h.weak ⟨rfl, rfl, rfl, rfl, trivial⟩ [0] (by decide) rfl⟩) ?_
      rintro ⟨x5, x6, x7⟩ o1 hres hox1 aa ww ⟨l8, hS⟩
      refine (?_ : JX Go.Proofs.Try.prog w [] 36 _ _ [(0, .int .i64 q0), (3, ptrAt (some ⟨g1, 0, none⟩) 0), (4, .int .i64 x5), (5, .int .u64 x6)] [rowT 163 eU8 (some ⟨g1, 0, none⟩) 20 20 x7] _) aa ww hS
      clear hS
      simp only [sh109_1] at hres
      refine JX.seq ?_
      refine JX.seq ?_
      refine JX.region ?_
      refine JL.val (yl_move rfl) rfl ?_
      refine JL.val (yl_gtr rfl rfl) rfl ?_
      refine JL.nil ?_
      refine JE.code ?_
      rcases cond_some hres with ⟨hb, hres⟩ | ⟨hb, hres⟩
      · refine JX.condT rfl hb ?_
        refine JX.skip ?_
        refine JE.code ?_
        refine JX.block ?_
        refine JX.seq ?_
        refine JX.region ?_
        refine JL.val (yl_move rfl) rfl ?_
        refine JL.val (yl_sub rfl rfl) rfl ?_
        refine JL.val (yl_assign rfl) rfl ?_
        refine JL.nil ?_
        refine JE.code ?_
        refine JX.seq ?_
        refine JX.region ?_
        refine JL.val (yl_move rfl) rfl ?_
        refine JL.val (yl_move rfl) rfl ?_
        refine JL.val (yl_rem rfl rfl (by decide)) rfl ?_
        refine JL.val (yl_add rfl rfl) rfl ?_
        refine JL.val (yl_conv Go.Proofs.Try.underlying164 Go.Proofs.Try.underlying5 rfl) rfl ?_
        obtain ⟨x9, hx9, hres⟩ := bind_some hres
        refine JL.val (yl_idxArr (e := eU8) Go.Proofs.Try.underlying163 i5 i5s rfl rfl hx9 l8) rfl ?_
        refine JL.eff (ef_storeT (ix := 0) (u := IntKind.u8.wrap (IntKind.u64.wrap (48 + (x6.tmod 10)))) i5 i5s rfl rfl rfl hx9 rfl) rfl ?_
        rintro _ _ rfl
        refine JL.nil ?_
        refine JE.weak (env' := [(0, .int .i64 q0), (3, ptrAt (some ⟨g1, 0, none⟩) 0), (4, .int .i64 (w64 (x5 - 1))), (5, .int .u64 x6)]) (es' := [rowT 163 eU8 (some ⟨g1, 0, none⟩) 20 20 (x7.set (w64 (x5 - 1)).toNat (IntKind.u8.wrap (IntKind.u64.wrap (48 + (x6.tmod 10)))))]) [0] ?_ ⟨rfl, rfl, rfl, rfl, trivial⟩ (by decide) rfl
        refine JE.code ?_
        refine JX.region ?_
        refine JL.val (yl_move rfl) rfl ?_
        refine JL.val (yl_quo rfl rfl (by decide)) rfl ?_
        refine JL.val (yl_assign rfl) rfl ?_
        refine JL.nil ?_
        refine JE.cont hres ?_
        exact fun a w h => ⟨(List.length_set.trans l8), h.weak ⟨rfl, rfl, rfl, rfl, trivial⟩ [0] (by decide) rfl⟩
      · refine JX.condF rfl hb ?_
        refine JX.exit ?_
        refine JE.qb rfl ?_
        obtain ⟨b1, hb1⟩ : ∃ b : Int × List Int, b = (x5, x7) := ⟨_, rfl⟩
        have hy1 : b1 = y1 := by rw [hb1]; exact hox1 _ (Option.some.inj hres).symm
        have hres := hresO1
        rw [← hy1] at hres
        have l10 : b1.2.length = 20 := by subst hb1; exact l8
        refine JE.weak (env' := [(0, .int .i64 q0), (3, ptrAt (some ⟨g1, 0, none⟩) 0), (4, .int .i64 b1.1)]) (es' := [rowT 163 eU8 (some ⟨g1, 0, none⟩) 20 20 b1.2]) [0] ?_ ⟨(by subst hb1; rfl), (by subst hb1; rfl), (by subst hb1; rfl), trivial⟩ (by decide) (by subst hb1; rfl)
        refine JE.code ?_
        refine JX.seq ?_
        refine JX.seq ?_
        refine JX.region ?_
        refine JL.val (yl_move rfl) rfl ?_
        refine JL.val (yl_lss rfl rfl) rfl ?_
        refine JL.nil ?_
        refine JE.code ?_
        obtain ⟨j11, hj11, hresj11⟩ := bind_some hres
        refine JX.cut (K := fun J => ∀ (l12 : j11.2.length = 20), J [(3, ptrAt (some ⟨g1, 0, none⟩) 0), (4, .int .i64 j11.1)] [rowT 163 eU8 (some ⟨g1, 0, none⟩) 20 20 j11.2]) ?_ ?_
        · intro l12
          have hres := hresj11
          refine JE.code ?_
          refine JX.seq ?_
          refine JX.region ?_
          refine JL.val (yl_move rfl) rfl ?_
          obtain ⟨x13, hx13, hres⟩ := bind_some hres
          refine JL.val (yl_dropArr (e := eU8) Go.Proofs.Try.underlying163 i5 i5s rfl rfl hx13 l12) rfl ?_
          refine JL.val (yl_bytesT Go.Proofs.Try.underlying78 Go.Proofs.Try.underlying9 Go.Proofs.Try.underlying5 rfl (dropL_len hx13 l12) (fun w hC => Rd.dropT (rd_row hC 0 rfl) hx13 l12 (Nat.le_refl _))) rfl ?_
          refine JL.val (yl_assign rfl) rfl ?_
          refine JL.nil ?_
          refine JE.weak (env' := [(2, .string (bytesS x13))]) (es' := []) [] ?_ ⟨rfl, trivial⟩ (by decide) rfl
          refine JE.code ?_
          refine JX.ret ?_
          obtain rfl := Option.some.inj hres
          refine JE.ret (rs := [.tmp 2]) (vs := [.string (bytesS x13)]) rfl ⟨rfl, trivial⟩ ?_
          exact fun w' hb hs => ⟨_, _, ⟨rfl, rfl⟩, rfl, hb, hs.sel [] _ (by decide) rfl⟩
        · intro K
          rcases cond_some hj11 with ⟨hb, hres⟩ | ⟨hb, hres⟩
          · refine JX.condT rfl hb ?_
            refine JX.seq ?_
            refine JX.region ?_
            refine JL.val (yl_move rfl) rfl ?_
            refine JL.val (yl_sub rfl rfl) rfl ?_
            refine JL.val (yl_assign rfl) rfl ?_
            refine JL.nil ?_
            refine JE.code ?_
            refine JX.region ?_
            refine JL.val (yl_move rfl) rfl ?_
            obtain ⟨x15, hx15, hres⟩ := bind_some hres
            refine JL.val (yl_idxArr (e := eU8) Go.Proofs.Try.underlying163 i5 i5s rfl rfl hx15 l10) rfl ?_
            refine JL.eff (ef_storeT (ix := 0) (u := 45) i5 i5s rfl rfl rfl hx15 rfl) rfl ?_
            rintro _ _ rfl
            refine JL.nil ?_
            have hj := Option.some.inj hres
            exact JE.weak [0] (K (by subst hj; exact (List.length_set.trans l10))) ⟨(by subst hj; rfl), (by subst hj; rfl), trivial⟩ (by decide) (by subst hj; rfl)
          · refine JX.condF rfl hb ?_
            refine JX.skip ?_
            have hj := Option.some.inj hres
            exact JE.weak [0] (K (by subst hj; exact l10)) ⟨(by subst hj; rfl), (by subst hj; rfl), trivial⟩ (by decide) (by subst hj; rfl)
    · intro K
      rcases cond_some hj3 with ⟨hb, hres⟩ | ⟨hb, hres⟩
      · refine JX.condT rfl hb ?_
        refine JX.region ?_
        refine JL.val (yl_move rfl) rfl ?_
        refine JL.val (yl_neg rfl) rfl ?_
        refine JL.val (yl_assign rfl) rfl ?_
        refine JL.nil ?_
        have hj := Option.some.inj hres
        exact JE.weak [0] (K) ⟨(by subst hj; rfl), (by subst hj; rfl), (by subst hj; rfl), (by subst hj; rfl), trivial⟩ (by decide) (by subst hj; rfl)
      · refine JX.condF rfl hb ?_
        refine JX.skip ?_
        have hj := Option.some.inj hres
        exact JE.weak [0] (K) ⟨(by subst hj; rfl), (by subst hj; rfl), (by subst hj; rfl), (by subst hj; rfl), trivial⟩ (by decide) (by subst hj; rfl)

/- impl.ReadDecimal -/
def sh82_1 (j3 : ByteArray) : (Int × Int) → Option ((Int × Int) ⊕ (Int ⊕ (Int × Bool)))
  | (x4, x5) => bif decide (x5 < (j3.size : Int)) then (Option.bind (getS j3 x5) fun x6 => Option.bind (bif decide (x6 < 48) then (some true) else (Option.bind (getS j3 x5) fun x8 => some (decide (57 < x8)))) fun c7 => (bif c7 then (some (.inr (.inr (0, false)))) else (Option.bind (getS j3 x5) fun x9 => some (.inl (w64 ((w64 (10 * x4)) + (w64 (IntKind.u8.wrap (x9 - 48)))), w64 (x5 + 1)))))) else (some (.inr (.inl x4)))
def sh82 (q0 : ByteArray) : Option (Int × Bool) := Option.bind (bif decide (0 < (q0.size : Int)) then (Option.bind (getS q0 0) fun x2 => some (x2 == 45)) else (some false)) fun c1 => (Option.bind (bif c1 then (Option.bind (subS q0 1 (q0.size : Int)) fun x12 => some x12) else (some q0)) fun j3 => (bif (decide ((j3.size : Int) < 1)) || (decide (18 < (j3.size : Int))) then (some (0, false)) else (Option.bind (iter (sh82_1 j3) (0, 0)) fun y1 => elimS y1 (fun r => some r) fun b1 => (Option.bind (bif decide ((j3.size : Int) < (q0.size : Int)) then (some (w64 (0 - b1))) else (some b1)) fun j10 => (Option.bind (sh109 j10) fun x11 => bif !(x11.toList == q0.toList) then (some (0, false)) else (some (j10, true)))))))
def T82 (r : Int × Bool) (v : Value) (rs : List Own) : Prop := v = rets [.int .i64 r.1, .bool r.2] ∧ rs = []
set_option maxRecDepth 100000 in
set_option maxHeartbeats 1000000 in
theorem c82 {w : World} {q0 : ByteArray} {r : Int × Bool} (hres : sh82 q0 = some r) : Calls Go.Proofs.Try.prog 82 [.string q0].toArray w (Ret w (T82 r)) := by
  unfold sh82 at hres
  refine calls_of (n := 62) (M := []) (es := []) Go.Proofs.Try.func82 rfl rfl rfl (Sep.nil _ _ _) ?_
  refine JX.seq ?_
  refine JX.region ?_
  refine JL.val (yl_assign rfl) rfl ?_
  refine JL.val (yl_assign rfl) rfl ?_
  refine JL.nil ?_
  refine JE.code ?_
  refine JX.seq ?_
  refine JX.region ?_
  refine JL.val (yl_move rfl) rfl ?_
  refine JL.val (yl_assign rfl) rfl ?_
  refine JL.nil ?_
  refine JE.code ?_
  refine JX.seq ?_
  refine JX.seq ?_
  refine JX.region ?_
  refine JL.val (yl_move rfl) rfl ?_
  refine JL.val (yl_len_string Go.Proofs.Try.underlying9 rfl) rfl ?_
  refine JL.val (yl_gtr rfl rfl) rfl ?_
  refine JL.val (yl_move rfl) rfl ?_
  obtain ⟨c1, hc1, hres⟩ := bind_some hres
  refine JL.cut (K := fun J => J [(0, .string q0), (4, .string q0), (15, .bool c1)] []) 4 ?_ ?_
  · refine JL.nil ?_
    refine JE.weak (env' := [(0, .string q0), (4, .string q0), (15, .bool c1)]) (es' := []) [] ?_ ⟨rfl, rfl, rfl, trivial⟩ (by decide) rfl
    refine JE.code ?_
    obtain ⟨j3, hj3, hresj3⟩ := bind_some hres
    refine JX.cut (K := fun J => J [(0, .string q0), (4, .string j3)] []) ?_ ?_
    · have hres := hresj3
      refine JE.code ?_
      refine JX.seq ?_
      refine JX.seq ?_
      refine JX.region ?_
      refine JL.val (yl_move rfl) rfl ?_
      refine JL.val (yl_len_string Go.Proofs.Try.underlying9 rfl) rfl ?_
      refine JL.val (yl_lss rfl rfl) rfl ?_
      refine JL.val (yl_move rfl) rfl ?_
      refine JL.cut (K := fun J => J [(0, .string q0), (4, .string j3), (25, .bool ((decide ((j3.size : Int) < 1)) || (decide (18 < (j3.size : Int)))))] []) 4 ?_ ?_
      · refine JL.nil ?_
        refine JE.weak (env' := [(0, .string q0), (4, .string j3), (25, .bool ((decide ((j3.size : Int) < 1)) || (decide (18 < (j3.size : Int)))))]) (es' := []) [] ?_ ⟨rfl, rfl, rfl, trivial⟩ (by decide) rfl
        refine JE.code ?_
        rcases cond_some hres with ⟨hb, hres⟩ | ⟨hb, hres⟩
        · refine JX.condT rfl hb ?_
          refine JX.seq ?_
          refine JX.region ?_
          refine JL.val (yl_assign rfl) rfl ?_
          refine JL.val (yl_assign rfl) rfl ?_
          refine JL.nil ?_
          refine JE.code ?_
          refine JX.ret ?_
          obtain rfl := Option.some.inj hres
          refine JE.ret (rs := [.tmp 2, .tmp 3]) (vs := [.int .i64 0, .bool false]) rfl ⟨rfl, rfl, trivial⟩ ?_
          exact fun w' hb hs => ⟨_, _, ⟨rfl, rfl⟩, rfl, hb, hs.sel [] _ (by decide) rfl⟩
        · refine JX.condF rfl hb ?_
          refine JX.skip ?_
          refine JE.code ?_
          refine JX.seq ?_
          refine JX.region ?_
          refine JL.val (yl_assign rfl) rfl ?_
          refine JL.nil ?_
          refine JE.code ?_
          refine JX.seq ?_
          refine JX.seq ?_
          refine JX.region ?_
          refine JL.val (yl_move rfl) rfl ?_
          refine JL.val (yl_len_string Go.Proofs.Try.underlying9 rfl) rfl ?_
          refine JL.val (yl_move rfl) rfl ?_
          refine JL.nil ?_
          refine JE.code ?_
          refine JX.block ?_
          obtain ⟨y1, hy1, hresO1⟩ := bind_some hres
          refine JX.loop (I := fun (s1 : Int × Int) aa ww => St w [] 62 [(0, .string q0), (4, .string j3), (5, .int .i64 s1.1), (27, .int .i64 (j3.size : Int)), (28, .int .i64 s1.2)] [] aa ww) (sh82_1 j3) hy1 (fun a w h => h.weak ⟨rfl, rfl, rfl, rfl, rfl, trivial⟩ [] (by decide) rfl) ?_
          rintro ⟨x4, x5⟩ o1 hres hox1 aa ww hS
          refine (?_ : JX Go.Proofs.Try.prog w [] 62 _ _ [(0, .string q0), (4, .string j3), (5, .int .i64 x4), (27, .int .i64 (j3.size : Int)), (28, .int .i64 x5)] [] _) aa ww hS
          clear hS
          simp only [sh82_1] at hres
          refine JX.seq ?_
          refine JX.region ?_
          refine JL.val (yl_lss rfl rfl) rfl ?_
          refine JL.nil ?_
          refine JE.code ?_
          refine JX.seq ?_
          rcases cond_some hres with ⟨hb, hres⟩ | ⟨hb, hres⟩
          · refine JX.condT rfl hb ?_
            refine JX.skip ?_
            refine JE.code ?_
            refine JX.seq ?_
            refine JX.block ?_
            refine JX.seq ?_
            refine JX.region ?_
            refine JL.val (yl_move rfl) rfl ?_
            refine JL.val (yl_assign rfl) rfl ?_
            refine JL.nil ?_
            refine JE.code ?_
            refine JX.seq ?_
            refine JX.seq ?_
            refine JX.region ?_
            refine JL.val (yl_move rfl) rfl ?_
            refine JL.val (yl_move rfl) rfl ?_
            obtain ⟨x6, hx6, hres⟩ := bind_some hres
            refine JL.val (yl_getS Go.Proofs.Try.underlying9 rfl rfl hx6) rfl ?_
            refine JL.val (yl_lss rfl rfl) rfl ?_
            refine JL.val (yl_move rfl) rfl ?_
            obtain ⟨c7, hc7, hres⟩ := bind_some hres
            refine JL.cut (K := fun J => J [(0, .string q0), (4, .string j3), (5, .int .i64 x4), (6, .int .i64 x5), (27, .int .i64 (j3.size : Int)), (28, .int .i64 x5), (40, .bool c7)] []) 5 ?_ ?_
            · refine JL.nil ?_
              refine JE.weak (env' := [(0, .string q0), (4, .string j3), (5, .int .i64 x4), (6, .int .i64 x5), (27, .int .i64 (j3.size : Int)), (28, .int .i64 x5), (40, .bool c7)]) (es' := []) [] ?_ ⟨rfl, rfl, rfl, rfl, rfl, rfl, rfl, trivial⟩ (by decide) rfl
              refine JE.code ?_
              rcases cond_some hres with ⟨hb, hres⟩ | ⟨hb, hres⟩
              · refine JX.condT rfl hb ?_
                refine JX.seq ?_
                refine JX.region ?_
                refine JL.val (yl_assign rfl) rfl ?_
                refine JL.val (yl_assign rfl) rfl ?_
                refine JL.nil ?_
                refine JE.code ?_
                refine JX.ret ?_
                refine JE.qbr ?_
                refine JE.qbr ?_
                have hres := elimS_inr hresO1 (hox1 _ (Option.some.inj hres).symm)
                obtain rfl := Option.some.inj hres
                refine JE.ret (rs := [.tmp 2, .tmp 3]) (vs := [.int .i64 0, .bool false]) rfl ⟨rfl, rfl, trivial⟩ ?_
                exact fun w' hb hs => ⟨_, _, ⟨rfl, rfl⟩, rfl, hb, hs.sel [] _ (by decide) rfl⟩
              · refine JX.condF rfl hb ?_
                refine JX.skip ?_
                refine JE.code ?_
                refine JX.region ?_
                refine JL.val (yl_move rfl) rfl ?_
                refine JL.val (yl_mul rfl rfl) rfl ?_
                refine JL.val (yl_move rfl) rfl ?_
                refine JL.val (yl_move rfl) rfl ?_
                obtain ⟨x9, hx9, hres⟩ := bind_some hres
                refine JL.val (yl_getS Go.Proofs.Try.underlying9 rfl rfl hx9) rfl ?_
                refine JL.val (yl_sub rfl rfl) rfl ?_
                refine JL.val (yl_conv Go.Proofs.Try.underlying5 Go.Proofs.Try.underlying2 rfl) rfl ?_
                refine JL.val (yl_add rfl rfl) rfl ?_
                refine JL.val (yl_assign rfl) rfl ?_
                refine JL.nil ?_
                refine JE.weak (env' := [(0, .string q0), (4, .string j3), (5, .int .i64 (w64 ((w64 (10 * x4)) + (w64 (IntKind.u8.wrap (x9 - 48)))))), (27, .int .i64 (j3.size : Int)), (28, .int .i64 x5)]) (es' := []) [] ?_ ⟨rfl, rfl, rfl, rfl, rfl, trivial⟩ (by decide) rfl
                refine JE.code ?_
                refine JX.region ?_
                refine JL.val (yl_add rfl rfl) rfl ?_
                refine JL.val (yl_move rfl) rfl ?_
                refine JL.nil ?_
                refine JE.cont hres ?_
                exact fun a w h => h.weak ⟨rfl, rfl, rfl, rfl, rfl, trivial⟩ [] (by decide) rfl
            · intro K
              rcases cond_some hc7 with ⟨hb, hres⟩ | ⟨hb, hres⟩
              · refine JL.set (d := 35) (v := .bool true) (congrArg (fun b => some (Value.bool b)) hb) ?_
                refine JL.gskip rfl rfl rfl rfl ?_
                refine JL.gskip rfl rfl rfl rfl ?_
                refine JL.gskip rfl rfl rfl rfl ?_
                refine JL.gskip rfl rfl rfl rfl ?_
                refine JL.val (yl_pick_true rfl rfl) rfl ?_
                have he := Option.some.inj hres
                exact JL.weak [] K ⟨rfl, rfl, rfl, rfl, rfl, rfl, (by rw [← he]; rfl), trivial⟩ (by decide) rfl
              · refine JL.set (d := 35) (v := .bool false) (congrArg (fun b => some (Value.bool b)) hb) ?_
                refine JL.gval rfl rfl (yl_move rfl) rfl ?_
                refine JL.gval rfl rfl (yl_move rfl) rfl ?_
                obtain ⟨x8, hx8, hres⟩ := bind_some hres
                refine JL.gval rfl rfl (yl_getS Go.Proofs.Try.underlying9 rfl rfl hx8) rfl ?_
                refine JL.gval rfl rfl (yl_gtr rfl rfl) rfl ?_
                refine JL.val (yl_pick_false rfl rfl) rfl ?_
                have he := Option.some.inj hres
                exact JL.weak [] K ⟨rfl, rfl, rfl, rfl, rfl, rfl, (by rw [← he]; rfl), trivial⟩ (by decide) rfl
          · refine JX.condF rfl hb ?_
            refine JX.exit ?_
            refine JE.qb rfl ?_
            obtain ⟨b1, hb1⟩ : ∃ b : Int, b = x4 := ⟨_, rfl⟩
            have hy1 : Sum.inl b1 = y1 := by rw [hb1]; exact hox1 _ (Option.some.inj hres).symm
            have hres := elimS_inl hresO1 hy1
            refine JE.weak (env' := [(0, .string q0), (4, .string j3), (5, .int .i64 b1)]) (es' := []) [] ?_ ⟨(by subst hb1; rfl), (by subst hb1; rfl), (by subst hb1; rfl), trivial⟩ (by decide) (by subst hb1; rfl)
            refine JE.code ?_
            refine JX.seq ?_
            refine JX.seq ?_
            refine JX.region ?_
            refine JL.val (yl_move rfl) rfl ?_
            refine JL.val (yl_len_string Go.Proofs.Try.underlying9 rfl) rfl ?_
            refine JL.val (yl_move rfl) rfl ?_
            refine JL.val (yl_len_string Go.Proofs.Try.underlying9 rfl) rfl ?_
            refine JL.val (yl_lss rfl rfl) rfl ?_
            refine JL.nil ?_
            refine JE.weak (env' := [(0, .string q0), (5, .int .i64 b1), (54, .bool (decide ((j3.size : Int) < (q0.size : Int))))]) (es' := []) [] ?_ ⟨rfl, rfl, rfl, trivial⟩ (by decide) rfl
            refine JE.code ?_
            obtain ⟨j10, hj10, hresj10⟩ := bind_some hres
            refine JX.cut (K := fun J => J [(0, .string q0), (5, .int .i64 j10)] []) ?_ ?_
            · have hres := hresj10
              refine JE.code ?_
              refine JX.seq ?_
              refine JX.seq ?_
              refine JX.region ?_
              refine JL.val (yl_move rfl) rfl ?_
              obtain ⟨x11, hx11, hres⟩ := bind_some hres
              refine JL.eff (ef_call (T := T109 x11) Go.Proofs.Try.func109 rfl (by kernel_rfl) rfl (fun w hC => c109  hx11)) rfl ?_
              rintro _ _ ⟨_, ⟨rfl, rfl⟩, rfl⟩
              refine JL.val (yl_move rfl) rfl ?_
              refine JL.val (yl_sneq rfl rfl) rfl ?_
              refine JL.nil ?_
              refine JE.weak (env' := [(5, .int .i64 j10), (60, .bool (!(x11.toList == q0.toList)))]) (es' := []) [] ?_ ⟨rfl, rfl, trivial⟩ (by decide) rfl
              refine JE.code ?_
              rcases cond_some hres with ⟨hb, hres⟩ | ⟨hb, hres⟩
              · refine JX.condT rfl hb ?_
                refine JX.seq ?_
                refine JX.region ?_
                refine JL.val (yl_assign rfl) rfl ?_
                refine JL.val (yl_assign rfl) rfl ?_
                refine JL.nil ?_
                refine JE.code ?_
                refine JX.ret ?_
                obtain rfl := Option.some.inj hres
                refine JE.ret (rs := [.tmp 2, .tmp 3]) (vs := [.int .i64 0, .bool false]) rfl ⟨rfl, rfl, trivial⟩ ?_
                exact fun w' hb hs => ⟨_, _, ⟨rfl, rfl⟩, rfl, hb, hs.sel [] _ (by decide) rfl⟩
              · refine JX.condF rfl hb ?_
                refine JX.skip ?_
                refine JE.code ?_
                refine JX.seq ?_
                refine JX.region ?_
                refine JL.val (yl_move rfl) rfl ?_
                refine JL.val (yl_assign rfl) rfl ?_
                refine JL.val (yl_assign rfl) rfl ?_
                refine JL.nil ?_
                refine JE.code ?_
                refine JX.ret ?_
                obtain rfl := Option.some.inj hres
                refine JE.ret (rs := [.tmp 2, .tmp 3]) (vs := [.int .i64 j10, .bool true]) rfl ⟨rfl, rfl, trivial⟩ ?_
                exact fun w' hb hs => ⟨_, _, ⟨rfl, rfl⟩, rfl, hb, hs.sel [] _ (by decide) rfl⟩
            · intro K
              rcases cond_some hj10 with ⟨hb, hres⟩ | ⟨hb, hres⟩
              · refine JX.condT rfl hb ?_
                refine JX.region ?_
                refine JL.val (yl_move rfl) rfl ?_
                refine JL.val (yl_neg rfl) rfl ?_
                refine JL.val (yl_assign rfl) rfl ?_
                refine JL.nil ?_
                have hj := Option.some.inj hres
                exact JE.weak [] (K) ⟨(by subst hj; rfl), (by subst hj; rfl), trivial⟩ (by decide) (by subst hj; rfl)
              · refine JX.condF rfl hb ?_
                refine JX.skip ?_
                have hj := Option.some.inj hres
                exact JE.weak [] (K) ⟨(by subst hj; rfl), (by subst hj; rfl), trivial⟩ (by decide) (by subst hj; rfl)
      · intro K
        rcases Bool.eq_false_or_eq_true (decide ((j3.size : Int) < 1)) with hb | hb
        · refine JL.set (d := 21) (v := .bool true) (congrArg (fun b => some (Value.bool b)) hb) ?_
          refine JL.gskip rfl rfl rfl rfl ?_
          refine JL.gskip rfl rfl rfl rfl ?_
          refine JL.gskip rfl rfl rfl rfl ?_
          refine JL.val (yl_pick_true rfl rfl) rfl ?_
          exact JL.weak [] K ⟨rfl, rfl, (by rw [hb]; rfl), trivial⟩ (by decide) rfl
        · refine JL.set (d := 21) (v := .bool false) (congrArg (fun b => some (Value.bool b)) hb) ?_
          refine JL.gval rfl rfl (yl_move rfl) rfl ?_
          refine JL.gval rfl rfl (yl_len_string Go.Proofs.Try.underlying9 rfl) rfl ?_
          refine JL.gval rfl rfl (yl_gtr rfl rfl) rfl ?_
          refine JL.val (yl_pick_false rfl rfl) rfl ?_
          exact JL.weak [] K ⟨rfl, rfl, (by rw [hb]; rfl), trivial⟩ (by decide) rfl
    · intro K
      rcases cond_some hj3 with ⟨hb, hres⟩ | ⟨hb, hres⟩
      · refine JX.condT rfl hb ?_
        refine JX.region ?_
        refine JL.val (yl_move rfl) rfl ?_
        obtain ⟨x12, hx12, hres⟩ := bind_some hres
        refine JL.val (yl_subSl Go.Proofs.Try.underlying9 rfl rfl hx12) rfl ?_
        refine JL.val (yl_assign rfl) rfl ?_
        refine JL.nil ?_
        have hj := Option.some.inj hres
        exact JE.weak [] (K) ⟨(by subst hj; rfl), (by subst hj; rfl), trivial⟩ (by decide) (by subst hj; rfl)
      · refine JX.condF rfl hb ?_
        refine JX.skip ?_
        have hj := Option.some.inj hres
        exact JE.weak [] (K) ⟨(by subst hj; rfl), (by subst hj; rfl), trivial⟩ (by decide) (by subst hj; rfl)
  · intro K
    rcases cond_some hc1 with ⟨hb, hres⟩ | ⟨hb, hres⟩
    · refine JL.set (d := 11) (v := .bool true) (congrArg (fun b => some (Value.bool b)) hb) ?_
      refine JL.gval rfl rfl (yl_move rfl) rfl ?_
      obtain ⟨x2, hx2, hres⟩ := bind_some hres
      refine JL.gval rfl rfl (yl_getS Go.Proofs.Try.underlying9 rfl rfl hx2) rfl ?_
      refine JL.gval rfl rfl (yl_eql rfl rfl) rfl ?_
      refine JL.val (yl_pick_true rfl rfl) rfl ?_
      have he := Option.some.inj hres
      exact JL.weak [] K ⟨rfl, rfl, (by rw [← he]; rfl), trivial⟩ (by decide) rfl
    · refine JL.set (d := 11) (v := .bool false) (congrArg (fun b => some (Value.bool b)) hb) ?_
      refine JL.gskip rfl rfl rfl rfl ?_
      refine JL.gskip rfl rfl rfl rfl ?_
      refine JL.gskip rfl rfl rfl rfl ?_
      refine JL.val (yl_pick_false rfl rfl) rfl ?_
      have he := Option.some.inj hres
      exact JL.weak [] K ⟨rfl, rfl, (by rw [← he]; rfl), trivial⟩ (by decide) rfl

/- impl.linesIn -/
def sh92 (q0 : ByteArray) : Option (List ByteArray × Bool) := bif q0.toList == (ByteArray.mk #[]).toList then (some (([] : List ByteArray), true)) else (Option.bind (getS q0 (w64 ((q0.size : Int) - 1))) fun x2 => bif x2 != 10 then (some (([] : List ByteArray), false)) else (Option.bind (subS q0 0 (w64 ((q0.size : Int) - 1))) fun x4 => Option.bind (sh80 x4 10) fun x5 => some (x5, true)))
def T92 (r : List ByteArray × Bool) (v : Value) (rs : List Own) : Prop := ∃ (a0 : Option Addr) (n0 c0 : Nat), r.1.length = n0 ∧ v = rets [.slice a0 n0 c0, .bool r.2] ∧ rs = [rowT 9 eStr a0 n0 c0 r.1]
set_option maxRecDepth 100000 in
theorem c92 {w : World} {q0 : ByteArray} {r : List ByteArray × Bool} (hres : sh92 q0 = some r) : Calls Go.Proofs.Try.prog 92 [.string q0].toArray w (Ret w (T92 r)) := by
  unfold sh92 at hres
  refine calls_of (n := 18) (M := []) (es := []) Go.Proofs.Try.func92 rfl rfl rfl (Sep.nil _ _ _) ?_
  refine JX.seq ?_
  refine JX.region ?_
  refine JL.val (yl_assign rfl) rfl ?_
  refine JL.val (yl_assign rfl) rfl ?_
  refine JL.nil ?_
  refine JE.code ?_
  refine JX.seq ?_
  refine JX.seq ?_
  refine JX.region ?_
  refine JL.val (yl_move rfl) rfl ?_
  refine JL.val (yl_seql rfl rfl) rfl ?_
  refine JL.nil ?_
  refine JE.code ?_
  rcases cond_some hres with ⟨hb, hres⟩ | ⟨hb, hres⟩
  · refine JX.condT rfl hb ?_
    refine JX.seq ?_
    refine JX.region ?_
    refine JL.val (yl_assign rfl) rfl ?_
    refine JL.val (yl_assign rfl) rfl ?_
    refine JL.nil ?_
    refine JE.code ?_
    refine JX.ret ?_
    refine JE.nilrow 9 eStr ?_
    obtain rfl := Option.some.inj hres
    refine JE.ret (rs := [.tmp 2, .tmp 3]) (vs := [.slice none 0 0, .bool true]) rfl ⟨rfl, rfl, trivial⟩ ?_
    exact fun w' hb hs => ⟨_, _, ⟨none, 0, 0, rfl, rfl, rfl⟩, rfl, hb, hs.sel [0] _ (by decide) rfl⟩
  · refine JX.condF rfl hb ?_
    refine JX.skip ?_
    refine JE.code ?_
    refine JX.seq ?_
    refine JX.seq ?_
    refine JX.region ?_
    refine JL.val (yl_move rfl) rfl ?_
    refine JL.val (yl_move rfl) rfl ?_
    refine JL.val (yl_len_string Go.Proofs.Try.underlying9 rfl) rfl ?_
    refine JL.val (yl_sub rfl rfl) rfl ?_
    obtain ⟨x2, hx2, hres⟩ := bind_some hres
    refine JL.val (yl_getS Go.Proofs.Try.underlying9 rfl rfl hx2) rfl ?_
    refine JL.val (yl_neq rfl rfl) rfl ?_
    refine JL.nil ?_
    refine JE.weak (env' := [(0, .string q0), (11, .bool (x2 != 10))]) (es' := []) [] ?_ ⟨rfl, rfl, trivial⟩ (by decide) rfl
    refine JE.code ?_
    rcases cond_some hres with ⟨hb, hres⟩ | ⟨hb, hres⟩
    · refine JX.condT rfl hb ?_
      refine JX.seq ?_
      refine JX.region ?_
      refine JL.val (yl_assign rfl) rfl ?_
      refine JL.val (yl_assign rfl) rfl ?_
      refine JL.nil ?_
      refine JE.code ?_
      refine JX.ret ?_
      refine JE.nilrow 9 eStr ?_
      obtain rfl := Option.some.inj hres
      refine JE.ret (rs := [.tmp 2, .tmp 3]) (vs := [.slice none 0 0, .bool false]) rfl ⟨rfl, rfl, trivial⟩ ?_
      exact fun w' hb hs => ⟨_, _, ⟨none, 0, 0, rfl, rfl, rfl⟩, rfl, hb, hs.sel [0] _ (by decide) rfl⟩
    · refine JX.condF rfl hb ?_
      refine JX.skip ?_
      refine JE.code ?_
      refine JX.seq ?_
      refine JX.region ?_
      refine JL.val (yl_move rfl) rfl ?_
      refine JL.val (yl_move rfl) rfl ?_
      refine JL.val (yl_len_string Go.Proofs.Try.underlying9 rfl) rfl ?_
      refine JL.val (yl_sub rfl rfl) rfl ?_
      obtain ⟨x4, hx4, hres⟩ := bind_some hres
      refine JL.val (yl_subSh Go.Proofs.Try.underlying9 rfl rfl hx4) rfl ?_
      obtain ⟨x5, hx5, hres⟩ := bind_some hres
      refine JL.eff (ef_call (T := T80 x5) Go.Proofs.Try.func80 rfl (by kernel_rfl) rfl (fun w hC => c80  hx5)) rfl ?_
      rintro _ _ ⟨_, ⟨a6, _, cp7, rfl, rfl, rfl⟩, rfl⟩
      refine JL.val (yl_assign rfl) rfl ?_
      refine JL.val (yl_assign rfl) rfl ?_
      refine JL.nil ?_
      refine JE.weak (env' := [(2, .slice a6 x5.length cp7), (3, .bool true)]) (es' := [rowT 9 eStr a6 x5.length cp7 x5]) [0] ?_ ⟨rfl, rfl, trivial⟩ (by decide) rfl
      refine JE.code ?_
      refine JX.ret ?_
      obtain rfl := Option.some.inj hres
      refine JE.ret (rs := [.tmp 2, .tmp 3]) (vs := [.slice a6 x5.length cp7, .bool true]) rfl ⟨rfl, rfl, trivial⟩ ?_
      exact fun w' hb hs => ⟨_, _, ⟨a6, x5.length, cp7, rfl, rfl, rfl⟩, rfl, hb, hs.sel [0] _ (by decide) rfl⟩

/- impl.inRange -/
def sh136 (q0 : Int) (q1 : Int) (q2 : Int) : Option (Bool) := some ((decide (q1 ≤ q0)) && (decide (q0 ≤ q2)))
def T136 (r : Bool) (v : Value) (rs : List Own) : Prop := v = rets [.bool r] ∧ rs = []
set_option maxRecDepth 100000 in
theorem c136 {w : World} {q0 : Int} {q1 : Int} {q2 : Int} {r : Bool} (hres : sh136 q0 q1 q2 = some r) : Calls Go.Proofs.Try.prog 136 [.int .i64 q0, .int .i64 q1, .int .i64 q2].toArray w (Ret w (T136 r)) := by
  unfold sh136 at hres
  refine calls_of (n := 15) (M := []) (es := []) Go.Proofs.Try.func136 rfl rfl rfl (Sep.nil _ _ _) ?_
  refine JX.seq ?_
  refine JX.region ?_
  refine JL.val (yl_assign rfl) rfl ?_
  refine JL.nil ?_
  refine JE.code ?_
  refine JX.seq ?_
  refine JX.region ?_
  refine JL.val (yl_move rfl) rfl ?_
  refine JL.val (yl_move rfl) rfl ?_
  refine JL.val (yl_geq rfl rfl) rfl ?_
  refine JL.val (yl_move rfl) rfl ?_
  refine JL.cut (K := fun J => J [(14, .bool ((decide (q1 ≤ q0)) && (decide (q0 ≤ q2))))] []) 4 ?_ ?_
  · refine JL.val (yl_assign rfl) rfl ?_
    refine JL.nil ?_
    refine JE.weak (env' := [(6, .bool ((decide (q1 ≤ q0)) && (decide (q0 ≤ q2))))]) (es' := []) [] ?_ ⟨rfl, trivial⟩ (by decide) rfl
    refine JE.code ?_
    refine JX.ret ?_
    obtain rfl := Option.some.inj hres
    refine JE.ret (rs := [.tmp 6]) (vs := [.bool ((decide (q1 ≤ q0)) && (decide (q0 ≤ q2)))]) rfl ⟨rfl, trivial⟩ ?_
    exact fun w' hb hs => ⟨_, _, ⟨rfl, rfl⟩, rfl, hb, hs.sel [] _ (by decide) rfl⟩
  · intro K
    rcases Bool.eq_false_or_eq_true (decide (q1 ≤ q0)) with hb | hb
    · refine JL.set (d := 10) (v := .bool true) (congrArg (fun b => some (Value.bool b)) hb) ?_
      refine JL.gval rfl rfl (yl_move rfl) rfl ?_
      refine JL.gval rfl rfl (yl_move rfl) rfl ?_
      refine JL.gval rfl rfl (yl_leq rfl rfl) rfl ?_
      refine JL.val (yl_pick_true rfl rfl) rfl ?_
      exact JL.weak [] K ⟨(by rw [hb]; rfl), trivial⟩ (by decide) rfl
    · refine JL.set (d := 10) (v := .bool false) (congrArg (fun b => some (Value.bool b)) hb) ?_
      refine JL.gskip rfl rfl rfl rfl ?_
      refine JL.gskip rfl rfl rfl rfl ?_
      refine JL.gskip rfl rfl rfl rfl ?_
      refine JL.val (yl_pick_false rfl rfl) rfl ?_
      exact JL.weak [] K ⟨(by rw [hb]; rfl), trivial⟩ (by decide) rfl

/- impl.isCorner -/
def sh146 (q0 : SPoint) : Option (Bool) := Option.bind (sh136 q0.X (-100000) 100000) fun x3 => Option.bind (bif x3 then (Option.bind (sh136 q0.Y (-100000) 100000) fun x5 => some x5) else (some false)) fun c4 => (some c4)
def T146 (r : Bool) (v : Value) (rs : List Own) : Prop := v = rets [.bool r] ∧ rs = []
set_option maxRecDepth 100000 in
theorem c146 {w : World} {q0 : SPoint} {r : Bool} (hres : sh146 q0 = some r) : Calls Go.Proofs.Try.prog 146 [.agg #[.int .i64 q0.X, .int .i64 q0.Y]].toArray w (Ret w (T146 r)) := by
  unfold sh146 at hres
  refine calls_of (n := 11) (M := []) (es := []) Go.Proofs.Try.func146 rfl rfl rfl (Sep.nil _ _ _) ?_
  refine JX.seq ?_
  refine JX.region ?_
  refine JL.eff (ef_box rfl rfl) rfl ?_
  rintro _ _ ⟨g1, rfl, rfl⟩
  refine JL.val (yl_assign rfl) rfl ?_
  refine JL.nil ?_
  refine JE.code ?_
  refine JX.seq ?_
  refine JX.region ?_
  refine JL.val (yl_fieldAt (a := some _) Go.Proofs.Try.underlying93 rfl i2 i2n rfl rfl) rfl ?_
  refine JL.val (yl_load1 Go.Proofs.Try.underlying2 rfl rfl (fun w hC => rd_box hC 0 rfl) rfl) rfl ?_
  obtain ⟨x3, hx3, hres⟩ := bind_some hres
  refine JL.eff (ef_call (T := T136 x3) Go.Proofs.Try.func136 rfl (by kernel_rfl) rfl (fun w hC => c136  hx3)) rfl ?_
  rintro _ _ ⟨_, ⟨rfl, rfl⟩, rfl⟩
  refine JL.val (yl_move rfl) rfl ?_
  obtain ⟨c4, hc4, hres⟩ := bind_some hres
  refine JL.cut (K := fun J => J [(10, .bool c4)] []) 4 ?_ ?_
  · refine JL.val (yl_assign rfl) rfl ?_
    refine JL.nil ?_
    refine JE.weak (env' := [(2, .bool c4)]) (es' := []) [] ?_ ⟨rfl, trivial⟩ (by decide) rfl
    refine JE.code ?_
    refine JX.ret ?_
    obtain rfl := Option.some.inj hres
    refine JE.ret (rs := [.tmp 2]) (vs := [.bool c4]) rfl ⟨rfl, trivial⟩ ?_
    exact fun w' hb hs => ⟨_, _, ⟨rfl, rfl⟩, rfl, hb, hs.sel [] _ (by decide) rfl⟩
  · intro K
    rcases cond_some hc4 with ⟨hb, hres⟩ | ⟨hb, hres⟩
    · refine JL.set (d := 6) (v := .bool true) (congrArg (fun b => some (Value.bool b)) hb) ?_
      refine JL.gval rfl rfl (yl_fieldAt (a := some _) Go.Proofs.Try.underlying93 rfl i2 i2n rfl rfl) rfl ?_
      refine JL.gval rfl rfl (yl_load1 Go.Proofs.Try.underlying2 rfl rfl (fun w hC => rd_box hC 0 rfl) rfl) rfl ?_
      obtain ⟨x5, hx5, hres⟩ := bind_some hres
      refine JL.geff rfl rfl (ef_call (T := T136 x5) Go.Proofs.Try.func136 rfl (by kernel_rfl) rfl (fun w hC => c136  hx5)) rfl ?_
      rintro _ _ ⟨_, ⟨rfl, rfl⟩, rfl⟩
      refine JL.val (yl_pick_true rfl rfl) rfl ?_
      have he := Option.some.inj hres
      exact JL.weak [] K ⟨(by rw [← he]; rfl), trivial⟩ (by decide) rfl
    · refine JL.set (d := 6) (v := .bool false) (congrArg (fun b => some (Value.bool b)) hb) ?_
      refine JL.gskip rfl rfl rfl rfl ?_
      refine JL.gskip rfl rfl rfl rfl ?_
      refine JL.gskip rfl rfl rfl rfl ?_
      refine JL.val (yl_pick_false rfl rfl) rfl ?_
      have he := Option.some.inj hres
      exact JL.weak [] K ⟨(by rw [← he]; rfl), trivial⟩ (by decide) rfl

/- impl.validMoves -/
def sh93_1 (q0 : List SToolMove) : Int → Option (Int ⊕ (Unit ⊕ Bool))
  | x1 => bif decide (x1 < (q0.length : Int)) then (Option.bind (getI q0 x1) fun x2 => Option.bind (sh146 (SPoint.mk x2.X x2.Y)) fun x5 => Option.bind (bif !x5 then (some true) else (Option.bind (sh136 x2.Z (-500) 500) fun x7 => some !x7)) fun c6 => (bif c6 then (some (.inr (.inr false))) else (some (.inl (w64 (x1 + 1)))))) else (some (.inr (.inl ())))
def sh93 (q0 : List SToolMove) : Option (Bool) := Option.bind (iter (sh93_1 q0) 0) fun y1 => elimS y1 (fun r => some r) fun b1 => (some (decide ((q0.length : Int) ≤ 700)))
def T93 (r : Bool) (v : Value) (rs : List Own) : Prop := v = rets [.bool r] ∧ rs = []
set_option maxRecDepth 100000 in
theorem c93 {w : World} {q0 : List SToolMove} {a_0 : Option Addr} {n_0 c_0 : Nat} (g_0 : Rd w a_0 (eSToolMove.fl q0)) (l_0 : q0.length = n_0) (k_0 : n_0 ≤ c_0) {r : Bool} (hres : sh93 q0 = some r) : Calls Go.Proofs.Try.prog 93 [.slice a_0 n_0 c_0].toArray w (Ret w (T93 r)) := by
  subst l_0
  unfold sh93 at hres
  refine calls_of (n := 28) (M := []) (es := []) Go.Proofs.Try.func93 rfl rfl rfl (Sep.nil _ _ _) ?_
  refine JX.seq ?_
  refine JX.region ?_
  refine JL.val (yl_assign rfl) rfl ?_
  refine JL.nil ?_
  refine JE.code ?_
  refine JX.seq ?_
  refine JX.seq ?_
  refine JX.region ?_
  refine JL.val (yl_move rfl) rfl ?_
  refine JL.val (yl_len_slice Go.Proofs.Try.underlying28 rfl) rfl ?_
  refine JL.val (yl_move rfl) rfl ?_
  refine JL.nil ?_
  refine JE.code ?_
  refine JX.block ?_
  obtain ⟨y1, hy1, hresO1⟩ := bind_some hres
  refine JX.loop (I := fun (s1 : Int) aa ww => St w [] 28 [(0, .slice a_0 q0.length c_0), (5, .slice a_0 q0.length c_0), (6, .int .i64 (q0.length : Int)), (7, .int .i64 s1)] [] aa ww) (sh93_1 q0) hy1 (fun a w h => h.weak ⟨rfl, rfl, rfl, rfl, trivial⟩ [] (by decide) rfl) ?_
  rintro x1 o1 hres hox1 aa ww hS
  refine (?_ : JX Go.Proofs.Try.prog w [] 28 _ _ [(0, .slice a_0 q0.length c_0), (5, .slice a_0 q0.length c_0), (6, .int .i64 (q0.length : Int)), (7, .int .i64 x1)] [] _) aa ww hS
  clear hS
  unfold sh93_1 at hres
  refine JX.seq ?_
  refine JX.region ?_
  refine JL.val (yl_lss rfl rfl) rfl ?_
  refine JL.nil ?_
  refine JE.code ?_
  refine JX.seq ?_
  rcases cond_some hres with ⟨hb, hres⟩ | ⟨hb, hres⟩
  · refine JX.condT rfl hb ?_
    refine JX.skip ?_
    refine JE.code ?_
    refine JX.seq ?_
    refine JX.block ?_
    refine JX.seq ?_
    refine JX.region ?_
    obtain ⟨x2, hx2, hres⟩ := bind_some hres
    refine JL.val (yl_idxT Go.Proofs.Try.underlying28 i97 i97s rfl rfl hx2 rfl (fun w hC => rd_arg g_0 hC)) rfl ?_
    refine JL.val (yl_loadTn Go.Proofs.Try.underlying97 rfl i97 i97s rfl hx2 (fun w hC => rd_arg g_0 hC)) rfl ?_
    refine JL.eff (ef_alloc i97 i97z rfl) rfl ?_
    rintro _ _ ⟨g3, rfl, rfl⟩
    refine JL.eff (ef_store_box (i := 0) (v := .agg #[.int .i64 x2.X, .int .i64 x2.Y, .int .i64 x2.Z]) i97 rfl rfl rfl (i97s).symm (Nat.le_of_ble_eq_true rfl) (by simp [Value.cells, Value.oneCell'])) rfl ?_
    rintro _ _ rfl
    refine JL.nil ?_
    refine JE.weak (env' := [(0, .slice a_0 q0.length c_0), (4, ptrAt (some ⟨g3, 0, none⟩) 0), (5, .slice a_0 q0.length c_0), (6, .int .i64 (q0.length : Int)), (7, .int .i64 x1)]) (es' := [boxO 97 g3 [.int .i64 x2.X, .int .i64 x2.Y, .int .i64 x2.Z]]) [0] ?_ ⟨rfl, rfl, rfl, rfl, rfl, trivial⟩ (by decide) rfl
    refine JE.code ?_
    refine JX.seq ?_
    refine JX.region ?_
    refine JL.val (yl_fieldAt (a := some _) Go.Proofs.Try.underlying97 rfl i2 i2n rfl rfl) rfl ?_
    refine JL.val (yl_load1 Go.Proofs.Try.underlying2 rfl rfl (fun w hC => rd_box hC 0 rfl) rfl) rfl ?_
    refine JL.val (yl_fieldAt (a := some _) Go.Proofs.Try.underlying97 rfl i2 i2n rfl rfl) rfl ?_
    refine JL.val (yl_load1 Go.Proofs.Try.underlying2 rfl rfl (fun w hC => rd_box hC 0 rfl) rfl) rfl ?_
    refine JL.val (yl_build rfl (fun w => bld93_0_1 x2.X x2.Y w)) rfl ?_
    obtain ⟨x5, hx5, hres⟩ := bind_some hres
    refine JL.eff (ef_call (vs := [.agg #[.int .i64 x2.X, .int .i64 x2.Y]]) (T := T146 x5) Go.Proofs.Try.func146 rfl (by kernel_rfl) rfl (fun w hC => c146 (q0 := SPoint.mk x2.X x2.Y) hx5)) rfl ?_
    rintro _ _ ⟨_, ⟨rfl, rfl⟩, rfl⟩
    refine JL.val (yl_not rfl) rfl ?_
    refine JL.val (yl_move rfl) rfl ?_
    obtain ⟨c6, hc6, hres⟩ := bind_some hres
    refine JL.cut (K := fun J => J [(0, .slice a_0 q0.length c_0), (5, .slice a_0 q0.length c_0), (6, .int .i64 (q0.length : Int)), (7, .int .i64 x1), (23, .bool c6)] []) 5 ?_ ?_
    · refine JL.nil ?_
      refine JE.weak (env' := [(0, .slice a_0 q0.length c_0), (5, .slice a_0 q0.length c_0), (6, .int .i64 (q0.length : Int)), (7, .int .i64 x1), (23, .bool c6)]) (es' := []) [] ?_ ⟨rfl, rfl, rfl, rfl, rfl, trivial⟩ (by decide) rfl
      refine JE.code ?_
      rcases cond_some hres with ⟨hb, hres⟩ | ⟨hb, hres⟩
      · refine JX.condT rfl hb ?_
        refine JX.seq ?_
        refine JX.region ?_
        refine JL.val (yl_assign rfl) rfl ?_
        refine JL.nil ?_
        refine JE.code ?_
        refine JX.ret ?_
        refine JE.qbr ?_
        refine JE.qbr ?_
        have hres := elimS_inr hresO1 (hox1 _ (Option.some.inj hres).symm)
        obtain rfl := Option.some.inj hres
        refine JE.ret (rs := [.tmp 2]) (vs := [.bool false]) rfl ⟨rfl, trivial⟩ ?_
        exact fun w' hb hs => ⟨_, _, ⟨rfl, rfl⟩, rfl, hb, hs.sel [] _ (by decide) rfl⟩
      · refine JX.condF rfl hb ?_
        refine JX.skip ?_
        refine JE.code ?_
        refine JX.region ?_
        refine JL.val (yl_add rfl rfl) rfl ?_
        refine JL.val (yl_move rfl) rfl ?_
        refine JL.nil ?_
        refine JE.cont hres ?_
        exact fun a w h => h.weak ⟨rfl, rfl, rfl, rfl, trivial⟩ [] (by decide) rfl
    · intro K
      rcases cond_some hc6 with ⟨hb, hres⟩ | ⟨hb, hres⟩
      · refine JL.set (d := 18) (v := .bool true) (congrArg (fun b => some (Value.bool b)) hb) ?_
        refine JL.gskip rfl rfl rfl rfl ?_
        refine JL.gskip rfl rfl rfl rfl ?_
        refine JL.gskip rfl rfl rfl rfl ?_
        refine JL.gskip rfl rfl rfl rfl ?_
        refine JL.val (yl_pick_true rfl rfl) rfl ?_
        have he := Option.some.inj hres
        exact JL.weak [] K ⟨rfl, rfl, rfl, rfl, (by rw [← he]; rfl), trivial⟩ (by decide) rfl
      · refine JL.set (d := 18) (v := .bool false) (congrArg (fun b => some (Value.bool b)) hb) ?_
        refine JL.gval rfl rfl (yl_fieldAt (a := some _) Go.Proofs.Try.underlying97 rfl i2 i2n rfl rfl) rfl ?_
        refine JL.gval rfl rfl (yl_load1 Go.Proofs.Try.underlying2 rfl rfl (fun w hC => rd_box hC 0 rfl) rfl) rfl ?_
        obtain ⟨x7, hx7, hres⟩ := bind_some hres
        refine JL.geff rfl rfl (ef_call (T := T136 x7) Go.Proofs.Try.func136 rfl (by kernel_rfl) rfl (fun w hC => c136  hx7)) rfl ?_
        rintro _ _ ⟨_, ⟨rfl, rfl⟩, rfl⟩
        refine JL.gval rfl rfl (yl_not rfl) rfl ?_
        refine JL.val (yl_pick_false rfl rfl) rfl ?_
        have he := Option.some.inj hres
        exact JL.weak [] K ⟨rfl, rfl, rfl, rfl, (by rw [← he]; rfl), trivial⟩ (by decide) rfl
  · refine JX.condF rfl hb ?_
    refine JX.exit ?_
    refine JE.qb rfl ?_
    obtain ⟨b1, hb1⟩ : ∃ b : Unit, b = () := ⟨_, rfl⟩
    have hy1 : Sum.inl b1 = y1 := by rw [hb1]; exact hox1 _ (Option.some.inj hres).symm
    have hres := elimS_inl hresO1 hy1
    refine JE.weak (env' := [(0, .slice a_0 q0.length c_0)]) (es' := []) [] ?_ ⟨(by subst hb1; rfl), trivial⟩ (by decide) (by subst hb1; rfl)
    refine JE.code ?_
    refine JX.seq ?_
    refine JX.region ?_
    refine JL.val (yl_move rfl) rfl ?_
    refine JL.val (yl_len_slice Go.Proofs.Try.underlying28 rfl) rfl ?_
    refine JL.val (yl_leq rfl rfl) rfl ?_
    refine JL.val (yl_assign rfl) rfl ?_
    refine JL.nil ?_
    refine JE.weak (env' := [(2, .bool (decide ((q0.length : Int) ≤ 700)))]) (es' := []) [] ?_ ⟨rfl, trivial⟩ (by decide) rfl
    refine JE.code ?_
    refine JX.ret ?_
    obtain rfl := Option.some.inj hres
    refine JE.ret (rs := [.tmp 2]) (vs := [.bool (decide ((q0.length : Int) ≤ 700))]) rfl ⟨rfl, trivial⟩ ?_
    exact fun w' hb hs => ⟨_, _, ⟨rfl, rfl⟩, rfl, hb, hs.sel [] _ (by decide) rfl⟩

/- impl.ReadTool -/
def sh23_2 (x15 : List ByteArray) : (Int × List Int) → Option ((Int × List Int) ⊕ ((List Int) ⊕ (List SToolMove × Bool)))
  | (x23, x24) => bif decide (x23 < (x15.length : Int)) then (Option.bind (getI x15 x23) fun x26 => Option.bind (sh82 x26) fun x27 => bif !x27.2 then (some (.inr (.inr (([] : List SToolMove), false)))) else (Option.bind (getI x24 x23) fun x29 => some (.inl (w64 (x23 + 1), x24.set (x23).toNat x27.1)))) else (some (.inr (.inl x24)))
def sh23_1 (x1 : List ByteArray × Bool) : (Int × List SToolMove) → Option ((Int × List SToolMove) ⊕ ((List SToolMove) ⊕ (List SToolMove × Bool)))
  | (x10, x11) => bif decide (x10 < (x1.1.length : Int)) then (Option.bind (getI x1.1 x10) fun x14 => Option.bind (sh80 x14 32) fun x15 => bif (x15.length : Int) != 3 then (some (.inr (.inr (([] : List SToolMove), false)))) else (Option.bind (iter (sh23_2 x15) (0, List.replicate 3 (0 : Int))) fun y2 => elimS y2 (fun r => some (.inr (.inr r))) fun b2 => (Option.bind (getI b2 0) fun x31 => Option.bind (getI b2 1) fun x32 => Option.bind (getI b2 2) fun x33 => Option.bind (appL x11 [SToolMove.mk x31 x32 x33]) fun x36 => some (.inl (w64 (x10 + 1), x36))))) else (some (.inr (.inl x11)))
def sh23 (q0 : ByteArray) : Option (List SToolMove × Bool) := Option.bind (sh92 q0) fun x1 => bif !x1.2 || (decide (700 < (x1.1.length : Int))) then (some (([] : List SToolMove), false)) else (Option.bind (iter (sh23_1 x1) (0, ([] : List SToolMove))) fun y1 => elimS y1 (fun r => some r) fun b1 => (Option.bind (sh93 b1) fun x41 => bif !x41 then (some (([] : List SToolMove), false)) else (some (b1, true))))
def T23 (r : List SToolMove × Bool) (v : Value) (rs : List Own) : Prop := ∃ (a0 : Option Addr) (n0 c0 : Nat), r.1.length = n0 ∧ v = rets [.slice a0 n0 c0, .bool r.2] ∧ rs = [rowT 97 eSToolMove a0 n0 c0 r.1]
set_option maxRecDepth 100000 in
set_option maxHeartbeats 1000000 in
theorem c23 {w : World} {q0 : ByteArray} {r : List SToolMove × Bool} (hres : sh23 q0 = some r) : Calls Go.Proofs.Try.prog 23 [.string q0].toArray w (Ret w (T23 r)) := by
  unfold sh23 at hres
  refine calls_of (n := 73) (M := []) (es := []) Go.Proofs.Try.func23 rfl rfl rfl (Sep.nil _ _ _) ?_
  refine JX.seq ?_
  refine JX.region ?_
  refine JL.val (yl_assign rfl) rfl ?_
  refine JL.val (yl_assign rfl) rfl ?_
  refine JL.nil ?_
  refine JE.code ?_
  refine JX.seq ?_
  refine JX.region ?_
  refine JL.val (yl_move rfl) rfl ?_
  obtain ⟨x1, hx1, hres⟩ := bind_some hres
  refine JL.eff (ef_call (T := T92 x1) Go.Proofs.Try.func92 rfl (by kernel_rfl) rfl (fun w hC => c92  hx1)) rfl ?_
  rintro _ _ ⟨_, ⟨a2, _, cp3, rfl, rfl, rfl⟩, rfl⟩
  refine JL.val (yl_move rfl) rfl ?_
  refine JL.val (yl_extract rfl rfl) rfl ?_
  refine JL.val (yl_extract rfl rfl) rfl ?_
  refine JL.val (yl_assign rfl) rfl ?_
  refine JL.val (yl_assign rfl) rfl ?_
  refine JL.nil ?_
  refine JE.weak (env' := [(4, .slice a2 x1.1.length cp3), (5, .bool x1.2)]) (es' := [rowT 9 eStr a2 x1.1.length cp3 x1.1]) [0] ?_ ⟨rfl, rfl, trivial⟩ (by decide) rfl
  refine JE.code ?_
  refine JX.seq ?_
  refine JX.seq ?_
  refine JX.region ?_
  refine JL.val (yl_move rfl) rfl ?_
  refine JL.val (yl_not rfl) rfl ?_
  refine JL.val (yl_move rfl) rfl ?_
  refine JL.cut (K := fun J => J [(4, .slice a2 x1.1.length cp3), (26, .bool (!x1.2 || (decide (700 < (x1.1.length : Int)))))] [rowT 9 eStr a2 x1.1.length cp3 x1.1]) 4 ?_ ?_
  · refine JL.nil ?_
    refine JE.weak (env' := [(4, .slice a2 x1.1.length cp3), (26, .bool (!x1.2 || (decide (700 < (x1.1.length : Int)))))]) (es' := [rowT 9 eStr a2 x1.1.length cp3 x1.1]) [0] ?_ ⟨rfl, rfl, trivial⟩ (by decide) rfl
    refine JE.code ?_
    rcases cond_some hres with ⟨hb, hres⟩ | ⟨hb, hres⟩
    · refine JX.condT rfl hb ?_
      refine JX.seq ?_
      refine JX.region ?_
      refine JL.val (yl_assign rfl) rfl ?_
      refine JL.val (yl_assign rfl) rfl ?_
      refine JL.nil ?_
      refine JE.weak (env' := [(2, .slice none 0 0), (3, .bool false)]) (es' := []) [] ?_ ⟨rfl, rfl, trivial⟩ (by decide) rfl
      refine JE.code ?_
      refine JX.ret ?_
      refine JE.nilrow 97 eSToolMove ?_
      obtain rfl := Option.some.inj hres
      refine JE.ret (rs := [.tmp 2, .tmp 3]) (vs := [.slice none 0 0, .bool false]) rfl ⟨rfl, rfl, trivial⟩ ?_
      exact fun w' hb hs => ⟨_, _, ⟨none, 0, 0, rfl, rfl, rfl⟩, rfl, hb, hs.sel [0] _ (by decide) rfl⟩
    · refine JX.condF rfl hb ?_
      refine JX.skip ?_
      refine JE.code ?_
      refine JX.seq ?_
      refine JX.region ?_
      refine JL.eff (ef_buildSlice (E := 97) (k := eSToolMove.k) (us := eSToolMove.fl ([] : List SToolMove)) rfl (fun w => bsl28_0  w) rfl (by decide)) rfl ?_
      rintro _ _ ⟨a6, rfl, rfl⟩
      refine JL.val (yl_assign rfl) rfl ?_
      refine JL.nil ?_
      refine JE.code ?_
      refine JX.seq ?_
      refine JX.seq ?_
      refine JX.region ?_
      refine JL.val (yl_move rfl) rfl ?_
      refine JL.val (yl_len_slice Go.Proofs.Try.underlying49 rfl) rfl ?_
      refine JL.val (yl_move rfl) rfl ?_
      refine JL.nil ?_
      refine JE.code ?_
      refine JX.block ?_
      obtain ⟨y1, hy1, hresO1⟩ := bind_some hres
      refine JX.loop (I := fun (s1 : Int × List SToolMove) aa ww => ∃ (a8 : Option Addr) (cp9 : Nat), St w [] 73 [(6, .slice a8 s1.2.length cp9), (28, .slice a2 x1.1.length cp3), (29, .int .i64 (x1.1.length : Int)), (30, .int .i64 s1.1)] [rowT 97 eSToolMove a8 s1.2.length cp9 s1.2, rowT 9 eStr a2 x1.1.length cp3 x1.1] aa ww) (sh23_1 x1) hy1 (fun a w h => ⟨a6, 0, h.weak ⟨rfl, rfl, rfl, rfl, trivial⟩ [1, 0] (by decide) rfl⟩) ?_
      rintro ⟨x10, x11⟩ o1 hres hox1 aa ww ⟨a12, cp13, hS⟩
      refine (?_ : JX Go.Proofs.Try.prog w [] 73 _ _ [(6, .slice a12 x11.length cp13), (28, .slice a2 x1.1.length cp3), (29, .int .i64 (x1.1.length : Int)), (30, .int .i64 x10)] [rowT 97 eSToolMove a12 x11.length cp13 x11, rowT 9 eStr a2 x1.1.length cp3 x1.1] _) aa ww hS
      clear hS
      simp only [sh23_1] at hres
      refine JX.seq ?_
      refine JX.region ?_
      refine JL.val (yl_lss rfl rfl) rfl ?_
      refine JL.nil ?_
      refine JE.code ?_
      refine JX.seq ?_
      rcases cond_some hres with ⟨hb, hres⟩ | ⟨hb, hres⟩
      · refine JX.condT rfl hb ?_
        refine JX.skip ?_
        refine JE.code ?_
        refine JX.seq ?_
        refine JX.block ?_
        refine JX.seq ?_
        refine JX.region ?_
        obtain ⟨x14, hx14, hres⟩ := bind_some hres
        refine JL.val (yl_idxT Go.Proofs.Try.underlying49 i9 i9s rfl rfl hx14 rfl (fun w hC => rd_row hC 1 rfl)) rfl ?_
        refine JL.val (yl_loadT0 Go.Proofs.Try.underlying9 rfl rfl hx14 (fun w hC => rd_row hC 1 rfl) rfl) rfl ?_
        refine JL.val (yl_assign rfl) rfl ?_
        refine JL.nil ?_
        refine JE.code ?_
        refine JX.seq ?_
        refine JX.region ?_
        refine JL.val (yl_move rfl) rfl ?_
        obtain ⟨x15, hx15, hres⟩ := bind_some hres
        refine JL.eff (ef_call (T := T80 x15) Go.Proofs.Try.func80 rfl (by kernel_rfl) rfl (fun w hC => c80  hx15)) rfl ?_
        rintro _ _ ⟨_, ⟨a16, _, cp17, rfl, rfl, rfl⟩, rfl⟩
        refine JL.val (yl_assign rfl) rfl ?_
        refine JL.nil ?_
        refine JE.code ?_
        refine JX.seq ?_
        refine JX.seq ?_
        refine JX.region ?_
        refine JL.val (yl_move rfl) rfl ?_
        refine JL.val (yl_len_slice Go.Proofs.Try.underlying49 rfl) rfl ?_
        refine JL.val (yl_neq rfl rfl) rfl ?_
        refine JL.nil ?_
        refine JE.code ?_
        rcases cond_some hres with ⟨hb, hres⟩ | ⟨hb, hres⟩
        · refine JX.condT rfl hb ?_
          refine JX.seq ?_
          refine JX.region ?_
          refine JL.val (yl_assign rfl) rfl ?_
          refine JL.val (yl_assign rfl) rfl ?_
          refine JL.nil ?_
          refine JE.weak (env' := [(2, .slice none 0 0), (3, .bool false)]) (es' := []) [] ?_ ⟨rfl, rfl, trivial⟩ (by decide) rfl
          refine JE.code ?_
          refine JX.ret ?_
          refine JE.qbr ?_
          refine JE.qbr ?_
          refine JE.nilrow 97 eSToolMove ?_
          have hres := elimS_inr hresO1 (hox1 _ (Option.some.inj hres).symm)
          obtain rfl := Option.some.inj hres
          refine JE.ret (rs := [.tmp 2, .tmp 3]) (vs := [.slice none 0 0, .bool false]) rfl ⟨rfl, rfl, trivial⟩ ?_
          exact fun w' hb hs => ⟨_, _, ⟨none, 0, 0, rfl, rfl, rfl⟩, rfl, hb, hs.sel [0] _ (by decide) rfl⟩
        · refine JX.condF rfl hb ?_
          refine JX.skip ?_
          refine JE.code ?_
          refine JX.seq ?_
          refine JX.region ?_
          refine JL.val (yl_build rfl (fun w => bld101_  w)) rfl ?_
          refine JL.eff (ef_alloc i101 i101z rfl) rfl ?_
          rintro _ _ ⟨g20, rfl, rfl⟩
          refine JL.boxrow eI64 3 (m := 3) (List.replicate 3 (0 : Int)) rfl rfl (Nat.le_of_ble_eq_true rfl) rfl ?_
          refine JL.eff (ef_storeArr (ix := 3) (ys := List.replicate 3 (0 : Int)) i101 rfl rfl rfl rfl (i101s.trans rfl) i101p rfl) rfl ?_
          rintro _ _ rfl
          refine JL.nil ?_
          refine JE.code ?_
          refine JX.seq ?_
          refine JX.seq ?_
          refine JX.region ?_
          refine JL.val (yl_move rfl) rfl ?_
          refine JL.val (yl_len_slice Go.Proofs.Try.underlying49 rfl) rfl ?_
          refine JL.val (yl_move rfl) rfl ?_
          refine JL.nil ?_
          refine JE.code ?_
          refine JX.block ?_
          obtain ⟨y2, hy2, hresO2⟩ := bind_some hres
          refine JX.loop (I := fun (s2 : Int × List Int) aa ww => ∃ (l22 : s2.2.length = 3), St w [] 73 [(6, .slice a12 x11.length cp13), (10, ptrAt (some ⟨g20, 0, none⟩) 0), (28, .slice a2 x1.1.length cp3), (29, .int .i64 (x1.1.length : Int)), (30, .int .i64 x10), (40, .slice a16 x15.length cp17), (41, .int .i64 (x15.length : Int)), (42, .int .i64 s2.1)] [rowT 97 eSToolMove a12 x11.length cp13 x11, rowT 101 eI64 (some ⟨g20, 0, none⟩) 3 3 s2.2, rowT 9 eStr a2 x1.1.length cp3 x1.1, rowT 9 eStr a16 x15.length cp17 x15] aa ww) (sh23_2 x15) hy2 (fun a w h => ⟨(rfl : (List.replicate 3 (0 : Int)).length = 3), h.weak ⟨rfl, rfl, rfl, rfl, rfl, rfl, rfl, rfl, trivial⟩ [0, 3, 1, 2] (by decide) rfl⟩) ?_
          rintro ⟨x23, x24⟩ o2 hres hox2 aa ww ⟨l25, hS⟩
          refine (?_ : JX Go.Proofs.Try.prog w [] 73 _ _ [(6, .slice a12 x11.length cp13), (10, ptrAt (some ⟨g20, 0, none⟩) 0), (28, .slice a2 x1.1.length cp3), (29, .int .i64 (x1.1.length : Int)), (30, .int .i64 x10), (40, .slice a16 x15.length cp17), (41, .int .i64 (x15.length : Int)), (42, .int .i64 x23)] [rowT 97 eSToolMove a12 x11.length cp13 x11, rowT 101 eI64 (some ⟨g20, 0, none⟩) 3 3 x24, rowT 9 eStr a2 x1.1.length cp3 x1.1, rowT 9 eStr a16 x15.length cp17 x15] _) aa ww hS
          clear hS
          simp only [sh23_2] at hres
          refine JX.seq ?_
          refine JX.region ?_
          refine JL.val (yl_lss rfl rfl) rfl ?_
          refine JL.nil ?_
          refine JE.code ?_
          refine JX.seq ?_
          rcases cond_some hres with ⟨hb, hres⟩ | ⟨hb, hres⟩
          · refine JX.condT rfl hb ?_
            refine JX.skip ?_
            refine JE.code ?_
            refine JX.seq ?_
            refine JX.block ?_
            refine JX.seq ?_
            refine JX.region ?_
            refine JL.val (yl_move rfl) rfl ?_
            obtain ⟨x26, hx26, hres⟩ := bind_some hres
            refine JL.val (yl_idxT Go.Proofs.Try.underlying49 i9 i9s rfl rfl hx26 rfl (fun w hC => rd_row hC 3 rfl)) rfl ?_
            refine JL.val (yl_loadT0 Go.Proofs.Try.underlying9 rfl rfl hx26 (fun w hC => rd_row hC 3 rfl) rfl) rfl ?_
            refine JL.val (yl_assign rfl) rfl ?_
            refine JL.val (yl_assign rfl) rfl ?_
            refine JL.nil ?_
            refine JE.weak (env' := [(6, .slice a12 x11.length cp13), (10, ptrAt (some ⟨g20, 0, none⟩) 0), (11, .int .i64 x23), (12, .string x26), (28, .slice a2 x1.1.length cp3), (29, .int .i64 (x1.1.length : Int)), (30, .int .i64 x10), (40, .slice a16 x15.length cp17), (41, .int .i64 (x15.length : Int)), (42, .int .i64 x23)]) (es' := [rowT 97 eSToolMove a12 x11.length cp13 x11, rowT 101 eI64 (some ⟨g20, 0, none⟩) 3 3 x24, rowT 9 eStr a2 x1.1.length cp3 x1.1, rowT 9 eStr a16 x15.length cp17 x15]) [0, 1, 2, 3] ?_ ⟨rfl, rfl, rfl, rfl, rfl, rfl, rfl, rfl, rfl, rfl, trivial⟩ (by decide) rfl
            refine JE.code ?_
            refine JX.seq ?_
            refine JX.region ?_
            refine JL.val (yl_move rfl) rfl ?_
            obtain ⟨x27, hx27, hres⟩ := bind_some hres
            refine JL.eff (ef_call (T := T82 x27) Go.Proofs.Try.func82 rfl (by kernel_rfl) rfl (fun w hC => c82  hx27)) rfl ?_
            rintro _ _ ⟨_, ⟨rfl, rfl⟩, rfl⟩
            refine JL.val (yl_move rfl) rfl ?_
            refine JL.val (yl_extract rfl rfl) rfl ?_
            refine JL.val (yl_extract rfl rfl) rfl ?_
            refine JL.val (yl_assign rfl) rfl ?_
            refine JL.val (yl_assign rfl) rfl ?_
            refine JL.nil ?_
            refine JE.weak (env' := [(6, .slice a12 x11.length cp13), (10, ptrAt (some ⟨g20, 0, none⟩) 0), (11, .int .i64 x23), (13, .int .i64 x27.1), (14, .bool x27.2), (28, .slice a2 x1.1.length cp3), (29, .int .i64 (x1.1.length : Int)), (30, .int .i64 x10), (40, .slice a16 x15.length cp17), (41, .int .i64 (x15.length : Int)), (42, .int .i64 x23)]) (es' := [rowT 97 eSToolMove a12 x11.length cp13 x11, rowT 101 eI64 (some ⟨g20, 0, none⟩) 3 3 x24, rowT 9 eStr a2 x1.1.length cp3 x1.1, rowT 9 eStr a16 x15.length cp17 x15]) [0, 1, 2, 3] ?_ ⟨rfl, rfl, rfl, rfl, rfl, rfl, rfl, rfl, rfl, rfl, rfl, trivial⟩ (by decide) rfl
            refine JE.code ?_
            refine JX.seq ?_
            refine JX.seq ?_
            refine JX.region ?_
            refine JL.val (yl_move rfl) rfl ?_
            refine JL.val (yl_not rfl) rfl ?_
            refine JL.nil ?_
            refine JE.code ?_
            rcases cond_some hres with ⟨hb, hres⟩ | ⟨hb, hres⟩
            · refine JX.condT rfl hb ?_
              refine JX.seq ?_
              refine JX.region ?_
              refine JL.val (yl_assign rfl) rfl ?_
              refine JL.val (yl_assign rfl) rfl ?_
              refine JL.nil ?_
              refine JE.weak (env' := [(2, .slice none 0 0), (3, .bool false)]) (es' := []) [] ?_ ⟨rfl, rfl, trivial⟩ (by decide) rfl
              refine JE.code ?_
              refine JX.ret ?_
              refine JE.qbr ?_
              refine JE.qbr ?_
              refine JE.qbr ?_
              refine JE.qbr ?_
              refine JE.nilrow 97 eSToolMove ?_
              have hres := elimS_inr hresO2 (hox2 _ (Option.some.inj hres).symm)
              have hres := elimS_inr hresO1 (hox1 _ (Option.some.inj hres).symm)
              obtain rfl := Option.some.inj hres
              refine JE.ret (rs := [.tmp 2, .tmp 3]) (vs := [.slice none 0 0, .bool false]) rfl ⟨rfl, rfl, trivial⟩ ?_
              exact fun w' hb hs => ⟨_, _, ⟨none, 0, 0, rfl, rfl, rfl⟩, rfl, hb, hs.sel [0] _ (by decide) rfl⟩
            · refine JX.condF rfl hb ?_
              refine JX.skip ?_
              refine JE.code ?_
              refine JX.region ?_
              refine JL.val (yl_move rfl) rfl ?_
              refine JL.val (yl_move rfl) rfl ?_
              obtain ⟨x29, hx29, hres⟩ := bind_some hres
              refine JL.val (yl_idxArr (e := eI64) Go.Proofs.Try.underlying101 i2 i2s rfl rfl hx29 l25) rfl ?_
              refine JL.eff (ef_storeT (ix := 1) (u := x27.1) i2 i2s rfl rfl rfl hx29 rfl) rfl ?_
              rintro _ _ rfl
              refine JL.nil ?_
              refine JE.weak (env' := [(6, .slice a12 x11.length cp13), (10, ptrAt (some ⟨g20, 0, none⟩) 0), (28, .slice a2 x1.1.length cp3), (29, .int .i64 (x1.1.length : Int)), (30, .int .i64 x10), (40, .slice a16 x15.length cp17), (41, .int .i64 (x15.length : Int)), (42, .int .i64 x23)]) (es' := [rowT 97 eSToolMove a12 x11.length cp13 x11, rowT 101 eI64 (some ⟨g20, 0, none⟩) 3 3 (x24.set (x23).toNat x27.1), rowT 9 eStr a2 x1.1.length cp3 x1.1, rowT 9 eStr a16 x15.length cp17 x15]) [0, 1, 2, 3] ?_ ⟨rfl, rfl, rfl, rfl, rfl, rfl, rfl, rfl, trivial⟩ (by decide) rfl
              refine JE.code ?_
              refine JX.region ?_
              refine JL.val (yl_add rfl rfl) rfl ?_
              refine JL.val (yl_move rfl) rfl ?_
              refine JL.nil ?_
              refine JE.cont hres ?_
              exact fun a w h => ⟨(List.length_set.trans l25), h.weak ⟨rfl, rfl, rfl, rfl, rfl, rfl, rfl, rfl, trivial⟩ [0, 1, 2, 3] (by decide) rfl⟩
          · refine JX.condF rfl hb ?_
            refine JX.exit ?_
            refine JE.qb rfl ?_
            obtain ⟨b2, hb2⟩ : ∃ b : List Int, b = x24 := ⟨_, rfl⟩
            have hy2 : Sum.inl b2 = y2 := by rw [hb2]; exact hox2 _ (Option.some.inj hres).symm
            have hres := elimS_inl hresO2 hy2
            have l30 : b2.length = 3 := by subst hb2; exact l25
            refine JE.weak (env' := [(6, .slice a12 x11.length cp13), (10, ptrAt (some ⟨g20, 0, none⟩) 0), (28, .slice a2 x1.1.length cp3), (29, .int .i64 (x1.1.length : Int)), (30, .int .i64 x10)]) (es' := [rowT 97 eSToolMove a12 x11.length cp13 x11, rowT 101 eI64 (some ⟨g20, 0, none⟩) 3 3 b2, rowT 9 eStr a2 x1.1.length cp3 x1.1]) [0, 1, 2] ?_ ⟨(by subst hb2; rfl), (by subst hb2; rfl), (by subst hb2; rfl), (by subst hb2; rfl), (by subst hb2; rfl), trivial⟩ (by decide) (by subst hb2; rfl)
            refine JE.code ?_
            refine JX.region ?_
            refine JL.val (yl_move rfl) rfl ?_
            obtain ⟨x31, hx31, hres⟩ := bind_some hres
            refine JL.val (yl_idxArr (e := eI64) Go.Proofs.Try.underlying101 i2 i2s rfl rfl hx31 l30) rfl ?_
            refine JL.val (yl_loadT0 Go.Proofs.Try.underlying2 rfl rfl hx31 (fun w hC => rd_row hC 1 rfl) rfl) rfl ?_
            obtain ⟨x32, hx32, hres⟩ := bind_some hres
            refine JL.val (yl_idxArr (e := eI64) Go.Proofs.Try.underlying101 i2 i2s rfl rfl hx32 l30) rfl ?_
            refine JL.val (yl_loadT0 Go.Proofs.Try.underlying2 rfl rfl hx32 (fun w hC => rd_row hC 1 rfl) rfl) rfl ?_
            obtain ⟨x33, hx33, hres⟩ := bind_some hres
            refine JL.val (yl_idxArr (e := eI64) Go.Proofs.Try.underlying101 i2 i2s rfl rfl hx33 l30) rfl ?_
            refine JL.val (yl_loadT0 Go.Proofs.Try.underlying2 rfl rfl hx33 (fun w hC => rd_row hC 1 rfl) rfl) rfl ?_
            refine JL.val (yl_build rfl (fun w => bld97_0_1_2 x31 x32 x33 w)) rfl ?_
            refine JL.eff (ef_buildSlice (E := 97) (k := eSToolMove.k) (us := eSToolMove.fl [SToolMove.mk x31 x32 x33]) rfl (fun w => bsl28_1 x31 x32 x33 w) rfl (by decide)) rfl ?_
            rintro _ _ ⟨a34, rfl, rfl⟩
            obtain ⟨x36, hx36, hres⟩ := bind_some hres
            refine JL.eff (ef_appendT (ix := 0) Go.Proofs.Try.underlying28 i97 i97z i97s rfl i97b0 i97b1 rfl rfl rfl rfl rfl (fun w hC => rd_row hC 3 rfl) hx36) rfl ?_
            rintro _ _ ⟨a37, cp38, rfl, rfl⟩
            refine JL.val (yl_assign rfl) rfl ?_
            refine JL.nil ?_
            refine JE.weak (env' := [(6, .slice a37 x36.length cp38), (28, .slice a2 x1.1.length cp3), (29, .int .i64 (x1.1.length : Int)), (30, .int .i64 x10)]) (es' := [rowT 97 eSToolMove a37 x36.length cp38 x36, rowT 9 eStr a2 x1.1.length cp3 x1.1]) [0, 2] ?_ ⟨rfl, rfl, rfl, rfl, trivial⟩ (by decide) rfl
            refine JE.code ?_
            refine JX.region ?_
            refine JL.val (yl_add rfl rfl) rfl ?_
            refine JL.val (yl_move rfl) rfl ?_
            refine JL.nil ?_
            refine JE.cont hres ?_
            exact fun a w h => ⟨a37, cp38, h.weak ⟨rfl, rfl, rfl, rfl, trivial⟩ [0, 1] (by decide) rfl⟩
      · refine JX.condF rfl hb ?_
        refine JX.exit ?_
        refine JE.qb rfl ?_
        obtain ⟨b1, hb1⟩ : ∃ b : List SToolMove, b = x11 := ⟨_, rfl⟩
        have hy1 : Sum.inl b1 = y1 := by rw [hb1]; exact hox1 _ (Option.some.inj hres).symm
        have hres := elimS_inl hresO1 hy1
        refine JE.weak (env' := [(6, .slice a12 b1.length cp13)]) (es' := [rowT 97 eSToolMove a12 b1.length cp13 b1]) [0] ?_ ⟨(by subst hb1; rfl), trivial⟩ (by decide) (by subst hb1; rfl)
        refine JE.code ?_
        refine JX.seq ?_
        refine JX.seq ?_
        refine JX.region ?_
        refine JL.val (yl_move rfl) rfl ?_
        obtain ⟨x41, hx41, hres⟩ := bind_some hres
        refine JL.eff (ef_call (T := T93 x41) Go.Proofs.Try.func93 rfl (by kernel_rfl) rfl (fun w hC => c93 (rd_row hC 0 rfl) rfl (ln_row hC 0 rfl) hx41)) rfl ?_
        rintro _ _ ⟨_, ⟨rfl, rfl⟩, rfl⟩
        refine JL.val (yl_not rfl) rfl ?_
        refine JL.nil ?_
        refine JE.code ?_
        rcases cond_some hres with ⟨hb, hres⟩ | ⟨hb, hres⟩
        · refine JX.condT rfl hb ?_
          refine JX.seq ?_
          refine JX.region ?_
          refine JL.val (yl_assign rfl) rfl ?_
          refine JL.val (yl_assign rfl) rfl ?_
          refine JL.nil ?_
          refine JE.weak (env' := [(2, .slice none 0 0), (3, .bool false)]) (es' := []) [] ?_ ⟨rfl, rfl, trivial⟩ (by decide) rfl
          refine JE.code ?_
          refine JX.ret ?_
          refine JE.nilrow 97 eSToolMove ?_
          obtain rfl := Option.some.inj hres
          refine JE.ret (rs := [.tmp 2, .tmp 3]) (vs := [.slice none 0 0, .bool false]) rfl ⟨rfl, rfl, trivial⟩ ?_
          exact fun w' hb hs => ⟨_, _, ⟨none, 0, 0, rfl, rfl, rfl⟩, rfl, hb, hs.sel [0] _ (by decide) rfl⟩
        · refine JX.condF rfl hb ?_
          refine JX.skip ?_
          refine JE.code ?_
          refine JX.seq ?_
          refine JX.region ?_
          refine JL.val (yl_move rfl) rfl ?_
          refine JL.val (yl_assign rfl) rfl ?_
          refine JL.val (yl_assign rfl) rfl ?_
          refine JL.nil ?_
          refine JE.code ?_
          refine JX.ret ?_
          obtain rfl := Option.some.inj hres
          refine JE.ret (rs := [.tmp 2, .tmp 3]) (vs := [.slice a12 b1.length cp13, .bool true]) rfl ⟨rfl, rfl, trivial⟩ ?_
          exact fun w' hb hs => ⟨_, _, ⟨a12, b1.length, cp13, rfl, rfl, rfl⟩, rfl, hb, hs.sel [0] _ (by decide) rfl⟩
  · intro K
    rcases Bool.eq_false_or_eq_true (!x1.2) with hb | hb
    · refine JL.set (d := 22) (v := .bool true) (congrArg (fun b => some (Value.bool b)) hb) ?_
      refine JL.gskip rfl rfl rfl rfl ?_
      refine JL.gskip rfl rfl rfl rfl ?_
      refine JL.gskip rfl rfl rfl rfl ?_
      refine JL.val (yl_pick_true rfl rfl) rfl ?_
      exact JL.weak [0] K ⟨rfl, (by rw [hb]; rfl), trivial⟩ (by decide) rfl
    · refine JL.set (d := 22) (v := .bool false) (congrArg (fun b => some (Value.bool b)) hb) ?_
      refine JL.gval rfl rfl (yl_move rfl) rfl ?_
      refine JL.gval rfl rfl (yl_len_slice Go.Proofs.Try.underlying49 rfl) rfl ?_
      refine JL.gval rfl rfl (yl_gtr rfl rfl) rfl ?_
      refine JL.val (yl_pick_false rfl rfl) rfl ?_
      exact JL.weak [0] K ⟨rfl, (by rw [hb]; rfl), trivial⟩ (by decide) rfl

/- laws.eqToolMove -/
def sh94 (q0 : SToolMove) (q1 : SToolMove) : Option (Bool) := bif q0.X != q1.X then (some false) else (bif q0.Y != q1.Y then (some false) else (bif q0.Z != q1.Z then (some false) else (some true)))
def T94 (r : Bool) (v : Value) (rs : List Own) : Prop := v = rets [.bool r] ∧ rs = []
set_option maxRecDepth 100000 in
theorem c94 {w : World} {q0 : SToolMove} {q1 : SToolMove} {r : Bool} (hres : sh94 q0 q1 = some r) : Calls Go.Proofs.Try.prog 94 [.agg #[.int .i64 q0.X, .int .i64 q0.Y, .int .i64 q0.Z], .agg #[.int .i64 q1.X, .int .i64 q1.Y, .int .i64 q1.Z]].toArray w (Ret w (T94 r)) := by
  unfold sh94 at hres
  refine calls_of (n := 20) (M := []) (es := []) Go.Proofs.Try.func94 rfl rfl rfl (Sep.nil _ _ _) ?_
  refine JX.seq ?_
  refine JX.region ?_
  refine JL.eff (ef_box rfl rfl) rfl ?_
  rintro _ _ ⟨g1, rfl, rfl⟩
  refine JL.eff (ef_box rfl rfl) rfl ?_
  rintro _ _ ⟨g3, rfl, rfl⟩
  refine JL.val (yl_assign rfl) rfl ?_
  refine JL.nil ?_
  refine JE.code ?_
  refine JX.seq ?_
  refine JX.seq ?_
  refine JX.region ?_
  refine JL.val (yl_fieldAt (a := some _) Go.Proofs.Try.underlying97 rfl i2 i2n rfl rfl) rfl ?_
  refine JL.val (yl_load1 Go.Proofs.Try.underlying2 rfl rfl (fun w hC => rd_box hC 0 rfl) rfl) rfl ?_
  refine JL.val (yl_fieldAt (a := some _) Go.Proofs.Try.underlying97 rfl i2 i2n rfl rfl) rfl ?_
  refine JL.val (yl_load1 Go.Proofs.Try.underlying2 rfl rfl (fun w hC => rd_box hC 1 rfl) rfl) rfl ?_
  refine JL.val (yl_neq rfl rfl) rfl ?_
  refine JL.nil ?_
  refine JE.weak (env' := [(2, ptrAt (some ⟨g1, 0, none⟩) 0), (3, ptrAt (some ⟨g3, 0, none⟩) 0), (9, .bool (q0.X != q1.X))]) (es' := [boxO 97 g1 [.int .i64 q0.X, .int .i64 q0.Y, .int .i64 q0.Z], boxO 97 g3 [.int .i64 q1.X, .int .i64 q1.Y, .int .i64 q1.Z]]) [0, 1] ?_ ⟨rfl, rfl, rfl, trivial⟩ (by decide) rfl
  refine JE.code ?_
  rcases cond_some hres with ⟨hb, hres⟩ | ⟨hb, hres⟩
  · refine JX.condT rfl hb ?_
    refine JX.seq ?_
    refine JX.region ?_
    refine JL.val (yl_assign rfl) rfl ?_
    refine JL.nil ?_
    refine JE.weak (env' := [(4, .bool false)]) (es' := []) [] ?_ ⟨rfl, trivial⟩ (by decide) rfl
    refine JE.code ?_
    refine JX.ret ?_
    obtain rfl := Option.some.inj hres
    refine JE.ret (rs := [.tmp 4]) (vs := [.bool false]) rfl ⟨rfl, trivial⟩ ?_
    exact fun w' hb hs => ⟨_, _, ⟨rfl, rfl⟩, rfl, hb, hs.sel [] _ (by decide) rfl⟩
  · refine JX.condF rfl hb ?_
    refine JX.skip ?_
    refine JE.code ?_
    refine JX.seq ?_
    refine JX.seq ?_
    refine JX.region ?_
    refine JL.val (yl_fieldAt (a := some _) Go.Proofs.Try.underlying97 rfl i2 i2n rfl rfl) rfl ?_
    refine JL.val (yl_load1 Go.Proofs.Try.underlying2 rfl rfl (fun w hC => rd_box hC 0 rfl) rfl) rfl ?_
    refine JL.val (yl_fieldAt (a := some _) Go.Proofs.Try.underlying97 rfl i2 i2n rfl rfl) rfl ?_
    refine JL.val (yl_load1 Go.Proofs.Try.underlying2 rfl rfl (fun w hC => rd_box hC 1 rfl) rfl) rfl ?_
    refine JL.val (yl_neq rfl rfl) rfl ?_
    refine JL.nil ?_
    refine JE.weak (env' := [(2, ptrAt (some ⟨g1, 0, none⟩) 0), (3, ptrAt (some ⟨g3, 0, none⟩) 0), (14, .bool (q0.Y != q1.Y))]) (es' := [boxO 97 g1 [.int .i64 q0.X, .int .i64 q0.Y, .int .i64 q0.Z], boxO 97 g3 [.int .i64 q1.X, .int .i64 q1.Y, .int .i64 q1.Z]]) [0, 1] ?_ ⟨rfl, rfl, rfl, trivial⟩ (by decide) rfl
    refine JE.code ?_
    rcases cond_some hres with ⟨hb, hres⟩ | ⟨hb, hres⟩
    · refine JX.condT rfl hb ?_
      refine JX.seq ?_
      refine JX.region ?_
      refine JL.val (yl_assign rfl) rfl ?_
      refine JL.nil ?_
      refine JE.weak (env' := [(4, .bool false)]) (es' := []) [] ?_ ⟨rfl, trivial⟩ (by decide) rfl
      refine JE.code ?_
      refine JX.ret ?_
      obtain rfl := Option.some.inj hres
      refine JE.ret (rs := [.tmp 4]) (vs := [.bool false]) rfl ⟨rfl, trivial⟩ ?_
      exact fun w' hb hs => ⟨_, _, ⟨rfl, rfl⟩, rfl, hb, hs.sel [] _ (by decide) rfl⟩
    · refine JX.condF rfl hb ?_
      refine JX.skip ?_
      refine JE.code ?_
      refine JX.seq ?_
      refine JX.seq ?_
      refine JX.region ?_
      refine JL.val (yl_fieldAt (a := some _) Go.Proofs.Try.underlying97 rfl i2 i2n rfl rfl) rfl ?_
      refine JL.val (yl_load1 Go.Proofs.Try.underlying2 rfl rfl (fun w hC => rd_box hC 0 rfl) rfl) rfl ?_
      refine JL.val (yl_fieldAt (a := some _) Go.Proofs.Try.underlying97 rfl i2 i2n rfl rfl) rfl ?_
      refine JL.val (yl_load1 Go.Proofs.Try.underlying2 rfl rfl (fun w hC => rd_box hC 1 rfl) rfl) rfl ?_
      refine JL.val (yl_neq rfl rfl) rfl ?_
      refine JL.nil ?_
      refine JE.weak (env' := [(19, .bool (q0.Z != q1.Z))]) (es' := []) [] ?_ ⟨rfl, trivial⟩ (by decide) rfl
      refine JE.code ?_
      rcases cond_some hres with ⟨hb, hres⟩ | ⟨hb, hres⟩
      · refine JX.condT rfl hb ?_
        refine JX.seq ?_
        refine JX.region ?_
        refine JL.val (yl_assign rfl) rfl ?_
        refine JL.nil ?_
        refine JE.code ?_
        refine JX.ret ?_
        obtain rfl := Option.some.inj hres
        refine JE.ret (rs := [.tmp 4]) (vs := [.bool false]) rfl ⟨rfl, trivial⟩ ?_
        exact fun w' hb hs => ⟨_, _, ⟨rfl, rfl⟩, rfl, hb, hs.sel [] _ (by decide) rfl⟩
      · refine JX.condF rfl hb ?_
        refine JX.skip ?_
        refine JE.code ?_
        refine JX.seq ?_
        refine JX.region ?_
        refine JL.val (yl_assign rfl) rfl ?_
        refine JL.nil ?_
        refine JE.code ?_
        refine JX.ret ?_
        obtain rfl := Option.some.inj hres
        refine JE.ret (rs := [.tmp 4]) (vs := [.bool true]) rfl ⟨rfl, trivial⟩ ?_
        exact fun w' hb hs => ⟨_, _, ⟨rfl, rfl⟩, rfl, hb, hs.sel [] _ (by decide) rfl⟩

/- laws.eqToolMoveS -/
def sh24_1 (q0 : List SToolMove) (q1 : List SToolMove) : Int → Option (Int ⊕ (Unit ⊕ Bool))
  | x1 => bif decide (x1 < (q0.length : Int)) then (Option.bind (getI q0 x1) fun x3 => Option.bind (getI q1 x1) fun x4 => Option.bind (sh94 x3 x4) fun x5 => bif !x5 then (some (.inr (.inr false))) else (some (.inl (w64 (x1 + 1))))) else (some (.inr (.inl ())))
def sh24 (q0 : List SToolMove) (q1 : List SToolMove) : Option (Bool) := bif (q0.length : Int) != (q1.length : Int) then (some false) else (Option.bind (iter (sh24_1 q0 q1) 0) fun y1 => elimS y1 (fun r => some r) fun b1 => (some true))
def T24 (r : Bool) (v : Value) (rs : List Own) : Prop := v = rets [.bool r] ∧ rs = []
set_option maxRecDepth 100000 in
theorem c24 {w : World} {q0 : List SToolMove} {a_0 : Option Addr} {n_0 c_0 : Nat} (g_0 : Rd w a_0 (eSToolMove.fl q0)) (l_0 : q0.length = n_0) (k_0 : n_0 ≤ c_0) {q1 : List SToolMove} {a_1 : Option Addr} {n_1 c_1 : Nat} (g_1 : Rd w a_1 (eSToolMove.fl q1)) (l_1 : q1.length = n_1) (k_1 : n_1 ≤ c_1) {r : Bool} (hres : sh24 q0 q1 = some r) : Calls Go.Proofs.Try.prog 24 [.slice a_0 n_0 c_0, .slice a_1 n_1 c_1].toArray w (Ret w (T24 r)) := by
  subst l_0
  subst l_1
  unfold sh24 at hres
  refine calls_of (n := 27) (M := []) (es := []) Go.Proofs.Try.func24 rfl rfl rfl (Sep.nil _ _ _) ?_
  refine JX.seq ?_
  refine JX.region ?_
  refine JL.val (yl_assign rfl) rfl ?_
  refine JL.nil ?_
  refine JE.code ?_
  refine JX.seq ?_
  refine JX.seq ?_
  refine JX.region ?_
  refine JL.val (yl_move rfl) rfl ?_
  refine JL.val (yl_len_slice Go.Proofs.Try.underlying28 rfl) rfl ?_
  refine JL.val (yl_move rfl) rfl ?_
  refine JL.val (yl_len_slice Go.Proofs.Try.underlying28 rfl) rfl ?_
  refine JL.val (yl_neq rfl rfl) rfl ?_
  refine JL.nil ?_
  refine JE.weak (env' := [(0, .slice a_0 q0.length c_0), (1, .slice a_1 q1.length c_1), (10, .bool ((q0.length : Int) != (q1.length : Int)))]) (es' := []) [] ?_ ⟨rfl, rfl, rfl, trivial⟩ (by decide) rfl
  refine JE.code ?_
  rcases cond_some hres with ⟨hb, hres⟩ | ⟨hb, hres⟩
  · refine JX.condT rfl hb ?_
    refine JX.seq ?_
    refine JX.region ?_
    refine JL.val (yl_assign rfl) rfl ?_
    refine JL.nil ?_
    refine JE.code ?_
    refine JX.ret ?_
    obtain rfl := Option.some.inj hres
    refine JE.ret (rs := [.tmp 4]) (vs := [.bool false]) rfl ⟨rfl, trivial⟩ ?_
    exact fun w' hb hs => ⟨_, _, ⟨rfl, rfl⟩, rfl, hb, hs.sel [] _ (by decide) rfl⟩
  · refine JX.condF rfl hb ?_
    refine JX.skip ?_
    refine JE.code ?_
    refine JX.seq ?_
    refine JX.seq ?_
    refine JX.region ?_
    refine JL.val (yl_assign rfl) rfl ?_
    refine JL.nil ?_
    refine JE.code ?_
    refine JX.block ?_
    obtain ⟨y1, hy1, hresO1⟩ := bind_some hres
    refine JX.loop (I := fun (s1 : Int) aa ww => St w [] 27 [(0, .slice a_0 q0.length c_0), (1, .slice a_1 q1.length c_1), (5, .int .i64 s1)] [] aa ww) (sh24_1 q0 q1) hy1 (fun a w h => h.weak ⟨rfl, rfl, rfl, trivial⟩ [] (by decide) rfl) ?_
    rintro x1 o1 hres hox1 aa ww hS
    refine (?_ : JX Go.Proofs.Try.prog w [] 27 _ _ [(0, .slice a_0 q0.length c_0), (1, .slice a_1 q1.length c_1), (5, .int .i64 x1)] [] _) aa ww hS
    clear hS
    unfold sh24_1 at hres
    refine JX.seq ?_
    refine JX.seq ?_
    refine JX.region ?_
    refine JL.val (yl_move rfl) rfl ?_
    refine JL.val (yl_move rfl) rfl ?_
    refine JL.val (yl_len_slice Go.Proofs.Try.underlying28 rfl) rfl ?_
    refine JL.val (yl_lss rfl rfl) rfl ?_
    refine JL.nil ?_
    refine JE.weak (env' := [(0, .slice a_0 q0.length c_0), (1, .slice a_1 q1.length c_1), (5, .int .i64 x1), (14, .bool (decide (x1 < (q0.length : Int))))]) (es' := []) [] ?_ ⟨rfl, rfl, rfl, rfl, trivial⟩ (by decide) rfl
    refine JE.code ?_
    rcases cond_some hres with ⟨hb, hres⟩ | ⟨hb, hres⟩
    · refine JX.condT rfl hb ?_
      refine JX.skip ?_
      refine JE.code ?_
      refine JX.seq ?_
      refine JX.block ?_
      refine JX.seq ?_
      refine JX.drawH [(0, .pure), (1, .pure), (2, .pure), (3, .read), (4, .pure), (5, .pure), (6, .pure), (7, .read), (8, .must), (9, .pure)] [] [] [] [] [] mixedP (by kernel_rfl) (by kernel_rfl) (by decide) rfl rfl ?_
      intro wrr2 Nr2 hFr2
      refine JH.pure rfl (yl_move rfl) rfl ?_
      refine JH.pure rfl (yl_move rfl) rfl ?_
      obtain ⟨x3, hx3, hres⟩ := bind_some hres
      refine JH.pure rfl (yl_idxQ Go.Proofs.Try.underlying28 i97 i97s rfl rfl hx3 rfl (rd_arg g_0 hFr2.cl) rfl) rfl ?_
      refine JH.read rfl (yl_loadTn Go.Proofs.Try.underlying97 rfl i97 i97s rfl hx3 (fun w hw => hFr2.arg g_0 hw)) rfl ?_
      refine JH.pure rfl (yl_move rfl) rfl ?_
      refine JH.pure rfl (yl_move rfl) rfl ?_
      obtain ⟨x4, hx4, hres⟩ := bind_some hres
      refine JH.pure rfl (yl_idxQ Go.Proofs.Try.underlying28 i97 i97s rfl rfl hx4 rfl (rd_arg g_1 hFr2.cl) rfl) rfl ?_
      refine JH.read rfl (yl_loadTn Go.Proofs.Try.underlying97 rfl i97 i97s rfl hx4 (fun w hw => hFr2.arg g_1 hw)) rfl ?_
      obtain ⟨x5, hx5, hres⟩ := bind_some hres
      refine JH.must rfl (ef_call (vs := [.agg #[.int .i64 x3.X, .int .i64 x3.Y, .int .i64 x3.Z], .agg #[.int .i64 x4.X, .int .i64 x4.Y, .int .i64 x4.Z]]) (T := T94 x5) Go.Proofs.Try.func94 rfl (by kernel_rfl) rfl (fun w hC => c94 (q0 := x3) (q1 := x4) hx5)) rfl rfl ?_
      rintro _ _ ⟨_, ⟨rfl, rfl⟩, rfl⟩
      refine JH.pure rfl (yl_not rfl) rfl ?_
      refine JH.nil ?_
      refine JE.weak (env' := [(0, .slice a_0 q0.length c_0), (1, .slice a_1 q1.length c_1), (5, .int .i64 x1), (26, .bool !x5)]) (es' := []) [] ?_ ⟨rfl, rfl, rfl, rfl, trivial⟩ (by decide) rfl
      refine JE.code ?_
      rcases cond_some hres with ⟨hb, hres⟩ | ⟨hb, hres⟩
      · refine JX.condT rfl hb ?_
        refine JX.seq ?_
        refine JX.region ?_
        refine JL.val (yl_assign rfl) rfl ?_
        refine JL.nil ?_
        refine JE.code ?_
        refine JX.ret ?_
        refine JE.qbr ?_
        refine JE.qbr ?_
        have hres := elimS_inr hresO1 (hox1 _ (Option.some.inj hres).symm)
        obtain rfl := Option.some.inj hres
        refine JE.ret (rs := [.tmp 4]) (vs := [.bool false]) rfl ⟨rfl, trivial⟩ ?_
        exact fun w' hb hs => ⟨_, _, ⟨rfl, rfl⟩, rfl, hb, hs.sel [] _ (by decide) rfl⟩
      · refine JX.condF rfl hb ?_
        refine JX.skip ?_
        refine JE.code ?_
        refine JX.region ?_
        refine JL.val (yl_move rfl) rfl ?_
        refine JL.val (yl_add rfl rfl) rfl ?_
        refine JL.val (yl_assign rfl) rfl ?_
        refine JL.nil ?_
        refine JE.cont hres ?_
        exact fun a w h => h.weak ⟨rfl, rfl, rfl, trivial⟩ [] (by decide) rfl
    · refine JX.condF rfl hb ?_
      refine JX.exit ?_
      refine JE.qb rfl ?_
      obtain ⟨b1, hb1⟩ : ∃ b : Unit, b = () := ⟨_, rfl⟩
      have hy1 : Sum.inl b1 = y1 := by rw [hb1]; exact hox1 _ (Option.some.inj hres).symm
      have hres := elimS_inl hresO1 hy1
      refine JE.weak (env' := []) (es' := []) [] ?_ trivial (by decide) (by subst hb1; rfl)
      refine JE.code ?_
      refine JX.seq ?_
      refine JX.region ?_
      refine JL.val (yl_assign rfl) rfl ?_
      refine JL.nil ?_
      refine JE.code ?_
      refine JX.ret ?_
      obtain rfl := Option.some.inj hres
      refine JE.ret (rs := [.tmp 4]) (vs := [.bool true]) rfl ⟨rfl, trivial⟩ ?_
      exact fun w' hb hs => ⟨_, _, ⟨rfl, rfl⟩, rfl, hb, hs.sel [] _ (by decide) rfl⟩

/- laws.markToolMoveS -/
def sh25_1 (q0 : List SToolMove) : (Int × Int × List SToolMove) → Option ((Int × Int × List SToolMove) ⊕ (Int × List SToolMove))
  | (x2, x3, x4) => bif decide (x3 < ((q0.length : Nat) : Int)) then (Option.bind (getI x4 x3) fun x6 => Option.bind (getI (x4.set (x3).toNat (SToolMove.mk x2 x6.Y x6.Z)) x3) fun x7 => Option.bind (getI ((x4.set (x3).toNat (SToolMove.mk x2 x6.Y x6.Z)).set (x3).toNat (SToolMove.mk x7.X (w64 (x2 + 1)) x7.Z)) x3) fun x8 => some (.inl (w64 ((w64 ((w64 (x2 + 1)) + 1)) + 1), w64 (x3 + 1), ((x4.set (x3).toNat (SToolMove.mk x2 x6.Y x6.Z)).set (x3).toNat (SToolMove.mk x7.X (w64 (x2 + 1)) x7.Z)).set (x3).toNat (SToolMove.mk x8.X x8.Y (w64 ((w64 (x2 + 1)) + 1)))))) else (some (.inr (x2, x4)))
def sh25 (q0 : List SToolMove) (q1 : Int) : Option (Int × List SToolMove) := Option.bind (iter (sh25_1 q0) (q1, 0, q0)) fun b1 => (some (b1.1, b1.2))
def T25 (a_ : Option Addr) (n_ c_ : Nat) (r : Int × List SToolMove) (v : Value) (e' : Own) (rs : List Own) : Prop := r.2.length = n_ ∧ e' = rowT 97 eSToolMove a_ n_ c_ r.2 ∧ v = rets [.int .i64 r.1] ∧ rs = []
set_option maxRecDepth 100000 in
theorem c25 {w : World} {q0 : List SToolMove} {a_0 : Option Addr} {n_0 c_0 : Nat} {M : List Nat} (g_0 : Sep w.heap.size M w [rowT 97 eSToolMove a_0 n_0 c_0 q0]) (l_0 : q0.length = n_0) {q1 : Int} {r : Int × List SToolMove} (hres : sh25 q0 q1 = some r) : Calls Go.Proofs.Try.prog 25 [.slice a_0 n_0 c_0, .int .i64 q1].toArray w (RetM w M (T25 a_0 n_0 c_0 r)) := by
  subst l_0
  unfold sh25 at hres
  refine calls_of (n := 34) (M := M) (es := [rowT 97 eSToolMove a_0 q0.length c_0 q0]) Go.Proofs.Try.func25 rfl rfl rfl g_0 ?_
  refine JX.seq ?_
  refine JX.region ?_
  refine JL.val (yl_assign rfl) rfl ?_
  refine JL.nil ?_
  refine JE.code ?_
  refine JX.seq ?_
  refine JX.seq ?_
  refine JX.region ?_
  refine JL.val (yl_assign rfl) rfl ?_
  refine JL.nil ?_
  refine JE.code ?_
  refine JX.block ?_
  obtain ⟨y1, hy1, hresO1⟩ := bind_some hres
  refine JX.loop (I := fun (s1 : Int × Int × List SToolMove) aa ww => ∃ (l1 : s1.2.2.length = q0.length), St w M 34 [(0, .slice a_0 q0.length c_0), (1, .int .i64 s1.1), (5, .int .i64 s1.2.1)] [rowT 97 eSToolMove a_0 q0.length c_0 s1.2.2] aa ww) (sh25_1 q0) hy1 (fun a w h => ⟨rfl, h.weak ⟨rfl, rfl, rfl, trivial⟩ [0] (by decide) rfl⟩) ?_
  rintro ⟨x2, x3, x4⟩ o1 hres hox1 aa ww ⟨l5, hS⟩
  refine (?_ : JX Go.Proofs.Try.prog w M 34 _ _ [(0, .slice a_0 q0.length c_0), (1, .int .i64 x2), (5, .int .i64 x3)] [rowT 97 eSToolMove a_0 q0.length c_0 x4] _) aa ww hS
  clear hS
  simp only [sh25_1] at hres
  refine JX.seq ?_
  refine JX.seq ?_
  refine JX.region ?_
  refine JL.val (yl_move rfl) rfl ?_
  refine JL.val (yl_move rfl) rfl ?_
  refine JL.val (yl_len_slice Go.Proofs.Try.underlying28 rfl) rfl ?_
  refine JL.val (yl_lss rfl rfl) rfl ?_
  refine JL.nil ?_
  refine JE.weak (env' := [(0, .slice a_0 q0.length c_0), (1, .int .i64 x2), (5, .int .i64 x3), (9, .bool (decide (x3 < ((q0.length : Nat) : Int))))]) (es' := [rowT 97 eSToolMove a_0 q0.length c_0 x4]) [0] ?_ ⟨rfl, rfl, rfl, rfl, trivial⟩ (by decide) rfl
  refine JE.code ?_
  rcases cond_some hres with ⟨hb, hres⟩ | ⟨hb, hres⟩
  · refine JX.condT rfl hb ?_
    refine JX.skip ?_
    refine JE.code ?_
    refine JX.seq ?_
    refine JX.block ?_
    refine JX.seq ?_
    refine JX.region ?_
    refine JL.val (yl_move rfl) rfl ?_
    refine JL.val (yl_move rfl) rfl ?_
    refine JL.val (yl_move rfl) rfl ?_
    obtain ⟨x6, hx6, hres⟩ := bind_some hres
    refine JL.val (yl_idxT Go.Proofs.Try.underlying28 i97 i97s rfl rfl hx6 l5 (fun w hC => rd_row hC 0 rfl)) rfl ?_
    refine JL.val (yl_fieldAtT Go.Proofs.Try.underlying97 rfl i2 i2n rfl hx6 (fun w hC => rd_row hC 0 rfl)) rfl ?_
    refine JL.eff (ef_storeF (ix := 0) (u := SToolMove.mk x2 x6.Y x6.Z) i2 i2s rfl rfl rfl hx6 (by decide) rfl rfl rfl) rfl ?_
    rintro _ _ rfl
    refine JL.nil ?_
    refine JE.weak (env' := [(0, .slice a_0 q0.length c_0), (1, .int .i64 x2), (5, .int .i64 x3)]) (es' := [rowT 97 eSToolMove a_0 q0.length c_0 (x4.set (x3).toNat (SToolMove.mk x2 x6.Y x6.Z))]) [0] ?_ ⟨rfl, rfl, rfl, trivial⟩ (by decide) rfl
    refine JE.code ?_
    refine JX.seq ?_
    refine JX.region ?_
    refine JL.val (yl_move rfl) rfl ?_
    refine JL.val (yl_add rfl rfl) rfl ?_
    refine JL.val (yl_assign rfl) rfl ?_
    refine JL.nil ?_
    refine JE.code ?_
    refine JX.seq ?_
    refine JX.region ?_
    refine JL.val (yl_move rfl) rfl ?_
    refine JL.val (yl_move rfl) rfl ?_
    refine JL.val (yl_move rfl) rfl ?_
    obtain ⟨x7, hx7, hres⟩ := bind_some hres
    refine JL.val (yl_idxT Go.Proofs.Try.underlying28 i97 i97s rfl rfl hx7 (List.length_set.trans l5) (fun w hC => rd_row hC 0 rfl)) rfl ?_
    refine JL.val (yl_fieldAtT Go.Proofs.Try.underlying97 rfl i2 i2n rfl hx7 (fun w hC => rd_row hC 0 rfl)) rfl ?_
    refine JL.eff (ef_storeF (ix := 0) (u := SToolMove.mk x7.X (w64 (x2 + 1)) x7.Z) i2 i2s rfl rfl rfl hx7 (by decide) rfl rfl rfl) rfl ?_
    rintro _ _ rfl
    refine JL.nil ?_
    refine JE.weak (env' := [(0, .slice a_0 q0.length c_0), (1, .int .i64 (w64 (x2 + 1))), (5, .int .i64 x3)]) (es' := [rowT 97 eSToolMove a_0 q0.length c_0 ((x4.set (x3).toNat (SToolMove.mk x2 x6.Y x6.Z)).set (x3).toNat (SToolMove.mk x7.X (w64 (x2 + 1)) x7.Z))]) [0] ?_ ⟨rfl, rfl, rfl, trivial⟩ (by decide) rfl
    refine JE.code ?_
    refine JX.seq ?_
    refine JX.region ?_
    refine JL.val (yl_move rfl) rfl ?_
    refine JL.val (yl_add rfl rfl) rfl ?_
    refine JL.val (yl_assign rfl) rfl ?_
    refine JL.nil ?_
    refine JE.code ?_
    refine JX.seq ?_
    refine JX.region ?_
    refine JL.val (yl_move rfl) rfl ?_
    refine JL.val (yl_move rfl) rfl ?_
    refine JL.val (yl_move rfl) rfl ?_
    obtain ⟨x8, hx8, hres⟩ := bind_some hres
    refine JL.val (yl_idxT Go.Proofs.Try.underlying28 i97 i97s rfl rfl hx8 (List.length_set.trans (List.length_set.trans l5)) (fun w hC => rd_row hC 0 rfl)) rfl ?_
    refine JL.val (yl_fieldAtT Go.Proofs.Try.underlying97 rfl i2 i2n rfl hx8 (fun w hC => rd_row hC 0 rfl)) rfl ?_
    refine JL.eff (ef_storeF (ix := 0) (u := SToolMove.mk x8.X x8.Y (w64 ((w64 (x2 + 1)) + 1))) i2 i2s rfl rfl rfl hx8 (by decide) rfl rfl rfl) rfl ?_
    rintro _ _ rfl
    refine JL.nil ?_
    refine JE.weak (env' := [(0, .slice a_0 q0.length c_0), (1, .int .i64 (w64 ((w64 (x2 + 1)) + 1))), (5, .int .i64 x3)]) (es' := [rowT 97 eSToolMove a_0 q0.length c_0 (((x4.set (x3).toNat (SToolMove.mk x2 x6.Y x6.Z)).set (x3).toNat (SToolMove.mk x7.X (w64 (x2 + 1)) x7.Z)).set (x3).toNat (SToolMove.mk x8.X x8.Y (w64 ((w64 (x2 + 1)) + 1))))]) [0] ?_ ⟨rfl, rfl, rfl, trivial⟩ (by decide) rfl
    refine JE.code ?_
    refine JX.region ?_
    refine JL.val (yl_move rfl) rfl ?_
    refine JL.val (yl_add rfl rfl) rfl ?_
    refine JL.val (yl_assign rfl) rfl ?_
    refine JL.nil ?_
    refine JE.code ?_
    refine JX.region ?_
    refine JL.val (yl_move rfl) rfl ?_
    refine JL.val (yl_add rfl rfl) rfl ?_
    refine JL.val (yl_assign rfl) rfl ?_
    refine JL.nil ?_
    refine JE.cont hres ?_
    exact fun a w h => ⟨(List.length_set.trans (List.length_set.trans (List.length_set.trans l5))), h.weak ⟨rfl, rfl, rfl, trivial⟩ [0] (by decide) rfl⟩
  · refine JX.condF rfl hb ?_
    refine JX.exit ?_
    refine JE.qb rfl ?_
    obtain ⟨b1, hb1⟩ : ∃ b : Int × List SToolMove, b = (x2, x4) := ⟨_, rfl⟩
    have hy1 : b1 = y1 := by rw [hb1]; exact hox1 _ (Option.some.inj hres).symm
    have hres := hresO1
    rw [← hy1] at hres
    have l9 : b1.2.length = q0.length := by subst hb1; exact l5
    refine JE.weak (env' := [(1, .int .i64 b1.1)]) (es' := [rowT 97 eSToolMove a_0 q0.length c_0 b1.2]) [0] ?_ ⟨(by subst hb1; rfl), trivial⟩ (by decide) (by subst hb1; rfl)
    refine JE.code ?_
    refine JX.seq ?_
    refine JX.region ?_
    refine JL.val (yl_move rfl) rfl ?_
    refine JL.val (yl_assign rfl) rfl ?_
    refine JL.nil ?_
    refine JE.code ?_
    refine JX.ret ?_
    obtain rfl := Option.some.inj hres
    refine JE.ret (rs := [.tmp 4]) (vs := [.int .i64 b1.1]) rfl ⟨rfl, trivial⟩ ?_
    exact fun w' hb hs => ⟨_, _, _, ⟨l9, rfl, rfl, rfl⟩, rfl, hb, hs.sel [0] _ (by decide) rfl⟩

/- laws.heldToolMoveS -/
def sh26_1 (q0 : List SToolMove) : (Int × Int) → Option ((Int × Int) ⊕ (Int ⊕ Int))
  | (x1, x2) => bif decide (x2 < (q0.length : Int)) then (Option.bind (getI q0 x2) fun x3 => bif x3.X != x1 then (some (.inr (.inr (-1)))) else (Option.bind (getI q0 x2) fun x4 => bif x4.Y != (w64 (x1 + 1)) then (some (.inr (.inr (-1)))) else (Option.bind (getI q0 x2) fun x5 => bif x5.Z != (w64 ((w64 (x1 + 1)) + 1)) then (some (.inr (.inr (-1)))) else (some (.inl (w64 ((w64 ((w64 (x1 + 1)) + 1)) + 1), w64 (x2 + 1))))))) else (some (.inr (.inl x1)))
def sh26 (q0 : List SToolMove) (q1 : Int) : Option (Int) := Option.bind (iter (sh26_1 q0) (q1, 0)) fun y1 => elimS y1 (fun r => some r) fun b1 => (some b1)
def T26 (r : Int) (v : Value) (rs : List Own) : Prop := v = rets [.int .i64 r] ∧ rs = []
set_option maxRecDepth 100000 in
theorem c26 {w : World} {q0 : List SToolMove} {a_0 : Option Addr} {n_0 c_0 : Nat} (g_0 : Rd w a_0 (eSToolMove.fl q0)) (l_0 : q0.length = n_0) (k_0 : n_0 ≤ c_0) {q1 : Int} {r : Int} (hres : sh26 q0 q1 = some r) : Calls Go.Proofs.Try.prog 26 [.slice a_0 n_0 c_0, .int .i64 q1].toArray w (Ret w (T26 r)) := by
  subst l_0
  unfold sh26 at hres
  refine calls_of (n := 40) (M := []) (es := []) Go.Proofs.Try.func26 rfl rfl rfl (Sep.nil _ _ _) ?_
  refine JX.seq ?_
  refine JX.region ?_
  refine JL.val (yl_assign rfl) rfl ?_
  refine JL.nil ?_
  refine JE.code ?_
  refine JX.seq ?_
  refine JX.seq ?_
  refine JX.region ?_
  refine JL.val (yl_assign rfl) rfl ?_
  refine JL.nil ?_
  refine JE.code ?_
  refine JX.block ?_
  obtain ⟨y1, hy1, hresO1⟩ := bind_some hres
  refine JX.loop (I := fun (s1 : Int × Int) aa ww => St w [] 40 [(0, .slice a_0 q0.length c_0), (1, .int .i64 s1.1), (5, .int .i64 s1.2)] [] aa ww) (sh26_1 q0) hy1 (fun a w h => h.weak ⟨rfl, rfl, rfl, trivial⟩ [] (by decide) rfl) ?_
  rintro ⟨x1, x2⟩ o1 hres hox1 aa ww hS
  refine (?_ : JX Go.Proofs.Try.prog w [] 40 _ _ [(0, .slice a_0 q0.length c_0), (1, .int .i64 x1), (5, .int .i64 x2)] [] _) aa ww hS
  clear hS
  simp only [sh26_1] at hres
  refine JX.seq ?_
  refine JX.seq ?_
  refine JX.region ?_
  refine JL.val (yl_move rfl) rfl ?_
  refine JL.val (yl_move rfl) rfl ?_
  refine JL.val (yl_len_slice Go.Proofs.Try.underlying28 rfl) rfl ?_
  refine JL.val (yl_lss rfl rfl) rfl ?_
  refine JL.nil ?_
  refine JE.weak (env' := [(0, .slice a_0 q0.length c_0), (1, .int .i64 x1), (5, .int .i64 x2), (9, .bool (decide (x2 < (q0.length : Int))))]) (es' := []) [] ?_ ⟨rfl, rfl, rfl, rfl, trivial⟩ (by decide) rfl
  refine JE.code ?_
  rcases cond_some hres with ⟨hb, hres⟩ | ⟨hb, hres⟩
  · refine JX.condT rfl hb ?_
    refine JX.skip ?_
    refine JE.code ?_
    refine JX.seq ?_
    refine JX.block ?_
    refine JX.seq ?_
    refine JX.seq ?_
    refine JX.region ?_
    refine JL.val (yl_move rfl) rfl ?_
    refine JL.val (yl_move rfl) rfl ?_
    obtain ⟨x3, hx3, hres⟩ := bind_some hres
    refine JL.val (yl_idxT Go.Proofs.Try.underlying28 i97 i97s rfl rfl hx3 rfl (fun w hC => rd_arg g_0 hC)) rfl ?_
    refine JL.val (yl_fieldAtT Go.Proofs.Try.underlying97 rfl i2 i2n rfl hx3 (fun w hC => rd_arg g_0 hC)) rfl ?_
    refine JL.val (yl_loadT1 Go.Proofs.Try.underlying2 rfl rfl hx3 (fun w hC => rd_arg g_0 hC) rfl) rfl ?_
    refine JL.val (yl_move rfl) rfl ?_
    refine JL.val (yl_neq rfl rfl) rfl ?_
    refine JL.nil ?_
    refine JE.weak (env' := [(0, .slice a_0 q0.length c_0), (1, .int .i64 x1), (5, .int .i64 x2), (18, .bool (x3.X != x1))]) (es' := []) [] ?_ ⟨rfl, rfl, rfl, rfl, trivial⟩ (by decide) rfl
    refine JE.code ?_
    rcases cond_some hres with ⟨hb, hres⟩ | ⟨hb, hres⟩
    · refine JX.condT rfl hb ?_
      refine JX.seq ?_
      refine JX.region ?_
      refine JL.val (yl_assign rfl) rfl ?_
      refine JL.nil ?_
      refine JE.code ?_
      refine JX.ret ?_
      refine JE.qbr ?_
      refine JE.qbr ?_
      have hres := elimS_inr hresO1 (hox1 _ (Option.some.inj hres).symm)
      obtain rfl := Option.some.inj hres
      refine JE.ret (rs := [.tmp 4]) (vs := [.int .i64 (-1)]) rfl ⟨rfl, trivial⟩ ?_
      exact fun w' hb hs => ⟨_, _, ⟨rfl, rfl⟩, rfl, hb, hs.sel [] _ (by decide) rfl⟩
    · refine JX.condF rfl hb ?_
      refine JX.skip ?_
      refine JE.code ?_
      refine JX.seq ?_
      refine JX.region ?_
      refine JL.val (yl_move rfl) rfl ?_
      refine JL.val (yl_add rfl rfl) rfl ?_
      refine JL.val (yl_assign rfl) rfl ?_
      refine JL.nil ?_
      refine JE.code ?_
      refine JX.seq ?_
      refine JX.seq ?_
      refine JX.region ?_
      refine JL.val (yl_move rfl) rfl ?_
      refine JL.val (yl_move rfl) rfl ?_
      obtain ⟨x4, hx4, hres⟩ := bind_some hres
      refine JL.val (yl_idxT Go.Proofs.Try.underlying28 i97 i97s rfl rfl hx4 rfl (fun w hC => rd_arg g_0 hC)) rfl ?_
      refine JL.val (yl_fieldAtT Go.Proofs.Try.underlying97 rfl i2 i2n rfl hx4 (fun w hC => rd_arg g_0 hC)) rfl ?_
      refine JL.val (yl_loadT1 Go.Proofs.Try.underlying2 rfl rfl hx4 (fun w hC => rd_arg g_0 hC) rfl) rfl ?_
      refine JL.val (yl_move rfl) rfl ?_
      refine JL.val (yl_neq rfl rfl) rfl ?_
      refine JL.nil ?_
      refine JE.weak (env' := [(0, .slice a_0 q0.length c_0), (1, .int .i64 (w64 (x1 + 1))), (5, .int .i64 x2), (27, .bool (x4.Y != (w64 (x1 + 1))))]) (es' := []) [] ?_ ⟨rfl, rfl, rfl, rfl, trivial⟩ (by decide) rfl
      refine JE.code ?_
      rcases cond_some hres with ⟨hb, hres⟩ | ⟨hb, hres⟩
      · refine JX.condT rfl hb ?_
        refine JX.seq ?_
        refine JX.region ?_
        refine JL.val (yl_assign rfl) rfl ?_
        refine JL.nil ?_
        refine JE.code ?_
        refine JX.ret ?_
        refine JE.qbr ?_
        refine JE.qbr ?_
        have hres := elimS_inr hresO1 (hox1 _ (Option.some.inj hres).symm)
        obtain rfl := Option.some.inj hres
        refine JE.ret (rs := [.tmp 4]) (vs := [.int .i64 (-1)]) rfl ⟨rfl, trivial⟩ ?_
        exact fun w' hb hs => ⟨_, _, ⟨rfl, rfl⟩, rfl, hb, hs.sel [] _ (by decide) rfl⟩
      · refine JX.condF rfl hb ?_
        refine JX.skip ?_
        refine JE.code ?_
        refine JX.seq ?_
        refine JX.region ?_
        refine JL.val (yl_move rfl) rfl ?_
        refine JL.val (yl_add rfl rfl) rfl ?_
        refine JL.val (yl_assign rfl) rfl ?_
        refine JL.nil ?_
        refine JE.code ?_
        refine JX.seq ?_
        refine JX.seq ?_
        refine JX.region ?_
        refine JL.val (yl_move rfl) rfl ?_
        refine JL.val (yl_move rfl) rfl ?_
        obtain ⟨x5, hx5, hres⟩ := bind_some hres
        refine JL.val (yl_idxT Go.Proofs.Try.underlying28 i97 i97s rfl rfl hx5 rfl (fun w hC => rd_arg g_0 hC)) rfl ?_
        refine JL.val (yl_fieldAtT Go.Proofs.Try.underlying97 rfl i2 i2n rfl hx5 (fun w hC => rd_arg g_0 hC)) rfl ?_
        refine JL.val (yl_loadT1 Go.Proofs.Try.underlying2 rfl rfl hx5 (fun w hC => rd_arg g_0 hC) rfl) rfl ?_
        refine JL.val (yl_move rfl) rfl ?_
        refine JL.val (yl_neq rfl rfl) rfl ?_
        refine JL.nil ?_
        refine JE.weak (env' := [(0, .slice a_0 q0.length c_0), (1, .int .i64 (w64 ((w64 (x1 + 1)) + 1))), (5, .int .i64 x2), (36, .bool (x5.Z != (w64 ((w64 (x1 + 1)) + 1))))]) (es' := []) [] ?_ ⟨rfl, rfl, rfl, rfl, trivial⟩ (by decide) rfl
        refine JE.code ?_
        rcases cond_some hres with ⟨hb, hres⟩ | ⟨hb, hres⟩
        · refine JX.condT rfl hb ?_
          refine JX.seq ?_
          refine JX.region ?_
          refine JL.val (yl_assign rfl) rfl ?_
          refine JL.nil ?_
          refine JE.code ?_
          refine JX.ret ?_
          refine JE.qbr ?_
          refine JE.qbr ?_
          have hres := elimS_inr hresO1 (hox1 _ (Option.some.inj hres).symm)
          obtain rfl := Option.some.inj hres
          refine JE.ret (rs := [.tmp 4]) (vs := [.int .i64 (-1)]) rfl ⟨rfl, trivial⟩ ?_
          exact fun w' hb hs => ⟨_, _, ⟨rfl, rfl⟩, rfl, hb, hs.sel [] _ (by decide) rfl⟩
        · refine JX.condF rfl hb ?_
          refine JX.skip ?_
          refine JE.code ?_
          refine JX.region ?_
          refine JL.val (yl_move rfl) rfl ?_
          refine JL.val (yl_add rfl rfl) rfl ?_
          refine JL.val (yl_assign rfl) rfl ?_
          refine JL.nil ?_
          refine JE.code ?_
          refine JX.region ?_
          refine JL.val (yl_move rfl) rfl ?_
          refine JL.val (yl_add rfl rfl) rfl ?_
          refine JL.val (yl_assign rfl) rfl ?_
          refine JL.nil ?_
          refine JE.cont hres ?_
          exact fun a w h => h.weak ⟨rfl, rfl, rfl, trivial⟩ [] (by decide) rfl
  · refine JX.condF rfl hb ?_
    refine JX.exit ?_
    refine JE.qb rfl ?_
    obtain ⟨b1, hb1⟩ : ∃ b : Int, b = x1 := ⟨_, rfl⟩
    have hy1 : Sum.inl b1 = y1 := by rw [hb1]; exact hox1 _ (Option.some.inj hres).symm
    have hres := elimS_inl hresO1 hy1
    refine JE.weak (env' := [(1, .int .i64 b1)]) (es' := []) [] ?_ ⟨(by subst hb1; rfl), trivial⟩ (by decide) (by subst hb1; rfl)
    refine JE.code ?_
    refine JX.seq ?_
    refine JX.region ?_
    refine JL.val (yl_move rfl) rfl ?_
    refine JL.val (yl_assign rfl) rfl ?_
    refine JL.nil ?_
    refine JE.code ?_
    refine JX.ret ?_
    obtain rfl := Option.some.inj hres
    refine JE.ret (rs := [.tmp 4]) (vs := [.int .i64 b1]) rfl ⟨rfl, trivial⟩ ?_
    exact fun w' hb hs => ⟨_, _, ⟨rfl, rfl⟩, rfl, hb, hs.sel [] _ (by decide) rfl⟩

end Go.Sh
