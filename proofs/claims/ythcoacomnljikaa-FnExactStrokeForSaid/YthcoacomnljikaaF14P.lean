/- Plain laws: what the shallow functions come to. -/
import Derived.Test.YthcoacomnljikaaF14W1
set_option linter.unusedVariables false
set_option linter.unusedSimpArgs false
namespace Go.Sh
open Go Go.RowKit

/-! to_i64s -/
theorem toI64_eq (xs : List Int) (h : xs.length ≤ 1048576) : sh24 xs = some xs := by
  unfold sh24
  rw [mkL_ok (by omega), bindS, iter_copy (xs := xs) (by omega) (fun i ys => rfl), bindS]

/-! eq_i64s -/
theorem eqI64_eq (xs ys : List Int) (h : xs.length ≤ 1048576) : sh27 xs ys = some (decide (xs = ys)) := by
  unfold sh27
  by_cases hl : xs.length = ys.length
  · have h1 : ((xs.length : Int) != (ys.length : Int)) = false := by simp; omega
    rw [h1, cond_false, iter_eq (xs := xs) (ys := ys) (by omega) hl (fun k hk => ?_) (by simp [sh27_1]), bindS]
    · by_cases he : xs = ys <;> simp [he, elimS]
    · have h2 : (k : Int) < xs.length := by omega
      have h3 : k < ys.length := by omega
      simp only [sh27_1, h2, decide_true, cond_true, getI_lt hk, getI_lt h3, bindS]
      rw [w64_id (by omega) (by omega)]
      by_cases he : xs[k] = ys[k]
      · simp [he]
      · rw [if_neg he, show (xs[k] != ys[k]) = true from bne_iff_ne.2 he]
        rfl
  · have h1 : ((xs.length : Int) != (ys.length : Int)) = true := by simp; omega
    rw [h1, cond_true]
    have : xs ≠ ys := fun h => hl (by rw [h])
    simp [this]

/-! mark_i64s -/
/-- The numbers that are laid into a result to see whether it is of one's own. -/
def marksFrom (m : Int) (n : Nat) : List Int := (List.range n).map fun (i : Nat) => m + (i : Int)
theorem marksFrom_length (m : Int) (n : Nat) : (marksFrom m n).length = n := by simp [marksFrom]
theorem marksFrom_get (m : Int) (n k : Nat) (h : k < n) : (marksFrom m n)[k]'(by rw [marksFrom_length]; exact h) = m + k := by simp [marksFrom]
theorem marksFrom_succ (m : Int) (k : Nat) : marksFrom m (k + 1) = marksFrom m k ++ [m + k] := by simp [marksFrom, List.range_succ]

theorem markI64_eq (xs : List Int) (m : Int) (h0 : 0 ≤ m) (h1 : m ≤ 1099511627776) (h : xs.length ≤ 1099511627776) : sh28 xs m = some (m + xs.length, marksFrom m xs.length) := by
  unfold sh28
  have hi := iter_steps (sb := sh28_1 xs) (fun k => (m + (k : Int), (k : Int), marksFrom m k ++ xs.drop k)) xs.length (x := (m + xs.length, marksFrom m xs.length)) (by omega) (fun k hk => ?_) ?_
  · simp only [List.drop_zero] at hi
    rw [show marksFrom m 0 ++ xs = xs from rfl] at hi
    simp only [Int.natCast_zero, Int.add_zero] at hi
    rw [hi, bindS]
  · have h2 : (k : Int) < xs.length := by omega
    have hl : k < (marksFrom m k ++ xs.drop k).length := by rw [List.length_append, marksFrom_length, List.length_drop]; omega
    simp only [sh28_1, h2, decide_true, cond_true, getI_lt hl, bindS, Int.toNat_natCast]
    rw [w64_id (by omega) (by omega), w64_id (by omega) (by omega), List.set_append, if_neg (by rw [marksFrom_length]; omega), marksFrom_length, Nat.sub_self, List.drop_eq_getElem_cons hk, List.set_cons_zero, marksFrom_succ, List.append_assoc]
    simp only [Option.some.injEq, Sum.inl.injEq, Prod.mk.injEq]
    refine ⟨by omega, by omega, rfl⟩
  · have hd : decide ((xs.length : Int) < (xs.length : Int)) = false := by simp
    simp only [sh28_1, hd, cond_false, List.drop_length, List.append_nil]


/-! iters -/
theorem w64_lo (x : Int) : -9223372036854775808 ≤ w64 x := by
  have := IntKind.wrap_i64 x
  show _ ≤ IntKind.i64.wrap x
  omega
theorem w64_hi (x : Int) : w64 x ≤ 9223372036854775807 := by
  have := IntKind.wrap_i64 x
  show IntKind.i64.wrap x ≤ _
  omega
theorem getI_toNat {T : Type} {xs : List T} {i : Int} (h0 : 0 ≤ i) (h : i.toNat < xs.length) : getI xs i = some xs[i.toNat] := by
  unfold getI; rw [if_pos h0]; exact List.getElem?_eq_getElem h
theorem nzI_ok {a : Int} (h : a ≠ 0) : nzI a = some a := by simp [nzI, h]

/-- The loop that looks for the first element that passes. -/
theorem iter_find {T : Type} {sb : Int → Option (Int ⊕ (Unit ⊕ Int))} {xs : List T} {p : T → Bool} (hl : xs.length < 1099511627776)
    (hsb : ∀ (k : Nat) (h : k < xs.length), sb (k : Int) = if p xs[k] = true then some (.inr (.inr (k : Int))) else some (.inl ((k : Int) + 1))) (he : sb (xs.length : Int) = some (.inr (.inl ()))) :
    iter sb 0 = some (if xs.any p = true then .inr (xs.findIdx p : Int) else .inl ()) := by
  have h := iter_res (sb := sb) (fun k => (k : Int)) (fun k => if (xs.drop k).any p = true then (.inr (k + (xs.drop k).findIdx p : Nat) : Unit ⊕ Int) else .inl ()) xs.length (by omega) (fun k hk => ?_) (by
    rw [he, List.drop_of_length_le (Nat.le_refl _)]; simp)
  · simpa using h
  · rw [hsb k hk, List.drop_eq_getElem_cons hk]
    by_cases hx : p xs[k] = true
    · right
      rw [if_pos hx]
      simp only [List.any_cons, hx, Bool.true_or, if_true, List.findIdx_cons, cond_true, Nat.add_zero]
    · left
      rw [if_neg hx]
      refine ⟨by simp, ?_⟩
      have hx' : p xs[k] = false := by simpa using hx
      simp only [List.any_cons, hx', Bool.false_or, List.findIdx_cons, cond_false]
      split <;> simp
      omega

theorem iterN_congr {σ ρ : Type} {sb1 sb2 : σ → Option (σ ⊕ ρ)} (I : σ → Prop) (hs : ∀ s, I s → sb1 s = sb2 s ∧ ∀ s', sb2 s = some (.inl s') → I s') : ∀ (n : Nat) (s : σ), I s → iterN sb1 n s = iterN sb2 n s
  | 0, _, _ => rfl
  | n + 1, s, h => by
    obtain ⟨h1, h2⟩ := hs s h
    simp only [iterN, h1]
    cases hb : sb2 s with
    | none => rfl
    | some o =>
      cases o with
      | inl s' => exact iterN_congr I hs n s' (h2 s' hb)
      | inr x => rfl
/-- Two loops whose bodies agree where the invariant holds. -/
theorem iter_congr {σ ρ : Type} {sb1 sb2 : σ → Option (σ ⊕ ρ)} (I : σ → Prop) {s0 : σ} (h0 : I s0) (hs : ∀ s, I s → sb1 s = sb2 s ∧ ∀ s', sb2 s = some (.inl s') → I s') : iter sb1 s0 = iter sb2 s0 :=
  iterN_congr I hs FUEL s0 h0

/-- A loop over a list, as a fold. -/
theorem iter_fold {T σ S ρ : Type} {sb : S → Option (S ⊕ ρ)} (xs : List T) (st : Nat → σ → S) (g : σ → T → σ) (h : σ → ρ) (I : Nat → σ → Prop) (s0 : σ) (h0 : I 0 s0) (hl : xs.length < 1099511627776)
    (hsb : ∀ (k : Nat) (hk : k < xs.length) s, I k s → sb (st k s) = some (.inl (st (k + 1) (g s xs[k]))) ∧ I (k + 1) (g s xs[k])) (he : ∀ s, I xs.length s → sb (st xs.length s) = some (.inr (h s))) :
    iter sb (st 0 s0) = some (h (xs.foldl g s0)) ∧ I xs.length (xs.foldl g s0) := by
  have hI : ∀ k, k ≤ xs.length → I k ((xs.take k).foldl g s0) := by
    intro k
    induction k with
    | zero => intro _; simpa using h0
    | succ k ih =>
      intro hk
      rw [List.take_succ_eq_append_getElem (by omega), List.foldl_append]
      exact (hsb k (by omega) _ (ih (by omega))).2
  have hlast := hI xs.length (Nat.le_refl _)
  rw [List.take_length] at hlast
  refine ⟨?_, hlast⟩
  refine iter_steps (fun k => st k ((xs.take k).foldl g s0)) xs.length (by omega) (fun k hk => ?_) (by rw [List.take_length]; exact he _ hlast)
  rw [(hsb k hk _ (hI k (by omega))).1, List.take_succ_eq_append_getElem hk, List.foldl_append]
  rfl

/-- The greater one. -/
def mx (a b : Int) : Int := if a < b then b else a
def mn (a b : Int) : Int := if b < a then b else a
theorem mx_comm' (a b : Int) : (if b < a then a else b) = mx a b := by unfold mx; split <;> split <;> omega
theorem foldl_snoc {α β : Type} (f : α → β) : ∀ (xs : List α) (a : List β), xs.foldl (fun acc m => acc ++ [f m]) a = a ++ xs.map f
  | [], a => by simp
  | x :: xs, a => by rw [List.foldl_cons, foldl_snoc f xs]; simp

/-! panel -/
theorem szInt64S_eq (xs : List Int) (h : xs.length ≤ 9223372036854775807) : sh99 xs 1048576 = some (if xs.length ≤ 1048576 then (1048576 - xs.length : Int) else -1) := by
  unfold sh99
  rw [w64_id (by omega) (by omega)]
  by_cases hl : xs.length ≤ 1048576
  · rw [if_pos hl, show decide ((1048576 : Int) - (xs.length : Int) < 0) = false from decide_eq_false (by omega)]; rfl
  · rw [if_neg hl, show decide ((1048576 : Int) - (xs.length : Int) < 0) = true from decide_eq_true (by omega)]; rfl
theorem szPanel_eq (p : SPanel) (h : p.Breaks.length ≤ 9223372036854775807) : sh56 p 1048576 = some (if p.Breaks.length ≤ 1048576 then (1048576 - p.Breaks.length : Int) else -1) := by
  unfold sh56
  rw [szInt64S_eq _ h, bindS]
  by_cases hl : p.Breaks.length ≤ 1048576
  · rw [if_pos hl, show decide ((1048576 : Int) - (p.Breaks.length : Int) < 0) = false from decide_eq_false (by omega)]; rfl
  · rw [if_neg hl]; rfl
theorem toPanel_eq (p : SPanel) (h : p.Breaks.length ≤ 1048576) : sh58 p = some p := by
  unfold sh58
  rw [toI64_eq _ h, bindS]
theorem eqPanel_refl (p : SPanel) (h : p.Breaks.length ≤ 1048576) : sh60 p p = some true := by
  unfold sh60
  rw [bne_self_eq_false, bne_self_eq_false, eqI64_eq _ _ h]
  simp [bindS]
def brkB (k : Int) : Bool := decide (0 ≤ k) && decide (k ≤ 2)
def sideB (n : Int) : Bool := decide (1 ≤ n) && decide (n ≤ 8)
def innerN (w h : Int) : Int := w64 (w64 (w * w64 (h - 1)) + w64 (h * w64 (w - 1)))
def panelB (p : SPanel) : Bool := (sideB p.W && sideB p.H) && (((p.Breaks.length : Int) == innerN p.W p.H) && p.Breaks.all brkB)
theorem l02Ok_eq (p : SPanel) (h : p.Breaks.length ≤ 1048576) : sh100 p = some (panelB p) := by
  unfold sh100 panelB
  have hi : iter (sh100_1 p) 0 = some (if p.Breaks.all brkB = true then .inl () else .inr false) := iter_all (xs := p.Breaks) (by omega) (fun k hk => by
    have h2 : (k : Int) < p.Breaks.length := by omega
    simp only [sh100_1, sh65, h2, decide_true, cond_true, getI_lt hk, bindS]
    rw [w64_id (x := (k : Int) + 1) (by omega) (by omega)]
    unfold brkB
    cases decide (0 ≤ p.Breaks[k]) && decide (p.Breaks[k] ≤ 2) <;> rfl) (by simp [sh100_1])
  simp only [sh115, sh116, sh65, bindS, hi]
  show Option.bind (bif !(sideB p.W) then some true else some !(sideB p.H)) _ = _
  cases sideB p.W
  · rfl
  · cases sideB p.H
    · rfl
    · show (bif ((p.Breaks.length : Int) != innerN p.W p.H) then _ else _) = _
      simp only [bne]
      cases ((p.Breaks.length : Int) == innerN p.W p.H)
      · rfl
      · cases p.Breaks.all brkB <;> rfl
theorem validPanel_eq (p : SPanel) (h : p.Breaks.length ≤ 1048576) : sh101 p = some (panelB p) := by
  unfold sh101 panelB
  have hi : iter (sh101_1 p) 0 = some (if p.Breaks.all brkB = true then .inl () else .inr false) := iter_all (xs := p.Breaks) (by omega) (fun k hk => by
    have h2 : (k : Int) < p.Breaks.length := by omega
    simp only [sh101_1, sh107, sh79, h2, decide_true, cond_true, getI_lt hk, bindS]
    rw [w64_id (x := (k : Int) + 1) (by omega) (by omega)]
    unfold brkB
    cases decide (0 ≤ p.Breaks[k]) && decide (p.Breaks[k] ≤ 2) <;> rfl) (by simp [sh101_1])
  simp only [sh117, sh118, sh79, bindS, hi]
  show Option.bind (Option.bind (bif (sideB p.W) then some (sideB p.H) else some false) _) _ = _
  cases sideB p.W
  · rfl
  · cases sideB p.H
    · rfl
    · show (bif ((p.Breaks.length : Int) != innerN p.W p.H) then _ else _) = _
      simp only [bne]
      cases ((p.Breaks.length : Int) == innerN p.W p.H)
      · rfl
      · cases p.Breaks.all brkB <;> rfl
theorem panelB_facts {p : SPanel} (h : panelB p = true) : (1 ≤ p.W ∧ p.W ≤ 8) ∧ (1 ≤ p.H ∧ p.H ≤ 8) ∧ (p.Breaks.length : Int) = p.W * (p.H - 1) + p.H * (p.W - 1) ∧ (∀ k ∈ p.Breaks, 0 ≤ k ∧ k ≤ 2) ∧ p.Breaks.length ≤ 112 := by
  unfold panelB sideB brkB innerN at h
  simp only [Bool.and_eq_true, decide_eq_true_eq, List.all_eq_true, beq_iff_eq] at h
  obtain ⟨⟨⟨hw, hw2⟩, hh, hh2⟩, hl, ha⟩ := h
  have key : ∀ w : Int, 1 ≤ w → w ≤ 8 → ∀ k : Int, 1 ≤ k → k ≤ 8 → 0 ≤ w * (k - 1) ∧ w * (k - 1) ≤ 56 := by
    intro w h1 h2 k h3 h4
    have : 0 ≤ w * (k - 1) := Int.mul_nonneg (by omega) (by omega)
    have h5 : w * (k - 1) ≤ 8 * (k - 1) := Int.mul_le_mul_of_nonneg_right h2 (by omega)
    omega
  have k1 := key p.W hw hw2 p.H hh hh2
  have k2 := key p.H hh hh2 p.W hw hw2
  rw [w64_id (x := p.H - 1) (by omega) (by omega), w64_id (x := p.W - 1) (by omega) (by omega), w64_id (x := p.W * (p.H - 1)) (by omega) (by omega), w64_id (x := p.H * (p.W - 1)) (by omega) (by omega), w64_id (by omega) (by omega)] at hl
  exact ⟨⟨hw, hw2⟩, ⟨hh, hh2⟩, hl, ha, by omega⟩
def hasB (p : SPanel) (a : SPoint) : Bool := ((decide (0 ≤ a.X) && decide (a.X ≤ w64 (2 * p.W))) && (decide (0 ≤ a.Y) && decide (a.Y ≤ w64 (2 * p.H)))) && ((w64 (a.X + a.Y)).tmod 2 == 1)
def edgeB (p : SPanel) (a : SPoint) : Bool := (((a.X == 0) || (a.Y == 0)) || (a.X == w64 (2 * p.W))) || (a.Y == w64 (2 * p.H))
theorem l02Has_eq (p : SPanel) (a : SPoint) : sh120 p a = some (hasB p a) := by
  unfold sh120 sh65 hasB
  simp only [bindS]
  cases (decide (0 ≤ a.X) && decide (a.X ≤ w64 (2 * p.W))) <;> rfl
theorem isPoint_eq (p : SPanel) (a : SPoint) : sh122 p a = some (hasB p a) := by
  unfold sh122 sh79 hasB
  simp only [bindS]
  cases (decide (0 ≤ a.X) && decide (a.X ≤ w64 (2 * p.W))) <;> rfl
theorem l02Edge_eq (p : SPanel) (a : SPoint) : sh121 p a = some (edgeB p a) := rfl
theorem isBorder_eq (p : SPanel) (a : SPoint) : sh123 p a = some (edgeB p a) := by
  unfold sh123 edgeB
  cases (a.X == 0) <;> cases (a.Y == 0) <;> cases (a.X == w64 (2 * p.W)) <;> cases (a.Y == w64 (2 * p.H)) <;> rfl
def codeOf (p : SPanel) (a : SPoint) : Int := bif !panelB p then 1 else bif !hasB p a then 2 else bif edgeB p a then 6 else 0
theorem l02Code_eq (p : SPanel) (a : SPoint) (h : p.Breaks.length ≤ 1048576) : sh103 p a = some (codeOf p a) := by
  unfold sh103 codeOf
  rw [l02Ok_eq p h, l02Has_eq, l02Edge_eq]
  simp only [bindS]
  cases panelB p <;> cases hasB p a <;> cases edgeB p a <;> rfl
theorem innerCode_eq (p : SPanel) (a : SPoint) (h : p.Breaks.length ≤ 1048576) : sh106 p a = some (codeOf p a) := by
  unfold sh106 codeOf
  rw [validPanel_eq p h, isPoint_eq, isBorder_eq]
  simp only [bindS]
  cases panelB p <;> cases hasB p a <;> cases edgeB p a <;> rfl
theorem codeOf_cases (p : SPanel) (a : SPoint) : codeOf p a = 1 ∨ codeOf p a = 2 ∨ codeOf p a = 6 ∨ codeOf p a = 0 := by
  unfold codeOf
  cases panelB p <;> cases hasB p a <;> cases edgeB p a <;> simp

/-! points -/
theorem eqPoint_eq (p q : SPoint) : sh68 p q = some (decide (p = q)) := by
  unfold sh68
  cases p with
  | mk a b =>
    cases q with
    | mk c d =>
      show (bif a != c then some false else (bif b != d then some false else some true)) = _
      by_cases h1 : a = c
      · subst h1
        rw [bne_self_eq_false, cond_false]
        by_cases h2 : b = d
        · subst h2; rw [bne_self_eq_false]; simp
        · rw [bne_iff_ne.2 h2]; simp [h2]
      · rw [bne_iff_ne.2 h1]; simp [h1]

theorem eqPointS_eq (xs ys : List SPoint) (h : xs.length ≤ 1048576) : sh20 xs ys = some (decide (xs = ys)) := by
  unfold sh20
  by_cases hl : xs.length = ys.length
  · have h1 : ((xs.length : Int) != (ys.length : Int)) = false := by simp; omega
    rw [h1, cond_false, iter_eq (xs := xs) (ys := ys) (by omega) hl (fun k hk => ?_) (by simp [sh20_1]), bindS]
    · by_cases he : xs = ys <;> simp [he, elimS]
    · have h2 : (k : Int) < xs.length := by omega
      have h3 : k < ys.length := by omega
      simp only [sh20_1, h2, decide_true, cond_true, getI_lt hk, getI_lt h3, bindS, eqPoint_eq]
      rw [w64_id (by omega) (by omega)]
      by_cases he : xs[k] = ys[k]
      · simp [he]
      · rw [if_neg he, decide_eq_false he]
        rfl
  · have h1 : ((xs.length : Int) != (ys.length : Int)) = true := by simp; omega
    rw [h1, cond_true]
    have : xs ≠ ys := fun h => hl (by rw [h])
    simp [this]

/-! mark_points -/
/-- The numbers that are laid into a result of places. -/
def marksP (m : Int) (n : Nat) : List SPoint := (List.range n).map fun (i : Nat) => ⟨m + 2 * (i : Int), m + 2 * (i : Int) + 1⟩
theorem marksP_length (m : Int) (n : Nat) : (marksP m n).length = n := by simp [marksP]
theorem marksP_get (m : Int) (n k : Nat) (h : k < n) : (marksP m n)[k]'(by rw [marksP_length]; exact h) = ⟨m + 2 * k, m + 2 * k + 1⟩ := by simp [marksP]
theorem marksP_succ (m : Int) (k : Nat) : marksP m (k + 1) = marksP m k ++ [⟨m + 2 * k, m + 2 * k + 1⟩] := by simp [marksP, List.range_succ]

theorem markPointS_eq (xs : List SPoint) (m : Int) (h0 : 0 ≤ m) (h1 : m ≤ 1099511627776) (h : xs.length ≤ 1099511627776) : sh21 xs m = some (m + 2 * xs.length, marksP m xs.length) := by
  unfold sh21
  have hi := iter_steps (sb := sh21_1 xs) (fun k => (m + 2 * (k : Int), (k : Int), marksP m k ++ xs.drop k)) xs.length (x := (m + 2 * xs.length, marksP m xs.length)) (by omega) (fun k hk => ?_) ?_
  · simp only [List.drop_zero] at hi
    rw [show marksP m 0 ++ xs = xs from rfl] at hi
    simp only [Int.natCast_zero, Int.mul_zero, Int.add_zero] at hi
    rw [hi, bindS]
  · have h2 : (k : Int) < xs.length := by omega
    have hl : k < (marksP m k ++ xs.drop k).length := by rw [List.length_append, marksP_length, List.length_drop]; omega
    have hl2 : ∀ y, k < ((marksP m k ++ xs.drop k).set k y).length := fun y => by rw [List.length_set]; exact hl
    simp only [sh21_1, h2, decide_true, cond_true, getI_lt hl, getI_lt (hl2 _), bindS, Int.toNat_natCast, List.getElem_set_self, List.set_set]
    rw [w64_id (x := m + 2 * (k : Int) + 1) (by omega) (by omega), w64_id (x := m + 2 * (k : Int) + 1 + 1) (by omega) (by omega), w64_id (x := (k : Int) + 1) (by omega) (by omega), List.set_append, if_neg (by rw [marksP_length]; omega), marksP_length, Nat.sub_self, List.drop_eq_getElem_cons hk, List.set_cons_zero, marksP_succ, List.append_assoc]
    simp only [Option.some.injEq, Sum.inl.injEq, Prod.mk.injEq]
    refine ⟨by omega, by omega, rfl⟩
  · have hd : decide ((xs.length : Int) < (xs.length : Int)) = false := by simp
    simp only [sh21_1, hd, cond_false, List.drop_length, List.append_nil]

theorem heldPointS_eq (m : Int) (n : Nat) (h0 : 0 ≤ m) (h1 : m ≤ 1099511627776) (h : n ≤ 1099511627776) : sh22 (marksP m n) m = some (m + 2 * n) := by
  unfold sh22
  have hi := iter_steps (sb := sh22_1 (marksP m n)) (fun k => (m + 2 * (k : Int), (k : Int))) n (x := .inl (m + 2 * n)) (by omega) (fun k hk => ?_) ?_
  · simp only [Int.natCast_zero, Int.mul_zero, Int.add_zero] at hi
    rw [hi, bindS]
    rfl
  · have h2 : (k : Int) < (marksP m n).length := by rw [marksP_length]; omega
    have hl : k < (marksP m n).length := by rw [marksP_length]; exact hk
    simp only [sh22_1, h2, decide_true, cond_true, getI_lt hl, bindS, marksP_get m n k hk, bne_self_eq_false, cond_false]
    rw [w64_id (x := m + 2 * (k : Int) + 1) (by omega) (by omega), bne_self_eq_false, cond_false, w64_id (x := m + 2 * (k : Int) + 1 + 1) (by omega) (by omega), w64_id (x := (k : Int) + 1) (by omega) (by omega)]
    simp only [Option.some.injEq, Sum.inl.injEq, Prod.mk.injEq]
    refine ⟨by omega, by omega⟩
  · have hd : decide ((n : Int) < ((marksP m n).length : Int)) = false := by rw [marksP_length]; simp
    simp only [sh22_1, hd, cond_false]

/-! strokefor -/
theorem strokeFor_total (p : SPanel) (a : SPoint) (k s : Int) (h : p.Breaks.length ≤ 1048576) : ∃ r, sh61 p a k s = some r ∧ sh62 p a k s = some r ∧ r.1.length ≤ 2 := by
  unfold sh61 sh62
  rw [l02Code_eq p a h, innerCode_eq p a h]
  simp only [bindS, sh104, sh105, sh107, sh108, sh65, sh79]
  rcases codeOf_cases p a with hc | hc | hc | hc <;> rw [hc] <;> cases (decide (0 ≤ k) && decide (k ≤ 2)) <;> cases (decide (2 ≤ s) && decide (s ≤ 100)) <;> cases (k == 1) <;> cases (k == 2) <;> exact ⟨_, rfl, rfl, by simp⟩

/-! FnExactStrokeFor -/
theorem markPanel_eq (p : SPanel) (h : p.Breaks.length ≤ 1048576) : sh63 p 1 = some ((1 : Int) + p.Breaks.length, marksFrom 1 p.Breaks.length) := by
  unfold sh63
  rw [markI64_eq _ _ (by omega) (by omega) (by omega), bindS]
theorem law14 (p : SPanel) (a : SPoint) (k s : Int) (hk0 : okSPanel p) : sh14 p a k s = some true := by
  unfold sh14
  have hm : maxLen = 9223372036854775807 := rfl
  have hb := hk0.2.2.1
  rw [szPanel_eq p (by omega), bindS]
  by_cases h : p.Breaks.length ≤ 1048576
  · obtain ⟨r, h1, h2, h3⟩ := strokeFor_total p a k s h
    have hd : decide ((1048576 : Int) - (p.Breaks.length : Int) < 0) = false := decide_eq_false (by omega)
    have m2 := markPointS_eq r.1 1 (by omega) (by omega) (by omega)
    have m3 := heldPointS_eq 1 r.1.length (by omega) (by omega) (by omega)
    have n1 : decide ((1 : Int) + (p.Breaks.length : Int) < 0) = false := decide_eq_false (by omega)
    have n2 : decide ((1 : Int) + 2 * (r.1.length : Int) < 0) = false := decide_eq_false (by omega)
    simp only [if_pos h, hd, cond_false, toPanel_eq p h, bindS, sh18, h1, h2, bne_self_eq_false, Bool.or_self, eqPanel_refl p h, eqPointS_eq r.1 r.1 (by omega), decide_true, Bool.not_true, markPanel_eq p h, m2, m3, n1, n2]
  · rw [if_neg h]; rfl
end Go.Sh
