/- Plain laws: what the shallow functions come to. -/
import Derived.Test.YtnaekndnmnbonaaF13W2
set_option linter.unusedVariables false
set_option linter.unusedSimpArgs false
namespace Go.Sh
open Go Go.RowKit

/-! to_i64s -/
theorem toI64_eq (xs : List Int) (h : xs.length ≤ 1048576) : sh39 xs = some xs := by
  unfold sh39
  rw [mkL_ok (by omega), bindS, iter_copy (xs := xs) (by omega) (fun i ys => rfl), bindS]

/-! eq_i64s -/
theorem eqI64_eq (xs ys : List Int) (h : xs.length ≤ 1048576) : sh31 xs ys = some (decide (xs = ys)) := by
  unfold sh31
  by_cases hl : xs.length = ys.length
  · have h1 : ((xs.length : Int) != (ys.length : Int)) = false := by simp; omega
    rw [h1, cond_false, iter_eq (xs := xs) (ys := ys) (by omega) hl (fun k hk => ?_) (by simp [sh31_1]), bindS]
    · by_cases he : xs = ys <;> simp [he, elimS]
    · have h2 : (k : Int) < xs.length := by omega
      have h3 : k < ys.length := by omega
      simp only [sh31_1, h2, decide_true, cond_true, getI_lt hk, getI_lt h3, bindS]
      rw [w64_id (by omega) (by omega)]
      by_cases he : xs[k] = ys[k]
      · simp [he]
      · rw [if_neg he, show (xs[k] != ys[k]) = true from bne_iff_ne.2 he]
        rfl
  · have h1 : ((xs.length : Int) != (ys.length : Int)) = true := by simp; omega
    rw [h1, cond_true]
    have : xs ≠ ys := fun h => hl (by rw [h])
    simp [this]

/-! mark_i64s -/
/-- The numbers that are laid into a result to see whether it is of one's own. -/
def marksFrom (m : Int) (n : Nat) : List Int := (List.range n).map fun (i : Nat) => m + (i : Int)
theorem marksFrom_length (m : Int) (n : Nat) : (marksFrom m n).length = n := by simp [marksFrom]
theorem marksFrom_get (m : Int) (n k : Nat) (h : k < n) : (marksFrom m n)[k]'(by rw [marksFrom_length]; exact h) = m + k := by simp [marksFrom]
theorem marksFrom_succ (m : Int) (k : Nat) : marksFrom m (k + 1) = marksFrom m k ++ [m + k] := by simp [marksFrom, List.range_succ]

theorem markI64_eq (xs : List Int) (m : Int) (h0 : 0 ≤ m) (h1 : m ≤ 1099511627776) (h : xs.length ≤ 1099511627776) : sh34 xs m = some (m + xs.length, marksFrom m xs.length) := by
  unfold sh34
  have hi := iter_steps (sb := sh34_1 xs) (fun k => (m + (k : Int), (k : Int), marksFrom m k ++ xs.drop k)) xs.length (x := (m + xs.length, marksFrom m xs.length)) (by omega) (fun k hk => ?_) ?_
  · simp only [List.drop_zero] at hi
    rw [show marksFrom m 0 ++ xs = xs from rfl] at hi
    simp only [Int.natCast_zero, Int.add_zero] at hi
    rw [hi, bindS]
  · have h2 : (k : Int) < xs.length := by omega
    have hl : k < (marksFrom m k ++ xs.drop k).length := by rw [List.length_append, marksFrom_length, List.length_drop]; omega
    simp only [sh34_1, h2, decide_true, cond_true, getI_lt hl, bindS, Int.toNat_natCast]
    rw [w64_id (by omega) (by omega), w64_id (by omega) (by omega), List.set_append, if_neg (by rw [marksFrom_length]; omega), marksFrom_length, Nat.sub_self, List.drop_eq_getElem_cons hk, List.set_cons_zero, marksFrom_succ, List.append_assoc]
    simp only [Option.some.injEq, Sum.inl.injEq, Prod.mk.injEq]
    refine ⟨by omega, by omega, rfl⟩
  · have hd : decide ((xs.length : Int) < (xs.length : Int)) = false := by simp
    simp only [sh34_1, hd, cond_false, List.drop_length, List.append_nil]

theorem heldI64_eq (m : Int) (n : Nat) (h0 : 0 ≤ m) (h1 : m ≤ 1099511627776) (h : n ≤ 1099511627776) : sh35 (marksFrom m n) m = some (m + n) := by
  unfold sh35
  have hi := iter_steps (sb := sh35_1 (marksFrom m n)) (fun k => (m + (k : Int), (k : Int))) n (x := .inl (m + n)) (by omega) (fun k hk => ?_) ?_
  · simp only [Int.natCast_zero, Int.add_zero] at hi
    rw [hi, bindS]
    rfl
  · have h2 : (k : Int) < (marksFrom m n).length := by rw [marksFrom_length]; omega
    have hl : k < (marksFrom m n).length := by rw [marksFrom_length]; exact hk
    simp only [sh35_1, h2, decide_true, cond_true, getI_lt hl, bindS, marksFrom_get m n k hk, bne_self_eq_false, cond_false]
    rw [w64_id (by omega) (by omega), w64_id (by omega) (by omega)]
    simp only [Option.some.injEq, Sum.inl.injEq, Prod.mk.injEq]
    refine ⟨by omega, by omega⟩
  · have hd : decide ((n : Int) < ((marksFrom m n).length : Int)) = false := by rw [marksFrom_length]; simp
    simp only [sh35_1, hd, cond_false]

/-! iters -/
theorem w64_lo (x : Int) : -9223372036854775808 ≤ w64 x := by
  have := IntKind.wrap_i64 x
  show _ ≤ IntKind.i64.wrap x
  omega
theorem w64_hi (x : Int) : w64 x ≤ 9223372036854775807 := by
  have := IntKind.wrap_i64 x
  show IntKind.i64.wrap x ≤ _
  omega
theorem getI_toNat {T : Type} {xs : List T} {i : Int} (h0 : 0 ≤ i) (h : i.toNat < xs.length) : getI xs i = some xs[i.toNat] := by
  unfold getI; rw [if_pos h0]; exact List.getElem?_eq_getElem h
theorem nzI_ok {a : Int} (h : a ≠ 0) : nzI a = some a := by simp [nzI, h]

/-- The loop that looks for the first element that passes. -/
theorem iter_find {T : Type} {sb : Int → Option (Int ⊕ (Unit ⊕ Int))} {xs : List T} {p : T → Bool} (hl : xs.length < 1099511627776)
    (hsb : ∀ (k : Nat) (h : k < xs.length), sb (k : Int) = if p xs[k] = true then some (.inr (.inr (k : Int))) else some (.inl ((k : Int) + 1))) (he : sb (xs.length : Int) = some (.inr (.inl ()))) :
    iter sb 0 = some (if xs.any p = true then .inr (xs.findIdx p : Int) else .inl ()) := by
  have h := iter_res (sb := sb) (fun k => (k : Int)) (fun k => if (xs.drop k).any p = true then (.inr (k + (xs.drop k).findIdx p : Nat) : Unit ⊕ Int) else .inl ()) xs.length (by omega) (fun k hk => ?_) (by
    rw [he, List.drop_of_length_le (Nat.le_refl _)]; simp)
  · simpa using h
  · rw [hsb k hk, List.drop_eq_getElem_cons hk]
    by_cases hx : p xs[k] = true
    · right
      rw [if_pos hx]
      simp only [List.any_cons, hx, Bool.true_or, if_true, List.findIdx_cons, cond_true, Nat.add_zero]
    · left
      rw [if_neg hx]
      refine ⟨by simp, ?_⟩
      have hx' : p xs[k] = false := by simpa using hx
      simp only [List.any_cons, hx', Bool.false_or, List.findIdx_cons, cond_false]
      split <;> simp
      omega

theorem iterN_congr {σ ρ : Type} {sb1 sb2 : σ → Option (σ ⊕ ρ)} (I : σ → Prop) (hs : ∀ s, I s → sb1 s = sb2 s ∧ ∀ s', sb2 s = some (.inl s') → I s') : ∀ (n : Nat) (s : σ), I s → iterN sb1 n s = iterN sb2 n s
  | 0, _, _ => rfl
  | n + 1, s, h => by
    obtain ⟨h1, h2⟩ := hs s h
    simp only [iterN, h1]
    cases hb : sb2 s with
    | none => rfl
    | some o =>
      cases o with
      | inl s' => exact iterN_congr I hs n s' (h2 s' hb)
      | inr x => rfl
/-- Two loops whose bodies agree where the invariant holds. -/
theorem iter_congr {σ ρ : Type} {sb1 sb2 : σ → Option (σ ⊕ ρ)} (I : σ → Prop) {s0 : σ} (h0 : I s0) (hs : ∀ s, I s → sb1 s = sb2 s ∧ ∀ s', sb2 s = some (.inl s') → I s') : iter sb1 s0 = iter sb2 s0 :=
  iterN_congr I hs FUEL s0 h0

/-- A loop over a list, as a fold. -/
theorem iter_fold {T σ S ρ : Type} {sb : S → Option (S ⊕ ρ)} (xs : List T) (st : Nat → σ → S) (g : σ → T → σ) (h : σ → ρ) (I : Nat → σ → Prop) (s0 : σ) (h0 : I 0 s0) (hl : xs.length < 1099511627776)
    (hsb : ∀ (k : Nat) (hk : k < xs.length) s, I k s → sb (st k s) = some (.inl (st (k + 1) (g s xs[k]))) ∧ I (k + 1) (g s xs[k])) (he : ∀ s, I xs.length s → sb (st xs.length s) = some (.inr (h s))) :
    iter sb (st 0 s0) = some (h (xs.foldl g s0)) ∧ I xs.length (xs.foldl g s0) := by
  have hI : ∀ k, k ≤ xs.length → I k ((xs.take k).foldl g s0) := by
    intro k
    induction k with
    | zero => intro _; simpa using h0
    | succ k ih =>
      intro hk
      rw [List.take_succ_eq_append_getElem (by omega), List.foldl_append]
      exact (hsb k (by omega) _ (ih (by omega))).2
  have hlast := hI xs.length (Nat.le_refl _)
  rw [List.take_length] at hlast
  refine ⟨?_, hlast⟩
  refine iter_steps (fun k => st k ((xs.take k).foldl g s0)) xs.length (by omega) (fun k hk => ?_) (by rw [List.take_length]; exact he _ hlast)
  rw [(hsb k hk _ (hI k (by omega))).1, List.take_succ_eq_append_getElem hk, List.foldl_append]
  rfl

/-- The greater one. -/
def mx (a b : Int) : Int := if a < b then b else a
def mn (a b : Int) : Int := if b < a then b else a
theorem mx_comm' (a b : Int) : (if b < a then a else b) = mx a b := by unfold mx; split <;> split <;> omega
theorem foldl_snoc {α β : Type} (f : α → β) : ∀ (xs : List α) (a : List β), xs.foldl (fun acc m => acc ++ [f m]) a = a ++ xs.map f
  | [], a => by simp
  | x :: xs, a => by rw [List.foldl_cons, foldl_snoc f xs]; simp

/-! panel -/
theorem szInt64S_eq (xs : List Int) (h : xs.length ≤ 9223372036854775807) : sh95 xs 1048576 = some (if xs.length ≤ 1048576 then (1048576 - xs.length : Int) else -1) := by
  unfold sh95
  rw [w64_id (by omega) (by omega)]
  by_cases hl : xs.length ≤ 1048576
  · rw [if_pos hl, show decide ((1048576 : Int) - (xs.length : Int) < 0) = false from decide_eq_false (by omega)]; rfl
  · rw [if_neg hl, show decide ((1048576 : Int) - (xs.length : Int) < 0) = true from decide_eq_true (by omega)]; rfl
theorem szPanel_eq (p : SPanel) (h : p.Breaks.length ≤ 9223372036854775807) : sh27 p 1048576 = some (if p.Breaks.length ≤ 1048576 then (1048576 - p.Breaks.length : Int) else -1) := by
  unfold sh27
  rw [szInt64S_eq _ h, bindS]
  by_cases hl : p.Breaks.length ≤ 1048576
  · rw [if_pos hl, show decide ((1048576 : Int) - (p.Breaks.length : Int) < 0) = false from decide_eq_false (by omega)]; rfl
  · rw [if_neg hl]; rfl
theorem toPanel_eq (p : SPanel) (h : p.Breaks.length ≤ 1048576) : sh29 p = some p := by
  unfold sh29
  rw [toI64_eq _ h, bindS]
theorem eqPanel_refl (p : SPanel) (h : p.Breaks.length ≤ 1048576) : sh32 p p = some true := by
  unfold sh32
  rw [bne_self_eq_false, bne_self_eq_false, eqI64_eq _ _ h]
  simp [bindS]
def brkB (k : Int) : Bool := decide (0 ≤ k) && decide (k ≤ 2)
def sideB (n : Int) : Bool := decide (1 ≤ n) && decide (n ≤ 8)
def innerN (w h : Int) : Int := w64 (w64 (w * w64 (h - 1)) + w64 (h * w64 (w - 1)))
def panelB (p : SPanel) : Bool := (sideB p.W && sideB p.H) && (((p.Breaks.length : Int) == innerN p.W p.H) && p.Breaks.all brkB)
theorem l02Ok_eq (p : SPanel) (h : p.Breaks.length ≤ 1048576) : sh96 p = some (panelB p) := by
  unfold sh96 panelB
  have hi : iter (sh96_1 p) 0 = some (if p.Breaks.all brkB = true then .inl () else .inr false) := iter_all (xs := p.Breaks) (by omega) (fun k hk => by
    have h2 : (k : Int) < p.Breaks.length := by omega
    simp only [sh96_1, sh115, h2, decide_true, cond_true, getI_lt hk, bindS]
    rw [w64_id (x := (k : Int) + 1) (by omega) (by omega)]
    unfold brkB
    cases decide (0 ≤ p.Breaks[k]) && decide (p.Breaks[k] ≤ 2) <;> rfl) (by simp [sh96_1])
  simp only [sh147, sh148, sh115, bindS, hi]
  show Option.bind (bif !(sideB p.W) then some true else some !(sideB p.H)) _ = _
  cases sideB p.W
  · rfl
  · cases sideB p.H
    · rfl
    · show (bif ((p.Breaks.length : Int) != innerN p.W p.H) then _ else _) = _
      simp only [bne]
      cases ((p.Breaks.length : Int) == innerN p.W p.H)
      · rfl
      · cases p.Breaks.all brkB <;> rfl
theorem validPanel_eq (p : SPanel) (h : p.Breaks.length ≤ 1048576) : sh99 p = some (panelB p) := by
  unfold sh99 panelB
  have hi : iter (sh99_1 p) 0 = some (if p.Breaks.all brkB = true then .inl () else .inr false) := iter_all (xs := p.Breaks) (by omega) (fun k hk => by
    have h2 : (k : Int) < p.Breaks.length := by omega
    simp only [sh99_1, sh154, sh136, h2, decide_true, cond_true, getI_lt hk, bindS]
    rw [w64_id (x := (k : Int) + 1) (by omega) (by omega)]
    unfold brkB
    cases decide (0 ≤ p.Breaks[k]) && decide (p.Breaks[k] ≤ 2) <;> rfl) (by simp [sh99_1])
  simp only [sh152, sh153, sh136, bindS, hi]
  show Option.bind (Option.bind (bif (sideB p.W) then some (sideB p.H) else some false) _) _ = _
  cases sideB p.W
  · rfl
  · cases sideB p.H
    · rfl
    · show (bif ((p.Breaks.length : Int) != innerN p.W p.H) then _ else _) = _
      simp only [bne]
      cases ((p.Breaks.length : Int) == innerN p.W p.H)
      · rfl
      · cases p.Breaks.all brkB <;> rfl
theorem panelB_facts {p : SPanel} (h : panelB p = true) : (1 ≤ p.W ∧ p.W ≤ 8) ∧ (1 ≤ p.H ∧ p.H ≤ 8) ∧ (p.Breaks.length : Int) = p.W * (p.H - 1) + p.H * (p.W - 1) ∧ (∀ k ∈ p.Breaks, 0 ≤ k ∧ k ≤ 2) ∧ p.Breaks.length ≤ 112 := by
  unfold panelB sideB brkB innerN at h
  simp only [Bool.and_eq_true, decide_eq_true_eq, List.all_eq_true, beq_iff_eq] at h
  obtain ⟨⟨⟨hw, hw2⟩, hh, hh2⟩, hl, ha⟩ := h
  have key : ∀ w : Int, 1 ≤ w → w ≤ 8 → ∀ k : Int, 1 ≤ k → k ≤ 8 → 0 ≤ w * (k - 1) ∧ w * (k - 1) ≤ 56 := by
    intro w h1 h2 k h3 h4
    have : 0 ≤ w * (k - 1) := Int.mul_nonneg (by omega) (by omega)
    have h5 : w * (k - 1) ≤ 8 * (k - 1) := Int.mul_le_mul_of_nonneg_right h2 (by omega)
    omega
  have k1 := key p.W hw hw2 p.H hh hh2
  have k2 := key p.H hh hh2 p.W hw hw2
  rw [w64_id (x := p.H - 1) (by omega) (by omega), w64_id (x := p.W - 1) (by omega) (by omega), w64_id (x := p.W * (p.H - 1)) (by omega) (by omega), w64_id (x := p.H * (p.W - 1)) (by omega) (by omega), w64_id (by omega) (by omega)] at hl
  exact ⟨⟨hw, hw2⟩, ⟨hh, hh2⟩, hl, ha, by omega⟩
def hasB (p : SPanel) (a : SPoint) : Bool := ((decide (0 ≤ a.X) && decide (a.X ≤ w64 (2 * p.W))) && (decide (0 ≤ a.Y) && decide (a.Y ≤ w64 (2 * p.H)))) && ((w64 (a.X + a.Y)).tmod 2 == 1)
def edgeB (p : SPanel) (a : SPoint) : Bool := (((a.X == 0) || (a.Y == 0)) || (a.X == w64 (2 * p.W))) || (a.Y == w64 (2 * p.H))
theorem l02Edge_eq (p : SPanel) (a : SPoint) : sh167 p a = some (edgeB p a) := rfl
theorem isBorder_eq (p : SPanel) (a : SPoint) : sh172 p a = some (edgeB p a) := by
  unfold sh172 edgeB
  cases (a.X == 0) <;> cases (a.Y == 0) <;> cases (a.X == w64 (2 * p.W)) <;> cases (a.Y == w64 (2 * p.H)) <;> rfl
def codeOf (p : SPanel) (a : SPoint) : Int := bif !panelB p then 1 else bif !hasB p a then 2 else bif edgeB p a then 6 else 0
theorem codeOf_cases (p : SPanel) (a : SPoint) : codeOf p a = 1 ∨ codeOf p a = 2 ∨ codeOf p a = 6 ∨ codeOf p a = 0 := by
  unfold codeOf
  cases panelB p <;> cases hasB p a <;> cases edgeB p a <;> simp

/-! walkers -/
structure Dim (p : SPanel) : Prop where
  w1 : 1 ≤ p.W
  w2 : p.W ≤ 8
  h1 : 1 ≤ p.H
  h2 : p.H ≤ 8
  bl : (p.Breaks.length : Int) = p.W * (p.H - 1) + p.H * (p.W - 1)
theorem dim_of {p : SPanel} (h : panelB p = true) : Dim p := let ⟨h1, h2, h3, _⟩ := panelB_facts h; ⟨h1.1, h1.2, h2.1, h2.2, h3⟩
theorem eight {n : Int} (h1 : 1 ≤ n) (h2 : n ≤ 8) : n = 1 ∨ n = 2 ∨ n = 3 ∨ n = 4 ∨ n = 5 ∨ n = 6 ∨ n = 7 ∨ n = 8 := by omega
def numF (p : SPanel) (x y : Int) : Int := (y - 1) * p.W - y / 2 + (x - 1) / 2
def brkF (p : SPanel) (x y : Int) : Int := if x = 0 ∨ x = 2 * p.W ∨ y = 0 ∨ y = 2 * p.H then 0 else p.Breaks.getD (numF p x y).toNat 0
theorem brk_edge {p : SPanel} {x y : Int} (h : x = 0 ∨ x = 2 * p.W ∨ y = 0 ∨ y = 2 * p.H) : brkF p x y = 0 := if_pos h

/-! steps -/
theorem mul_small {a H : Int} (h1 : 1 ≤ H) (h2 : H ≤ 8) (ha : 0 ≤ a) (ha2 : a ≤ 40) : 0 ≤ a * H ∧ a * H ≤ 320 := by
  rcases eight h1 h2 with e | e | e | e | e | e | e | e <;> subst e <;> omega
/-- An inner point. -/
def inr (p : SPanel) (x y : Int) : Prop := (1 ≤ x ∧ x ≤ 2 * p.W - 1) ∧ (1 ≤ y ∧ y ≤ 2 * p.H - 1) ∧ (x + y) % 2 = 1
theorem num_bd {p : SPanel} (hd : Dim p) {x y : Int} (h : inr p x y) : 0 ≤ numF p x y ∧ numF p x y < p.Breaks.length := by
  obtain ⟨w1, w2, h1, h2, bl⟩ := hd
  obtain ⟨⟨a1, a2⟩, ⟨a3, a4⟩, a5⟩ := h
  rw [bl]
  unfold numF
  clear bl
  generalize p.W = W at *
  generalize p.H = H at *
  rcases eight w1 w2 with e | e | e | e | e | e | e | e <;> subst e <;> constructor <;> omega
theorem number_impl {p : SPanel} (hd : Dim p) {x y : Int} (h : inr p x y) : sh174 p ⟨x, y⟩ = some (numF p x y) := by
  have hb := num_bd hd h
  obtain ⟨w1, w2, h1, h2, bl⟩ := hd
  obtain ⟨⟨a1, a2⟩, ⟨a3, a4⟩, a5⟩ := h
  clear bl hb
  unfold sh174 numF
  simp only
  generalize p.W = W at *
  generalize p.H = H at *
  have e1 : y.tdiv 2 = y / 2 := Int.tdiv_eq_ediv_of_nonneg (by omega)
  have e2 : w64 (y - 1) = y - 1 := w64_id (by omega) (by omega)
  have e3 : (y - 1).tdiv 2 = (y - 1) / 2 := Int.tdiv_eq_ediv_of_nonneg (by omega)
  have e4 : x.tdiv 2 = x / 2 := Int.tdiv_eq_ediv_of_nonneg (by omega)
  have e5 : w64 (W - 1) = W - 1 := w64_id (by omega) (by omega)
  have e6 : y.tmod 2 = y % 2 := Int.tmod_eq_emod_of_nonneg (by omega)
  have m1 : 0 ≤ y / 2 * (W - 1) ∧ y / 2 * (W - 1) ≤ 320 := by
    rcases eight w1 w2 with e | e | e | e | e | e | e | e <;> subst e <;> omega
  have m2 : 0 ≤ (y - 1) / 2 * W ∧ (y - 1) / 2 * W ≤ 320 := by
    rcases eight w1 w2 with e | e | e | e | e | e | e | e <;> subst e <;> omega
  rw [e1, e2, e3, e4, e5, e6, w64_id (x := y / 2) (by omega) (by omega), w64_id (x := (y - 1) / 2) (by omega) (by omega), w64_id (x := x / 2) (by omega) (by omega), w64_id (x := y / 2 * (W - 1)) (by omega) (by omega), w64_id (x := (y - 1) / 2 * W) (by omega) (by omega), w64_id (x := y / 2 * (W - 1) + (y - 1) / 2 * W) (by omega) (by omega), w64_id (x := y / 2 * (W - 1) + (y - 1) / 2 * W + x / 2) (by omega) (by omega), w64_id (x := y / 2 * (W - 1) + (y - 1) / 2 * W + x / 2 - 1) (by omega) (by omega)]
  by_cases hy : y % 2 = 1
  · rw [beq_iff_eq.2 hy, cond_true]
    congr 1
    rcases eight w1 w2 with e | e | e | e | e | e | e | e <;> subst e <;> omega
  · rw [beq_eq_false_iff_ne.2 hy, cond_false]
    congr 1
    rcases eight w1 w2 with e | e | e | e | e | e | e | e <;> subst e <;> omega
theorem row_spec {p : SPanel} (hd : Dim p) {y : Int} (h0 : 1 ≤ y) (h1 : y ≤ 16) : sh187 p y = some ((y - 1) * p.W - y / 2) := by
  obtain ⟨w1, w2, _, _, bl⟩ := hd
  clear bl
  unfold sh187
  obtain ⟨n, hn⟩ : ∃ n : Nat, y = n + 1 := ⟨(y - 1).toNat, by omega⟩
  have hi := iter_steps (sb := sh187_1 p y) (fun k => ((k : Int) * p.W - ((k : Int) + 1) / 2, (k : Int) + 1)) n (x := (y - 1) * p.W - y / 2) (by omega) (fun k hk => ?_) ?_
  · simp only [Int.natCast_zero, Int.zero_mul] at hi
    rw [show (0 : Int) - (0 + 1) / 2 = 0 by omega, show (0 : Int) + 1 = 1 by omega] at hi
    rw [hi, bindS]
  · have h2 : (k : Int) + 1 < y := by omega
    have hm : 0 ≤ (k : Int) * p.W ∧ (k : Int) * p.W ≤ 320 := by have := mul_small (a := (k : Int)) w1 w2 (by omega) (by omega); exact this
    have e6 : ((k : Int) + 1).tmod 2 = ((k : Int) + 1) % 2 := Int.tmod_eq_emod_of_nonneg (by omega)
    have hms : ((k + 1 : Nat) : Int) * p.W = (k : Int) * p.W + p.W := by rw [Int.natCast_add, Int.add_mul]; simp
    simp only [sh187_1, h2, decide_true, cond_true, e6]
    rw [hms]
    generalize (k : Int) * p.W = m at *
    rw [w64_id (x := m - ((k : Int) + 1) / 2 + p.W) (by omega) (by omega), w64_id (x := (k : Int) + 1 + 1) (by omega) (by omega), w64_id (x := m - ((k : Int) + 1) / 2 + p.W - 1) (by omega) (by omega)]
    by_cases hy : ((k : Int) + 1) % 2 = 1
    · rw [beq_iff_eq.2 hy, cond_true, bindS]
      simp only [Option.some.injEq, Sum.inl.injEq, Prod.mk.injEq]
      refine ⟨by omega, by omega⟩
    · rw [beq_eq_false_iff_ne.2 hy, cond_false, bindS]
      simp only [Option.some.injEq, Sum.inl.injEq, Prod.mk.injEq]
      refine ⟨by omega, by omega⟩
  · have hd : decide ((n : Int) + 1 < y) = false := decide_eq_false (by omega)
    simp only [sh187_1, hd, cond_false]
    rw [hn, show (n : Int) + 1 - 1 = (n : Int) by omega]
theorem number_spec {p : SPanel} (hd : Dim p) {x y : Int} (h : inr p x y) : sh168 p ⟨x, y⟩ = some (numF p x y) := by
  have hb := num_bd hd h
  have hd' := hd
  obtain ⟨w1, w2, h1, h2, bl⟩ := hd
  obtain ⟨⟨a1, a2⟩, ⟨a3, a4⟩, a5⟩ := h
  unfold sh168
  rw [show (SPoint.mk x y).Y = y from rfl, show (SPoint.mk x y).X = x from rfl, row_spec hd' (by omega) (by omega), bindS, w64_id (x := x - 1) (by omega) (by omega), Int.tdiv_eq_ediv_of_nonneg (by omega), w64_id (x := (x - 1) / 2) (by omega) (by omega)]
  have hm := mul_small (a := y - 1) w1 w2 (by omega) (by omega)
  unfold numF
  rw [w64_id (by omega) (by omega)]
theorem beq_dec (a b : Int) : (a == b) = decide (a = b) := by
  by_cases h : a = b
  · subst h; simp
  · rw [beq_eq_false_iff_ne.2 h, decide_eq_false h]
theorem ite_flip {c : Prop} [Decidable c] {α : Type} {a b : α} : (bif decide c then some a else some b) = some (if c then a else b) := by
  by_cases h : c <;> simp [h]

/-! nearest -/
theorem iter_invN {σ ρ : Type} {sb : σ → Option (σ ⊕ ρ)} (I : σ → Prop) (μ : σ → Nat) (Q : ρ → Prop) {s : σ} (h0 : I s) (hμ : μ s < 4611686018427387904)
    (hs : ∀ a, I a → (∃ a', sb a = some (.inl a') ∧ I a' ∧ μ a' < μ a) ∨ (∃ x, sb a = some (.inr x) ∧ Q x)) : ∃ x, iter sb s = some x ∧ Q x := by
  have key : ∀ k a, μ a ≤ k → I a → ∃ x, iterN sb (k + 1) a = some x ∧ Q x := by
    intro k
    induction k with
    | zero =>
      intro a hk hR
      rcases hs a hR with ⟨a', _, _, h4⟩ | ⟨x, h1, h3⟩
      · omega
      · exact ⟨x, by simp [iterN, h1], h3⟩
    | succ k ih =>
      intro a hk hR
      rcases hs a hR with ⟨a', h1, h3, h4⟩ | ⟨x, h1, h3⟩
      · obtain ⟨x, g1, g3⟩ := ih a' (by omega) h3
        exact ⟨x, by rw [iterN, h1]; exact g1, g3⟩
      · exact ⟨x, by rw [iterN, h1], h3⟩
  obtain ⟨x, h1, h2⟩ := key 4611686018427387903 s (by omega) h0
  exact ⟨x, h1, h2⟩
/-- The points of a row and of all rows. -/
def rowX (y : Int) (n : Nat) : List SPoint := ((List.range n).filter (fun (x : Nat) => decide (((x : Int) + y) % 2 = 1))).map (fun (x : Nat) => ⟨(x : Int), y⟩)
theorem rowX_succ (y : Int) (n : Nat) : rowX y (n + 1) = rowX y n ++ (if ((n : Int) + y) % 2 = 1 then [⟨(n : Int), y⟩] else []) := by
  unfold rowX
  rw [List.range_succ, List.filter_append, List.map_append]
  by_cases h : ((n : Int) + y) % 2 = 1
  · rw [if_pos h, List.filter_cons, if_pos (decide_eq_true h)]; rfl
  · rw [if_neg h, List.filter_cons, if_neg (by simpa using h)]; rfl
theorem rowX_len (y : Int) (n : Nat) : (rowX y n).length ≤ n := by
  unfold rowX
  rw [List.length_map]
  exact Nat.le_trans (List.length_filter_le ..) (by simp)
def allX (w : Nat) : Nat → List SPoint
  | 0 => []
  | n + 1 => allX w n ++ rowX (n : Int) w
theorem allX_len (w : Nat) : ∀ n, (allX w n).length ≤ w * n
  | 0 => by simp [allX]
  | n + 1 => by
    have h1 := allX_len w n
    have h2 := rowX_len (n : Int) w
    rw [allX, List.length_append, Nat.mul_succ]; omega
theorem mem_allX {w : Nat} {a : SPoint} : ∀ {n : Nat}, a ∈ allX w n → ∃ x y : Nat, x < w ∧ y < n ∧ ((x : Int) + (y : Int)) % 2 = 1 ∧ a = ⟨(x : Int), (y : Int)⟩
  | n + 1, h => by
    rcases List.mem_append.1 h with h | h
    · obtain ⟨x, y, h1, h2, h3, h4⟩ := mem_allX h
      exact ⟨x, y, h1, by omega, h3, h4⟩
    · simp only [rowX, List.mem_map, List.mem_filter, List.mem_range, decide_eq_true_eq] at h
      obtain ⟨x, ⟨h1, h2⟩, rfl⟩ := h
      exact ⟨x, n, h1, by omega, h2, rfl⟩
theorem allX_ne {w n : Nat} (hw : 2 ≤ w) (hn : 1 ≤ n) : allX w n ≠ [] := by
  obtain ⟨m, rfl⟩ : ∃ m, n = m + 1 := ⟨n - 1, by omega⟩
  clear hn
  induction m with
  | zero =>
    intro h
    have hm : (⟨((1 : Nat) : Int), ((0 : Nat) : Int)⟩ : SPoint) ∈ allX w (0 + 1) := by
      refine List.mem_append.2 (.inr ?_)
      simp only [rowX, List.mem_map, List.mem_filter, List.mem_range, decide_eq_true_eq]
      exact ⟨1, ⟨by omega, by decide⟩, rfl⟩
    rw [h] at hm
    cases hm
  | succ m ih => intro h; rw [allX] at h; exact ih (List.append_eq_nil_iff.1 h).1
theorem odd_w (x y : Nat) (h : x ≤ 100) (h2 : y ≤ 100) : ((w64 ((x : Int) + (y : Int))).tmod 2 == 1) = decide (((x : Int) + (y : Int)) % 2 = 1) := by
  rw [w64_id (by omega) (by omega), Int.tmod_eq_emod_of_nonneg (by omega)]
  rfl
structure Ext (p : SPanel) (N M : Nat) : Prop where
  w : w64 (2 * p.W) = 2 * p.W
  h : w64 (2 * p.H) = 2 * p.H
  n : 2 * p.W + 1 = (N : Int)
  m : 2 * p.H + 1 = (M : Int)
  n1 : 3 ≤ N ∧ N ≤ 17
  m1 : 3 ≤ M ∧ M ≤ 17
theorem ext_of {p : SPanel} (hd : Dim p) : ∃ N M, Ext p N M := by
  have := hd.w1; have := hd.w2; have := hd.h1; have := hd.h2
  exact ⟨(2 * p.W + 1).toNat, (2 * p.H + 1).toNat, w64_id (by omega) (by omega), w64_id (by omega) (by omega), by omega, by omega, by omega, by omega⟩
theorem all_inner {p : SPanel} {N M : Nat} (h : Ext p N M) (y : Nat) (hy : y ≤ 17) (l : List SPoint) (hl : l.length ≤ 1000) : iter (sh188_2 p (y : Int)) (0, l) = some (l ++ rowX (y : Int) N) := by
  have h1 := h.n1
  have hi := iter_steps (sb := sh188_2 p (y : Int)) (fun k => ((k : Int), l ++ rowX (y : Int) k)) N (x := l ++ rowX (y : Int) N) (by omega) (fun k hk => ?_) ?_
  · simpa [rowX] using hi
  · have hd : decide ((k : Int) < w64 (w64 (2 * p.W) + 1)) = true := by rw [h.w, w64_id (by have := h.n; omega) (by have := h.n; omega)]; exact decide_eq_true (by have := h.n; omega)
    have hr := rowX_len (y : Int) k
    simp only [sh188_2, hd, cond_true, odd_w k y (by omega) (by omega)]
    rw [rowX_succ, w64_id (x := (k : Int) + 1) (by omega) (by omega)]
    by_cases ho : ((k : Int) + (y : Int)) % 2 = 1
    · rw [decide_eq_true ho, cond_true, appL_ok (by simp only [List.length_append, List.length_cons, List.length_nil]; omega), bindS, bindS, if_pos ho, List.append_assoc]; rfl
    · rw [decide_eq_false ho, cond_false, bindS, if_neg ho, List.append_nil]; rfl
  · have hd : decide ((N : Int) < w64 (w64 (2 * p.W) + 1)) = false := by rw [h.w, w64_id (by have := h.n; omega) (by have := h.n; omega)]; exact decide_eq_false (by have := h.n; omega)
    simp only [sh188_2, hd, cond_false]
theorem all_impl {p : SPanel} {N M : Nat} (h : Ext p N M) : sh188 p = some (allX N M) := by
  have h1 := h.n1; have h2 := h.m1
  unfold sh188
  have hi := iter_steps (sb := sh188_1 p) (fun k => ((k : Int), allX N k)) M (x := allX N M) (by omega) (fun k hk => ?_) ?_
  · rw [show ((0 : Int), ([] : List SPoint)) = (((0 : Nat) : Int), allX N 0) from rfl, hi, bindS]
  · have hd : decide ((k : Int) < w64 (w64 (2 * p.H) + 1)) = true := by rw [h.h, w64_id (by have := h.m; omega) (by have := h.m; omega)]; exact decide_eq_true (by have := h.m; omega)
    have hr := allX_len N k
    have hr2 : N * k ≤ 17 * 17 := Nat.mul_le_mul h1.2 (by omega)
    simp only [sh188_1, hd, cond_true, all_inner h k (by omega) (allX N k) (by omega), bindS]
    rw [w64_id (x := (k : Int) + 1) (by omega) (by omega)]
    rfl
  · have hd : decide ((M : Int) < w64 (w64 (2 * p.H) + 1)) = false := by rw [h.h, w64_id (by have := h.m; omega) (by have := h.m; omega)]; exact decide_eq_false (by have := h.m; omega)
    simp only [sh188_1, hd, cond_false]
/-- The square of a distance, and the two ways to look for the least. -/
def sqF (pl : SPoint) (s : Int) (a : SPoint) : Int := w64 (w64 (w64 (pl.X - w64 (a.X * s)) * w64 (pl.X - w64 (a.X * s))) + w64 (w64 (pl.Y - w64 (a.Y * s)) * w64 (pl.Y - w64 (a.Y * s))))
def sqI (pl : SPoint) (s : Int) (a : SPoint) : Int := w64 (w64 (w64 (w64 (a.X * s) - pl.X) * w64 (w64 (a.X * s) - pl.X)) + w64 (w64 (w64 (a.Y * s) - pl.Y) * w64 (w64 (a.Y * s) - pl.Y)))
def gS (pl : SPoint) (s : Int) (b : Int × SPoint) (a : SPoint) : Int × SPoint := if sqF pl s a < b.1 then (sqF pl s a, a) else b
def gI (pl : SPoint) (s : Int) (b : Int × SPoint) (a : SPoint) : Int × SPoint := if b.1 < 0 ∨ sqF pl s a < b.1 then (sqF pl s a, a) else b
theorem near_inner {p : SPanel} {N M : Nat} (h : Ext p N M) (pl : SPoint) (s : Int) (y : Nat) (hy : y ≤ 17) (b : Int) (o : SPoint) : iter (sh166_2 p pl s (y : Int)) (b, w64 (1 - (y : Int).tmod 2), o) = some ((rowX (y : Int) N).foldl (gS pl s) (b, o)) := by
  have h1 := h.n1
  have hx0 : w64 (1 - (y : Int).tmod 2) = 1 - (y : Int) % 2 := by rw [Int.tmod_eq_emod_of_nonneg (by omega), w64_id (by omega) (by omega)]
  rw [hx0]
  obtain ⟨x, hx, hq⟩ := iter_invN (sb := sh166_2 p pl s (y : Int)) (fun t : Int × Int × SPoint => ∃ k : Nat, t.2.1 = k ∧ k ≤ N + 1 ∧ ((k : Int) + (y : Int)) % 2 = 1 ∧ (t.1, t.2.2) = (rowX (y : Int) k).foldl (gS pl s) (b, o)) (fun t : Int × Int × SPoint => ((N : Int) + 2 - t.2.1).toNat) (fun x => x = (rowX (y : Int) N).foldl (gS pl s) (b, o)) (s := (b, 1 - (y : Int) % 2, o)) (by
      refine ⟨(1 - (y : Int) % 2).toNat, by simp only; omega, by omega, by omega, ?_⟩
      rcases (show (y : Int) % 2 = 0 ∨ (y : Int) % 2 = 1 by omega) with h0 | h0
      · rw [h0, show ((1 : Int) - 0).toNat = 0 + 1 from rfl, rowX_succ, if_neg (by omega)]; rfl
      · rw [h0]; rfl) (by simp only; omega) (by
      rintro ⟨c, z, q⟩ ⟨k, rfl, hk, ho, he⟩
      simp only at he
      by_cases hlt : k < N
      · left
        have hd : decide ((k : Int) ≤ w64 (2 * p.W)) = true := by rw [h.w]; exact decide_eq_true (by have := h.n; omega)
        have hsq : sh186 pl ⟨(k : Int), (y : Int)⟩ s = some (sqF pl s ⟨(k : Int), (y : Int)⟩) := rfl
        have hw : w64 ((k : Int) + 2) = ((k + 2 : Nat) : Int) := by rw [w64_id (by omega) (by omega)]; omega
        have hf : rowX (y : Int) (k + 2) = rowX (y : Int) k ++ [⟨(k : Int), (y : Int)⟩] := by rw [rowX_succ, rowX_succ, if_pos ho, if_neg (by omega), List.append_nil]
        simp only [sh166_2, hd, cond_true, hsq, bindS, hw]
        refine ⟨((gS pl s (c, q) ⟨(k : Int), (y : Int)⟩).1, ((k + 2 : Nat) : Int), (gS pl s (c, q) ⟨(k : Int), (y : Int)⟩).2), ?_, ⟨k + 2, rfl, by omega, by omega, ?_⟩, by simp only; omega⟩
        · unfold gS
          by_cases hc : sqF pl s ⟨(k : Int), (y : Int)⟩ < c
          · rw [decide_eq_true hc, if_pos hc]; rfl
          · rw [decide_eq_false hc, if_neg hc]; rfl
        · rw [hf, List.foldl_append, ← he]; rfl
      · right
        have hd : decide ((k : Int) ≤ w64 (2 * p.W)) = false := by rw [h.w]; exact decide_eq_false (by have := h.n; omega)
        simp only [sh166_2, hd, cond_false]
        refine ⟨(c, q), rfl, ?_⟩
        rw [he]
        rcases (show k = N ∨ k = N + 1 by omega) with rfl | rfl
        · rfl
        · rw [rowX_succ, if_neg (by omega), List.append_nil])
  rw [hx, hq]
theorem near_spec {p : SPanel} {N M : Nat} (h : Ext p N M) (pl : SPoint) (s : Int) : ∃ r, sh166 p pl s = some (r.2, decide (r.1 ≤ w64 (s * s))) ∧ r = (allX N M).foldl (gS pl s) (w64 (w64 (s * s) + 1), ⟨0, 0⟩) := by
  have h1 := h.m1
  unfold sh166
  obtain ⟨x, hx, hq⟩ := iter_invN (sb := sh166_1 p pl s) (fun t : Int × Int × SPoint => ∃ k : Nat, t.2.1 = k ∧ k ≤ M ∧ (t.1, t.2.2) = (allX N k).foldl (gS pl s) (w64 (w64 (s * s) + 1), ⟨0, 0⟩)) (fun t : Int × Int × SPoint => ((M : Int) - t.2.1).toNat) (fun x => x = (allX N M).foldl (gS pl s) (w64 (w64 (s * s) + 1), ⟨0, 0⟩)) (s := (w64 (w64 (s * s) + 1), 0, ⟨0, 0⟩)) ⟨0, rfl, by omega, rfl⟩ (by simp only; omega) (by
      rintro ⟨c, z, q⟩ ⟨k, rfl, hk, he⟩
      simp only at he
      by_cases hlt : k < M
      · left
        have hd : decide ((k : Int) ≤ w64 (2 * p.H)) = true := by rw [h.h]; exact decide_eq_true (by have := h.m; omega)
        have hw : w64 ((k : Int) + 1) = ((k + 1 : Nat) : Int) := by rw [w64_id (by omega) (by omega)]; rfl
        simp only [sh166_1, hd, cond_true, near_inner h pl s k (by omega), bindS, hw]
        refine ⟨_, rfl, ⟨k + 1, rfl, hlt, ?_⟩, by simp only; omega⟩
        rw [allX, List.foldl_append, ← he]
      · right
        have hd : decide ((k : Int) ≤ w64 (2 * p.H)) = false := by rw [h.h]; exact decide_eq_false (by have := h.m; omega)
        have hkM : k = M := by omega
        subst hkM
        simp only [sh166_1, hd, cond_false]
        exact ⟨(c, q), rfl, he⟩)
  exact ⟨x, by rw [hx]; rfl, hq⟩
theorem mul_bdN {x y B : Int} (h1 : -B ≤ x) (h2 : x ≤ B) (h3 : -B ≤ y) (h4 : y ≤ B) : -(B * B) ≤ x * y ∧ x * y ≤ B * B := by
  constructor
  · have : (x + B) * (y + B) ≥ 0 := Int.mul_nonneg (by omega) (by omega)
    have h5 : (B - x) * (B - y) ≥ 0 := Int.mul_nonneg (by omega) (by omega)
    rw [Int.add_mul, Int.mul_add, Int.mul_add] at this
    rw [Int.sub_mul, Int.mul_sub, Int.mul_sub] at h5
    have e1 : x * B = B * x := Int.mul_comm ..
    omega
  · have : (B - x) * (y + B) ≥ 0 := Int.mul_nonneg (by omega) (by omega)
    have h5 : (x + B) * (B - y) ≥ 0 := Int.mul_nonneg (by omega) (by omega)
    rw [Int.sub_mul, Int.mul_add, Int.mul_add] at this
    rw [Int.add_mul, Int.mul_sub, Int.mul_sub] at h5
    have e1 : x * B = B * x := Int.mul_comm ..
    omega
theorem sq_nonneg (x : Int) : 0 ≤ x * x := by
  rcases Int.le_total 0 x with h | h
  · exact Int.mul_nonneg h h
  · have := Int.mul_nonneg (show 0 ≤ -x by omega) (show 0 ≤ -x by omega)
    rwa [Int.neg_mul_neg] at this
theorem sq_ok {pl : SPoint} {s : Int} {a : SPoint} (hp : (0 ≤ pl.X ∧ pl.X ≤ 2000) ∧ (0 ≤ pl.Y ∧ pl.Y ≤ 2000)) (hs : 2 ≤ s ∧ s ≤ 100) (ha : (0 ≤ a.X ∧ a.X ≤ 17) ∧ (0 ≤ a.Y ∧ a.Y ≤ 17)) : sqI pl s a = sqF pl s a ∧ 0 ≤ sqF pl s a := by
  have m1 := mul_bdN (x := a.X) (y := s) (B := 100) (by omega) (by omega) (by omega) (by omega)
  have m2 := mul_bdN (x := a.Y) (y := s) (B := 100) (by omega) (by omega) (by omega) (by omega)
  unfold sqI sqF
  rw [w64_id (x := a.X * s) (by omega) (by omega), w64_id (x := a.Y * s) (by omega) (by omega)]
  generalize a.X * s = u at *
  generalize a.Y * s = v at *
  rw [w64_id (x := u - pl.X) (by omega) (by omega), w64_id (x := v - pl.Y) (by omega) (by omega), w64_id (x := pl.X - u) (by omega) (by omega), w64_id (x := pl.Y - v) (by omega) (by omega)]
  have e1 : (u - pl.X) * (u - pl.X) = (pl.X - u) * (pl.X - u) := by rw [← Int.neg_mul_neg, show -(u - pl.X) = pl.X - u by omega]
  have e2 : (v - pl.Y) * (v - pl.Y) = (pl.Y - v) * (pl.Y - v) := by rw [← Int.neg_mul_neg, show -(v - pl.Y) = pl.Y - v by omega]
  rw [e1, e2]
  refine ⟨rfl, ?_⟩
  have n1 := mul_bdN (x := pl.X - u) (y := pl.X - u) (B := 12000) (by omega) (by omega) (by omega) (by omega)
  have n2 := mul_bdN (x := pl.Y - v) (y := pl.Y - v) (B := 12000) (by omega) (by omega) (by omega) (by omega)
  have q1 := sq_nonneg (pl.X - u)
  have q2 := sq_nonneg (pl.Y - v)
  generalize (pl.X - u) * (pl.X - u) = z1 at *
  generalize (pl.Y - v) * (pl.Y - v) = z2 at *
  rw [w64_id (x := z1) (by omega) (by omega), w64_id (x := z2) (by omega) (by omega), w64_id (by omega) (by omega)]
  omega
theorem near_impl {p : SPanel} {N M : Nat} (h : Ext p N M) {pl : SPoint} {s : Int} (hp : (0 ≤ pl.X ∧ pl.X ≤ 2000) ∧ (0 ≤ pl.Y ∧ pl.Y ≤ 2000)) (hs : 2 ≤ s ∧ s ≤ 100) : ∃ r, sh171 p pl s = some (r.2, decide (r.1 ≤ w64 (s * s))) ∧ r = (allX N M).foldl (gI pl s) (-1, ⟨0, 0⟩) := by
  have h1 := h.m1
  have h2 := h.n1
  unfold sh171
  rw [all_impl h, bindS]
  have hl := allX_len N M
  have hl2 : N * M ≤ 17 * 17 := Nat.mul_le_mul h2.2 h1.2
  have hi := iter_fold (sb := sh171_1 pl s (allX N M)) (allX N M) (fun k (l : Int × SPoint) => (l.1, (k : Int), l.2)) (gI pl s) (fun l => l) (fun _ _ => True) (-1, ⟨0, 0⟩) trivial (by omega) (fun k hk l _ => ?_) (fun l _ => by
      have hd : decide (((allX N M).length : Int) < ((allX N M).length : Int)) = false := by simp
      simp only [sh171_1, hd, cond_false])
  · have e := hi.1
    simp only [Int.natCast_zero] at e
    rw [e]
    exact ⟨_, rfl, rfl⟩
  · refine ⟨?_, trivial⟩
    have hd : decide ((k : Int) < ((allX N M).length : Int)) = true := decide_eq_true (by omega)
    obtain ⟨x, y, hx, hy, _, hxy⟩ := mem_allX (List.getElem_mem hk)
    have hq : sqI pl s (allX N M)[k] = sqF pl s (allX N M)[k] := (sq_ok hp hs (by rw [hxy]; exact ⟨⟨by simp only; omega, by simp only; omega⟩, by simp only; omega, by simp only; omega⟩)).1
    simp only [sh171_1, hd, cond_true, getI_lt hk, bindS, w64_id (x := (k : Int) + 1) (by omega) (by omega)]
    rw [show w64 (w64 (w64 (w64 ((allX N M)[k].X * s) - pl.X) * w64 (w64 ((allX N M)[k].X * s) - pl.X)) + w64 (w64 (w64 ((allX N M)[k].Y * s) - pl.Y) * w64 (w64 ((allX N M)[k].Y * s) - pl.Y))) = sqI pl s (allX N M)[k] from rfl, hq]
    unfold gI
    by_cases hc : l.1 < 0 ∨ sqF pl s (allX N M)[k] < l.1
    · have hc2 : (decide (l.1 < 0) || decide (sqF pl s (allX N M)[k] < l.1)) = true := by simpa using hc
      rw [hc2, if_pos hc]; rfl
    · have hc2 : (decide (l.1 < 0) || decide (sqF pl s (allX N M)[k] < l.1)) = false := by simp at hc ⊢; omega
      rw [hc2, if_neg hc]; rfl
theorem fold_rel {pl : SPoint} {s S : Int} (hS : 0 ≤ S) (Q : List SPoint) : ∀ (P : List SPoint), (∀ a ∈ P, a ∈ Q ∧ 0 ≤ sqF pl s a) → ∀ (u v : Int × SPoint),
    ((u.1 = -1 ∧ v.1 = S + 1) ∨ (0 ≤ u.1 ∧ u.2 ∈ Q ∧ ((u.1 ≤ S ∧ v = u) ∨ (S < u.1 ∧ v.1 = S + 1)))) →
    (let u' := P.foldl (gI pl s) u; let v' := P.foldl (gS pl s) v; ((u'.1 = -1 ∧ v'.1 = S + 1 ∧ P = []) ∨ (0 ≤ u'.1 ∧ u'.2 ∈ Q ∧ ((u'.1 ≤ S ∧ v' = u') ∨ (S < u'.1 ∧ v'.1 = S + 1)))))
  | [], _, u, v, h => by
    rcases h with ⟨h1, h2⟩ | h
    · exact .inl ⟨h1, h2, rfl⟩
    · exact .inr h
  | a :: P, hP, u, v, h => by
    obtain ⟨ha, hq⟩ := hP a (List.mem_cons_self ..)
    have key : 0 ≤ (gI pl s u a).1 ∧ (gI pl s u a).2 ∈ Q ∧ (((gI pl s u a).1 ≤ S ∧ gS pl s v a = gI pl s u a) ∨ (S < (gI pl s u a).1 ∧ (gS pl s v a).1 = S + 1)) := by
      unfold gI gS
      rcases h with ⟨h1, h2⟩ | ⟨h1, h2, h3⟩
      · rw [if_pos (.inl (by omega))]
        refine ⟨hq, ha, ?_⟩
        by_cases hc : sqF pl s a < v.1
        · rw [if_pos hc]; exact .inl ⟨by simp only; omega, rfl⟩
        · rw [if_neg hc]; exact .inr ⟨by simp only; omega, h2⟩
      · rcases h3 with ⟨h3, rfl⟩ | ⟨h3, h4⟩
        · by_cases hc : sqF pl s a < v.1
          · rw [if_pos (.inr hc), if_pos hc]; exact ⟨hq, ha, .inl ⟨by simp only; omega, rfl⟩⟩
          · rw [if_neg (by omega), if_neg hc]; exact ⟨h1, h2, .inl ⟨h3, rfl⟩⟩
        · by_cases hc : sqF pl s a < u.1
          · rw [if_pos (.inr hc)]
            refine ⟨hq, ha, ?_⟩
            by_cases hd : sqF pl s a < v.1
            · rw [if_pos hd]; exact .inl ⟨by simp only; omega, rfl⟩
            · rw [if_neg hd]; exact .inr ⟨by simp only; omega, h4⟩
          · rw [if_neg (by omega), if_neg (by omega)]; exact ⟨h1, h2, .inr ⟨h3, h4⟩⟩
    have := fold_rel hS Q P (fun b hb => hP b (List.mem_cons_of_mem _ hb)) (gI pl s u a) (gS pl s v a) (.inr key)
    rcases this with ⟨h1, h2, rfl⟩ | h
    · exact .inr key
    · exact .inr h
/-- Both find the same point, or none. -/
theorem near_same {p : SPanel} (hd : Dim p) {pl : SPoint} {s : Int} (hp : (0 ≤ pl.X ∧ pl.X ≤ 2000) ∧ (0 ≤ pl.Y ∧ pl.Y ≤ 2000)) (hs : 2 ≤ s ∧ s ≤ 100) :
    (∃ a, sh166 p pl s = some (a, true) ∧ sh171 p pl s = some (a, true) ∧ (0 ≤ a.X ∧ a.X ≤ 2 * p.W) ∧ (0 ≤ a.Y ∧ a.Y ≤ 2 * p.H) ∧ (a.X + a.Y) % 2 = 1) ∨
    ∃ a b, sh166 p pl s = some (a, false) ∧ sh171 p pl s = some (b, false) := by
  obtain ⟨N, M, h⟩ := ext_of hd
  have h1 := h.n1; have h2 := h.m1; have e1 := h.n; have e2 := h.m
  obtain ⟨v, hv, hv2⟩ := near_spec h pl s
  obtain ⟨u, hu, hu2⟩ := near_impl h hp hs
  have mb := mul_bdN (x := s) (y := s) (B := 100) (by omega) (by omega) (by omega) (by omega)
  have q0 := sq_nonneg s
  have hw : w64 (s * s) = s * s := w64_id (by omega) (by omega)
  rw [hw] at hv hu hv2
  rw [w64_id (x := s * s + 1) (by omega) (by omega)] at hv2
  have hr := fold_rel (pl := pl) (s := s) (S := s * s) q0 (allX N M) (allX N M) (fun a ha => by
    obtain ⟨x, y, hx, hy, _, rfl⟩ := mem_allX ha
    exact ⟨ha, (sq_ok hp hs ⟨⟨by simp only; omega, by simp only; omega⟩, by simp only; omega, by simp only; omega⟩).2⟩) (-1, ⟨0, 0⟩) (s * s + 1, ⟨0, 0⟩) (.inl ⟨rfl, rfl⟩)
  rw [← hu2, ← hv2] at hr
  rcases hr with ⟨_, _, h3⟩ | ⟨h3, h4, h5⟩
  · exact absurd h3 (allX_ne (by omega) (by omega))
  · rcases h5 with ⟨h5, rfl⟩ | ⟨h5, h6⟩
    · left
      obtain ⟨x, y, hx, hy, hxy, he⟩ := mem_allX h4
      refine ⟨v.2, by rw [hv, decide_eq_true h5], by rw [hu, decide_eq_true h5], ?_⟩
      rw [he]
      refine ⟨⟨?_, ?_⟩, ⟨?_, ?_⟩, hxy⟩ <;> simp only <;> omega
    · right
      exact ⟨v.2, u.2, by rw [hv, decide_eq_false (by omega)], by rw [hu, decide_eq_false (by omega)]⟩

/-! strokes -/
def placeB (p : SPoint) : Bool := (decide (0 ≤ p.X) && decide (p.X ≤ 2000)) && (decide (0 ≤ p.Y) && decide (p.Y ≤ 2000))
def strokeB (q : List SPoint) : Bool := (decide (1 ≤ q.length) && decide (q.length ≤ 60)) && q.all placeB
theorem l19Ok_eq (q : List SPoint) (h : q.length ≤ 1048577) : sh79 q = some (strokeB q) := by
  unfold sh79 strokeB
  rw [iter_all (xs := q) (p := placeB) (r := false) (by omega) (fun k hk => ?_) (by simp [sh79_1]), bindS]
  · cases ha : q.all placeB
    · simp [elimS]
    · simp only [elimS, if_true, sh115, bindS, Bool.and_true]
      congr 2
      · simp only [decide_eq_decide]; omega
      · simp only [decide_eq_decide]; omega
  · have h2 : (k : Int) < q.length := by omega
    simp only [sh79_1, sh115, h2, decide_true, cond_true, getI_lt hk, bindS]
    rw [w64_id (x := (k : Int) + 1) (by omega) (by omega)]
    unfold placeB
    cases h0 : decide (0 ≤ q[k].X) && decide (q[k].X ≤ 2000) <;> cases h1 : decide (0 ≤ q[k].Y) && decide (q[k].Y ≤ 2000) <;> rfl
theorem isPlace_eq (p : SPoint) : sh143 p = some (placeB p) := by
  unfold sh143 sh136 placeB
  simp only [bindS]
  cases decide (0 ≤ p.X) && decide (p.X ≤ 2000) <;> rfl
theorem validStroke_eq (q : List SPoint) (h : q.length ≤ 1048577) : sh83 q = some (strokeB q) := by
  unfold sh83 sh141f142 sh182f142 sh136
  rw [iter_find (xs := q) (p := fun x => !placeB x) (by omega) (fun k hk => ?_) (by simp [sh182f142_1])]
  · simp only [bindS]
    unfold strokeB
    have e1 : decide ((1 : Int) ≤ (q.length : Int)) = decide (1 ≤ q.length) := by simp only [decide_eq_decide]; omega
    have e2 : decide ((q.length : Int) ≤ 60) = decide (q.length ≤ 60) := by simp only [decide_eq_decide]; omega
    rw [e1, e2]
    cases hc : decide (1 ≤ q.length) && decide (q.length ≤ 60)
    · rfl
    · have ha : q.any (fun x => !placeB x) = !q.all placeB := by rw [List.all_eq_not_any_not]; simp
      rw [ha]
      cases q.all placeB
      · simp [elimS]
      · simp [elimS]
  · have h2 : (k : Int) < q.length := by omega
    simp only [sh182f142_1, sh142, isPlace_eq, h2, decide_true, cond_true, getI_lt hk, bindS]
    rw [w64_id (x := (k : Int) + 1) (by omega) (by omega)]
    cases placeB q[k] <;> rfl
theorem strokeB_len {q : List SPoint} (h : strokeB q = true) : q.length ≤ 60 := by
  unfold strokeB at h
  simp only [Bool.and_eq_true, decide_eq_true_eq] at h
  exact h.1.2


/-! points -/
theorem szPointS_eq (xs : List SPoint) (h : xs.length ≤ 9223372036854775807) : sh51 xs 1048576 = some (if xs.length ≤ 1048576 then (1048576 - xs.length : Int) else -1) := by
  unfold sh51
  rw [w64_id (by omega) (by omega)]
  by_cases hl : xs.length ≤ 1048576
  · rw [if_pos hl, show decide ((1048576 : Int) - (xs.length : Int) < 0) = false from decide_eq_false (by omega)]; rfl
  · rw [if_neg hl, show decide ((1048576 : Int) - (xs.length : Int) < 0) = true from decide_eq_true (by omega)]; rfl

theorem toPointS_eq (xs : List SPoint) (h : xs.length ≤ 1048576) : sh53 xs = some xs := by
  unfold sh53
  rw [mkL_ok (by omega), bindS, iter_copy (xs := xs) (by omega) (fun i ys => by simp only [sh53_1, sh120, bindS]), bindS]

theorem eqPoint_eq (p q : SPoint) : sh84 p q = some (decide (p = q)) := by
  unfold sh84
  cases p with
  | mk a b =>
    cases q with
    | mk c d =>
      show (bif a != c then some false else (bif b != d then some false else some true)) = _
      by_cases h1 : a = c
      · subst h1
        rw [bne_self_eq_false, cond_false]
        by_cases h2 : b = d
        · subst h2; rw [bne_self_eq_false]; simp
        · rw [bne_iff_ne.2 h2]; simp [h2]
      · rw [bne_iff_ne.2 h1]; simp [h1]

theorem eqPointS_eq (xs ys : List SPoint) (h : xs.length ≤ 1048576) : sh17 xs ys = some (decide (xs = ys)) := by
  unfold sh17
  by_cases hl : xs.length = ys.length
  · have h1 : ((xs.length : Int) != (ys.length : Int)) = false := by simp; omega
    rw [h1, cond_false, iter_eq (xs := xs) (ys := ys) (by omega) hl (fun k hk => ?_) (by simp [sh17_1]), bindS]
    · by_cases he : xs = ys <;> simp [he, elimS]
    · have h2 : (k : Int) < xs.length := by omega
      have h3 : k < ys.length := by omega
      simp only [sh17_1, h2, decide_true, cond_true, getI_lt hk, getI_lt h3, bindS, eqPoint_eq]
      rw [w64_id (by omega) (by omega)]
      by_cases he : xs[k] = ys[k]
      · simp [he]
      · rw [if_neg he, decide_eq_false he]
        rfl
  · have h1 : ((xs.length : Int) != (ys.length : Int)) = true := by simp; omega
    rw [h1, cond_true]
    have : xs ≠ ys := fun h => hl (by rw [h])
    simp [this]

/-! polygon -/
def cornerB (p : SPoint) : Bool := (decide (-100000 ≤ p.X) && decide (p.X ≤ 100000)) && (decide (-100000 ≤ p.Y) && decide (p.Y ≤ 100000))
def polyB (q : List SPoint) : Bool := (decide (3 ≤ q.length) && decide (q.length ≤ 300)) && q.all cornerB

theorem polyB_len {q : List SPoint} (h : polyB q = true) : 3 ≤ q.length ∧ q.length ≤ 300 := by
  unfold polyB at h
  simp only [Bool.and_eq_true, decide_eq_true_eq] at h
  exact h.1

/-! max -/
theorem l00Max_eq (a b : Int) : sh177 a b = some (mx a b) := by
  unfold sh177
  rw [← mx_comm']
  by_cases h : b < a <;> simp [h]

/-! min -/
theorem l00Min_eq (a b : Int) : sh185 a b = some (mn a b) := by
  unfold sh185 mn
  by_cases h : a < b
  · have : ¬ b < a := by omega
    simp [h, this]
  · by_cases h2 : b < a <;> simp [h, h2] <;> omega

/-! boxof -/
def boxS (s : SPoint × SPoint) (p : SPoint) : SPoint × SPoint := (⟨mn s.1.X p.X, mn s.1.Y p.Y⟩, ⟨mx s.2.X p.X, mx s.2.Y p.Y⟩)
theorem boxS_same (p : SPoint) : boxS (p, p) p = (p, p) := by
  unfold boxS mn mx
  simp

theorem boxOf_eq (p : SPoint) (t : List SPoint) (h : t.length ≤ 1048576) : sh170 (p :: t) = some (t.foldl boxS (p, p)) := by
  unfold sh170
  have hg : getI (p :: t) 0 = some p := rfl
  rw [hg, bindS, bindS]
  have hi := iter_fold (sb := sh170_1 (p :: t)) (p :: t) (fun k s => ((k : Int), s.1, s.2)) boxS (fun s => (s.1, s.2)) (fun _ _ => True) (p, p) trivial (by simp; omega) (fun k hk s _ => ⟨by
      have h2 : (k : Int) < (p :: t).length := by omega
      simp only [sh170_1, h2, decide_true, cond_true, getI_lt hk, bindS]
      simp only [List.length_cons] at hk
      rw [w64_id (by omega) (by omega)]
      rfl, trivial⟩) (fun s _ => by
      have hd : decide (((p :: t).length : Int) < ((p :: t).length : Int)) = false := by simp
      simp only [sh170_1, hd, cond_false])
  have h1 := hi.1
  simp only [Int.natCast_zero] at h1
  rw [h1, bindS, List.foldl_cons, boxS_same]

theorem l19Box_eq (p : SPoint) (t : List SPoint) (h : t.length ≤ 1048576) : sh165 (p :: t) = some (t.foldl boxS (p, p)) := by
  unfold sh165
  have hg : getI (p :: t) 0 = some p := rfl
  rw [hg, bindS, bindS]
  have hi := iter_fold (sb := sh165_1 (p :: t)) t (fun k s => ((k : Int) + 1, s.1, s.2)) boxS (fun s => (s.1, s.2)) (fun _ _ => True) (p, p) trivial (by omega) (fun k hk s _ => ⟨by
      have hk1 : k + 1 < (p :: t).length := by simp; omega
      have h2 : (k : Int) + 1 < (p :: t).length := by omega
      have hgk : getI (p :: t) ((k : Int) + 1) = some t[k] := by have := getI_lt hk1; simpa using this
      simp only [sh165_1, h2, decide_true, cond_true, hgk, bindS, l00Min_eq, l00Max_eq]
      rw [w64_id (by omega) (by omega)]
      rfl, trivial⟩) (fun s _ => by
      have hd : decide ((t.length : Int) + 1 < ((p :: t).length : Int)) = false := by simp
      simp only [sh165_1, hd, cond_false])
  have h1 := hi.1
  simp only [Int.natCast_zero, Int.zero_add] at h1
  rw [h1, bindS]


/-! applystroke -/
theorem box_bd {B : Int} : ∀ (t : List SPoint) (z : SPoint × SPoint), ((0 ≤ z.1.X ∧ z.1.X ≤ B) ∧ (0 ≤ z.1.Y ∧ z.1.Y ≤ B) ∧ (0 ≤ z.2.X ∧ z.2.X ≤ B) ∧ (0 ≤ z.2.Y ∧ z.2.Y ≤ B)) → (∀ a ∈ t, (0 ≤ a.X ∧ a.X ≤ B) ∧ (0 ≤ a.Y ∧ a.Y ≤ B)) →
    (let r := t.foldl boxS z; (0 ≤ r.1.X ∧ r.1.X ≤ B) ∧ (0 ≤ r.1.Y ∧ r.1.Y ≤ B) ∧ (0 ≤ r.2.X ∧ r.2.X ≤ B) ∧ (0 ≤ r.2.Y ∧ r.2.Y ≤ B))
  | [], z, h, _ => h
  | a :: t, z, h, ht => by
    have ha := ht a (List.mem_cons_self ..)
    refine box_bd t (boxS z a) ?_ (fun b hb => ht b (List.mem_cons_of_mem _ hb))
    unfold boxS mn mx
    refine ⟨⟨?_, ?_⟩, ⟨?_, ?_⟩, ⟨?_, ?_⟩, ?_, ?_⟩ <;> simp only <;> split <;> omega
def kindF (b : SPoint × SPoint) (s : Int) : Int := bif (decide (w64 (2 * w64 (b.2.X - b.1.X)) < s) && decide (w64 (2 * w64 (b.2.Y - b.1.Y)) < s)) then 0 else (bif decide (w64 (2 * w64 (b.2.X - b.1.X)) ≤ w64 (b.2.Y - b.1.Y)) then 1 else (bif decide (w64 (2 * w64 (b.2.Y - b.1.Y)) ≤ w64 (b.2.X - b.1.X)) then 2 else 3))
theorem kindF_cases (b : SPoint × SPoint) (s : Int) : kindF b s = 0 ∨ kindF b s = 1 ∨ kindF b s = 2 ∨ kindF b s = 3 := by
  unfold kindF
  cases (decide (w64 (2 * w64 (b.2.X - b.1.X)) < s) && decide (w64 (2 * w64 (b.2.Y - b.1.Y)) < s)) <;> cases decide (w64 (2 * w64 (b.2.X - b.1.X)) ≤ w64 (b.2.Y - b.1.Y)) <;> cases decide (w64 (2 * w64 (b.2.Y - b.1.Y)) ≤ w64 (b.2.X - b.1.X)) <;> simp
theorem kind_spec {q : List SPoint} {b : SPoint × SPoint} (h : sh165 q = some b) (s : Int) : sh164 q s = some (kindF b s) := by
  unfold sh164 kindF
  rw [h, bindS]
  cases (decide (w64 (2 * w64 (b.2.X - b.1.X)) < s) && decide (w64 (2 * w64 (b.2.Y - b.1.Y)) < s)) <;> cases decide (w64 (2 * w64 (b.2.X - b.1.X)) ≤ w64 (b.2.Y - b.1.Y)) <;> cases decide (w64 (2 * w64 (b.2.Y - b.1.Y)) ≤ w64 (b.2.X - b.1.X)) <;> rfl
theorem kind_impl {q : List SPoint} {b : SPoint × SPoint} (h : sh170 q = some b) (s : Int) : sh169 q s = some (kindF b s) := by
  unfold sh169 kindF
  rw [h, bindS]
  cases (decide (w64 (2 * w64 (b.2.X - b.1.X)) < s) && decide (w64 (2 * w64 (b.2.Y - b.1.Y)) < s)) <;> cases decide (w64 (2 * w64 (b.2.X - b.1.X)) ≤ w64 (b.2.Y - b.1.Y)) <;> cases decide (w64 (2 * w64 (b.2.Y - b.1.Y)) ≤ w64 (b.2.X - b.1.X)) <;> rfl
theorem stroke_facts {q : List SPoint} (h : strokeB q = true) : ∃ a t, q = a :: t ∧ q.length ≤ 60 ∧ ∀ b ∈ q, (0 ≤ b.X ∧ b.X ≤ 2000) ∧ (0 ≤ b.Y ∧ b.Y ≤ 2000) := by
  unfold strokeB at h
  simp only [Bool.and_eq_true, decide_eq_true_eq, List.all_eq_true] at h
  obtain ⟨⟨h1, h2⟩, h3⟩ := h
  cases q with
  | nil => simp at h1
  | cons a t =>
    refine ⟨a, t, rfl, h2, fun b hb => ?_⟩
    have := h3 b hb
    unfold placeB at this
    simpa only [Bool.and_eq_true, decide_eq_true_eq] using this
theorem half_bd {a b : Int} (ha : 0 ≤ a ∧ a ≤ 2000) (hb : 0 ≤ b ∧ b ≤ 2000) : 0 ≤ w64 ((w64 (a + b)).tdiv 2) ∧ w64 ((w64 (a + b)).tdiv 2) ≤ 2000 := by
  rw [w64_id (x := a + b) (by omega) (by omega), Int.tdiv_eq_ediv_of_nonneg (by omega), w64_id (by omega) (by omega)]
  omega
theorem edge_impl {p : SPanel} (hd : Dim p) (a : SPoint) : sh172 p a = some (decide (a.X = 0 ∨ a.X = 2 * p.W ∨ a.Y = 0 ∨ a.Y = 2 * p.H)) := by
  unfold sh172
  have := hd.w1; have := hd.w2; have := hd.h1; have := hd.h2
  rw [w64_id (x := 2 * p.W) (by omega) (by omega), w64_id (x := 2 * p.H) (by omega) (by omega)]
  congr 1
  rw [Bool.eq_iff_iff]
  simp only [Bool.or_eq_true, beq_iff_eq, decide_eq_true_eq]
  omega
theorem edge_spec {p : SPanel} (hd : Dim p) (a : SPoint) : sh167 p a = some (decide (a.X = 0 ∨ a.X = 2 * p.W ∨ a.Y = 0 ∨ a.Y = 2 * p.H)) := by
  unfold sh167
  have := hd.w1; have := hd.w2; have := hd.h1; have := hd.h2
  rw [w64_id (x := 2 * p.W) (by omega) (by omega), w64_id (x := 2 * p.H) (by omega) (by omega)]
  congr 1
  rw [Bool.eq_iff_iff]
  simp only [Bool.or_eq_true, beq_iff_eq, decide_eq_true_eq]
  omega
theorem panel_eta (p : SPanel) : SPanel.mk p.W p.H p.Breaks = p := rfl
/-- A stroke at a panel of its own: the code, and the breaks. -/
theorem stroke_once (p : SPanel) (q : List SPoint) (s : Int) (hp : panelB p = true) (hb : p.Breaks.length ≤ 1048576) (hq : strokeB q = true) (hs : 2 ≤ s ∧ s ≤ 100) :
    (∃ c, c ≠ 0 ∧ sh119 p q s = some (c, p.Breaks) ∧ sh122 p q s = some (⟨0, 0, []⟩, c)) ∨
    ∃ b, b.length = p.Breaks.length ∧ (∀ x ∈ b, x ∈ p.Breaks ∨ 0 ≤ x ∧ x ≤ 2) ∧ sh119 p q s = some (0, b) ∧ sh122 p q s = some (⟨p.W, p.H, b⟩, 0) := by
  have hd := dim_of hp
  obtain ⟨a, t, rfl, hl, hpt⟩ := stroke_facts hq
  have htl : t.length ≤ 1048576 := by simp at hl; omega
  have b1 := boxOf_eq a t htl
  have b2 := l19Box_eq a t htl
  have ha := hpt a (List.mem_cons_self ..)
  have bb := box_bd (B := 2000) t (a, a) ⟨ha.1, ha.2, ha.1, ha.2⟩ (fun b hb => hpt b (List.mem_cons_of_mem _ hb))
  unfold sh119 sh122
  rw [kind_spec b2 s, kind_impl b1 s, b1, b2]
  generalize t.foldl boxS (a, a) = z at *
  obtain ⟨z1, z2, z3, z4⟩ := bb
  simp only [bindS]
  have hk := kindF_cases z s
  by_cases hk3 : kindF z s = 3
  · left
    rw [hk3]
    exact ⟨7, by decide, rfl, rfl⟩
  · have hk3' : (kindF z s == 3) = false := by simpa using hk3
    rw [hk3', cond_false, cond_false]
    rcases near_same hd (pl := ⟨w64 ((w64 (z.1.X + z.2.X)).tdiv 2), w64 ((w64 (z.1.Y + z.2.Y)).tdiv 2)⟩) (s := s) ⟨half_bd z1 z3, half_bd z2 z4⟩ hs with ⟨x, n1, n2, n3, n4, n5⟩ | ⟨x, y, n1, n2⟩
    · simp only [n1, n2, bindS, Bool.not_true, cond_false, edge_spec hd, edge_impl hd]
      by_cases he : x.X = 0 ∨ x.X = 2 * p.W ∨ x.Y = 0 ∨ x.Y = 2 * p.H
      · left
        rw [decide_eq_true he]
        exact ⟨6, by decide, rfl, rfl⟩
      · right
        have hin : inr p x.X x.Y := ⟨by omega, by omega, n5⟩
        have hbd := num_bd hd hin
        have hl : (numF p x.X x.Y).toNat < p.Breaks.length := by omega
        have m1 : sh174 p x = some (numF p x.X x.Y) := number_impl hd hin
        have m2 : sh168 p x = some (numF p x.X x.Y) := number_spec hd hin
        have hg : getI ([0, 1, 2] : List Int) (kindF z s) = some (kindF z s) := by
          rcases hk with h | h | h | h
          · rw [h]; rfl
          · rw [h]; rfl
          · rw [h]; rfl
          · exact absurd h hk3
        have happ : appL ([] : List Int) p.Breaks = some p.Breaks := by rw [appL_ok (by simp only [List.length_nil]; omega)]; rfl
        rw [decide_eq_false he]
        simp only [cond_false, m1, m2, bindS, hg, getI_toNat hbd.1 hl, sh173, sh123, sh175, happ]
        refine ⟨_, ?_, ?_, rfl, rfl⟩
        · simp
        · intro y hy
          rcases List.mem_or_eq_of_mem_set hy with h | h
          · exact .inl h
          · right; rw [h]; omega
    · left
      simp only [n1, n2, bindS, Bool.not_false, cond_true]
      exact ⟨3, by decide, rfl, rfl⟩
def scaleB (s : Int) : Bool := decide (2 ≤ s) && decide (s ≤ 100)

/-! mark_points -/
/-- The numbers that are laid into a result of places. -/
def marksP (m : Int) (n : Nat) : List SPoint := (List.range n).map fun (i : Nat) => ⟨m + 2 * (i : Int), m + 2 * (i : Int) + 1⟩
theorem marksP_length (m : Int) (n : Nat) : (marksP m n).length = n := by simp [marksP]
theorem marksP_get (m : Int) (n k : Nat) (h : k < n) : (marksP m n)[k]'(by rw [marksP_length]; exact h) = ⟨m + 2 * k, m + 2 * k + 1⟩ := by simp [marksP]
theorem marksP_succ (m : Int) (k : Nat) : marksP m (k + 1) = marksP m k ++ [⟨m + 2 * k, m + 2 * k + 1⟩] := by simp [marksP, List.range_succ]

theorem markPointS_eq (xs : List SPoint) (m : Int) (h0 : 0 ≤ m) (h1 : m ≤ 1099511627776) (h : xs.length ≤ 1099511627776) : sh18 xs m = some (m + 2 * xs.length, marksP m xs.length) := by
  unfold sh18
  have hi := iter_steps (sb := sh18_1 xs) (fun k => (m + 2 * (k : Int), (k : Int), marksP m k ++ xs.drop k)) xs.length (x := (m + 2 * xs.length, marksP m xs.length)) (by omega) (fun k hk => ?_) ?_
  · simp only [List.drop_zero] at hi
    rw [show marksP m 0 ++ xs = xs from rfl] at hi
    simp only [Int.natCast_zero, Int.mul_zero, Int.add_zero] at hi
    rw [hi, bindS]
  · have h2 : (k : Int) < xs.length := by omega
    have hl : k < (marksP m k ++ xs.drop k).length := by rw [List.length_append, marksP_length, List.length_drop]; omega
    have hl2 : ∀ y, k < ((marksP m k ++ xs.drop k).set k y).length := fun y => by rw [List.length_set]; exact hl
    simp only [sh18_1, h2, decide_true, cond_true, getI_lt hl, getI_lt (hl2 _), bindS, Int.toNat_natCast, List.getElem_set_self, List.set_set]
    rw [w64_id (x := m + 2 * (k : Int) + 1) (by omega) (by omega), w64_id (x := m + 2 * (k : Int) + 1 + 1) (by omega) (by omega), w64_id (x := (k : Int) + 1) (by omega) (by omega), List.set_append, if_neg (by rw [marksP_length]; omega), marksP_length, Nat.sub_self, List.drop_eq_getElem_cons hk, List.set_cons_zero, marksP_succ, List.append_assoc]
    simp only [Option.some.injEq, Sum.inl.injEq, Prod.mk.injEq]
    refine ⟨by omega, by omega, rfl⟩
  · have hd : decide ((xs.length : Int) < (xs.length : Int)) = false := by simp
    simp only [sh18_1, hd, cond_false, List.drop_length, List.append_nil]


/-! mark_pointss -/
theorem iter_done' {σ ρ : Type} {sb : σ → Option (σ ⊕ ρ)} {s : σ} {x : ρ} (h : sb s = some (.inr x)) : iter sb s = some x := iter_steps (fun _ => s) 0 (by omega) (fun k hk => by omega) h
def totP : List (List SPoint) → Nat
  | [] => 0
  | r :: rs => r.length + totP rs
theorem totP_snoc : ∀ (rs : List (List SPoint)) (r : List SPoint), totP (rs ++ [r]) = totP rs + r.length
  | [], r => by simp [totP]
  | x :: xs, r => by rw [List.cons_append, totP, totP, totP_snoc xs r]; omega
theorem totP_bound {B : Nat} : ∀ {rs : List (List SPoint)}, (∀ r ∈ rs, r.length ≤ B) → totP rs ≤ B * rs.length
  | [], _ => by simp [totP]
  | x :: xs, h => by
    have h1 := h x (List.mem_cons_self ..)
    have h2 := totP_bound (fun r hr => h r (List.mem_cons_of_mem _ hr))
    rw [totP, List.length_cons, Nat.mul_succ]; omega
theorem totP_take : ∀ (rs : List (List SPoint)) (k : Nat), totP (rs.take k) ≤ totP rs
  | [], k => by simp [totP]
  | x :: xs, 0 => by simp [totP]
  | x :: xs, k + 1 => by have := totP_take xs k; rw [List.take_succ_cons, totP, totP]; omega
def markSSP : Int → List (List SPoint) → List (List SPoint)
  | _, [] => []
  | m, r :: rs => marksP m r.length :: markSSP (m + 2 * r.length) rs
theorem markSSP_snoc : ∀ (m : Int) (rs : List (List SPoint)) (r : List SPoint), markSSP m (rs ++ [r]) = markSSP m rs ++ [marksP (m + 2 * totP rs) r.length]
  | m, [], r => by simp [markSSP, totP]
  | m, x :: xs, r => by
    rw [List.cons_append, markSSP, markSSP, markSSP_snoc _ xs r, List.cons_append, totP, show m + 2 * (x.length : Int) + 2 * (totP xs : Int) = m + 2 * ((x.length + totP xs : Nat) : Int) by omega]
theorem markSSP_length : ∀ (m : Int) (rs : List (List SPoint)), (markSSP m rs).length = rs.length
  | m, [] => rfl
  | m, x :: xs => by rw [markSSP, List.length_cons, List.length_cons, markSSP_length]
theorem markSSP_get : ∀ (m : Int) (rs : List (List SPoint)) (k : Nat) (h : k < rs.length), (markSSP m rs)[k]'(by rw [markSSP_length]; exact h) = marksP (m + 2 * totP (rs.take k)) rs[k].length
  | m, x :: xs, 0, h => by simp [markSSP, totP]
  | m, x :: xs, k + 1, h => by
    simp only [markSSP, List.getElem_cons_succ]
    rw [markSSP_get _ xs k (by simpa using h), List.take_succ_cons, totP]
    congr 1
    omega
theorem markPointSS_eq (xs : List (List SPoint)) (m : Int) (h0 : 0 ≤ m) (h1 : m ≤ 549755813888) (hl : xs.length ≤ 1048576) (ht : totP xs ≤ 1048576) : sh49 xs m = some (m + 2 * totP xs, markSSP m xs) := by
  unfold sh49
  have hi := iter_steps (sb := sh49_1 xs) (fun k => (m + 2 * (totP (xs.take k) : Int), (k : Int), markSSP m (xs.take k) ++ xs.drop k)) xs.length (x := (m + 2 * totP xs, markSSP m xs)) (by omega) (fun k hk => ?_) ?_
  · simp only [List.take_zero, List.drop_zero] at hi
    rw [show markSSP m [] ++ xs = xs from rfl, show (totP [] : Nat) = 0 from rfl] at hi
    simp only [Int.natCast_zero, Int.mul_zero, Int.add_zero] at hi
    rw [hi, bindS]
  · have h2 : (k : Int) < xs.length := by omega
    have hml : (markSSP m (xs.take k)).length = k := by rw [markSSP_length, List.length_take]; omega
    have hlk : k < (markSSP m (xs.take k) ++ xs.drop k).length := by rw [List.length_append, hml, List.length_drop]; omega
    have hg : (markSSP m (xs.take k) ++ xs.drop k)[k] = xs[k] := by
      rw [List.getElem_append_right (by omega)]
      simp [hml]
    have htk := totP_take xs k
    have htk2 : totP (xs.take (k + 1)) = totP (xs.take k) + xs[k].length := by rw [List.take_succ_eq_append_getElem hk, totP_snoc]
    have htk3 := totP_take xs (k + 1)
    simp only [sh49_1, h2, decide_true, cond_true, getI_lt hlk, hg, bindS, markPointS_eq xs[k] (m + 2 * (totP (xs.take k) : Int)) (by omega) (by omega) (by omega), Int.toNat_natCast]
    rw [w64_id (by omega) (by omega), List.set_append, if_neg (by omega), hml, Nat.sub_self, List.drop_eq_getElem_cons hk, List.set_cons_zero, htk2]
    rw [List.take_succ_eq_append_getElem hk, markSSP_snoc, List.append_assoc]
    simp only [Option.some.injEq, Sum.inl.injEq, Prod.mk.injEq]
    refine ⟨by omega, by omega, rfl⟩
  · have hd : decide ((xs.length : Int) < (xs.length : Int)) = false := by simp
    simp only [sh49_1, hd, cond_false, List.drop_length, List.append_nil, List.take_length]
theorem eqPointSS_refl (xs : List (List SPoint)) (hl : xs.length ≤ 1048576) (hx : ∀ r ∈ xs, r.length ≤ 1048576) : sh48 xs xs = some true := by
  unfold sh48
  rw [bne_self_eq_false, cond_false, iter_all (xs := xs) (p := fun _ => true) (r := false) (by omega) (fun k hk => ?_) (by simp [sh48_1]), bindS]
  · simp [elimS]
  · have h2 : (k : Int) < xs.length := by omega
    simp only [sh48_1, h2, decide_true, cond_true, getI_lt hk, bindS, eqPointS_eq xs[k] xs[k] (hx _ (List.getElem_mem hk)), decide_true, Bool.not_true, cond_false, if_true]
    rw [w64_id (by omega) (by omega)]

/-! applystrokes -/
theorem bind_bind {α β γ : Type} (x : Option α) (f : α → Option β) (g : β → Option γ) : (Option.bind x fun y => Option.bind (f y) g) = Option.bind (Option.bind x f) g := by cases x <;> rfl
theorem szPoint_run (xs : List SPoint) (m : Int) (h : xs.length ≤ 9223372036854775807) (h0 : 0 ≤ m) (h1 : m ≤ 1048576) : sh51 xs m = some (if (xs.length : Int) ≤ m then m - xs.length else -1) := by
  unfold sh51
  rw [w64_id (by omega) (by omega)]
  by_cases hl : m - (xs.length : Int) < 0
  · rw [decide_eq_true hl, if_neg (by omega)]; rfl
  · rw [decide_eq_false hl, if_pos (by omega)]; rfl
theorem szPointSS_gen (q : List (List SPoint)) (m : Int) (hq : q.length ≤ 9223372036854775807) (hr : ∀ r ∈ q, r.length ≤ 9223372036854775807) (h0 : 0 ≤ m) (h1 : m ≤ 1048576) :
    ∃ z, sh58 q m = some z ∧ (z < 0 ∨ (q.length : Int) + totP q ≤ m) := by
  unfold sh58
  rw [w64_id (by omega) (by omega)]
  by_cases hl : m - (q.length : Int) < 0
  · rw [decide_eq_true hl]; exact ⟨_, rfl, .inl (by omega)⟩
  · rw [decide_eq_false hl, cond_false]
    obtain ⟨x, hx, hx2⟩ := iter_inv (sb := sh58_1 q) (s0 := (m - (q.length : Int), 0)) (fun s => ∃ k : Nat, s.2 = k ∧ k ≤ q.length ∧ s.1 = m - q.length - totP (q.take k) ∧ 0 ≤ s.1) (fun s => q.length - s.2.toNat)
      (fun x => x = .inr (-1) ∨ ∃ z, x = .inl z ∧ (q.length : Int) + totP q ≤ m) ⟨0, rfl, by omega, by simp [totP], by omega⟩ (by simp only; omega) (fun s ⟨k, h2, h3, h4, h5⟩ => by
      obtain ⟨a, b⟩ := s
      simp only at h2 h4 h5
      subst h2
      by_cases hk : k < q.length
      · have hkd : (k : Int) < q.length := by omega
        have htk : totP (q.take (k + 1)) = totP (q.take k) + q[k].length := by rw [List.take_succ_eq_append_getElem hk, totP_snoc]
        have hrk := hr _ (List.getElem_mem hk)
        simp only [sh58_1, hkd, decide_true, cond_true, getI_lt hk, bindS, szPoint_run q[k] a hrk h5 (by omega)]
        by_cases hc : (q[k].length : Int) ≤ a
        · left
          rw [if_pos hc, decide_eq_false (by omega), cond_false, w64_id (by omega) (by omega)]
          exact ⟨_, rfl, ⟨k + 1, by simp only; omega, by omega, by simp only; omega, by simp only; omega⟩, by simp only; omega⟩
        · right
          rw [if_neg hc]
          exact ⟨_, rfl, .inl rfl⟩
      · right
        have hke : k = q.length := by omega
        subst hke
        have hd : decide ((q.length : Int) < (q.length : Int)) = false := by simp
        simp only [sh58_1, hd, cond_false]
        rw [List.take_length] at h4
        exact ⟨_, rfl, .inr ⟨_, rfl, by omega⟩⟩)
    rw [hx, bindS]
    rcases hx2 with rfl | ⟨z, rfl, hz⟩
    · exact ⟨_, rfl, .inl (by omega)⟩
    · exact ⟨_, rfl, .inr hz⟩
theorem toPointSS_eq (q : List (List SPoint)) (h : q.length ≤ 1048576) (hr : ∀ r ∈ q, r.length ≤ 1048576) : sh60 q = some q := by
  unfold sh60
  rw [mkL_ok (by omega), bindS]
  have hi := iter_steps (sb := sh60_1 q) (fun k => ((k : Int), q.take k ++ List.replicate (q.length - k) [])) q.length (x := q) (by omega) (fun k hk => ?_) ?_
  · simp only [List.take_zero, List.nil_append, Nat.sub_zero] at hi
    rw [show ((0 : Nat) : Int) = 0 from rfl] at hi
    rw [hi, bindS]
  · have h2 : (k : Int) < q.length := by omega
    have hlk : k < (q.take k ++ List.replicate (q.length - k) ([] : List SPoint)).length := by simp; omega
    have htl : (q.take k).length = k := by rw [List.length_take]; omega
    simp only [sh60_1, h2, decide_true, cond_true, getI_lt hk, toPointS_eq _ (hr _ (List.getElem_mem hk)), bindS, getI_lt hlk, Int.toNat_natCast]
    rw [w64_id (by omega) (by omega), List.set_append, if_neg (by omega), htl, Nat.sub_self, show q.length - k = (q.length - (k + 1)) + 1 by omega, List.replicate_succ, List.set_cons_zero, List.take_succ_eq_append_getElem hk, List.append_assoc]
    rfl
  · have hd : decide ((q.length : Int) < (q.length : Int)) = false := by simp
    simp only [sh60_1, hd, cond_false, List.take_length, Nat.sub_self, List.replicate_zero, List.append_nil]
theorem panelB_set {w h : Int} {b b' : List Int} (hp : panelB ⟨w, h, b⟩ = true) (hl : b'.length = b.length) (hx : ∀ x ∈ b', x ∈ b ∨ 0 ≤ x ∧ x ≤ 2) : panelB ⟨w, h, b'⟩ = true := by
  have hf := (panelB_facts hp).2.2.2.1
  unfold panelB at hp ⊢
  simp only [Bool.and_eq_true, List.all_eq_true, hl] at hp ⊢
  refine ⟨hp.1, hp.2.1, fun x hm => ?_⟩
  rcases hx x hm with h | h
  · exact hp.2.2 x h
  · unfold brkB; simp [h.1, h.2]
/-- One stroke at breaks: the breaks after it, where it can be made. -/
def strokeG (w h s : Int) (b : List Int) (q : List SPoint) : Option (List Int) := if strokeB q = true then (match sh119 ⟨w, h, b⟩ q s with | some (c, b') => if c = 0 then some b' else none | none => none) else none
theorem strokeG_spec (w h s : Int) (b : List Int) (q : List SPoint) (hp : panelB ⟨w, h, b⟩ = true) (hq : q.length ≤ 1048576) (hs : 2 ≤ s ∧ s ≤ 100) :
    (strokeG w h s b q = none ∧ (Option.bind (sh79 q) fun x => bif !x then some (true, b) else Option.bind (sh119 ⟨w, h, b⟩ q s) fun x => some (x.1 != 0, x.2)) = some (true, b) ∧ ∃ r, sh54 ⟨w, h, b⟩ q s = some r ∧ r.2 ≠ 0) ∨
    ∃ b', strokeG w h s b q = some b' ∧ (Option.bind (sh79 q) fun x => bif !x then some (true, b) else Option.bind (sh119 ⟨w, h, b⟩ q s) fun x => some (x.1 != 0, x.2)) = some (false, b') ∧ sh54 ⟨w, h, b⟩ q s = some (⟨w, h, b'⟩, 0) ∧ panelB ⟨w, h, b'⟩ = true ∧ b'.length = b.length := by
  have hb : b.length ≤ 112 := (panelB_facts hp).2.2.2.2
  have e1 : sh121 s = some true := by
    show some (scaleB s) = _
    unfold scaleB; simp [hs.1, hs.2]
  rw [l19Ok_eq q (by omega)]
  unfold sh54 strokeG
  rw [validPanel_eq _ (by show b.length ≤ _; omega), validStroke_eq q (by omega), hp, e1]
  cases hst : strokeB q
  · left
    exact ⟨rfl, rfl, _, rfl, by decide⟩
  · simp only [bindS, Bool.not_true, cond_false, if_true]
    rcases stroke_once ⟨w, h, b⟩ q s hp (by show b.length ≤ _; omega) hst hs with ⟨c, hc, h1, h2⟩ | ⟨b', hl, hx, h1, h2⟩
    · left
      have hc' : (c != 0) = true := by simpa using hc
      rw [h1, h2]
      simp only [bindS, if_neg hc, hc']
      exact ⟨trivial, trivial, _, rfl, hc⟩
    · right
      rw [h1, h2]
      exact ⟨b', rfl, rfl, rfl, panelB_set hp hl hx, hl⟩
def strokesG (w h s : Int) (z : Int × List Int × List Int) (q : List SPoint) : Int × List Int × List Int := match strokeG w h s z.2.1 q with
  | some b' => (z.1 + 1, b', z.2.2)
  | none => (z.1 + 1, z.2.1, z.2.2 ++ [z.1])
theorem strokes_step (p : SPanel) (q : List (List SPoint)) (s : Int) (hq : q.length ≤ 1048576) (hr : ∀ r ∈ q, r.length ≤ 1048576) (hs : 2 ≤ s ∧ s ≤ 100) : ∀ (k : Nat) (hk : k < q.length) (z : Int × List Int × List Int), (z.1 = k ∧ panelB ⟨p.W, p.H, z.2.1⟩ = true ∧ z.2.2.length ≤ k) →
          sh59_1 q s p ((k : Int), z.2.1, z.2.2) = some (.inl (((k + 1 : Nat) : Int), (strokesG p.W p.H s z q[k]).2.1, (strokesG p.W p.H s z q[k]).2.2)) ∧
          sh61_1 q s ((k : Int), (p.W, p.H), z.2.1, z.2.2) = some (.inl (((k + 1 : Nat) : Int), (p.W, p.H), (strokesG p.W p.H s z q[k]).2.1, (strokesG p.W p.H s z q[k]).2.2)) ∧
          ((strokesG p.W p.H s z q[k]).1 = ((k + 1 : Nat) : Int) ∧ panelB ⟨p.W, p.H, (strokesG p.W p.H s z q[k]).2.1⟩ = true ∧ (strokesG p.W p.H s z q[k]).2.2.length ≤ k + 1) := by
  intro k hk ⟨z1, zb, zl⟩ ⟨h1, h2, h3⟩
  simp only at h1 h2 h3
  subst h1
  have hkd : (k : Int) < q.length := by omega
  have happ2 : appL zl [(k : Int)] = some (zl ++ [(k : Int)]) := appL_ok (by simp; omega)
  simp only [sh59_1, sh61_1, hkd, decide_true, cond_true, getI_lt hk, bindS]
  have hw : w64 ((k : Int) + 1) = ((k + 1 : Nat) : Int) := w64_id (by omega) (by omega)
  unfold strokesG
  rcases strokeG_spec p.W p.H s zb q[k] h2 (hr _ (List.getElem_mem hk)) hs with ⟨g1, g2, r, g3, g4⟩ | ⟨b', g1, g2, g3, g4, g5⟩
  · have hc' : (r.2 != 0) = true := by simpa using g4
    simp only [g1]
    refine ⟨?_, ?_, ⟨by omega, h2, by simp; omega⟩⟩
    · rw [bind_bind, g2, bindS]
      simp only [happ2, cond_true, bindS, hw]
    · rw [g3, bindS, hc', cond_true, happ2, bindS, hw]
  · simp only [g1]
    refine ⟨?_, ?_, ⟨by omega, g4, by omega⟩⟩
    · rw [bind_bind, g2, bindS]
      simp only [cond_false, bindS, hw]
    · rw [g3, bindS, bne_self_eq_false, cond_false, hw]
set_option maxHeartbeats 1000000 in
theorem strokes_loops (p : SPanel) (q : List (List SPoint)) (s : Int) (hp : panelB p = true) (hq : q.length ≤ 1048576) (hr : ∀ r ∈ q, r.length ≤ 1048576) (hs : 2 ≤ s ∧ s ≤ 100) : ∃ b l, iter (sh59_1 q s p) (0, p.Breaks, []) = some (b, l) ∧ iter (sh61_1 q s) (0, (p.W, p.H), p.Breaks, []) = some ((p.W, p.H), b, l) ∧ b.length ≤ 112 ∧ l.length ≤ q.length := by
  have hI0 : ((0 : Int) = ((0 : Nat) : Int) ∧ panelB ⟨p.W, p.H, p.Breaks⟩ = true ∧ ([] : List Int).length ≤ 0) := ⟨rfl, hp, by simp⟩
  have hstep := strokes_step p q s hq hr hs
  have i1 := iter_fold (sb := sh59_1 q s p) q (fun k (z : Int × List Int × List Int) => ((k : Int), z.2.1, z.2.2)) (strokesG p.W p.H s) (fun z => (z.2.1, z.2.2)) (fun k z => z.1 = k ∧ panelB ⟨p.W, p.H, z.2.1⟩ = true ∧ z.2.2.length ≤ k) (0, p.Breaks, []) hI0 (by omega)
    (fun k hk z hz => ⟨(hstep k hk z hz).1, (hstep k hk z hz).2.2⟩) (fun z hz => by
      have hd : decide ((q.length : Int) < (q.length : Int)) = false := by simp
      simp only [sh59_1, hd, cond_false])
  have i2 := iter_fold (sb := sh61_1 q s) q (fun k (z : Int × List Int × List Int) => ((k : Int), (p.W, p.H), z.2.1, z.2.2)) (strokesG p.W p.H s) (fun z => ((p.W, p.H), z.2.1, z.2.2)) (fun k z => z.1 = k ∧ panelB ⟨p.W, p.H, z.2.1⟩ = true ∧ z.2.2.length ≤ k) (0, p.Breaks, []) hI0 (by omega)
    (fun k hk z hz => ⟨(hstep k hk z hz).2.1, (hstep k hk z hz).2.2⟩) (fun z hz => by
      have hd : decide ((q.length : Int) < (q.length : Int)) = false := by simp
      simp only [sh61_1, hd, cond_false])
  have hbl : (q.foldl (strokesG p.W p.H s) (0, p.Breaks, [])).2.1.length ≤ 112 := (panelB_facts i1.2.2.1).2.2.2.2
  have e1 := i1.1
  have e2 := i2.1
  have e3 := i1.2.2.2
  clear i1 i2 hstep
  generalize q.foldl (strokesG p.W p.H s) (0, p.Breaks, []) = z at e1 e2 e3 hbl
  exact ⟨_, _, e1, e2, hbl, e3⟩
theorem applyStrokes_total (p : SPanel) (q : List (List SPoint)) (s : Int) (hb : p.Breaks.length ≤ 1048576) (hq : q.length ≤ 1048576) (hr : ∀ r ∈ q, r.length ≤ 1048576) :
    ∃ r, sh59 p q s = some r ∧ sh61 p q s = some r ∧ r.1.Breaks.length ≤ 1048576 ∧ r.2.1.length ≤ 1048576 := by
  unfold sh59 sh61 sh117
  rw [validPanel_eq p hb, l02Ok_eq p hb]
  have e1 : sh162 s = some (scaleB s) := rfl
  have e2 : sh121 s = some (scaleB s) := rfl
  rw [e1, e2]
  have happ : appL ([] : List Int) p.Breaks = some p.Breaks := by rw [appL_ok (by simp only [List.length_nil]; omega)]; rfl
  have how : sh118 p = some p := by unfold sh118 sh163; rw [happ]; rfl
  have hcl : sh123 p = some p := by unfold sh123 sh175; rw [happ]; rfl
  rw [how, hcl]
  cases hp : panelB p
  · exact ⟨_, rfl, rfl, by simp, by simp⟩
  · cases hsc : scaleB s
    · exact ⟨_, rfl, rfl, by simp, by simp⟩
    · have hs : 2 ≤ s ∧ s ≤ 100 := by unfold scaleB at hsc; simpa using hsc
      simp only [bindS, Bool.not_true, cond_false, bne_self_eq_false]
      obtain ⟨b, l, e3, e4, h5, h6⟩ := strokes_loops p q s hp hq hr hs
      rw [e3, e4]
      exact ⟨_, rfl, rfl, by simp only; omega, by simp only; omega⟩

/-! panel_at -/
theorem markPanel_at (p : SPanel) (h : p.Breaks.length ≤ 1048576) : sh33 p 1 = some ((1 : Int) + p.Breaks.length, marksFrom 1 p.Breaks.length) := by
  unfold sh33
  rw [markI64_eq _ _ (by omega) (by omega) (by omega), bindS]
theorem heldPanel_at (w h' : Int) (n : Nat) (h : n ≤ 1048576) : sh55 ⟨w, h', marksFrom 1 n⟩ 1 = some ((1 : Int) + n) := by
  unfold sh55
  rw [heldI64_eq _ _ (by omega) (by omega) (by omega), bindS, decide_eq_false (by omega)]
  rfl

/-! FnExactApplyStrokes -/
theorem law13 (p : SPanel) (q : List (List SPoint)) (s : Int) (hk0 : okSPanel p) (hl1 : q.length ≤ maxLen) (hk1 : ∀ y ∈ q, y.length ≤ maxLen ∧ ∀ x ∈ y, okSPoint x) : sh13 p q s = some true := by
  unfold sh13
  have hm : maxLen = 9223372036854775807 := rfl
  have hb := hk0.2.2.1
  rw [szPanel_eq p (by omega), bindS]
  by_cases h : p.Breaks.length ≤ 1048576
  · have hd : decide ((1048576 : Int) - (p.Breaks.length : Int) < 0) = false := decide_eq_false (by omega)
    rw [if_pos h, hd, cond_false]
    obtain ⟨z, hz, hz2⟩ := szPointSS_gen q (1048576 - (p.Breaks.length : Int)) (by omega) (fun r hr => by have := (hk1 r hr).1; omega) (by omega) (by omega)
    rw [hz, bindS]
    by_cases hz0 : z < 0
    · rw [decide_eq_true hz0]; rfl
    · have hl : (q.length : Int) + totP q ≤ 1048576 - (p.Breaks.length : Int) := hz2.elim (fun h => absurd h hz0) id
      have hrl : ∀ r ∈ q, r.length ≤ 1048576 := fun r hr => by
        have : r.length ≤ totP q := by
          clear hz hz2 hl hl1 hk1
          induction q with
          | nil => cases hr
          | cons a t ih =>
            rw [totP]
            rcases List.mem_cons.1 hr with h | h
            · subst h; omega
            · have := ih h; omega
        omega
      obtain ⟨r, h1, h2, h3, h4⟩ := applyStrokes_total p q s h (by omega) hrl
      have m1 := markPointSS_eq q (1 + (p.Breaks.length : Int)) (by omega) (by omega) (by omega) (by omega)
      have m2 := markI64_eq r.2.1 (1 + (r.1.Breaks.length : Int)) (by omega) (by omega) (by omega)
      have m3 := heldI64_eq (1 + (r.1.Breaks.length : Int)) r.2.1.length (by omega) (by omega) (by omega)
      have n1 : decide ((1 : Int) + (p.Breaks.length : Int) + 2 * (totP q : Int) < 0) = false := decide_eq_false (by omega)
      have n2 : decide ((1 : Int) + (r.1.Breaks.length : Int) < 0) = false := decide_eq_false (by omega)
      have n3 : decide ((1 : Int) + (r.1.Breaks.length : Int) + (r.2.1.length : Int) < 0) = false := decide_eq_false (by omega)
      rw [decide_eq_false hz0, cond_false]
      simp only [toPanel_eq p h, toPointSS_eq q (by omega) hrl, bindS, h1, h2, bne_self_eq_false, Bool.or_self, cond_false, eqPanel_refl p h, eqPanel_refl r.1 h3, eqPointSS_refl q (by omega) hrl, eqI64_eq _ _ h4, decide_true, Bool.not_true, markPanel_at p h, markPanel_at r.1 h3, m1, m2, m3, heldPanel_at _ _ _ h3, n1, n2, n3]
  · rw [if_neg h]; rfl
end Go.Sh
