/- Plain laws: what the shallow functions come to. -/
import Derived.Test.YtnifcedmpilldaaF5W3
set_option linter.unusedVariables false
set_option linter.unusedSimpArgs false
namespace Go.Sh
open Go Go.RowKit

/-! iters -/
theorem w64_lo (x : Int) : -9223372036854775808 ≤ w64 x := by
  have := IntKind.wrap_i64 x
  show _ ≤ IntKind.i64.wrap x
  omega
theorem w64_hi (x : Int) : w64 x ≤ 9223372036854775807 := by
  have := IntKind.wrap_i64 x
  show IntKind.i64.wrap x ≤ _
  omega
theorem getI_toNat {T : Type} {xs : List T} {i : Int} (h0 : 0 ≤ i) (h : i.toNat < xs.length) : getI xs i = some xs[i.toNat] := by
  unfold getI; rw [if_pos h0]; exact List.getElem?_eq_getElem h
theorem nzI_ok {a : Int} (h : a ≠ 0) : nzI a = some a := by simp [nzI, h]

/-- The loop that looks for the first element that passes. -/
theorem iter_find {T : Type} {sb : Int → Option (Int ⊕ (Unit ⊕ Int))} {xs : List T} {p : T → Bool} (hl : xs.length < 1099511627776)
    (hsb : ∀ (k : Nat) (h : k < xs.length), sb (k : Int) = if p xs[k] = true then some (.inr (.inr (k : Int))) else some (.inl ((k : Int) + 1))) (he : sb (xs.length : Int) = some (.inr (.inl ()))) :
    iter sb 0 = some (if xs.any p = true then .inr (xs.findIdx p : Int) else .inl ()) := by
  have h := iter_res (sb := sb) (fun k => (k : Int)) (fun k => if (xs.drop k).any p = true then (.inr (k + (xs.drop k).findIdx p : Nat) : Unit ⊕ Int) else .inl ()) xs.length (by omega) (fun k hk => ?_) (by
    rw [he, List.drop_of_length_le (Nat.le_refl _)]; simp)
  · simpa using h
  · rw [hsb k hk, List.drop_eq_getElem_cons hk]
    by_cases hx : p xs[k] = true
    · right
      rw [if_pos hx]
      simp only [List.any_cons, hx, Bool.true_or, if_true, List.findIdx_cons, cond_true, Nat.add_zero]
    · left
      rw [if_neg hx]
      refine ⟨by simp, ?_⟩
      have hx' : p xs[k] = false := by simpa using hx
      simp only [List.any_cons, hx', Bool.false_or, List.findIdx_cons, cond_false]
      split <;> simp
      omega

theorem iterN_congr {σ ρ : Type} {sb1 sb2 : σ → Option (σ ⊕ ρ)} (I : σ → Prop) (hs : ∀ s, I s → sb1 s = sb2 s ∧ ∀ s', sb2 s = some (.inl s') → I s') : ∀ (n : Nat) (s : σ), I s → iterN sb1 n s = iterN sb2 n s
  | 0, _, _ => rfl
  | n + 1, s, h => by
    obtain ⟨h1, h2⟩ := hs s h
    simp only [iterN, h1]
    cases hb : sb2 s with
    | none => rfl
    | some o =>
      cases o with
      | inl s' => exact iterN_congr I hs n s' (h2 s' hb)
      | inr x => rfl
/-- Two loops whose bodies agree where the invariant holds. -/
theorem iter_congr {σ ρ : Type} {sb1 sb2 : σ → Option (σ ⊕ ρ)} (I : σ → Prop) {s0 : σ} (h0 : I s0) (hs : ∀ s, I s → sb1 s = sb2 s ∧ ∀ s', sb2 s = some (.inl s') → I s') : iter sb1 s0 = iter sb2 s0 :=
  iterN_congr I hs FUEL s0 h0

/-- A loop over a list, as a fold. -/
theorem iter_fold {T σ S ρ : Type} {sb : S → Option (S ⊕ ρ)} (xs : List T) (st : Nat → σ → S) (g : σ → T → σ) (h : σ → ρ) (I : Nat → σ → Prop) (s0 : σ) (h0 : I 0 s0) (hl : xs.length < 1099511627776)
    (hsb : ∀ (k : Nat) (hk : k < xs.length) s, I k s → sb (st k s) = some (.inl (st (k + 1) (g s xs[k]))) ∧ I (k + 1) (g s xs[k])) (he : ∀ s, I xs.length s → sb (st xs.length s) = some (.inr (h s))) :
    iter sb (st 0 s0) = some (h (xs.foldl g s0)) ∧ I xs.length (xs.foldl g s0) := by
  have hI : ∀ k, k ≤ xs.length → I k ((xs.take k).foldl g s0) := by
    intro k
    induction k with
    | zero => intro _; simpa using h0
    | succ k ih =>
      intro hk
      rw [List.take_succ_eq_append_getElem (by omega), List.foldl_append]
      exact (hsb k (by omega) _ (ih (by omega))).2
  have hlast := hI xs.length (Nat.le_refl _)
  rw [List.take_length] at hlast
  refine ⟨?_, hlast⟩
  refine iter_steps (fun k => st k ((xs.take k).foldl g s0)) xs.length (by omega) (fun k hk => ?_) (by rw [List.take_length]; exact he _ hlast)
  rw [(hsb k hk _ (hI k (by omega))).1, List.take_succ_eq_append_getElem hk, List.foldl_append]
  rfl

/-- The greater one. -/
def mx (a b : Int) : Int := if a < b then b else a
def mn (a b : Int) : Int := if b < a then b else a
theorem mx_comm' (a b : Int) : (if b < a then a else b) = mx a b := by unfold mx; split <;> split <;> omega
theorem foldl_snoc {α β : Type} (f : α → β) : ∀ (xs : List α) (a : List β), xs.foldl (fun acc m => acc ++ [f m]) a = a ++ xs.map f
  | [], a => by simp
  | x :: xs, a => by rw [List.foldl_cons, foldl_snoc f xs]; simp

/-! f6ints -/
theorem f6ints_eq (xs ys : List Int) (h : xs.length ≤ 1048576) : sh46 xs ys = some (decide (xs = ys)) := by
  unfold sh46
  by_cases hl : xs.length = ys.length
  · have h1 : ((xs.length : Int) != (ys.length : Int)) = false := by simp; omega
    rw [h1, cond_false, iter_eq (xs := xs) (ys := ys) (by omega) hl (fun k hk => ?_) (by simp [sh46_1]), bindS]
    · by_cases he : xs = ys <;> simp [he, elimS]
    · have h2 : (k : Int) < xs.length := by omega
      have h3 : k < ys.length := by omega
      simp only [sh46_1, h2, decide_true, cond_true, getI_lt hk, getI_lt h3, bindS]
      rw [w64_id (by omega) (by omega)]
      by_cases he : xs[k] = ys[k]
      · simp [he]
      · rw [if_neg he, bne_iff_ne.2 he]
        rfl
  · have h1 : ((xs.length : Int) != (ys.length : Int)) = true := by simp; omega
    rw [h1, cond_true]
    have : xs ≠ ys := fun h => hl (by rw [h])
    simp [this]

/-! stroketexts_f6 -/
theorem eqPt (p q : SPoint) : ((p.X == q.X) && ((p.Y == q.Y) && true)) = decide (p = q) := by
  cases p with
  | mk a b =>
    cases q with
    | mk c d =>
      by_cases h1 : a = c
      · by_cases h2 : b = d
        · subst h1 h2; simp
        · have : ¬ ((SPoint.mk a b) = (SPoint.mk c d)) := fun h => h2 (congrArg SPoint.Y h)
          rw [decide_eq_false this]; simp [h2]
      · have : ¬ ((SPoint.mk a b) = (SPoint.mk c d)) := fun h => h1 (congrArg SPoint.X h)
        rw [decide_eq_false this]; simp [h1]
theorem f6points_eq (xs ys : List SPoint) (h : xs.length ≤ 1048576) : sh17 xs ys = some (decide (xs = ys)) := by
  unfold sh17
  by_cases hl : xs.length = ys.length
  · have h1 : ((xs.length : Int) != (ys.length : Int)) = false := by simp; omega
    rw [h1, cond_false, iter_eq (xs := xs) (ys := ys) (by omega) hl (fun k hk => ?_) (by simp [sh17_1]), bindS]
    · by_cases he : xs = ys <;> simp [he, elimS]
    · have h2 : (k : Int) < xs.length := by omega
      have h3 : k < ys.length := by omega
      simp only [sh17_1, h2, decide_true, cond_true, getI_lt hk, getI_lt h3, bindS, eqPt]
      rw [w64_id (by omega) (by omega)]
      by_cases he : xs[k] = ys[k]
      · simp [he]
      · rw [if_neg he, decide_eq_false he]
        rfl
  · have h1 : ((xs.length : Int) != (ys.length : Int)) = true := by simp; omega
    rw [h1, cond_true]
    have : xs ≠ ys := fun h => hl (by rw [h])
    simp [this]

/-! to_i64s -/

/-! eq_i64s -/

/-! mark_i64s -/
/-- The numbers that are laid into a result to see whether it is of one's own. -/
def marksFrom (m : Int) (n : Nat) : List Int := (List.range n).map fun (i : Nat) => m + (i : Int)
theorem marksFrom_length (m : Int) (n : Nat) : (marksFrom m n).length = n := by simp [marksFrom]
theorem marksFrom_get (m : Int) (n k : Nat) (h : k < n) : (marksFrom m n)[k]'(by rw [marksFrom_length]; exact h) = m + k := by simp [marksFrom]
theorem marksFrom_succ (m : Int) (k : Nat) : marksFrom m (k + 1) = marksFrom m k ++ [m + k] := by simp [marksFrom, List.range_succ]


/-! panel -/
def brkB (k : Int) : Bool := decide (0 ≤ k) && decide (k ≤ 2)
def sideB (n : Int) : Bool := decide (1 ≤ n) && decide (n ≤ 8)
def innerN (w h : Int) : Int := w64 (w64 (w * w64 (h - 1)) + w64 (h * w64 (w - 1)))
def panelB (p : SPanel) : Bool := (sideB p.W && sideB p.H) && (((p.Breaks.length : Int) == innerN p.W p.H) && p.Breaks.all brkB)
theorem l02Ok_eq (p : SPanel) (h : p.Breaks.length ≤ 1048576) : sh139 p = some (panelB p) := by
  unfold sh139 panelB
  have hi : iter (sh139_1 p) 0 = some (if p.Breaks.all brkB = true then .inl () else .inr false) := iter_all (xs := p.Breaks) (by omega) (fun k hk => by
    have h2 : (k : Int) < p.Breaks.length := by omega
    simp only [sh139_1, sh100, h2, decide_true, cond_true, getI_lt hk, bindS]
    rw [w64_id (x := (k : Int) + 1) (by omega) (by omega)]
    unfold brkB
    cases decide (0 ≤ p.Breaks[k]) && decide (p.Breaks[k] ≤ 2) <;> rfl) (by simp [sh139_1])
  simp only [sh201, sh202, sh100, bindS, hi]
  show Option.bind (bif !(sideB p.W) then some true else some !(sideB p.H)) _ = _
  cases sideB p.W
  · rfl
  · cases sideB p.H
    · rfl
    · show (bif ((p.Breaks.length : Int) != innerN p.W p.H) then _ else _) = _
      simp only [bne]
      cases ((p.Breaks.length : Int) == innerN p.W p.H)
      · rfl
      · cases p.Breaks.all brkB <;> rfl
theorem validPanel_eq (p : SPanel) (h : p.Breaks.length ≤ 1048576) : sh128 p = some (panelB p) := by
  unfold sh128 panelB
  have hi : iter (sh128_1 p) 0 = some (if p.Breaks.all brkB = true then .inl () else .inr false) := iter_all (xs := p.Breaks) (by omega) (fun k hk => by
    have h2 : (k : Int) < p.Breaks.length := by omega
    simp only [sh128_1, sh122, sh107, h2, decide_true, cond_true, getI_lt hk, bindS]
    rw [w64_id (x := (k : Int) + 1) (by omega) (by omega)]
    unfold brkB
    cases decide (0 ≤ p.Breaks[k]) && decide (p.Breaks[k] ≤ 2) <;> rfl) (by simp [sh128_1])
  simp only [sh189, sh190, sh107, bindS, hi]
  show Option.bind (Option.bind (bif (sideB p.W) then some (sideB p.H) else some false) _) _ = _
  cases sideB p.W
  · rfl
  · cases sideB p.H
    · rfl
    · show (bif ((p.Breaks.length : Int) != innerN p.W p.H) then _ else _) = _
      simp only [bne]
      cases ((p.Breaks.length : Int) == innerN p.W p.H)
      · rfl
      · cases p.Breaks.all brkB <;> rfl
theorem panelB_facts {p : SPanel} (h : panelB p = true) : (1 ≤ p.W ∧ p.W ≤ 8) ∧ (1 ≤ p.H ∧ p.H ≤ 8) ∧ (p.Breaks.length : Int) = p.W * (p.H - 1) + p.H * (p.W - 1) ∧ (∀ k ∈ p.Breaks, 0 ≤ k ∧ k ≤ 2) ∧ p.Breaks.length ≤ 112 := by
  unfold panelB sideB brkB innerN at h
  simp only [Bool.and_eq_true, decide_eq_true_eq, List.all_eq_true, beq_iff_eq] at h
  obtain ⟨⟨⟨hw, hw2⟩, hh, hh2⟩, hl, ha⟩ := h
  have key : ∀ w : Int, 1 ≤ w → w ≤ 8 → ∀ k : Int, 1 ≤ k → k ≤ 8 → 0 ≤ w * (k - 1) ∧ w * (k - 1) ≤ 56 := by
    intro w h1 h2 k h3 h4
    have : 0 ≤ w * (k - 1) := Int.mul_nonneg (by omega) (by omega)
    have h5 : w * (k - 1) ≤ 8 * (k - 1) := Int.mul_le_mul_of_nonneg_right h2 (by omega)
    omega
  have k1 := key p.W hw hw2 p.H hh hh2
  have k2 := key p.H hh hh2 p.W hw hw2
  rw [w64_id (x := p.H - 1) (by omega) (by omega), w64_id (x := p.W - 1) (by omega) (by omega), w64_id (x := p.W * (p.H - 1)) (by omega) (by omega), w64_id (x := p.H * (p.W - 1)) (by omega) (by omega), w64_id (by omega) (by omega)] at hl
  exact ⟨⟨hw, hw2⟩, ⟨hh, hh2⟩, hl, ha, by omega⟩
def hasB (p : SPanel) (a : SPoint) : Bool := ((decide (0 ≤ a.X) && decide (a.X ≤ w64 (2 * p.W))) && (decide (0 ≤ a.Y) && decide (a.Y ≤ w64 (2 * p.H)))) && ((w64 (a.X + a.Y)).tmod 2 == 1)
def edgeB (p : SPanel) (a : SPoint) : Bool := (((a.X == 0) || (a.Y == 0)) || (a.X == w64 (2 * p.W))) || (a.Y == w64 (2 * p.H))
theorem l02Has_eq (p : SPanel) (a : SPoint) : sh140 p a = some (hasB p a) := by
  unfold sh140 sh100 hasB
  simp only [bindS]
  cases (decide (0 ≤ a.X) && decide (a.X ≤ w64 (2 * p.W))) <;> rfl
theorem isPoint_eq (p : SPanel) (a : SPoint) : sh186 p a = some (hasB p a) := by
  unfold sh186 sh107 hasB
  simp only [bindS]
  cases (decide (0 ≤ a.X) && decide (a.X ≤ w64 (2 * p.W))) <;> rfl
theorem l02Edge_eq (p : SPanel) (a : SPoint) : sh188 p a = some (edgeB p a) := rfl
theorem isBorder_eq (p : SPanel) (a : SPoint) : sh187 p a = some (edgeB p a) := by
  unfold sh187 edgeB
  cases (a.X == 0) <;> cases (a.Y == 0) <;> cases (a.X == w64 (2 * p.W)) <;> cases (a.Y == w64 (2 * p.H)) <;> rfl
def codeOf (p : SPanel) (a : SPoint) : Int := bif !panelB p then 1 else bif !hasB p a then 2 else bif edgeB p a then 6 else 0
theorem l02Code_eq (p : SPanel) (a : SPoint) (h : p.Breaks.length ≤ 1048576) : sh124 p a = some (codeOf p a) := by
  unfold sh124 codeOf
  rw [l02Ok_eq p h, l02Has_eq, l02Edge_eq]
  simp only [bindS]
  cases panelB p <;> cases hasB p a <;> cases edgeB p a <;> rfl
theorem innerCode_eq (p : SPanel) (a : SPoint) (h : p.Breaks.length ≤ 1048576) : sh121 p a = some (codeOf p a) := by
  unfold sh121 codeOf
  rw [validPanel_eq p h, isPoint_eq, isBorder_eq]
  simp only [bindS]
  cases panelB p <;> cases hasB p a <;> cases edgeB p a <;> rfl
theorem codeOf_cases (p : SPanel) (a : SPoint) : codeOf p a = 1 ∨ codeOf p a = 2 ∨ codeOf p a = 6 ∨ codeOf p a = 0 := by
  unfold codeOf
  cases panelB p <;> cases hasB p a <;> cases edgeB p a <;> simp

/-! walkers -/
structure Dim (p : SPanel) : Prop where
  w1 : 1 ≤ p.W
  w2 : p.W ≤ 8
  h1 : 1 ≤ p.H
  h2 : p.H ≤ 8
  bl : (p.Breaks.length : Int) = p.W * (p.H - 1) + p.H * (p.W - 1)
theorem dim_of {p : SPanel} (h : panelB p = true) : Dim p := let ⟨h1, h2, h3, _⟩ := panelB_facts h; ⟨h1.1, h1.2, h2.1, h2.2, h3⟩
theorem eight {n : Int} (h1 : 1 ≤ n) (h2 : n ≤ 8) : n = 1 ∨ n = 2 ∨ n = 3 ∨ n = 4 ∨ n = 5 ∨ n = 6 ∨ n = 7 ∨ n = 8 := by omega
def numF (p : SPanel) (x y : Int) : Int := (y - 1) * p.W - y / 2 + (x - 1) / 2
def brkF (p : SPanel) (x y : Int) : Int := if x = 0 ∨ x = 2 * p.W ∨ y = 0 ∨ y = 2 * p.H then 0 else p.Breaks.getD (numF p x y).toNat 0
theorem brk_edge {p : SPanel} {x y : Int} (h : x = 0 ∨ x = 2 * p.W ∨ y = 0 ∨ y = 2 * p.H) : brkF p x y = 0 := if_pos h

/-! steps -/
theorem mul_small {a H : Int} (h1 : 1 ≤ H) (h2 : H ≤ 8) (ha : 0 ≤ a) (ha2 : a ≤ 40) : 0 ≤ a * H ∧ a * H ≤ 320 := by
  rcases eight h1 h2 with e | e | e | e | e | e | e | e <;> subst e <;> omega
/-- An inner point. -/
def inr (p : SPanel) (x y : Int) : Prop := (1 ≤ x ∧ x ≤ 2 * p.W - 1) ∧ (1 ≤ y ∧ y ≤ 2 * p.H - 1) ∧ (x + y) % 2 = 1
theorem num_bd {p : SPanel} (hd : Dim p) {x y : Int} (h : inr p x y) : 0 ≤ numF p x y ∧ numF p x y < p.Breaks.length := by
  obtain ⟨w1, w2, h1, h2, bl⟩ := hd
  obtain ⟨⟨a1, a2⟩, ⟨a3, a4⟩, a5⟩ := h
  rw [bl]
  unfold numF
  clear bl
  generalize p.W = W at *
  generalize p.H = H at *
  rcases eight w1 w2 with e | e | e | e | e | e | e | e <;> subst e <;> constructor <;> omega
theorem number_impl {p : SPanel} (hd : Dim p) {x y : Int} (h : inr p x y) : sh194 p ⟨x, y⟩ = some (numF p x y) := by
  have hb := num_bd hd h
  obtain ⟨w1, w2, h1, h2, bl⟩ := hd
  obtain ⟨⟨a1, a2⟩, ⟨a3, a4⟩, a5⟩ := h
  clear bl hb
  unfold sh194 numF
  simp only
  generalize p.W = W at *
  generalize p.H = H at *
  have e1 : y.tdiv 2 = y / 2 := Int.tdiv_eq_ediv_of_nonneg (by omega)
  have e2 : w64 (y - 1) = y - 1 := w64_id (by omega) (by omega)
  have e3 : (y - 1).tdiv 2 = (y - 1) / 2 := Int.tdiv_eq_ediv_of_nonneg (by omega)
  have e4 : x.tdiv 2 = x / 2 := Int.tdiv_eq_ediv_of_nonneg (by omega)
  have e5 : w64 (W - 1) = W - 1 := w64_id (by omega) (by omega)
  have e6 : y.tmod 2 = y % 2 := Int.tmod_eq_emod_of_nonneg (by omega)
  have m1 : 0 ≤ y / 2 * (W - 1) ∧ y / 2 * (W - 1) ≤ 320 := by
    rcases eight w1 w2 with e | e | e | e | e | e | e | e <;> subst e <;> omega
  have m2 : 0 ≤ (y - 1) / 2 * W ∧ (y - 1) / 2 * W ≤ 320 := by
    rcases eight w1 w2 with e | e | e | e | e | e | e | e <;> subst e <;> omega
  rw [e1, e2, e3, e4, e5, e6, w64_id (x := y / 2) (by omega) (by omega), w64_id (x := (y - 1) / 2) (by omega) (by omega), w64_id (x := x / 2) (by omega) (by omega), w64_id (x := y / 2 * (W - 1)) (by omega) (by omega), w64_id (x := (y - 1) / 2 * W) (by omega) (by omega), w64_id (x := y / 2 * (W - 1) + (y - 1) / 2 * W) (by omega) (by omega), w64_id (x := y / 2 * (W - 1) + (y - 1) / 2 * W + x / 2) (by omega) (by omega), w64_id (x := y / 2 * (W - 1) + (y - 1) / 2 * W + x / 2 - 1) (by omega) (by omega)]
  by_cases hy : y % 2 = 1
  · rw [beq_iff_eq.2 hy, cond_true]
    congr 1
    rcases eight w1 w2 with e | e | e | e | e | e | e | e <;> subst e <;> omega
  · rw [beq_eq_false_iff_ne.2 hy, cond_false]
    congr 1
    rcases eight w1 w2 with e | e | e | e | e | e | e | e <;> subst e <;> omega
theorem row_spec {p : SPanel} (hd : Dim p) {y : Int} (h0 : 1 ≤ y) (h1 : y ≤ 16) : sh203 p y = some ((y - 1) * p.W - y / 2) := by
  obtain ⟨w1, w2, _, _, bl⟩ := hd
  clear bl
  unfold sh203
  obtain ⟨n, hn⟩ : ∃ n : Nat, y = n + 1 := ⟨(y - 1).toNat, by omega⟩
  have hi := iter_steps (sb := sh203_1 p y) (fun k => ((k : Int) * p.W - ((k : Int) + 1) / 2, (k : Int) + 1)) n (x := (y - 1) * p.W - y / 2) (by omega) (fun k hk => ?_) ?_
  · simp only [Int.natCast_zero, Int.zero_mul] at hi
    rw [show (0 : Int) - (0 + 1) / 2 = 0 by omega, show (0 : Int) + 1 = 1 by omega] at hi
    rw [hi, bindS]
  · have h2 : (k : Int) + 1 < y := by omega
    have hm : 0 ≤ (k : Int) * p.W ∧ (k : Int) * p.W ≤ 320 := by have := mul_small (a := (k : Int)) w1 w2 (by omega) (by omega); exact this
    have e6 : ((k : Int) + 1).tmod 2 = ((k : Int) + 1) % 2 := Int.tmod_eq_emod_of_nonneg (by omega)
    have hms : ((k + 1 : Nat) : Int) * p.W = (k : Int) * p.W + p.W := by rw [Int.natCast_add, Int.add_mul]; simp
    simp only [sh203_1, h2, decide_true, cond_true, e6]
    rw [hms]
    generalize (k : Int) * p.W = m at *
    rw [w64_id (x := m - ((k : Int) + 1) / 2 + p.W) (by omega) (by omega), w64_id (x := (k : Int) + 1 + 1) (by omega) (by omega), w64_id (x := m - ((k : Int) + 1) / 2 + p.W - 1) (by omega) (by omega)]
    by_cases hy : ((k : Int) + 1) % 2 = 1
    · rw [beq_iff_eq.2 hy, cond_true, bindS]
      simp only [Option.some.injEq, Sum.inl.injEq, Prod.mk.injEq]
      refine ⟨by omega, by omega⟩
    · rw [beq_eq_false_iff_ne.2 hy, cond_false, bindS]
      simp only [Option.some.injEq, Sum.inl.injEq, Prod.mk.injEq]
      refine ⟨by omega, by omega⟩
  · have hd : decide ((n : Int) + 1 < y) = false := decide_eq_false (by omega)
    simp only [sh203_1, hd, cond_false]
    rw [hn, show (n : Int) + 1 - 1 = (n : Int) by omega]
theorem number_spec {p : SPanel} (hd : Dim p) {x y : Int} (h : inr p x y) : sh141 p ⟨x, y⟩ = some (numF p x y) := by
  have hb := num_bd hd h
  have hd' := hd
  obtain ⟨w1, w2, h1, h2, bl⟩ := hd
  obtain ⟨⟨a1, a2⟩, ⟨a3, a4⟩, a5⟩ := h
  unfold sh141
  rw [show (SPoint.mk x y).Y = y from rfl, show (SPoint.mk x y).X = x from rfl, row_spec hd' (by omega) (by omega), bindS, w64_id (x := x - 1) (by omega) (by omega), Int.tdiv_eq_ediv_of_nonneg (by omega), w64_id (x := (x - 1) / 2) (by omega) (by omega)]
  have hm := mul_small (a := y - 1) w1 w2 (by omega) (by omega)
  unfold numF
  rw [w64_id (by omega) (by omega)]
theorem beq_dec (a b : Int) : (a == b) = decide (a = b) := by
  by_cases h : a = b
  · subst h; simp
  · rw [beq_eq_false_iff_ne.2 h, decide_eq_false h]
theorem ite_flip {c : Prop} [Decidable c] {α : Type} {a b : α} : (bif decide c then some a else some b) = some (if c then a else b) := by
  by_cases h : c <;> simp [h]

/-! nearest -/
theorem iter_invN {σ ρ : Type} {sb : σ → Option (σ ⊕ ρ)} (I : σ → Prop) (μ : σ → Nat) (Q : ρ → Prop) {s : σ} (h0 : I s) (hμ : μ s < 4611686018427387904)
    (hs : ∀ a, I a → (∃ a', sb a = some (.inl a') ∧ I a' ∧ μ a' < μ a) ∨ (∃ x, sb a = some (.inr x) ∧ Q x)) : ∃ x, iter sb s = some x ∧ Q x := by
  have key : ∀ k a, μ a ≤ k → I a → ∃ x, iterN sb (k + 1) a = some x ∧ Q x := by
    intro k
    induction k with
    | zero =>
      intro a hk hR
      rcases hs a hR with ⟨a', _, _, h4⟩ | ⟨x, h1, h3⟩
      · omega
      · exact ⟨x, by simp [iterN, h1], h3⟩
    | succ k ih =>
      intro a hk hR
      rcases hs a hR with ⟨a', h1, h3, h4⟩ | ⟨x, h1, h3⟩
      · obtain ⟨x, g1, g3⟩ := ih a' (by omega) h3
        exact ⟨x, by rw [iterN, h1]; exact g1, g3⟩
      · exact ⟨x, by rw [iterN, h1], h3⟩
  obtain ⟨x, h1, h2⟩ := key 4611686018427387903 s (by omega) h0
  exact ⟨x, h1, h2⟩
/-- The points of a row and of all rows. -/
def rowX (y : Int) (n : Nat) : List SPoint := ((List.range n).filter (fun (x : Nat) => decide (((x : Int) + y) % 2 = 1))).map (fun (x : Nat) => ⟨(x : Int), y⟩)
theorem rowX_succ (y : Int) (n : Nat) : rowX y (n + 1) = rowX y n ++ (if ((n : Int) + y) % 2 = 1 then [⟨(n : Int), y⟩] else []) := by
  unfold rowX
  rw [List.range_succ, List.filter_append, List.map_append]
  by_cases h : ((n : Int) + y) % 2 = 1
  · rw [if_pos h, List.filter_cons, if_pos (decide_eq_true h)]; rfl
  · rw [if_neg h, List.filter_cons, if_neg (by simpa using h)]; rfl
theorem rowX_len (y : Int) (n : Nat) : (rowX y n).length ≤ n := by
  unfold rowX
  rw [List.length_map]
  exact Nat.le_trans (List.length_filter_le ..) (by simp)
def allX (w : Nat) : Nat → List SPoint
  | 0 => []
  | n + 1 => allX w n ++ rowX (n : Int) w
theorem allX_len (w : Nat) : ∀ n, (allX w n).length ≤ w * n
  | 0 => by simp [allX]
  | n + 1 => by
    have h1 := allX_len w n
    have h2 := rowX_len (n : Int) w
    rw [allX, List.length_append, Nat.mul_succ]; omega
theorem mem_allX {w : Nat} {a : SPoint} : ∀ {n : Nat}, a ∈ allX w n → ∃ x y : Nat, x < w ∧ y < n ∧ ((x : Int) + (y : Int)) % 2 = 1 ∧ a = ⟨(x : Int), (y : Int)⟩
  | n + 1, h => by
    rcases List.mem_append.1 h with h | h
    · obtain ⟨x, y, h1, h2, h3, h4⟩ := mem_allX h
      exact ⟨x, y, h1, by omega, h3, h4⟩
    · simp only [rowX, List.mem_map, List.mem_filter, List.mem_range, decide_eq_true_eq] at h
      obtain ⟨x, ⟨h1, h2⟩, rfl⟩ := h
      exact ⟨x, n, h1, by omega, h2, rfl⟩
theorem allX_ne {w n : Nat} (hw : 2 ≤ w) (hn : 1 ≤ n) : allX w n ≠ [] := by
  obtain ⟨m, rfl⟩ : ∃ m, n = m + 1 := ⟨n - 1, by omega⟩
  clear hn
  induction m with
  | zero =>
    intro h
    have hm : (⟨((1 : Nat) : Int), ((0 : Nat) : Int)⟩ : SPoint) ∈ allX w (0 + 1) := by
      refine List.mem_append.2 (.inr ?_)
      simp only [rowX, List.mem_map, List.mem_filter, List.mem_range, decide_eq_true_eq]
      exact ⟨1, ⟨by omega, by decide⟩, rfl⟩
    rw [h] at hm
    cases hm
  | succ m ih => intro h; rw [allX] at h; exact ih (List.append_eq_nil_iff.1 h).1
theorem odd_w (x y : Nat) (h : x ≤ 100) (h2 : y ≤ 100) : ((w64 ((x : Int) + (y : Int))).tmod 2 == 1) = decide (((x : Int) + (y : Int)) % 2 = 1) := by
  rw [w64_id (by omega) (by omega), Int.tmod_eq_emod_of_nonneg (by omega)]
  rfl
structure Ext (p : SPanel) (N M : Nat) : Prop where
  w : w64 (2 * p.W) = 2 * p.W
  h : w64 (2 * p.H) = 2 * p.H
  n : 2 * p.W + 1 = (N : Int)
  m : 2 * p.H + 1 = (M : Int)
  n1 : 3 ≤ N ∧ N ≤ 17
  m1 : 3 ≤ M ∧ M ≤ 17
theorem ext_of {p : SPanel} (hd : Dim p) : ∃ N M, Ext p N M := by
  have := hd.w1; have := hd.w2; have := hd.h1; have := hd.h2
  exact ⟨(2 * p.W + 1).toNat, (2 * p.H + 1).toNat, w64_id (by omega) (by omega), w64_id (by omega) (by omega), by omega, by omega, by omega, by omega⟩
theorem all_inner {p : SPanel} {N M : Nat} (h : Ext p N M) (y : Nat) (hy : y ≤ 17) (l : List SPoint) (hl : l.length ≤ 1000) : iter (sh211_2 p (y : Int)) (0, l) = some (l ++ rowX (y : Int) N) := by
  have h1 := h.n1
  have hi := iter_steps (sb := sh211_2 p (y : Int)) (fun k => ((k : Int), l ++ rowX (y : Int) k)) N (x := l ++ rowX (y : Int) N) (by omega) (fun k hk => ?_) ?_
  · simpa [rowX] using hi
  · have hd : decide ((k : Int) < w64 (w64 (2 * p.W) + 1)) = true := by rw [h.w, w64_id (by have := h.n; omega) (by have := h.n; omega)]; exact decide_eq_true (by have := h.n; omega)
    have hr := rowX_len (y : Int) k
    simp only [sh211_2, hd, cond_true, odd_w k y (by omega) (by omega)]
    rw [rowX_succ, w64_id (x := (k : Int) + 1) (by omega) (by omega)]
    by_cases ho : ((k : Int) + (y : Int)) % 2 = 1
    · rw [decide_eq_true ho, cond_true, appL_ok (by simp only [List.length_append, List.length_cons, List.length_nil]; omega), bindS, bindS, if_pos ho, List.append_assoc]; rfl
    · rw [decide_eq_false ho, cond_false, bindS, if_neg ho, List.append_nil]; rfl
  · have hd : decide ((N : Int) < w64 (w64 (2 * p.W) + 1)) = false := by rw [h.w, w64_id (by have := h.n; omega) (by have := h.n; omega)]; exact decide_eq_false (by have := h.n; omega)
    simp only [sh211_2, hd, cond_false]
theorem all_impl {p : SPanel} {N M : Nat} (h : Ext p N M) : sh211 p = some (allX N M) := by
  have h1 := h.n1; have h2 := h.m1
  unfold sh211
  have hi := iter_steps (sb := sh211_1 p) (fun k => ((k : Int), allX N k)) M (x := allX N M) (by omega) (fun k hk => ?_) ?_
  · rw [show ((0 : Int), ([] : List SPoint)) = (((0 : Nat) : Int), allX N 0) from rfl, hi, bindS]
  · have hd : decide ((k : Int) < w64 (w64 (2 * p.H) + 1)) = true := by rw [h.h, w64_id (by have := h.m; omega) (by have := h.m; omega)]; exact decide_eq_true (by have := h.m; omega)
    have hr := allX_len N k
    have hr2 : N * k ≤ 17 * 17 := Nat.mul_le_mul h1.2 (by omega)
    simp only [sh211_1, hd, cond_true, all_inner h k (by omega) (allX N k) (by omega), bindS]
    rw [w64_id (x := (k : Int) + 1) (by omega) (by omega)]
    rfl
  · have hd : decide ((M : Int) < w64 (w64 (2 * p.H) + 1)) = false := by rw [h.h, w64_id (by have := h.m; omega) (by have := h.m; omega)]; exact decide_eq_false (by have := h.m; omega)
    simp only [sh211_1, hd, cond_false]
/-- The square of a distance, and the two ways to look for the least. -/
def sqF (pl : SPoint) (s : Int) (a : SPoint) : Int := w64 (w64 (w64 (pl.X - w64 (a.X * s)) * w64 (pl.X - w64 (a.X * s))) + w64 (w64 (pl.Y - w64 (a.Y * s)) * w64 (pl.Y - w64 (a.Y * s))))
def sqI (pl : SPoint) (s : Int) (a : SPoint) : Int := w64 (w64 (w64 (w64 (a.X * s) - pl.X) * w64 (w64 (a.X * s) - pl.X)) + w64 (w64 (w64 (a.Y * s) - pl.Y) * w64 (w64 (a.Y * s) - pl.Y)))
def gS (pl : SPoint) (s : Int) (b : Int × SPoint) (a : SPoint) : Int × SPoint := if sqF pl s a < b.1 then (sqF pl s a, a) else b
def gI (pl : SPoint) (s : Int) (b : Int × SPoint) (a : SPoint) : Int × SPoint := if b.1 < 0 ∨ sqF pl s a < b.1 then (sqF pl s a, a) else b
theorem near_inner {p : SPanel} {N M : Nat} (h : Ext p N M) (pl : SPoint) (s : Int) (y : Nat) (hy : y ≤ 17) (b : Int) (o : SPoint) : iter (sh197_2 p pl s (y : Int)) (b, w64 (1 - (y : Int).tmod 2), o) = some ((rowX (y : Int) N).foldl (gS pl s) (b, o)) := by
  have h1 := h.n1
  have hx0 : w64 (1 - (y : Int).tmod 2) = 1 - (y : Int) % 2 := by rw [Int.tmod_eq_emod_of_nonneg (by omega), w64_id (by omega) (by omega)]
  rw [hx0]
  obtain ⟨x, hx, hq⟩ := iter_invN (sb := sh197_2 p pl s (y : Int)) (fun t : Int × Int × SPoint => ∃ k : Nat, t.2.1 = k ∧ k ≤ N + 1 ∧ ((k : Int) + (y : Int)) % 2 = 1 ∧ (t.1, t.2.2) = (rowX (y : Int) k).foldl (gS pl s) (b, o)) (fun t : Int × Int × SPoint => ((N : Int) + 2 - t.2.1).toNat) (fun x => x = (rowX (y : Int) N).foldl (gS pl s) (b, o)) (s := (b, 1 - (y : Int) % 2, o)) (by
      refine ⟨(1 - (y : Int) % 2).toNat, by simp only; omega, by omega, by omega, ?_⟩
      rcases (show (y : Int) % 2 = 0 ∨ (y : Int) % 2 = 1 by omega) with h0 | h0
      · rw [h0, show ((1 : Int) - 0).toNat = 0 + 1 from rfl, rowX_succ, if_neg (by omega)]; rfl
      · rw [h0]; rfl) (by simp only; omega) (by
      rintro ⟨c, z, q⟩ ⟨k, rfl, hk, ho, he⟩
      simp only at he
      by_cases hlt : k < N
      · left
        have hd : decide ((k : Int) ≤ w64 (2 * p.W)) = true := by rw [h.w]; exact decide_eq_true (by have := h.n; omega)
        have hsq : sh212 pl ⟨(k : Int), (y : Int)⟩ s = some (sqF pl s ⟨(k : Int), (y : Int)⟩) := rfl
        have hw : w64 ((k : Int) + 2) = ((k + 2 : Nat) : Int) := by rw [w64_id (by omega) (by omega)]; omega
        have hf : rowX (y : Int) (k + 2) = rowX (y : Int) k ++ [⟨(k : Int), (y : Int)⟩] := by rw [rowX_succ, rowX_succ, if_pos ho, if_neg (by omega), List.append_nil]
        simp only [sh197_2, hd, cond_true, hsq, bindS, hw]
        refine ⟨((gS pl s (c, q) ⟨(k : Int), (y : Int)⟩).1, ((k + 2 : Nat) : Int), (gS pl s (c, q) ⟨(k : Int), (y : Int)⟩).2), ?_, ⟨k + 2, rfl, by omega, by omega, ?_⟩, by simp only; omega⟩
        · unfold gS
          by_cases hc : sqF pl s ⟨(k : Int), (y : Int)⟩ < c
          · rw [decide_eq_true hc, if_pos hc]; rfl
          · rw [decide_eq_false hc, if_neg hc]; rfl
        · rw [hf, List.foldl_append, ← he]; rfl
      · right
        have hd : decide ((k : Int) ≤ w64 (2 * p.W)) = false := by rw [h.w]; exact decide_eq_false (by have := h.n; omega)
        simp only [sh197_2, hd, cond_false]
        refine ⟨(c, q), rfl, ?_⟩
        rw [he]
        rcases (show k = N ∨ k = N + 1 by omega) with rfl | rfl
        · rfl
        · rw [rowX_succ, if_neg (by omega), List.append_nil])
  rw [hx, hq]
theorem near_spec {p : SPanel} {N M : Nat} (h : Ext p N M) (pl : SPoint) (s : Int) : ∃ r, sh197 p pl s = some (r.2, decide (r.1 ≤ w64 (s * s))) ∧ r = (allX N M).foldl (gS pl s) (w64 (w64 (s * s) + 1), ⟨0, 0⟩) := by
  have h1 := h.m1
  unfold sh197
  obtain ⟨x, hx, hq⟩ := iter_invN (sb := sh197_1 p pl s) (fun t : Int × Int × SPoint => ∃ k : Nat, t.2.1 = k ∧ k ≤ M ∧ (t.1, t.2.2) = (allX N k).foldl (gS pl s) (w64 (w64 (s * s) + 1), ⟨0, 0⟩)) (fun t : Int × Int × SPoint => ((M : Int) - t.2.1).toNat) (fun x => x = (allX N M).foldl (gS pl s) (w64 (w64 (s * s) + 1), ⟨0, 0⟩)) (s := (w64 (w64 (s * s) + 1), 0, ⟨0, 0⟩)) ⟨0, rfl, by omega, rfl⟩ (by simp only; omega) (by
      rintro ⟨c, z, q⟩ ⟨k, rfl, hk, he⟩
      simp only at he
      by_cases hlt : k < M
      · left
        have hd : decide ((k : Int) ≤ w64 (2 * p.H)) = true := by rw [h.h]; exact decide_eq_true (by have := h.m; omega)
        have hw : w64 ((k : Int) + 1) = ((k + 1 : Nat) : Int) := by rw [w64_id (by omega) (by omega)]; rfl
        simp only [sh197_1, hd, cond_true, near_inner h pl s k (by omega), bindS, hw]
        refine ⟨_, rfl, ⟨k + 1, rfl, hlt, ?_⟩, by simp only; omega⟩
        rw [allX, List.foldl_append, ← he]
      · right
        have hd : decide ((k : Int) ≤ w64 (2 * p.H)) = false := by rw [h.h]; exact decide_eq_false (by have := h.m; omega)
        have hkM : k = M := by omega
        subst hkM
        simp only [sh197_1, hd, cond_false]
        exact ⟨(c, q), rfl, he⟩)
  exact ⟨x, by rw [hx]; rfl, hq⟩
theorem mul_bdN {x y B : Int} (h1 : -B ≤ x) (h2 : x ≤ B) (h3 : -B ≤ y) (h4 : y ≤ B) : -(B * B) ≤ x * y ∧ x * y ≤ B * B := by
  constructor
  · have : (x + B) * (y + B) ≥ 0 := Int.mul_nonneg (by omega) (by omega)
    have h5 : (B - x) * (B - y) ≥ 0 := Int.mul_nonneg (by omega) (by omega)
    rw [Int.add_mul, Int.mul_add, Int.mul_add] at this
    rw [Int.sub_mul, Int.mul_sub, Int.mul_sub] at h5
    have e1 : x * B = B * x := Int.mul_comm ..
    omega
  · have : (B - x) * (y + B) ≥ 0 := Int.mul_nonneg (by omega) (by omega)
    have h5 : (x + B) * (B - y) ≥ 0 := Int.mul_nonneg (by omega) (by omega)
    rw [Int.sub_mul, Int.mul_add, Int.mul_add] at this
    rw [Int.add_mul, Int.mul_sub, Int.mul_sub] at h5
    have e1 : x * B = B * x := Int.mul_comm ..
    omega
theorem sq_nonneg (x : Int) : 0 ≤ x * x := by
  rcases Int.le_total 0 x with h | h
  · exact Int.mul_nonneg h h
  · have := Int.mul_nonneg (show 0 ≤ -x by omega) (show 0 ≤ -x by omega)
    rwa [Int.neg_mul_neg] at this
theorem sq_ok {pl : SPoint} {s : Int} {a : SPoint} (hp : (0 ≤ pl.X ∧ pl.X ≤ 2000) ∧ (0 ≤ pl.Y ∧ pl.Y ≤ 2000)) (hs : 2 ≤ s ∧ s ≤ 100) (ha : (0 ≤ a.X ∧ a.X ≤ 17) ∧ (0 ≤ a.Y ∧ a.Y ≤ 17)) : sqI pl s a = sqF pl s a ∧ 0 ≤ sqF pl s a := by
  have m1 := mul_bdN (x := a.X) (y := s) (B := 100) (by omega) (by omega) (by omega) (by omega)
  have m2 := mul_bdN (x := a.Y) (y := s) (B := 100) (by omega) (by omega) (by omega) (by omega)
  unfold sqI sqF
  rw [w64_id (x := a.X * s) (by omega) (by omega), w64_id (x := a.Y * s) (by omega) (by omega)]
  generalize a.X * s = u at *
  generalize a.Y * s = v at *
  rw [w64_id (x := u - pl.X) (by omega) (by omega), w64_id (x := v - pl.Y) (by omega) (by omega), w64_id (x := pl.X - u) (by omega) (by omega), w64_id (x := pl.Y - v) (by omega) (by omega)]
  have e1 : (u - pl.X) * (u - pl.X) = (pl.X - u) * (pl.X - u) := by rw [← Int.neg_mul_neg, show -(u - pl.X) = pl.X - u by omega]
  have e2 : (v - pl.Y) * (v - pl.Y) = (pl.Y - v) * (pl.Y - v) := by rw [← Int.neg_mul_neg, show -(v - pl.Y) = pl.Y - v by omega]
  rw [e1, e2]
  refine ⟨rfl, ?_⟩
  have n1 := mul_bdN (x := pl.X - u) (y := pl.X - u) (B := 12000) (by omega) (by omega) (by omega) (by omega)
  have n2 := mul_bdN (x := pl.Y - v) (y := pl.Y - v) (B := 12000) (by omega) (by omega) (by omega) (by omega)
  have q1 := sq_nonneg (pl.X - u)
  have q2 := sq_nonneg (pl.Y - v)
  generalize (pl.X - u) * (pl.X - u) = z1 at *
  generalize (pl.Y - v) * (pl.Y - v) = z2 at *
  rw [w64_id (x := z1) (by omega) (by omega), w64_id (x := z2) (by omega) (by omega), w64_id (by omega) (by omega)]
  omega
theorem near_impl {p : SPanel} {N M : Nat} (h : Ext p N M) {pl : SPoint} {s : Int} (hp : (0 ≤ pl.X ∧ pl.X ≤ 2000) ∧ (0 ≤ pl.Y ∧ pl.Y ≤ 2000)) (hs : 2 ≤ s ∧ s ≤ 100) : ∃ r, sh192 p pl s = some (r.2, decide (r.1 ≤ w64 (s * s))) ∧ r = (allX N M).foldl (gI pl s) (-1, ⟨0, 0⟩) := by
  have h1 := h.m1
  have h2 := h.n1
  unfold sh192
  rw [all_impl h, bindS]
  have hl := allX_len N M
  have hl2 : N * M ≤ 17 * 17 := Nat.mul_le_mul h2.2 h1.2
  have hi := iter_fold (sb := sh192_1 pl s (allX N M)) (allX N M) (fun k (l : Int × SPoint) => (l.1, (k : Int), l.2)) (gI pl s) (fun l => l) (fun _ _ => True) (-1, ⟨0, 0⟩) trivial (by omega) (fun k hk l _ => ?_) (fun l _ => by
      have hd : decide (((allX N M).length : Int) < ((allX N M).length : Int)) = false := by simp
      simp only [sh192_1, hd, cond_false])
  · have e := hi.1
    simp only [Int.natCast_zero] at e
    rw [e]
    exact ⟨_, rfl, rfl⟩
  · refine ⟨?_, trivial⟩
    have hd : decide ((k : Int) < ((allX N M).length : Int)) = true := decide_eq_true (by omega)
    obtain ⟨x, y, hx, hy, _, hxy⟩ := mem_allX (List.getElem_mem hk)
    have hq : sqI pl s (allX N M)[k] = sqF pl s (allX N M)[k] := (sq_ok hp hs (by rw [hxy]; exact ⟨⟨by simp only; omega, by simp only; omega⟩, by simp only; omega, by simp only; omega⟩)).1
    simp only [sh192_1, hd, cond_true, getI_lt hk, bindS, w64_id (x := (k : Int) + 1) (by omega) (by omega)]
    rw [show w64 (w64 (w64 (w64 ((allX N M)[k].X * s) - pl.X) * w64 (w64 ((allX N M)[k].X * s) - pl.X)) + w64 (w64 (w64 ((allX N M)[k].Y * s) - pl.Y) * w64 (w64 ((allX N M)[k].Y * s) - pl.Y))) = sqI pl s (allX N M)[k] from rfl, hq]
    unfold gI
    by_cases hc : l.1 < 0 ∨ sqF pl s (allX N M)[k] < l.1
    · have hc2 : (decide (l.1 < 0) || decide (sqF pl s (allX N M)[k] < l.1)) = true := by simpa using hc
      rw [hc2, if_pos hc]; rfl
    · have hc2 : (decide (l.1 < 0) || decide (sqF pl s (allX N M)[k] < l.1)) = false := by simp at hc ⊢; omega
      rw [hc2, if_neg hc]; rfl
theorem fold_rel {pl : SPoint} {s S : Int} (hS : 0 ≤ S) (Q : List SPoint) : ∀ (P : List SPoint), (∀ a ∈ P, a ∈ Q ∧ 0 ≤ sqF pl s a) → ∀ (u v : Int × SPoint),
    ((u.1 = -1 ∧ v.1 = S + 1) ∨ (0 ≤ u.1 ∧ u.2 ∈ Q ∧ ((u.1 ≤ S ∧ v = u) ∨ (S < u.1 ∧ v.1 = S + 1)))) →
    (let u' := P.foldl (gI pl s) u; let v' := P.foldl (gS pl s) v; ((u'.1 = -1 ∧ v'.1 = S + 1 ∧ P = []) ∨ (0 ≤ u'.1 ∧ u'.2 ∈ Q ∧ ((u'.1 ≤ S ∧ v' = u') ∨ (S < u'.1 ∧ v'.1 = S + 1)))))
  | [], _, u, v, h => by
    rcases h with ⟨h1, h2⟩ | h
    · exact .inl ⟨h1, h2, rfl⟩
    · exact .inr h
  | a :: P, hP, u, v, h => by
    obtain ⟨ha, hq⟩ := hP a (List.mem_cons_self ..)
    have key : 0 ≤ (gI pl s u a).1 ∧ (gI pl s u a).2 ∈ Q ∧ (((gI pl s u a).1 ≤ S ∧ gS pl s v a = gI pl s u a) ∨ (S < (gI pl s u a).1 ∧ (gS pl s v a).1 = S + 1)) := by
      unfold gI gS
      rcases h with ⟨h1, h2⟩ | ⟨h1, h2, h3⟩
      · rw [if_pos (.inl (by omega))]
        refine ⟨hq, ha, ?_⟩
        by_cases hc : sqF pl s a < v.1
        · rw [if_pos hc]; exact .inl ⟨by simp only; omega, rfl⟩
        · rw [if_neg hc]; exact .inr ⟨by simp only; omega, h2⟩
      · rcases h3 with ⟨h3, rfl⟩ | ⟨h3, h4⟩
        · by_cases hc : sqF pl s a < v.1
          · rw [if_pos (.inr hc), if_pos hc]; exact ⟨hq, ha, .inl ⟨by simp only; omega, rfl⟩⟩
          · rw [if_neg (by omega), if_neg hc]; exact ⟨h1, h2, .inl ⟨h3, rfl⟩⟩
        · by_cases hc : sqF pl s a < u.1
          · rw [if_pos (.inr hc)]
            refine ⟨hq, ha, ?_⟩
            by_cases hd : sqF pl s a < v.1
            · rw [if_pos hd]; exact .inl ⟨by simp only; omega, rfl⟩
            · rw [if_neg hd]; exact .inr ⟨by simp only; omega, h4⟩
          · rw [if_neg (by omega), if_neg (by omega)]; exact ⟨h1, h2, .inr ⟨h3, h4⟩⟩
    have := fold_rel hS Q P (fun b hb => hP b (List.mem_cons_of_mem _ hb)) (gI pl s u a) (gS pl s v a) (.inr key)
    rcases this with ⟨h1, h2, rfl⟩ | h
    · exact .inr key
    · exact .inr h
/-- Both find the same point, or none. -/
theorem near_same {p : SPanel} (hd : Dim p) {pl : SPoint} {s : Int} (hp : (0 ≤ pl.X ∧ pl.X ≤ 2000) ∧ (0 ≤ pl.Y ∧ pl.Y ≤ 2000)) (hs : 2 ≤ s ∧ s ≤ 100) :
    (∃ a, sh197 p pl s = some (a, true) ∧ sh192 p pl s = some (a, true) ∧ (0 ≤ a.X ∧ a.X ≤ 2 * p.W) ∧ (0 ≤ a.Y ∧ a.Y ≤ 2 * p.H) ∧ (a.X + a.Y) % 2 = 1) ∨
    ∃ a b, sh197 p pl s = some (a, false) ∧ sh192 p pl s = some (b, false) := by
  obtain ⟨N, M, h⟩ := ext_of hd
  have h1 := h.n1; have h2 := h.m1; have e1 := h.n; have e2 := h.m
  obtain ⟨v, hv, hv2⟩ := near_spec h pl s
  obtain ⟨u, hu, hu2⟩ := near_impl h hp hs
  have mb := mul_bdN (x := s) (y := s) (B := 100) (by omega) (by omega) (by omega) (by omega)
  have q0 := sq_nonneg s
  have hw : w64 (s * s) = s * s := w64_id (by omega) (by omega)
  rw [hw] at hv hu hv2
  rw [w64_id (x := s * s + 1) (by omega) (by omega)] at hv2
  have hr := fold_rel (pl := pl) (s := s) (S := s * s) q0 (allX N M) (allX N M) (fun a ha => by
    obtain ⟨x, y, hx, hy, _, rfl⟩ := mem_allX ha
    exact ⟨ha, (sq_ok hp hs ⟨⟨by simp only; omega, by simp only; omega⟩, by simp only; omega, by simp only; omega⟩).2⟩) (-1, ⟨0, 0⟩) (s * s + 1, ⟨0, 0⟩) (.inl ⟨rfl, rfl⟩)
  rw [← hu2, ← hv2] at hr
  rcases hr with ⟨_, _, h3⟩ | ⟨h3, h4, h5⟩
  · exact absurd h3 (allX_ne (by omega) (by omega))
  · rcases h5 with ⟨h5, rfl⟩ | ⟨h5, h6⟩
    · left
      obtain ⟨x, y, hx, hy, hxy, he⟩ := mem_allX h4
      refine ⟨v.2, by rw [hv, decide_eq_true h5], by rw [hu, decide_eq_true h5], ?_⟩
      rw [he]
      refine ⟨⟨?_, ?_⟩, ⟨?_, ?_⟩, hxy⟩ <;> simp only <;> omega
    · right
      exact ⟨v.2, u.2, by rw [hv, decide_eq_false (by omega)], by rw [hu, decide_eq_false (by omega)]⟩

/-! strokes -/
def placeB (p : SPoint) : Bool := (decide (0 ≤ p.X) && decide (p.X ≤ 2000)) && (decide (0 ≤ p.Y) && decide (p.Y ≤ 2000))
def strokeB (q : List SPoint) : Bool := (decide (1 ≤ q.length) && decide (q.length ≤ 60)) && q.all placeB
theorem l19Ok_eq (q : List SPoint) (h : q.length ≤ 1048577) : sh130 q = some (strokeB q) := by
  unfold sh130 strokeB
  rw [iter_all (xs := q) (p := placeB) (r := false) (by omega) (fun k hk => ?_) (by simp [sh130_1]), bindS]
  · cases ha : q.all placeB
    · simp [elimS]
    · simp only [elimS, if_true, sh100, bindS, Bool.and_true]
      congr 2
      · simp only [decide_eq_decide]; omega
      · simp only [decide_eq_decide]; omega
  · have h2 : (k : Int) < q.length := by omega
    simp only [sh130_1, sh100, h2, decide_true, cond_true, getI_lt hk, bindS]
    rw [w64_id (x := (k : Int) + 1) (by omega) (by omega)]
    unfold placeB
    cases h0 : decide (0 ≤ q[k].X) && decide (q[k].X ≤ 2000) <;> cases h1 : decide (0 ≤ q[k].Y) && decide (q[k].Y ≤ 2000) <;> rfl
theorem isPlace_eq (p : SPoint) : sh138 p = some (placeB p) := by
  unfold sh138 sh107 placeB
  simp only [bindS]
  cases decide (0 ≤ p.X) && decide (p.X ≤ 2000) <;> rfl
theorem validStroke_eq (q : List SPoint) (h : q.length ≤ 1048577) : sh47 q = some (strokeB q) := by
  unfold sh47 sh136f137 sh200f137 sh107
  rw [iter_find (xs := q) (p := fun x => !placeB x) (by omega) (fun k hk => ?_) (by simp [sh200f137_1])]
  · simp only [bindS]
    unfold strokeB
    have e1 : decide ((1 : Int) ≤ (q.length : Int)) = decide (1 ≤ q.length) := by simp only [decide_eq_decide]; omega
    have e2 : decide ((q.length : Int) ≤ 60) = decide (q.length ≤ 60) := by simp only [decide_eq_decide]; omega
    rw [e1, e2]
    cases hc : decide (1 ≤ q.length) && decide (q.length ≤ 60)
    · rfl
    · have ha : q.any (fun x => !placeB x) = !q.all placeB := by rw [List.all_eq_not_any_not]; simp
      rw [ha]
      cases q.all placeB
      · simp [elimS]
      · simp [elimS]
  · have h2 : (k : Int) < q.length := by omega
    simp only [sh200f137_1, sh137, isPlace_eq, h2, decide_true, cond_true, getI_lt hk, bindS]
    rw [w64_id (x := (k : Int) + 1) (by omega) (by omega)]
    cases placeB q[k] <;> rfl
theorem strokeB_len {q : List SPoint} (h : strokeB q = true) : q.length ≤ 60 := by
  unfold strokeB at h
  simp only [Bool.and_eq_true, decide_eq_true_eq] at h
  exact h.1.2


/-! points -/

/-! polygon -/
def cornerB (p : SPoint) : Bool := (decide (-100000 ≤ p.X) && decide (p.X ≤ 100000)) && (decide (-100000 ≤ p.Y) && decide (p.Y ≤ 100000))
def polyB (q : List SPoint) : Bool := (decide (3 ≤ q.length) && decide (q.length ≤ 300)) && q.all cornerB

theorem polyB_len {q : List SPoint} (h : polyB q = true) : 3 ≤ q.length ∧ q.length ≤ 300 := by
  unfold polyB at h
  simp only [Bool.and_eq_true, decide_eq_true_eq] at h
  exact h.1

/-! max -/
theorem l00Max_eq (a b : Int) : sh182 a b = some (mx a b) := by
  unfold sh182
  rw [← mx_comm']
  by_cases h : b < a <;> simp [h]

/-! min -/
theorem l00Min_eq (a b : Int) : sh181 a b = some (mn a b) := by
  unfold sh181 mn
  by_cases h : a < b
  · have : ¬ b < a := by omega
    simp [h, this]
  · by_cases h2 : b < a <;> simp [h, h2] <;> omega

/-! boxof -/
def boxS (s : SPoint × SPoint) (p : SPoint) : SPoint × SPoint := (⟨mn s.1.X p.X, mn s.1.Y p.Y⟩, ⟨mx s.2.X p.X, mx s.2.Y p.Y⟩)
theorem boxS_same (p : SPoint) : boxS (p, p) p = (p, p) := by
  unfold boxS mn mx
  simp

theorem boxOf_eq (p : SPoint) (t : List SPoint) (h : t.length ≤ 1048576) : sh112 (p :: t) = some (t.foldl boxS (p, p)) := by
  unfold sh112
  have hg : getI (p :: t) 0 = some p := rfl
  rw [hg, bindS, bindS]
  have hi := iter_fold (sb := sh112_1 (p :: t)) (p :: t) (fun k s => ((k : Int), s.1, s.2)) boxS (fun s => (s.1, s.2)) (fun _ _ => True) (p, p) trivial (by simp; omega) (fun k hk s _ => ⟨by
      have h2 : (k : Int) < (p :: t).length := by omega
      simp only [sh112_1, h2, decide_true, cond_true, getI_lt hk, bindS]
      simp only [List.length_cons] at hk
      rw [w64_id (by omega) (by omega)]
      rfl, trivial⟩) (fun s _ => by
      have hd : decide (((p :: t).length : Int) < ((p :: t).length : Int)) = false := by simp
      simp only [sh112_1, hd, cond_false])
  have h1 := hi.1
  simp only [Int.natCast_zero] at h1
  rw [h1, bindS, List.foldl_cons, boxS_same]

theorem l19Box_eq (p : SPoint) (t : List SPoint) (h : t.length ≤ 1048576) : sh113 (p :: t) = some (t.foldl boxS (p, p)) := by
  unfold sh113
  have hg : getI (p :: t) 0 = some p := rfl
  rw [hg, bindS, bindS]
  have hi := iter_fold (sb := sh113_1 (p :: t)) t (fun k s => ((k : Int) + 1, s.1, s.2)) boxS (fun s => (s.1, s.2)) (fun _ _ => True) (p, p) trivial (by omega) (fun k hk s _ => ⟨by
      have hk1 : k + 1 < (p :: t).length := by simp; omega
      have h2 : (k : Int) + 1 < (p :: t).length := by omega
      have hgk : getI (p :: t) ((k : Int) + 1) = some t[k] := by have := getI_lt hk1; simpa using this
      simp only [sh113_1, h2, decide_true, cond_true, hgk, bindS, l00Min_eq, l00Max_eq]
      rw [w64_id (by omega) (by omega)]
      rfl, trivial⟩) (fun s _ => by
      have hd : decide ((t.length : Int) + 1 < ((p :: t).length : Int)) = false := by simp
      simp only [sh113_1, hd, cond_false])
  have h1 := hi.1
  simp only [Int.natCast_zero, Int.zero_add] at h1
  rw [h1, bindS]


/-! applystroke -/
theorem box_bd {B : Int} : ∀ (t : List SPoint) (z : SPoint × SPoint), ((0 ≤ z.1.X ∧ z.1.X ≤ B) ∧ (0 ≤ z.1.Y ∧ z.1.Y ≤ B) ∧ (0 ≤ z.2.X ∧ z.2.X ≤ B) ∧ (0 ≤ z.2.Y ∧ z.2.Y ≤ B)) → (∀ a ∈ t, (0 ≤ a.X ∧ a.X ≤ B) ∧ (0 ≤ a.Y ∧ a.Y ≤ B)) →
    (let r := t.foldl boxS z; (0 ≤ r.1.X ∧ r.1.X ≤ B) ∧ (0 ≤ r.1.Y ∧ r.1.Y ≤ B) ∧ (0 ≤ r.2.X ∧ r.2.X ≤ B) ∧ (0 ≤ r.2.Y ∧ r.2.Y ≤ B))
  | [], z, h, _ => h
  | a :: t, z, h, ht => by
    have ha := ht a (List.mem_cons_self ..)
    refine box_bd t (boxS z a) ?_ (fun b hb => ht b (List.mem_cons_of_mem _ hb))
    unfold boxS mn mx
    refine ⟨⟨?_, ?_⟩, ⟨?_, ?_⟩, ⟨?_, ?_⟩, ?_, ?_⟩ <;> simp only <;> split <;> omega
def kindF (b : SPoint × SPoint) (s : Int) : Int := bif (decide (w64 (2 * w64 (b.2.X - b.1.X)) < s) && decide (w64 (2 * w64 (b.2.Y - b.1.Y)) < s)) then 0 else (bif decide (w64 (2 * w64 (b.2.X - b.1.X)) ≤ w64 (b.2.Y - b.1.Y)) then 1 else (bif decide (w64 (2 * w64 (b.2.Y - b.1.Y)) ≤ w64 (b.2.X - b.1.X)) then 2 else 3))
theorem kindF_cases (b : SPoint × SPoint) (s : Int) : kindF b s = 0 ∨ kindF b s = 1 ∨ kindF b s = 2 ∨ kindF b s = 3 := by
  unfold kindF
  cases (decide (w64 (2 * w64 (b.2.X - b.1.X)) < s) && decide (w64 (2 * w64 (b.2.Y - b.1.Y)) < s)) <;> cases decide (w64 (2 * w64 (b.2.X - b.1.X)) ≤ w64 (b.2.Y - b.1.Y)) <;> cases decide (w64 (2 * w64 (b.2.Y - b.1.Y)) ≤ w64 (b.2.X - b.1.X)) <;> simp
theorem kind_spec {q : List SPoint} {b : SPoint × SPoint} (h : sh113 q = some b) (s : Int) : sh196 q s = some (kindF b s) := by
  unfold sh196 kindF
  rw [h, bindS]
  cases (decide (w64 (2 * w64 (b.2.X - b.1.X)) < s) && decide (w64 (2 * w64 (b.2.Y - b.1.Y)) < s)) <;> cases decide (w64 (2 * w64 (b.2.X - b.1.X)) ≤ w64 (b.2.Y - b.1.Y)) <;> cases decide (w64 (2 * w64 (b.2.Y - b.1.Y)) ≤ w64 (b.2.X - b.1.X)) <;> rfl
theorem kind_impl {q : List SPoint} {b : SPoint × SPoint} (h : sh112 q = some b) (s : Int) : sh191 q s = some (kindF b s) := by
  unfold sh191 kindF
  rw [h, bindS]
  cases (decide (w64 (2 * w64 (b.2.X - b.1.X)) < s) && decide (w64 (2 * w64 (b.2.Y - b.1.Y)) < s)) <;> cases decide (w64 (2 * w64 (b.2.X - b.1.X)) ≤ w64 (b.2.Y - b.1.Y)) <;> cases decide (w64 (2 * w64 (b.2.Y - b.1.Y)) ≤ w64 (b.2.X - b.1.X)) <;> rfl
theorem stroke_facts {q : List SPoint} (h : strokeB q = true) : ∃ a t, q = a :: t ∧ q.length ≤ 60 ∧ ∀ b ∈ q, (0 ≤ b.X ∧ b.X ≤ 2000) ∧ (0 ≤ b.Y ∧ b.Y ≤ 2000) := by
  unfold strokeB at h
  simp only [Bool.and_eq_true, decide_eq_true_eq, List.all_eq_true] at h
  obtain ⟨⟨h1, h2⟩, h3⟩ := h
  cases q with
  | nil => simp at h1
  | cons a t =>
    refine ⟨a, t, rfl, h2, fun b hb => ?_⟩
    have := h3 b hb
    unfold placeB at this
    simpa only [Bool.and_eq_true, decide_eq_true_eq] using this
theorem half_bd {a b : Int} (ha : 0 ≤ a ∧ a ≤ 2000) (hb : 0 ≤ b ∧ b ≤ 2000) : 0 ≤ w64 ((w64 (a + b)).tdiv 2) ∧ w64 ((w64 (a + b)).tdiv 2) ≤ 2000 := by
  rw [w64_id (x := a + b) (by omega) (by omega), Int.tdiv_eq_ediv_of_nonneg (by omega), w64_id (by omega) (by omega)]
  omega
theorem edge_impl {p : SPanel} (hd : Dim p) (a : SPoint) : sh187 p a = some (decide (a.X = 0 ∨ a.X = 2 * p.W ∨ a.Y = 0 ∨ a.Y = 2 * p.H)) := by
  unfold sh187
  have := hd.w1; have := hd.w2; have := hd.h1; have := hd.h2
  rw [w64_id (x := 2 * p.W) (by omega) (by omega), w64_id (x := 2 * p.H) (by omega) (by omega)]
  congr 1
  rw [Bool.eq_iff_iff]
  simp only [Bool.or_eq_true, beq_iff_eq, decide_eq_true_eq]
  omega
theorem edge_spec {p : SPanel} (hd : Dim p) (a : SPoint) : sh188 p a = some (decide (a.X = 0 ∨ a.X = 2 * p.W ∨ a.Y = 0 ∨ a.Y = 2 * p.H)) := by
  unfold sh188
  have := hd.w1; have := hd.w2; have := hd.h1; have := hd.h2
  rw [w64_id (x := 2 * p.W) (by omega) (by omega), w64_id (x := 2 * p.H) (by omega) (by omega)]
  congr 1
  rw [Bool.eq_iff_iff]
  simp only [Bool.or_eq_true, beq_iff_eq, decide_eq_true_eq]
  omega
theorem panel_eta (p : SPanel) : SPanel.mk p.W p.H p.Breaks = p := rfl
/-- A stroke at a panel of its own: the code, and the breaks. -/
theorem stroke_once (p : SPanel) (q : List SPoint) (s : Int) (hp : panelB p = true) (hb : p.Breaks.length ≤ 1048576) (hq : strokeB q = true) (hs : 2 ≤ s ∧ s ≤ 100) :
    (∃ c, c ≠ 0 ∧ sh133 p q s = some (c, p.Breaks) ∧ sh129 p q s = some (⟨0, 0, []⟩, c)) ∨
    ∃ b, b.length = p.Breaks.length ∧ (∀ x ∈ b, x ∈ p.Breaks ∨ 0 ≤ x ∧ x ≤ 2) ∧ sh133 p q s = some (0, b) ∧ sh129 p q s = some (⟨p.W, p.H, b⟩, 0) := by
  have hd := dim_of hp
  obtain ⟨a, t, rfl, hl, hpt⟩ := stroke_facts hq
  have htl : t.length ≤ 1048576 := by simp at hl; omega
  have b1 := boxOf_eq a t htl
  have b2 := l19Box_eq a t htl
  have ha := hpt a (List.mem_cons_self ..)
  have bb := box_bd (B := 2000) t (a, a) ⟨ha.1, ha.2, ha.1, ha.2⟩ (fun b hb => hpt b (List.mem_cons_of_mem _ hb))
  unfold sh133 sh129
  rw [kind_spec b2 s, kind_impl b1 s, b1, b2]
  generalize t.foldl boxS (a, a) = z at *
  obtain ⟨z1, z2, z3, z4⟩ := bb
  simp only [bindS]
  have hk := kindF_cases z s
  by_cases hk3 : kindF z s = 3
  · left
    rw [hk3]
    exact ⟨7, by decide, rfl, rfl⟩
  · have hk3' : (kindF z s == 3) = false := by simpa using hk3
    rw [hk3', cond_false, cond_false]
    rcases near_same hd (pl := ⟨w64 ((w64 (z.1.X + z.2.X)).tdiv 2), w64 ((w64 (z.1.Y + z.2.Y)).tdiv 2)⟩) (s := s) ⟨half_bd z1 z3, half_bd z2 z4⟩ hs with ⟨x, n1, n2, n3, n4, n5⟩ | ⟨x, y, n1, n2⟩
    · simp only [n1, n2, bindS, Bool.not_true, cond_false, edge_spec hd, edge_impl hd]
      by_cases he : x.X = 0 ∨ x.X = 2 * p.W ∨ x.Y = 0 ∨ x.Y = 2 * p.H
      · left
        rw [decide_eq_true he]
        exact ⟨6, by decide, rfl, rfl⟩
      · right
        have hin : inr p x.X x.Y := ⟨by omega, by omega, n5⟩
        have hbd := num_bd hd hin
        have hl : (numF p x.X x.Y).toNat < p.Breaks.length := by omega
        have m1 : sh194 p x = some (numF p x.X x.Y) := number_impl hd hin
        have m2 : sh141 p x = some (numF p x.X x.Y) := number_spec hd hin
        have hg : getI ([0, 1, 2] : List Int) (kindF z s) = some (kindF z s) := by
          rcases hk with h | h | h | h
          · rw [h]; rfl
          · rw [h]; rfl
          · rw [h]; rfl
          · exact absurd h hk3
        have happ : appL ([] : List Int) p.Breaks = some p.Breaks := by rw [appL_ok (by simp only [List.length_nil]; omega)]; rfl
        rw [decide_eq_false he]
        simp only [cond_false, m1, m2, bindS, hg, getI_toNat hbd.1 hl, sh193, sh134, sh198, happ]
        refine ⟨_, ?_, ?_, rfl, rfl⟩
        · simp
        · intro y hy
          rcases List.mem_or_eq_of_mem_set hy with h | h
          · exact .inl h
          · right; rw [h]; omega
    · left
      simp only [n1, n2, bindS, Bool.not_false, cond_true]
      exact ⟨3, by decide, rfl, rfl⟩
def scaleB (s : Int) : Bool := decide (2 ≤ s) && decide (s ≤ 100)
theorem applyStroke_total (p : SPanel) (q : List SPoint) (s : Int) (hb : p.Breaks.length ≤ 1048576) (hq : q.length ≤ 1048576) : ∃ r, sh41 p q s = some r ∧ sh40 p q s = some r ∧ r.1.Breaks.length ≤ 1048576 := by
  unfold sh41 sh40 sh131
  rw [l19Ok_eq q (by omega), validPanel_eq p hb, l02Ok_eq p hb, validStroke_eq q (by omega)]
  have e1 : sh126 s = some (scaleB s) := rfl
  have e2 : sh123 s = some (scaleB s) := rfl
  rw [e1, e2]
  have happ : appL ([] : List Int) p.Breaks = some p.Breaks := by rw [appL_ok (by simp only [List.length_nil]; omega)]; rfl
  have how : sh132 p = some p := by unfold sh132 sh195; rw [happ]; rfl
  rw [how]
  cases hp : panelB p
  · cases strokeB q <;> exact ⟨_, rfl, rfl, by simp⟩
  · cases hst : strokeB q
    · exact ⟨_, rfl, rfl, by simp⟩
    · cases hsc : scaleB s
      · exact ⟨_, rfl, rfl, by simp⟩
      · have hs : 2 ≤ s ∧ s ≤ 100 := by unfold scaleB at hsc; simpa using hsc
        simp only [bindS, Bool.not_true, cond_false, bne_self_eq_false]
        rcases stroke_once p q s hp hb hst hs with ⟨c, hc, h1, h2⟩ | ⟨b, hbl, _, h1, h2⟩
        · rw [h1, h2]
          have hc' : (c != 0) = true := by simpa using hc
          simp only [bindS, hc', cond_true]
          exact ⟨_, rfl, rfl, by simp⟩
        · rw [h1, h2]
          exact ⟨_, rfl, rfl, by simp only; omega⟩

/-! mark_points -/
/-- The numbers that are laid into a result of places. -/
def marksP (m : Int) (n : Nat) : List SPoint := (List.range n).map fun (i : Nat) => ⟨m + 2 * (i : Int), m + 2 * (i : Int) + 1⟩
theorem marksP_length (m : Int) (n : Nat) : (marksP m n).length = n := by simp [marksP]
theorem marksP_get (m : Int) (n k : Nat) (h : k < n) : (marksP m n)[k]'(by rw [marksP_length]; exact h) = ⟨m + 2 * k, m + 2 * k + 1⟩ := by simp [marksP]
theorem marksP_succ (m : Int) (k : Nat) : marksP m (k + 1) = marksP m k ++ [⟨m + 2 * k, m + 2 * k + 1⟩] := by simp [marksP, List.range_succ]


/-! mark_pointss -/
theorem iter_done' {σ ρ : Type} {sb : σ → Option (σ ⊕ ρ)} {s : σ} {x : ρ} (h : sb s = some (.inr x)) : iter sb s = some x := iter_steps (fun _ => s) 0 (by omega) (fun k hk => by omega) h
def totP : List (List SPoint) → Nat
  | [] => 0
  | r :: rs => r.length + totP rs
theorem totP_snoc : ∀ (rs : List (List SPoint)) (r : List SPoint), totP (rs ++ [r]) = totP rs + r.length
  | [], r => by simp [totP]
  | x :: xs, r => by rw [List.cons_append, totP, totP, totP_snoc xs r]; omega
theorem totP_bound {B : Nat} : ∀ {rs : List (List SPoint)}, (∀ r ∈ rs, r.length ≤ B) → totP rs ≤ B * rs.length
  | [], _ => by simp [totP]
  | x :: xs, h => by
    have h1 := h x (List.mem_cons_self ..)
    have h2 := totP_bound (fun r hr => h r (List.mem_cons_of_mem _ hr))
    rw [totP, List.length_cons, Nat.mul_succ]; omega
theorem totP_take : ∀ (rs : List (List SPoint)) (k : Nat), totP (rs.take k) ≤ totP rs
  | [], k => by simp [totP]
  | x :: xs, 0 => by simp [totP]
  | x :: xs, k + 1 => by have := totP_take xs k; rw [List.take_succ_cons, totP, totP]; omega
def markSSP : Int → List (List SPoint) → List (List SPoint)
  | _, [] => []
  | m, r :: rs => marksP m r.length :: markSSP (m + 2 * r.length) rs
theorem markSSP_snoc : ∀ (m : Int) (rs : List (List SPoint)) (r : List SPoint), markSSP m (rs ++ [r]) = markSSP m rs ++ [marksP (m + 2 * totP rs) r.length]
  | m, [], r => by simp [markSSP, totP]
  | m, x :: xs, r => by
    rw [List.cons_append, markSSP, markSSP, markSSP_snoc _ xs r, List.cons_append, totP, show m + 2 * (x.length : Int) + 2 * (totP xs : Int) = m + 2 * ((x.length + totP xs : Nat) : Int) by omega]
theorem markSSP_length : ∀ (m : Int) (rs : List (List SPoint)), (markSSP m rs).length = rs.length
  | m, [] => rfl
  | m, x :: xs => by rw [markSSP, List.length_cons, List.length_cons, markSSP_length]
theorem markSSP_get : ∀ (m : Int) (rs : List (List SPoint)) (k : Nat) (h : k < rs.length), (markSSP m rs)[k]'(by rw [markSSP_length]; exact h) = marksP (m + 2 * totP (rs.take k)) rs[k].length
  | m, x :: xs, 0, h => by simp [markSSP, totP]
  | m, x :: xs, k + 1, h => by
    simp only [markSSP, List.getElem_cons_succ]
    rw [markSSP_get _ xs k (by simpa using h), List.take_succ_cons, totP]
    congr 1
    omega

/-! applystrokes -/
theorem bind_bind {α β γ : Type} (x : Option α) (f : α → Option β) (g : β → Option γ) : (Option.bind x fun y => Option.bind (f y) g) = Option.bind (Option.bind x f) g := by cases x <;> rfl
theorem panelB_set {w h : Int} {b b' : List Int} (hp : panelB ⟨w, h, b⟩ = true) (hl : b'.length = b.length) (hx : ∀ x ∈ b', x ∈ b ∨ 0 ≤ x ∧ x ≤ 2) : panelB ⟨w, h, b'⟩ = true := by
  have hf := (panelB_facts hp).2.2.2.1
  unfold panelB at hp ⊢
  simp only [Bool.and_eq_true, List.all_eq_true, hl] at hp ⊢
  refine ⟨hp.1, hp.2.1, fun x hm => ?_⟩
  rcases hx x hm with h | h
  · exact hp.2.2 x h
  · unfold brkB; simp [h.1, h.2]
/-- One stroke at breaks: the breaks after it, where it can be made. -/
def strokeG (w h s : Int) (b : List Int) (q : List SPoint) : Option (List Int) := if strokeB q = true then (match sh133 ⟨w, h, b⟩ q s with | some (c, b') => if c = 0 then some b' else none | none => none) else none
theorem strokeG_spec (w h s : Int) (b : List Int) (q : List SPoint) (hp : panelB ⟨w, h, b⟩ = true) (hq : q.length ≤ 1048576) (hs : 2 ≤ s ∧ s ≤ 100) :
    (strokeG w h s b q = none ∧ (Option.bind (sh130 q) fun x => bif !x then some (true, b) else Option.bind (sh133 ⟨w, h, b⟩ q s) fun x => some (x.1 != 0, x.2)) = some (true, b) ∧ ∃ r, sh40 ⟨w, h, b⟩ q s = some r ∧ r.2 ≠ 0) ∨
    ∃ b', strokeG w h s b q = some b' ∧ (Option.bind (sh130 q) fun x => bif !x then some (true, b) else Option.bind (sh133 ⟨w, h, b⟩ q s) fun x => some (x.1 != 0, x.2)) = some (false, b') ∧ sh40 ⟨w, h, b⟩ q s = some (⟨w, h, b'⟩, 0) ∧ panelB ⟨w, h, b'⟩ = true ∧ b'.length = b.length := by
  have hb : b.length ≤ 112 := (panelB_facts hp).2.2.2.2
  have e1 : sh123 s = some true := by
    show some (scaleB s) = _
    unfold scaleB; simp [hs.1, hs.2]
  rw [l19Ok_eq q (by omega)]
  unfold sh40 strokeG
  rw [validPanel_eq _ (by show b.length ≤ _; omega), validStroke_eq q (by omega), hp, e1]
  cases hst : strokeB q
  · left
    exact ⟨rfl, rfl, _, rfl, by decide⟩
  · simp only [bindS, Bool.not_true, cond_false, if_true]
    rcases stroke_once ⟨w, h, b⟩ q s hp (by show b.length ≤ _; omega) hst hs with ⟨c, hc, h1, h2⟩ | ⟨b', hl, hx, h1, h2⟩
    · left
      have hc' : (c != 0) = true := by simpa using hc
      rw [h1, h2]
      simp only [bindS, if_neg hc, hc']
      exact ⟨trivial, trivial, _, rfl, hc⟩
    · right
      rw [h1, h2]
      exact ⟨b', rfl, rfl, rfl, panelB_set hp hl hx, hl⟩
def strokesG (w h s : Int) (z : Int × List Int × List Int) (q : List SPoint) : Int × List Int × List Int := match strokeG w h s z.2.1 q with
  | some b' => (z.1 + 1, b', z.2.2)
  | none => (z.1 + 1, z.2.1, z.2.2 ++ [z.1])
theorem strokes_step (p : SPanel) (q : List (List SPoint)) (s : Int) (hq : q.length ≤ 1048576) (hr : ∀ r ∈ q, r.length ≤ 1048576) (hs : 2 ≤ s ∧ s ≤ 100) : ∀ (k : Nat) (hk : k < q.length) (z : Int × List Int × List Int), (z.1 = k ∧ panelB ⟨p.W, p.H, z.2.1⟩ = true ∧ z.2.2.length ≤ k) →
          sh44_1 q s p ((k : Int), z.2.1, z.2.2) = some (.inl (((k + 1 : Nat) : Int), (strokesG p.W p.H s z q[k]).2.1, (strokesG p.W p.H s z q[k]).2.2)) ∧
          sh43_1 q s ((k : Int), (p.W, p.H), z.2.1, z.2.2) = some (.inl (((k + 1 : Nat) : Int), (p.W, p.H), (strokesG p.W p.H s z q[k]).2.1, (strokesG p.W p.H s z q[k]).2.2)) ∧
          ((strokesG p.W p.H s z q[k]).1 = ((k + 1 : Nat) : Int) ∧ panelB ⟨p.W, p.H, (strokesG p.W p.H s z q[k]).2.1⟩ = true ∧ (strokesG p.W p.H s z q[k]).2.2.length ≤ k + 1) := by
  intro k hk ⟨z1, zb, zl⟩ ⟨h1, h2, h3⟩
  simp only at h1 h2 h3
  subst h1
  have hkd : (k : Int) < q.length := by omega
  have happ2 : appL zl [(k : Int)] = some (zl ++ [(k : Int)]) := appL_ok (by simp; omega)
  simp only [sh44_1, sh43_1, hkd, decide_true, cond_true, getI_lt hk, bindS]
  have hw : w64 ((k : Int) + 1) = ((k + 1 : Nat) : Int) := w64_id (by omega) (by omega)
  unfold strokesG
  rcases strokeG_spec p.W p.H s zb q[k] h2 (hr _ (List.getElem_mem hk)) hs with ⟨g1, g2, r, g3, g4⟩ | ⟨b', g1, g2, g3, g4, g5⟩
  · have hc' : (r.2 != 0) = true := by simpa using g4
    simp only [g1]
    refine ⟨?_, ?_, ⟨by omega, h2, by simp; omega⟩⟩
    · rw [bind_bind, g2, bindS]
      simp only [happ2, cond_true, bindS, hw]
    · rw [g3, bindS, hc', cond_true, happ2, bindS, hw]
  · simp only [g1]
    refine ⟨?_, ?_, ⟨by omega, g4, by omega⟩⟩
    · rw [bind_bind, g2, bindS]
      simp only [cond_false, bindS, hw]
    · rw [g3, bindS, bne_self_eq_false, cond_false, hw]
set_option maxHeartbeats 1000000 in
theorem strokes_loops (p : SPanel) (q : List (List SPoint)) (s : Int) (hp : panelB p = true) (hq : q.length ≤ 1048576) (hr : ∀ r ∈ q, r.length ≤ 1048576) (hs : 2 ≤ s ∧ s ≤ 100) : ∃ b l, iter (sh44_1 q s p) (0, p.Breaks, []) = some (b, l) ∧ iter (sh43_1 q s) (0, (p.W, p.H), p.Breaks, []) = some ((p.W, p.H), b, l) ∧ b.length ≤ 112 ∧ l.length ≤ q.length := by
  have hI0 : ((0 : Int) = ((0 : Nat) : Int) ∧ panelB ⟨p.W, p.H, p.Breaks⟩ = true ∧ ([] : List Int).length ≤ 0) := ⟨rfl, hp, by simp⟩
  have hstep := strokes_step p q s hq hr hs
  have i1 := iter_fold (sb := sh44_1 q s p) q (fun k (z : Int × List Int × List Int) => ((k : Int), z.2.1, z.2.2)) (strokesG p.W p.H s) (fun z => (z.2.1, z.2.2)) (fun k z => z.1 = k ∧ panelB ⟨p.W, p.H, z.2.1⟩ = true ∧ z.2.2.length ≤ k) (0, p.Breaks, []) hI0 (by omega)
    (fun k hk z hz => ⟨(hstep k hk z hz).1, (hstep k hk z hz).2.2⟩) (fun z hz => by
      have hd : decide ((q.length : Int) < (q.length : Int)) = false := by simp
      simp only [sh44_1, hd, cond_false])
  have i2 := iter_fold (sb := sh43_1 q s) q (fun k (z : Int × List Int × List Int) => ((k : Int), (p.W, p.H), z.2.1, z.2.2)) (strokesG p.W p.H s) (fun z => ((p.W, p.H), z.2.1, z.2.2)) (fun k z => z.1 = k ∧ panelB ⟨p.W, p.H, z.2.1⟩ = true ∧ z.2.2.length ≤ k) (0, p.Breaks, []) hI0 (by omega)
    (fun k hk z hz => ⟨(hstep k hk z hz).2.1, (hstep k hk z hz).2.2⟩) (fun z hz => by
      have hd : decide ((q.length : Int) < (q.length : Int)) = false := by simp
      simp only [sh43_1, hd, cond_false])
  have hbl : (q.foldl (strokesG p.W p.H s) (0, p.Breaks, [])).2.1.length ≤ 112 := (panelB_facts i1.2.2.1).2.2.2.2
  have e1 := i1.1
  have e2 := i2.1
  have e3 := i1.2.2.2
  clear i1 i2 hstep
  generalize q.foldl (strokesG p.W p.H s) (0, p.Breaks, []) = z at e1 e2 e3 hbl
  exact ⟨_, _, e1, e2, hbl, e3⟩
theorem applyStrokes_total (p : SPanel) (q : List (List SPoint)) (s : Int) (hb : p.Breaks.length ≤ 1048576) (hq : q.length ≤ 1048576) (hr : ∀ r ∈ q, r.length ≤ 1048576) :
    ∃ r, sh44 p q s = some r ∧ sh43 p q s = some r ∧ r.1.Breaks.length ≤ 1048576 ∧ r.2.1.length ≤ 1048576 := by
  unfold sh44 sh43 sh131
  rw [validPanel_eq p hb, l02Ok_eq p hb]
  have e1 : sh126 s = some (scaleB s) := rfl
  have e2 : sh123 s = some (scaleB s) := rfl
  rw [e1, e2]
  have happ : appL ([] : List Int) p.Breaks = some p.Breaks := by rw [appL_ok (by simp only [List.length_nil]; omega)]; rfl
  have how : sh132 p = some p := by unfold sh132 sh195; rw [happ]; rfl
  have hcl : sh134 p = some p := by unfold sh134 sh198; rw [happ]; rfl
  rw [how, hcl]
  cases hp : panelB p
  · exact ⟨_, rfl, rfl, by simp, by simp⟩
  · cases hsc : scaleB s
    · exact ⟨_, rfl, rfl, by simp, by simp⟩
    · have hs : 2 ≤ s ∧ s ≤ 100 := by unfold scaleB at hsc; simpa using hsc
      simp only [bindS, Bool.not_true, cond_false, bne_self_eq_false]
      obtain ⟨b, l, e3, e4, h5, h6⟩ := strokes_loops p q s hp hq hr hs
      rw [e3, e4]
      exact ⟨_, rfl, rfl, by simp only; omega, by simp only; omega⟩

/-! strokefor -/
theorem strokeFor_total (p : SPanel) (a : SPoint) (k s : Int) (h : p.Breaks.length ≤ 1048576) : ∃ r, sh38 p a k s = some r ∧ sh37 p a k s = some r ∧ r.1.length ≤ 2 := by
  unfold sh38 sh37
  rw [l02Code_eq p a h, innerCode_eq p a h]
  simp only [bindS, sh125, sh126, sh122, sh123, sh100, sh107]
  rcases codeOf_cases p a with hc | hc | hc | hc <;> rw [hc] <;> cases (decide (0 ≤ k) && decide (k ≤ 2)) <;> cases (decide (2 ≤ s) && decide (s ≤ 100)) <;> cases (k == 1) <;> cases (k == 2) <;> exact ⟨_, rfl, rfl, by simp⟩

/-! src -/
/-- Bytes from which is drawn. -/
def srcB (c : List Int) : Prop := ∀ x ∈ c, 0 ≤ x ∧ x ≤ 255
theorem okI_u8 {x : Int} (h : okI .u8 x) : 0 ≤ x ∧ x ≤ 255 := by
  unfold okI Lit.wf at h
  simp only [Bool.and_eq_true, decide_eq_true_eq] at h
  have h1 : IntKind.u8.min = 0 := by decide
  have h2 : IntKind.u8.max = 255 := by decide
  rw [h1, h2] at h
  exact h
theorem srcB_of {c : List Int} (h : ∀ y ∈ c, okI .u8 y) : srcB c := fun x hx => okI_u8 (h x hx)
theorem andI_255 (a : Int) : 0 ≤ andI .u64 a 255 ∧ andI .u64 a 255 ≤ 255 := by
  unfold andI
  have hle : (BitVec.ofInt IntKind.u64.bits a &&& BitVec.ofInt IntKind.u64.bits 255).toNat ≤ 255 := by
    rw [BitVec.toNat_and]
    refine Nat.le_trans Nat.and_le_right ?_
    decide
  rw [IntKind.wrap_u64]
  omega
theorem next_ok (q : Sl00Src) (hc : srcB q.code) (h0 : 0 ≤ q.at_) (h1 : q.at_ ≤ 4611686018427387904) :
    ∃ r, sh173 q = some r ∧ (0 ≤ r.1 ∧ r.1 ≤ 255) ∧ 0 ≤ r.2.1 ∧ r.2.1 ≤ q.at_ + 1 := by
  unfold sh173
  have hw : w64 (q.at_ + 1) = q.at_ + 1 := w64_id (by omega) (by omega)
  have hfin : ∀ b : Int, 0 ≤ b ∧ b ≤ 255 → ∀ s t : Int, ∃ r, (bif decide (w64 (q.at_ + 1) ≤ (q.code.length : Int)) then some (b, w64 (q.at_ + 1), s) else some (w64 (andI .u64 t 255), w64 (q.at_ + 1), s)) = some r ∧ (0 ≤ r.1 ∧ r.1 ≤ 255) ∧ 0 ≤ r.2.1 ∧ r.2.1 ≤ q.at_ + 1 := by
    intro b hb s t
    have ha := andI_255 t
    have hwa : w64 (andI .u64 t 255) = andI .u64 t 255 := w64_id (by omega) (by omega)
    rw [hw, hwa]
    cases decide (q.at_ + 1 ≤ (q.code.length : Int))
    · exact ⟨_, rfl, ha, by simp only; omega, by simp only; omega⟩
    · exact ⟨_, rfl, hb, by simp only; omega, by simp only; omega⟩
  by_cases hl : q.at_ < (q.code.length : Int)
  · have hn : q.at_.toNat < q.code.length := by omega
    have hb := hc _ (List.getElem_mem hn)
    rw [decide_eq_true hl, cond_true, getI_toNat h0 hn, bindS, w64_id (by omega) (by omega), bindS]
    exact hfin _ hb _ _
  · rw [decide_eq_false hl, cond_false, bindS]
    exact hfin 0 (by omega) _ _
theorem pick_ok (q : Sl00Src) (n : Int) (hc : srcB q.code) (h0 : 0 ≤ q.at_) (h1 : q.at_ ≤ 2305843009213693952) :
    ∃ r, sh92 q n = some r ∧ (0 ≤ r.1 ∧ (r.1 < n ∨ r.1 = 0)) ∧ 0 ≤ r.2.1 ∧ r.2.1 ≤ q.at_ + 2 := by
  unfold sh92
  by_cases hn : n ≤ 1
  · rw [decide_eq_true hn, cond_true]
    exact ⟨_, rfl, by simp, h0, by simp only; omega⟩
  · rw [decide_eq_false hn, cond_false]
    obtain ⟨x, e, b, a0, a1⟩ := next_ok q hc h0 (by omega)
    rw [e, bindS]
    have hmod : ∀ z : Int, 0 ≤ z → 0 ≤ z.tmod n ∧ z.tmod n < n := fun z hz => by
      rw [Int.tmod_eq_emod_of_nonneg hz]
      exact ⟨Int.emod_nonneg _ (by omega), Int.emod_lt_of_pos _ (by omega)⟩
    by_cases hb : 200 < n
    · obtain ⟨y, e2, b2, c0, c1⟩ := next_ok ⟨q.code, x.2.1, x.2.2⟩ hc a0 (by simp only; omega)
      rw [decide_eq_true hb, cond_true, e2, bindS, bindS, nzI_ok (by omega), bindS]
      simp only at c1
      rw [w64_id (x := x.1 * 256) (by omega) (by omega), w64_id (by omega) (by omega)]
      have := hmod (x.1 * 256 + y.1) (by omega)
      exact ⟨_, rfl, ⟨this.1, .inl this.2⟩, c0, by simp only; omega⟩
    · rw [decide_eq_false hb, cond_false, bindS, nzI_ok (by omega), bindS]
      have := hmod x.1 b.1
      exact ⟨_, rfl, ⟨this.1, .inl this.2⟩, a0, by simp only; omega⟩
theorem one_ok (q : Sl00Src) (n : Int) (hc : srcB q.code) (h0 : 0 ≤ q.at_) (h1 : q.at_ ≤ 2305843009213693952) :
    ∃ r, sh93 q n = some r ∧ 0 ≤ r.2.1 ∧ r.2.1 ≤ q.at_ + 2 := by
  unfold sh93
  obtain ⟨x, e, _, a0, a1⟩ := pick_ok q n hc h0 h1
  rw [e, bindS]
  exact ⟨_, rfl, a0, a1⟩
theorem among_ok (q : Sl00Src) (l : List Int) (hc : srcB q.code) (h0 : 0 ≤ q.at_) (h1 : q.at_ ≤ 2305843009213693952) (hl : 0 < l.length) :
    ∃ r, sh94 q l = some r ∧ r.1 ∈ l ∧ 0 ≤ r.2.1 ∧ r.2.1 ≤ q.at_ + 2 := by
  unfold sh94
  obtain ⟨x, e, b, a0, a1⟩ := pick_ok q l.length hc h0 h1
  have hx : x.1.toNat < l.length := by omega
  rw [e, bindS, getI_toNat b.1 hx, bindS]
  exact ⟨_, rfl, List.getElem_mem hx, a0, a1⟩
theorem f6big_eq (c : List Int) (h : c.length ≤ 9223372036854775807) : sh9 c = some (decide (4096 < c.length)) := by
  unfold sh9
  congr 1
  simp only [decide_eq_decide]; omega

/-! drawpoint -/
theorem l02Point_tot {p : SPanel} (hd : Dim p) (k : Int) : ∃ r, sh185 p k = some r := by
  have h1 := hd.h1; have h2 := hd.h2
  unfold sh185
  obtain ⟨y, hy, hy1, hy2⟩ := iter_inv (sb := sh185_1 p k) (s0 := 1) (fun y => 1 ≤ y ∧ y ≤ 16) (fun y => (16 - y).toNat) (fun y => 1 ≤ y ∧ y ≤ 16) (by omega) (by decide) (by
    intro y ⟨i1, i2⟩
    have hw : w64 (y + 1) = y + 1 := w64_id (by omega) (by omega)
    have hw2 : w64 (2 * p.H) = 2 * p.H := w64_id (by omega) (by omega)
    simp only [sh185_1, hw, hw2]
    by_cases hc : y + 1 < 2 * p.H
    · rw [decide_eq_true hc, cond_true, row_spec hd (by omega) (by omega), bindS, bindS]
      cases decide ((y + 1 - 1) * p.W - (y + 1) / 2 ≤ k)
      · right
        exact ⟨_, rfl, i1, i2⟩
      · left
        exact ⟨_, rfl, ⟨by omega, by omega⟩, by omega⟩
    · right
      rw [decide_eq_false hc, cond_false, bindS, cond_false]
      exact ⟨_, rfl, i1, i2⟩)
  rw [hy, bindS, row_spec hd hy1 hy2, bindS]
  exact ⟨_, rfl⟩
theorem drawPoint_ok (q : Sl00Src) (p : SPanel) (hb : p.Breaks.length ≤ 1048576) (hc : srcB q.code) (h0 : 0 ≤ q.at_) (h1 : q.at_ ≤ 549755813888) : ∃ r, sh119 q p = some r ∧ 0 ≤ r.2.1 ∧ r.2.1 ≤ q.at_ + 12 := by
  unfold sh119
  rw [l02Ok_eq p hb, bindS]
  have hj : ∃ j : Bool × Int × Int, (bif panelB p && (decide (0 < (p.Breaks.length : Int))) then (Option.bind (sh93 q 2) fun x16 => some (x16.1, (x16.2.1, x16.2.2))) else (some (false, (q.at_, q.seed)))) = some j ∧ (j.1 = true → panelB p = true) ∧ 0 ≤ j.2.1 ∧ j.2.1 ≤ q.at_ + 2 := by
    obtain ⟨x, e, a, c⟩ := one_ok q 2 hc h0 (by omega)
    rw [e]
    cases hp : panelB p
    · exact ⟨_, rfl, (fun h => by cases h), h0, by simp only; omega⟩
    · cases decide (0 < (p.Breaks.length : Int))
      · exact ⟨_, rfl, (fun h => by cases h), h0, by simp only; omega⟩
      · exact ⟨_, rfl, (fun _ => rfl), a, by simp only; omega⟩
  obtain ⟨j, hj, hj1, hj2, hj3⟩ := hj
  rw [hj, bindS]
  cases hj0 : j.1
  · rw [cond_false]
    obtain ⟨x, e, b, a, c⟩ := pick_ok ⟨q.code, j.2.1, j.2.2⟩ 12 hc hj2 (by simp only; omega)
    simp only at c
    obtain ⟨y, e2, b2, a2, c2⟩ := pick_ok ⟨q.code, x.2.1, x.2.2⟩ 12 hc a (by simp only; omega)
    simp only at c2
    obtain ⟨z, e3, a3, c3⟩ := one_ok ⟨q.code, y.2.1, y.2.2⟩ 20 hc a2 (by simp only; omega)
    simp only at c3
    obtain ⟨u, e4, _, a4, c4⟩ := among_ok ⟨q.code, z.2.1, z.2.2⟩ [(-9223372036854775808), 9223372036854775807] hc a3 (by simp only; omega) (by simp)
    simp only at c4
    rw [e, bindS, e2, bindS, e3, bindS, e4]
    cases z.1
    · exact ⟨_, rfl, a3, by simp only; omega⟩
    · exact ⟨_, rfl, a4, by simp only; omega⟩
  · rw [cond_true]
    obtain ⟨x, e, b, a, c⟩ := pick_ok ⟨q.code, j.2.1, j.2.2⟩ (p.Breaks.length : Int) hc hj2 (by simp only; omega)
    simp only at c
    obtain ⟨r, hr⟩ := l02Point_tot (dim_of (hj1 hj0)) x.1
    rw [e, bindS, hr, bindS]
    exact ⟨_, rfl, a, by simp only; omega⟩
theorem samePanel_refl (p : SPanel) (h : p.Breaks.length ≤ 1048576) : sh45 p p = some true := by
  unfold sh45 sh135 sh199
  rw [bne_self_eq_false, cond_false, iter_all (xs := p.Breaks) (p := fun _ => true) (r := false) (by omega) (fun k hk => ?_) (by simp [sh199_1])]
  · simp [elimS, bindS]
  · have h2 : (k : Int) < p.Breaks.length := by omega
    simp only [sh199_1, h2, decide_true, cond_true, getI_lt hk, bindS, bne_self_eq_false, cond_false, if_true]
    rw [w64_id (by omega) (by omega)]

/-! drawscale -/
theorem scale_ok (q : Sl00Src) (hc : srcB q.code) (h0 : 0 ≤ q.at_) (h1 : q.at_ ≤ 549755813888) : ∃ r, sh120 q = some r ∧ 0 ≤ r.2.1 ∧ r.2.1 ≤ q.at_ + 4 := by
  unfold sh120
  obtain ⟨x, e, a, c⟩ := one_ok q 10 hc h0 (by omega)
  rw [e, bindS]
  cases x.1
  · obtain ⟨y, g, n1, m, n⟩ := pick_ok ⟨q.code, x.2.1, x.2.2⟩ 16 hc a (by simp only; omega)
    simp only at n
    simp only [cond_false, g, bindS]
    exact ⟨_, rfl, m, by simp only; omega⟩
  · obtain ⟨y, g, n1, m, n⟩ := among_ok ⟨q.code, x.2.1, x.2.2⟩ [1, 2, 100, 101] hc a (by simp only; omega) (by simp)
    simp only at n
    simp only [cond_true, g, bindS]
    exact ⟨_, rfl, m, by simp only; omega⟩

/-! decimal -/
theorem u64_id {x : Int} (h1 : 0 ≤ x) (h2 : x < 18446744073709551616) : IntKind.u64.wrap x = x := by
  unfold IntKind.wrap
  have hs : IntKind.u64.signed = false := rfl
  have hb : IntKind.u64.bits = 64 := rfl
  simp only [hs, hb, Bool.false_and]
  show x % 2 ^ 64 = x
  omega
theorem u64_neg {x : Int} (h1 : -9223372036854775808 ≤ x) (h2 : x < 0) : IntKind.u64.wrap (0 - IntKind.u64.wrap x) = -x := by
  unfold IntKind.wrap
  have hs : IntKind.u64.signed = false := rfl
  have hb : IntKind.u64.bits = 64 := rfl
  simp only [hs, hb, Bool.false_and]
  show (0 - x % 2 ^ 64) % 2 ^ 64 = -x
  omega
theorem u8_id {x : Int} (h1 : 0 ≤ x) (h2 : x < 256) : IntKind.u8.wrap x = x := by
  unfold IntKind.wrap
  have hs : IntKind.u8.signed = false := rfl
  have hb : IntKind.u8.bits = 8 := rfl
  simp only [hs, hb, Bool.false_and]
  show x % 2 ^ 8 = x
  omega

/-- The digits of a number, the first one first. -/
def digs (n : Nat) : List Int := if h : n = 0 then [] else digs (n / 10) ++ [48 + ((n % 10 : Nat) : Int)]
decreasing_by omega
theorem digs_zero : digs 0 = [] := by unfold digs; simp
theorem digs_pos {n : Nat} (h : 0 < n) : digs n = digs (n / 10) ++ [48 + ((n % 10 : Nat) : Int)] := by
  rw [digs]; simp [show n ≠ 0 by omega]
theorem digs_len : ∀ (k n : Nat), n < 10 ^ k → (digs n).length ≤ k
  | 0, n, h => by
    have : n = 0 := by simpa using h
    subst this; simp [digs_zero]
  | k + 1, n, h => by
    by_cases h0 : n = 0
    · subst h0; simp [digs_zero]
    · rw [digs_pos (by omega), List.length_append]
      have := digs_len k (n / 10) (by rw [Nat.pow_succ] at h; omega)
      simp; omega
theorem digs_byte (n : Nat) : ∀ x ∈ digs n, 48 ≤ x ∧ x ≤ 57 := by
  induction n using Nat.strongRecOn with
  | ind n ih =>
    intro x hx
    by_cases h0 : n = 0
    · subst h0; rw [digs_zero] at hx; simp at hx
    · rw [digs_pos (by omega)] at hx
      rcases List.mem_append.1 hx with h | h
      · exact ih (n / 10) (by omega) x h
      · simp at h; omega
theorem digs_ne {n : Nat} (h : 0 < n) : digs n ≠ [] := by rw [digs_pos h]; simp

/-- The bytes of a number in decimal. -/
def decL (n : Int) : List Int := if n = 0 then [48] else (if n < 0 then [45] else []) ++ digs n.natAbs
theorem decL_len {n : Int} (h1 : -9223372036854775808 ≤ n) (h2 : n ≤ 9223372036854775807) : (decL n).length ≤ 20 := by
  unfold decL
  have := digs_len 19 n.natAbs (by omega)
  split
  · simp
  · split <;> simp <;> omega
theorem decL_byte (n : Int) : ∀ x ∈ decL n, 0 ≤ x ∧ x < 256 := by
  intro x hx
  unfold decL at hx
  split at hx
  · simp at hx; omega
  · rcases List.mem_append.1 hx with h | h
    · split at h <;> simp at h; omega
    · have := digs_byte _ x h; omega

/-! bytes as a string -/
theorem bytesS_foldl : ∀ (xs : List Int) (s : ByteArray), xs.foldl (fun r n => r.push (UInt8.ofNat n.toNat)) s = ⟨s.data ++ (xs.map fun n => UInt8.ofNat n.toNat).toArray⟩
  | [], s => by simp
  | n :: ns, s => by
    rw [List.foldl_cons, bytesS_foldl ns]
    simp [ByteArray.push]
theorem bytesS_data (xs : List Int) : bytesS xs = ⟨(xs.map fun n => UInt8.ofNat n.toNat).toArray⟩ := by
  unfold bytesS
  rw [bytesS_foldl]
  congr 1
  apply Array.ext'
  simp [ByteArray.empty, ByteArray.emptyWithCapacity]
  rfl
theorem bytesS_size (xs : List Int) : (bytesS xs).size = xs.length := by
  rw [bytesS_data]
  show (List.toArray _).size = _
  simp
theorem bytesS_append (xs ys : List Int) : bytesS xs ++ bytesS ys = bytesS (xs ++ ys) := by
  apply ByteArray.ext
  rw [ByteArray.data_append, bytesS_data, bytesS_data, bytesS_data]
  apply Array.ext'
  simp
theorem strI_bytesS {xs : List Int} (h : ∀ x ∈ xs, 0 ≤ x ∧ x < 256) : strI (bytesS xs) = xs := by
  rw [bytesS_data, strI]
  simp only [List.map_map]
  conv => rhs; rw [← List.map_id xs]
  refine List.map_congr_left fun x hx => ?_
  obtain ⟨h1, h2⟩ := h x hx
  show ((UInt8.ofNat x.toNat).toNat : Int) = x
  rw [UInt8.toNat_ofNat']
  omega
theorem catS_ok {xs ys : List Int} (h : xs.length + ys.length ≤ 1099511627776) : catS (bytesS xs) (bytesS ys) = some (bytesS (xs ++ ys)) := by
  have : LIM = 1099511627776 := rfl
  unfold catS
  rw [bytesS_size, bytesS_size, if_pos (by omega), bytesS_append]
theorem lit_nil : (ByteArray.mk #[] : ByteArray) = bytesS [] := rfl
theorem lit_minus : (ByteArray.mk #[45] : ByteArray) = bytesS [45] := rfl
theorem lit_zero : (ByteArray.mk #[48] : ByteArray) = bytesS [48] := rfl
theorem lit_blank : (ByteArray.mk #[32] : ByteArray) = bytesS [32] := rfl

theorem tmod_abs (n : Int) : (if n.tmod 10 < 0 then 0 - n.tmod 10 else n.tmod 10) = ((n.natAbs % 10 : Nat) : Int) := by
  by_cases h : 0 ≤ n
  · rw [Int.tmod_eq_emod_of_nonneg h]; split <;> omega
  · have := Int.neg_tmod (-n) 10
    rw [Int.neg_neg] at this
    rw [this, Int.tmod_eq_emod_of_nonneg (by omega)]
    split <;> omega
theorem tdiv_abs (n : Int) : (n.tdiv 10).natAbs = n.natAbs / 10 := by
  rw [Int.natAbs_tdiv]; rfl


/-! strs -/
def isByte (x : Int) : Prop := 0 ≤ x ∧ x < 256
theorem strI_byte (s : ByteArray) : ∀ x ∈ strI s, isByte x := by
  intro x hx
  unfold strI at hx
  obtain ⟨b, _, rfl⟩ := List.mem_map.1 hx
  have := UInt8.toNat_lt b
  unfold isByte
  omega
theorem bytesS_strI (s : ByteArray) : bytesS (strI s) = s := by
  rw [bytesS_data, strI, List.map_map]
  apply ByteArray.ext
  apply Array.ext'
  simp only [List.map_map]
  conv => rhs; rw [← List.map_id s.data.toList]
  refine List.map_congr_left fun b _ => ?_
  show UInt8.ofNat ((b.toNat : Int)).toNat = b
  rw [Int.toNat_natCast]
  exact UInt8.ofNat_toNat
theorem strI_inj {a b : ByteArray} (h : strI a = strI b) : a = b := by rw [← bytesS_strI a, h, bytesS_strI]
theorem bytesS_inj {A B : List Int} (hA : ∀ x ∈ A, isByte x) (hB : ∀ x ∈ B, isByte x) (h : bytesS A = bytesS B) : A = B := by
  rw [← strI_bytesS hA, h, strI_bytesS hB]
theorem toList_loop (s : ByteArray) : ∀ (k i : Nat) (r : List UInt8), s.size - i = k → ByteArray.toList.loop s i r = r.reverse ++ s.data.toList.drop i
  | 0, i, r, h => by
    rw [ByteArray.toList.loop, if_neg (by omega), List.drop_of_length_le (by show s.data.size ≤ i; have : s.data.size = s.size := rfl; omega), List.append_nil]
  | k + 1, i, r, h => by
    have hi : i < s.size := by omega
    have hi2 : i < s.data.toList.length := hi
    rw [ByteArray.toList.loop, if_pos hi, toList_loop s k (i + 1) _ (by omega), List.drop_eq_getElem_cons hi2, List.reverse_cons, List.append_assoc]
    have : s.get! i = s.data.toList[i] := by
      show s.data[i]! = _
      rw [getElem!_pos s.data i hi]
      simp
    rw [this]
    rfl
theorem toList_data (s : ByteArray) : s.toList = s.data.toList := by
  unfold ByteArray.toList
  rw [toList_loop s s.size 0 [] (by omega)]
  simp
theorem toList_inj {a b : ByteArray} (h : a.toList = b.toList) : a = b := by
  rw [toList_data, toList_data] at h
  exact ByteArray.ext (Array.toList_inj.1 h)
theorem eqS {A B : List Int} (hA : ∀ x ∈ A, isByte x) (hB : ∀ x ∈ B, isByte x) : ((bytesS A).toList == (bytesS B).toList) = decide (A = B) := by
  by_cases h : A = B
  · subst h; simp
  · have : (bytesS A).toList ≠ (bytesS B).toList := fun he => h (bytesS_inj hA hB (toList_inj he))
    simp [h, this]
theorem getS_strI (s : ByteArray) (k : Nat) : getS s (k : Int) = (strI s)[k]? := by
  unfold getS strI
  rw [if_pos (by omega), Int.toNat_natCast, List.getElem?_map]
  congr 1
  by_cases h : k < s.size
  · rw [getElem?_pos s k h, List.getElem?_eq_getElem (show k < s.data.toList.length from h)]
    rfl
  · rw [getElem?_neg s k h, List.getElem?_eq_none (show s.data.toList.length ≤ k from Nat.le_of_not_lt h)]
theorem getS_ok {L : List Int} (hb : ∀ x ∈ L, isByte x) {k : Nat} (h : k < L.length) : getS (bytesS L) (k : Int) = some L[k] := by
  rw [getS_strI, strI_bytesS hb, List.getElem?_eq_getElem h]
theorem subS_ok {L : List Int} (hb : ∀ x ∈ L, isByte x) {i j : Nat} (hij : i ≤ j) (h : j ≤ L.length) : subS (bytesS L) (i : Int) (j : Int) = some (bytesS ((L.drop i).take (j - i))) := by
  unfold subS
  rw [if_pos (by rw [bytesS_size]; omega), Int.toNat_natCast, Int.toNat_natCast]
  congr 1
  apply strI_inj
  rw [strI_bytesS (fun x hx => hb x (List.mem_of_mem_drop (List.mem_of_mem_take hx)))]
  unfold strI
  rw [ByteArray.data_extract, Array.toList_extract, List.extract_eq_take_drop, List.map_take, List.map_drop]
  have := strI_bytesS hb
  unfold strI at this
  rw [this]
theorem mem_drop_take {L : List Int} (hb : ∀ x ∈ L, isByte x) (i j : Nat) : ∀ x ∈ (L.drop i).take j, isByte x := fun x hx => hb x (List.mem_of_mem_drop (List.mem_of_mem_take hx))

/-! parts of a text -/
def consHead (x : Int) : List (List Int) → List (List Int)
  | [] => [[x]]
  | h :: t => (x :: h) :: t
def splitL (b : Int) : List Int → List (List Int)
  | [] => [[]]
  | x :: xs => if x = b then [] :: splitL b xs else consHead x (splitL b xs)
theorem splitL_ne (b : Int) (L : List Int) : splitL b L ≠ [] := by
  cases L with
  | nil => simp [splitL]
  | cons x xs =>
    unfold splitL
    split
    · simp
    · cases splitL b xs <;> simp [consHead]
theorem splitL_none {b : Int} : ∀ {a : List Int}, b ∉ a → splitL b a = [a]
  | [], _ => rfl
  | x :: xs, h => by
    have h1 : x ≠ b := fun e => h (by simp [e])
    have h2 : b ∉ xs := fun e => h (by simp [e])
    rw [splitL, if_neg h1, splitL_none h2]
    rfl
theorem splitL_app {b : Int} : ∀ {a : List Int} (c : List Int), b ∉ a → splitL b (a ++ b :: c) = a :: splitL b c
  | [], c, _ => by simp [splitL]
  | x :: xs, c, h => by
    have h1 : x ≠ b := fun e => h (by simp [e])
    have h2 : b ∉ xs := fun e => h (by simp [e])
    rw [List.cons_append, splitL, if_neg h1, splitL_app c h2]
    rfl
theorem splitL_mem {b : Int} {p : Int → Prop} : ∀ {L : List Int}, (∀ x ∈ L, p x) → ∀ w ∈ splitL b L, ∀ x ∈ w, p x
  | [], _, w, hw, x, hx => by simp [splitL] at hw; subst hw; cases hx
  | y :: ys, h, w, hw, x, hx => by
    have ih := splitL_mem (b := b) (fun z hz => h z (List.mem_cons_of_mem _ hz)) (L := ys)
    rw [splitL] at hw
    split at hw
    · rcases List.mem_cons.1 hw with rfl | hw
      · cases hx
      · exact ih w hw x hx
    · cases hs : splitL b ys with
      | nil => exact absurd hs (splitL_ne b ys)
      | cons u t =>
        rw [hs, consHead] at hw
        rw [hs] at ih
        rcases List.mem_cons.1 hw with rfl | hw
        · rcases List.mem_cons.1 hx with rfl | hx
          · exact h _ (List.mem_cons_self ..)
          · exact ih u (List.mem_cons_self ..) x hx
        · exact ih w (List.mem_cons_of_mem _ hw) x hx
theorem splitL_bound {b : Int} : ∀ (L : List Int), (splitL b L).length ≤ L.length + 1 ∧ ∀ w ∈ splitL b L, w.length ≤ L.length
  | [] => by simp [splitL]
  | y :: ys => by
    obtain ⟨h1, h2⟩ := splitL_bound (b := b) ys
    rw [splitL]
    split
    · refine ⟨by simp only [List.length_cons]; omega, fun w hw => ?_⟩
      rcases List.mem_cons.1 hw with rfl | hw
      · simp
      · have := h2 w hw; simp only [List.length_cons]; omega
    · cases hs : splitL b ys with
      | nil => exact absurd hs (splitL_ne b ys)
      | cons u t =>
        rw [hs] at h1 h2
        refine ⟨by simp only [consHead, List.length_cons] at h1 ⊢; omega, fun w hw => ?_⟩
        rw [consHead] at hw
        rcases List.mem_cons.1 hw with rfl | hw
        · have := h2 u (List.mem_cons_self ..); simp only [List.length_cons]; omega
        · have := h2 w (List.mem_cons_of_mem _ hw); simp only [List.length_cons]; omega
theorem drop_split {L : List Int} {f i : Nat} (hf : f ≤ i) (hi : i < L.length) : L.drop f = (L.drop f).take (i - f) ++ L[i] :: L.drop (i + 1) := by
  conv => lhs; rw [← List.take_append_drop (i - f) (L.drop f)]
  rw [List.drop_drop, show f + (i - f) = i by omega, List.drop_eq_getElem_cons hi]
theorem take_snoc {L : List Int} {f i : Nat} (hf : f ≤ i) (hi : i < L.length) : (L.drop f).take (i + 1 - f) = (L.drop f).take (i - f) ++ [L[i]] := by
  rw [show i + 1 - f = (i - f) + 1 by omega, List.take_succ_eq_append_getElem (by rw [List.length_drop]; omega), List.getElem_drop]
  congr 2
  simp only [show f + (i - f) = i by omega]


/-! draw19 -/
def i64R (x : Int) : Prop := -9223372036854775808 ≤ x ∧ x ≤ 9223372036854775807
def ptR (p : SPoint) : Prop := i64R p.X ∧ i64R p.Y
theorem i64R_w64 (x : Int) : i64R (w64 x) := ⟨w64_lo x, w64_hi x⟩
theorem i64R_mx {a b : Int} (ha : i64R a) (hb : i64R b) : i64R (mx a b) := by
  unfold mx
  split
  · exact hb
  · exact ha
theorem i64R_small {x : Int} (h1 : -1000000 ≤ x) (h2 : x ≤ 1000000) : i64R x := ⟨by omega, by omega⟩
theorem draw19_ok (q : Sl00Src) (hc : srcB q.code) (h0 : 0 ≤ q.at_) (h1 : q.at_ ≤ 1099511627776) :
    ∃ r, sh169 q = some r ∧ (1 ≤ r.1.length ∧ r.1.length ≤ 8) ∧ (∀ p ∈ r.1, ptR p) ∧ 0 ≤ r.2.1 ∧ r.2.1 ≤ q.at_ + 20 := by
  unfold sh169
  obtain ⟨x1, e1, b1, a1, c1⟩ := pick_ok q 120 hc h0 (by omega)
  rw [e1, bindS]
  obtain ⟨x2, e2, b2, a2, c2⟩ := pick_ok ⟨q.code, x1.2.1, x1.2.2⟩ 120 hc a1 (by simp only; omega)
  rw [e2, bindS]
  simp only at c2
  obtain ⟨x3, e3, b3, a3, c3⟩ := pick_ok ⟨q.code, x2.2.1, x2.2.2⟩ 9 hc a2 (by simp only; omega)
  rw [e3, bindS]
  simp only at c3
  obtain ⟨x4, e4, b4, a4, c4⟩ := pick_ok ⟨q.code, x3.2.1, x3.2.2⟩ 9 hc a3 (by simp only; omega)
  rw [e4, bindS]
  simp only at c4
  obtain ⟨x5, e5, b5, a5, c5⟩ := pick_ok ⟨q.code, x4.2.1, x4.2.2⟩ 3 hc a4 (by simp only; omega)
  rw [e5, bindS]
  simp only at c5
  have hj : ∃ j : Int × Int × (Int × Int), (bif x5.1 == 0 then (Option.bind (sh92 (Sl00Src.mk q.code x5.2.1 x5.2.2) 2) fun x27 => some (x27.1, w64 (x4.1 - 2), (x27.2.1, x27.2.2))) else (Option.bind (bif x5.1 == 1 then (Option.bind (sh92 (Sl00Src.mk q.code x5.2.1 x5.2.2) 2) fun x29 => some (x29.1, (x29.2.1, x29.2.2))) else (some (w64 (x4.1 - 2), (x5.2.1, x5.2.2)))) fun j28 => (some (w64 (x3.1 - 2), j28.1, (j28.2.1, j28.2.2))))) = some j ∧ 0 ≤ j.2.2.1 ∧ j.2.2.1 ≤ q.at_ + 12 := by
    obtain ⟨y, g, _, m, n⟩ := pick_ok ⟨q.code, x5.2.1, x5.2.2⟩ 2 hc a5 (by simp only; omega)
    simp only at n
    rw [g]
    cases x5.1 == 0
    · cases x5.1 == 1
      · exact ⟨_, rfl, a5, by simp only; omega⟩
      · exact ⟨_, rfl, m, by simp only; omega⟩
    · exact ⟨_, rfl, m, by simp only; omega⟩
  obtain ⟨j, hj, hj1, hj2⟩ := hj
  rw [hj, bindS]
  obtain ⟨x9, e9, b9, a9, c9⟩ := pick_ok ⟨q.code, j.2.2.1, j.2.2.2⟩ 8 hc hj1 (by simp only; omega)
  rw [e9, bindS]
  simp only at c9
  rw [w64_id (x := 1 + x9.1) (by omega) (by omega)]
  have hi := iter_inv (sb := sh169_1 j) (s0 := (x1.1, x2.1, 1 + x9.1, [])) (fun s => i64R s.1 ∧ i64R s.2.1 ∧ 0 ≤ s.2.2.1 ∧ s.2.2.1 + (s.2.2.2.length : Int) = 1 + x9.1 ∧ ∀ p ∈ s.2.2.2, ptR p) (fun s => s.2.2.1.toNat)
    (fun l => (l.length : Int) = 1 + x9.1 ∧ ∀ p ∈ l, ptR p) ⟨i64R_small (by simp only; omega) (by simp only; omega), i64R_small (by simp only; omega) (by simp only; omega), by simp only; omega, by simp, by simp⟩ (by simp only; omega) (by
    rintro ⟨x, y, k, l⟩ ⟨i1, i2, i3, i4, i5⟩
    simp only at i1 i2 i3 i4 i5
    by_cases hk : 0 < k
    · left
      simp only [sh169_1, hk, decide_true, cond_true, l00Max_eq, bindS]
      rw [appL_ok (by simp only [List.length_cons, List.length_nil]; omega), bindS, w64_id (x := k - 1) (by omega) (by omega)]
      refine ⟨_, rfl, ⟨i64R_w64 _, i64R_w64 _, by simp only; omega, by simp only [List.length_append, List.length_cons, List.length_nil]; omega, fun p hp => ?_⟩, by simp only; omega⟩
      rcases List.mem_append.1 hp with h | h
      · exact i5 p h
      · simp at h
        subst h
        exact ⟨i64R_mx (i64R_small (by omega) (by omega)) i1, i64R_mx (i64R_small (by omega) (by omega)) i2⟩
    · right
      simp only [sh169_1, hk, decide_false, cond_false]
      exact ⟨_, rfl, by omega, i5⟩)
  obtain ⟨b, hb, d1, d2⟩ := hi
  rw [hb, bindS]
  exact ⟨_, rfl, ⟨by simp only; omega, by simp only; omega⟩, d2, a9, by simp only; omega⟩
theorem ptR_set {l : List SPoint} {k : Nat} {p : SPoint} (hl : ∀ x ∈ l, ptR x) (hp : ptR p) : ∀ x ∈ l.set k p, ptR x := fun x hx => by
  rcases List.mem_or_eq_of_mem_set hx with h | h
  · exact hl x h
  · rw [h]; exact hp
theorem bent19_ok (q : Sl00Src) (hc : srcB q.code) (h0 : 0 ≤ q.at_) (h1 : q.at_ ≤ 549755813888) :
    ∃ r, sh127 q = some r ∧ r.1.length ≤ 61 ∧ (∀ p ∈ r.1, ptR p) ∧ 0 ≤ r.2.1 ∧ r.2.1 ≤ q.at_ + 30 := by
  unfold sh127
  obtain ⟨x1, e1, b1, d1, a1, c1⟩ := draw19_ok q hc h0 (by omega)
  rw [e1, bindS]
  obtain ⟨x5, e5, b5, a5, c5⟩ := pick_ok ⟨q.code, x1.2.1, x1.2.2⟩ 24 hc a1 (by simp only; omega)
  rw [e5, bindS]
  simp only at c5
  have hg : getI x1.1 (0 : Int) = some x1.1[0] := getI_lt (k := 0) (by omega)
  have hp0 := d1 _ (List.getElem_mem (show 0 < x1.1.length by omega))
  cases x5.1 == 0
  · rw [cond_false]
    cases x5.1 == 1
    · rw [cond_false]
      cases x5.1 == 2
      · rw [cond_false]
        cases x5.1 == 3
        · rw [cond_false]
          exact ⟨_, rfl, by simp only; omega, d1, a5, by simp only; omega⟩
        · rw [cond_true]
          obtain ⟨y, g, n1, m, n⟩ := pick_ok ⟨q.code, x5.2.1, x5.2.2⟩ 2 hc a5 (by simp only; omega)
          simp only at n
          have hw : w64 (60 + y.1) = ((60 + y.1.toNat : Nat) : Int) := by rw [w64_id (by omega) (by omega)]; omega
          rw [g, bindS, hw, mkL_ok (by omega), bindS]
          refine ⟨_, rfl, by simp only [List.length_replicate]; omega, fun p hp => ?_, m, by simp only; omega⟩
          rw [List.eq_of_mem_replicate hp]
          exact ⟨i64R_small (by decide) (by decide), i64R_small (by decide) (by decide)⟩
      · rw [cond_true]
        exact ⟨_, rfl, by simp, by simp, a5, by simp only; omega⟩
    · rw [cond_true]
      obtain ⟨y, g, n1, m, n⟩ := among_ok ⟨q.code, x5.2.1, x5.2.2⟩ [(-9223372036854775808), 9223372036854775807] hc a5 (by simp only; omega) (by simp)
      simp only at n
      rw [g, bindS, hg, bindS]
      refine ⟨_, rfl, by simp only [List.length_set]; omega, ptR_set d1 ⟨hp0.1, show i64R y.1 from ?_⟩, m, by simp only; omega⟩
      simp only [List.mem_cons, List.not_mem_nil, or_false] at n1
      unfold i64R
      rcases n1 with h | h <;> rw [h] <;> decide
  · rw [cond_true]
    obtain ⟨y, g, n1, m, n⟩ := among_ok ⟨q.code, x5.2.1, x5.2.2⟩ [(-1), 0, 2000, 2001] hc a5 (by simp only; omega) (by simp)
    simp only at n
    rw [g, bindS, hg, bindS]
    refine ⟨_, rfl, by simp only [List.length_set]; omega, ptR_set d1 ⟨show i64R y.1 from ?_, hp0.2⟩, m, by simp only; omega⟩
    simp only [List.mem_cons, List.not_mem_nil, or_false] at n1
    unfold i64R
    rcases n1 with h | h | h | h <;> rw [h] <;> decide

/-! draw02 -/
theorem l02New_ok (w h : Int) (hw : 1 ≤ w ∧ w ≤ 8) (hh : 1 ≤ h ∧ h ≤ 8) : ∃ r, sh184 w h = some r ∧ r.W = w ∧ r.H = h ∧ (∀ x ∈ r.Breaks, x = 0) ∧ panelB r = true := by
  unfold sh184 sh202
  have hb1 : 0 ≤ w * (h - 1) ∧ w * (h - 1) ≤ 56 := by
    have h1 : 0 ≤ w * (h - 1) := Int.mul_nonneg (by omega) (by omega)
    have h2 : w * (h - 1) ≤ 8 * (h - 1) := Int.mul_le_mul_of_nonneg_right (by omega) (by omega)
    omega
  have hb2 : 0 ≤ h * (w - 1) ∧ h * (w - 1) ≤ 56 := by
    have h1 : 0 ≤ h * (w - 1) := Int.mul_nonneg (by omega) (by omega)
    have h2 : h * (w - 1) ≤ 8 * (w - 1) := Int.mul_le_mul_of_nonneg_right (by omega) (by omega)
    omega
  have e : w64 (w64 (w * w64 (h - 1)) + w64 (h * w64 (w - 1))) = ((w * (h - 1) + h * (w - 1)).toNat : Int) := by
    rw [w64_id (x := h - 1) (by omega) (by omega), w64_id (x := w - 1) (by omega) (by omega), w64_id (x := w * (h - 1)) (by omega) (by omega), w64_id (x := h * (w - 1)) (by omega) (by omega), w64_id (by omega) (by omega)]
    omega
  simp only [bindS]
  rw [e, mkL_ok (by omega), bindS]
  refine ⟨_, rfl, rfl, rfl, fun x hx => List.eq_of_mem_replicate hx, ?_⟩
  unfold panelB
  simp only [List.length_replicate, Bool.and_eq_true, beq_iff_eq, List.all_eq_true]
  refine ⟨⟨?_, ?_⟩, ?_, fun x hx => ?_⟩
  · unfold sideB; simp [hw.1, hw.2]
  · unfold sideB; simp [hh.1, hh.2]
  · unfold innerN; rw [e]
  · rw [List.eq_of_mem_replicate hx]; rfl
theorem panelB_of {w h : Int} {b b' : List Int} (hp : panelB ⟨w, h, b⟩ = true) (hl : b'.length = b.length) (hx : ∀ x ∈ b', 0 ≤ x ∧ x ≤ 2) : panelB ⟨w, h, b'⟩ = true := by
  unfold panelB at hp ⊢
  simp only [Bool.and_eq_true, List.all_eq_true, hl] at hp ⊢
  refine ⟨hp.1, hp.2.1, fun x hm => ?_⟩
  unfold brkB; simp [(hx x hm).1, (hx x hm).2]
theorem draw02_ok (q : Sl00Src) (n : Int) (hn : 1 ≤ n ∧ n ≤ 8) (hc : srcB q.code) (h0 : 0 ≤ q.at_) (h1 : q.at_ ≤ 1099511627776) :
    ∃ r, sh183 q n = some r ∧ panelB r.1 = true ∧ (r.1.W ≤ n ∧ r.1.H ≤ n) ∧ 0 ≤ r.2.1 ∧ r.2.1 ≤ q.at_ + 1000 := by
  unfold sh183
  obtain ⟨x3, e3, b3, a3, c3⟩ := pick_ok q n hc h0 (by omega)
  rw [e3, bindS]
  obtain ⟨x4, e4, b4, a4, c4⟩ := pick_ok ⟨q.code, x3.2.1, x3.2.2⟩ n hc a3 (by simp only; omega)
  rw [e4, bindS, w64_id (x := 1 + x3.1) (by omega) (by omega), w64_id (x := 1 + x4.1) (by omega) (by omega)]
  simp only at c4
  obtain ⟨x5, e5, w5, h5, z5, p5⟩ := l02New_ok (1 + x3.1) (1 + x4.1) ⟨by omega, by omega⟩ ⟨by omega, by omega⟩
  rw [e5, bindS]
  obtain ⟨x11, e11, b11, a11, c11⟩ := pick_ok ⟨q.code, x4.2.1, x4.2.2⟩ 4 hc a4 (by simp only; omega)
  rw [e11, bindS]
  simp only at c11
  have hbl : x5.Breaks.length ≤ 112 := (panelB_facts p5).2.2.2.2
  have hi := iter_inv (sb := sh183_1 q x5 x11) (s0 := (0, (x11.2.1, x11.2.2), x5.Breaks)) (fun s => 0 ≤ s.1 ∧ s.1 ≤ x5.Breaks.length ∧ s.2.2.length = x5.Breaks.length ∧ (∀ x ∈ s.2.2, 0 ≤ x ∧ x ≤ 2) ∧ 0 ≤ s.2.1.1 ∧ s.2.1.1 ≤ q.at_ + 6 + 4 * s.1) (fun s => ((x5.Breaks.length : Int) - s.1).toNat)
    (fun s => s.2.length = x5.Breaks.length ∧ (∀ x ∈ s.2, 0 ≤ x ∧ x ≤ 2) ∧ 0 ≤ s.1.1 ∧ s.1.1 ≤ q.at_ + 600) ⟨by simp, by simp, rfl, fun x hx => by rw [z5 x hx]; omega, a11, by simp only; omega⟩ (by simp only; omega) (by
    rintro ⟨k, ⟨a, sd⟩, l⟩ ⟨i1, i2, i3, i4, i5, i6⟩
    simp only at i1 i2 i3 i4 i5 i6
    by_cases hk : k < x5.Breaks.length
    · left
      have hkd : k < ((x5.Breaks.length : Nat) : Int) := hk
      simp only [sh183_1, hkd, decide_true, cond_true]
      obtain ⟨y, g, n1, m, n2⟩ := pick_ok ⟨q.code, a, sd⟩ 4 hc i5 (by simp only; omega)
      simp only at n2
      rw [g, bindS]
      by_cases hlt : y.1 < x11.1
      · obtain ⟨y2, g2, n3, m2, n4⟩ := pick_ok ⟨q.code, y.2.1, y.2.2⟩ 2 hc m (by simp only; omega)
        simp only at n4
        rw [decide_eq_true hlt, cond_true, g2, bindS, getI_toNat i1 (by omega), bindS, bindS, w64_id (x := k + 1) (by omega) (by omega), w64_id (x := 1 + y2.1) (by omega) (by omega)]
        refine ⟨_, rfl, ⟨by simp only; omega, by simp only; omega, by simp only [List.length_set]; omega, fun x hx => ?_, m2, by simp only; omega⟩, by simp only; omega⟩
        rcases List.mem_or_eq_of_mem_set hx with h | h
        · exact i4 x h
        · rw [h]; omega
      · rw [decide_eq_false hlt, cond_false, bindS, w64_id (x := k + 1) (by omega) (by omega)]
        exact ⟨_, rfl, ⟨by simp only; omega, by simp only; omega, i3, i4, m, by simp only; omega⟩, by simp only; omega⟩
    · right
      have hkd : ¬ k < ((x5.Breaks.length : Nat) : Int) := hk
      simp only [sh183_1, hkd, decide_false, cond_false]
      exact ⟨_, rfl, i3, i4, i5, by simp only; omega⟩)
  obtain ⟨b, hb, d1, d2, d3, d4⟩ := hi
  rw [hb, bindS]
  refine ⟨_, rfl, panelB_of (b := x5.Breaks) (by exact p5) d1 d2, ⟨by simp only [w5]; omega, by simp only [h5]; omega⟩, d3, by simp only; omega⟩
theorem bent02_ok (q : Sl00Src) (hc : srcB q.code) (h0 : 0 ≤ q.at_) (h1 : q.at_ ≤ 549755813888) :
    ∃ r, sh118 q = some r ∧ r.1.Breaks.length ≤ 200 ∧ 0 ≤ r.2.1 ∧ r.2.1 ≤ q.at_ + 1100 := by
  unfold sh118
  obtain ⟨x3, e3, b3, _, a3, c3⟩ := draw02_ok q 5 (by omega) hc h0 (by omega)
  have hbl : x3.1.Breaks.length ≤ 112 := (panelB_facts b3).2.2.2.2
  rw [e3, bindS]
  obtain ⟨x, e, b, a, c⟩ := pick_ok ⟨q.code, x3.2.1, x3.2.2⟩ 20 hc a3 (by simp only; omega)
  rw [e, bindS]
  simp only at c
  cases x.1 == 0
  · rw [cond_false]
    cases x.1 == 1
    · rw [cond_false]
      cases x.1 == 2
      · rw [cond_false]
        cases x.1 == 3
        · rw [cond_false]
          simp only [bindS]
          exact ⟨_, rfl, by simp only; omega, a, by simp only; omega⟩
        · rw [cond_true]
          obtain ⟨y, g, _, _, _, p5⟩ := l02New_ok 8 8 (by omega) (by omega)
          have := (panelB_facts p5).2.2.2.2
          rw [g]
          simp only [bindS]
          exact ⟨_, rfl, by simp only; omega, a, by simp only; omega⟩
      · rw [cond_true]
        by_cases hl : 0 < (x3.1.Breaks.length : Int)
        · obtain ⟨y, g, n1, m, n⟩ := pick_ok ⟨q.code, x.2.1, x.2.2⟩ (x3.1.Breaks.length : Int) hc a (by simp only; omega)
          simp only at n
          obtain ⟨z, g2, n3, m2, n4⟩ := among_ok ⟨q.code, y.2.1, y.2.2⟩ [(-1), 2, 3] hc m (by simp only; omega) (by simp)
          simp only at n4
          rw [decide_eq_true hl, cond_true, g, bindS, g2, bindS, getI_toNat n1.1 (by omega)]
          simp only [bindS]
          exact ⟨_, rfl, by simp only [List.length_set]; omega, m2, by simp only; omega⟩
        · rw [decide_eq_false hl, cond_false]
          simp only [bindS]
          exact ⟨_, rfl, by simp only; omega, a, by simp only; omega⟩
    · rw [cond_true, appL_ok (by simp only [List.length_cons, List.length_nil]; omega)]
      simp only [bindS]
      exact ⟨_, rfl, by simp only [List.length_append, List.length_cons, List.length_nil]; omega, a, by simp only; omega⟩
  · rw [cond_true]
    obtain ⟨z, g2, n3, m2, n4⟩ := among_ok ⟨q.code, x.2.1, x.2.2⟩ [0, 8, 9, (-9223372036854775808)] hc a (by simp only; omega) (by simp)
    simp only at n4
    rw [g2]
    simp only [bindS]
    exact ⟨_, rfl, by simp only; omega, m2, by simp only; omega⟩

/-! fnstroked -/
theorem allX_mem {w : Nat} {x y : Nat} (hx : x < w) (ho : ((x : Int) + (y : Int)) % 2 = 1) : ∀ {n : Nat}, y < n → (⟨(x : Int), (y : Int)⟩ : SPoint) ∈ allX w n
  | n + 1, hy => by
    refine List.mem_append.2 ?_
    by_cases h : y < n
    · exact .inl (allX_mem hx ho h)
    · right
      have : y = n := by omega
      subst this
      simp only [rowX, List.mem_map, List.mem_filter, List.mem_range, decide_eq_true_eq]
      exact ⟨x, ⟨hx, ho⟩, rfl⟩
theorem gI_stay {pl : SPoint} {s : Int} {a : SPoint} : ∀ (L : List SPoint), (∀ x ∈ L, 0 ≤ sqF pl s x) → L.foldl (gI pl s) (0, a) = (0, a)
  | [], _ => rfl
  | x :: L, h => by
    have hx := h x (List.mem_cons_self ..)
    have e : gI pl s (0, a) x = (0, a) := by unfold gI; rw [if_neg (by simp only; omega)]
    rw [List.foldl_cons, e]
    exact gI_stay L (fun y hy => h y (List.mem_cons_of_mem _ hy))
theorem gI_find {pl : SPoint} {s : Int} {a : SPoint} (ha : sqF pl s a = 0) : ∀ (L : List SPoint) (b : Int × SPoint), a ∈ L → (∀ x ∈ L, 0 ≤ sqF pl s x ∧ (sqF pl s x = 0 → x = a)) → (b.1 < 0 ∨ 0 < b.1) → L.foldl (gI pl s) b = (0, a)
  | x :: L, b, hm, h, hb => by
    rw [List.foldl_cons]
    have hx := h x (List.mem_cons_self ..)
    have hL : ∀ y ∈ L, 0 ≤ sqF pl s y ∧ (sqF pl s y = 0 → y = a) := fun y hy => h y (List.mem_cons_of_mem _ hy)
    by_cases he : sqF pl s x = 0
    · have hxa := hx.2 he
      have e : gI pl s b x = (0, a) := by unfold gI; rw [if_pos (by omega), he, hxa]
      rw [e]
      exact gI_stay L (fun y hy => (hL y hy).1)
    · have hmL : a ∈ L := by
        rcases List.mem_cons.1 hm with h1 | h1
        · rw [← h1] at he; exact absurd ha he
        · exact h1
      refine gI_find ha L _ hmL hL ?_
      unfold gI
      split
      · right; simp only; omega
      · exact hb
theorem sqF_val {pl : SPoint} {s : Int} {a : SPoint} (hp : (0 ≤ pl.X ∧ pl.X ≤ 2000) ∧ (0 ≤ pl.Y ∧ pl.Y ≤ 2000)) (hs : 2 ≤ s ∧ s ≤ 100) (ha : (0 ≤ a.X ∧ a.X ≤ 17) ∧ (0 ≤ a.Y ∧ a.Y ≤ 17)) : sqF pl s a = (pl.X - a.X * s) * (pl.X - a.X * s) + (pl.Y - a.Y * s) * (pl.Y - a.Y * s) := by
  have m1 := mul_bdN (x := a.X) (y := s) (B := 100) (by omega) (by omega) (by omega) (by omega)
  have m2 := mul_bdN (x := a.Y) (y := s) (B := 100) (by omega) (by omega) (by omega) (by omega)
  unfold sqF
  rw [w64_id (x := a.X * s) (by omega) (by omega), w64_id (x := a.Y * s) (by omega) (by omega)]
  generalize a.X * s = u at *
  generalize a.Y * s = v at *
  rw [w64_id (x := pl.X - u) (by omega) (by omega), w64_id (x := pl.Y - v) (by omega) (by omega)]
  have n1 := mul_bdN (x := pl.X - u) (y := pl.X - u) (B := 12000) (by omega) (by omega) (by omega) (by omega)
  have n2 := mul_bdN (x := pl.Y - v) (y := pl.Y - v) (B := 12000) (by omega) (by omega) (by omega) (by omega)
  have q1 := sq_nonneg (pl.X - u)
  have q2 := sq_nonneg (pl.Y - v)
  generalize (pl.X - u) * (pl.X - u) = z1 at *
  generalize (pl.Y - v) * (pl.Y - v) = z2 at *
  rw [w64_id (x := z1) (by omega) (by omega), w64_id (x := z2) (by omega) (by omega), w64_id (by omega) (by omega)]
theorem sq_zero {x : Int} (h : x * x = 0) : x = 0 := by
  rcases Int.mul_eq_zero.1 h with h | h <;> exact h
theorem strokeB_rngF {q : List SPoint} (h : strokeB q = true) : q ≠ [] ∧ q.length ≤ 60 ∧ ∀ p ∈ q, (0 ≤ p.X ∧ p.X ≤ 2000) ∧ (0 ≤ p.Y ∧ p.Y ≤ 2000) := by
  obtain ⟨a, t, h1, h2, h3⟩ := stroke_facts h
  exact ⟨by rw [h1]; simp, h2, h3⟩
/-- The point at a place. -/
theorem near_at {p : SPanel} (hd : Dim p) {a : SPoint} {s : Int} (ha : inr p a.X a.Y) (hs : 2 ≤ s ∧ s ≤ 100) (hx : 0 ≤ a.X * s ∧ a.X * s ≤ 2000) (hy : 0 ≤ a.Y * s ∧ a.Y * s ≤ 2000) : sh192 p ⟨a.X * s, a.Y * s⟩ s = some (a, true) := by
  obtain ⟨N, M, h⟩ := ext_of hd
  have h1 := h.n1; have h2 := h.m1; have e1 := h.n; have e2 := h.m
  obtain ⟨r, hr, hr2⟩ := near_impl h (pl := ⟨a.X * s, a.Y * s⟩) ⟨hx, hy⟩ hs
  obtain ⟨⟨a1, a2⟩, ⟨a3, a4⟩, a5⟩ := ha
  have hwh := hd.w2; have hhh := hd.h2
  have rng : ∀ x ∈ allX N M, (0 ≤ x.X ∧ x.X ≤ 17) ∧ (0 ≤ x.Y ∧ x.Y ≤ 17) := fun x hx => by
    obtain ⟨u, v, h3, h4, _, rfl⟩ := mem_allX hx
    exact ⟨⟨by simp only; omega, by simp only; omega⟩, by simp only; omega, by simp only; omega⟩
  have hval : ∀ x ∈ allX N M, sqF ⟨a.X * s, a.Y * s⟩ s x = (a.X * s - x.X * s) * (a.X * s - x.X * s) + (a.Y * s - x.Y * s) * (a.Y * s - x.Y * s) := fun x hm => sqF_val (pl := ⟨a.X * s, a.Y * s⟩) ⟨hx, hy⟩ hs (rng x hm)
  have hmem : a ∈ allX N M := by
    have := allX_mem (w := N) (x := a.X.toNat) (y := a.Y.toNat) (n := M) (by omega) (by omega) (by omega)
    rwa [Int.toNat_of_nonneg (by omega), Int.toNat_of_nonneg (by omega)] at this
  have h0 : sqF ⟨a.X * s, a.Y * s⟩ s a = 0 := by rw [hval a hmem, Int.sub_self, Int.sub_self]; rfl
  have hf := gI_find h0 (allX N M) (-1, ⟨0, 0⟩) hmem (fun x hm => by
    rw [hval x hm]
    have q1 := sq_nonneg (a.X * s - x.X * s)
    have q2 := sq_nonneg (a.Y * s - x.Y * s)
    refine ⟨by omega, fun hz => ?_⟩
    have z1 := sq_zero (show (a.X * s - x.X * s) * (a.X * s - x.X * s) = 0 by omega)
    have z2 := sq_zero (show (a.Y * s - x.Y * s) * (a.Y * s - x.Y * s) = 0 by omega)
    have x1 : x.X = a.X := Int.eq_of_mul_eq_mul_right (a := s) (by omega) (by omega)
    have x2 : x.Y = a.Y := Int.eq_of_mul_eq_mul_right (a := s) (by omega) (by omega)
    cases x; cases a; simp only at x1 x2; rw [x1, x2]) (.inl (by decide))
  rw [hr, hr2, hf]
  have mb := mul_bdN (x := s) (y := s) (B := 100) (by omega) (by omega) (by omega) (by omega)
  have q0 := sq_nonneg s
  rw [w64_id (by omega) (by omega), decide_eq_true (show (0 : Int) ≤ s * s from q0)]
/-- A stroke whose middle is at a point, of some kind, makes the break. -/
theorem stroke_at {p : SPanel} (hp : panelB p = true) {a : SPoint} {k s : Int} (ha : inr p a.X a.Y) (hk : 0 ≤ k ∧ k ≤ 2) (hs : 2 ≤ s ∧ s ≤ 100) (hx : 0 ≤ a.X * s ∧ a.X * s ≤ 2000) (hy : 0 ≤ a.Y * s ∧ a.Y * s ≤ 2000) {q : List SPoint} (hq : strokeB q = true) {b : SPoint × SPoint} (hb : sh112 q = some b)
    (hc : (⟨w64 ((w64 (b.1.X + b.2.X)).tdiv 2), w64 ((w64 (b.1.Y + b.2.Y)).tdiv 2)⟩ : SPoint) = ⟨a.X * s, a.Y * s⟩) (hkd : kindF b s = k) : sh40 p q s = some (⟨p.W, p.H, p.Breaks.set (numF p a.X a.Y).toNat k⟩, 0) := by
  have hd := dim_of hp
  have hbl := (panelB_facts hp).2.2.2.2
  have hlq := strokeB_len hq
  unfold sh40
  have e2 : sh123 s = some (scaleB s) := rfl
  have e3 : scaleB s = true := by unfold scaleB; simp [hs.1, hs.2]
  rw [validPanel_eq p (by omega), validStroke_eq q (by omega), hp, hq, e2, e3]
  simp only [bindS, Bool.not_true, cond_false]
  unfold sh129
  have hk3 : (k == 3) = false := beq_eq_false_iff_ne.2 (by omega)
  have hn := num_bd hd ha
  obtain ⟨⟨a1, a2⟩, ⟨a3, a4⟩, a5⟩ := ha
  have m1 : sh194 p a = some (numF p a.X a.Y) := number_impl hd ⟨⟨a1, a2⟩, ⟨a3, a4⟩, a5⟩
  have hg : getI ([0, 1, 2] : List Int) k = some k := by
    rcases (show k = 0 ∨ k = 1 ∨ k = 2 by omega) with h | h | h <;> rw [h] <;> rfl
  have happ : appL ([] : List Int) p.Breaks = some p.Breaks := by rw [appL_ok (by simp only [List.length_nil]; omega)]; rfl
  have hlt : (numF p a.X a.Y).toNat < p.Breaks.length := by omega
  rw [kind_impl hb s, hkd, bindS, hk3, cond_false, hb, bindS, hc, near_at hd ⟨⟨a1, a2⟩, ⟨a3, a4⟩, a5⟩ hs hx hy, bindS]
  simp only [Bool.not_true, cond_false]
  rw [edge_impl hd, decide_eq_false (by omega), bindS, cond_false, hg, bindS, m1, bindS]
  simp only [sh193, sh134, sh198, happ, bindS, getI_toNat hn.1 hlt]
theorem codeOf_ok {p : SPanel} {a : SPoint} (h : codeOf p a = 0) : panelB p = true ∧ inr p a.X a.Y := by
  unfold codeOf at h
  cases hp : panelB p
  · rw [hp] at h; cases h
  · rw [hp] at h
    simp only [Bool.not_true, cond_false] at h
    cases hh : hasB p a
    · rw [hh] at h; cases h
    · rw [hh] at h
      simp only [Bool.not_true, cond_false] at h
      cases he : edgeB p a
      · refine ⟨rfl, ?_⟩
        have hd := dim_of hp
        have := hd.w1; have := hd.w2; have := hd.h1; have := hd.h2
        unfold hasB at hh
        unfold edgeB at he
        rw [w64_id (x := 2 * p.W) (by omega) (by omega), w64_id (x := 2 * p.H) (by omega) (by omega)] at hh he
        simp only [Bool.and_eq_true, decide_eq_true_eq, beq_iff_eq] at hh
        simp only [Bool.or_eq_false_iff, beq_eq_false_iff_ne] at he
        obtain ⟨⟨⟨h1, h2⟩, h3, h4⟩, h5⟩ := hh
        rw [w64_id (x := a.X + a.Y) (by omega) (by omega), Int.tmod_eq_emod_of_nonneg (by omega)] at h5
        refine ⟨⟨by omega, by omega⟩, ⟨by omega, by omega⟩, h5⟩
      · rw [he] at h; cases h
theorem setBreak_val {p : SPanel} {a : SPoint} {k : Int} (h : codeOf p a = 0) (hk : 0 ≤ k ∧ k ≤ 2) : sh48 p a k = some (⟨p.W, p.H, p.Breaks.set (numF p a.X a.Y).toNat k⟩, 0) := by
  obtain ⟨hp, hi⟩ := codeOf_ok h
  have hd := dim_of hp
  have hbl := (panelB_facts hp).2.2.2.2
  have hn := num_bd hd hi
  have hlt : (numF p a.X a.Y).toNat < p.Breaks.length := by omega
  have hkd : sh125 k = some true := by
    unfold sh125 sh100
    simp [hk.1, hk.2, bindS]
  have happ : appL ([] : List Int) p.Breaks = some p.Breaks := by rw [appL_ok (by simp only [List.length_nil]; omega)]; rfl
  have how : sh132 p = some p := by unfold sh132 sh195; rw [happ]; rfl
  have m2 : sh141 p a = some (numF p a.X a.Y) := number_spec hd hi
  unfold sh48
  rw [l02Ok_eq p (by omega), l02Has_eq, l02Code_eq p a (by omega), h, hkd, how, m2, hp]
  cases hasB p a <;> simp only [bindS, cond_true, cond_false, Bool.not_true, bne_self_eq_false, getI_toNat hn.1 hlt]
theorem half_ok {s : Int} (hs : 2 ≤ s ∧ s ≤ 100) : w64 (s.tdiv 2) = s / 2 := by rw [Int.tdiv_eq_ediv_of_nonneg (by omega), w64_id (by omega) (by omega)]
/-- A stroke for a break makes this break. -/
theorem stroke_makes {p : SPanel} {a : SPoint} {k s : Int} {r : List SPoint × Int} (hb : p.Breaks.length ≤ 1048576) (hr : sh37 p a k s = some r) (h0 : r.2 = 0) (hv : strokeB r.1 = true) :
    ∃ x, sh40 p r.1 s = some (x, 0) ∧ sh48 p a k = some (x, 0) ∧ x.Breaks.length ≤ 1048576 := by
  unfold sh37 at hr
  have e1 : sh122 k = some (decide (0 ≤ k ∧ k ≤ 2)) := by
    unfold sh122 sh107
    by_cases h1 : 0 ≤ k <;> by_cases h2 : k ≤ 2 <;> simp [h1, h2, bindS]
  have e2 : sh123 s = some (decide (2 ≤ s ∧ s ≤ 100)) := by
    unfold sh123 sh107
    by_cases h1 : 2 ≤ s <;> by_cases h2 : s ≤ 100 <;> simp [h1, h2, bindS]
  rw [innerCode_eq p a hb, e1, e2] at hr
  simp only [bindS] at hr
  have hcode : codeOf p a = 0 ∧ (0 ≤ k ∧ k ≤ 2) ∧ (2 ≤ s ∧ s ≤ 100) := by
    by_cases hk : 0 ≤ k ∧ k ≤ 2
    · by_cases hs : 2 ≤ s ∧ s ≤ 100
      · rcases codeOf_cases p a with hc | hc | hc | hc
        · rw [hc, decide_eq_true hk, decide_eq_true hs] at hr
          have := Option.some.inj hr
          rw [← this] at h0; cases h0
        · rw [hc, decide_eq_true hk, decide_eq_true hs] at hr
          have := Option.some.inj hr
          rw [← this] at h0; cases h0
        · rw [hc, decide_eq_true hk, decide_eq_true hs] at hr
          have := Option.some.inj hr
          rw [← this] at h0; cases h0
        · exact ⟨hc, hk, hs⟩
      · rw [decide_eq_true hk, decide_eq_false hs] at hr
        rcases codeOf_cases p a with hc | hc | hc | hc <;> rw [hc] at hr <;> have := Option.some.inj hr <;> rw [← this] at h0 <;> cases h0
    · rw [decide_eq_false hk] at hr
      rcases codeOf_cases p a with hc | hc | hc | hc <;> rw [hc] at hr <;> have := Option.some.inj hr <;> rw [← this] at h0 <;> cases h0
  obtain ⟨hc, hk, hs⟩ := hcode
  obtain ⟨hp, hi⟩ := codeOf_ok hc
  have hd := dim_of hp
  rw [hc, decide_eq_true hk, decide_eq_true hs, half_ok hs] at hr
  simp only [Bool.not_true, cond_false, bindS, beq_self_eq_true, Bool.true_or, cond_true, bne_self_eq_false] at hr
  have hbl := (panelB_facts hp).2.2.2.2
  obtain ⟨⟨a1, a2⟩, ⟨a3, a4⟩, a5⟩ := hi
  have hwh := hd.w2; have hhh := hd.h2
  have m1 := mul_bdN (x := a.X) (y := s) (B := 100) (by omega) (by omega) (by omega) (by omega)
  have m2 := mul_bdN (x := a.Y) (y := s) (B := 100) (by omega) (by omega) (by omega) (by omega)
  have p1 : 0 ≤ a.X * s := Int.mul_nonneg (by omega) (by omega)
  have p2 : 0 ≤ a.Y * s := Int.mul_nonneg (by omega) (by omega)
  refine ⟨_, ?_, setBreak_val hc hk, by simp only [List.length_set]; omega⟩
  rw [w64_id (x := a.X * s) (by omega) (by omega), w64_id (x := a.Y * s) (by omega) (by omega)] at hr
  rcases (show k = 0 ∨ k = 1 ∨ k = 2 by omega) with h | h | h <;> subst h
  · simp only [show ((0 : Int) == 1) = false from rfl, show ((0 : Int) == 2) = false from rfl, cond_false] at hr
    have hr := Option.some.inj hr
    rw [← hr] at hv ⊢
    obtain ⟨_, _, hin⟩ := strokeB_rngF hv
    have i1 := hin _ (List.mem_cons_self ..)
    simp only at i1
    refine stroke_at hp ⟨⟨a1, a2⟩, ⟨a3, a4⟩, a5⟩ hk hs i1.1 i1.2 hv (boxOf_eq _ [] (by simp)) ?_ ?_
    · simp only [List.foldl_nil]
      rw [w64_id (x := a.X * s + a.X * s) (by omega) (by omega), w64_id (x := a.Y * s + a.Y * s) (by omega) (by omega), Int.tdiv_eq_ediv_of_nonneg (by omega), Int.tdiv_eq_ediv_of_nonneg (by omega), w64_id (by omega) (by omega), w64_id (by omega) (by omega)]
      congr 1 <;> omega
    · unfold kindF
      simp only [List.foldl_nil, Int.sub_self]
      rw [show w64 0 = 0 from rfl, show w64 (2 * 0) = 0 from rfl, decide_eq_true (show (0 : Int) < s by omega)]
      rfl
  · simp only [show ((1 : Int) == 1) = true from rfl, cond_true] at hr
    have hr := Option.some.inj hr
    rw [w64_id (x := a.Y * s - s / 2) (by omega) (by omega), w64_id (x := a.Y * s + s / 2) (by omega) (by omega)] at hr
    rw [← hr] at hv ⊢
    obtain ⟨_, _, hin⟩ := strokeB_rngF hv
    have i1 := hin _ (List.mem_cons_self ..)
    have i2 := hin _ (List.mem_cons_of_mem _ (List.mem_cons_self ..))
    simp only at i1 i2
    refine stroke_at hp ⟨⟨a1, a2⟩, ⟨a3, a4⟩, a5⟩ hk hs (by omega) (by omega) hv (b := (⟨a.X * s, a.Y * s - s / 2⟩, ⟨a.X * s, a.Y * s + s / 2⟩)) ?_ ?_ ?_
    · rw [boxOf_eq _ _ (by simp)]
      simp only [List.foldl_cons, List.foldl_nil, boxS, mn, mx]
      rw [if_neg (by omega), if_neg (by omega), if_pos (by omega)]
    · simp only
      rw [w64_id (x := a.X * s + a.X * s) (by omega) (by omega), w64_id (x := a.Y * s - s / 2 + (a.Y * s + s / 2)) (by omega) (by omega), Int.tdiv_eq_ediv_of_nonneg (by omega), Int.tdiv_eq_ediv_of_nonneg (by omega), w64_id (by omega) (by omega), w64_id (by omega) (by omega)]
      congr 1 <;> omega
    · unfold kindF
      simp only
      rw [w64_id (x := a.X * s - a.X * s) (by omega) (by omega), w64_id (x := a.Y * s + s / 2 - (a.Y * s - s / 2)) (by omega) (by omega), w64_id (x := 2 * (a.X * s - a.X * s)) (by omega) (by omega), w64_id (x := 2 * (a.Y * s + s / 2 - (a.Y * s - s / 2))) (by omega) (by omega), decide_eq_false (show ¬ (2 * (a.Y * s + s / 2 - (a.Y * s - s / 2)) < s) by omega), decide_eq_true (show 2 * (a.X * s - a.X * s) ≤ a.Y * s + s / 2 - (a.Y * s - s / 2) by omega), Bool.and_false]
      rfl
  · simp only [show ((2 : Int) == 1) = false from rfl, show ((2 : Int) == 2) = true from rfl, cond_true, cond_false] at hr
    have hr := Option.some.inj hr
    rw [w64_id (x := a.X * s - s / 2) (by omega) (by omega), w64_id (x := a.X * s + s / 2) (by omega) (by omega)] at hr
    rw [← hr] at hv ⊢
    obtain ⟨_, _, hin⟩ := strokeB_rngF hv
    have i1 := hin _ (List.mem_cons_self ..)
    have i2 := hin _ (List.mem_cons_of_mem _ (List.mem_cons_self ..))
    simp only at i1 i2
    refine stroke_at hp ⟨⟨a1, a2⟩, ⟨a3, a4⟩, a5⟩ hk hs (by omega) (by omega) hv (b := (⟨a.X * s - s / 2, a.Y * s⟩, ⟨a.X * s + s / 2, a.Y * s⟩)) ?_ ?_ ?_
    · rw [boxOf_eq _ _ (by simp)]
      simp only [List.foldl_cons, List.foldl_nil, boxS, mn, mx]
      rw [if_neg (by omega), if_neg (by omega), if_pos (by omega)]
    · simp only
      rw [w64_id (x := a.Y * s + a.Y * s) (by omega) (by omega), w64_id (x := a.X * s - s / 2 + (a.X * s + s / 2)) (by omega) (by omega), Int.tdiv_eq_ediv_of_nonneg (by omega), Int.tdiv_eq_ediv_of_nonneg (by omega), w64_id (by omega) (by omega), w64_id (by omega) (by omega)]
      congr 1 <;> omega
    · unfold kindF
      simp only
      rw [w64_id (x := a.Y * s - a.Y * s) (by omega) (by omega), w64_id (x := a.X * s + s / 2 - (a.X * s - s / 2)) (by omega) (by omega), w64_id (x := 2 * (a.Y * s - a.Y * s)) (by omega) (by omega), w64_id (x := 2 * (a.X * s + s / 2 - (a.X * s - s / 2))) (by omega) (by omega), decide_eq_false (show ¬ (2 * (a.X * s + s / 2 - (a.X * s - s / 2)) < s) by omega), decide_eq_false (show ¬ (2 * (a.X * s + s / 2 - (a.X * s - s / 2)) ≤ a.Y * s - a.Y * s) by omega), decide_eq_true (show 2 * (a.Y * s - a.Y * s) ≤ a.X * s + s / 2 - (a.X * s - s / 2) by omega), Bool.false_and]
      rfl

/-! FnStroked -/
theorem law5 (c : List Int) (hl0 : c.length ≤ maxLen) (hk0 : ∀ y ∈ c, okI .u8 y) : sh5 c = some true := by
  unfold sh5
  have hm : maxLen = 9223372036854775807 := rfl
  have hc := srcB_of hk0
  rw [f6big_eq c (by omega), bindS]
  cases hbig : decide (4096 < c.length)
  · rw [cond_false]
    have hfrom : sh90 c = some ⟨c, 0, 0⟩ := rfl
    obtain ⟨d, e, l, a, b⟩ := bent02_ok ⟨c, 0, 0⟩ hc (Int.le_refl 0) (by simp only; omega)
    simp only at b
    obtain ⟨x1, e1, a1, b1⟩ := drawPoint_ok ⟨c, d.2.1, d.2.2⟩ d.1 (by omega) hc a (by simp only; omega)
    simp only at b1
    obtain ⟨x2, e2, _, a2, b2⟩ := pick_ok ⟨c, x1.2.1, x1.2.2⟩ 4 hc a1 (by simp only; omega)
    simp only at b2
    obtain ⟨x3, e3, _, a3, b3⟩ := pick_ok ⟨c, x2.2.1, x2.2.2⟩ 12 hc a2 (by simp only; omega)
    simp only at b3
    obtain ⟨x4, e4, a4, b4⟩ := scale_ok ⟨c, x3.2.1, x3.2.2⟩ hc a3 (by simp only; omega)
    have hA : ∃ k s, sh36 c = some (d.1, x1.1, k, s) := by
      unfold sh36
      simp only [hfrom, bindS, e, e1, e2, e3, e4]
      exact ⟨_, _, rfl⟩
    obtain ⟨k, s, hA⟩ := hA
    obtain ⟨y1, f1, l1, r1, g1, h1⟩ := bent19_ok ⟨c, d.2.1, d.2.2⟩ hc a (by simp only; omega)
    simp only at h1
    obtain ⟨y2, f2, _, _⟩ := scale_ok ⟨c, y1.2.1, y1.2.2⟩ hc g1 (by simp only; omega)
    have hB : sh39 c = some (d.1, y1.1, y2.1) := by
      unfold sh39
      simp only [hfrom, bindS, e, f1, f2]
    obtain ⟨z1, k1, n1, m1, o1⟩ := pick_ok ⟨c, d.2.1, d.2.2⟩ 6 hc a (by simp only; omega)
    simp only at o1
    obtain ⟨w, hw, w1, w2, w3, w4⟩ := iter_inv (sb := sh42_1 c) (s0 := (z1.1, (z1.2.1, z1.2.2), [])) (fun t => 0 ≤ t.1 ∧ t.1 ≤ 5 ∧ (t.2.2.length : Int) + t.1 ≤ 5 ∧ (∀ q ∈ t.2.2, q.length ≤ 61) ∧ 0 ≤ t.2.1.1 ∧ t.2.1.1 ≤ 2000 + 40 * (5 - t.1)) (fun t => t.1.toNat)
      (fun t => t.2.length ≤ 5 ∧ (∀ q ∈ t.2, q.length ≤ 61) ∧ 0 ≤ t.1.1 ∧ t.1.1 ≤ 3000) ⟨by simp only; omega, by simp only; omega, by simp only [List.length_nil]; omega, by simp, m1, by simp only; omega⟩ (by simp only; omega) (by
        rintro ⟨n, ⟨u, v⟩, t⟩ ⟨i1, i2, i3, i4, i5, i6⟩
        simp only at i1 i2 i3 i4 i5 i6
        by_cases hn : 0 < n
        · left
          simp only [sh42_1, hn, decide_true, cond_true]
          obtain ⟨q, q1, q2, q3, q4, q5⟩ := bent19_ok ⟨c, u, v⟩ hc i5 (by simp only; omega)
          simp only at q5
          rw [q1, bindS, appL_ok (by simp only [List.length_cons, List.length_nil]; omega), bindS, w64_id (x := n - 1) (by omega) (by omega)]
          refine ⟨_, rfl, ⟨by simp only; omega, by simp only; omega, by simp only [List.length_append, List.length_cons, List.length_nil]; omega, fun x hx => ?_, q4, by simp only; omega⟩, by simp only; omega⟩
          rcases List.mem_append.1 hx with h | h
          · exact i4 x h
          · simp at h; rw [h]; exact q2
        · right
          simp only [sh42_1, hn, decide_false, cond_false]
          exact ⟨_, rfl, by simp only; omega, i4, i5, by simp only; omega⟩)
    obtain ⟨z2, k2, _, _⟩ := scale_ok ⟨c, w.1.1, w.1.2⟩ hc w3 (by simp only; omega)
    have hC : sh42 c = some (d.1, w.2, z2.1) := by
      unfold sh42
      simp only [hfrom, bindS, e, k1, hw, k2]
    obtain ⟨ra, s1, s2, s3⟩ := strokeFor_total d.1 x1.1 k s (by omega)
    obtain ⟨rb, t1, t2, t3⟩ := applyStroke_total d.1 y1.1 y2.1 (by omega) (by omega)
    obtain ⟨rc, u1, u2, u3, u4⟩ := applyStrokes_total d.1 w.2 z2.1 (by omega) (by omega) (fun r hr => by have := w2 r hr; omega)
    rw [hA, hB, hC]
    simp only [bindS, s1, s2, t1, t2, u1, u2, bne_self_eq_false, cond_false, Bool.false_or, f6points_eq ra.1 ra.1 (by omega), decide_true, Bool.not_true, samePanel_refl rb.1 t3, samePanel_refl rc.1 u3, f6ints_eq rc.2.1 rc.2.1 u4]
    by_cases h0 : ra.2 = 0
    · have hn : (ra.2 != 0) = false := by simpa using h0
      rw [hn, cond_false, validStroke_eq ra.1 (by omega)]
      simp only [bindS]
      cases hv : strokeB ra.1
      · rfl
      · obtain ⟨x, v1, v2, v3⟩ := stroke_makes (by omega) s2 h0 hv
        simp only [Bool.not_true, cond_false, v1, v2, bindS, bne_self_eq_false, Bool.or_self, samePanel_refl x v3]
    · have hn : (ra.2 != 0) = true := by simpa using h0
      rw [hn]; rfl
  · rfl
end Go.Sh
