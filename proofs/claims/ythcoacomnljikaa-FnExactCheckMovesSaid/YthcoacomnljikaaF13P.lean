/- Plain laws: what the shallow functions come to. -/
import Derived.Test.YthcoacomnljikaaF13W1
set_option linter.unusedVariables false
set_option linter.unusedSimpArgs false
namespace Go.Sh
open Go Go.RowKit

/-! iters -/
theorem w64_lo (x : Int) : -9223372036854775808 ≤ w64 x := by
  have := IntKind.wrap_i64 x
  show _ ≤ IntKind.i64.wrap x
  omega
theorem w64_hi (x : Int) : w64 x ≤ 9223372036854775807 := by
  have := IntKind.wrap_i64 x
  show IntKind.i64.wrap x ≤ _
  omega
theorem getI_toNat {T : Type} {xs : List T} {i : Int} (h0 : 0 ≤ i) (h : i.toNat < xs.length) : getI xs i = some xs[i.toNat] := by
  unfold getI; rw [if_pos h0]; exact List.getElem?_eq_getElem h
theorem nzI_ok {a : Int} (h : a ≠ 0) : nzI a = some a := by simp [nzI, h]

/-- The loop that looks for the first element that passes. -/
theorem iter_find {T : Type} {sb : Int → Option (Int ⊕ (Unit ⊕ Int))} {xs : List T} {p : T → Bool} (hl : xs.length < 1099511627776)
    (hsb : ∀ (k : Nat) (h : k < xs.length), sb (k : Int) = if p xs[k] = true then some (.inr (.inr (k : Int))) else some (.inl ((k : Int) + 1))) (he : sb (xs.length : Int) = some (.inr (.inl ()))) :
    iter sb 0 = some (if xs.any p = true then .inr (xs.findIdx p : Int) else .inl ()) := by
  have h := iter_res (sb := sb) (fun k => (k : Int)) (fun k => if (xs.drop k).any p = true then (.inr (k + (xs.drop k).findIdx p : Nat) : Unit ⊕ Int) else .inl ()) xs.length (by omega) (fun k hk => ?_) (by
    rw [he, List.drop_of_length_le (Nat.le_refl _)]; simp)
  · simpa using h
  · rw [hsb k hk, List.drop_eq_getElem_cons hk]
    by_cases hx : p xs[k] = true
    · right
      rw [if_pos hx]
      simp only [List.any_cons, hx, Bool.true_or, if_true, List.findIdx_cons, cond_true, Nat.add_zero]
    · left
      rw [if_neg hx]
      refine ⟨by simp, ?_⟩
      have hx' : p xs[k] = false := by simpa using hx
      simp only [List.any_cons, hx', Bool.false_or, List.findIdx_cons, cond_false]
      split <;> simp
      omega

theorem iterN_congr {σ ρ : Type} {sb1 sb2 : σ → Option (σ ⊕ ρ)} (I : σ → Prop) (hs : ∀ s, I s → sb1 s = sb2 s ∧ ∀ s', sb2 s = some (.inl s') → I s') : ∀ (n : Nat) (s : σ), I s → iterN sb1 n s = iterN sb2 n s
  | 0, _, _ => rfl
  | n + 1, s, h => by
    obtain ⟨h1, h2⟩ := hs s h
    simp only [iterN, h1]
    cases hb : sb2 s with
    | none => rfl
    | some o =>
      cases o with
      | inl s' => exact iterN_congr I hs n s' (h2 s' hb)
      | inr x => rfl
/-- Two loops whose bodies agree where the invariant holds. -/
theorem iter_congr {σ ρ : Type} {sb1 sb2 : σ → Option (σ ⊕ ρ)} (I : σ → Prop) {s0 : σ} (h0 : I s0) (hs : ∀ s, I s → sb1 s = sb2 s ∧ ∀ s', sb2 s = some (.inl s') → I s') : iter sb1 s0 = iter sb2 s0 :=
  iterN_congr I hs FUEL s0 h0

/-- A loop over a list, as a fold. -/
theorem iter_fold {T σ S ρ : Type} {sb : S → Option (S ⊕ ρ)} (xs : List T) (st : Nat → σ → S) (g : σ → T → σ) (h : σ → ρ) (I : Nat → σ → Prop) (s0 : σ) (h0 : I 0 s0) (hl : xs.length < 1099511627776)
    (hsb : ∀ (k : Nat) (hk : k < xs.length) s, I k s → sb (st k s) = some (.inl (st (k + 1) (g s xs[k]))) ∧ I (k + 1) (g s xs[k])) (he : ∀ s, I xs.length s → sb (st xs.length s) = some (.inr (h s))) :
    iter sb (st 0 s0) = some (h (xs.foldl g s0)) ∧ I xs.length (xs.foldl g s0) := by
  have hI : ∀ k, k ≤ xs.length → I k ((xs.take k).foldl g s0) := by
    intro k
    induction k with
    | zero => intro _; simpa using h0
    | succ k ih =>
      intro hk
      rw [List.take_succ_eq_append_getElem (by omega), List.foldl_append]
      exact (hsb k (by omega) _ (ih (by omega))).2
  have hlast := hI xs.length (Nat.le_refl _)
  rw [List.take_length] at hlast
  refine ⟨?_, hlast⟩
  refine iter_steps (fun k => st k ((xs.take k).foldl g s0)) xs.length (by omega) (fun k hk => ?_) (by rw [List.take_length]; exact he _ hlast)
  rw [(hsb k hk _ (hI k (by omega))).1, List.take_succ_eq_append_getElem hk, List.foldl_append]
  rfl

/-- The greater one. -/
def mx (a b : Int) : Int := if a < b then b else a
def mn (a b : Int) : Int := if b < a then b else a
theorem mx_comm' (a b : Int) : (if b < a then a else b) = mx a b := by unfold mx; split <;> split <;> omega
theorem foldl_snoc {α β : Type} (f : α → β) : ∀ (xs : List α) (a : List β), xs.foldl (fun acc m => acc ++ [f m]) a = a ++ xs.map f
  | [], a => by simp
  | x :: xs, a => by rw [List.foldl_cons, foldl_snoc f xs]; simp

/-! toolmoves -/
theorem szToolMoveS_eq (xs : List SToolMove) (h : xs.length ≤ 9223372036854775807) : sh38 xs 1048576 = some (if xs.length ≤ 1048576 then (1048576 - xs.length : Int) else -1) := by
  unfold sh38
  rw [w64_id (by omega) (by omega)]
  by_cases hl : xs.length ≤ 1048576
  · rw [if_pos hl, show decide ((1048576 : Int) - (xs.length : Int) < 0) = false from decide_eq_false (by omega)]; rfl
  · rw [if_neg hl, show decide ((1048576 : Int) - (xs.length : Int) < 0) = true from decide_eq_true (by omega)]; rfl

theorem toToolMoveS_eq (xs : List SToolMove) (h : xs.length ≤ 1048576) : sh40 xs = some xs := by
  unfold sh40
  rw [mkL_ok (by omega), bindS, iter_copy (xs := xs) (by omega) (fun i ys => by simp only [sh40_1, sh86, bindS]), bindS]

theorem eqToolMove_eq (p q : SToolMove) : sh88 p q = some (decide (p = q)) := by
  unfold sh88
  cases p with
  | mk a b e =>
    cases q with
    | mk c d f =>
      show (bif a != c then some false else (bif b != d then some false else (bif e != f then some false else some true))) = _
      by_cases h1 : a = c
      · subst h1
        rw [bne_self_eq_false, cond_false]
        by_cases h2 : b = d
        · subst h2
          rw [bne_self_eq_false, cond_false]
          by_cases h3 : e = f
          · subst h3; rw [bne_self_eq_false]; simp
          · rw [bne_iff_ne.2 h3]; simp [h3]
        · rw [bne_iff_ne.2 h2]; simp [h2]
      · rw [bne_iff_ne.2 h1]; simp [h1]

theorem eqToolMoveS_eq (xs ys : List SToolMove) (h : xs.length ≤ 1048576) : sh42 xs ys = some (decide (xs = ys)) := by
  unfold sh42
  by_cases hl : xs.length = ys.length
  · have h1 : ((xs.length : Int) != (ys.length : Int)) = false := by simp; omega
    rw [h1, cond_false, iter_eq (xs := xs) (ys := ys) (by omega) hl (fun k hk => ?_) (by simp [sh42_1]), bindS]
    · by_cases he : xs = ys <;> simp [he, elimS]
    · have h2 : (k : Int) < xs.length := by omega
      have h3 : k < ys.length := by omega
      simp only [sh42_1, h2, decide_true, cond_true, getI_lt hk, getI_lt h3, bindS, eqToolMove_eq]
      rw [w64_id (by omega) (by omega)]
      by_cases he : xs[k] = ys[k]
      · simp [he]
      · rw [if_neg he, decide_eq_false he]
        rfl
  · have h1 : ((xs.length : Int) != (ys.length : Int)) = true := by simp; omega
    rw [h1, cond_true]
    have : xs ≠ ys := fun h => hl (by rw [h])
    simp [this]

/-! to_i64s -/
theorem toI64_eq (xs : List Int) (h : xs.length ≤ 1048576) : sh24 xs = some xs := by
  unfold sh24
  rw [mkL_ok (by omega), bindS, iter_copy (xs := xs) (by omega) (fun i ys => rfl), bindS]

/-! eq_i64s -/
theorem eqI64_eq (xs ys : List Int) (h : xs.length ≤ 1048576) : sh27 xs ys = some (decide (xs = ys)) := by
  unfold sh27
  by_cases hl : xs.length = ys.length
  · have h1 : ((xs.length : Int) != (ys.length : Int)) = false := by simp; omega
    rw [h1, cond_false, iter_eq (xs := xs) (ys := ys) (by omega) hl (fun k hk => ?_) (by simp [sh27_1]), bindS]
    · by_cases he : xs = ys <;> simp [he, elimS]
    · have h2 : (k : Int) < xs.length := by omega
      have h3 : k < ys.length := by omega
      simp only [sh27_1, h2, decide_true, cond_true, getI_lt hk, getI_lt h3, bindS]
      rw [w64_id (by omega) (by omega)]
      by_cases he : xs[k] = ys[k]
      · simp [he]
      · rw [if_neg he, show (xs[k] != ys[k]) = true from bne_iff_ne.2 he]
        rfl
  · have h1 : ((xs.length : Int) != (ys.length : Int)) = true := by simp; omega
    rw [h1, cond_true]
    have : xs ≠ ys := fun h => hl (by rw [h])
    simp [this]

/-! mark_i64s -/
/-- The numbers that are laid into a result to see whether it is of one's own. -/
def marksFrom (m : Int) (n : Nat) : List Int := (List.range n).map fun (i : Nat) => m + (i : Int)
theorem marksFrom_length (m : Int) (n : Nat) : (marksFrom m n).length = n := by simp [marksFrom]
theorem marksFrom_get (m : Int) (n k : Nat) (h : k < n) : (marksFrom m n)[k]'(by rw [marksFrom_length]; exact h) = m + k := by simp [marksFrom]
theorem marksFrom_succ (m : Int) (k : Nat) : marksFrom m (k + 1) = marksFrom m k ++ [m + k] := by simp [marksFrom, List.range_succ]


/-! panel -/
theorem szInt64S_eq (xs : List Int) (h : xs.length ≤ 9223372036854775807) : sh99 xs 1048576 = some (if xs.length ≤ 1048576 then (1048576 - xs.length : Int) else -1) := by
  unfold sh99
  rw [w64_id (by omega) (by omega)]
  by_cases hl : xs.length ≤ 1048576
  · rw [if_pos hl, show decide ((1048576 : Int) - (xs.length : Int) < 0) = false from decide_eq_false (by omega)]; rfl
  · rw [if_neg hl, show decide ((1048576 : Int) - (xs.length : Int) < 0) = true from decide_eq_true (by omega)]; rfl
theorem szPanel_eq (p : SPanel) (h : p.Breaks.length ≤ 9223372036854775807) : sh56 p 1048576 = some (if p.Breaks.length ≤ 1048576 then (1048576 - p.Breaks.length : Int) else -1) := by
  unfold sh56
  rw [szInt64S_eq _ h, bindS]
  by_cases hl : p.Breaks.length ≤ 1048576
  · rw [if_pos hl, show decide ((1048576 : Int) - (p.Breaks.length : Int) < 0) = false from decide_eq_false (by omega)]; rfl
  · rw [if_neg hl]; rfl
theorem toPanel_eq (p : SPanel) (h : p.Breaks.length ≤ 1048576) : sh58 p = some p := by
  unfold sh58
  rw [toI64_eq _ h, bindS]
theorem eqPanel_refl (p : SPanel) (h : p.Breaks.length ≤ 1048576) : sh60 p p = some true := by
  unfold sh60
  rw [bne_self_eq_false, bne_self_eq_false, eqI64_eq _ _ h]
  simp [bindS]
def brkB (k : Int) : Bool := decide (0 ≤ k) && decide (k ≤ 2)
def sideB (n : Int) : Bool := decide (1 ≤ n) && decide (n ≤ 8)
def innerN (w h : Int) : Int := w64 (w64 (w * w64 (h - 1)) + w64 (h * w64 (w - 1)))
def panelB (p : SPanel) : Bool := (sideB p.W && sideB p.H) && (((p.Breaks.length : Int) == innerN p.W p.H) && p.Breaks.all brkB)
theorem l02Ok_eq (p : SPanel) (h : p.Breaks.length ≤ 1048576) : sh100 p = some (panelB p) := by
  unfold sh100 panelB
  have hi : iter (sh100_1 p) 0 = some (if p.Breaks.all brkB = true then .inl () else .inr false) := iter_all (xs := p.Breaks) (by omega) (fun k hk => by
    have h2 : (k : Int) < p.Breaks.length := by omega
    simp only [sh100_1, sh65, h2, decide_true, cond_true, getI_lt hk, bindS]
    rw [w64_id (x := (k : Int) + 1) (by omega) (by omega)]
    unfold brkB
    cases decide (0 ≤ p.Breaks[k]) && decide (p.Breaks[k] ≤ 2) <;> rfl) (by simp [sh100_1])
  simp only [sh115, sh116, sh65, bindS, hi]
  show Option.bind (bif !(sideB p.W) then some true else some !(sideB p.H)) _ = _
  cases sideB p.W
  · rfl
  · cases sideB p.H
    · rfl
    · show (bif ((p.Breaks.length : Int) != innerN p.W p.H) then _ else _) = _
      simp only [bne]
      cases ((p.Breaks.length : Int) == innerN p.W p.H)
      · rfl
      · cases p.Breaks.all brkB <;> rfl
theorem validPanel_eq (p : SPanel) (h : p.Breaks.length ≤ 1048576) : sh101 p = some (panelB p) := by
  unfold sh101 panelB
  have hi : iter (sh101_1 p) 0 = some (if p.Breaks.all brkB = true then .inl () else .inr false) := iter_all (xs := p.Breaks) (by omega) (fun k hk => by
    have h2 : (k : Int) < p.Breaks.length := by omega
    simp only [sh101_1, sh107, sh79, h2, decide_true, cond_true, getI_lt hk, bindS]
    rw [w64_id (x := (k : Int) + 1) (by omega) (by omega)]
    unfold brkB
    cases decide (0 ≤ p.Breaks[k]) && decide (p.Breaks[k] ≤ 2) <;> rfl) (by simp [sh101_1])
  simp only [sh117, sh118, sh79, bindS, hi]
  show Option.bind (Option.bind (bif (sideB p.W) then some (sideB p.H) else some false) _) _ = _
  cases sideB p.W
  · rfl
  · cases sideB p.H
    · rfl
    · show (bif ((p.Breaks.length : Int) != innerN p.W p.H) then _ else _) = _
      simp only [bne]
      cases ((p.Breaks.length : Int) == innerN p.W p.H)
      · rfl
      · cases p.Breaks.all brkB <;> rfl
theorem panelB_facts {p : SPanel} (h : panelB p = true) : (1 ≤ p.W ∧ p.W ≤ 8) ∧ (1 ≤ p.H ∧ p.H ≤ 8) ∧ (p.Breaks.length : Int) = p.W * (p.H - 1) + p.H * (p.W - 1) ∧ (∀ k ∈ p.Breaks, 0 ≤ k ∧ k ≤ 2) ∧ p.Breaks.length ≤ 112 := by
  unfold panelB sideB brkB innerN at h
  simp only [Bool.and_eq_true, decide_eq_true_eq, List.all_eq_true, beq_iff_eq] at h
  obtain ⟨⟨⟨hw, hw2⟩, hh, hh2⟩, hl, ha⟩ := h
  have key : ∀ w : Int, 1 ≤ w → w ≤ 8 → ∀ k : Int, 1 ≤ k → k ≤ 8 → 0 ≤ w * (k - 1) ∧ w * (k - 1) ≤ 56 := by
    intro w h1 h2 k h3 h4
    have : 0 ≤ w * (k - 1) := Int.mul_nonneg (by omega) (by omega)
    have h5 : w * (k - 1) ≤ 8 * (k - 1) := Int.mul_le_mul_of_nonneg_right h2 (by omega)
    omega
  have k1 := key p.W hw hw2 p.H hh hh2
  have k2 := key p.H hh hh2 p.W hw hw2
  rw [w64_id (x := p.H - 1) (by omega) (by omega), w64_id (x := p.W - 1) (by omega) (by omega), w64_id (x := p.W * (p.H - 1)) (by omega) (by omega), w64_id (x := p.H * (p.W - 1)) (by omega) (by omega), w64_id (by omega) (by omega)] at hl
  exact ⟨⟨hw, hw2⟩, ⟨hh, hh2⟩, hl, ha, by omega⟩
def hasB (p : SPanel) (a : SPoint) : Bool := ((decide (0 ≤ a.X) && decide (a.X ≤ w64 (2 * p.W))) && (decide (0 ≤ a.Y) && decide (a.Y ≤ w64 (2 * p.H)))) && ((w64 (a.X + a.Y)).tmod 2 == 1)
def edgeB (p : SPanel) (a : SPoint) : Bool := (((a.X == 0) || (a.Y == 0)) || (a.X == w64 (2 * p.W))) || (a.Y == w64 (2 * p.H))
def codeOf (p : SPanel) (a : SPoint) : Int := bif !panelB p then 1 else bif !hasB p a then 2 else bif edgeB p a then 6 else 0
theorem codeOf_cases (p : SPanel) (a : SPoint) : codeOf p a = 1 ∨ codeOf p a = 2 ∨ codeOf p a = 6 ∨ codeOf p a = 0 := by
  unfold codeOf
  cases panelB p <;> cases hasB p a <;> cases edgeB p a <;> simp

/-! moves -/
def coB (x : Int) : Bool := decide (-100000 ≤ x) && decide (x ≤ 100000)
def moveB (m : SToolMove) : Bool := (coB m.X && coB m.Y) && (decide (-500 ≤ m.Z) && decide (m.Z ≤ 500))
def movesB (q : List SToolMove) : Bool := q.all moveB && decide (q.length ≤ 700)

theorem l22Ok_eq (q : List SToolMove) (h : q.length ≤ 1048576) : sh85 q = some (movesB q) := by
  unfold sh85 movesB
  rw [iter_all (xs := q) (p := moveB) (r := false) (by omega) (fun k hk => ?_) (by simp [sh85_1]), bindS]
  · cases ha : q.all moveB
    · simp [elimS]
    · simp only [elimS, if_true, Bool.true_and]
      congr 1
      simp only [decide_eq_decide]; omega
  · have h2 : (k : Int) < q.length := by omega
    simp only [sh85_1, sh65, h2, decide_true, cond_true, getI_lt hk, bindS]
    rw [w64_id (x := (k : Int) + 1) (by omega) (by omega)]
    unfold moveB coB
    cases h0 : decide (-100000 ≤ q[k].X) && decide (q[k].X ≤ 100000) <;> cases h1 : decide (-100000 ≤ q[k].Y) && decide (q[k].Y ≤ 100000) <;> cases h3 : decide (-500 ≤ q[k].Z) && decide (q[k].Z ≤ 500) <;> rfl

theorem validMoves_eq (q : List SToolMove) (h : q.length ≤ 1048576) : sh87 q = some (movesB q) := by
  unfold sh87 movesB
  rw [iter_all (xs := q) (p := moveB) (r := false) (by omega) (fun k hk => ?_) (by simp [sh87_1]), bindS]
  · cases ha : q.all moveB
    · simp [elimS]
    · simp only [elimS, if_true, Bool.true_and]
      congr 1
      simp only [decide_eq_decide]; omega
  · have h2 : (k : Int) < q.length := by omega
    simp only [sh87_1, sh67, sh79, h2, decide_true, cond_true, getI_lt hk, bindS]
    rw [w64_id (x := (k : Int) + 1) (by omega) (by omega)]
    unfold moveB coB
    cases h0 : decide (-100000 ≤ q[k].X) && decide (q[k].X ≤ 100000) <;> cases h1 : decide (-100000 ≤ q[k].Y) && decide (q[k].Y ≤ 100000) <;> cases h3 : decide (-500 ≤ q[k].Z) && decide (q[k].Z ≤ 500) <;> rfl

theorem movesB_len {q : List SToolMove} (h : movesB q = true) : q.length ≤ 700 := by
  unfold movesB at h
  simp only [Bool.and_eq_true, decide_eq_true_eq] at h
  exact h.2

/-! checkmoves -/
theorem cm_body (p : SPanel) (q : List SToolMove) (u r d : Int) (hl : q.length ≤ 1048576) (k : Nat) (hk : k < q.length) : ∃ b : Bool,
    sh57_1 p q u r d (k : Int) = some (if b = true then .inr (.inr ((k : Int), 0)) else .inl (((k + 1 : Nat) : Int))) ∧ sh59_1 p q u r d (k : Int) = some (if b = true then .inr (.inr ((k : Int), 0)) else .inl (((k + 1 : Nat) : Int))) := by
  have h2 : (k : Int) < q.length := by omega
  have hw1 : w64 ((k : Int) + 1) = ((k + 1 : Nat) : Int) := by rw [w64_id (by omega) (by omega)]; omega
  by_cases h0 : k = 0
  · subst h0
    have hd0 : decide ((0 : Int) < ((0 : Nat) : Int)) = false := rfl
    simp only [sh57_1, sh59_1, sh65, sh79, h2, decide_true, cond_true, getI_lt hk, bindS, hw1, hd0, Bool.false_and, cond_false]
    generalize (decide (w64 (0 - r) ≤ q[0].X) && decide (q[0].X ≤ w64 (w64 (w64 (2 * p.W) * u) + r))) = A
    generalize (decide (w64 (0 - r) ≤ q[0].Y) && decide (q[0].Y ≤ w64 (w64 (w64 (2 * p.H) * u) + r))) = B
    generalize decide (q[0].Z < 0) = Z
    generalize decide (q[0].Z < w64 (0 - d)) = D
    refine ⟨((Z && (!A || !B)) || D), ?_, ?_⟩ <;> cases A <;> cases B <;> cases Z <;> cases D <;> rfl
  · have hd0 : decide ((0 : Int) < (k : Int)) = true := decide_eq_true (by omega)
    have hw2 : w64 ((k : Int) - 1) = ((k - 1 : Nat) : Int) := by rw [w64_id (by omega) (by omega)]; omega
    have hk1 : k - 1 < q.length := by omega
    simp only [sh57_1, sh59_1, sh65, sh79, h2, decide_true, cond_true, getI_lt hk, getI_lt hk1, bindS, hw1, hw2, hd0, Bool.true_and]
    rw [show (q[k].X != q[k - 1].X) = (q[k - 1].X != q[k].X) from bne_comm, show (q[k].Y != q[k - 1].Y) = (q[k - 1].Y != q[k].Y) from bne_comm]
    generalize (decide (w64 (0 - r) ≤ q[k].X) && decide (q[k].X ≤ w64 (w64 (w64 (2 * p.W) * u) + r))) = A
    generalize (decide (w64 (0 - r) ≤ q[k].Y) && decide (q[k].Y ≤ w64 (w64 (w64 (2 * p.H) * u) + r))) = B
    generalize decide (q[k].Z < 0) = Z
    generalize decide (q[k].Z < w64 (0 - d)) = D
    generalize decide (0 ≤ q[k - 1].Z) = P
    generalize (q[k - 1].X != q[k].X) = X
    generalize (q[k - 1].Y != q[k].Y) = Y
    refine ⟨((Z && (!A || !B)) || D) || (Z && (P && (X || Y))), ?_, ?_⟩ <;> cases A <;> cases B <;> cases Z <;> cases D <;> cases P <;> cases X <;> cases Y <;> rfl
theorem cm_end (p : SPanel) (q : List SToolMove) (u r d : Int) : sh57_1 p q u r d (q.length : Int) = some (.inr (.inl ())) ∧ sh59_1 p q u r d (q.length : Int) = some (.inr (.inl ())) := by
  have hd : decide ((q.length : Int) < (q.length : Int)) = false := by simp
  constructor
  · simp only [sh57_1, hd, cond_false]
  · simp only [sh59_1, hd, cond_false]
theorem cm_loop (p : SPanel) (q : List SToolMove) (u r d : Int) (hl : q.length ≤ 1048576) : ∃ y, iter (sh57_1 p q u r d) 0 = some y ∧ iter (sh59_1 p q u r d) 0 = some y := by
  have e : iter (sh57_1 p q u r d) 0 = iter (sh59_1 p q u r d) 0 := by
    refine iter_congr (fun i => ∃ k : Nat, i = (k : Int) ∧ k ≤ q.length) ⟨0, rfl, by omega⟩ ?_
    rintro _ ⟨k, rfl, hk⟩
    by_cases hk2 : k < q.length
    · obtain ⟨b, h1, h2⟩ := cm_body p q u r d hl k hk2
      refine ⟨by rw [h1, h2], fun s' hs => ?_⟩
      rw [h2] at hs
      cases b
      · simp at hs; exact ⟨k + 1, by omega, by omega⟩
      · simp at hs
    · have hkl : k = q.length := by omega
      subst hkl
      obtain ⟨h1, h2⟩ := cm_end p q u r d
      refine ⟨by rw [h1, h2], fun s' hs => ?_⟩
      rw [h2] at hs
      simp at hs
  obtain ⟨y, hy, _⟩ := iter_inv (sb := sh57_1 p q u r d) (fun i => ∃ k : Nat, i = (k : Int) ∧ k ≤ q.length) (fun i => q.length - i.toNat) (fun (_ : Unit ⊕ (Int × Int)) => True) (s0 := 0) ⟨0, rfl, by omega⟩ (by show q.length - (0 : Int).toNat < 4611686018427387904; omega) (by
    rintro _ ⟨k, rfl, hk⟩
    by_cases hk2 : k < q.length
    · obtain ⟨b, h1, h2⟩ := cm_body p q u r d hl k hk2
      rw [h1]
      cases b
      · left; exact ⟨_, rfl, ⟨k + 1, rfl, by omega⟩, by show q.length - (((k + 1 : Nat) : Int)).toNat < q.length - ((k : Nat) : Int).toNat; omega⟩
      · right; exact ⟨_, rfl, trivial⟩
    · have hkl : k = q.length := by omega
      subst hkl
      right
      exact ⟨_, (cm_end p q u r d).1, trivial⟩)
  exact ⟨y, hy, by rw [← e, hy]⟩
theorem checkMoves_total (p : SPanel) (q : List SToolMove) (u r d : Int) (h : p.Breaks.length ≤ 1048576) (hl : q.length ≤ 1048576) : ∃ z, sh57 p q u r d = some z ∧ sh59 p q u r d = some z := by
  unfold sh57 sh59
  rw [l02Ok_eq p h, validPanel_eq p h, l22Ok_eq q hl, validMoves_eq q hl]
  simp only [bindS, sh65, sh79, sh102, sh119]
  obtain ⟨y, h1, h2⟩ := cm_loop p q u r d hl
  rw [h1, h2]
  generalize (decide (1 ≤ u) && decide (u ≤ 1000)) = U
  generalize (decide (0 ≤ r) && decide (r ≤ 200)) = R
  generalize (decide (1 ≤ d) && decide (d ≤ 500)) = D
  cases panelB p <;> cases movesB q <;> cases U <;> cases R <;> cases D <;> cases y <;> exact ⟨_, rfl, rfl⟩
theorem szToolMoveS_gen (xs : List SToolMove) (m : Int) (h : xs.length ≤ 9223372036854775807) (h0 : 0 ≤ m) (h1 : m ≤ 1048576) : ∃ z, sh38 xs m = some z ∧ (xs.length ≤ 1048576 ∨ z < 0) := by
  unfold sh38
  rw [w64_id (by omega) (by omega)]
  by_cases hl : m - (xs.length : Int) < 0
  · rw [decide_eq_true hl]; exact ⟨_, rfl, .inr (by omega)⟩
  · rw [decide_eq_false hl]; exact ⟨_, rfl, .inl (by omega)⟩

/-! FnExactCheckMoves -/
theorem law13 (p : SPanel) (q : List SToolMove) (u r d : Int) (hk0 : okSPanel p) (hl1 : q.length ≤ maxLen) : sh13 p q u r d = some true := by
  unfold sh13
  have hm : maxLen = 9223372036854775807 := rfl
  have hb := hk0.2.2.1
  rw [szPanel_eq p (by omega), bindS]
  by_cases h : p.Breaks.length ≤ 1048576
  · have hd : decide ((1048576 : Int) - (p.Breaks.length : Int) < 0) = false := decide_eq_false (by omega)
    rw [if_pos h, hd, cond_false]
    obtain ⟨z, hz, hz2⟩ := szToolMoveS_gen q (1048576 - (p.Breaks.length : Int)) (by omega) (by omega) (by omega)
    rw [hz, bindS]
    by_cases hz0 : z < 0
    · rw [decide_eq_true hz0]; rfl
    · have hl : q.length ≤ 1048576 := hz2.elim id (fun h => absurd h hz0)
      obtain ⟨y, h1, h2⟩ := checkMoves_total p q u r d h hl
      rw [decide_eq_false hz0, cond_false]
      simp only [toPanel_eq p h, toToolMoveS_eq q hl, bindS, h1, h2, bne_self_eq_false, Bool.or_self, cond_false, eqPanel_refl p h, eqToolMoveS_eq q q hl, decide_true, Bool.not_true]
  · rw [if_neg h]; rfl
end Go.Sh
