/- Plain laws: what the shallow functions come to. -/
import Derived.Test.YtinipjijgggjkaaF11W2
set_option linter.unusedVariables false
set_option linter.unusedSimpArgs false
namespace Go.Sh
open Go Go.RowKit

/-! to_i64s -/
theorem toI64_eq (xs : List Int) (h : xs.length ≤ 1048576) : sh32 xs = some xs := by
  unfold sh32
  rw [mkL_ok (by omega), bindS, iter_copy (xs := xs) (by omega) (fun i ys => rfl), bindS]

/-! eq_i64s -/
theorem eqI64_eq (xs ys : List Int) (h : xs.length ≤ 1048576) : sh34 xs ys = some (decide (xs = ys)) := by
  unfold sh34
  by_cases hl : xs.length = ys.length
  · have h1 : ((xs.length : Int) != (ys.length : Int)) = false := by simp; omega
    rw [h1, cond_false, iter_eq (xs := xs) (ys := ys) (by omega) hl (fun k hk => ?_) (by simp [sh34_1]), bindS]
    · by_cases he : xs = ys <;> simp [he, elimS]
    · have h2 : (k : Int) < xs.length := by omega
      have h3 : k < ys.length := by omega
      simp only [sh34_1, h2, decide_true, cond_true, getI_lt hk, getI_lt h3, bindS]
      rw [w64_id (by omega) (by omega)]
      by_cases he : xs[k] = ys[k]
      · simp [he]
      · rw [if_neg he, show (xs[k] != ys[k]) = true from bne_iff_ne.2 he]
        rfl
  · have h1 : ((xs.length : Int) != (ys.length : Int)) = true := by simp; omega
    rw [h1, cond_true]
    have : xs ≠ ys := fun h => hl (by rw [h])
    simp [this]

/-! mark_i64s -/
/-- The numbers that are laid into a result to see whether it is of one's own. -/
def marksFrom (m : Int) (n : Nat) : List Int := (List.range n).map fun (i : Nat) => m + (i : Int)
theorem marksFrom_length (m : Int) (n : Nat) : (marksFrom m n).length = n := by simp [marksFrom]
theorem marksFrom_get (m : Int) (n k : Nat) (h : k < n) : (marksFrom m n)[k]'(by rw [marksFrom_length]; exact h) = m + k := by simp [marksFrom]
theorem marksFrom_succ (m : Int) (k : Nat) : marksFrom m (k + 1) = marksFrom m k ++ [m + k] := by simp [marksFrom, List.range_succ]

theorem markI64_eq (xs : List Int) (m : Int) (h0 : 0 ≤ m) (h1 : m ≤ 1099511627776) (h : xs.length ≤ 1099511627776) : sh37 xs m = some (m + xs.length, marksFrom m xs.length) := by
  unfold sh37
  have hi := iter_steps (sb := sh37_1 xs) (fun k => (m + (k : Int), (k : Int), marksFrom m k ++ xs.drop k)) xs.length (x := (m + xs.length, marksFrom m xs.length)) (by omega) (fun k hk => ?_) ?_
  · simp only [List.drop_zero] at hi
    rw [show marksFrom m 0 ++ xs = xs from rfl] at hi
    simp only [Int.natCast_zero, Int.add_zero] at hi
    rw [hi, bindS]
  · have h2 : (k : Int) < xs.length := by omega
    have hl : k < (marksFrom m k ++ xs.drop k).length := by rw [List.length_append, marksFrom_length, List.length_drop]; omega
    simp only [sh37_1, h2, decide_true, cond_true, getI_lt hl, bindS, Int.toNat_natCast]
    rw [w64_id (by omega) (by omega), w64_id (by omega) (by omega), List.set_append, if_neg (by rw [marksFrom_length]; omega), marksFrom_length, Nat.sub_self, List.drop_eq_getElem_cons hk, List.set_cons_zero, marksFrom_succ, List.append_assoc]
    simp only [Option.some.injEq, Sum.inl.injEq, Prod.mk.injEq]
    refine ⟨by omega, by omega, rfl⟩
  · have hd : decide ((xs.length : Int) < (xs.length : Int)) = false := by simp
    simp only [sh37_1, hd, cond_false, List.drop_length, List.append_nil]

theorem heldI64_eq (m : Int) (n : Nat) (h0 : 0 ≤ m) (h1 : m ≤ 1099511627776) (h : n ≤ 1099511627776) : sh38 (marksFrom m n) m = some (m + n) := by
  unfold sh38
  have hi := iter_steps (sb := sh38_1 (marksFrom m n)) (fun k => (m + (k : Int), (k : Int))) n (x := .inl (m + n)) (by omega) (fun k hk => ?_) ?_
  · simp only [Int.natCast_zero, Int.add_zero] at hi
    rw [hi, bindS]
    rfl
  · have h2 : (k : Int) < (marksFrom m n).length := by rw [marksFrom_length]; omega
    have hl : k < (marksFrom m n).length := by rw [marksFrom_length]; exact hk
    simp only [sh38_1, h2, decide_true, cond_true, getI_lt hl, bindS, marksFrom_get m n k hk, bne_self_eq_false, cond_false]
    rw [w64_id (by omega) (by omega), w64_id (by omega) (by omega)]
    simp only [Option.some.injEq, Sum.inl.injEq, Prod.mk.injEq]
    refine ⟨by omega, by omega⟩
  · have hd : decide ((n : Int) < ((marksFrom m n).length : Int)) = false := by rw [marksFrom_length]; simp
    simp only [sh38_1, hd, cond_false]

/-! iters -/
theorem w64_lo (x : Int) : -9223372036854775808 ≤ w64 x := by
  have := IntKind.wrap_i64 x
  show _ ≤ IntKind.i64.wrap x
  omega
theorem w64_hi (x : Int) : w64 x ≤ 9223372036854775807 := by
  have := IntKind.wrap_i64 x
  show IntKind.i64.wrap x ≤ _
  omega
theorem getI_toNat {T : Type} {xs : List T} {i : Int} (h0 : 0 ≤ i) (h : i.toNat < xs.length) : getI xs i = some xs[i.toNat] := by
  unfold getI; rw [if_pos h0]; exact List.getElem?_eq_getElem h
theorem nzI_ok {a : Int} (h : a ≠ 0) : nzI a = some a := by simp [nzI, h]

/-- The loop that looks for the first element that passes. -/
theorem iter_find {T : Type} {sb : Int → Option (Int ⊕ (Unit ⊕ Int))} {xs : List T} {p : T → Bool} (hl : xs.length < 1099511627776)
    (hsb : ∀ (k : Nat) (h : k < xs.length), sb (k : Int) = if p xs[k] = true then some (.inr (.inr (k : Int))) else some (.inl ((k : Int) + 1))) (he : sb (xs.length : Int) = some (.inr (.inl ()))) :
    iter sb 0 = some (if xs.any p = true then .inr (xs.findIdx p : Int) else .inl ()) := by
  have h := iter_res (sb := sb) (fun k => (k : Int)) (fun k => if (xs.drop k).any p = true then (.inr (k + (xs.drop k).findIdx p : Nat) : Unit ⊕ Int) else .inl ()) xs.length (by omega) (fun k hk => ?_) (by
    rw [he, List.drop_of_length_le (Nat.le_refl _)]; simp)
  · simpa using h
  · rw [hsb k hk, List.drop_eq_getElem_cons hk]
    by_cases hx : p xs[k] = true
    · right
      rw [if_pos hx]
      simp only [List.any_cons, hx, Bool.true_or, if_true, List.findIdx_cons, cond_true, Nat.add_zero]
    · left
      rw [if_neg hx]
      refine ⟨by simp, ?_⟩
      have hx' : p xs[k] = false := by simpa using hx
      simp only [List.any_cons, hx', Bool.false_or, List.findIdx_cons, cond_false]
      split <;> simp
      omega

theorem iterN_congr {σ ρ : Type} {sb1 sb2 : σ → Option (σ ⊕ ρ)} (I : σ → Prop) (hs : ∀ s, I s → sb1 s = sb2 s ∧ ∀ s', sb2 s = some (.inl s') → I s') : ∀ (n : Nat) (s : σ), I s → iterN sb1 n s = iterN sb2 n s
  | 0, _, _ => rfl
  | n + 1, s, h => by
    obtain ⟨h1, h2⟩ := hs s h
    simp only [iterN, h1]
    cases hb : sb2 s with
    | none => rfl
    | some o =>
      cases o with
      | inl s' => exact iterN_congr I hs n s' (h2 s' hb)
      | inr x => rfl
/-- Two loops whose bodies agree where the invariant holds. -/
theorem iter_congr {σ ρ : Type} {sb1 sb2 : σ → Option (σ ⊕ ρ)} (I : σ → Prop) {s0 : σ} (h0 : I s0) (hs : ∀ s, I s → sb1 s = sb2 s ∧ ∀ s', sb2 s = some (.inl s') → I s') : iter sb1 s0 = iter sb2 s0 :=
  iterN_congr I hs FUEL s0 h0

/-- A loop over a list, as a fold. -/
theorem iter_fold {T σ S ρ : Type} {sb : S → Option (S ⊕ ρ)} (xs : List T) (st : Nat → σ → S) (g : σ → T → σ) (h : σ → ρ) (I : Nat → σ → Prop) (s0 : σ) (h0 : I 0 s0) (hl : xs.length < 1099511627776)
    (hsb : ∀ (k : Nat) (hk : k < xs.length) s, I k s → sb (st k s) = some (.inl (st (k + 1) (g s xs[k]))) ∧ I (k + 1) (g s xs[k])) (he : ∀ s, I xs.length s → sb (st xs.length s) = some (.inr (h s))) :
    iter sb (st 0 s0) = some (h (xs.foldl g s0)) ∧ I xs.length (xs.foldl g s0) := by
  have hI : ∀ k, k ≤ xs.length → I k ((xs.take k).foldl g s0) := by
    intro k
    induction k with
    | zero => intro _; simpa using h0
    | succ k ih =>
      intro hk
      rw [List.take_succ_eq_append_getElem (by omega), List.foldl_append]
      exact (hsb k (by omega) _ (ih (by omega))).2
  have hlast := hI xs.length (Nat.le_refl _)
  rw [List.take_length] at hlast
  refine ⟨?_, hlast⟩
  refine iter_steps (fun k => st k ((xs.take k).foldl g s0)) xs.length (by omega) (fun k hk => ?_) (by rw [List.take_length]; exact he _ hlast)
  rw [(hsb k hk _ (hI k (by omega))).1, List.take_succ_eq_append_getElem hk, List.foldl_append]
  rfl

/-- The greater one. -/
def mx (a b : Int) : Int := if a < b then b else a
def mn (a b : Int) : Int := if b < a then b else a
theorem mx_comm' (a b : Int) : (if b < a then a else b) = mx a b := by unfold mx; split <;> split <;> omega
theorem foldl_snoc {α β : Type} (f : α → β) : ∀ (xs : List α) (a : List β), xs.foldl (fun acc m => acc ++ [f m]) a = a ++ xs.map f
  | [], a => by simp
  | x :: xs, a => by rw [List.foldl_cons, foldl_snoc f xs]; simp

/-! panel -/
theorem szInt64S_eq (xs : List Int) (h : xs.length ≤ 9223372036854775807) : sh81 xs 1048576 = some (if xs.length ≤ 1048576 then (1048576 - xs.length : Int) else -1) := by
  unfold sh81
  rw [w64_id (by omega) (by omega)]
  by_cases hl : xs.length ≤ 1048576
  · rw [if_pos hl, show decide ((1048576 : Int) - (xs.length : Int) < 0) = false from decide_eq_false (by omega)]; rfl
  · rw [if_neg hl, show decide ((1048576 : Int) - (xs.length : Int) < 0) = true from decide_eq_true (by omega)]; rfl
theorem szPanel_eq (p : SPanel) (h : p.Breaks.length ≤ 9223372036854775807) : sh15 p 1048576 = some (if p.Breaks.length ≤ 1048576 then (1048576 - p.Breaks.length : Int) else -1) := by
  unfold sh15
  rw [szInt64S_eq _ h, bindS]
  by_cases hl : p.Breaks.length ≤ 1048576
  · rw [if_pos hl, show decide ((1048576 : Int) - (p.Breaks.length : Int) < 0) = false from decide_eq_false (by omega)]; rfl
  · rw [if_neg hl]; rfl
theorem toPanel_eq (p : SPanel) (h : p.Breaks.length ≤ 1048576) : sh17 p = some p := by
  unfold sh17
  rw [toI64_eq _ h, bindS]
theorem eqPanel_refl (p : SPanel) (h : p.Breaks.length ≤ 1048576) : sh19 p p = some true := by
  unfold sh19
  rw [bne_self_eq_false, bne_self_eq_false, eqI64_eq _ _ h]
  simp [bindS]
def brkB (k : Int) : Bool := decide (0 ≤ k) && decide (k ≤ 2)
def sideB (n : Int) : Bool := decide (1 ≤ n) && decide (n ≤ 8)
def innerN (w h : Int) : Int := w64 (w64 (w * w64 (h - 1)) + w64 (h * w64 (w - 1)))
def panelB (p : SPanel) : Bool := (sideB p.W && sideB p.H) && (((p.Breaks.length : Int) == innerN p.W p.H) && p.Breaks.all brkB)
theorem l02Ok_eq (p : SPanel) (h : p.Breaks.length ≤ 1048576) : sh82 p = some (panelB p) := by
  unfold sh82 panelB
  have hi : iter (sh82_1 p) 0 = some (if p.Breaks.all brkB = true then .inl () else .inr false) := iter_all (xs := p.Breaks) (by omega) (fun k hk => by
    have h2 : (k : Int) < p.Breaks.length := by omega
    simp only [sh82_1, sh127, h2, decide_true, cond_true, getI_lt hk, bindS]
    rw [w64_id (x := (k : Int) + 1) (by omega) (by omega)]
    unfold brkB
    cases decide (0 ≤ p.Breaks[k]) && decide (p.Breaks[k] ≤ 2) <;> rfl) (by simp [sh82_1])
  simp only [sh143, sh144, sh127, bindS, hi]
  show Option.bind (bif !(sideB p.W) then some true else some !(sideB p.H)) _ = _
  cases sideB p.W
  · rfl
  · cases sideB p.H
    · rfl
    · show (bif ((p.Breaks.length : Int) != innerN p.W p.H) then _ else _) = _
      simp only [bne]
      cases ((p.Breaks.length : Int) == innerN p.W p.H)
      · rfl
      · cases p.Breaks.all brkB <;> rfl
theorem validPanel_eq (p : SPanel) (h : p.Breaks.length ≤ 1048576) : sh86 p = some (panelB p) := by
  unfold sh86 panelB
  have hi : iter (sh86_1 p) 0 = some (if p.Breaks.all brkB = true then .inl () else .inr false) := iter_all (xs := p.Breaks) (by omega) (fun k hk => by
    have h2 : (k : Int) < p.Breaks.length := by omega
    simp only [sh86_1, sh148, sh125, h2, decide_true, cond_true, getI_lt hk, bindS]
    rw [w64_id (x := (k : Int) + 1) (by omega) (by omega)]
    unfold brkB
    cases decide (0 ≤ p.Breaks[k]) && decide (p.Breaks[k] ≤ 2) <;> rfl) (by simp [sh86_1])
  simp only [sh146, sh147, sh125, bindS, hi]
  show Option.bind (Option.bind (bif (sideB p.W) then some (sideB p.H) else some false) _) _ = _
  cases sideB p.W
  · rfl
  · cases sideB p.H
    · rfl
    · show (bif ((p.Breaks.length : Int) != innerN p.W p.H) then _ else _) = _
      simp only [bne]
      cases ((p.Breaks.length : Int) == innerN p.W p.H)
      · rfl
      · cases p.Breaks.all brkB <;> rfl
theorem panelB_facts {p : SPanel} (h : panelB p = true) : (1 ≤ p.W ∧ p.W ≤ 8) ∧ (1 ≤ p.H ∧ p.H ≤ 8) ∧ (p.Breaks.length : Int) = p.W * (p.H - 1) + p.H * (p.W - 1) ∧ (∀ k ∈ p.Breaks, 0 ≤ k ∧ k ≤ 2) ∧ p.Breaks.length ≤ 112 := by
  unfold panelB sideB brkB innerN at h
  simp only [Bool.and_eq_true, decide_eq_true_eq, List.all_eq_true, beq_iff_eq] at h
  obtain ⟨⟨⟨hw, hw2⟩, hh, hh2⟩, hl, ha⟩ := h
  have key : ∀ w : Int, 1 ≤ w → w ≤ 8 → ∀ k : Int, 1 ≤ k → k ≤ 8 → 0 ≤ w * (k - 1) ∧ w * (k - 1) ≤ 56 := by
    intro w h1 h2 k h3 h4
    have : 0 ≤ w * (k - 1) := Int.mul_nonneg (by omega) (by omega)
    have h5 : w * (k - 1) ≤ 8 * (k - 1) := Int.mul_le_mul_of_nonneg_right h2 (by omega)
    omega
  have k1 := key p.W hw hw2 p.H hh hh2
  have k2 := key p.H hh hh2 p.W hw hw2
  rw [w64_id (x := p.H - 1) (by omega) (by omega), w64_id (x := p.W - 1) (by omega) (by omega), w64_id (x := p.W * (p.H - 1)) (by omega) (by omega), w64_id (x := p.H * (p.W - 1)) (by omega) (by omega), w64_id (by omega) (by omega)] at hl
  exact ⟨⟨hw, hw2⟩, ⟨hh, hh2⟩, hl, ha, by omega⟩
def hasB (p : SPanel) (a : SPoint) : Bool := ((decide (0 ≤ a.X) && decide (a.X ≤ w64 (2 * p.W))) && (decide (0 ≤ a.Y) && decide (a.Y ≤ w64 (2 * p.H)))) && ((w64 (a.X + a.Y)).tmod 2 == 1)
def edgeB (p : SPanel) (a : SPoint) : Bool := (((a.X == 0) || (a.Y == 0)) || (a.X == w64 (2 * p.W))) || (a.Y == w64 (2 * p.H))
theorem l02Has_eq (p : SPanel) (a : SPoint) : sh177 p a = some (hasB p a) := by
  unfold sh177 sh127 hasB
  simp only [bindS]
  cases (decide (0 ≤ a.X) && decide (a.X ≤ w64 (2 * p.W))) <;> rfl
theorem l02Edge_eq (p : SPanel) (a : SPoint) : sh178 p a = some (edgeB p a) := rfl
def codeOf (p : SPanel) (a : SPoint) : Int := bif !panelB p then 1 else bif !hasB p a then 2 else bif edgeB p a then 6 else 0
theorem codeOf_cases (p : SPanel) (a : SPoint) : codeOf p a = 1 ∨ codeOf p a = 2 ∨ codeOf p a = 6 ∨ codeOf p a = 0 := by
  unfold codeOf
  cases panelB p <;> cases hasB p a <;> cases edgeB p a <;> simp

/-! panel_at -/
theorem markPanel_at (p : SPanel) (h : p.Breaks.length ≤ 1048576) : sh28 p 1 = some ((1 : Int) + p.Breaks.length, marksFrom 1 p.Breaks.length) := by
  unfold sh28
  rw [markI64_eq _ _ (by omega) (by omega) (by omega), bindS]

/-! walkers -/
structure Dim (p : SPanel) : Prop where
  w1 : 1 ≤ p.W
  w2 : p.W ≤ 8
  h1 : 1 ≤ p.H
  h2 : p.H ≤ 8
  bl : (p.Breaks.length : Int) = p.W * (p.H - 1) + p.H * (p.W - 1)
theorem dim_of {p : SPanel} (h : panelB p = true) : Dim p := let ⟨h1, h2, h3, _⟩ := panelB_facts h; ⟨h1.1, h1.2, h2.1, h2.2, h3⟩
theorem eight {n : Int} (h1 : 1 ≤ n) (h2 : n ≤ 8) : n = 1 ∨ n = 2 ∨ n = 3 ∨ n = 4 ∨ n = 5 ∨ n = 6 ∨ n = 7 ∨ n = 8 := by omega
def numF (p : SPanel) (x y : Int) : Int := (y - 1) * p.W - y / 2 + (x - 1) / 2
def brkF (p : SPanel) (x y : Int) : Int := if x = 0 ∨ x = 2 * p.W ∨ y = 0 ∨ y = 2 * p.H then 0 else p.Breaks.getD (numF p x y).toNat 0
theorem brk_edge {p : SPanel} {x y : Int} (h : x = 0 ∨ x = 2 * p.W ∨ y = 0 ∨ y = 2 * p.H) : brkF p x y = 0 := if_pos h

/-! steps -/
theorem mul_small {a H : Int} (h1 : 1 ≤ H) (h2 : H ≤ 8) (ha : 0 ≤ a) (ha2 : a ≤ 40) : 0 ≤ a * H ∧ a * H ≤ 320 := by
  rcases eight h1 h2 with e | e | e | e | e | e | e | e <;> subst e <;> omega
/-- An inner point. -/
def inr (p : SPanel) (x y : Int) : Prop := (1 ≤ x ∧ x ≤ 2 * p.W - 1) ∧ (1 ≤ y ∧ y ≤ 2 * p.H - 1) ∧ (x + y) % 2 = 1
theorem num_bd {p : SPanel} (hd : Dim p) {x y : Int} (h : inr p x y) : 0 ≤ numF p x y ∧ numF p x y < p.Breaks.length := by
  obtain ⟨w1, w2, h1, h2, bl⟩ := hd
  obtain ⟨⟨a1, a2⟩, ⟨a3, a4⟩, a5⟩ := h
  rw [bl]
  unfold numF
  clear bl
  generalize p.W = W at *
  generalize p.H = H at *
  rcases eight w1 w2 with e | e | e | e | e | e | e | e <;> subst e <;> constructor <;> omega
theorem row_spec {p : SPanel} (hd : Dim p) {y : Int} (h0 : 1 ≤ y) (h1 : y ≤ 16) : sh182 p y = some ((y - 1) * p.W - y / 2) := by
  obtain ⟨w1, w2, _, _, bl⟩ := hd
  clear bl
  unfold sh182
  obtain ⟨n, hn⟩ : ∃ n : Nat, y = n + 1 := ⟨(y - 1).toNat, by omega⟩
  have hi := iter_steps (sb := sh182_1 p y) (fun k => ((k : Int) * p.W - ((k : Int) + 1) / 2, (k : Int) + 1)) n (x := (y - 1) * p.W - y / 2) (by omega) (fun k hk => ?_) ?_
  · simp only [Int.natCast_zero, Int.zero_mul] at hi
    rw [show (0 : Int) - (0 + 1) / 2 = 0 by omega, show (0 : Int) + 1 = 1 by omega] at hi
    rw [hi, bindS]
  · have h2 : (k : Int) + 1 < y := by omega
    have hm : 0 ≤ (k : Int) * p.W ∧ (k : Int) * p.W ≤ 320 := by have := mul_small (a := (k : Int)) w1 w2 (by omega) (by omega); exact this
    have e6 : ((k : Int) + 1).tmod 2 = ((k : Int) + 1) % 2 := Int.tmod_eq_emod_of_nonneg (by omega)
    have hms : ((k + 1 : Nat) : Int) * p.W = (k : Int) * p.W + p.W := by rw [Int.natCast_add, Int.add_mul]; simp
    simp only [sh182_1, h2, decide_true, cond_true, e6]
    rw [hms]
    generalize (k : Int) * p.W = m at *
    rw [w64_id (x := m - ((k : Int) + 1) / 2 + p.W) (by omega) (by omega), w64_id (x := (k : Int) + 1 + 1) (by omega) (by omega), w64_id (x := m - ((k : Int) + 1) / 2 + p.W - 1) (by omega) (by omega)]
    by_cases hy : ((k : Int) + 1) % 2 = 1
    · rw [beq_iff_eq.2 hy, cond_true, bindS]
      simp only [Option.some.injEq, Sum.inl.injEq, Prod.mk.injEq]
      refine ⟨by omega, by omega⟩
    · rw [beq_eq_false_iff_ne.2 hy, cond_false, bindS]
      simp only [Option.some.injEq, Sum.inl.injEq, Prod.mk.injEq]
      refine ⟨by omega, by omega⟩
  · have hd : decide ((n : Int) + 1 < y) = false := decide_eq_false (by omega)
    simp only [sh182_1, hd, cond_false]
    rw [hn, show (n : Int) + 1 - 1 = (n : Int) by omega]
theorem number_spec {p : SPanel} (hd : Dim p) {x y : Int} (h : inr p x y) : sh179 p ⟨x, y⟩ = some (numF p x y) := by
  have hb := num_bd hd h
  have hd' := hd
  obtain ⟨w1, w2, h1, h2, bl⟩ := hd
  obtain ⟨⟨a1, a2⟩, ⟨a3, a4⟩, a5⟩ := h
  unfold sh179
  rw [show (SPoint.mk x y).Y = y from rfl, show (SPoint.mk x y).X = x from rfl, row_spec hd' (by omega) (by omega), bindS, w64_id (x := x - 1) (by omega) (by omega), Int.tdiv_eq_ediv_of_nonneg (by omega), w64_id (x := (x - 1) / 2) (by omega) (by omega)]
  have hm := mul_small (a := y - 1) w1 w2 (by omega) (by omega)
  unfold numF
  rw [w64_id (by omega) (by omega)]
theorem beq_dec (a b : Int) : (a == b) = decide (a = b) := by
  by_cases h : a = b
  · subst h; simp
  · rw [beq_eq_false_iff_ne.2 h, decide_eq_false h]
theorem ite_flip {c : Prop} [Decidable c] {α : Type} {a b : α} : (bif decide c then some a else some b) = some (if c then a else b) := by
  by_cases h : c <;> simp [h]

/-! points -/

/-! ptsn -/
/-! ### inner points, in their order -/
def rowK (p : SPanel) (y : Int) : Int := (y - 1) * p.W - y / 2
def cntK (p : SPanel) (y : Int) : Int := if y % 2 = 1 then p.W - 1 else p.W
theorem rowK_succ (p : SPanel) (y : Int) (_h : 1 ≤ y) : rowK p (y + 1) = rowK p y + cntK p y := by
  have e : (y + 1 - 1) * p.W = (y - 1) * p.W + p.W := by grind
  unfold rowK cntK
  rw [e]
  split <;> omega
theorem rowK_mono {p : SPanel} (hw : 1 ≤ p.W) {a b : Int} (h : a ≤ b) : rowK p a ≤ rowK p b := by
  have e : (b - 1) * p.W = (a - 1) * p.W + (b - a) * p.W := by rw [← Int.add_mul]; congr 1; omega
  have m : (b - a) * 1 ≤ (b - a) * p.W := Int.mul_le_mul_of_nonneg_left hw (by omega)
  unfold rowK
  rw [e]
  omega
def rowPts (p : SPanel) (y : Int) : List SPoint := (List.range (cntK p y).toNat).map fun (j : Nat) => ⟨1 + y % 2 + 2 * (j : Int), y⟩
def ptsN (p : SPanel) : Nat → List SPoint
  | 0 => []
  | n + 1 => ptsN p n ++ rowPts p ((n : Int) + 1)
theorem ptsN_len {p : SPanel} (hd : Dim p) : ∀ n : Nat, ((ptsN p n).length : Int) = rowK p ((n : Int) + 1)
  | 0 => by simp [ptsN, rowK]
  | n + 1 => by
    have ih := ptsN_len hd n
    have hs := rowK_succ p ((n : Int) + 1) (by omega)
    have hc : 0 ≤ cntK p ((n : Int) + 1) := by have := hd.w1; unfold cntK; split <;> omega
    unfold ptsN
    rw [List.length_append, Int.natCast_add, ih, Int.natCast_add]
    unfold rowPts
    rw [List.length_map, List.length_range, Int.toNat_of_nonneg hc]
    simp only [Int.natCast_one]
    omega
theorem inner_pts {p : SPanel} (hd : Dim p) {y : Int} (h1 : 1 ≤ y) (h2 : y < 2 * p.H) (l : List SPoint) (hl : l.length ≤ 1000) : iter (sh149_2 p y) (w64 (1 + (y.tmod 2)), l) = some (l ++ rowPts p y) := by
  have d1 := hd.w1; have d2 := hd.w2; have d3 := hd.h2
  have hc : 0 ≤ cntK p y := by unfold cntK; split <;> omega
  have hc2 : cntK p y ≤ 8 := by unfold cntK; split <;> omega
  have hm : y.tmod 2 = y % 2 := Int.tmod_eq_emod_of_nonneg (by omega)
  have hw : w64 (2 * p.W) = 2 * p.W := w64_id (by omega) (by omega)
  have h0 : w64 (1 + (y.tmod 2)) = 1 + y % 2 + 2 * ((0 : Nat) : Int) := by rw [hm, w64_id (by omega) (by omega)]; omega
  have hrl : (rowPts p y).length = (cntK p y).toNat := by unfold rowPts; rw [List.length_map, List.length_range]
  have hi := iter_steps (sb := sh149_2 p y) (fun j => (1 + y % 2 + 2 * (j : Int), l ++ (rowPts p y).take j)) (cntK p y).toNat (x := l ++ rowPts p y) (by omega) (fun j hj => ?_) ?_
  · rw [h0]
    simpa using hi
  · have hd1 : decide (1 + y % 2 + 2 * (j : Int) < 2 * p.W) = true := by
      refine decide_eq_true ?_
      unfold cntK at hj hc
      split at hj <;> omega
    have hjl : j < (rowPts p y).length := by omega
    simp only [sh149_2, hw, hd1, cond_true]
    rw [appL_ok (by simp only [List.length_append, List.length_take, List.length_cons, List.length_nil]; omega), bindS, w64_id (by omega) (by omega), List.take_succ_eq_append_getElem hjl, List.append_assoc]
    have e : (rowPts p y)[j] = ⟨1 + y % 2 + 2 * (j : Int), y⟩ := by simp [rowPts]
    rw [e, show 1 + y % 2 + 2 * (j : Int) + 2 = 1 + y % 2 + 2 * ((j + 1 : Nat) : Int) by omega]
  · have hd1 : decide (1 + y % 2 + 2 * (((cntK p y).toNat : Nat) : Int) < 2 * p.W) = false := by
      refine decide_eq_false ?_
      rw [Int.toNat_of_nonneg hc]
      unfold cntK
      split <;> omega
    simp only [sh149_2, hw, hd1, cond_false]
    rw [List.take_of_length_le (by omega)]
theorem ptsN_small {p : SPanel} (hd : Dim p) {n : Nat} (hn : n ≤ 15) : (ptsN p n).length ≤ 128 := by
  have h := ptsN_len hd n
  have d1 := hd.w1; have d2 := hd.w2
  have m : (n : Int) * p.W ≤ 15 * 8 := Int.mul_le_mul (by omega) d2 (by omega) (by omega)
  unfold rowK at h
  rw [show (n : Int) + 1 - 1 = n by omega] at h
  omega
theorem points_impl {p : SPanel} (hd : Dim p) : sh149 p = some (ptsN p (2 * p.H - 1).toNat) := by
  have d1 := hd.h1; have d2 := hd.h2
  have hw : w64 (2 * p.H) = 2 * p.H := w64_id (by omega) (by omega)
  unfold sh149
  have hi := iter_steps (sb := sh149_1 p) (fun n => ((n : Int) + 1, ptsN p n)) (2 * p.H - 1).toNat (x := ptsN p (2 * p.H - 1).toNat) (by omega) (fun n hn => ?_) ?_
  · have e0 : ptsN p 0 = [] := rfl
    simp only [Int.natCast_zero, Int.zero_add, e0] at hi
    rw [hi]; rfl
  · have hd1 : decide ((n : Int) + 1 < 2 * p.H) = true := decide_eq_true (by omega)
    have hs := ptsN_small hd (n := n) (by omega)
    simp only [sh149_1, hw, hd1, cond_true]
    rw [inner_pts hd (by omega) (by omega) _ (by omega), bindS, w64_id (by omega) (by omega)]
    rfl
  · have hd1 : decide ((((2 * p.H - 1).toNat : Nat) : Int) + 1 < 2 * p.H) = false := decide_eq_false (by omega)
    simp only [sh149_1, hw, hd1, cond_false]
theorem pts_count {p : SPanel} (hd : Dim p) : (ptsN p (2 * p.H - 1).toNat).length = p.Breaks.length := by
  have h := ptsN_len hd (2 * p.H - 1).toNat
  have h1 := hd.h1
  rw [Int.toNat_of_nonneg (by omega)] at h
  have hb := hd.bl
  unfold rowK at h
  have e : (2 * p.H - 1 + 1 - 1) * p.W = 2 * (p.W * p.H) - p.W := by grind
  have e1 : p.W * (p.H - 1) = p.W * p.H - p.W := by grind
  have e2 : p.H * (p.W - 1) = p.W * p.H - p.H := by grind
  rw [e] at h
  rw [e1, e2] at hb
  omega

/-! regions -/
/-! ### places, and what is joined -/
def onG (p : SPanel) (t : SPoint) : Prop := (0 ≤ t.X ∧ t.X ≤ 2 * p.W) ∧ (0 ≤ t.Y ∧ t.Y ≤ 2 * p.H) ∧ (t.X + t.Y) % 2 = 0
instance instOnG (p : SPanel) (t : SPoint) : Decidable (onG p t) := inferInstanceAs (Decidable (_ ∧ _ ∧ _))
instance instInr (p : SPanel) (x y : Int) : Decidable (inr p x y) := inferInstanceAs (Decidable (_ ∧ _ ∧ _))
/-- What stands at an inner point; 0 elsewhere. -/
def bk (p : SPanel) (x y : Int) : Int := if inr p x y then brkF p x y else 0
theorem bk_in {p : SPanel} {x y : Int} (h : bk p x y ≠ 0) : inr p x y := by
  unfold bk at h
  split at h
  · assumption
  · exact absurd rfl h
/-- A mirror joins two places. -/
def edgeE (b : Int) (m t n : SPoint) : Prop :=
  b ≠ 0 ∧ if b = 2 then (t = ⟨m.X - 1, m.Y⟩ ∧ n = ⟨m.X + 1, m.Y⟩) ∨ (t = ⟨m.X + 1, m.Y⟩ ∧ n = ⟨m.X - 1, m.Y⟩) else (t = ⟨m.X, m.Y - 1⟩ ∧ n = ⟨m.X, m.Y + 1⟩) ∨ (t = ⟨m.X, m.Y + 1⟩ ∧ n = ⟨m.X, m.Y - 1⟩)
def adj (p : SPanel) (t n : SPoint) : Prop := ∃ m, edgeE (bk p m.X m.Y) m t n
theorem edgeE_sym {b : Int} {m t n : SPoint} (h : edgeE b m t n) : edgeE b m n t := by
  unfold edgeE at *
  refine ⟨h.1, ?_⟩
  have h2 := h.2
  split at h2 <;> rename_i hb
  · rw [if_pos hb]; rcases h2 with h | h
    · exact .inr ⟨h.2, h.1⟩
    · exact .inl ⟨h.2, h.1⟩
  · rw [if_neg hb]; rcases h2 with h | h
    · exact .inr ⟨h.2, h.1⟩
    · exact .inl ⟨h.2, h.1⟩
theorem adj_sym {p : SPanel} {t n : SPoint} (h : adj p t n) : adj p n t := let ⟨m, h1⟩ := h; ⟨m, edgeE_sym h1⟩
theorem edge_onG {p : SPanel} {m t n : SPoint} (he : edgeE (bk p m.X m.Y) m t n) : onG p t ∧ onG p n := by
  have h := bk_in he.1
  unfold inr at h
  obtain ⟨_, he⟩ := he
  unfold onG
  split at he
  · rcases he with ⟨rfl, rfl⟩ | ⟨rfl, rfl⟩ <;> simp only <;> omega
  · rcases he with ⟨rfl, rfl⟩ | ⟨rfl, rfl⟩ <;> simp only <;> omega
theorem adj_onG {p : SPanel} {t n : SPoint} (h : adj p t n) : onG p t ∧ onG p n := let ⟨_, h1⟩ := h; edge_onG h1
theorem adj_par {p : SPanel} {t n : SPoint} (h : adj p t n) : n.X % 2 = t.X % 2 := by
  obtain ⟨m, _, he⟩ := h
  split at he
  · rcases he with ⟨rfl, rfl⟩ | ⟨rfl, rfl⟩ <;> simp only <;> omega
  · rcases he with ⟨rfl, rfl⟩ | ⟨rfl, rfl⟩ <;> rfl
/-- Places that are reached from a place. -/
inductive Rch (p : SPanel) (s : SPoint) : SPoint → Prop where
  | refl : Rch p s s
  | step {t n : SPoint} : Rch p s t → adj p t n → Rch p s n
theorem Rch.grid {p : SPanel} {s t : SPoint} (h : Rch p s t) (hs : onG p s) : onG p t := by
  cases h with
  | refl => exact hs
  | step _ h => exact (adj_onG h).2
theorem Rch.par {p : SPanel} {s t : SPoint} (h : Rch p s t) : t.X % 2 = s.X % 2 := by
  induction h with
  | refl => rfl
  | step _ h ih => rw [adj_par h, ih]
theorem Rch.trans {p : SPanel} {s t u : SPoint} (h : Rch p s t) (k : Rch p t u) : Rch p s u := by
  induction k with
  | refl => exact h
  | step _ hk ih => exact .step ih hk
theorem Rch.symm {p : SPanel} {s t : SPoint} (h : Rch p s t) : Rch p t s := by
  induction h with
  | refl => exact .refl
  | step _ hk ih => exact (Rch.step .refl (adj_sym hk)).trans ih
/-! ### the joined places in the reference -/
def nbS (p : SPanel) (t : SPoint) : List SPoint :=
  (if bk p t.X (t.Y - 1) = 1 then [(⟨t.X, t.Y - 2⟩ : SPoint)] else []) ++ (if bk p t.X (t.Y + 1) = 1 then [(⟨t.X, t.Y + 2⟩ : SPoint)] else []) ++
  (if bk p (t.X - 1) t.Y = 2 then [(⟨t.X - 2, t.Y⟩ : SPoint)] else []) ++ (if bk p (t.X + 1) t.Y = 2 then [(⟨t.X + 2, t.Y⟩ : SPoint)] else [])
theorem nbS_len (p : SPanel) (t : SPoint) : (nbS p t).length ≤ 4 := by
  unfold nbS
  simp only [List.length_append]
  have h : ∀ (c : Prop) [Decidable c] (x : SPoint), (if c then [x] else []).length ≤ 1 := fun c _ x => by split <;> simp
  have h1 := h (bk p t.X (t.Y - 1) = 1) ⟨t.X, t.Y - 2⟩
  have h2 := h (bk p t.X (t.Y + 1) = 1) ⟨t.X, t.Y + 2⟩
  have h3 := h (bk p (t.X - 1) t.Y = 2) ⟨t.X - 2, t.Y⟩
  have h4 := h (bk p (t.X + 1) t.Y = 2) ⟨t.X + 2, t.Y⟩
  omega
theorem is_eq {p : SPanel} (hd : Dim p) (t : SPoint) : sh84 p t = some (decide (onG p t)) := by
  have d1 := hd.w1; have d2 := hd.w2; have d3 := hd.h1; have d4 := hd.h2
  unfold sh84 sh127
  rw [w64_id (x := 2 * p.W) (by omega) (by omega), w64_id (x := 2 * p.H) (by omega) (by omega)]
  simp only [bindS]
  by_cases hx : 0 ≤ t.X ∧ t.X ≤ 2 * p.W
  · by_cases hy : 0 ≤ t.Y ∧ t.Y ≤ 2 * p.H
    · rw [w64_id (x := t.X + t.Y) (by omega) (by omega), Int.tmod_eq_emod_of_nonneg (by omega)]
      simp only [decide_eq_true hx.1, decide_eq_true hx.2, decide_eq_true hy.1, decide_eq_true hy.2, Bool.and_self, cond_true, bindS, Bool.true_and]
      congr 1
      rw [Bool.eq_iff_iff, beq_iff_eq, decide_eq_true_eq]
      exact ⟨fun h => ⟨hx, hy, h⟩, fun h => h.2.2⟩
    · have : (decide (0 ≤ t.Y) && decide (t.Y ≤ 2 * p.H)) = false := by
        rw [Bool.eq_false_iff]; simp only [ne_eq, Bool.and_eq_true, decide_eq_true_eq]; exact hy
      simp only [decide_eq_true hx.1, decide_eq_true hx.2, Bool.and_self, cond_true, bindS, this, Bool.false_and]
      rw [decide_eq_false (fun h : onG p t => hy h.2.1)]
  · have : (decide (0 ≤ t.X) && decide (t.X ≤ 2 * p.W)) = false := by
      rw [Bool.eq_false_iff]; simp only [ne_eq, Bool.and_eq_true, decide_eq_true_eq]; exact hx
    simp only [this, cond_false, bindS, Bool.false_and]
    rw [decide_eq_false (fun h : onG p t => hx h.1)]
theorem has_in {p : SPanel} (hd : Dim p) {m : SPoint} (hb : -100 ≤ m.X ∧ m.X ≤ 100 ∧ -100 ≤ m.Y ∧ m.Y ≤ 100) : (hasB p m && !edgeB p m) = decide (inr p m.X m.Y) := by
  have d1 := hd.w1; have d2 := hd.w2; have d3 := hd.h1; have d4 := hd.h2
  unfold hasB edgeB
  rw [w64_id (x := 2 * p.W) (by omega) (by omega), w64_id (x := 2 * p.H) (by omega) (by omega), w64_id (x := m.X + m.Y) (by omega) (by omega), Bool.eq_iff_iff]
  simp only [Bool.and_eq_true, Bool.not_eq_true', Bool.or_eq_false_iff, beq_eq_false_iff_ne, decide_eq_true_eq, beq_iff_eq]
  unfold inr
  constructor
  · rintro ⟨⟨⟨⟨a1, a2⟩, a3, a4⟩, a5⟩, ⟨⟨b1, b2⟩, b3⟩, b4⟩
    rw [Int.tmod_eq_emod_of_nonneg (by omega)] at a5
    omega
  · rintro ⟨⟨a1, a2⟩, ⟨a3, a4⟩, a5⟩
    rw [Int.tmod_eq_emod_of_nonneg (by omega)]
    omega
theorem dirL {p : SPanel} (hd : Dim p) (m to : SPoint) (bx by' : Bool) (l : List SPoint) (k' : Int) (hl : l.length ≤ 8) (hb : -100 ≤ m.X ∧ m.X ≤ 100 ∧ -100 ≤ m.Y ∧ m.Y ≤ 100) (hto : inr p m.X m.Y → onG p to) :
    (Option.bind (sh177 p m) fun x15 => Option.bind (bif !x15 then (some true) else (Option.bind (sh178 p m) fun x17 => some x17)) fun cb16 => (Option.bind (bif cb16 then (some true) else (Option.bind (sh84 p to) fun x19 => some !x19)) fun cb18 => (bif cb18 then (some (.inl (k', l))) else (Option.bind (sh179 p m) fun x21 => Option.bind (getI p.Breaks x21) fun x22 => Option.bind (bif ((x22 == 1) && bx) || ((x22 == 2) && by') then (Option.bind (appL l [to]) fun x28 => some x28) else (some l)) fun j23 => (some (.inl (k', j23))))))) =
    (some (.inl (k', l ++ if (bk p m.X m.Y = 1 ∧ bx = true) ∨ (bk p m.X m.Y = 2 ∧ by' = true) then [to] else [])) : Option ((Int × List SPoint) ⊕ List SPoint)) := by
  have hin := has_in hd hb
  rw [l02Has_eq, l02Edge_eq, is_eq hd]
  simp only [bindS]
  by_cases h : inr p m.X m.Y
  · rw [decide_eq_true h] at hin
    simp only [Bool.and_eq_true, Bool.not_eq_true'] at hin
    have hnum := number_spec hd h
    have hnb := num_bd hd h
    have hbk : bk p m.X m.Y = brkF p m.X m.Y := if_pos h
    have hbr : brkF p m.X m.Y = p.Breaks.getD (numF p m.X m.Y).toNat 0 := by
      obtain ⟨a1, a2, a3⟩ := h
      unfold brkF
      rw [if_neg (by omega)]
    have hg : getI p.Breaks (numF p m.X m.Y) = some (brkF p m.X m.Y) := by
      rw [hbr, getI_toNat hnb.1 (by omega), List.getD_eq_getElem?_getD, List.getElem?_eq_getElem (by omega)]; rfl
    rw [hin.1, hin.2, decide_eq_true (hto h)]
    have hnum' : sh179 p m = some (numF p m.X m.Y) := hnum
    simp only [Bool.not_true, cond_false, bindS, hnum', hg, hbk, appL_ok (show l.length + [to].length ≤ 1099511627776 by simp only [List.length_cons, List.length_nil]; omega)]
    generalize brkF p m.X m.Y = b
    by_cases hc : (b = 1 ∧ bx = true) ∨ (b = 2 ∧ by' = true)
    · have : ((b == 1) && bx || (b == 2) && by') = true := by simpa using hc
      rw [this, if_pos hc]; rfl
    · have : ((b == 1) && bx || (b == 2) && by') = false := by rw [Bool.eq_false_iff]; simpa using hc
      rw [this, if_neg hc, List.append_nil]; rfl
  · rw [decide_eq_false h] at hin
    have hbk : bk p m.X m.Y = 0 := if_neg h
    have hne : ¬ ((bk p m.X m.Y = 1 ∧ bx = true) ∨ (bk p m.X m.Y = 2 ∧ by' = true)) := by rw [hbk]; simp
    rw [if_neg hne, List.append_nil]
    cases h1 : hasB p m
    · rfl
    · rw [h1, Bool.true_and, Bool.not_eq_false'] at hin
      rw [hin]; rfl
theorem joined_eq {p : SPanel} (hd : Dim p) {t : SPoint} (ht : onG p t) : sh145 p t = some (nbS p t) := by
  have d1 := hd.w1; have d2 := hd.w2; have d3 := hd.h1; have d4 := hd.h2
  have ht' := ht
  unfold onG at ht'
  obtain ⟨⟨a1, a2⟩, ⟨a3, a4⟩, a5⟩ := ht'
  unfold sh145
  have ha : ∀ (c : Prop) [Decidable c] (x : SPoint), (if c then [x] else []).length ≤ 1 := fun c _ x => by split <;> simp
  have h1 := ha (bk p t.X (t.Y - 1) = 1) ⟨t.X, t.Y - 2⟩
  have h2 := ha (bk p t.X (t.Y + 1) = 1) ⟨t.X, t.Y + 2⟩
  have h3 := ha (bk p (t.X - 1) t.Y = 2) ⟨t.X - 2, t.Y⟩
  generalize hl1 : (if bk p t.X (t.Y - 1) = 1 then [(⟨t.X, t.Y - 2⟩ : SPoint)] else []) = l1 at h1
  generalize hl2 : (if bk p t.X (t.Y + 1) = 1 then [(⟨t.X, t.Y + 2⟩ : SPoint)] else []) = l2 at h2
  generalize hl3 : (if bk p (t.X - 1) t.Y = 2 then [(⟨t.X - 2, t.Y⟩ : SPoint)] else []) = l3 at h3
  generalize hl4 : (if bk p (t.X + 1) t.Y = 2 then [(⟨t.X + 2, t.Y⟩ : SPoint)] else []) = l4
  have hn : nbS p t = l1 ++ l2 ++ l3 ++ l4 := by unfold nbS; rw [hl1, hl2, hl3, hl4]
  have hi := iter_steps (sb := sh145_1 p t) (fun k => match k with | 0 => ((0 : Int), []) | 1 => (1, l1) | 2 => (2, l1 ++ l2) | 3 => (3, l1 ++ l2 ++ l3) | _ => (4, l1 ++ l2 ++ l3 ++ l4)) 4 (x := l1 ++ l2 ++ l3 ++ l4) (by omega) (fun k hk => ?_) rfl
  · rw [hn]
    simp only at hi
    rw [hi]; rfl
  · have hk4 : k = 0 ∨ k = 1 ∨ k = 2 ∨ k = 3 := by omega
    rcases hk4 with rfl | rfl | rfl | rfl
    · have hx : w64 ((w64 ((w64 (((0 : Int).tmod 2) * 2)) - 1)) * (w64 ((0 : Int).tdiv 2))) = 0 := by rfl
      have hy : w64 ((w64 ((w64 (((0 : Int).tmod 2) * 2)) - 1)) * (w64 (1 - (w64 ((0 : Int).tdiv 2))))) = -1 := by rfl
      have hx1 : w64 (t.X + 0) = t.X := by rw [w64_id (by omega) (by omega)]; omega
      have hy1 : w64 (t.Y + -1) = t.Y - 1 := by rw [w64_id (by omega) (by omega)]; omega
      have hy2 : w64 (t.Y - 1 + -1) = t.Y - 2 := by rw [w64_id (by omega) (by omega)]; omega
      have := dirL hd ⟨t.X, t.Y - 1⟩ ⟨t.X, t.Y - 2⟩ true false [] 1 (by simp) (by simp only; omega) (fun h => by unfold inr at h; unfold onG; simp only at h ⊢; omega)
      simp only [and_true, Bool.false_eq_true, and_false, or_false, hl1, List.nil_append] at this
      show sh145_1 p t (0, []) = some (.inl (1, l1))
      rw [← this]
      simp only [sh145_1, hx, hy, hx1, hy1, hy2]
      rfl
    · have hx : w64 ((w64 ((w64 (((1 : Int).tmod 2) * 2)) - 1)) * (w64 ((1 : Int).tdiv 2))) = 0 := by rfl
      have hy : w64 ((w64 ((w64 (((1 : Int).tmod 2) * 2)) - 1)) * (w64 (1 - (w64 ((1 : Int).tdiv 2))))) = 1 := by rfl
      have hx1 : w64 (t.X + 0) = t.X := by rw [w64_id (by omega) (by omega)]; omega
      have hy1 : w64 (t.Y + 1) = t.Y + 1 := by rw [w64_id (by omega) (by omega)]
      have hy2 : w64 (t.Y + 1 + 1) = t.Y + 2 := by rw [w64_id (by omega) (by omega)]; omega
      have := dirL hd ⟨t.X, t.Y + 1⟩ ⟨t.X, t.Y + 2⟩ true false l1 2 (by omega) (by simp only; omega) (fun h => by unfold inr at h; unfold onG; simp only at h ⊢; omega)
      simp only [and_true, Bool.false_eq_true, and_false, or_false, hl2] at this
      show sh145_1 p t (1, l1) = some (.inl (2, l1 ++ l2))
      rw [← this]
      simp only [sh145_1, hx, hy, hx1, hy1, hy2]
      rfl
    · have hx : w64 ((w64 ((w64 (((2 : Int).tmod 2) * 2)) - 1)) * (w64 ((2 : Int).tdiv 2))) = -1 := by rfl
      have hy : w64 ((w64 ((w64 (((2 : Int).tmod 2) * 2)) - 1)) * (w64 (1 - (w64 ((2 : Int).tdiv 2))))) = 0 := by rfl
      have hy1 : w64 (t.Y + 0) = t.Y := by rw [w64_id (by omega) (by omega)]; omega
      have hx1 : w64 (t.X + -1) = t.X - 1 := by rw [w64_id (by omega) (by omega)]; omega
      have hx2 : w64 (t.X - 1 + -1) = t.X - 2 := by rw [w64_id (by omega) (by omega)]; omega
      have := dirL hd ⟨t.X - 1, t.Y⟩ ⟨t.X - 2, t.Y⟩ false true (l1 ++ l2) 3 (by simp; omega) (by simp only; omega) (fun h => by unfold inr at h; unfold onG; simp only at h ⊢; omega)
      simp only [and_true, Bool.false_eq_true, and_false, false_or, hl3] at this
      show sh145_1 p t (2, l1 ++ l2) = some (.inl (3, l1 ++ l2 ++ l3))
      rw [← this]
      simp only [sh145_1, hx, hy, hx1, hy1, hx2]
      rfl
    · have hx : w64 ((w64 ((w64 (((3 : Int).tmod 2) * 2)) - 1)) * (w64 ((3 : Int).tdiv 2))) = 1 := by rfl
      have hy : w64 ((w64 ((w64 (((3 : Int).tmod 2) * 2)) - 1)) * (w64 (1 - (w64 ((3 : Int).tdiv 2))))) = 0 := by rfl
      have hy1 : w64 (t.Y + 0) = t.Y := by rw [w64_id (by omega) (by omega)]; omega
      have hx1 : w64 (t.X + 1) = t.X + 1 := by rw [w64_id (by omega) (by omega)]
      have hx2 : w64 (t.X + 1 + 1) = t.X + 2 := by rw [w64_id (by omega) (by omega)]; omega
      have := dirL hd ⟨t.X + 1, t.Y⟩ ⟨t.X + 2, t.Y⟩ false true (l1 ++ l2 ++ l3) 4 (by simp; omega) (by simp only; omega) (fun h => by unfold inr at h; unfold onG; simp only at h ⊢; omega)
      simp only [and_true, Bool.false_eq_true, and_false, false_or, hl4] at this
      show sh145_1 p t (3, l1 ++ l2 ++ l3) = some (.inl (4, l1 ++ l2 ++ l3 ++ l4))
      rw [← this]
      simp only [sh145_1, hx, hy, hx1, hy1, hx2]
      rfl
theorem bk_val {p : SPanel} (hp : panelB p = true) (x y : Int) : bk p x y = 0 ∨ bk p x y = 1 ∨ bk p x y = 2 := by
  unfold bk
  split
  · rename_i h
    have hnb := num_bd (dim_of hp) h
    have hv := (panelB_facts hp).2.2.2.1
    unfold brkF
    split
    · exact .inl rfl
    · have hl : (numF p x y).toNat < p.Breaks.length := by omega
      have := hv _ (List.getElem_mem hl)
      rw [List.getD_eq_getElem?_getD, List.getElem?_eq_getElem hl]
      simp only [Option.getD_some]; omega
  · exact .inl rfl
theorem nbS_mem {p : SPanel} (hp : panelB p = true) (t n : SPoint) : n ∈ nbS p t ↔ adj p t n := by
  have hm : ∀ (c : Prop) [Decidable c] (x : SPoint), n ∈ (if c then [x] else []) ↔ c ∧ n = x := fun c _ x => by
    split <;> rename_i h <;> simp [h]
  unfold nbS
  simp only [List.mem_append, hm]
  constructor
  · rintro (((⟨h, rfl⟩ | ⟨h, rfl⟩) | ⟨h, rfl⟩) | ⟨h, rfl⟩)
    · refine ⟨⟨t.X, t.Y - 1⟩, ?_⟩
      simp only [edgeE, h]
      refine ⟨by omega, .inr ⟨?_, ?_⟩⟩
      · cases t; simp only [SPoint.mk.injEq, true_and]; omega
      · simp only [SPoint.mk.injEq, true_and]; omega
    · refine ⟨⟨t.X, t.Y + 1⟩, ?_⟩
      simp only [edgeE, h]
      refine ⟨by omega, .inl ⟨?_, ?_⟩⟩
      · cases t; simp only [SPoint.mk.injEq, true_and]; omega
      · simp only [SPoint.mk.injEq, true_and]; omega
    · refine ⟨⟨t.X - 1, t.Y⟩, ?_⟩
      simp only [edgeE, h]
      refine ⟨by omega, .inr ⟨?_, ?_⟩⟩
      · cases t; simp only [SPoint.mk.injEq, and_true]; omega
      · simp only [SPoint.mk.injEq, and_true]; omega
    · refine ⟨⟨t.X + 1, t.Y⟩, ?_⟩
      simp only [edgeE, h]
      refine ⟨by omega, .inl ⟨?_, ?_⟩⟩
      · cases t; simp only [SPoint.mk.injEq, and_true]; omega
      · simp only [SPoint.mk.injEq, and_true]; omega
  · rintro ⟨⟨mx, my⟩, hb, he⟩
    simp only at hb he
    rcases bk_val hp mx my with h0 | h0 | h0
    · exact absurd h0 hb
    · rw [if_neg (by omega)] at he
      rcases he with ⟨rfl, rfl⟩ | ⟨rfl, rfl⟩
      · left; left; right
        simp only
        rw [show my - 1 + 1 = my by omega]
        exact ⟨h0, by simp only [SPoint.mk.injEq, true_and]; omega⟩
      · left; left; left
        simp only
        rw [show my + 1 - 1 = my by omega]
        exact ⟨h0, by simp only [SPoint.mk.injEq, true_and]; omega⟩
    · rw [if_pos h0] at he
      rcases he with ⟨rfl, rfl⟩ | ⟨rfl, rfl⟩
      · right
        simp only
        rw [show mx - 1 + 1 = mx by omega]
        exact ⟨h0, by simp only [SPoint.mk.injEq, and_true]; omega⟩
      · left; right
        simp only
        rw [show mx + 1 - 1 = mx by omega]
        exact ⟨h0, by simp only [SPoint.mk.injEq, and_true]; omega⟩

/-! regions2 -/
/-! ### the joined places in the program -/
theorem pts_in {p : SPanel} (hd : Dim p) : ∀ n : Nat, (n : Int) ≤ 2 * p.H - 1 → ∀ k (hk : k < (ptsN p n).length), inr p (ptsN p n)[k].X (ptsN p n)[k].Y ∧ numF p (ptsN p n)[k].X (ptsN p n)[k].Y = (k : Int)
  | 0, _, k, hk => by simp [ptsN] at hk
  | n + 1, hn, k, hk => by
    have d1 := hd.w1
    have ihl := ptsN_len hd n
    unfold ptsN at hk ⊢
    by_cases h : k < (ptsN p n).length
    · rw [List.getElem_append_left h]
      exact pts_in hd n (by omega) k h
    · rw [List.getElem_append_right (by omega)]
      rw [List.length_append] at hk
      have hc : 0 ≤ cntK p ((n : Int) + 1) := by unfold cntK; split <;> omega
      have hrl : (rowPts p ((n : Int) + 1)).length = (cntK p ((n : Int) + 1)).toNat := by unfold rowPts; rw [List.length_map, List.length_range]
      obtain ⟨j, hj⟩ : ∃ j, j = k - (ptsN p n).length := ⟨_, rfl⟩
      have e : (rowPts p ((n : Int) + 1))[k - (ptsN p n).length]'(by omega) = ⟨1 + ((n : Int) + 1) % 2 + 2 * (j : Int), (n : Int) + 1⟩ := by simp [rowPts, hj]
      rw [e]
      have hjc : (j : Int) < cntK p ((n : Int) + 1) := by omega
      have hkk : (k : Int) = rowK p ((n : Int) + 1) + (j : Int) := by omega
      constructor
      · unfold inr
        simp only
        unfold cntK at hjc
        split at hjc <;> omega
      · simp only [numF]
        rw [hkk]
        unfold rowK
        omega
theorem mem_pts {p : SPanel} {x y : Int} (h : inr p x y) : ∀ n : Nat, y ≤ (n : Int) → (⟨x, y⟩ : SPoint) ∈ ptsN p n
  | 0, hn => by unfold inr at h; omega
  | n + 1, hn => by
    unfold ptsN
    rw [List.mem_append]
    by_cases hy : y ≤ (n : Int)
    · exact .inl (mem_pts h n hy)
    · right
      have hy' : y = (n : Int) + 1 := by omega
      unfold inr at h
      unfold rowPts
      refine List.mem_map.2 ⟨((x - 1 - y % 2) / 2).toNat, List.mem_range.2 ?_, ?_⟩
      · rw [← hy']
        unfold cntK
        split <;> omega
      · rw [← hy']
        simp only [SPoint.mk.injEq, and_true]
        omega
theorem put2_mem (J : List (SPoint × List SPoint)) {a c : SPoint} (hne : a ≠ c) (t n : SPoint) : n ∈ rowOf (mput (mput J a (rowOf J a ++ [c])) c (rowOf J c ++ [a])) t ↔ n ∈ rowOf J t ∨ (t = a ∧ n = c) ∨ (t = c ∧ n = a) := by
  rw [rowOf_put]
  by_cases h1 : t = c
  · subst h1
    have h2 : ¬ t = a := fun h => hne h.symm
    simp [h2]
  · rw [if_neg h1, rowOf_put]
    by_cases h2 : t = a
    · subst h2; simp [h1]
    · simp [h1, h2]
theorem put2_len (J : List (SPoint × List SPoint)) (a c : SPoint) (t : SPoint) {k : Nat} (h : ∀ t, (rowOf J t).length ≤ k) : (rowOf (mput (mput J a (rowOf J a ++ [c])) c (rowOf J c ++ [a])) t).length ≤ k + 1 := by
  have ha := h a; have hc := h c; have ht := h t
  rw [rowOf_put]
  split
  · simp; exact hc
  · rw [rowOf_put]
    split
    · simp; exact ha
    · omega
theorem edge_iff {b : Int} (hb : b ≠ 0) (m t n : SPoint) : edgeE b m t n ↔ (t = (if b = 2 then ⟨m.X - 1, m.Y⟩ else ⟨m.X, m.Y - 1⟩ : SPoint) ∧ n = (if b = 2 then ⟨m.X + 1, m.Y⟩ else ⟨m.X, m.Y + 1⟩ : SPoint)) ∨ (t = (if b = 2 then ⟨m.X + 1, m.Y⟩ else ⟨m.X, m.Y + 1⟩ : SPoint) ∧ n = (if b = 2 then ⟨m.X - 1, m.Y⟩ else ⟨m.X, m.Y - 1⟩ : SPoint)) := by
  unfold edgeE
  split <;> simp [hb]
theorem joined_map {p : SPanel} (hp : panelB p = true) : ∃ J, iter (sh88_1 p (ptsN p (2 * p.H - 1).toNat)) (0, []) = some J ∧ (∀ t n, n ∈ rowOf J t ↔ adj p t n) ∧ ∀ t, (rowOf J t).length ≤ 200 := by
  have hd := dim_of hp
  have d1 := hd.w1; have d2 := hd.w2; have d3 := hd.h1; have d4 := hd.h2
  have hcnt := pts_count hd
  have hbl := (panelB_facts hp).2.2.2.2
  have hin := pts_in hd (2 * p.H - 1).toNat (by omega)
  obtain ⟨pts, hpts⟩ : ∃ pts, pts = ptsN p (2 * p.H - 1).toNat := ⟨_, rfl⟩
  have hmem : ∀ x y, inr p x y → (⟨x, y⟩ : SPoint) ∈ pts := fun x y h => by rw [hpts]; exact mem_pts h _ (by unfold inr at h; omega)
  rw [← hpts] at hcnt hin ⊢
  have hbk : ∀ k (hk : k < pts.length), bk p pts[k].X pts[k].Y = p.Breaks.getD k 0 := fun k hk => by
    obtain ⟨h1, h2⟩ := hin k hk
    have h3 := h1
    obtain ⟨a1, a2, a3⟩ := h3
    unfold bk brkF
    rw [if_pos h1, if_neg (by omega), h2]; rfl
  obtain ⟨J, h1, h2, h3⟩ := iter_inv (sb := sh88_1 p pts) (s0 := (0, [])) (fun s => ∃ k : Nat, s.1 = (k : Int) ∧ k ≤ pts.length ∧ (∀ t n, n ∈ rowOf s.2 t ↔ ∃ j, ∃ hj : j < pts.length, j < k ∧ edgeE (p.Breaks.getD j 0) pts[j] t n) ∧ ∀ t, (rowOf s.2 t).length ≤ k) (fun s => ((pts.length : Int) - s.1).toNat)
    (fun J => (∀ t n, n ∈ rowOf J t ↔ ∃ j, ∃ hj : j < pts.length, edgeE (p.Breaks.getD j 0) pts[j] t n) ∧ ∀ t, (rowOf J t).length ≤ pts.length) ⟨0, rfl, by omega, fun t n => by simp [rowOf, mfind, mloc], fun t => by simp [rowOf, mfind, mloc]⟩ (by simp only; omega) (by
    rintro ⟨_, J⟩ ⟨k, rfl, i1, i2, i3⟩
    simp only at i1 i2 i3
    by_cases hk : k < pts.length
    · left
      have hkd : decide ((k : Int) < (pts.length : Int)) = true := decide_eq_true (by omega)
      have hkb : k < p.Breaks.length := by omega
      obtain ⟨h1, h2⟩ := hin k hk
      have h1' := h1
      obtain ⟨⟨a1, a2⟩, ⟨a3, a4⟩, a5⟩ := h1'
      have hgb : getI p.Breaks (k : Int) = some (p.Breaks.getD k 0) := by rw [getI_lt hkb, List.getD_eq_getElem?_getD, List.getElem?_eq_getElem hkb]; rfl
      have hw : w64 ((k : Int) + 1) = ((k + 1 : Nat) : Int) := by rw [w64_id (by omega) (by omega)]; rfl
      obtain ⟨m, hm⟩ : ∃ m, m = pts[k] := ⟨_, rfl⟩
      rw [← hm] at a1 a2 a3 a4 a5
      have x1 : w64 (m.X - 1) = m.X - 1 := w64_id (by omega) (by omega)
      have x2 : w64 (m.X + 1) = m.X + 1 := w64_id (by omega) (by omega)
      have y1 : w64 (m.Y - 1) = m.Y - 1 := w64_id (by omega) (by omega)
      have y2 : w64 (m.Y + 1) = m.Y + 1 := w64_id (by omega) (by omega)
      generalize hbv : p.Breaks.getD k 0 = b at hgb
      have hsplit : ∀ t n, (∃ j, ∃ hj : j < pts.length, j < k + 1 ∧ edgeE (p.Breaks.getD j 0) pts[j] t n) ↔ (∃ j, ∃ hj : j < pts.length, j < k ∧ edgeE (p.Breaks.getD j 0) pts[j] t n) ∨ edgeE b m t n := fun t n => by
        constructor
        · rintro ⟨j, hj, hjk, he⟩
          by_cases hjk2 : j < k
          · exact .inl ⟨j, hj, hjk2, he⟩
          · have : j = k := by omega
            subst this
            right; rw [← hbv, hm]; exact he
        · rintro (⟨j, hj, hjk, he⟩ | he)
          · exact ⟨j, hj, by omega, he⟩
          · exact ⟨k, hk, by omega, by rw [hbv, ← hm]; exact he⟩
      simp only [sh88_1, hkd, cond_true, getI_lt hk, bindS, hgb, ← hm, x1, x2, y1, y2, hw]
      by_cases hb0 : b = 0
      · subst hb0
        refine ⟨(((k + 1 : Nat) : Int), J), rfl, ⟨k + 1, rfl, by omega, fun t n => ?_, fun t => by have := i3 t; simp only; omega⟩, by simp only; omega⟩
        rw [hsplit, i2]
        have : ¬ edgeE 0 m t n := fun h => h.1 rfl
        simp [this]
      · have hbn : (b != 0) = true := bne_iff_ne.2 hb0
        obtain ⟨a, ha⟩ : ∃ a : SPoint, a = if b = 2 then ⟨m.X - 1, m.Y⟩ else ⟨m.X, m.Y - 1⟩ := ⟨_, rfl⟩
        obtain ⟨c, hc⟩ : ∃ c : SPoint, c = if b = 2 then ⟨m.X + 1, m.Y⟩ else ⟨m.X, m.Y + 1⟩ := ⟨_, rfl⟩
        have hj : (bif b == 2 then some ((⟨m.X - 1, m.Y⟩ : SPoint), (⟨m.X + 1, m.Y⟩ : SPoint)) else some (⟨m.X, m.Y - 1⟩, ⟨m.X, m.Y + 1⟩)) = some (a, c) := by
          rw [ha, hc]
          by_cases h2 : b = 2
          · subst h2; rfl
          · rw [if_neg h2, if_neg h2, beq_eq_false_iff_ne.2 h2]; rfl
        have hne : a ≠ c := by
          rw [ha, hc]
          split
          · simp only [ne_eq, SPoint.mk.injEq]; omega
          · simp only [ne_eq, SPoint.mk.injEq]; omega
        have hng : neqG a c = some () := if_neg hne
        have la := i3 a; have lc := i3 c
        simp only [hj, bindS, hbn, cond_true, hng, appL_ok (show (rowOf J a).length + [c].length ≤ 1099511627776 by simp only [List.length_cons, List.length_nil]; omega), appL_ok (show (rowOf J c).length + [a].length ≤ 1099511627776 by simp only [List.length_cons, List.length_nil]; omega)]
        refine ⟨_, rfl, ⟨k + 1, rfl, by omega, fun t n => ?_, fun t => put2_len J a c t i3⟩, by simp only; omega⟩
        rw [hsplit, put2_mem J hne, i2, edge_iff hb0, ← ha, ← hc]
    · right
      have hke : k = pts.length := by omega
      subst hke
      have hkd : decide ((pts.length : Int) < (pts.length : Int)) = false := decide_eq_false (by omega)
      simp only [sh88_1, hkd, cond_false]
      refine ⟨_, rfl, fun t n => ?_, i3⟩
      rw [i2]
      exact ⟨fun ⟨j, hj, _, he⟩ => ⟨j, hj, he⟩, fun ⟨j, hj, he⟩ => ⟨j, hj, hj, he⟩⟩)
  refine ⟨J, h1, fun t n => ?_, fun t => by have := h3 t; omega⟩
  rw [h2]
  constructor
  · rintro ⟨j, hj, he⟩
    exact ⟨pts[j], by rw [hbk j hj]; exact he⟩
  · rintro ⟨m, he⟩
    have hi := bk_in he.1
    obtain ⟨j, hj, hm⟩ := List.getElem_of_mem (hmem m.X m.Y hi)
    refine ⟨j, hj, ?_⟩
    have hm2 : pts[j] = m := hm
    rw [← hbk j hj, hm2]; exact he
/-! ### a region, from one of its places -/
def BFo (p : SPanel) (s : SPoint) (r : Int) (o0 o : SPoint → Option Int) (q : List SPoint) : Prop :=
  q.Nodup ∧ (∀ t, t ∈ q → o t = some r) ∧ (∀ t, t ∉ q → o t = o0 t) ∧ (∀ t ∈ q, Rch p s t) ∧ s ∈ q ∧ ∀ t ∈ q, o0 t = none
theorem BFo.put {p : SPanel} {s : SPoint} {r : Int} {o0 o o' : SPoint → Option Int} {q : List SPoint} {n : SPoint} (h : BFo p s r o0 o q) (hn : o n = none) (hr : Rch p s n) (ho : ∀ t, o' t = if t = n then some r else o t) : BFo p s r o0 o' (q ++ [n]) := by
  obtain ⟨h1, h2, h3, h4, h5, h6⟩ := h
  have hnq : n ∉ q := fun hq => by rw [h2 n hq] at hn; cases hn
  refine ⟨?_, fun t ht => ?_, fun t ht => ?_, fun t ht => ?_, List.mem_append_left _ h5, fun t ht => ?_⟩
  · rw [List.nodup_append]
    refine ⟨h1, by simp, fun a ha b hb hab => ?_⟩
    simp at hb
    subst hb; subst hab
    exact hnq ha
  · rw [ho]
    split
    · rfl
    · rename_i htn
      rcases List.mem_append.1 ht with h | h
      · exact h2 t h
      · simp at h; exact absurd h htn
  · have hnot : t ∉ q ∧ t ≠ n := by
      constructor
      · exact fun h => ht (List.mem_append_left _ h)
      · exact fun h => ht (by simp [h])
    rw [ho, if_neg hnot.2]
    exact h3 t hnot.1
  · rcases List.mem_append.1 ht with h | h
    · exact h4 t h
    · simp at h; subst h; exact hr
  · rcases List.mem_append.1 ht with h | h
    · exact h6 t h
    · simp at h; subst h
      rw [← h3 t hnq]; exact hn
theorem nodup_len {α : Type} [DecidableEq α] : ∀ (l m : List α), l.Nodup → (∀ x ∈ l, x ∈ m) → l.length ≤ m.length
  | [], _, _, _ => by simp
  | a :: l, m, hn, hs => by
    have ha := hs a (List.mem_cons_self ..)
    obtain ⟨h1, h2⟩ := List.nodup_cons.1 hn
    have := nodup_len l (m.erase a) h2 (fun x hx => by
      have hxa : x ≠ a := fun h => h1 (h ▸ hx)
      exact (List.mem_erase_of_ne hxa).2 (hs x (List.mem_cons_of_mem _ hx)))
    rw [List.length_erase_of_mem ha] at this
    have hm : 0 < m.length := List.length_pos_of_mem ha
    simp only [List.length_cons]; omega

/-! regions3 -/
/-! ### the grid -/
def gridRow (p : SPanel) (y : Int) : List SPoint := (List.range ((2 * p.W - y % 2) / 2 + 1).toNat).map fun (j : Nat) => ⟨y % 2 + 2 * (j : Int), y⟩
def gridN (p : SPanel) : Nat → List SPoint
  | 0 => []
  | n + 1 => gridN p n ++ gridRow p (n : Int)
def grid (p : SPanel) : List SPoint := gridN p (2 * p.H + 1).toNat
theorem gridRow_len {p : SPanel} (hd : Dim p) (y : Int) : (gridRow p y).length ≤ 9 := by
  have d1 := hd.w1; have d2 := hd.w2
  unfold gridRow
  rw [List.length_map, List.length_range]
  omega
theorem gridN_len {p : SPanel} (hd : Dim p) : ∀ n : Nat, (gridN p n).length ≤ 9 * n
  | 0 => by simp [gridN]
  | n + 1 => by
    have h1 := gridN_len hd n
    have h2 := gridRow_len hd (n : Int)
    unfold gridN
    rw [List.length_append]; omega
theorem mem_row {p : SPanel} (hd : Dim p) (y : Int) (t : SPoint) : t ∈ gridRow p y ↔ t.Y = y ∧ 0 ≤ t.X ∧ t.X ≤ 2 * p.W ∧ (t.X + t.Y) % 2 = 0 := by
  have d1 := hd.w1; have d2 := hd.w2
  unfold gridRow
  simp only [List.mem_map, List.mem_range]
  constructor
  · rintro ⟨j, hj, rfl⟩
    simp only
    refine ⟨trivial, ?_, ?_, ?_⟩ <;> omega
  · rintro ⟨rfl, h1, h2, h3⟩
    refine ⟨((t.X - t.Y % 2) / 2).toNat, by omega, ?_⟩
    cases t
    simp only [SPoint.mk.injEq, and_true] at *
    omega
theorem mem_gridN {p : SPanel} (hd : Dim p) (t : SPoint) : ∀ n : Nat, t ∈ gridN p n ↔ (0 ≤ t.Y ∧ t.Y < (n : Int)) ∧ 0 ≤ t.X ∧ t.X ≤ 2 * p.W ∧ (t.X + t.Y) % 2 = 0
  | 0 => by simp [gridN]; omega
  | n + 1 => by
    unfold gridN
    rw [List.mem_append, mem_gridN hd t n, mem_row hd]
    omega
theorem mem_grid {p : SPanel} (hd : Dim p) (t : SPoint) : t ∈ grid p ↔ onG p t := by
  have d3 := hd.h1
  unfold grid
  rw [mem_gridN hd]
  unfold onG
  omega
theorem grid_len {p : SPanel} (hd : Dim p) : (grid p).length ≤ 153 := by
  have d3 := hd.h1; have d4 := hd.h2
  have := gridN_len hd (2 * p.H + 1).toNat
  unfold grid
  omega
theorem row_sorted (p : SPanel) (y : Int) : (gridRow p y).Pairwise fun a b => ltPt a b = true := by
  unfold gridRow
  rw [List.pairwise_map]
  refine List.Pairwise.imp (fun {a b} h => ?_) List.pairwise_lt_range
  rw [ltPt_iff]
  exact .inr ⟨rfl, by simp only; omega⟩
theorem gridN_sorted {p : SPanel} (hd : Dim p) : ∀ n : Nat, (gridN p n).Pairwise fun a b => ltPt a b = true
  | 0 => by simp [gridN]
  | n + 1 => by
    unfold gridN
    rw [List.pairwise_append]
    refine ⟨gridN_sorted hd n, row_sorted p _, fun a ha b hb => ?_⟩
    rw [mem_gridN hd] at ha
    rw [mem_row hd] at hb
    rw [ltPt_iff]
    omega
theorem sorted_uniq : ∀ (l m : List SPoint), l.Pairwise (fun a b => ltPt a b = true) → m.Pairwise (fun a b => ltPt a b = true) → (∀ t, t ∈ l ↔ t ∈ m) → l = m
  | [], [], _, _, _ => rfl
  | [], b :: m, _, _, h => by have := (h b).2 (List.mem_cons_self ..); simp at this
  | a :: l, [], _, _, h => by have := (h a).1 (List.mem_cons_self ..); simp at this
  | a :: l, b :: m, h1, h2, h => by
    obtain ⟨a1, a2⟩ := List.pairwise_cons.1 h1
    obtain ⟨b1, b2⟩ := List.pairwise_cons.1 h2
    have hab : a = b := by
      rcases List.mem_cons.1 ((h a).1 (List.mem_cons_self ..)) with e | e
      · exact e
      · rcases List.mem_cons.1 ((h b).2 (List.mem_cons_self ..)) with e2 | e2
        · exact e2.symm
        · have h3 := b1 a e
          have h4 := a1 b e2
          rw [ltPt_iff] at h3 h4
          omega
    subst hab
    rw [sorted_uniq l m a2 b2 fun t => ?_]
    constructor
    · intro ht
      rcases List.mem_cons.1 ((h t).1 (List.mem_cons_of_mem _ ht)) with e | e
      · subst e
        have := a1 t ht
        rw [ltPt_iff] at this; omega
      · exact e
    · intro ht
      rcases List.mem_cons.1 ((h t).2 (List.mem_cons_of_mem _ ht)) with e | e
      · subst e
        have := b1 t ht
        rw [ltPt_iff] at this; omega
      · exact e
theorem sort_strict {q : List SPoint} (hq : q.Nodup) : (q.mergeSort fun x y => !ltPt y x).Pairwise (fun a b => ltPt a b = true) ∧ ∀ t, t ∈ (q.mergeSort fun x y => !ltPt y x) ↔ t ∈ q := by
  have hp := List.mergeSort_perm q fun x y => !ltPt y x
  refine ⟨?_, fun t => hp.mem_iff⟩
  have h1 : (q.mergeSort fun x y => !ltPt y x).Pairwise fun a b => (!ltPt b a) = true := List.pairwise_mergeSort (fun a b c h1 h2 => by
    simp only [Bool.not_eq_true', ltPt_not] at *
    omega) (fun a b => by
    simp only [Bool.or_eq_true, Bool.not_eq_true', ltPt_not]
    omega) q
  have h2 : (q.mergeSort fun x y => !ltPt y x).Pairwise fun a b => a ≠ b := hp.symm.nodup hq
  refine (h1.and h2).imp fun {a b} h => ?_
  obtain ⟨h3, h4⟩ := h
  rw [Bool.not_eq_true', ltPt_not] at h3
  rw [ltPt_iff]
  have : ¬ (a.X = b.X ∧ a.Y = b.Y) := fun h => h4 (by cases a; cases b; simp only at h; rw [h.1, h.2])
  omega
/-! ### numbers of places -/
def numG (p : SPanel) (t : SPoint) : Int := t.Y * (2 * p.W + 1) + t.X
def NG (p : SPanel) : Int := (2 * p.W + 1) * (2 * p.H + 1)
theorem numG_bd {p : SPanel} (hd : Dim p) {t : SPoint} (h : onG p t) : 0 ≤ numG p t ∧ numG p t < NG p := by
  obtain ⟨⟨a1, a2⟩, ⟨a3, a4⟩, a5⟩ := h
  have d1 := hd.w1
  have h0 : 0 ≤ t.Y * (2 * p.W + 1) := Int.mul_nonneg a3 (by omega)
  have h1 : t.Y * (2 * p.W + 1) ≤ 2 * p.H * (2 * p.W + 1) := Int.mul_le_mul_of_nonneg_right a4 (by omega)
  have h2 : NG p = 2 * p.H * (2 * p.W + 1) + (2 * p.W + 1) := by unfold NG; grind
  unfold numG
  omega
theorem NG_bd {p : SPanel} (hd : Dim p) : 9 ≤ NG p ∧ NG p ≤ 289 := by
  obtain ⟨w1, w2, h1, h2, _⟩ := hd
  unfold NG
  generalize p.W = W at *
  rcases eight w1 w2 with e | e | e | e | e | e | e | e <;> subst e <;> constructor <;> omega
theorem numG_inj {p : SPanel} (hd : Dim p) {t u : SPoint} (ht : onG p t) (hu : onG p u) (h : numG p t = numG p u) : t = u := by
  obtain ⟨w1, w2, h1, h2, _⟩ := hd
  unfold onG at ht hu
  unfold numG at h
  cases t; cases u
  simp only at ht hu h
  simp only [SPoint.mk.injEq]
  generalize p.W = W at *
  rcases eight w1 w2 with e | e | e | e | e | e | e | e <;> subst e <;> constructor <;> omega
theorem number_eq {p : SPanel} (hd : Dim p) {t : SPoint} (h : onG p t) : sh85 p t = some (numG p t) := by
  have hb := numG_bd hd h
  have hN := NG_bd hd
  obtain ⟨w1, w2, h1, h2, _⟩ := hd
  obtain ⟨⟨a1, a2⟩, ⟨a3, a4⟩, a5⟩ := h
  have hm : 0 ≤ t.Y * (2 * p.W + 1) := Int.mul_nonneg a3 (by omega)
  unfold sh85
  unfold numG at *
  rw [w64_id (x := 2 * p.W) (by omega) (by omega), w64_id (x := 2 * p.W + 1) (by omega) (by omega), w64_id (x := t.Y * (2 * p.W + 1)) (by omega) (by omega), w64_id (by omega) (by omega)]
/-- Whose the places are, in the reference. -/
def ownS (p : SPanel) (of : List Int) (t : SPoint) : Option Int := if onG p t then (if of.getD (numG p t).toNat (-1) < 0 then none else some (of.getD (numG p t).toNat (-1))) else none
theorem ownS_get {p : SPanel} (hd : Dim p) {of : List Int} (hl : (of.length : Int) = NG p) {t : SPoint} (h : onG p t) : getI of (numG p t) = some (of.getD (numG p t).toNat (-1)) := by
  have hb := numG_bd hd h
  rw [getI_toNat hb.1 (by omega), List.getD_eq_getElem?_getD, List.getElem?_eq_getElem (by omega)]; rfl
theorem ownS_set {p : SPanel} (hd : Dim p) {of : List Int} (hl : (of.length : Int) = NG p) {n : SPoint} (h : onG p n) {r : Int} (hr : 0 ≤ r) (t : SPoint) : ownS p (of.set (numG p n).toNat r) t = if t = n then some r else ownS p of t := by
  have hb := numG_bd hd h
  unfold ownS
  by_cases ht : onG p t
  · rw [if_pos ht, if_pos ht]
    have hbt := numG_bd hd ht
    by_cases htn : t = n
    · subst htn
      have : (of.set (numG p t).toNat r).getD (numG p t).toNat (-1) = r := by
        rw [List.getD_eq_getElem?_getD, List.getElem?_set_self (by omega)]; rfl
      rw [this, if_pos rfl, if_neg (by omega)]
    · have hne : (numG p n).toNat ≠ (numG p t).toNat := fun he => htn (numG_inj hd ht h (by omega))
      have : (of.set (numG p n).toNat r).getD (numG p t).toNat (-1) = of.getD (numG p t).toNat (-1) := by
        rw [List.getD_eq_getElem?_getD, List.getElem?_set_ne hne, List.getD_eq_getElem?_getD]
      rw [this, if_neg htn]
  · rw [if_neg ht, if_neg ht]
    have htn : t ≠ n := fun he => ht (he ▸ h)
    rw [if_neg htn]
/-! ### the search -/
theorem BFo.one {p : SPanel} {s : SPoint} {r : Int} {o0 o : SPoint → Option Int} (h0 : o0 s = none) (ho : ∀ t, o t = if t = s then some r else o0 t) : BFo p s r o0 o [s] := by
  refine ⟨by simp, fun t ht => ?_, fun t ht => ?_, fun t ht => ?_, by simp, fun t ht => ?_⟩
  · simp at ht; rw [ho, if_pos ht]
  · simp at ht; rw [ho, if_neg ht]
  · simp at ht; subst ht; exact .refl
  · simp at ht; subst ht; exact h0
theorem BFo.len {p : SPanel} (hd : Dim p) {s : SPoint} (hs : onG p s) {r : Int} {o0 o : SPoint → Option Int} {q : List SPoint} (h : BFo p s r o0 o q) : q.length ≤ 153 :=
  Nat.le_trans (nodup_len q (grid p) h.1 fun x hx => (mem_grid hd x).2 ((h.2.2.2.1 x hx).grid hs)) (grid_len hd)
theorem inner_gen {S : Type} {p : SPanel} (hd : Dim p) {s : SPoint} (hs0 : onG p s) {r : Int} {o0 : SPoint → Option Int} (own : S → SPoint → Option Int) (ok : S → Prop) (sb : Int × S × List SPoint → Option ((Int × S × List SPoint) ⊕ (S × List SPoint))) (nb : List SPoint) (hl : nb.length ≤ 200)
    (hs : ∀ (k : Nat) (h : k < nb.length) a q, ok a → q.length ≤ 200 → onG p nb[k] → (own a nb[k] = none → ∃ a', sb ((k : Int), a, q) = some (.inl (((k + 1 : Nat) : Int), a', q ++ [nb[k]])) ∧ ok a' ∧ ∀ t, own a' t = if t = nb[k] then some r else own a t) ∧ (own a nb[k] ≠ none → sb ((k : Int), a, q) = some (.inl (((k + 1 : Nat) : Int), a, q))))
    (he : ∀ a q, sb ((nb.length : Int), a, q) = some (.inr (a, q))) {a : S} {q : List SPoint} (ha : ok a) (hb : BFo p s r o0 (own a) q) (hr : ∀ n ∈ nb, Rch p s n) :
    ∃ a' q', iter sb (0, a, q) = some (a', q') ∧ ok a' ∧ BFo p s r o0 (own a') q' ∧ (∃ z, q' = q ++ z) ∧ (∀ n ∈ nb, own a' n ≠ none) ∧ ∀ t, own a t ≠ none → own a' t ≠ none := by
  obtain ⟨⟨a', q'⟩, h1, h2⟩ := iter_inv (sb := sb) (s0 := (0, a, q)) (fun st => ∃ k : Nat, st.1 = (k : Int) ∧ k ≤ nb.length ∧ ok st.2.1 ∧ BFo p s r o0 (own st.2.1) st.2.2 ∧ (∃ z, st.2.2 = q ++ z) ∧ (∀ j (hj : j < nb.length), j < k → own st.2.1 nb[j] ≠ none) ∧ ∀ t, own a t ≠ none → own st.2.1 t ≠ none) (fun st => ((nb.length : Int) - st.1).toNat)
    (fun st => ok st.1 ∧ BFo p s r o0 (own st.1) st.2 ∧ (∃ z, st.2 = q ++ z) ∧ (∀ n ∈ nb, own st.1 n ≠ none) ∧ ∀ t, own a t ≠ none → own st.1 t ≠ none) ⟨0, rfl, by omega, ha, hb, ⟨[], by simp⟩, fun j hj h => by omega, fun t h => h⟩ (by simp only; omega) (by
    rintro ⟨_, b, u⟩ ⟨k, rfl, i1, i2, i3, ⟨z, i4⟩, i5, i6⟩
    simp only at i1 i2 i3 i4 i5 i6
    by_cases hk : k < nb.length
    · left
      have hg := (hr nb[k] (List.getElem_mem hk)).grid hs0
      have hlen := i3.len hd hs0
      obtain ⟨g1, g2⟩ := hs k hk b u i2 (by omega) hg
      by_cases hn : own b nb[k] = none
      · obtain ⟨b', e1, e2, e3⟩ := g1 hn
        have hm : ∀ t, own b t ≠ none → own b' t ≠ none := fun t ht => by
          rw [e3]; split
          · simp
          · exact ht
        refine ⟨_, e1, ⟨k + 1, rfl, by omega, e2, i3.put hn (hr _ (List.getElem_mem hk)) e3, ⟨z ++ [nb[k]], by rw [i4, List.append_assoc]⟩, fun j hj hjk => ?_, fun t ht => hm t (i6 t ht)⟩, by simp only; omega⟩
        simp only
        by_cases hjk2 : j < k
        · exact hm _ (i5 j hj hjk2)
        · have : j = k := by omega
          subst this
          rw [e3, if_pos rfl]; simp
      · refine ⟨_, g2 hn, ⟨k + 1, rfl, by omega, i2, i3, ⟨z, i4⟩, fun j hj hjk => ?_, i6⟩, by simp only; omega⟩
        simp only
        by_cases hjk2 : j < k
        · exact i5 j hj hjk2
        · have : j = k := by omega
          subst this
          exact hn
    · right
      have hke : k = nb.length := by omega
      subst hke
      refine ⟨_, he b u, i2, i3, ⟨z, i4⟩, fun n hn => ?_, i6⟩
      obtain ⟨j, hj, rfl⟩ := List.getElem_of_mem hn
      exact i5 j hj hj)
  exact ⟨a', q', h1, h2⟩
theorem bfs_gen {S ρ : Type} {p : SPanel} (hd : Dim p) {s : SPoint} (hs0 : onG p s) {r : Int} {o0 : SPoint → Option Int} (own : S → SPoint → Option Int) (ok : S → Prop) (sb : Int × S × List SPoint → Option ((Int × S × List SPoint) ⊕ ρ)) (fin : S → List SPoint → ρ)
    (hs : ∀ (k : Nat) a q (hk : k < q.length), ok a → BFo p s r o0 (own a) q → q.length ≤ 153 → ∃ a' q', sb ((k : Int), a, q) = some (.inl (((k + 1 : Nat) : Int), a', q')) ∧ ok a' ∧ BFo p s r o0 (own a') q' ∧ (∃ z, q' = q ++ z) ∧ (∀ n, adj p q[k] n → own a' n ≠ none) ∧ ∀ t, own a t ≠ none → own a' t ≠ none)
    (he : ∀ a (q : List SPoint), sb ((q.length : Int), a, q) = some (.inr (fin a q))) (hcl : ∀ t n, o0 t ≠ none → adj p t n → o0 n ≠ none) {a : S} (ha : ok a) (hb : BFo p s r o0 (own a) [s]) :
    ∃ a' q', iter sb (0, a, [s]) = some (fin a' q') ∧ ok a' ∧ q'.Nodup ∧ (∀ t, t ∈ q' ↔ Rch p s t) ∧ (∀ t, Rch p s t → own a' t = some r) ∧ ∀ t, ¬ Rch p s t → own a' t = o0 t := by
  obtain ⟨x, h1, a', q', rfl, h2, h3, h4⟩ := iter_inv (sb := sb) (s0 := (0, a, [s])) (fun st => ∃ k : Nat, st.1 = (k : Int) ∧ k ≤ st.2.2.length ∧ ok st.2.1 ∧ BFo p s r o0 (own st.2.1) st.2.2 ∧ ∀ j (hj : j < st.2.2.length), j < k → ∀ n, adj p st.2.2[j] n → own st.2.1 n ≠ none) (fun st => ((200 : Int) - st.1).toNat)
    (fun x => ∃ a' q', x = fin a' q' ∧ ok a' ∧ BFo p s r o0 (own a') q' ∧ ∀ t ∈ q', ∀ n, adj p t n → own a' n ≠ none) ⟨0, rfl, by simp, ha, hb, fun j hj h => by omega⟩ (by simp only; omega) (by
    rintro ⟨_, b, u⟩ ⟨k, rfl, i1, i2, i3, i4⟩
    simp only at i1 i2 i3 i4
    have hlen := i3.len hd hs0
    by_cases hk : k < u.length
    · left
      obtain ⟨b', u', e1, e2, e3, ⟨z, e4⟩, e5, e6⟩ := hs k b u hk i2 i3 hlen
      subst e4
      refine ⟨_, e1, ⟨k + 1, rfl, by simp; omega, e2, e3, fun j hj hjk n hn => ?_⟩, by simp only; omega⟩
      simp only at hn ⊢
      have hju : j < u.length := by omega
      rw [List.getElem_append_left hju] at hn
      by_cases hjk2 : j < k
      · exact e6 n (i4 j hju hjk2 n hn)
      · have : j = k := by omega
        subst this
        exact e5 n hn
    · right
      have hke : k = u.length := by omega
      subst hke
      refine ⟨_, he b u, b, u, rfl, i2, i3, fun t ht n hn => ?_⟩
      obtain ⟨j, hj, rfl⟩ := List.getElem_of_mem ht
      exact i4 j hj hj n hn)
  obtain ⟨b1, b2, b3, b4, b5, b6⟩ := h3
  have hq : ∀ t, Rch p s t → t ∈ q' := fun t ht => by
    induction ht with
    | refl => exact b5
    | step _ hk ih =>
      rename_i t n _
      have h5 := h4 t ih n hk
      by_cases hn : n ∈ q'
      · exact hn
      · rw [b3 n hn] at h5
        exact absurd (b6 t ih) (hcl n t h5 (adj_sym hk))
  exact ⟨a', q', h1, h2, b1, fun t => ⟨b4 t, hq t⟩, fun t ht => b2 t (hq t ht), fun t ht => b3 t fun h => ht (b4 t h)⟩

/-! iterrel -/
theorem iter_relR {σ1 σ2 ρ1 ρ2 : Type} {sb1 : σ1 → Option (σ1 ⊕ ρ1)} {sb2 : σ2 → Option (σ2 ⊕ ρ2)} (R : σ1 → σ2 → Prop) (μ : σ1 → Nat) (Q : ρ1 → ρ2 → Prop) {s1 : σ1} {s2 : σ2} (h0 : R s1 s2) (hμ : μ s1 < 4611686018427387904)
    (hs : ∀ a b, R a b → (∃ a' b', sb1 a = some (.inl a') ∧ sb2 b = some (.inl b') ∧ R a' b' ∧ μ a' < μ a) ∨ (∃ x y, sb1 a = some (.inr x) ∧ sb2 b = some (.inr y) ∧ Q x y)) : ∃ x y, iter sb1 s1 = some x ∧ iter sb2 s2 = some y ∧ Q x y := by
  have key : ∀ k a b, μ a ≤ k → R a b → ∃ x y, iterN sb1 (k + 1) a = some x ∧ iterN sb2 (k + 1) b = some y ∧ Q x y := by
    intro k
    induction k with
    | zero =>
      intro a b hk hR
      rcases hs a b hR with ⟨a', b', _, _, _, h4⟩ | ⟨x, y, h1, h2, h3⟩
      · omega
      · exact ⟨x, y, by simp [iterN, h1], by simp [iterN, h2], h3⟩
    | succ k ih =>
      intro a b hk hR
      rcases hs a b hR with ⟨a', b', h1, h2, h3, h4⟩ | ⟨x, y, h1, h2, h3⟩
      · obtain ⟨x, y, g1, g2, g3⟩ := ih a' b' (by omega) h3
        exact ⟨x, y, by rw [iterN, h1]; exact g1, by rw [iterN, h2]; exact g2, g3⟩
      · exact ⟨x, y, by simp [iterN, h1], by simp [iterN, h2], h3⟩
  obtain ⟨x, y, h1, h2, h3⟩ := key (μ s1) s1 s2 (Nat.le_refl _) h0
  exact ⟨x, y, iterN_mono _ FUEL _ _ (by rw [FUEL_eq]; omega) h1, iterN_mono _ FUEL _ _ (by rw [FUEL_eq]; omega) h2, h3⟩

/-! regions4 -/
/-! ### one region, in both texts -/
theorem region_impl {p : SPanel} (hd : Dim p) {J : List (SPoint × List SPoint)} (hJ : ∀ t n, n ∈ rowOf J t ↔ adj p t n) (hJl : ∀ t, (rowOf J t).length ≤ 200) (out : List (List SPoint)) (ow : List (SPoint × Int)) {s : SPoint} (hs : onG p s) (h0 : mfind ow s = none) (hcl : ∀ t n, mfind ow t ≠ none → adj p t n → mfind ow n ≠ none) :
    ∃ ow' q', iter (sh88_4 J out) (0, mput ow s ((out.length : Nat) : Int), [s]) = some (ow', q') ∧ q'.Nodup ∧ (∀ t, t ∈ q' ↔ Rch p s t) ∧ (∀ t, Rch p s t → mfind ow' t = some (out.length : Int)) ∧ ∀ t, ¬ Rch p s t → mfind ow' t = mfind ow t := by
  have HH := bfs_gen hd hs (r := (out.length : Int)) (o0 := mfind ow) (fun m => mfind m) (fun _ => True) (sh88_4 J out) (fun a q => (a, q)) (fun k a q hk _ hb hq => ?_) (fun a q => ?_) hcl (a := mput ow s ((out.length : Nat) : Int)) trivial (BFo.one h0 fun t => mfind_put ow s _ t)
  · obtain ⟨a', q', h1, _, h2, h3, h4, h5⟩ := HH
    exact ⟨a', q', h1, h2, h3, h4, h5⟩
  · have hr : ∀ n ∈ rowOf J q[k], Rch p s n := fun n hn => (hb.2.2.2.1 _ (List.getElem_mem hk)).step ((hJ _ n).1 hn)
    have HI := inner_gen hd hs (r := (out.length : Int)) (o0 := mfind ow) (fun m => mfind m) (fun _ => True) (sh88_5 J out q[k]) (rowOf J q[k]) (hJl _) (fun j hj b u _ hu _ => ⟨fun hn => ?_, fun hn => ?_⟩) (fun b u => ?_) (a := a) (q := q) trivial hb hr
    · obtain ⟨a', q', e1, _, e2, e3, e4, e5⟩ := HI
      have hkd : decide ((k : Int) < (q.length : Int)) = true := decide_eq_true (by omega)
      have hw : w64 ((k : Int) + 1) = ((k + 1 : Nat) : Int) := by rw [w64_id (by omega) (by omega)]; rfl
      refine ⟨a', q', ?_, trivial, e2, e3, fun n hn => e4 n ((hJ _ n).2 hn), e5⟩
      simp only [sh88_4, hkd, cond_true, getI_lt hk, bindS, e1, hw]
    · have hl := hJl q[k]
      have hkd : decide ((j : Int) < ((rowOf J q[k]).length : Int)) = true := decide_eq_true (by omega)
      have hw : w64 ((j : Int) + 1) = ((j + 1 : Nat) : Int) := by rw [w64_id (by omega) (by omega)]; rfl
      have hn' : mfind b (rowOf J q[k])[j] = none := hn
      refine ⟨mput b (rowOf J q[k])[j] ((out.length : Nat) : Int), ?_, trivial, fun t => mfind_put b _ _ t⟩
      simp only [sh88_5, hkd, cond_true, getI_lt hj, bindS, hn', Option.isSome_none, Bool.not_false, appL_ok (show u.length + [(rowOf J q[k])[j]].length ≤ 1099511627776 by simp only [List.length_cons, List.length_nil]; omega), hw]
    · have hl := hJl q[k]
      have hkd : decide ((j : Int) < ((rowOf J q[k]).length : Int)) = true := decide_eq_true (by omega)
      have hw : w64 ((j : Int) + 1) = ((j + 1 : Nat) : Int) := by rw [w64_id (by omega) (by omega)]; rfl
      have hn' : (mfind b (rowOf J q[k])[j]).isSome = true := by
        cases h : mfind b (rowOf J q[k])[j] with
        | none => exact absurd h hn
        | some x => rfl
      simp only [sh88_5, hkd, cond_true, getI_lt hj, bindS, hn', Bool.not_true, cond_false, hw]
    · have hkd : decide (((rowOf J q[k]).length : Int) < ((rowOf J q[k]).length : Int)) = false := decide_eq_false (by omega)
      simp only [sh88_5, hkd, cond_false]
  · have hkd : decide ((q.length : Int) < (q.length : Int)) = false := decide_eq_false (by omega)
    simp only [sh88_4, hkd, cond_false]
theorem region_spec {p : SPanel} (hp : panelB p = true) (outS : List (List SPoint)) {of : List Int} (hof : (of.length : Int) = NG p) {s : SPoint} (hs : onG p s) (h0 : ownS p of s = none) (hcl : ∀ t n, ownS p of t ≠ none → adj p t n → ownS p of n ≠ none) :
    ∃ of', iter (sh83_4 p outS) (0, of.set (numG p s).toNat ((outS.length : Nat) : Int), [s]) = some of' ∧ (of'.length : Int) = NG p ∧ (∀ t, Rch p s t → ownS p of' t = some (outS.length : Int)) ∧ ∀ t, ¬ Rch p s t → ownS p of' t = ownS p of t := by
  have hd := dim_of hp
  have HH := bfs_gen hd hs (r := (outS.length : Int)) (o0 := ownS p of) (ownS p) (fun a => (a.length : Int) = NG p) (sh83_4 p outS) (fun a _ => a) (fun k a q hk ha hb hq => ?_) (fun a q => ?_) hcl (a := of.set (numG p s).toNat ((outS.length : Nat) : Int)) (by rw [List.length_set]; exact hof) (BFo.one h0 fun t => ownS_set hd hof hs (by omega) t)
  · obtain ⟨a', q', h1, h2, _, _, h4, h5⟩ := HH
    exact ⟨a', h1, h2, h4, h5⟩
  · have hg : onG p q[k] := (hb.2.2.2.1 _ (List.getElem_mem hk)).grid hs
    have hr : ∀ n ∈ nbS p q[k], Rch p s n := fun n hn => (hb.2.2.2.1 _ (List.getElem_mem hk)).step ((nbS_mem hp _ n).1 hn)
    have hl := nbS_len p q[k]
    have HI := inner_gen hd hs (r := (outS.length : Int)) (o0 := ownS p of) (ownS p) (fun a => (a.length : Int) = NG p) (sh83_5 p (nbS p q[k]) outS) (nbS p q[k]) (by omega) (fun j hj b u hb2 hu hgj => ?_) (fun b u => ?_) (a := a) (q := q) ha hb hr
    · obtain ⟨a', q', e1, e0, e2, e3, e4, e5⟩ := HI
      have hkd : decide ((k : Int) < (q.length : Int)) = true := decide_eq_true (by omega)
      have hw : w64 ((k : Int) + 1) = ((k + 1 : Nat) : Int) := by rw [w64_id (by omega) (by omega)]; rfl
      refine ⟨a', q', ?_, e0, e2, e3, fun n hn => e4 n ((nbS_mem hp _ n).2 hn), e5⟩
      simp only [sh83_4, hkd, cond_true, getI_lt hk, bindS, joined_eq hd hg, e1, hw]
    · have hkd : decide ((j : Int) < ((nbS p q[k]).length : Int)) = true := decide_eq_true (by omega)
      have hw : w64 ((j : Int) + 1) = ((j + 1 : Nat) : Int) := by rw [w64_id (by omega) (by omega)]; rfl
      have hget := ownS_get hd hb2 hgj
      have hown : ownS p b (nbS p q[k])[j] = if b.getD (numG p (nbS p q[k])[j]).toNat (-1) < 0 then none else some (b.getD (numG p (nbS p q[k])[j]).toNat (-1)) := by
        unfold ownS; rw [if_pos hgj]
      generalize b.getD (numG p (nbS p q[k])[j]).toNat (-1) = v at hget hown
      constructor
      · intro hn
        rw [hown] at hn
        have hv : v < 0 := by
          rcases Int.lt_or_le v 0 with h | h
          · exact h
          · rw [if_neg (by omega)] at hn; cases hn
        refine ⟨b.set (numG p (nbS p q[k])[j]).toNat ((outS.length : Nat) : Int), ?_, by rw [List.length_set]; exact hb2, fun t => ownS_set hd hb2 hgj (by omega) t⟩
        simp only [sh83_5, hkd, cond_true, getI_lt hj, bindS, number_eq hd hgj, hget, decide_eq_true hv, appL_ok (show u.length + [(nbS p q[k])[j]].length ≤ 1099511627776 by simp only [List.length_cons, List.length_nil]; omega), hw]
      · intro hn
        rw [hown] at hn
        have hv : ¬ v < 0 := fun h => hn (if_pos h)
        simp only [sh83_5, hkd, cond_true, getI_lt hj, bindS, number_eq hd hgj, hget, decide_eq_false hv, cond_false, hw]
    · have hkd : decide (((nbS p q[k]).length : Int) < ((nbS p q[k]).length : Int)) = false := decide_eq_false (by omega)
      simp only [sh83_5, hkd, cond_false]
  · have hkd : decide ((q.length : Int) < (q.length : Int)) = false := decide_eq_false (by omega)
    simp only [sh83_4, hkd, cond_false]
/-! ### all regions -/
structure RQ (p : SPanel) (out : List (List SPoint)) (ow : List (SPoint × Int)) (of : List Int) (outS : List (List SPoint)) : Prop where
  olen : (of.length : Int) = NG p
  same : ∀ t, mfind ow t = ownS p of t
  slen : outS = List.replicate out.length []
  bd : ∀ t v, mfind ow t = some v → 0 ≤ v ∧ v < (out.length : Int)
  cl : ∀ t n v, mfind ow t = some v → adj p t n → mfind ow n = some v
  con : ∀ t u v, mfind ow t = some v → mfind ow u = some v → Rch p t u
  lst : ∀ k (hk : k < out.length), out[k].Pairwise (fun a b => ltPt a b = true) ∧ ∀ t, t ∈ out[k] ↔ mfind ow t = some (k : Int)
  ne : ∀ k, k < out.length → ∃ t, mfind ow t = some (k : Int)
theorem RQ.rch {p : SPanel} {out : List (List SPoint)} {ow : List (SPoint × Int)} {of : List Int} {outS : List (List SPoint)} (h : RQ p out ow of outS) {t u : SPoint} {v : Int} (ht : mfind ow t = some v) (hr : Rch p t u) : mfind ow u = some v := by
  induction hr with
  | refl => exact ht
  | step _ hk ih => exact h.cl _ _ _ ih hk
def Cov (p : SPanel) (ow : List (SPoint × Int)) (y x : Int) : Prop := ∀ t, onG p t → (t.Y < y ∨ (t.Y = y ∧ t.X < x)) → mfind ow t ≠ none
theorem RQ.add {p : SPanel} {out : List (List SPoint)} {ow ow' : List (SPoint × Int)} {of of' : List Int} {outS : List (List SPoint)} (h : RQ p out ow of outS) {s : SPoint} (h0 : mfind ow s = none) {q : List SPoint} (hq : q.Nodup) (hqm : ∀ t, t ∈ q ↔ Rch p s t)
    (i1 : ∀ t, Rch p s t → mfind ow' t = some (out.length : Int)) (i2 : ∀ t, ¬ Rch p s t → mfind ow' t = mfind ow t) (l1 : (of'.length : Int) = NG p) (s1 : ∀ t, Rch p s t → ownS p of' t = some (outS.length : Int)) (s2 : ∀ t, ¬ Rch p s t → ownS p of' t = ownS p of t) :
    RQ p (out ++ [q.mergeSort fun x y => !ltPt y x]) ow' of' (outS ++ [[]]) := by
  have hsl : outS.length = out.length := by rw [h.slen, List.length_replicate]
  have hnone : ∀ t, Rch p s t → mfind ow t = none := fun t ht => by
    cases hm : mfind ow t with
    | none => rfl
    | some v => rw [h.rch hm ht.symm] at h0; cases h0
  have hlt : ∀ t v, mfind ow' t = some v → (Rch p s t ∧ v = (out.length : Int)) ∨ (¬ Rch p s t ∧ mfind ow t = some v ∧ v < (out.length : Int)) := fun t v hv => by
    by_cases hr : Rch p s t
    · rw [i1 t hr] at hv
      exact .inl ⟨hr, (Option.some.inj hv).symm⟩
    · rw [i2 t hr] at hv
      exact .inr ⟨hr, hv, (h.bd t v hv).2⟩
  refine ⟨l1, fun t => ?_, ?_, fun t v hv => ?_, fun t n v hv ha => ?_, fun t u v hv hu => ?_, fun k hk => ?_, fun k hk => ?_⟩
  · by_cases hr : Rch p s t
    · rw [i1 t hr, s1 t hr, hsl]
    · rw [i2 t hr, s2 t hr, h.same]
  · rw [h.slen, List.length_append]; simp [List.replicate_succ']
  · rw [List.length_append]
    simp only [List.length_cons, List.length_nil]
    rcases hlt t v hv with ⟨_, rfl⟩ | ⟨_, hv2, _⟩
    · omega
    · have := h.bd t v hv2; omega
  · rcases hlt t v hv with ⟨hr, rfl⟩ | ⟨hr, hv2, _⟩
    · exact i1 n (hr.step ha)
    · rw [i2 n (fun hn => hr (hn.step (adj_sym ha)))]
      exact h.cl t n v hv2 ha
  · rcases hlt t v hv with ⟨hr, rfl⟩ | ⟨hr, hv2, hvl⟩
    · rcases hlt u _ hu with ⟨hr2, _⟩ | ⟨_, _, h3⟩
      · exact hr.symm.trans hr2
      · omega
    · rcases hlt u _ hu with ⟨_, h3⟩ | ⟨_, hu2, _⟩
      · omega
      · exact h.con t u v hv2 hu2
  · by_cases hk2 : k < out.length
    · rw [List.getElem_append_left hk2]
      obtain ⟨g1, g2⟩ := h.lst k hk2
      refine ⟨g1, fun t => ?_⟩
      rw [g2]
      constructor
      · intro ht
        rw [i2 t (fun hr => by rw [hnone t hr] at ht; cases ht)]
        exact ht
      · intro ht
        rcases hlt t _ ht with ⟨_, h3⟩ | ⟨_, h3, _⟩
        · omega
        · exact h3
    · have hke : k = out.length := by
        simp only [List.length_append, List.length_cons, List.length_nil] at hk; omega
      subst hke
      have e : (out ++ [q.mergeSort fun x y => !ltPt y x])[out.length]'hk = q.mergeSort fun x y => !ltPt y x := by simp
      rw [e]
      obtain ⟨g1, g2⟩ := sort_strict hq
      refine ⟨g1, fun t => ?_⟩
      rw [g2, hqm]
      constructor
      · exact i1 t
      · intro ht
        rcases hlt t _ ht with ⟨h3, _⟩ | ⟨_, _, h3⟩
        · exact h3
        · omega
  · by_cases hk2 : k < out.length
    · obtain ⟨t, ht⟩ := h.ne k hk2
      refine ⟨t, ?_⟩
      rw [i2 t (fun hr => by rw [hnone t hr] at ht; cases ht)]
      exact ht
    · have hke : k = out.length := by
        simp only [List.length_append, List.length_cons, List.length_nil] at hk; omega
      subst hke
      exact ⟨s, i1 s .refl⟩
theorem row_loop {p : SPanel} (hp : panelB p = true) {J : List (SPoint × List SPoint)} (hJ : ∀ t n, n ∈ rowOf J t ↔ adj p t n) (hJl : ∀ t, (rowOf J t).length ≤ 200) {y : Int} (hy0 : 0 ≤ y) (hy1 : y ≤ 2 * p.H) {out : List (List SPoint)} {ow : List (SPoint × Int)} {of : List Int} {outS : List (List SPoint)} (h : RQ p out ow of outS) (hc : Cov p ow y 0) (hn : (out.length : Int) ≤ 9 * y) :
    ∃ a b, iter (sh88_3 p J y) (y.tmod 2, out, ow) = some a ∧ iter (sh83_3 p y) (y.tmod 2, of, outS) = some b ∧ RQ p a.1 a.2 b.1 b.2 ∧ Cov p a.2 (y + 1) 0 ∧ (a.1.length : Int) ≤ 9 * (y + 1) := by
  have hd := dim_of hp
  have d1 := hd.w1; have d2 := hd.w2; have d3 := hd.h1; have d4 := hd.h2
  have hw : w64 (2 * p.W) = 2 * p.W := w64_id (by omega) (by omega)
  have hm : y.tmod 2 = y % 2 := Int.tmod_eq_emod_of_nonneg hy0
  rw [hm]
  refine iter_relR (sb1 := sh88_3 p J y) (sb2 := sh83_3 p y) (fun a b => a.1 = b.1 ∧ (a.1 % 2 = y % 2 ∧ 0 ≤ a.1 ∧ a.1 ≤ 2 * p.W + 2) ∧ RQ p a.2.1 a.2.2 b.2.1 b.2.2 ∧ Cov p a.2.2 y a.1 ∧ (a.2.1.length : Int) ≤ 9 * y + a.1 / 2) (fun a => (40 - a.1).toNat) (fun a b => RQ p a.1 a.2 b.1 b.2 ∧ Cov p a.2 (y + 1) 0 ∧ (a.1.length : Int) ≤ 9 * (y + 1)) (s1 := (y % 2, out, ow)) (s2 := (y % 2, of, outS)) ⟨rfl, by simp only; omega, h, fun t ht hlt => hc t ht (by
    unfold onG at ht; simp only at hlt; omega), by simp only; omega⟩ (by simp only; omega) ?_
  rintro ⟨x, o, w⟩ ⟨x', f, oS⟩ ⟨h1, h2, h3, h4, h5⟩
  simp only at h1 h2 h3 h4 h5
  subst h1
  by_cases hx : x ≤ 2 * p.W
  · left
    have hg : onG p ⟨x, y⟩ := by unfold onG; simp only; omega
    have hxd : decide (x ≤ 2 * p.W) = true := decide_eq_true hx
    have hw2 : w64 (x + 2) = x + 2 := w64_id (by omega) (by omega)
    have hget := ownS_get hd h3.olen hg
    have hown : ownS p f ⟨x, y⟩ = if f.getD (numG p ⟨x, y⟩).toNat (-1) < 0 then none else some (f.getD (numG p ⟨x, y⟩).toNat (-1)) := by
      unfold ownS; rw [if_pos hg]
    have hsame := h3.same ⟨x, y⟩
    generalize f.getD (numG p ⟨x, y⟩).toNat (-1) = v at hget hown
    have hcov : ∀ w' : List (SPoint × Int), (∀ t, mfind w t ≠ none → mfind w' t ≠ none) → mfind w' ⟨x, y⟩ ≠ none → Cov p w' y (x + 2) := fun w' hmo hxy t ht hlt => by
      by_cases hb : t.Y < y ∨ (t.Y = y ∧ t.X < x)
      · exact hmo t (h4 t ht hb)
      · have hte : t = ⟨x, y⟩ := by
          unfold onG at ht
          cases t
          simp only [SPoint.mk.injEq] at *
          omega
        rw [hte]; exact hxy
    cases hf : mfind w ⟨x, y⟩ with
    | some u =>
      rw [hsame, hown] at hf
      have hv : ¬ v < 0 := fun hv => by rw [if_pos hv] at hf; cases hf
      have hfw : (mfind w ⟨x, y⟩).isSome = true := by rw [hsame, hown, hf]; rfl
      refine ⟨(x + 2, o, w), (x + 2, f, oS), ?_, ?_, ⟨rfl, by simp only; omega, h3, hcov w (fun t h => h) (by rw [hsame, hown, hf]; simp), by simp only; omega⟩, by simp only; omega⟩
      · simp only [sh88_3, hw, hxd, cond_true, hfw, hw2]
      · simp only [sh83_3, hw, hxd, cond_true, number_eq hd hg, bindS, hget, decide_eq_true (show 0 ≤ v by omega), hw2]
    | none =>
      have hfS : ownS p f ⟨x, y⟩ = none := hsame ▸ hf
      have hv : v < 0 := by
        rw [hown] at hfS
        rcases Int.lt_or_le v 0 with h | h
        · exact h
        · rw [if_neg (by omega)] at hfS; cases hfS
      have hcl : ∀ t n, mfind w t ≠ none → adj p t n → mfind w n ≠ none := fun t n ht ha => by
        cases hm2 : mfind w t with
        | none => exact absurd hm2 ht
        | some z => rw [h3.cl t n z hm2 ha]; simp
      have hclS : ∀ t n, ownS p f t ≠ none → adj p t n → ownS p f n ≠ none := fun t n ht ha => by
        rw [← h3.same] at ht ⊢
        exact hcl t n ht ha
      obtain ⟨w', q, e1, e2, e3, e4, e5⟩ := region_impl hd hJ hJl o w hg hf hcl
      obtain ⟨f', g1, g2, g3, g4⟩ := region_spec hp oS h3.olen hg hfS hclS
      have hq : q.length ≤ 153 := Nat.le_trans (nodup_len q (grid p) e2 fun t ht => (mem_grid hd t).2 (((e3 t).1 ht).grid hg)) (grid_len hd)
      have hso : sortW ltPt q = some (q.mergeSort fun x y => !ltPt y x) := by unfold sortW; rw [if_pos (by omega)]
      have hsl : oS.length = o.length := by rw [h3.slen, List.length_replicate]
      refine ⟨(x + 2, o ++ [q.mergeSort fun x y => !ltPt y x], w'), (x + 2, f', oS ++ [[]]), ?_, ?_, ⟨rfl, by simp only; omega, h3.add hf e2 e3 e4 e5 g2 g3 g4, hcov w' (fun t ht => ?_) (by rw [e4 _ .refl]; simp), by simp only [List.length_append, List.length_cons, List.length_nil]; omega⟩, by simp only; omega⟩
      · simp only [sh88_3, hw, hxd, cond_true, hf, Option.isSome_none, cond_false, e1, bindS, hso, appL_ok (show o.length + [q.mergeSort fun x y => !ltPt y x].length ≤ 1099511627776 by simp only [List.length_cons, List.length_nil]; omega), hw2]
      · simp only [sh83_3, hw, hxd, cond_true, number_eq hd hg, bindS, hget, decide_eq_false (show ¬ 0 ≤ v by omega), cond_false, g1, appL_ok (show oS.length + [([] : List SPoint)].length ≤ 1099511627776 by simp only [List.length_cons, List.length_nil]; omega), hw2]
      · by_cases hr : Rch p ⟨x, y⟩ t
        · rw [e4 t hr]; simp
        · rw [e5 t hr]; exact ht
  · right
    have hxd : decide (x ≤ 2 * p.W) = false := decide_eq_false hx
    refine ⟨(o, w), (f, oS), ?_, ?_, h3, fun t ht hlt => h4 t ht ?_, by simp only; omega⟩
    · simp only [sh88_3, hw, hxd, cond_false]
    · simp only [sh83_3, hw, hxd, cond_false]
    · unfold onG at ht; omega
theorem all_loop {p : SPanel} (hp : panelB p = true) {J : List (SPoint × List SPoint)} (hJ : ∀ t n, n ∈ rowOf J t ↔ adj p t n) (hJl : ∀ t, (rowOf J t).length ≤ 200) {of : List Int} (h : RQ p [] [] of []) :
    ∃ a b, iter (sh88_2 p J) (0, [], []) = some a ∧ iter (sh83_2 p) (0, of, []) = some b ∧ RQ p a.1 a.2 b.1 b.2 ∧ (∀ t, onG p t → mfind a.2 t ≠ none) ∧ a.1.length ≤ 153 := by
  have hd := dim_of hp
  have d3 := hd.h1; have d4 := hd.h2
  have hw : w64 (2 * p.H) = 2 * p.H := w64_id (by omega) (by omega)
  have hw1 : w64 (2 * p.H + 1) = 2 * p.H + 1 := w64_id (by omega) (by omega)
  obtain ⟨a, b, e1, e2, e3, e4, e5⟩ := iter_relR (sb1 := sh88_2 p J) (sb2 := sh83_2 p) (fun a b => a.1 = b.1 ∧ (0 ≤ a.1 ∧ a.1 ≤ 2 * p.H + 1) ∧ RQ p a.2.1 a.2.2 b.2.1 b.2.2 ∧ Cov p a.2.2 a.1 0 ∧ (a.2.1.length : Int) ≤ 9 * a.1) (fun a => (40 - a.1).toNat) (fun a b => RQ p a.1 a.2 b.1 b.2 ∧ Cov p a.2 (2 * p.H + 1) 0 ∧ (a.1.length : Int) ≤ 9 * (2 * p.H + 1)) (s1 := (0, [], [])) (s2 := (0, of, [])) ⟨rfl, by simp only; omega, h, fun t ht hlt => by unfold onG at ht; simp only at hlt; omega, by simp⟩ (by simp only; omega) (by
    rintro ⟨y, o, w⟩ ⟨y', f, oS⟩ ⟨h1, h2, h3, h4, h5⟩
    simp only at h1 h2 h3 h4 h5
    subst h1
    by_cases hy : y ≤ 2 * p.H
    · left
      obtain ⟨a, b, g1, g2, g3, g4, g5⟩ := row_loop hp hJ hJl h2.1 hy h3 h4 h5
      have hw2 : w64 (y + 1) = y + 1 := w64_id (by omega) (by omega)
      refine ⟨(y + 1, a.1, a.2), (y + 1, b.1, b.2), ?_, ?_, ⟨rfl, by simp only; omega, g3, g4, g5⟩, by simp only; omega⟩
      · simp only [sh88_2, hw, hw1, decide_eq_true (show y < 2 * p.H + 1 by omega), cond_true, g1, bindS, hw2]
      · simp only [sh83_2, hw, decide_eq_true hy, cond_true, g2, bindS, hw2]
    · right
      have hye : y = 2 * p.H + 1 := by omega
      subst hye
      refine ⟨(o, w), (f, oS), ?_, ?_, h3, h4, h5⟩
      · simp only [sh88_2, hw, hw1, decide_eq_false (show ¬ 2 * p.H + 1 < 2 * p.H + 1 by omega), cond_false]
      · simp only [sh83_2, hw, decide_eq_false hy, cond_false])
  exact ⟨a, b, e1, e2, e3, fun t ht => e4 t ht (by unfold onG at ht; omega), by omega⟩
/-! ### the lists of the reference -/
def fillS (v : SPoint → Int) (l : List (List SPoint)) (t : SPoint) : List (List SPoint) := l.set (v t).toNat (l.getD (v t).toNat [] ++ [t])
theorem fill_get (v : SPoint → Int) (k : Nat) : ∀ (L : List SPoint) (l : List (List SPoint)), (∀ t ∈ L, 0 ≤ v t ∧ v t < (l.length : Int)) → (L.foldl (fillS v) l).length = l.length ∧ (L.foldl (fillS v) l).getD k [] = l.getD k [] ++ L.filter (fun t => decide (v t = (k : Int)))
  | [], l, _ => by simp
  | a :: L, l, h => by
    have ha := h a (List.mem_cons_self ..)
    have hl : (fillS v l a).length = l.length := by unfold fillS; rw [List.length_set]
    obtain ⟨h1, h2⟩ := fill_get v k L (fillS v l a) (fun t ht => by rw [hl]; exact h t (List.mem_cons_of_mem _ ht))
    rw [List.foldl_cons]
    refine ⟨by rw [h1, hl], ?_⟩
    rw [h2, List.filter_cons]
    by_cases hk : v a = (k : Int)
    · have hkk : (v a).toNat = k := by omega
      rw [if_pos (decide_eq_true hk)]
      have : (fillS v l a).getD k [] = l.getD k [] ++ [a] := by
        unfold fillS
        rw [hkk, List.getD_eq_getElem?_getD, List.getElem?_set_self (by omega)]; rfl
      rw [this, List.append_assoc]; rfl
    · have hkk : (v a).toNat ≠ k := by omega
      have : (fillS v l a).getD k [] = l.getD k [] := by
        unfold fillS
        rw [List.getD_eq_getElem?_getD, List.getElem?_set_ne hkk, ← List.getD_eq_getElem?_getD]
      rw [this, if_neg (by simpa using hk)]
theorem fill_len (v : SPoint → Int) (l : List (List SPoint)) (t : SPoint) {c : Nat} (h : ∀ j, (l.getD j []).length ≤ c) (j : Nat) : ((fillS v l t).getD j []).length ≤ c + 1 := by
  unfold fillS
  rw [List.getD_eq_getElem?_getD, List.getElem?_set]
  split
  · split
    · have := h (v t).toNat
      simp only [Option.getD_some, List.length_append, List.length_cons, List.length_nil]; omega
    · simp
  · rw [← List.getD_eq_getElem?_getD]
    have := h j; omega
theorem fill_row {p : SPanel} (hd : Dim p) {b : List Int × List (List SPoint)} {v : SPoint → Int} {n : Nat} (hv : ∀ t, onG p t → getI b.1 (numG p t) = some (v t) ∧ 0 ≤ v t ∧ v t < (n : Int)) {y : Nat} (hy : (y : Int) ≤ 2 * p.H) {l : List (List SPoint)} (hl : l.length = n) (hs : ∀ j, (l.getD j []).length ≤ 9 * y) :
    iter (sh83_7 p b (y : Int)) ((y : Int).tmod 2, l) = some ((gridRow p (y : Int)).foldl (fillS v) l) ∧ ((gridRow p (y : Int)).foldl (fillS v) l).length = n ∧ ∀ j, (((gridRow p (y : Int)).foldl (fillS v) l).getD j []).length ≤ 9 * (y + 1) := by
  have d1 := hd.w1; have d2 := hd.w2; have d3 := hd.h1; have d4 := hd.h2
  have hw : w64 (2 * p.W) = 2 * p.W := w64_id (by omega) (by omega)
  have hm : (y : Int).tmod 2 = (y : Int) % 2 := Int.tmod_eq_emod_of_nonneg (by omega)
  have hrl := gridRow_len hd (y : Int)
  have hlen : (gridRow p (y : Int)).length = ((2 * p.W - (y : Int) % 2) / 2 + 1).toNat := by unfold gridRow; rw [List.length_map, List.length_range]
  have hi := iter_fold (sb := sh83_7 p b (y : Int)) (gridRow p (y : Int)) (fun k (l : List (List SPoint)) => ((y : Int) % 2 + 2 * (k : Int), l)) (fillS v) (fun l => l) (fun k l => l.length = n ∧ ∀ j, (l.getD j []).length ≤ 9 * y + k) l ⟨hl, hs⟩ (by omega) (fun k hk q hI => ?_) (fun q _ => ?_)
  · have h1 := hi.1
    simp only [Int.natCast_zero, Int.mul_zero, Int.add_zero] at h1
    rw [hm]
    refine ⟨h1, hi.2.1, fun j => ?_⟩
    have := hi.2.2 j
    omega
  · obtain ⟨u, hu⟩ : ∃ u, u = (gridRow p (y : Int))[k] := ⟨_, rfl⟩
    have e : u = ⟨(y : Int) % 2 + 2 * (k : Int), (y : Int)⟩ := by rw [hu]; simp [gridRow]
    have hg : onG p u := by
      have := (mem_row hd (y : Int) _).1 (List.getElem_mem hk)
      rw [← hu] at this
      unfold onG; omega
    rw [← hu]
    obtain ⟨v1, v2, v3⟩ := hv _ hg
    have hkd : decide ((y : Int) % 2 + 2 * (k : Int) ≤ 2 * p.W) = true := decide_eq_true (by omega)
    have hw2 : w64 ((y : Int) % 2 + 2 * (k : Int) + 2) = (y : Int) % 2 + 2 * ((k + 1 : Nat) : Int) := by rw [w64_id (by omega) (by omega)]; omega
    have hvl : (v u).toNat < q.length := by rw [hI.1]; omega
    have hgq : getI q (v u) = some (q.getD (v u).toNat []) := by
      rw [getI_toNat v2 hvl, List.getD_eq_getElem?_getD, List.getElem?_eq_getElem hvl]; rfl
    have hrow := hI.2 (v u).toNat
    have hnum := number_eq hd hg
    refine ⟨?_, ⟨by unfold fillS; rw [List.length_set]; exact hI.1, fun j => ?_⟩⟩
    · simp only [sh83_7, hw, hkd, cond_true, ← e, hnum, bindS, v1, hgq, hw2]
      rw [appL_ok (by simp only [List.length_cons, List.length_nil]; omega)]
      rfl
    · have := fill_len v q u hI.2 j
      omega
  · have hkd : decide ((y : Int) % 2 + 2 * ((gridRow p (y : Int)).length : Int) ≤ 2 * p.W) = false := decide_eq_false (by rw [hlen]; omega)
    simp only [sh83_7, hw, hkd, cond_false]

/-! regions5 -/
theorem gridN_on {p : SPanel} (hd : Dim p) {n : Nat} (hn : (n : Int) ≤ 2 * p.H + 1) {t : SPoint} (h : t ∈ gridN p n) : onG p t := by
  have := (mem_gridN hd t n).1 h
  unfold onG; omega
theorem fill_all {p : SPanel} (hd : Dim p) {b : List Int × List (List SPoint)} {v : SPoint → Int} {n : Nat} (hv : ∀ t, onG p t → getI b.1 (numG p t) = some (v t) ∧ 0 ≤ v t ∧ v t < (n : Int)) :
    iter (sh83_6 p b) (0, List.replicate n []) = some ((grid p).foldl (fillS v) (List.replicate n [])) := by
  have d3 := hd.h1; have d4 := hd.h2
  have hw : w64 (2 * p.H) = 2 * p.H := w64_id (by omega) (by omega)
  have hs := iter_steps (sb := sh83_6 p b) (fun k => ((k : Int), (gridN p k).foldl (fillS v) (List.replicate n []))) (2 * p.H + 1).toNat (x := (grid p).foldl (fillS v) (List.replicate n [])) (by omega) (fun k hk => ?_) ?_
  · simpa [gridN] using hs
  · have hon : ∀ t ∈ gridN p k, 0 ≤ v t ∧ v t < ((List.replicate n ([] : List SPoint)).length : Int) := fun t ht => by
      rw [List.length_replicate]
      exact (hv t (gridN_on hd (by omega) ht)).2
    have hlen := (fill_get v 0 (gridN p k) (List.replicate n []) hon).1
    rw [List.length_replicate] at hlen
    have hrow : ∀ j, (((gridN p k).foldl (fillS v) (List.replicate n [])).getD j []).length ≤ 9 * k := fun j => by
      rw [(fill_get v j (gridN p k) (List.replicate n []) hon).2]
      have h1 : ((List.replicate n ([] : List SPoint)).getD j []) = [] := by
        rw [List.getD_eq_getElem?_getD, List.getElem?_replicate]; split <;> rfl
      rw [h1, List.nil_append]
      exact Nat.le_trans (List.length_filter_le _ _) (gridN_len hd k)
    obtain ⟨e1, e2, e3⟩ := fill_row hd hv (y := k) (by omega) hlen hrow
    have hkd : decide ((k : Int) ≤ 2 * p.H) = true := decide_eq_true (by omega)
    have hw2 : w64 ((k : Int) + 1) = ((k + 1 : Nat) : Int) := by rw [w64_id (by omega) (by omega)]; rfl
    simp only [sh83_6, hw, hkd, cond_true, e1, bindS, hw2]
    rw [show gridN p (k + 1) = gridN p k ++ gridRow p (k : Int) from rfl, List.foldl_append]
  · have hkd : decide ((((2 * p.H + 1).toNat : Nat) : Int) ≤ 2 * p.H) = false := decide_eq_false (by omega)
    simp only [sh83_6, hw, hkd, cond_false]
    rfl
theorem minus_all (N : Nat) (hN : N ≤ 1000) : iter (sh83_1 (List.replicate N 0)) (0, List.replicate N 0) = some (List.replicate N (-1)) := by
  have := iter_steps (sb := sh83_1 (List.replicate N 0)) (fun k => ((k : Int), List.replicate k (-1) ++ List.replicate (N - k) 0)) N (x := List.replicate N (-1)) (by omega) (fun k hk => ?_) ?_
  · simpa using this
  · have hl : k < (List.replicate k (-1 : Int) ++ List.replicate (N - k) 0).length := by simp; omega
    have hd1 : decide ((k : Int) < ((List.replicate N (0 : Int)).length : Int)) = true := decide_eq_true (by simp; omega)
    have hw : w64 ((k : Int) + 1) = ((k + 1 : Nat) : Int) := by rw [w64_id (by omega) (by omega)]; rfl
    obtain ⟨m, hm⟩ : ∃ m, N - k = m + 1 := ⟨N - k - 1, by omega⟩
    simp only [sh83_1, hd1, cond_true, getI_lt hl, bindS, Int.toNat_natCast, hw]
    rw [List.set_append, if_neg (by simp), List.length_replicate, Nat.sub_self, hm, List.replicate_succ, List.set_cons_zero, show N - (k + 1) = m by omega, List.replicate_succ', List.append_assoc]
    rfl
  · have hd1 : decide ((N : Int) < ((List.replicate N (0 : Int)).length : Int)) = false := decide_eq_false (by simp)
    simp only [sh83_1, hd1, cond_false]
    simp
theorem regions_eq {p : SPanel} (hp : panelB p = true) : ∃ R of ow, sh83 p = some (R, of) ∧ sh88 p = some (R, ow) ∧ RQ p R ow of (List.replicate R.length []) ∧ (∀ t, onG p t → mfind ow t ≠ none) ∧ R.length ≤ 153 ∧ ∀ r ∈ R, r.length ≤ 153 := by
  have hd := dim_of hp
  have d1 := hd.w1; have d2 := hd.w2; have d3 := hd.h1; have d4 := hd.h2
  have hN := NG_bd hd
  obtain ⟨J, j1, j2, j3⟩ := joined_map hp
  obtain ⟨N, hNN⟩ : ∃ N : Nat, N = (NG p).toNat := ⟨_, rfl⟩
  have hQ : RQ p [] [] (List.replicate N (-1)) [] := by
    refine ⟨by rw [List.length_replicate]; omega, fun t => ?_, rfl, fun t v h => by simp [mfind, mloc] at h, fun t n v h => by simp [mfind, mloc] at h, fun t n v h => by simp [mfind, mloc] at h, fun k hk => by simp at hk, fun k hk => by simp at hk⟩
    unfold ownS
    have : (List.replicate N (-1 : Int)).getD (numG p t).toNat (-1) = -1 := by
      rw [List.getD_eq_getElem?_getD, List.getElem?_replicate]; split <;> rfl
    rw [this]
    split <;> rfl
  obtain ⟨⟨R, ow⟩, ⟨of, oS⟩, e1, e2, e3, e4, e5⟩ := all_loop hp j2 j3 hQ
  simp only at e3 e4 e5
  have hsl := e3.slen
  subst hsl
  have hv : ∀ t, onG p t → getI of (numG p t) = some (of.getD (numG p t).toNat (-1)) ∧ 0 ≤ of.getD (numG p t).toNat (-1) ∧ of.getD (numG p t).toNat (-1) < (R.length : Int) := fun t ht => by
    refine ⟨ownS_get hd e3.olen ht, ?_⟩
    have h1 := e4 t ht
    have h2 := e3.same t
    unfold ownS at h2
    rw [if_pos ht] at h2
    split at h2
    · exact absurd h2 h1
    · exact e3.bd t _ h2
  have hfill := fill_all hd (b := (of, List.replicate R.length [])) hv
  have hon : ∀ t ∈ grid p, 0 ≤ of.getD (numG p t).toNat (-1) ∧ of.getD (numG p t).toNat (-1) < ((List.replicate R.length ([] : List SPoint)).length : Int) := fun t ht => by
    rw [List.length_replicate]; exact (hv t ((mem_grid hd t).1 ht)).2
  have hval : ∀ t k, onG p t → (mfind ow t = some (k : Int) ↔ of.getD (numG p t).toNat (-1) = k) := fun t k ht => by
    rw [e3.same]
    unfold ownS
    have := hv t ht
    rw [if_pos ht, if_neg (by omega)]
    exact ⟨fun h => Option.some.inj h, fun h => by rw [h]⟩
  have hgr : ∀ t v, mfind ow t = some v → onG p t := fun t v h => by
    rw [e3.same] at h
    unfold ownS at h
    split at h
    · assumption
    · cases h
  have hRk : ∀ k (hk : k < R.length), R[k] = (grid p).filter fun t => decide (of.getD (numG p t).toNat (-1) = (k : Int)) := fun k hk => by
    obtain ⟨g1, g2⟩ := e3.lst k hk
    refine sorted_uniq _ _ g1 ((gridN_sorted hd _).filter _) fun t => ?_
    rw [g2, List.mem_filter, mem_grid hd, decide_eq_true_eq]
    constructor
    · intro h
      exact ⟨hgr t _ h, (hval t k (hgr t _ h)).1 h⟩
    · rintro ⟨h1, h2⟩
      exact (hval t k h1).2 h2
  have hR : (grid p).foldl (fillS fun t => of.getD (numG p t).toNat (-1)) (List.replicate R.length []) = R := by
    have hl := (fill_get (fun t => of.getD (numG p t).toNat (-1)) 0 (grid p) (List.replicate R.length []) hon).1
    rw [List.length_replicate] at hl
    apply List.ext_getElem hl
    intro k h1 h2
    have hk := (fill_get (fun t => of.getD (numG p t).toNat (-1)) k (grid p) (List.replicate R.length []) hon).2
    have h0 : ((List.replicate R.length ([] : List SPoint)).getD k []) = [] := by
      rw [List.getD_eq_getElem?_getD, List.getElem?_replicate]; split <;> rfl
    rw [h0, List.nil_append, List.getD_eq_getElem?_getD, List.getElem?_eq_getElem h1, Option.getD_some] at hk
    rw [hk, hRk k h2]
  refine ⟨R, of, ow, ?_, ?_, e3, e4, e5, fun r hr => ?_⟩
  · unfold sh83
    have hm : 0 ≤ 2 * p.W * (2 * p.H + 1) := Int.mul_nonneg (by omega) (by omega)
    have hNG : (2 * p.W + 1) * (2 * p.H + 1) = (N : Int) := by
      have : NG p = (2 * p.W + 1) * (2 * p.H + 1) := rfl
      omega
    rw [w64_id (x := 2 * p.W) (by omega) (by omega), w64_id (x := 2 * p.H) (by omega) (by omega), w64_id (x := 2 * p.W + 1) (by omega) (by omega), w64_id (x := 2 * p.H + 1) (by omega) (by omega), hNG, w64_id (by omega) (by omega), mkL_ok (by omega), bindS, minus_all N (by omega), bindS, e2, bindS, hfill, bindS, hR]
  · unfold sh88
    rw [points_impl hd, bindS, j1, bindS, e1, bindS]
  · obtain ⟨k, hk, rfl⟩ := List.getElem_of_mem hr
    rw [hRk k hk]
    exact Nat.le_trans (List.length_filter_le _ _) (grid_len hd)
/-! ### one region by its number -/
theorem in_dec (k n : Int) : (decide (0 ≤ k) && decide (k ≤ n - 1)) = decide (0 ≤ k ∧ k < n) := by
  rw [Bool.eq_iff_iff]
  simp only [Bool.and_eq_true, decide_eq_true_eq]
  omega
theorem regionOf_eq (p : SPanel) (k : Int) (hb : p.Breaks.length ≤ 1048576) :
    (∃ c, c ≠ 0 ∧ sh89 p k = some ([], [], c) ∧ sh90 p k = some ([], [], c)) ∨
    (panelB p = true ∧ ∃ R of ow, ∃ n : Nat, ∃ hn : n < R.length, k = (n : Int) ∧ sh83 p = some (R, of) ∧ sh88 p = some (R, ow) ∧ RQ p R ow of (List.replicate R.length []) ∧ (∀ t, onG p t → mfind ow t ≠ none) ∧ R.length ≤ 153 ∧ (∀ r ∈ R, r.length ≤ 153) ∧ sh89 p k = some (R, of, 0) ∧ sh90 p k = some (R[n], ow, 0)) := by
  unfold sh89 sh90 sh127 sh152 sh125
  rw [l02Ok_eq p hb, validPanel_eq p hb]
  simp only [bindS]
  cases hp : panelB p
  · exact .inl ⟨1, by omega, rfl, rfl⟩
  · obtain ⟨R, of, ow, h1, h2, h3, h4, h5, h6⟩ := regions_eq hp
    have hw : w64 (((R.length : Nat) : Int) - 1) = (R.length : Int) - 1 := w64_id (by omega) (by omega)
    simp only [Bool.not_true, cond_false, h1, h2, bindS, hw, in_dec]
    by_cases hk : 0 ≤ k ∧ k < (R.length : Int)
    · right
      obtain ⟨n, rfl⟩ : ∃ n : Nat, k = n := ⟨k.toNat, by omega⟩
      have hn : n < R.length := by omega
      refine ⟨trivial, R, of, ow, n, hn, rfl, rfl, rfl, h3, h4, h5, h6, ?_, ?_⟩
      · rw [decide_eq_true hk]; rfl
      · rw [decide_eq_true hk, Bool.not_true, cond_false, getI_lt hn, bindS]
    · left
      rw [decide_eq_false hk]
      exact ⟨2, by omega, rfl, rfl⟩

/-! regneigh -/
/-! ### sorted lists of numbers -/
theorem sorted_uniqI : ∀ (l m : List Int), l.Pairwise (fun a b => a < b) → m.Pairwise (fun a b => a < b) → (∀ t, t ∈ l ↔ t ∈ m) → l = m
  | [], [], _, _, _ => rfl
  | [], b :: m, _, _, h => by have := (h b).2 (List.mem_cons_self ..); simp at this
  | a :: l, [], _, _, h => by have := (h a).1 (List.mem_cons_self ..); simp at this
  | a :: l, b :: m, h1, h2, h => by
    obtain ⟨a1, a2⟩ := List.pairwise_cons.1 h1
    obtain ⟨b1, b2⟩ := List.pairwise_cons.1 h2
    have hab : a = b := by
      rcases List.mem_cons.1 ((h a).1 (List.mem_cons_self ..)) with e | e
      · exact e
      · rcases List.mem_cons.1 ((h b).2 (List.mem_cons_self ..)) with e2 | e2
        · exact e2.symm
        · have h3 := b1 a e
          have h4 := a1 b e2
          omega
    subst hab
    rw [sorted_uniqI l m a2 b2 fun t => ?_]
    constructor
    · intro ht
      rcases List.mem_cons.1 ((h t).1 (List.mem_cons_of_mem _ ht)) with e | e
      · subst e
        have := a1 t ht; omega
      · exact e
    · intro ht
      rcases List.mem_cons.1 ((h t).2 (List.mem_cons_of_mem _ ht)) with e | e
      · subst e
        have := b1 t ht; omega
      · exact e
theorem compact_facts (zs : List Int) (hs : ∀ i j, i ≤ j → j < zs.length → zs.getD i 0 ≤ zs.getD j 0) : ∀ m, m ≤ zs.length → (Lib.compactUpTo zs.toArray m).Pairwise (fun a b => a < b) ∧ (∀ x, x ∈ Lib.compactUpTo zs.toArray m ↔ ∃ j, j < m ∧ zs.getD j 0 = x) ∧ (Lib.compactUpTo zs.toArray m).length ≤ m
  | 0, _ => by simp [Lib.compactUpTo]
  | m + 1, hm => by
    obtain ⟨h1, h2, h3⟩ := compact_facts zs hs m (by omega)
    have hget : ∀ j, j < zs.length → zs.toArray[j]! = zs.getD j 0 := fun j hj => by
      simp [hj]
    rw [Lib.compactUpTo_succ]
    by_cases hk : Lib.keeps zs.toArray m = true
    · rw [if_pos hk, hget m (by omega)]
      have hk' : m = 0 ∨ zs.getD m 0 ≠ zs.getD (m - 1) 0 := by
        unfold Lib.keeps at hk
        rw [decide_eq_true_eq, hget m (by omega), hget (m - 1) (by omega)] at hk
        exact hk
      refine ⟨?_, fun x => ?_, by simp; omega⟩
      · rw [List.pairwise_append]
        refine ⟨h1, by simp, fun a ha b hb => ?_⟩
        simp at hb
        subst hb
        obtain ⟨j, hj, rfl⟩ := (h2 a).1 ha
        rcases hk' with h0 | h0
        · omega
        · have g1 := hs j (m - 1) (by omega) (by omega)
          have g2 := hs (m - 1) m (by omega) (by omega)
          have e : zs[m]?.getD 0 = zs.getD m 0 := by rw [List.getD_eq_getElem?_getD]
          omega
      · rw [List.mem_append, h2]
        simp only [List.mem_cons, List.not_mem_nil, or_false]
        constructor
        · rintro (⟨j, hj, he⟩ | he)
          · exact ⟨j, by omega, he⟩
          · exact ⟨m, by omega, he.symm⟩
        · rintro ⟨j, hj, he⟩
          by_cases hjm : j < m
          · exact .inl ⟨j, hjm, he⟩
          · have : j = m := by omega
            subst this
            exact .inr he.symm
    · rw [if_neg hk, List.append_nil]
      have hk' : m ≠ 0 ∧ zs.getD m 0 = zs.getD (m - 1) 0 := by
        unfold Lib.keeps at hk
        rw [decide_eq_true_eq, hget m (by omega), hget (m - 1) (by omega)] at hk
        constructor
        · exact fun h => hk (.inl h)
        · exact Classical.not_not.1 fun h => hk (.inr h)
      refine ⟨h1, fun x => ?_, by omega⟩
      rw [h2]
      constructor
      · rintro ⟨j, hj, he⟩
        exact ⟨j, by omega, he⟩
      · rintro ⟨j, hj, he⟩
        by_cases hjm : j < m
        · exact ⟨j, hjm, he⟩
        · have : j = m := by omega
          subst this
          exact ⟨j - 1, by omega, by rw [← hk'.2]; exact he⟩
theorem compact_sort (zs : List Int) (hl : zs.length ≤ 1048576) : ∃ r, (Option.bind (sortR zs) fun x => compR x) = some r ∧ r.Pairwise (fun a b => a < b) ∧ (∀ x, x ∈ r ↔ x ∈ zs) ∧ r.length ≤ zs.length := by
  have hsl := sortL_len zs
  have hp : (sortL zs).Perm zs := List.mergeSort_perm zs _
  have hso : (sortL zs).Pairwise fun a b => decide (a ≤ b) = true := List.pairwise_mergeSort (fun a b c h1 h2 => by
    simp only [decide_eq_true_eq] at *; omega) (fun a b => by
    simp only [Bool.or_eq_true, decide_eq_true_eq]; omega) zs
  have hmono : ∀ i j, i ≤ j → j < (sortL zs).length → (sortL zs).getD i 0 ≤ (sortL zs).getD j 0 := fun i j hij hj => by
    rcases Nat.lt_or_eq_of_le hij with h | h
    · have := List.pairwise_iff_getElem.1 hso i j (by omega) hj h
      rw [decide_eq_true_eq] at this
      rw [List.getD_eq_getElem?_getD, List.getD_eq_getElem?_getD, List.getElem?_eq_getElem (by omega), List.getElem?_eq_getElem hj]
      exact this
    · subst h; omega
  obtain ⟨g1, g2, g3⟩ := compact_facts (sortL zs) hmono (sortL zs).length (Nat.le_refl _)
  refine ⟨Lib.compact (sortL zs), ?_, g1, fun x => ?_, by rw [← hsl]; exact g3⟩
  · unfold sortR compR
    rw [if_pos (by omega), bindS, if_pos ⟨by omega, g3⟩]
  · rw [← hp.mem_iff]
    show x ∈ Lib.compactUpTo _ _ ↔ _
    rw [g2]
    constructor
    · rintro ⟨j, hj, rfl⟩
      rw [List.getD_eq_getElem?_getD, List.getElem?_eq_getElem hj]
      exact List.getElem_mem hj
    · intro hx
      obtain ⟨j, hj, rfl⟩ := List.getElem_of_mem hx
      exact ⟨j, hj, by rw [List.getD_eq_getElem?_getD, List.getElem?_eq_getElem hj]; rfl⟩
/-- A number put into a sorted list. -/
def insL : List Int → Int → List Int
  | [], v => [v]
  | x :: r, v => if v ≤ x then (if v < x then v :: x :: r else x :: r) else x :: insL r v
theorem insL_len : ∀ (l : List Int) (v : Int), (insL l v).length ≤ l.length + 1
  | [], v => by simp [insL]
  | x :: r, v => by
    have := insL_len r v
    unfold insL
    split
    · split <;> simp
    · simp only [List.length_cons]; omega
theorem insL_mem : ∀ (l : List Int) (v x : Int), x ∈ insL l v ↔ x = v ∨ x ∈ l
  | [], v, x => by simp [insL]
  | y :: r, v, x => by
    unfold insL
    split
    · split
      · simp
      · have : v = y := by omega
        subst this; simp
    · rw [List.mem_cons, insL_mem r v x, List.mem_cons]
      constructor
      · rintro (h | h | h)
        · exact .inr (.inl h)
        · exact .inl h
        · exact .inr (.inr h)
      · rintro (h | h | h)
        · exact .inr (.inl h)
        · exact .inl h
        · exact .inr (.inr h)
theorem insL_sorted : ∀ (l : List Int) (v : Int), l.Pairwise (fun a b => a < b) → (insL l v).Pairwise (fun a b => a < b)
  | [], v, _ => by simp [insL]
  | y :: r, v, h => by
    obtain ⟨h1, h2⟩ := List.pairwise_cons.1 h
    unfold insL
    split
    · split
      · rw [List.pairwise_cons]
        refine ⟨fun a ha => ?_, h⟩
        rcases List.mem_cons.1 ha with e | e
        · omega
        · have := h1 a e; omega
      · exact h
    · rw [List.pairwise_cons]
      refine ⟨fun a ha => ?_, insL_sorted r v h2⟩
      rcases (insL_mem r v a).1 ha with e | e
      · omega
      · exact h1 a e
def putG (v : Int) (s : Bool × List Int) (x : Int) : Bool × List Int := if s.1 = false ∧ v ≤ x then (true, (if v < x then s.2 ++ [v] else s.2) ++ [x]) else (s.1, s.2 ++ [x])
theorem putG_done (v : Int) : ∀ (l o : List Int), l.foldl (putG v) (true, o) = (true, o ++ l)
  | [], o => by simp
  | x :: l, o => by
    rw [List.foldl_cons]
    have : putG v (true, o) x = (true, o ++ [x]) := by unfold putG; rw [if_neg (by simp)]
    rw [this, putG_done v l, List.append_assoc]; rfl
theorem putG_ins (v : Int) : ∀ (l o : List Int), (if (l.foldl (putG v) (false, o)).1 = false then (l.foldl (putG v) (false, o)).2 ++ [v] else (l.foldl (putG v) (false, o)).2) = o ++ insL l v
  | [], o => by simp [insL]
  | x :: l, o => by
    rw [List.foldl_cons]
    by_cases h : v ≤ x
    · have : putG v (false, o) x = (true, (if v < x then o ++ [v] else o) ++ [x]) := by unfold putG; rw [if_pos ⟨rfl, h⟩]
      rw [this, putG_done]
      unfold insL
      rw [if_pos h]
      simp only [Bool.true_eq_false, if_false]
      split <;> simp
    · have : putG v (false, o) x = (false, o ++ [x]) := by unfold putG; rw [if_neg (fun h2 => h h2.2)]
      have e : insL (x :: l) v = x :: insL l v := by rw [insL, if_neg h]
      rw [this, putG_ins v l, List.append_assoc, e]; rfl
theorem put_eq (l : List Int) (v : Int) (hl : l.length ≤ 1048576) : sh105 l v = some (insL l v) := by
  have hi := iter_fold (sb := sh105_1 l v) l (fun k (s : Bool × List Int) => (s.1, (k : Int), s.2)) (putG v) (fun s => s) (fun k s => s.2.length ≤ 2 * k) (false, []) (by simp) (by omega) (fun k hk s hI => ?_) (fun s _ => ?_)
  · have h1 := hi.1
    simp only [Int.natCast_zero] at h1
    have hlen := hi.2
    unfold sh105
    rw [h1, bindS]
    have hins := putG_ins v l []
    rw [List.nil_append] at hins
    rw [← hins]
    generalize l.foldl (putG v) (false, []) = s at hlen
    obtain ⟨d, o⟩ := s
    cases d
    · simp only [Bool.not_false, cond_true, if_true]
      rw [appL_ok (by simp only at hlen; simp only [List.length_cons, List.length_nil]; omega)]; rfl
    · rfl
  · have hkd : decide ((k : Int) < (l.length : Int)) = true := decide_eq_true (by omega)
    have hw : w64 ((k : Int) + 1) = ((k + 1 : Nat) : Int) := by rw [w64_id (by omega) (by omega)]; rfl
    obtain ⟨d, o⟩ := s
    simp only at hI
    have a1 : ∀ z : List Int, z.length ≤ 2 * k + 1 → appL z [l[k]] = some (z ++ [l[k]]) := fun z hz => appL_ok (by simp only [List.length_cons, List.length_nil]; omega)
    have a2 : appL o [v] = some (o ++ [v]) := appL_ok (by simp only [List.length_cons, List.length_nil]; omega)
    simp only [sh105_1, hkd, cond_true, getI_lt hk, bindS, hw, a2]
    cases d
    · simp only [Bool.not_false, cond_true, bindS]
      by_cases hv : v ≤ l[k]
      · have e1 : putG v (false, o) l[k] = (true, (if v < l[k] then o ++ [v] else o) ++ [l[k]]) := by unfold putG; rw [if_pos ⟨rfl, hv⟩]
        rw [e1, decide_eq_true hv]
        by_cases hv2 : v < l[k]
        · rw [if_pos hv2, decide_eq_true hv2]
          simp only [cond_true, bindS, a1 (o ++ [v]) (by simp; omega)]
          exact ⟨trivial, by simp; omega⟩
        · rw [if_neg hv2, decide_eq_false hv2]
          simp only [cond_true, cond_false, bindS, a1 o (by omega)]
          exact ⟨trivial, by simp; omega⟩
      · have e1 : putG v (false, o) l[k] = (false, o ++ [l[k]]) := by unfold putG; rw [if_neg (fun h2 => hv h2.2)]
        rw [e1, decide_eq_false hv]
        simp only [cond_false, bindS, a1 o (by omega)]
        exact ⟨trivial, by simp; omega⟩
    · have e1 : putG v (true, o) l[k] = (true, o ++ [l[k]]) := by unfold putG; rw [if_neg (by simp)]
      rw [e1]
      simp only [Bool.not_true, cond_false, bindS, a1 o (by omega)]
      exact ⟨trivial, by simp; omega⟩
  · have hkd : decide ((l.length : Int) < (l.length : Int)) = false := decide_eq_false (by omega)
    simp only [sh105_1, hkd, cond_false]
/-! ### the regions beside a region -/
def dgS (t : SPoint) : List SPoint := [⟨t.X - 1, t.Y - 1⟩, ⟨t.X + 1, t.Y - 1⟩, ⟨t.X - 1, t.Y + 1⟩, ⟨t.X + 1, t.Y + 1⟩]
def dgI (t : SPoint) : List SPoint := [⟨t.X - 1, t.Y - 1⟩, ⟨t.X - 1, t.Y + 1⟩, ⟨t.X + 1, t.Y - 1⟩, ⟨t.X + 1, t.Y + 1⟩]
theorem dg_mem (t u : SPoint) : u ∈ dgI t ↔ u ∈ dgS t := by
  unfold dgI dgS
  simp only [List.mem_cons, List.not_mem_nil, or_false]
  constructor
  · rintro (h | h | h | h)
    · exact .inl h
    · exact .inr (.inr (.inl h))
    · exact .inr (.inl h)
    · exact .inr (.inr (.inr h))
  · rintro (h | h | h | h)
    · exact .inl h
    · exact .inr (.inr (.inl h))
    · exact .inr (.inl h)
    · exact .inr (.inr (.inr h))
def stepN (g : SPoint → Option Int) (l : List Int) (u : SPoint) : List Int := match g u with
  | some v => insL l v
  | none => l
theorem stepN_len (g : SPoint → Option Int) (l : List Int) (u : SPoint) : (stepN g l u).length ≤ l.length + 1 := by
  unfold stepN
  split
  · exact insL_len _ _
  · omega
theorem fold_len (g : SPoint → Option Int) : ∀ (us : List SPoint) (l : List Int), (us.foldl (stepN g) l).length ≤ l.length + us.length
  | [], l => by simp
  | u :: us, l => by
    have h1 := stepN_len g l u
    have h2 := fold_len g us (stepN g l u)
    rw [List.foldl_cons, List.length_cons]; omega
theorem fold_facts (g : SPoint → Option Int) : ∀ (us : List SPoint) (l : List Int), l.Pairwise (fun a b => a < b) → (us.foldl (stepN g) l).Pairwise (fun a b => a < b) ∧ ∀ x, x ∈ us.foldl (stepN g) l ↔ x ∈ l ∨ ∃ u ∈ us, g u = some x
  | [], l, h => ⟨h, fun x => by simp⟩
  | u :: us, l, h => by
    have hs : (stepN g l u).Pairwise (fun a b => a < b) := by
      unfold stepN
      split
      · exact insL_sorted _ _ h
      · exact h
    have hm : ∀ x, x ∈ stepN g l u ↔ x ∈ l ∨ g u = some x := fun x => by
      unfold stepN
      split <;> rename_i hg
      · rw [insL_mem, hg]
        simp only [Option.some.injEq]
        constructor
        · rintro (h | h)
          · exact .inr h.symm
          · exact .inl h
        · rintro (h | h)
          · exact .inr h
          · exact .inl h.symm
      · rw [hg]; simp
    obtain ⟨h1, h2⟩ := fold_facts g us (stepN g l u) hs
    rw [List.foldl_cons]
    refine ⟨h1, fun x => ?_⟩
    rw [h2, hm]
    simp only [List.mem_cons, exists_eq_or_imp, or_assoc]
theorem neigh_spec {p : SPanel} (hp : panelB p = true) {R : List (List SPoint)} {of : List Int} {ow : List (SPoint × Int)} (h3 : RQ p R ow of (List.replicate R.length [])) (h4 : ∀ t, onG p t → mfind ow t ≠ none) {n : Nat} (hn : n < R.length) (hl : R[n].length ≤ 153) :
    iter (sh43_1 p (n : Int) (R, of, 0)) (0, []) = some (R[n].foldl (fun l t => (dgS t).foldl (stepN (mfind ow)) l) []) := by
  have hd := dim_of hp
  have d1 := hd.w1; have d2 := hd.w2; have d3 := hd.h1; have d4 := hd.h2
  have hon : ∀ t ∈ R[n], onG p t := fun t ht => by
    have := ((h3.lst n hn).2 t).1 ht
    rw [h3.same] at this
    unfold ownS at this
    split at this
    · assumption
    · cases this
  have hg1 : ∀ u, onG p u → ∃ v, getI of (numG p u) = some v ∧ mfind ow u = some v := fun u hu => by
    have h7 := h3.same u
    have h8 := h4 u hu
    refine ⟨_, ownS_get hd h3.olen hu, ?_⟩
    unfold ownS at h7
    rw [if_pos hu] at h7
    split at h7
    · exact absurd h7 h8
    · exact h7
  have hg0 : ∀ u, ¬ onG p u → mfind ow u = none := fun u hu => by
    rw [h3.same]; unfold ownS; rw [if_neg hu]
  have hone : ∀ (u : SPoint) (l : List Int) (k' : Int), l.length ≤ 2000 → (Option.bind (sh84 p u) fun x45 => Option.bind (bif x45 then (Option.bind (sh85 p u) fun x49 => Option.bind (getI of x49) fun x50 => Option.bind (sh105 l x50) fun x51 => some x51) else (some l)) fun j46 => (some (.inl (k', j46)) : Option ((Int × List Int) ⊕ List Int))) = some (.inl (k', stepN (mfind ow) l u)) := fun u l k' hll => by
    rw [is_eq hd, bindS]
    by_cases hu : onG p u
    · obtain ⟨v, e1, e2⟩ := hg1 u hu
      rw [decide_eq_true hu, cond_true, number_eq hd hu, bindS, e1, bindS, put_eq l v (by omega), bindS, bindS]
      unfold stepN
      rw [e2]
    · rw [decide_eq_false hu, cond_false, bindS]
      unfold stepN
      rw [hg0 u hu]
  have inner : ∀ (j : Nat) (hj : j < R[n].length) (l : List Int), l.length ≤ 1000 → iter (sh43_2 p (n : Int) (R, of, 0) (j : Int)) (0, l) = some ((dgS R[n][j]).foldl (stepN (mfind ow)) l) := fun j hj l hll => by
    obtain ⟨t, ht⟩ : ∃ t, t = R[n][j] := ⟨_, rfl⟩
    have hgt := hon t (ht ▸ List.getElem_mem hj)
    unfold onG at hgt
    obtain ⟨⟨b1, b2⟩, ⟨b3, b4⟩, b5⟩ := hgt
    rw [← ht]
    have hx1 : w64 (w64 (t.X + 0) - 1) = t.X - 1 := by rw [w64_id (x := t.X + 0) (by omega) (by omega), w64_id (by omega) (by omega)]; omega
    have hx2 : w64 (w64 (t.X + 2) - 1) = t.X + 1 := by rw [w64_id (x := t.X + 2) (by omega) (by omega), w64_id (by omega) (by omega)]; omega
    have hy1 : w64 (w64 (t.Y + 0) - 1) = t.Y - 1 := by rw [w64_id (x := t.Y + 0) (by omega) (by omega), w64_id (by omega) (by omega)]; omega
    have hy2 : w64 (w64 (t.Y + 2) - 1) = t.Y + 1 := by rw [w64_id (x := t.Y + 2) (by omega) (by omega), w64_id (by omega) (by omega)]; omega
    have hgR : getI R (n : Int) = some R[n] := getI_lt hn
    have hgt : getI R[n] (j : Int) = some t := by rw [ht]; exact getI_lt hj
    have hfl : ∀ k, (((dgS t).take k).foldl (stepN (mfind ow)) l).length ≤ 2000 := fun k => by
      have := fold_len (mfind ow) ((dgS t).take k) l
      have h4 : ((dgS t).take k).length ≤ 4 := by rw [List.length_take]; exact Nat.min_le_right _ _
      omega
    have hs := iter_steps (sb := sh43_2 p (n : Int) (R, of, 0) (j : Int)) (fun k => ((k : Int), ((dgS t).take k).foldl (stepN (mfind ow)) l)) 4 (x := (dgS t).foldl (stepN (mfind ow)) l) (by omega) (fun k hk => ?_) rfl
    · simpa using hs
    · have hk4 : k = 0 ∨ k = 1 ∨ k = 2 ∨ k = 3 := by omega
      rcases hk4 with rfl | rfl | rfl | rfl
      · have e1 : w64 (((0 : Int).tmod 2) * 2) = 0 := by rfl
        have e2 : w64 ((w64 ((0 : Int).tdiv 2)) * 2) = 0 := by rfl
        show sh43_2 p (n : Int) (R, of, 0) (j : Int) (0, l) = some (.inl (1, stepN (mfind ow) l ⟨t.X - 1, t.Y - 1⟩))
        rw [← hone ⟨t.X - 1, t.Y - 1⟩ l 1 (hfl 0)]
        simp only [sh43_2, hgR, hgt, bindS, e1, e2, hx1, hy1]
        rfl
      · have e1 : w64 (((1 : Int).tmod 2) * 2) = 2 := by rfl
        have e2 : w64 ((w64 ((1 : Int).tdiv 2)) * 2) = 0 := by rfl
        have h1 := hfl 1
        show sh43_2 p (n : Int) (R, of, 0) (j : Int) (1, ((dgS t).take 1).foldl (stepN (mfind ow)) l) = some (.inl (2, stepN (mfind ow) (((dgS t).take 1).foldl (stepN (mfind ow)) l) ⟨t.X + 1, t.Y - 1⟩))
        rw [← hone ⟨t.X + 1, t.Y - 1⟩ _ 2 h1]
        simp only [sh43_2, hgR, hgt, bindS, e1, e2, hx2, hy1]
        rfl
      · have e1 : w64 (((2 : Int).tmod 2) * 2) = 0 := by rfl
        have e2 : w64 ((w64 ((2 : Int).tdiv 2)) * 2) = 2 := by rfl
        have h1 := hfl 2
        show sh43_2 p (n : Int) (R, of, 0) (j : Int) (2, ((dgS t).take 2).foldl (stepN (mfind ow)) l) = some (.inl (3, stepN (mfind ow) (((dgS t).take 2).foldl (stepN (mfind ow)) l) ⟨t.X - 1, t.Y + 1⟩))
        rw [← hone ⟨t.X - 1, t.Y + 1⟩ _ 3 h1]
        simp only [sh43_2, hgR, hgt, bindS, e1, e2, hx1, hy2]
        rfl
      · have e1 : w64 (((3 : Int).tmod 2) * 2) = 2 := by rfl
        have e2 : w64 ((w64 ((3 : Int).tdiv 2)) * 2) = 2 := by rfl
        have h1 := hfl 3
        show sh43_2 p (n : Int) (R, of, 0) (j : Int) (3, ((dgS t).take 3).foldl (stepN (mfind ow)) l) = some (.inl (4, stepN (mfind ow) (((dgS t).take 3).foldl (stepN (mfind ow)) l) ⟨t.X + 1, t.Y + 1⟩))
        rw [← hone ⟨t.X + 1, t.Y + 1⟩ _ 4 h1]
        simp only [sh43_2, hgR, hgt, bindS, e1, e2, hx2, hy2]
        rfl
  have hi := iter_fold (sb := sh43_1 p (n : Int) (R, of, 0)) R[n] (fun k (l : List Int) => ((k : Int), l)) (fun l t => (dgS t).foldl (stepN (mfind ow)) l) (fun l => l) (fun k l => l.length ≤ 4 * k) [] (by simp) (by omega) (fun k hk l hI => ?_) (fun l _ => ?_)
  · have h1 := hi.1
    simp only [Int.natCast_zero] at h1
    exact h1
  · have hkd : decide ((k : Int) < (R[n].length : Int)) = true := decide_eq_true (by omega)
    have hw : w64 ((k : Int) + 1) = ((k + 1 : Nat) : Int) := by rw [w64_id (by omega) (by omega)]; rfl
    have hgR : getI R (n : Int) = some R[n] := getI_lt hn
    constructor
    · simp only [sh43_1, hgR, bindS, hkd, cond_true, inner k hk l (by omega), hw]
    · have := fold_len (mfind ow) (dgS R[n][k]) l
      have h4 : (dgS R[n][k]).length = 4 := rfl
      omega
  · have hkd : decide ((R[n].length : Int) < (R[n].length : Int)) = false := decide_eq_false (by omega)
    have hgR : getI R (n : Int) = some R[n] := getI_lt hn
    simp only [sh43_1, hgR, bindS, hkd, cond_false]
def appN (g : SPoint → Option Int) (l : List Int) (u : SPoint) : List Int := match g u with
  | some v => l ++ [v]
  | none => l
theorem appN_len (g : SPoint → Option Int) (l : List Int) (u : SPoint) : (appN g l u).length ≤ l.length + 1 := by
  unfold appN
  split <;> simp
theorem afold_len (g : SPoint → Option Int) : ∀ (us : List SPoint) (l : List Int), (us.foldl (appN g) l).length ≤ l.length + us.length
  | [], l => by simp
  | u :: us, l => by
    have h1 := appN_len g l u
    have h2 := afold_len g us (appN g l u)
    rw [List.foldl_cons, List.length_cons]; omega
theorem afold_mem (g : SPoint → Option Int) : ∀ (us : List SPoint) (l : List Int) (x : Int), x ∈ us.foldl (appN g) l ↔ x ∈ l ∨ ∃ u ∈ us, g u = some x
  | [], l, x => by simp
  | u :: us, l, x => by
    rw [List.foldl_cons, afold_mem g us]
    have hm : x ∈ appN g l u ↔ x ∈ l ∨ g u = some x := by
      unfold appN
      split <;> rename_i hg
      · rw [hg]
        simp only [List.mem_append, List.mem_cons, List.not_mem_nil, or_false, Option.some.injEq]
        constructor
        · rintro (h | h)
          · exact .inl h
          · exact .inr h.symm
        · rintro (h | h)
          · exact .inl h
          · exact .inr h.symm
      · rw [hg]; simp
    rw [hm]
    simp only [List.mem_cons, exists_eq_or_imp, or_assoc]
theorem neigh_impl {p : SPanel} (hp : panelB p = true) (L : List SPoint) (ow : List (SPoint × Int)) (hon : ∀ t ∈ L, onG p t) (hl : L.length ≤ 153) :
    iter (sh44_1 (L, ow, 0)) (0, []) = some (L.foldl (fun l t => (dgI t).foldl (appN (mfind ow)) l) []) := by
  have hd := dim_of hp
  have d1 := hd.w1; have d2 := hd.w2; have d3 := hd.h1; have d4 := hd.h2
  have hone : ∀ (u : SPoint) (l : List Int) (k' : Int), l.length ≤ 2000 → (Option.bind (bif (mfind ow u).isSome then (Option.bind (appL l [(mfind ow u).getD 0]) fun x37 => some x37) else (some l)) fun j32 => (some (.inl (k', j32)) : Option ((Int × List Int) ⊕ List Int))) = some (.inl (k', appN (mfind ow) l u)) := fun u l k' hll => by
    unfold appN
    cases mfind ow u with
    | none => rfl
    | some v =>
      simp only [Option.isSome_some, cond_true, Option.getD_some]
      rw [appL_ok (by simp only [List.length_cons, List.length_nil]; omega), bindS, bindS]
  have inner : ∀ (t : SPoint) (ht : onG p t) (l : List Int), l.length ≤ 1000 → iter (sh44_2 (L, ow, 0) t) (0, l) = some ((dgI t).foldl (appN (mfind ow)) l) := fun t hgt l hll => by
    unfold onG at hgt
    obtain ⟨⟨b1, b2⟩, ⟨b3, b4⟩, b5⟩ := hgt
    have hx1 : w64 (t.X + -1) = t.X - 1 := by rw [w64_id (by omega) (by omega)]; omega
    have hx2 : w64 (t.X + 1) = t.X + 1 := w64_id (by omega) (by omega)
    have hy1 : w64 (t.Y + -1) = t.Y - 1 := by rw [w64_id (by omega) (by omega)]; omega
    have hy2 : w64 (t.Y + 1) = t.Y + 1 := w64_id (by omega) (by omega)
    have hfl : ∀ k, (((dgI t).take k).foldl (appN (mfind ow)) l).length ≤ 2000 := fun k => by
      have := afold_len (mfind ow) ((dgI t).take k) l
      have h4 : ((dgI t).take k).length ≤ 4 := by rw [List.length_take]; exact Nat.min_le_right _ _
      omega
    have hs := iter_steps (sb := sh44_2 (L, ow, 0) t) (fun k => ((k : Int), ((dgI t).take k).foldl (appN (mfind ow)) l)) 4 (x := (dgI t).foldl (appN (mfind ow)) l) (by omega) (fun k hk => ?_) rfl
    · simpa using hs
    · have hk4 : k = 0 ∨ k = 1 ∨ k = 2 ∨ k = 3 := by omega
      rcases hk4 with rfl | rfl | rfl | rfl
      · show sh44_2 (L, ow, 0) t (0, l) = some (.inl (1, appN (mfind ow) l ⟨t.X - 1, t.Y - 1⟩))
        rw [← hone ⟨t.X - 1, t.Y - 1⟩ l 1 (hfl 0), ← hx1, ← hy1]
        rfl
      · show sh44_2 (L, ow, 0) t (1, ((dgI t).take 1).foldl (appN (mfind ow)) l) = some (.inl (2, appN (mfind ow) (((dgI t).take 1).foldl (appN (mfind ow)) l) ⟨t.X - 1, t.Y + 1⟩))
        rw [← hone ⟨t.X - 1, t.Y + 1⟩ _ 2 (hfl 1), ← hx1, ← hy2]
        rfl
      · show sh44_2 (L, ow, 0) t (2, ((dgI t).take 2).foldl (appN (mfind ow)) l) = some (.inl (3, appN (mfind ow) (((dgI t).take 2).foldl (appN (mfind ow)) l) ⟨t.X + 1, t.Y - 1⟩))
        rw [← hone ⟨t.X + 1, t.Y - 1⟩ _ 3 (hfl 2), ← hx2, ← hy1]
        rfl
      · show sh44_2 (L, ow, 0) t (3, ((dgI t).take 3).foldl (appN (mfind ow)) l) = some (.inl (4, appN (mfind ow) (((dgI t).take 3).foldl (appN (mfind ow)) l) ⟨t.X + 1, t.Y + 1⟩))
        rw [← hone ⟨t.X + 1, t.Y + 1⟩ _ 4 (hfl 3), ← hx2, ← hy2]
        rfl
  have hi := iter_fold (sb := sh44_1 (L, ow, 0)) L (fun k (l : List Int) => ((k : Int), l)) (fun l t => (dgI t).foldl (appN (mfind ow)) l) (fun l => l) (fun k l => l.length ≤ 4 * k) [] (by simp) (by omega) (fun k hk l hI => ?_) (fun l _ => ?_)
  · have h1 := hi.1
    simp only [Int.natCast_zero] at h1
    exact h1
  · have hkd : decide ((k : Int) < (L.length : Int)) = true := decide_eq_true (by omega)
    have hw : w64 ((k : Int) + 1) = ((k + 1 : Nat) : Int) := by rw [w64_id (by omega) (by omega)]; rfl
    constructor
    · simp only [sh44_1, bindS, hkd, cond_true, getI_lt hk, inner L[k] (hon _ (List.getElem_mem hk)) l (by omega), hw]
    · have := afold_len (mfind ow) (dgI L[k]) l
      have h4 : (dgI L[k]).length = 4 := rfl
      omega
  · have hkd : decide ((L.length : Int) < (L.length : Int)) = false := decide_eq_false (by omega)
    simp only [sh44_1, hkd, cond_false]
theorem fold_fold {α β γ : Type} (f : γ → β → γ) (d : α → List β) : ∀ (L : List α) (l : γ), L.foldl (fun l t => (d t).foldl f l) l = (L.flatMap d).foldl f l
  | [], l => rfl
  | a :: L, l => by rw [List.foldl_cons, List.flatMap_cons, List.foldl_append, fold_fold f d L]
/-- Which regions lie beside one. -/
def Bes (ow : List (SPoint × Int)) (L : List SPoint) (x : Int) : Prop := ∃ t ∈ L, ∃ u ∈ dgS t, mfind ow u = some x
theorem neighbours_at {p : SPanel} (hp : panelB p = true) {R : List (List SPoint)} {of : List Int} {ow : List (SPoint × Int)} (h3 : RQ p R ow of (List.replicate R.length [])) (h4 : ∀ t, onG p t → mfind ow t ≠ none) (h6 : ∀ r ∈ R, r.length ≤ 153) {n : Nat} (hn : n < R.length) (h7 : sh89 p (n : Int) = some (R, of, 0)) (h8 : sh90 p (n : Int) = some (R[n], ow, 0)) :
    ∃ L, sh43 p (n : Int) = some (L, 0) ∧ sh44 p (n : Int) = some (L, 0) ∧ L.length ≤ 1000 ∧ ∀ x, x ∈ L ↔ Bes ow R[n] x := by
  unfold sh43 sh44
  have hl := h6 _ (List.getElem_mem hn)
  have hon : ∀ t ∈ R[n], onG p t := fun t ht => by
    have := ((h3.lst n hn).2 t).1 ht
    rw [h3.same] at this
    unfold ownS at this
    split at this
    · assumption
    · cases this
  have e1 := neigh_spec hp h3 h4 hn hl
  have e2 := neigh_impl hp R[n] ow hon hl
  rw [fold_fold] at e1 e2
  have hlen : (R[n].flatMap dgI).length ≤ 4 * 153 := by
    rw [List.length_flatMap]
    have : (R[n].map fun t => (dgI t).length) = List.replicate R[n].length 4 := by
      rw [List.eq_replicate_iff]
      refine ⟨by rw [List.length_map], fun b hb => ?_⟩
      obtain ⟨t, _, rfl⟩ := List.mem_map.1 hb
      rfl
    rw [this, List.sum_replicate_nat]; omega
  have hal := afold_len (mfind ow) (R[n].flatMap dgI) []
  rw [List.length_nil] at hal
  obtain ⟨f1, f2⟩ := fold_facts (mfind ow) (R[n].flatMap dgS) [] List.Pairwise.nil
  obtain ⟨r, c1, c2, c3, c4⟩ := compact_sort ((R[n].flatMap dgI).foldl (appN (mfind ow)) []) (by omega)
  have hbes : ∀ x, (∃ u ∈ R[n].flatMap dgS, mfind ow u = some x) ↔ Bes ow R[n] x := fun x => by
    unfold Bes
    constructor
    · rintro ⟨u, hu, hx⟩
      obtain ⟨t, ht, hut⟩ := List.mem_flatMap.1 hu
      exact ⟨t, ht, u, hut, hx⟩
    · rintro ⟨t, ht, u, hut, hx⟩
      exact ⟨u, List.mem_flatMap.2 ⟨t, ht, hut⟩, hx⟩
  have hbesI : ∀ x, (∃ u ∈ R[n].flatMap dgI, mfind ow u = some x) ↔ Bes ow R[n] x := fun x => by
    unfold Bes
    constructor
    · rintro ⟨u, hu, hx⟩
      obtain ⟨t, ht, hut⟩ := List.mem_flatMap.1 hu
      exact ⟨t, ht, u, (dg_mem t u).1 hut, hx⟩
    · rintro ⟨t, ht, u, hut, hx⟩
      exact ⟨u, List.mem_flatMap.2 ⟨t, ht, (dg_mem t u).2 hut⟩, hx⟩
  have hm2 : ∀ x, x ∈ r ↔ Bes ow R[n] x := fun x => by
    rw [c3, afold_mem, hbesI]; simp
  have hre : (R[n].flatMap dgS).foldl (stepN (mfind ow)) [] = r := sorted_uniqI _ _ f1 c2 fun x => by
    rw [f2, hm2, hbes]; simp
  rw [hre] at e1
  have c1' : (Option.bind (sortR ((R[n].flatMap dgI).foldl (appN (mfind ow)) [])) fun x44 => Option.bind (compR x44) fun x45 => (some (x45, (0 : Int)) : Option (List Int × Int))) = some (r, 0) := by
    cases hs : sortR ((R[n].flatMap dgI).foldl (appN (mfind ow)) []) with
    | none => rw [hs] at c1; cases c1
    | some z =>
      rw [hs, bindS] at c1
      rw [bindS, c1, bindS]
  refine ⟨r, ?_, ?_, by omega, hm2⟩
  · simp only [h7, bindS, bne_self_eq_false, cond_false, e1]
  · simp only [h8, bindS, bne_self_eq_false, cond_false, e2]
    exact c1'
theorem neighbours_eq (p : SPanel) (k : Int) (hb : p.Breaks.length ≤ 1048576) :
    (∃ c, c ≠ 0 ∧ sh43 p k = some ([], c) ∧ sh44 p k = some ([], c)) ∨
    (panelB p = true ∧ ∃ R of ow, ∃ n : Nat, ∃ hn : n < R.length, k = (n : Int) ∧ sh88 p = some (R, ow) ∧ RQ p R ow of (List.replicate R.length []) ∧ (∀ t, onG p t → mfind ow t ≠ none) ∧ R.length ≤ 153 ∧ (∀ r ∈ R, r.length ≤ 153) ∧ ∃ L, sh43 p k = some (L, 0) ∧ sh44 p k = some (L, 0) ∧ L.length ≤ 1000 ∧ ∀ x, x ∈ L ↔ Bes ow R[n] x) := by
  rcases regionOf_eq p k hb with ⟨c, hc, h1, h2⟩ | ⟨hp, R, of, ow, n, hn, rfl, hA, hB, h3, h4, h5, h6, h7, h8⟩
  · left
    have hcb : (c != 0) = true := bne_iff_ne.2 hc
    unfold sh43 sh44
    simp only [h1, h2, bindS, hcb, cond_true]
    exact ⟨c, hc, rfl, rfl⟩
  · right
    exact ⟨hp, R, of, ow, n, hn, rfl, hB, h3, h4, h5, h6, neighbours_at hp h3 h4 h6 hn h7 h8⟩

/-! FnExactRegionNeighbours -/
theorem law11 (p : SPanel) (k : Int) (hk0 : okSPanel p) : sh11 p k = some true := by
  unfold sh11
  have hm : maxLen = 9223372036854775807 := rfl
  have hb := hk0.2.2.1
  rw [szPanel_eq p (by omega), bindS]
  by_cases hp : p.Breaks.length ≤ 1048576
  · obtain ⟨r, h1, h2, h3⟩ : ∃ r, sh43 p k = some r ∧ sh44 p k = some r ∧ r.1.length ≤ 1000 := by
      rcases neighbours_eq p k hp with ⟨c, _, h1, h2⟩ | ⟨_, _, _, _, _, _, _, _, _, _, _, _, L, h1, h2, h3, _⟩
      · exact ⟨_, h1, h2, by simp⟩
      · exact ⟨_, h1, h2, h3⟩
    have hd : decide ((1048576 : Int) - (p.Breaks.length : Int) < 0) = false := decide_eq_false (by omega)
    have m2 := markI64_eq r.1 1 (by omega) (by omega) (by omega)
    have m3 := heldI64_eq 1 r.1.length (by omega) (by omega) (by omega)
    have m4 := eqI64_eq r.1 r.1 (by omega)
    have n1 : decide ((1 : Int) + (p.Breaks.length : Int) < 0) = false := decide_eq_false (by omega)
    have n2 : decide ((1 : Int) + (r.1.length : Int) < 0) = false := decide_eq_false (by omega)
    simp only [if_pos hp, hd, cond_false, toPanel_eq p hp, bindS, h1, h2, bne_self_eq_false, Bool.or_self, eqPanel_refl p hp, m4, decide_true, Bool.not_true, markPanel_at p hp, m2, m3, n1, n2]
  · rw [if_neg hp]; rfl
end Go.Sh
