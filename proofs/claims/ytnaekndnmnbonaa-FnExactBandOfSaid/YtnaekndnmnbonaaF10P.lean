/- Plain laws: what the shallow functions come to. -/
import Derived.Test.YtnaekndnmnbonaaF10W2
set_option linter.unusedVariables false
set_option linter.unusedSimpArgs false
namespace Go.Sh
open Go Go.RowKit

/-! to_i64s -/
theorem toI64_eq (xs : List Int) (h : xs.length ≤ 1048576) : sh39 xs = some xs := by
  unfold sh39
  rw [mkL_ok (by omega), bindS, iter_copy (xs := xs) (by omega) (fun i ys => rfl), bindS]

/-! eq_i64s -/
theorem eqI64_eq (xs ys : List Int) (h : xs.length ≤ 1048576) : sh31 xs ys = some (decide (xs = ys)) := by
  unfold sh31
  by_cases hl : xs.length = ys.length
  · have h1 : ((xs.length : Int) != (ys.length : Int)) = false := by simp; omega
    rw [h1, cond_false, iter_eq (xs := xs) (ys := ys) (by omega) hl (fun k hk => ?_) (by simp [sh31_1]), bindS]
    · by_cases he : xs = ys <;> simp [he, elimS]
    · have h2 : (k : Int) < xs.length := by omega
      have h3 : k < ys.length := by omega
      simp only [sh31_1, h2, decide_true, cond_true, getI_lt hk, getI_lt h3, bindS]
      rw [w64_id (by omega) (by omega)]
      by_cases he : xs[k] = ys[k]
      · simp [he]
      · rw [if_neg he, show (xs[k] != ys[k]) = true from bne_iff_ne.2 he]
        rfl
  · have h1 : ((xs.length : Int) != (ys.length : Int)) = true := by simp; omega
    rw [h1, cond_true]
    have : xs ≠ ys := fun h => hl (by rw [h])
    simp [this]

/-! mark_i64s -/
/-- The numbers that are laid into a result to see whether it is of one's own. -/
def marksFrom (m : Int) (n : Nat) : List Int := (List.range n).map fun (i : Nat) => m + (i : Int)
theorem marksFrom_length (m : Int) (n : Nat) : (marksFrom m n).length = n := by simp [marksFrom]
theorem marksFrom_get (m : Int) (n k : Nat) (h : k < n) : (marksFrom m n)[k]'(by rw [marksFrom_length]; exact h) = m + k := by simp [marksFrom]
theorem marksFrom_succ (m : Int) (k : Nat) : marksFrom m (k + 1) = marksFrom m k ++ [m + k] := by simp [marksFrom, List.range_succ]

theorem markI64_eq (xs : List Int) (m : Int) (h0 : 0 ≤ m) (h1 : m ≤ 1099511627776) (h : xs.length ≤ 1099511627776) : sh34 xs m = some (m + xs.length, marksFrom m xs.length) := by
  unfold sh34
  have hi := iter_steps (sb := sh34_1 xs) (fun k => (m + (k : Int), (k : Int), marksFrom m k ++ xs.drop k)) xs.length (x := (m + xs.length, marksFrom m xs.length)) (by omega) (fun k hk => ?_) ?_
  · simp only [List.drop_zero] at hi
    rw [show marksFrom m 0 ++ xs = xs from rfl] at hi
    simp only [Int.natCast_zero, Int.add_zero] at hi
    rw [hi, bindS]
  · have h2 : (k : Int) < xs.length := by omega
    have hl : k < (marksFrom m k ++ xs.drop k).length := by rw [List.length_append, marksFrom_length, List.length_drop]; omega
    simp only [sh34_1, h2, decide_true, cond_true, getI_lt hl, bindS, Int.toNat_natCast]
    rw [w64_id (by omega) (by omega), w64_id (by omega) (by omega), List.set_append, if_neg (by rw [marksFrom_length]; omega), marksFrom_length, Nat.sub_self, List.drop_eq_getElem_cons hk, List.set_cons_zero, marksFrom_succ, List.append_assoc]
    simp only [Option.some.injEq, Sum.inl.injEq, Prod.mk.injEq]
    refine ⟨by omega, by omega, rfl⟩
  · have hd : decide ((xs.length : Int) < (xs.length : Int)) = false := by simp
    simp only [sh34_1, hd, cond_false, List.drop_length, List.append_nil]


/-! iters -/
theorem w64_lo (x : Int) : -9223372036854775808 ≤ w64 x := by
  have := IntKind.wrap_i64 x
  show _ ≤ IntKind.i64.wrap x
  omega
theorem w64_hi (x : Int) : w64 x ≤ 9223372036854775807 := by
  have := IntKind.wrap_i64 x
  show IntKind.i64.wrap x ≤ _
  omega
theorem getI_toNat {T : Type} {xs : List T} {i : Int} (h0 : 0 ≤ i) (h : i.toNat < xs.length) : getI xs i = some xs[i.toNat] := by
  unfold getI; rw [if_pos h0]; exact List.getElem?_eq_getElem h
theorem nzI_ok {a : Int} (h : a ≠ 0) : nzI a = some a := by simp [nzI, h]

/-- The loop that looks for the first element that passes. -/
theorem iter_find {T : Type} {sb : Int → Option (Int ⊕ (Unit ⊕ Int))} {xs : List T} {p : T → Bool} (hl : xs.length < 1099511627776)
    (hsb : ∀ (k : Nat) (h : k < xs.length), sb (k : Int) = if p xs[k] = true then some (.inr (.inr (k : Int))) else some (.inl ((k : Int) + 1))) (he : sb (xs.length : Int) = some (.inr (.inl ()))) :
    iter sb 0 = some (if xs.any p = true then .inr (xs.findIdx p : Int) else .inl ()) := by
  have h := iter_res (sb := sb) (fun k => (k : Int)) (fun k => if (xs.drop k).any p = true then (.inr (k + (xs.drop k).findIdx p : Nat) : Unit ⊕ Int) else .inl ()) xs.length (by omega) (fun k hk => ?_) (by
    rw [he, List.drop_of_length_le (Nat.le_refl _)]; simp)
  · simpa using h
  · rw [hsb k hk, List.drop_eq_getElem_cons hk]
    by_cases hx : p xs[k] = true
    · right
      rw [if_pos hx]
      simp only [List.any_cons, hx, Bool.true_or, if_true, List.findIdx_cons, cond_true, Nat.add_zero]
    · left
      rw [if_neg hx]
      refine ⟨by simp, ?_⟩
      have hx' : p xs[k] = false := by simpa using hx
      simp only [List.any_cons, hx', Bool.false_or, List.findIdx_cons, cond_false]
      split <;> simp
      omega

theorem iterN_congr {σ ρ : Type} {sb1 sb2 : σ → Option (σ ⊕ ρ)} (I : σ → Prop) (hs : ∀ s, I s → sb1 s = sb2 s ∧ ∀ s', sb2 s = some (.inl s') → I s') : ∀ (n : Nat) (s : σ), I s → iterN sb1 n s = iterN sb2 n s
  | 0, _, _ => rfl
  | n + 1, s, h => by
    obtain ⟨h1, h2⟩ := hs s h
    simp only [iterN, h1]
    cases hb : sb2 s with
    | none => rfl
    | some o =>
      cases o with
      | inl s' => exact iterN_congr I hs n s' (h2 s' hb)
      | inr x => rfl
/-- Two loops whose bodies agree where the invariant holds. -/
theorem iter_congr {σ ρ : Type} {sb1 sb2 : σ → Option (σ ⊕ ρ)} (I : σ → Prop) {s0 : σ} (h0 : I s0) (hs : ∀ s, I s → sb1 s = sb2 s ∧ ∀ s', sb2 s = some (.inl s') → I s') : iter sb1 s0 = iter sb2 s0 :=
  iterN_congr I hs FUEL s0 h0

/-- A loop over a list, as a fold. -/
theorem iter_fold {T σ S ρ : Type} {sb : S → Option (S ⊕ ρ)} (xs : List T) (st : Nat → σ → S) (g : σ → T → σ) (h : σ → ρ) (I : Nat → σ → Prop) (s0 : σ) (h0 : I 0 s0) (hl : xs.length < 1099511627776)
    (hsb : ∀ (k : Nat) (hk : k < xs.length) s, I k s → sb (st k s) = some (.inl (st (k + 1) (g s xs[k]))) ∧ I (k + 1) (g s xs[k])) (he : ∀ s, I xs.length s → sb (st xs.length s) = some (.inr (h s))) :
    iter sb (st 0 s0) = some (h (xs.foldl g s0)) ∧ I xs.length (xs.foldl g s0) := by
  have hI : ∀ k, k ≤ xs.length → I k ((xs.take k).foldl g s0) := by
    intro k
    induction k with
    | zero => intro _; simpa using h0
    | succ k ih =>
      intro hk
      rw [List.take_succ_eq_append_getElem (by omega), List.foldl_append]
      exact (hsb k (by omega) _ (ih (by omega))).2
  have hlast := hI xs.length (Nat.le_refl _)
  rw [List.take_length] at hlast
  refine ⟨?_, hlast⟩
  refine iter_steps (fun k => st k ((xs.take k).foldl g s0)) xs.length (by omega) (fun k hk => ?_) (by rw [List.take_length]; exact he _ hlast)
  rw [(hsb k hk _ (hI k (by omega))).1, List.take_succ_eq_append_getElem hk, List.foldl_append]
  rfl

/-- The greater one. -/
def mx (a b : Int) : Int := if a < b then b else a
def mn (a b : Int) : Int := if b < a then b else a
theorem mx_comm' (a b : Int) : (if b < a then a else b) = mx a b := by unfold mx; split <;> split <;> omega
theorem foldl_snoc {α β : Type} (f : α → β) : ∀ (xs : List α) (a : List β), xs.foldl (fun acc m => acc ++ [f m]) a = a ++ xs.map f
  | [], a => by simp
  | x :: xs, a => by rw [List.foldl_cons, foldl_snoc f xs]; simp

/-! panel -/
theorem szInt64S_eq (xs : List Int) (h : xs.length ≤ 9223372036854775807) : sh95 xs 1048576 = some (if xs.length ≤ 1048576 then (1048576 - xs.length : Int) else -1) := by
  unfold sh95
  rw [w64_id (by omega) (by omega)]
  by_cases hl : xs.length ≤ 1048576
  · rw [if_pos hl, show decide ((1048576 : Int) - (xs.length : Int) < 0) = false from decide_eq_false (by omega)]; rfl
  · rw [if_neg hl, show decide ((1048576 : Int) - (xs.length : Int) < 0) = true from decide_eq_true (by omega)]; rfl
theorem szPanel_eq (p : SPanel) (h : p.Breaks.length ≤ 9223372036854775807) : sh27 p 1048576 = some (if p.Breaks.length ≤ 1048576 then (1048576 - p.Breaks.length : Int) else -1) := by
  unfold sh27
  rw [szInt64S_eq _ h, bindS]
  by_cases hl : p.Breaks.length ≤ 1048576
  · rw [if_pos hl, show decide ((1048576 : Int) - (p.Breaks.length : Int) < 0) = false from decide_eq_false (by omega)]; rfl
  · rw [if_neg hl]; rfl
theorem toPanel_eq (p : SPanel) (h : p.Breaks.length ≤ 1048576) : sh29 p = some p := by
  unfold sh29
  rw [toI64_eq _ h, bindS]
theorem eqPanel_refl (p : SPanel) (h : p.Breaks.length ≤ 1048576) : sh32 p p = some true := by
  unfold sh32
  rw [bne_self_eq_false, bne_self_eq_false, eqI64_eq _ _ h]
  simp [bindS]
def brkB (k : Int) : Bool := decide (0 ≤ k) && decide (k ≤ 2)
def sideB (n : Int) : Bool := decide (1 ≤ n) && decide (n ≤ 8)
def innerN (w h : Int) : Int := w64 (w64 (w * w64 (h - 1)) + w64 (h * w64 (w - 1)))
def panelB (p : SPanel) : Bool := (sideB p.W && sideB p.H) && (((p.Breaks.length : Int) == innerN p.W p.H) && p.Breaks.all brkB)
theorem l02Ok_eq (p : SPanel) (h : p.Breaks.length ≤ 1048576) : sh96 p = some (panelB p) := by
  unfold sh96 panelB
  have hi : iter (sh96_1 p) 0 = some (if p.Breaks.all brkB = true then .inl () else .inr false) := iter_all (xs := p.Breaks) (by omega) (fun k hk => by
    have h2 : (k : Int) < p.Breaks.length := by omega
    simp only [sh96_1, sh115, h2, decide_true, cond_true, getI_lt hk, bindS]
    rw [w64_id (x := (k : Int) + 1) (by omega) (by omega)]
    unfold brkB
    cases decide (0 ≤ p.Breaks[k]) && decide (p.Breaks[k] ≤ 2) <;> rfl) (by simp [sh96_1])
  simp only [sh147, sh148, sh115, bindS, hi]
  show Option.bind (bif !(sideB p.W) then some true else some !(sideB p.H)) _ = _
  cases sideB p.W
  · rfl
  · cases sideB p.H
    · rfl
    · show (bif ((p.Breaks.length : Int) != innerN p.W p.H) then _ else _) = _
      simp only [bne]
      cases ((p.Breaks.length : Int) == innerN p.W p.H)
      · rfl
      · cases p.Breaks.all brkB <;> rfl
theorem validPanel_eq (p : SPanel) (h : p.Breaks.length ≤ 1048576) : sh99 p = some (panelB p) := by
  unfold sh99 panelB
  have hi : iter (sh99_1 p) 0 = some (if p.Breaks.all brkB = true then .inl () else .inr false) := iter_all (xs := p.Breaks) (by omega) (fun k hk => by
    have h2 : (k : Int) < p.Breaks.length := by omega
    simp only [sh99_1, sh154, sh136, h2, decide_true, cond_true, getI_lt hk, bindS]
    rw [w64_id (x := (k : Int) + 1) (by omega) (by omega)]
    unfold brkB
    cases decide (0 ≤ p.Breaks[k]) && decide (p.Breaks[k] ≤ 2) <;> rfl) (by simp [sh99_1])
  simp only [sh152, sh153, sh136, bindS, hi]
  show Option.bind (Option.bind (bif (sideB p.W) then some (sideB p.H) else some false) _) _ = _
  cases sideB p.W
  · rfl
  · cases sideB p.H
    · rfl
    · show (bif ((p.Breaks.length : Int) != innerN p.W p.H) then _ else _) = _
      simp only [bne]
      cases ((p.Breaks.length : Int) == innerN p.W p.H)
      · rfl
      · cases p.Breaks.all brkB <;> rfl
theorem panelB_facts {p : SPanel} (h : panelB p = true) : (1 ≤ p.W ∧ p.W ≤ 8) ∧ (1 ≤ p.H ∧ p.H ≤ 8) ∧ (p.Breaks.length : Int) = p.W * (p.H - 1) + p.H * (p.W - 1) ∧ (∀ k ∈ p.Breaks, 0 ≤ k ∧ k ≤ 2) ∧ p.Breaks.length ≤ 112 := by
  unfold panelB sideB brkB innerN at h
  simp only [Bool.and_eq_true, decide_eq_true_eq, List.all_eq_true, beq_iff_eq] at h
  obtain ⟨⟨⟨hw, hw2⟩, hh, hh2⟩, hl, ha⟩ := h
  have key : ∀ w : Int, 1 ≤ w → w ≤ 8 → ∀ k : Int, 1 ≤ k → k ≤ 8 → 0 ≤ w * (k - 1) ∧ w * (k - 1) ≤ 56 := by
    intro w h1 h2 k h3 h4
    have : 0 ≤ w * (k - 1) := Int.mul_nonneg (by omega) (by omega)
    have h5 : w * (k - 1) ≤ 8 * (k - 1) := Int.mul_le_mul_of_nonneg_right h2 (by omega)
    omega
  have k1 := key p.W hw hw2 p.H hh hh2
  have k2 := key p.H hh hh2 p.W hw hw2
  rw [w64_id (x := p.H - 1) (by omega) (by omega), w64_id (x := p.W - 1) (by omega) (by omega), w64_id (x := p.W * (p.H - 1)) (by omega) (by omega), w64_id (x := p.H * (p.W - 1)) (by omega) (by omega), w64_id (by omega) (by omega)] at hl
  exact ⟨⟨hw, hw2⟩, ⟨hh, hh2⟩, hl, ha, by omega⟩
def hasB (p : SPanel) (a : SPoint) : Bool := ((decide (0 ≤ a.X) && decide (a.X ≤ w64 (2 * p.W))) && (decide (0 ≤ a.Y) && decide (a.Y ≤ w64 (2 * p.H)))) && ((w64 (a.X + a.Y)).tmod 2 == 1)
def edgeB (p : SPanel) (a : SPoint) : Bool := (((a.X == 0) || (a.Y == 0)) || (a.X == w64 (2 * p.W))) || (a.Y == w64 (2 * p.H))
theorem l02Edge_eq (p : SPanel) (a : SPoint) : sh167 p a = some (edgeB p a) := rfl
theorem isBorder_eq (p : SPanel) (a : SPoint) : sh172 p a = some (edgeB p a) := by
  unfold sh172 edgeB
  cases (a.X == 0) <;> cases (a.Y == 0) <;> cases (a.X == w64 (2 * p.W)) <;> cases (a.Y == w64 (2 * p.H)) <;> rfl
def codeOf (p : SPanel) (a : SPoint) : Int := bif !panelB p then 1 else bif !hasB p a then 2 else bif edgeB p a then 6 else 0
theorem codeOf_cases (p : SPanel) (a : SPoint) : codeOf p a = 1 ∨ codeOf p a = 2 ∨ codeOf p a = 6 ∨ codeOf p a = 0 := by
  unfold codeOf
  cases panelB p <;> cases hasB p a <;> cases edgeB p a <;> simp

/-! walkers -/
/-- A walker that fits into a panel. -/
def okW (p : SPanel) (w : SWalker) : Prop := (w.DX = 1 ∨ w.DX = -1) ∧ (w.DY = 1 ∨ w.DY = -1) ∧ (0 ≤ w.At.X ∧ w.At.X ≤ 2 * p.W) ∧ (0 ≤ w.At.Y ∧ w.At.Y ≤ 2 * p.H) ∧ (w.At.X + w.At.Y) % 2 = 1 ∧ (0 ≤ w.At.X + w.DX ∧ w.At.X + w.DX ≤ 2 * p.W) ∧ (0 ≤ w.At.Y + w.DY ∧ w.At.Y + w.DY ≤ 2 * p.H)
structure Dim (p : SPanel) : Prop where
  w1 : 1 ≤ p.W
  w2 : p.W ≤ 8
  h1 : 1 ≤ p.H
  h2 : p.H ≤ 8
  bl : (p.Breaks.length : Int) = p.W * (p.H - 1) + p.H * (p.W - 1)
theorem dim_of {p : SPanel} (h : panelB p = true) : Dim p := let ⟨h1, h2, h3, _⟩ := panelB_facts h; ⟨h1.1, h1.2, h2.1, h2.2, h3⟩
theorem eight {n : Int} (h1 : 1 ≤ n) (h2 : n ≤ 8) : n = 1 ∨ n = 2 ∨ n = 3 ∨ n = 4 ∨ n = 5 ∨ n = 6 ∨ n = 7 ∨ n = 8 := by omega
def numF (p : SPanel) (x y : Int) : Int := (y - 1) * p.W - y / 2 + (x - 1) / 2
def brkF (p : SPanel) (x y : Int) : Int := if x = 0 ∨ x = 2 * p.W ∨ y = 0 ∨ y = 2 * p.H then 0 else p.Breaks.getD (numF p x y).toNat 0
def stp (p : SPanel) (w : SWalker) : SWalker := ⟨⟨w.At.X + w.DX, w.At.Y + w.DY⟩, if w.At.X + w.DX = 0 ∨ w.At.X + w.DX = 2 * p.W ∨ brkF p (w.At.X + w.DX) (w.At.Y + w.DY) = 1 then 0 - w.DX else w.DX, if w.At.Y + w.DY = 0 ∨ w.At.Y + w.DY = 2 * p.H ∨ brkF p (w.At.X + w.DX) (w.At.Y + w.DY) = 2 then 0 - w.DY else w.DY⟩
def bck (w : SWalker) : SWalker := ⟨⟨w.At.X + w.DX, w.At.Y + w.DY⟩, 0 - w.DX, 0 - w.DY⟩
def sgF (p : SPanel) (w : SWalker) : Int := (if w.DX = 1 then w.At.X else w.At.X - 1) * (2 * p.H) + (if w.DY = 1 then w.At.Y else w.At.Y - 1)
theorem brk_edge {p : SPanel} {x y : Int} (h : x = 0 ∨ x = 2 * p.W ∨ y = 0 ∨ y = 2 * p.H) : brkF p x y = 0 := if_pos h
theorem stp_ok {p : SPanel} {w : SWalker} (hd : Dim p) (h : okW p w) : okW p (stp p w) := by
  obtain ⟨w1, w2, h1, h2, bl⟩ := hd
  clear bl
  obtain ⟨⟨X, Y⟩, DX, DY⟩ := w
  obtain ⟨a1, a2, ⟨a3, a4⟩, ⟨a5, a6⟩, a7, ⟨a8, a9⟩, a10, a11⟩ := h
  simp only at a1 a2 a3 a4 a5 a6 a7 a8 a9 a10 a11
  unfold okW stp
  simp only
  generalize brkF p (X + DX) (Y + DY) = k
  rcases a1 with rfl | rfl <;> rcases a2 with rfl | rfl <;> (refine ⟨?_, ?_, ⟨?_, ?_⟩, ⟨?_, ?_⟩, ?_, ⟨?_, ?_⟩, ⟨?_, ?_⟩⟩ <;> (try split) <;> omega)
theorem bck_ok {p : SPanel} {w : SWalker} (h : okW p w) : okW p (bck w) := by
  obtain ⟨⟨X, Y⟩, DX, DY⟩ := w
  obtain ⟨a1, a2, ⟨a3, a4⟩, ⟨a5, a6⟩, a7, ⟨a8, a9⟩, a10, a11⟩ := h
  simp only at a1 a2 a3 a4 a5 a6 a7 a8 a9 a10 a11
  unfold okW bck
  simp only
  rcases a1 with rfl | rfl <;> rcases a2 with rfl | rfl <;> (refine ⟨?_, ?_, ⟨?_, ?_⟩, ⟨?_, ?_⟩, ?_, ⟨?_, ?_⟩, ⟨?_, ?_⟩⟩ <;> omega)
theorem walker_ext {a b : SWalker} (h1 : a.At.X = b.At.X) (h2 : a.At.Y = b.At.Y) (h3 : a.DX = b.DX) (h4 : a.DY = b.DY) : a = b := by
  obtain ⟨⟨ax, ay⟩, ad, ae⟩ := a
  obtain ⟨⟨bx, by'⟩, bd, be⟩ := b
  simp only at h1 h2 h3 h4
  subst h1; subst h2; subst h3; subst h4
  rfl
theorem bck_bck (w : SWalker) : bck (bck w) = w := by
  apply walker_ext <;> simp only [bck] <;> omega
theorem stp_back (p : SPanel) (w : SWalker) : stp p (bck (stp p w)) = bck w := by
  have e : ∀ a d : Int, a + d + (0 - d) = a := fun a d => by omega
  have hx : (bck (stp p w)).At.X + (bck (stp p w)).DX = w.At.X + w.DX := by simp only [bck, stp]; omega
  have hy : (bck (stp p w)).At.Y + (bck (stp p w)).DY = w.At.Y + w.DY := by simp only [bck, stp]; omega
  apply walker_ext
  · exact hx
  · exact hy
  · show (if (bck (stp p w)).At.X + (bck (stp p w)).DX = 0 ∨ (bck (stp p w)).At.X + (bck (stp p w)).DX = 2 * p.W ∨ brkF p ((bck (stp p w)).At.X + (bck (stp p w)).DX) ((bck (stp p w)).At.Y + (bck (stp p w)).DY) = 1 then 0 - (bck (stp p w)).DX else (bck (stp p w)).DX) = 0 - w.DX
    rw [hx, hy]
    simp only [bck, stp]
    split <;> omega
  · show (if (bck (stp p w)).At.Y + (bck (stp p w)).DY = 0 ∨ (bck (stp p w)).At.Y + (bck (stp p w)).DY = 2 * p.H ∨ brkF p ((bck (stp p w)).At.X + (bck (stp p w)).DX) ((bck (stp p w)).At.Y + (bck (stp p w)).DY) = 2 then 0 - (bck (stp p w)).DY else (bck (stp p w)).DY) = 0 - w.DY
    rw [hx, hy]
    simp only [bck, stp]
    split <;> omega
theorem stp_inj {p : SPanel} {a b : SWalker} (h : stp p a = stp p b) : a = b := by
  have h1 := stp_back p a
  rw [h, stp_back p b] at h1
  rw [← bck_bck a, ← h1, bck_bck]
theorem bck_ne {p : SPanel} {w : SWalker} (h : okW p w) : bck w ≠ w := by
  intro e
  have := congrArg (fun w : SWalker => w.At.X) e
  simp only [bck] at this
  rcases h.1 with a | a <;> omega
theorem stp_ne_bck {p : SPanel} {w : SWalker} (h : okW p w) : stp p w ≠ bck w := by
  intro e
  have e1 := congrArg (fun w : SWalker => w.DX) e
  have e2 := congrArg (fun w : SWalker => w.DY) e
  obtain ⟨⟨X, Y⟩, DX, DY⟩ := w
  obtain ⟨a1, a2, ⟨a3, a4⟩, ⟨a5, a6⟩, a7, ⟨a8, a9⟩, a10, a11⟩ := h
  simp only [bck, stp] at e1 e2 a1 a2 a3 a4 a5 a6 a7 a8 a9 a10 a11
  have hk : X + DX = 0 ∨ X + DX = 2 * p.W ∨ Y + DY = 0 ∨ Y + DY = 2 * p.H → brkF p (X + DX) (Y + DY) = 0 := brk_edge
  generalize brkF p (X + DX) (Y + DY) = k at e1 e2 hk
  rcases a1 with rfl | rfl <;> rcases a2 with rfl | rfl <;> split at e1 <;> split at e2 <;> omega
theorem sg_bck {p : SPanel} {w : SWalker} (h : okW p w) : sgF p (bck w) = sgF p w := by
  obtain ⟨⟨X, Y⟩, DX, DY⟩ := w
  obtain ⟨a1, a2, _⟩ := h
  simp only at a1 a2
  have ex : (if (0 : Int) - DX = 1 then X + DX else X + DX - 1) = (if DX = 1 then X else X - 1) := by rcases a1 with rfl | rfl <;> split <;> (try split) <;> omega
  have ey : (if (0 : Int) - DY = 1 then Y + DY else Y + DY - 1) = (if DY = 1 then Y else Y - 1) := by rcases a2 with rfl | rfl <;> split <;> (try split) <;> omega
  unfold sgF bck
  simp only
  rw [ex, ey]
theorem sg_bd {p : SPanel} {w : SWalker} (hd : Dim p) (h : okW p w) : 0 ≤ sgF p w ∧ sgF p w < 4 * p.W * p.H := by
  obtain ⟨w1, w2, h1, h2, bl⟩ := hd
  clear bl
  obtain ⟨a1, a2, ⟨a3, a4⟩, ⟨a5, a6⟩, a7, ⟨a8, a9⟩, a10, a11⟩ := h
  unfold sgF
  have key : ∀ a b : Int, 0 ≤ a → a + 1 ≤ 2 * p.W → 0 ≤ b → b + 1 ≤ 2 * p.H → 0 ≤ a * (2 * p.H) + b ∧ a * (2 * p.H) + b < 4 * p.W * p.H := by
    intro a b ha hb hc hd
    clear a1 a2 a3 a4 a5 a6 a7 a8 a9 a10 a11
    generalize p.H = H at *
    generalize p.W = W at *
    rcases eight h1 h2 with e | e | e | e | e | e | e | e <;> subst e <;> omega
  refine key _ _ ?_ ?_ ?_ ?_ <;> split <;> omega
theorem sg_same {p : SPanel} {v w : SWalker} (hd : Dim p) (hv : okW p v) (hw : okW p w) (h : sgF p v = sgF p w) : v = w ∨ v = bck w := by
  obtain ⟨w1, w2, h1, h2, bl⟩ := hd
  clear bl
  obtain ⟨a1, a2, ⟨a3, a4⟩, ⟨a5, a6⟩, a7, ⟨a8, a9⟩, a10, a11⟩ := hv
  obtain ⟨b1, b2, ⟨b3, b4⟩, ⟨b5, b6⟩, b7, ⟨b8, b9⟩, b10, b11⟩ := hw
  have key : ∀ a b c d : Int, 0 ≤ b → b + 1 ≤ 2 * p.H → 0 ≤ d → d + 1 ≤ 2 * p.H → a * (2 * p.H) + b = c * (2 * p.H) + d → a = c ∧ b = d := by
    intro a b c d hb hb2 hd hd2 he
    clear a1 a2 a3 a4 a5 a6 a7 a8 a9 a10 a11 b1 b2 b3 b4 b5 b6 b7 b8 b9 b10 b11 h
    generalize p.H = H at *
    rcases eight h1 h2 with e | e | e | e | e | e | e | e <;> subst e <;> omega
  unfold sgF at h
  obtain ⟨e1, e2⟩ := key _ _ _ _ (by split <;> omega) (by split <;> omega) (by split <;> omega) (by split <;> omega) h
  obtain ⟨⟨VX, VY⟩, VD, VE⟩ := v
  obtain ⟨⟨X, Y⟩, DX, DY⟩ := w
  simp only at a1 a2 a3 a4 a5 a6 a7 a8 a9 a10 a11 b1 b2 b3 b4 b5 b6 b7 b8 b9 b10 b11 e1 e2
  clear h h1 h2 w1 w2 key a3 a4 a5 a6 a8 a9 a10 a11 b3 b4 b5 b6 b8 b9 b10 b11
  rcases a1 with rfl | rfl <;> rcases b1 with rfl | rfl <;> rcases a2 with rfl | rfl <;> rcases b2 with rfl | rfl <;> simp only [show ¬ ((-1 : Int) = 1) by omega, if_true, if_false] at e1 e2 <;>
    first
    | (exfalso; omega)
    | (left; apply walker_ext <;> simp only <;> omega)
    | (right; apply walker_ext <;> simp only [bck] <;> omega)
/-- The walker of a segment. -/
def wlk (p : SPanel) (k : Int) : SWalker := if (k / (2 * p.H) + k % (2 * p.H)) % 2 = 1 then ⟨⟨k / (2 * p.H), k % (2 * p.H)⟩, 1, 1⟩ else ⟨⟨k / (2 * p.H), k % (2 * p.H) + 1⟩, 1, -1⟩
theorem wlk_ok {p : SPanel} (hd : Dim p) {k : Int} (h0 : 0 ≤ k) (h1 : k < 4 * p.W * p.H) : okW p (wlk p k) ∧ sgF p (wlk p k) = k := by
  obtain ⟨w1, w2, g1, g2, bl⟩ := hd
  clear bl
  have e1 : 0 ≤ k / (2 * p.H) ∧ k / (2 * p.H) + 1 ≤ 2 * p.W ∧ 0 ≤ k % (2 * p.H) ∧ k % (2 * p.H) + 1 ≤ 2 * p.H ∧ k / (2 * p.H) * (2 * p.H) + k % (2 * p.H) = k := by
    generalize p.H = H at *
    generalize p.W = W at *
    rcases eight g1 g2 with e | e | e | e | e | e | e | e <;> subst e <;> omega
  obtain ⟨e1, e2, e3, e4, e5⟩ := e1
  unfold wlk
  generalize k / (2 * p.H) = a at *
  generalize k % (2 * p.H) = b at *
  split
  · refine ⟨⟨.inl rfl, .inl rfl, ⟨?_, ?_⟩, ⟨?_, ?_⟩, ?_, ⟨?_, ?_⟩, ⟨?_, ?_⟩⟩, ?_⟩ <;> simp only [sgF, if_true] <;> omega
  · refine ⟨⟨.inl rfl, .inr rfl, ⟨?_, ?_⟩, ⟨?_, ?_⟩, ?_, ⟨?_, ?_⟩, ⟨?_, ?_⟩⟩, ?_⟩ <;> simp only [sgF, if_true, show ¬ ((-1 : Int) = 1) by omega, if_false] <;> omega

/-! steps -/
theorem ok_small {p : SPanel} {w : SWalker} (hd : Dim p) (h : okW p w) : (0 ≤ w.At.X ∧ w.At.X ≤ 16) ∧ (0 ≤ w.At.Y ∧ w.At.Y ≤ 16) ∧ (0 ≤ w.At.X + w.DX ∧ w.At.X + w.DX ≤ 16) ∧ (0 ≤ w.At.Y + w.DY ∧ w.At.Y + w.DY ≤ 16) := by
  obtain ⟨w1, w2, h1, h2, bl⟩ := hd
  clear bl
  obtain ⟨a1, a2, ⟨a3, a4⟩, ⟨a5, a6⟩, a7, ⟨a8, a9⟩, a10, a11⟩ := h
  omega
theorem next_eq' {p : SPanel} {w : SWalker} (hd : Dim p) (h : okW p w) : sh116 w = some ⟨w.At.X + w.DX, w.At.Y + w.DY⟩ := by
  obtain ⟨b1, b2, b3, b4⟩ := ok_small hd h
  unfold sh116
  rw [w64_id (by omega) (by omega), w64_id (by omega) (by omega)]
theorem l03Next_eq {p : SPanel} {w : SWalker} (hd : Dim p) (h : okW p w) : sh184 w = some ⟨w.At.X + w.DX, w.At.Y + w.DY⟩ := by
  obtain ⟨b1, b2, b3, b4⟩ := ok_small hd h
  unfold sh184
  rw [w64_id (by omega) (by omega), w64_id (by omega) (by omega)]
theorem mul_small {a H : Int} (h1 : 1 ≤ H) (h2 : H ≤ 8) (ha : 0 ≤ a) (ha2 : a ≤ 40) : 0 ≤ a * H ∧ a * H ≤ 320 := by
  rcases eight h1 h2 with e | e | e | e | e | e | e | e <;> subst e <;> omega
theorem seg_impl {p : SPanel} {w : SWalker} (hd : Dim p) (h : okW p w) : sh159 p w = some (sgF p w) := by
  obtain ⟨b1, b2, b3, b4⟩ := ok_small hd h
  have hn := next_eq' hd h
  unfold sh159
  rw [hn, bindS]
  simp only
  have ex : (if w.At.X + w.DX < w.At.X then w.At.X + w.DX else w.At.X) = (if w.DX = 1 then w.At.X else w.At.X - 1) := by
    rcases h.1 with a | a <;> rw [a] <;> split <;> (try split) <;> omega
  have ey : (if w.At.Y + w.DY < w.At.Y then w.At.Y + w.DY else w.At.Y) = (if w.DY = 1 then w.At.Y else w.At.Y - 1) := by
    rcases h.2.1 with a | a <;> rw [a] <;> split <;> (try split) <;> omega
  have bx : 0 ≤ (if w.DX = 1 then w.At.X else w.At.X - 1) ∧ (if w.DX = 1 then w.At.X else w.At.X - 1) ≤ 16 := by
    rcases h.1 with a | a <;> rw [a] at b3 ⊢ <;> split <;> omega
  have by' : 0 ≤ (if w.DY = 1 then w.At.Y else w.At.Y - 1) ∧ (if w.DY = 1 then w.At.Y else w.At.Y - 1) ≤ 16 := by
    rcases h.2.1 with a | a <;> rw [a] at b4 ⊢ <;> split <;> omega
  rw [ex, ey]
  unfold sgF
  generalize (if w.DX = 1 then w.At.X else w.At.X - 1) = a at *
  generalize (if w.DY = 1 then w.At.Y else w.At.Y - 1) = b at *
  have hm := mul_small (a := a * 2) hd.h1 hd.h2 (by omega) (by omega)
  rw [w64_id (x := a * 2) (by omega) (by omega), w64_id (x := a * 2 * p.H) (by omega) (by omega), w64_id (by omega) (by omega), Int.mul_assoc]
theorem seg_spec {p : SPanel} {w : SWalker} (hd : Dim p) (h : okW p w) : sh107 p w = some (sgF p w) := by
  obtain ⟨b1, b2, b3, b4⟩ := ok_small hd h
  have hn := l03Next_eq hd h
  unfold sh107 sh161
  rw [hn, bindS]
  unfold sgF
  rcases h.1 with a | a <;> rcases h.2.1 with b | b
  · rw [a, b]
    simp only [beq_self_eq_true, cond_true, bindS, if_true]
    have hm := mul_small (a := w.At.X * 2) hd.h1 hd.h2 (by omega) (by omega)
    rw [decide_eq_true (by omega), cond_true, bindS, w64_id (x := w.At.X * 2) (by omega) (by omega), w64_id (x := w.At.X * 2 * p.H) (by omega) (by omega), w64_id (x := w.At.X * 2 * p.H + w.At.Y) (by omega) (by omega), w64_id (x := w.At.X * 2 * p.H + w.At.Y - 1) (by omega) (by omega), w64_id (by omega) (by omega), Int.mul_assoc]
    congr 1; omega
  · rw [b] at b4
    rw [a, b]
    simp only [beq_self_eq_true, cond_true, bindS, if_true, show ¬ ((-1 : Int) = 1) by omega, if_false]
    have hm := mul_small (a := w.At.X * 2) hd.h1 hd.h2 (by omega) (by omega)
    rw [decide_eq_false (by omega), cond_false, bindS, w64_id (x := w.At.X * 2) (by omega) (by omega), w64_id (x := w.At.X * 2 * p.H) (by omega) (by omega), w64_id (x := w.At.X * 2 * p.H + w.At.Y) (by omega) (by omega), w64_id (by omega) (by omega), Int.mul_assoc]
    congr 1; omega
  · rw [a] at b3
    rw [a, b]
    simp only [show ((-1 : Int) == 1) = false from rfl, cond_false, bindS, if_true, show ¬ ((-1 : Int) = 1) by omega, if_false]
    have hm := mul_small (a := (w.At.X + -1) * 2) hd.h1 hd.h2 (by omega) (by omega)
    rw [decide_eq_false (by omega), cond_false, bindS, w64_id (x := (w.At.X + -1) * 2) (by omega) (by omega), w64_id (x := (w.At.X + -1) * 2 * p.H) (by omega) (by omega), w64_id (x := (w.At.X + -1) * 2 * p.H + (w.At.Y + 1)) (by omega) (by omega), w64_id (by omega) (by omega), Int.mul_assoc, show w.At.X + -1 = w.At.X - 1 by omega]
    congr 1; omega
  · rw [a] at b3
    rw [b] at b4
    rw [a, b]
    simp only [show ((-1 : Int) == 1) = false from rfl, cond_false, bindS, show ¬ ((-1 : Int) = 1) by omega, if_false]
    have hm := mul_small (a := (w.At.X + -1) * 2) hd.h1 hd.h2 (by omega) (by omega)
    rw [decide_eq_true (by omega), cond_true, bindS, w64_id (x := (w.At.X + -1) * 2) (by omega) (by omega), w64_id (x := (w.At.X + -1) * 2 * p.H) (by omega) (by omega), w64_id (x := (w.At.X + -1) * 2 * p.H + (w.At.Y + -1)) (by omega) (by omega), w64_id (x := (w.At.X + -1) * 2 * p.H + (w.At.Y + -1) - 1) (by omega) (by omega), w64_id (by omega) (by omega), Int.mul_assoc, show w.At.X + -1 = w.At.X - 1 by omega]
    congr 1; omega
/-- An inner point. -/
def inr (p : SPanel) (x y : Int) : Prop := (1 ≤ x ∧ x ≤ 2 * p.W - 1) ∧ (1 ≤ y ∧ y ≤ 2 * p.H - 1) ∧ (x + y) % 2 = 1
theorem num_bd {p : SPanel} (hd : Dim p) {x y : Int} (h : inr p x y) : 0 ≤ numF p x y ∧ numF p x y < p.Breaks.length := by
  obtain ⟨w1, w2, h1, h2, bl⟩ := hd
  obtain ⟨⟨a1, a2⟩, ⟨a3, a4⟩, a5⟩ := h
  rw [bl]
  unfold numF
  clear bl
  generalize p.W = W at *
  generalize p.H = H at *
  rcases eight w1 w2 with e | e | e | e | e | e | e | e <;> subst e <;> constructor <;> omega
theorem number_impl {p : SPanel} (hd : Dim p) {x y : Int} (h : inr p x y) : sh174 p ⟨x, y⟩ = some (numF p x y) := by
  have hb := num_bd hd h
  obtain ⟨w1, w2, h1, h2, bl⟩ := hd
  obtain ⟨⟨a1, a2⟩, ⟨a3, a4⟩, a5⟩ := h
  clear bl hb
  unfold sh174 numF
  simp only
  generalize p.W = W at *
  generalize p.H = H at *
  have e1 : y.tdiv 2 = y / 2 := Int.tdiv_eq_ediv_of_nonneg (by omega)
  have e2 : w64 (y - 1) = y - 1 := w64_id (by omega) (by omega)
  have e3 : (y - 1).tdiv 2 = (y - 1) / 2 := Int.tdiv_eq_ediv_of_nonneg (by omega)
  have e4 : x.tdiv 2 = x / 2 := Int.tdiv_eq_ediv_of_nonneg (by omega)
  have e5 : w64 (W - 1) = W - 1 := w64_id (by omega) (by omega)
  have e6 : y.tmod 2 = y % 2 := Int.tmod_eq_emod_of_nonneg (by omega)
  have m1 : 0 ≤ y / 2 * (W - 1) ∧ y / 2 * (W - 1) ≤ 320 := by
    rcases eight w1 w2 with e | e | e | e | e | e | e | e <;> subst e <;> omega
  have m2 : 0 ≤ (y - 1) / 2 * W ∧ (y - 1) / 2 * W ≤ 320 := by
    rcases eight w1 w2 with e | e | e | e | e | e | e | e <;> subst e <;> omega
  rw [e1, e2, e3, e4, e5, e6, w64_id (x := y / 2) (by omega) (by omega), w64_id (x := (y - 1) / 2) (by omega) (by omega), w64_id (x := x / 2) (by omega) (by omega), w64_id (x := y / 2 * (W - 1)) (by omega) (by omega), w64_id (x := (y - 1) / 2 * W) (by omega) (by omega), w64_id (x := y / 2 * (W - 1) + (y - 1) / 2 * W) (by omega) (by omega), w64_id (x := y / 2 * (W - 1) + (y - 1) / 2 * W + x / 2) (by omega) (by omega), w64_id (x := y / 2 * (W - 1) + (y - 1) / 2 * W + x / 2 - 1) (by omega) (by omega)]
  by_cases hy : y % 2 = 1
  · rw [beq_iff_eq.2 hy, cond_true]
    congr 1
    rcases eight w1 w2 with e | e | e | e | e | e | e | e <;> subst e <;> omega
  · rw [beq_eq_false_iff_ne.2 hy, cond_false]
    congr 1
    rcases eight w1 w2 with e | e | e | e | e | e | e | e <;> subst e <;> omega
theorem row_spec {p : SPanel} (hd : Dim p) {y : Int} (h0 : 1 ≤ y) (h1 : y ≤ 16) : sh187 p y = some ((y - 1) * p.W - y / 2) := by
  obtain ⟨w1, w2, _, _, bl⟩ := hd
  clear bl
  unfold sh187
  obtain ⟨n, hn⟩ : ∃ n : Nat, y = n + 1 := ⟨(y - 1).toNat, by omega⟩
  have hi := iter_steps (sb := sh187_1 p y) (fun k => ((k : Int) * p.W - ((k : Int) + 1) / 2, (k : Int) + 1)) n (x := (y - 1) * p.W - y / 2) (by omega) (fun k hk => ?_) ?_
  · simp only [Int.natCast_zero, Int.zero_mul] at hi
    rw [show (0 : Int) - (0 + 1) / 2 = 0 by omega, show (0 : Int) + 1 = 1 by omega] at hi
    rw [hi, bindS]
  · have h2 : (k : Int) + 1 < y := by omega
    have hm : 0 ≤ (k : Int) * p.W ∧ (k : Int) * p.W ≤ 320 := by have := mul_small (a := (k : Int)) w1 w2 (by omega) (by omega); exact this
    have e6 : ((k : Int) + 1).tmod 2 = ((k : Int) + 1) % 2 := Int.tmod_eq_emod_of_nonneg (by omega)
    have hms : ((k + 1 : Nat) : Int) * p.W = (k : Int) * p.W + p.W := by rw [Int.natCast_add, Int.add_mul]; simp
    simp only [sh187_1, h2, decide_true, cond_true, e6]
    rw [hms]
    generalize (k : Int) * p.W = m at *
    rw [w64_id (x := m - ((k : Int) + 1) / 2 + p.W) (by omega) (by omega), w64_id (x := (k : Int) + 1 + 1) (by omega) (by omega), w64_id (x := m - ((k : Int) + 1) / 2 + p.W - 1) (by omega) (by omega)]
    by_cases hy : ((k : Int) + 1) % 2 = 1
    · rw [beq_iff_eq.2 hy, cond_true, bindS]
      simp only [Option.some.injEq, Sum.inl.injEq, Prod.mk.injEq]
      refine ⟨by omega, by omega⟩
    · rw [beq_eq_false_iff_ne.2 hy, cond_false, bindS]
      simp only [Option.some.injEq, Sum.inl.injEq, Prod.mk.injEq]
      refine ⟨by omega, by omega⟩
  · have hd : decide ((n : Int) + 1 < y) = false := decide_eq_false (by omega)
    simp only [sh187_1, hd, cond_false]
    rw [hn, show (n : Int) + 1 - 1 = (n : Int) by omega]
theorem number_spec {p : SPanel} (hd : Dim p) {x y : Int} (h : inr p x y) : sh168 p ⟨x, y⟩ = some (numF p x y) := by
  have hb := num_bd hd h
  have hd' := hd
  obtain ⟨w1, w2, h1, h2, bl⟩ := hd
  obtain ⟨⟨a1, a2⟩, ⟨a3, a4⟩, a5⟩ := h
  unfold sh168
  rw [show (SPoint.mk x y).Y = y from rfl, show (SPoint.mk x y).X = x from rfl, row_spec hd' (by omega) (by omega), bindS, w64_id (x := x - 1) (by omega) (by omega), Int.tdiv_eq_ediv_of_nonneg (by omega), w64_id (x := (x - 1) / 2) (by omega) (by omega)]
  have hm := mul_small (a := y - 1) w1 w2 (by omega) (by omega)
  unfold numF
  rw [w64_id (by omega) (by omega)]
theorem inner_of {p : SPanel} {w : SWalker} (h : okW p w) (he : ¬ (w.At.X + w.DX = 0 ∨ w.At.X + w.DX = 2 * p.W ∨ w.At.Y + w.DY = 0 ∨ w.At.Y + w.DY = 2 * p.H)) : inr p (w.At.X + w.DX) (w.At.Y + w.DY) := by
  obtain ⟨a1, a2, ⟨a3, a4⟩, ⟨a5, a6⟩, a7, ⟨a8, a9⟩, a10, a11⟩ := h
  refine ⟨⟨by omega, by omega⟩, ⟨by omega, by omega⟩, ?_⟩
  rcases a1 with a1 | a1 <;> rcases a2 with a2 | a2 <;> omega
theorem beq_dec (a b : Int) : (a == b) = decide (a = b) := by
  by_cases h : a = b
  · subst h; simp
  · rw [beq_eq_false_iff_ne.2 h, decide_eq_false h]
theorem ite_flip {c : Prop} [Decidable c] {α : Type} {a b : α} : (bif decide c then some a else some b) = some (if c then a else b) := by
  by_cases h : c <;> simp [h]
theorem step_impl {p : SPanel} {w : SWalker} (hd : Dim p) (h : okW p w) : ∃ t, sh160 p w = some (stp p w, t) := by
  obtain ⟨b1, b2, b3, b4⟩ := ok_small hd h
  have hwW : w64 (2 * p.W) = 2 * p.W := by have := hd.w1; have := hd.w2; exact w64_id (by omega) (by omega)
  have hwH : w64 (2 * p.H) = 2 * p.H := by have := hd.h1; have := hd.h2; exact w64_id (by omega) (by omega)
  have hdx : w64 (0 - w.DX) = 0 - w.DX := by rcases h.1 with a | a <;> rw [a] <;> exact w64_id (by omega) (by omega)
  have hdy : w64 (0 - w.DY) = 0 - w.DY := by rcases h.2.1 with a | a <;> rw [a] <;> exact w64_id (by omega) (by omega)
  unfold sh160 sh172
  rw [next_eq' hd h, bindS]
  simp only [hwW, hwH, bindS, beq_dec]
  have ek : (bif !(((decide (w.At.X + w.DX = 0) || decide (w.At.X + w.DX = 2 * p.W)) || decide (w.At.Y + w.DY = 0)) || decide (w.At.Y + w.DY = 2 * p.H)) then (Option.bind (sh174 p ⟨w.At.X + w.DX, w.At.Y + w.DY⟩) fun x18 => Option.bind (getI p.Breaks x18) fun x19 => some x19) else (some 0)) = some (brkF p (w.At.X + w.DX) (w.At.Y + w.DY)) := by
    by_cases he : w.At.X + w.DX = 0 ∨ w.At.X + w.DX = 2 * p.W ∨ w.At.Y + w.DY = 0 ∨ w.At.Y + w.DY = 2 * p.H
    · have : (((decide (w.At.X + w.DX = 0) || decide (w.At.X + w.DX = 2 * p.W)) || decide (w.At.Y + w.DY = 0)) || decide (w.At.Y + w.DY = 2 * p.H)) = true := by
        simp only [Bool.or_eq_true, decide_eq_true_eq]; rcases he with h | h | h | h <;> simp [h]
      rw [this, brk_edge he]; rfl
    · have : (((decide (w.At.X + w.DX = 0) || decide (w.At.X + w.DX = 2 * p.W)) || decide (w.At.Y + w.DY = 0)) || decide (w.At.Y + w.DY = 2 * p.H)) = false := by
        simp only [not_or] at he
        simp [he]
      have hin := inner_of h he
      have hb := num_bd hd hin
      have hl : (numF p (w.At.X + w.DX) (w.At.Y + w.DY)).toNat < p.Breaks.length := by omega
      rw [this, Bool.not_false, cond_true, number_impl hd hin, bindS, getI_toNat hb.1 hl, bindS]
      unfold brkF
      rw [if_neg he, List.getD_eq_getElem?_getD, List.getElem?_eq_getElem hl]
      rfl
  rw [ek, bindS]
  simp only [stp]
  generalize brkF p (w.At.X + w.DX) (w.At.Y + w.DY) = k
  have c1 : ((decide (w.At.X + w.DX = 0) || decide (w.At.X + w.DX = 2 * p.W)) || decide (k = 1)) = decide (w.At.X + w.DX = 0 ∨ w.At.X + w.DX = 2 * p.W ∨ k = 1) := by
    simp only [Bool.decide_or, Bool.or_assoc]
  have c2 : ((decide (w.At.Y + w.DY = 0) || decide (w.At.Y + w.DY = 2 * p.H)) || decide (k = 2)) = decide (w.At.Y + w.DY = 0 ∨ w.At.Y + w.DY = 2 * p.H ∨ k = 2) := by
    simp only [Bool.decide_or, Bool.or_assoc]
  rw [c1, c2]
  by_cases d1 : w.At.X + w.DX = 0 ∨ w.At.X + w.DX = 2 * p.W ∨ k = 1 <;> by_cases d2 : w.At.Y + w.DY = 0 ∨ w.At.Y + w.DY = 2 * p.H ∨ k = 2
  · rw [decide_eq_true d1, decide_eq_true d2, if_pos d1, if_pos d2, cond_true, bindS, cond_true, bindS, hdx]
    simp only [hdy]
    exact ⟨_, rfl⟩
  · rw [decide_eq_true d1, decide_eq_false d2, if_pos d1, if_neg d2, cond_true, bindS, cond_false, bindS, hdx]
    exact ⟨_, rfl⟩
  · rw [decide_eq_false d1, decide_eq_true d2, if_neg d1, if_pos d2, cond_false, bindS, cond_true, bindS]
    simp only [hdy]
    exact ⟨_, rfl⟩
  · rw [decide_eq_false d1, decide_eq_false d2, if_neg d1, if_neg d2, cond_false, bindS, cond_false, bindS]
    exact ⟨_, rfl⟩
theorem step_spec {p : SPanel} {w : SWalker} (hd : Dim p) (h : okW p w) : sh183 p w = some (stp p w) := by
  obtain ⟨b1, b2, b3, b4⟩ := ok_small hd h
  have hwW : w64 (2 * p.W) = 2 * p.W := by have := hd.w1; have := hd.w2; exact w64_id (by omega) (by omega)
  have hwH : w64 (2 * p.H) = 2 * p.H := by have := hd.h1; have := hd.h2; exact w64_id (by omega) (by omega)
  have hdx : w64 (0 - w.DX) = 0 - w.DX := by rcases h.1 with a | a <;> rw [a] <;> exact w64_id (by omega) (by omega)
  have hdy : w64 (0 - w.DY) = 0 - w.DY := by rcases h.2.1 with a | a <;> rw [a] <;> exact w64_id (by omega) (by omega)
  unfold sh183 sh167
  rw [l03Next_eq hd h, bindS]
  simp only [hwW, hwH, bindS, beq_dec, hdx]
  by_cases he : w.At.X + w.DX = 0 ∨ w.At.X + w.DX = 2 * p.W ∨ w.At.Y + w.DY = 0 ∨ w.At.Y + w.DY = 2 * p.H
  · have e0 : (((decide (w.At.X + w.DX = 0) || decide (w.At.Y + w.DY = 0)) || decide (w.At.X + w.DX = 2 * p.W)) || decide (w.At.Y + w.DY = 2 * p.H)) = true := by
      simp only [Bool.or_eq_true, decide_eq_true_eq]; rcases he with h | h | h | h <;> simp [h]
    have hk := brk_edge he
    simp only [e0, Bool.not_true, cond_false, bindS, stp, hk]
    have c1 : (decide (w.At.X + w.DX = 0) || decide (w.At.X + w.DX = 2 * p.W)) = decide (w.At.X + w.DX = 0 ∨ w.At.X + w.DX = 2 * p.W ∨ (0 : Int) = 1) := by simp
    have c2 : (decide (w.At.Y + w.DY = 0) || decide (w.At.Y + w.DY = 2 * p.H)) = decide (w.At.Y + w.DY = 0 ∨ w.At.Y + w.DY = 2 * p.H ∨ (0 : Int) = 2) := by simp
    rw [c1, c2]
    by_cases d1 : w.At.X + w.DX = 0 ∨ w.At.X + w.DX = 2 * p.W ∨ (0 : Int) = 1 <;> by_cases d2 : w.At.Y + w.DY = 0 ∨ w.At.Y + w.DY = 2 * p.H ∨ (0 : Int) = 2
    · rw [decide_eq_true d1, decide_eq_true d2, if_pos d1, if_pos d2, cond_true, bindS, cond_true, bindS]
      simp only [hdy]
    · rw [decide_eq_true d1, decide_eq_false d2, if_pos d1, if_neg d2, cond_true, bindS, cond_false, bindS]
    · rw [decide_eq_false d1, decide_eq_true d2, if_neg d1, if_pos d2, cond_false, bindS, cond_true, bindS]
      simp only [hdy]
    · rw [decide_eq_false d1, decide_eq_false d2, if_neg d1, if_neg d2, cond_false, bindS, cond_false, bindS]
  · have hin := inner_of h he
    have hb := num_bd hd hin
    have hl : (numF p (w.At.X + w.DX) (w.At.Y + w.DY)).toNat < p.Breaks.length := by omega
    have hg : getI p.Breaks (numF p (w.At.X + w.DX) (w.At.Y + w.DY)) = some (brkF p (w.At.X + w.DX) (w.At.Y + w.DY)) := by
      rw [getI_toNat hb.1 hl]
      unfold brkF
      rw [if_neg he, List.getD_eq_getElem?_getD, List.getElem?_eq_getElem hl]
      rfl
    simp only [not_or] at he
    simp only [he.1, he.2.1, he.2.2.1, he.2.2.2, decide_false, Bool.or_self, Bool.not_false, cond_false, cond_true, bindS, number_spec hd hin, hg, stp, false_or]
    generalize brkF p (w.At.X + w.DX) (w.At.Y + w.DY) = k
    by_cases d1 : k = 1
    · subst d1
      simp only [decide_true, cond_true, bindS, if_true, hdx, show ¬ ((1 : Int) = 2) by omega, if_false]
    · by_cases d2 : k = 2
      · subst d2
        simp only [show ¬ ((2 : Int) = 1) by omega, decide_false, decide_true, cond_true, cond_false, bindS, if_true, hdy, if_false]
      · simp only [d1, d2, decide_false, cond_false, bindS, if_false]
theorem walker_impl {p : SPanel} (hd : Dim p) {k : Int} (h0 : 0 ≤ k) (h1 : k < 4 * p.W * p.H) : sh158 p k = some (wlk p k) := by
  have hwH : w64 (2 * p.H) = 2 * p.H := by have := hd.h1; have := hd.h2; exact w64_id (by omega) (by omega)
  have hb : 0 ≤ k / (2 * p.H) ∧ k / (2 * p.H) ≤ 16 ∧ 0 ≤ k % (2 * p.H) ∧ k % (2 * p.H) ≤ 16 := by
    obtain ⟨w1, w2, g1, g2, bl⟩ := hd
    clear bl
    generalize p.H = H at *
    generalize p.W = W at *
    rcases eight g1 g2 with e | e | e | e | e | e | e | e <;> subst e <;> omega
  have e1 : k.tdiv (2 * p.H) = k / (2 * p.H) := Int.tdiv_eq_ediv_of_nonneg h0
  have e2 : k.tmod (2 * p.H) = k % (2 * p.H) := Int.tmod_eq_emod_of_nonneg h0
  unfold sh158 wlk
  rw [hwH, nzI_ok (by have := hd.h1; omega), bindS, bindS, e1, e2, w64_id (x := k / (2 * p.H)) (by omega) (by omega)]
  generalize k / (2 * p.H) = a at *
  generalize k % (2 * p.H) = b at *
  rw [w64_id (x := a + b) (by omega) (by omega), w64_id (x := b + 1) (by omega) (by omega), Int.tmod_eq_emod_of_nonneg (by omega), beq_dec, ite_flip]
theorem walker_spec {p : SPanel} (hd : Dim p) {k : Int} (h0 : 0 ≤ k) (h1 : k < 4 * p.W * p.H) : sh150 p k = some (wlk p k) := by
  have hwH : w64 (2 * p.H) = 2 * p.H := by have := hd.h1; have := hd.h2; exact w64_id (by omega) (by omega)
  have hb : 0 ≤ k / (2 * p.H) ∧ k / (2 * p.H) ≤ 16 ∧ 0 ≤ k % (2 * p.H) ∧ k % (2 * p.H) ≤ 16 := by
    obtain ⟨w1, w2, g1, g2, bl⟩ := hd
    clear bl
    generalize p.H = H at *
    generalize p.W = W at *
    rcases eight g1 g2 with e | e | e | e | e | e | e | e <;> subst e <;> omega
  have e1 : k.tdiv (2 * p.H) = k / (2 * p.H) := Int.tdiv_eq_ediv_of_nonneg h0
  have e2 : k.tmod (2 * p.H) = k % (2 * p.H) := Int.tmod_eq_emod_of_nonneg h0
  unfold sh150 wlk
  rw [hwH, nzI_ok (by have := hd.h1; omega), bindS, bindS, e1, e2, w64_id (x := k / (2 * p.H)) (by omega) (by omega)]
  generalize k / (2 * p.H) = a at *
  generalize k % (2 * p.H) = b at *
  have t1 : a.tmod 2 = a % 2 := Int.tmod_eq_emod_of_nonneg (by omega)
  have t2 : b.tdiv 2 = b / 2 := Int.tdiv_eq_ediv_of_nonneg (by omega)
  have t3 : b.tmod 2 = b % 2 := Int.tmod_eq_emod_of_nonneg (by omega)
  have t4 : w64 (b + 1) = b + 1 := w64_id (by omega) (by omega)
  have t5 : (b + 1).tdiv 2 = (b + 1) / 2 := Int.tdiv_eq_ediv_of_nonneg (by omega)
  rw [t1, t2, t3, t4, t5, w64_id (x := b / 2) (by omega) (by omega), w64_id (x := b / 2 * 2) (by omega) (by omega), w64_id (x := b / 2 * 2 + 1) (by omega) (by omega), w64_id (x := 2 * (b % 2)) (by omega) (by omega), w64_id (x := 2 * (b % 2) - 1) (by omega) (by omega), w64_id (x := (b + 1) / 2) (by omega) (by omega), w64_id (x := (b + 1) / 2 * 2) (by omega) (by omega)]
  by_cases ha : a % 2 = 0
  · rw [beq_iff_eq.2 ha, cond_true]
    split
    · rw [show b / 2 * 2 + 1 = b by omega, show 2 * (b % 2) - 1 = 1 by omega]
    · rw [show b / 2 * 2 + 1 = b + 1 by omega, show 2 * (b % 2) - 1 = -1 by omega]
  · rw [beq_eq_false_iff_ne.2 ha, cond_false]
    by_cases hbb : b % 2 = 1
    · rw [beq_iff_eq.2 hbb, cond_true, bindS, if_neg (by omega), show (b + 1) / 2 * 2 = b + 1 by omega]
    · rw [beq_eq_false_iff_ne.2 hbb, cond_false, bindS, if_pos (by omega), show (b + 1) / 2 * 2 = b by omega]

/-! trace -/
def orb (p : SPanel) (w0 : SWalker) : Nat → SWalker
  | 0 => w0
  | i + 1 => stp p (orb p w0 i)
theorem orb_ok {p : SPanel} {w0 : SWalker} (hd : Dim p) (h : okW p w0) : ∀ i, okW p (orb p w0 i)
  | 0 => h
  | i + 1 => stp_ok hd (orb_ok hd h i)
theorem no_back {p : SPanel} {w0 : SWalker} (hd : Dim p) (h : okW p w0) : ∀ d i, orb p w0 (i + d) ≠ bck (orb p w0 i)
  | 0, i => fun e => bck_ne (orb_ok hd h i) e.symm
  | 1, i => fun e => stp_ne_bck (orb_ok hd h i) e
  | d + 2, i => fun e => by
    have h1 : stp p (orb p w0 (i + d + 1)) = stp p (bck (stp p (orb p w0 i))) := by rw [stp_back]; exact e
    have h2 := stp_inj h1
    exact no_back hd h d (i + 1) (by rw [show i + 1 + d = i + d + 1 by omega]; exact h2)
def ofN (p : SPanel) (w0 : SWalker) (c : Int) (of : List Int) : Nat → List Int
  | 0 => of
  | i + 1 => (ofN p w0 c of i).set (sgF p (orb p w0 i)).toNat c
theorem ofN_length (p : SPanel) (w0 : SWalker) (c : Int) (of : List Int) : ∀ i, (ofN p w0 c of i).length = of.length
  | 0 => rfl
  | i + 1 => by rw [ofN, List.length_set, ofN_length]
theorem getD_set (l : List Int) (i j : Nat) (c d : Int) (h : i < l.length) : (l.set i c).getD j d = if i = j then c else l.getD j d := by
  rw [List.getD_eq_getElem?_getD, List.getD_eq_getElem?_getD, List.getElem?_set]
  by_cases hij : i = j
  · subst hij; simp [h]
  · simp [hij]
def NS (p : SPanel) : Nat := (4 * p.W * p.H).toNat
theorem NS_eq {p : SPanel} (hd : Dim p) : ((NS p : Nat) : Int) = 4 * p.W * p.H ∧ NS p ≤ 256 ∧ 1 ≤ NS p := by
  obtain ⟨w1, w2, h1, h2, bl⟩ := hd
  clear bl
  unfold NS
  generalize p.W = W at *
  generalize p.H = H at *
  rcases eight h1 h2 with e | e | e | e | e | e | e | e <;> subst e <;> omega
theorem sg_lt {p : SPanel} {w : SWalker} (hd : Dim p) (h : okW p w) : (sgF p w).toNat < NS p ∧ 0 ≤ sgF p w := by
  have h1 := sg_bd hd h
  have h2 := NS_eq hd
  omega
theorem ofN_hit {p : SPanel} {w0 : SWalker} {c : Int} {of : List Int} (hd : Dim p) (h : okW p w0) (hl : of.length = NS p) : ∀ (i m : Nat), m < i → (ofN p w0 c of i).getD (sgF p (orb p w0 m)).toNat 0 = c
  | i + 1, m, hm => by
    have hi := sg_lt hd (orb_ok hd h i)
    rw [ofN, getD_set _ _ _ _ _ (by rw [ofN_length, hl]; exact hi.1)]
    split
    · rfl
    · rename_i hne
      have : m ≠ i := fun e => hne (by rw [e])
      exact ofN_hit hd h hl i m (by omega)
theorem ofN_old {p : SPanel} {w0 : SWalker} {c : Int} {of : List Int} (hd : Dim p) (h : okW p w0) (hl : of.length = NS p) : ∀ (i j : Nat), (∀ m, m < i → (sgF p (orb p w0 m)).toNat ≠ j) → (ofN p w0 c of i).getD j 0 = of.getD j 0
  | 0, _, _ => rfl
  | i + 1, j, hn => by
    have hi := sg_lt hd (orb_ok hd h i)
    rw [ofN, getD_set _ _ _ _ _ (by rw [ofN_length, hl]; exact hi.1), if_neg (hn i (by omega))]
    exact ofN_old hd h hl i j (fun m hm => hn m (by omega))
/-- The runs of a curve: each segment is free when it comes up. -/
def Run (p : SPanel) (w0 : SWalker) (c : Int) (of : List Int) (n : Nat) : Prop := ∀ j, j < n → (ofN p w0 c of j).getD (sgF p (orb p w0 j)).toNat 0 < 0
/-- What is owned is owned as a whole. -/
def Clo (p : SPanel) (of : List Int) : Prop := ∀ w, okW p w → 0 ≤ of.getD (sgF p w).toNat 0 → 0 ≤ of.getD (sgF p (stp p w)).toNat 0
theorem sg_eq_of {p : SPanel} {v w : SWalker} (hd : Dim p) (hv : okW p v) (hw : okW p w) (h : (sgF p v).toNat = (sgF p w).toNat) : sgF p v = sgF p w := by
  have := sg_lt hd hv
  have := sg_lt hd hw
  omega
theorem free_old {p : SPanel} {w0 : SWalker} {c : Int} {of : List Int} (hd : Dim p) (h : okW p w0) (hl : of.length = NS p) (hc : 0 ≤ c) {k : Nat} (hk : (ofN p w0 c of k).getD (sgF p (orb p w0 k)).toNat 0 < 0) :
    of.getD (sgF p (orb p w0 k)).toNat 0 < 0 ∧ ∀ m, m < k → sgF p (orb p w0 m) ≠ sgF p (orb p w0 k) := by
  have hno : ∀ m, m < k → (sgF p (orb p w0 m)).toNat ≠ (sgF p (orb p w0 k)).toNat := fun m hm e => by
    have := ofN_hit (c := c) hd h hl k m hm
    rw [e] at this
    omega
  rw [ofN_old hd h hl k _ hno] at hk
  exact ⟨hk, fun m hm e => hno m hm (by rw [e])⟩
theorem period {p : SPanel} {w0 : SWalker} {c : Int} {of : List Int} (hd : Dim p) (h : okW p w0) (hl : of.length = NS p) (hc : 0 ≤ c) (hcl : Clo p of) {n : Nat} (hn : 1 ≤ n) (hr : Run p w0 c of n) (hs : 0 ≤ (ofN p w0 c of n).getD (sgF p (orb p w0 n)).toNat 0) :
    orb p w0 n = w0 ∧ ∀ i, 0 < i → i < n → orb p w0 i ≠ w0 := by
  constructor
  · by_cases hit : ∃ m, m < n ∧ (sgF p (orb p w0 m)).toNat = (sgF p (orb p w0 n)).toNat
    · obtain ⟨m, hm, he⟩ := hit
      rcases sg_same hd (orb_ok hd h n) (orb_ok hd h m) (sg_eq_of hd (orb_ok hd h m) (orb_ok hd h n) he).symm with e | e
      · cases m with
        | zero => exact e
        | succ m =>
          obtain ⟨k, rfl⟩ : ∃ k, n = k + 1 := ⟨n - 1, by omega⟩
          have e2 : orb p w0 k = orb p w0 m := stp_inj e
          have := (free_old hd h hl hc (hr k (by omega))).2 m (by omega)
          rw [e2] at this
          exact absurd rfl this
      · exact absurd (by rw [show m + (n - m) = n by omega]; exact e) (no_back hd h (n - m) m)
    · exfalso
      rw [ofN_old hd h hl n _ (fun m hm e => hit ⟨m, hm, e⟩)] at hs
      obtain ⟨k, rfl⟩ : ∃ k, n = k + 1 := ⟨n - 1, by omega⟩
      have h1 := hcl (bck (orb p w0 (k + 1))) (bck_ok (orb_ok hd h (k + 1))) (by rw [sg_bck (orb_ok hd h (k + 1))]; exact hs)
      rw [show stp p (bck (orb p w0 (k + 1))) = bck (orb p w0 k) from stp_back p (orb p w0 k), sg_bck (orb_ok hd h k)] at h1
      have := (free_old hd h hl hc (hr k (by omega))).1
      omega
  · intro i h0 hi e
    have := (free_old hd h hl hc (hr i hi)).2 0 h0
    rw [e] at this
    exact absurd rfl this
theorem ofN_mono {p : SPanel} {w0 : SWalker} {c : Int} {of : List Int} (hd : Dim p) (h : okW p w0) (hl : of.length = NS p) (hc : 0 ≤ c) (n j : Nat) (hj : 0 ≤ of.getD j 0) : 0 ≤ (ofN p w0 c of n).getD j 0 := by
  by_cases hit : ∃ m, m < n ∧ (sgF p (orb p w0 m)).toNat = j
  · obtain ⟨m, hm, he⟩ := hit
    rw [← he, ofN_hit hd h hl n m hm]; exact hc
  · rw [ofN_old hd h hl n j (fun m hm e => hit ⟨m, hm, e⟩)]; exact hj
theorem clo_next {p : SPanel} {w0 : SWalker} {c : Int} {of : List Int} (hd : Dim p) (h : okW p w0) (hl : of.length = NS p) (hc : 0 ≤ c) (hcl : Clo p of) {n : Nat} (hn : 1 ≤ n) (hp : orb p w0 n = w0) : Clo p (ofN p w0 c of n) := by
  intro w hw hg
  have hit : ∀ m, m < n → ∀ v, sgF p v = sgF p (orb p w0 m) → 0 ≤ (ofN p w0 c of n).getD (sgF p v).toNat 0 := fun m hm v he => by
    rw [he, ofN_hit hd h hl n m hm]; exact hc
  by_cases hh : ∃ m, m < n ∧ (sgF p (orb p w0 m)).toNat = (sgF p w).toNat
  · obtain ⟨m, hm, he⟩ := hh
    rcases sg_same hd hw (orb_ok hd h m) (sg_eq_of hd (orb_ok hd h m) hw he).symm with e | e
    · subst e
      by_cases hm2 : m + 1 < n
      · exact hit (m + 1) hm2 _ rfl
      · have : m + 1 = n := by omega
        exact hit 0 (by omega) _ (by show sgF p (orb p w0 (m + 1)) = _; rw [this, hp]; rfl)
    · subst e
      cases m with
      | zero =>
        obtain ⟨k, rfl⟩ : ∃ k, n = k + 1 := ⟨n - 1, by omega⟩
        refine hit k (by omega) _ ?_
        rw [show bck (orb p w0 0) = bck (stp p (orb p w0 k)) from (show bck w0 = bck (orb p w0 (k + 1)) by rw [hp]), stp_back, sg_bck (orb_ok hd h k)]
      | succ m =>
        refine hit m (by omega) _ ?_
        rw [show stp p (bck (orb p w0 (m + 1))) = bck (orb p w0 m) from stp_back p (orb p w0 m), sg_bck (orb_ok hd h m)]
  · rw [ofN_old hd h hl n _ (fun m hm e => hh ⟨m, hm, e⟩)] at hg
    exact ofN_mono hd h hl hc n _ (hcl w hw hg)

def negs (l : List Int) : Nat := l.countP fun x => decide (x < 0)
theorem negs_set {l : List Int} {i : Nat} {c : Int} (h : i < l.length) (hf : l.getD i 0 < 0) (hc : 0 ≤ c) : negs (l.set i c) + 1 = negs l := by
  unfold negs
  induction l generalizing i with
  | nil => simp at h
  | cons x xs ih =>
    cases i with
    | zero =>
      have hx : x < 0 := by simpa using hf
      rw [List.set_cons_zero, List.countP_cons, List.countP_cons, decide_eq_true hx, decide_eq_false (show ¬ c < 0 by omega)]
      simp
    | succ i =>
      have := ih (i := i) (by simpa using h) (by simpa using hf)
      rw [List.set_cons_succ, List.countP_cons, List.countP_cons]
      omega
theorem negs_le (l : List Int) : negs l ≤ l.length := List.countP_le_length
theorem getI_sg {p : SPanel} {w : SWalker} {of : List Int} (hd : Dim p) (h : okW p w) (hl : of.length = NS p) : getI of (sgF p w) = some (of.getD (sgF p w).toNat 0) := by
  have h1 := sg_lt hd h
  rw [List.getD_eq_getElem?_getD, List.getElem?_eq_getElem (by omega)]
  exact getI_toNat h1.2 (by omega)
theorem range_snoc {T : Type} (f : Nat → T) (i : Nat) : (List.range (i + 1)).map f = (List.range i).map f ++ [f i] := by simp [List.range_succ]
theorem curve_impl {p : SPanel} {w0 : SWalker} {of : List Int} (hd : Dim p) (h : okW p w0) (hl : of.length = NS p) (cs : List (List SWalker)) (hf : of.getD (sgF p w0).toNat 0 < 0) :
    ∃ n, 1 ≤ n ∧ n ≤ 256 ∧ Run p w0 (cs.length : Int) of n ∧ 0 ≤ (ofN p w0 (cs.length : Int) of n).getD (sgF p (orb p w0 n)).toNat 0 ∧
      iter (sh104_3 p cs) (of, [], w0) = some (ofN p w0 (cs.length : Int) of n, (List.range n).map (orb p w0)) := by
  have hN := NS_eq hd
  have hng := negs_le of
  obtain ⟨y, hy, n, rfl, h1, h2, h3, h4⟩ := iter_inv (sb := sh104_3 p cs) (fun (s : List Int × List SWalker × SWalker) => ∃ i, s = (ofN p w0 (cs.length : Int) of i, (List.range i).map (orb p w0), orb p w0 i) ∧ Run p w0 (cs.length : Int) of i ∧ i + negs (ofN p w0 (cs.length : Int) of i) = negs of)
    (fun s => negs s.1) (fun y => ∃ n, y = (ofN p w0 (cs.length : Int) of n, (List.range n).map (orb p w0)) ∧ 1 ≤ n ∧ n ≤ 256 ∧ Run p w0 (cs.length : Int) of n ∧ 0 ≤ (ofN p w0 (cs.length : Int) of n).getD (sgF p (orb p w0 n)).toNat 0) (s0 := (of, [], w0))
    ⟨0, rfl, fun j hj => by omega, by simp [ofN]⟩ (by simp only; omega) (by
    rintro s ⟨i, rfl, hr, hn⟩
    have hok := orb_ok hd h i
    have hli : (ofN p w0 (cs.length : Int) of i).length = NS p := by rw [ofN_length, hl]
    obtain ⟨t, hst⟩ := step_impl hd hok
    simp only [sh104_3, seg_impl hd hok, bindS, getI_sg hd hok hli, hst]
    by_cases hneg : (ofN p w0 (cs.length : Int) of i).getD (sgF p (orb p w0 i)).toNat 0 < 0
    · left
      rw [decide_eq_true hneg, cond_true, appL_ok (by simp only [List.length_map, List.length_range, List.length_cons, List.length_nil]; omega), bindS]
      have hset := negs_set (c := (cs.length : Int)) (by rw [hli]; exact (sg_lt hd hok).1) hneg (by omega)
      refine ⟨_, rfl, ⟨i + 1, by rw [range_snoc]; rfl, fun j hj => ?_, by rw [ofN]; omega⟩, by simp only; omega⟩
      by_cases hji : j = i
      · subst hji; exact hneg
      · exact hr j (by omega)
    · right
      rw [decide_eq_false hneg, cond_false]
      refine ⟨_, rfl, i, rfl, ?_, by omega, hr, by omega⟩
      rcases Nat.eq_zero_or_pos i with h0 | h0
      · subst h0; exact absurd hf hneg
      · exact h0)
  exact ⟨n, h1, h2, h3, h4, hy⟩
instance decW : DecidableEq SWalker := fun a b => if h : a.At.X = b.At.X ∧ a.At.Y = b.At.Y ∧ a.DX = b.DX ∧ a.DY = b.DY then isTrue (walker_ext h.1 h.2.1 h.2.2.1 h.2.2.2) else isFalse (fun e => h (by subst e; simp))
theorem eqW (a b : SWalker) : (((a.At.X == b.At.X) && ((a.At.Y == b.At.Y) && true)) && ((a.DX == b.DX) && ((a.DY == b.DY) && true))) = decide (a = b) := by
  by_cases h : a = b
  · subst h; simp
  · rw [decide_eq_false h]
    simp only [Bool.and_true]
    cases h1 : (a.At.X == b.At.X) <;> cases h2 : (a.At.Y == b.At.Y) <;> cases h3 : (a.DX == b.DX) <;> cases h4 : (a.DY == b.DY) <;> (try rfl)
    simp only [beq_iff_eq] at h1 h2 h3 h4
    exact absurd (walker_ext h1 h2 h3 h4) h
theorem curve_spec {p : SPanel} {w0 : SWalker} (hd : Dim p) (h : okW p w0) {n : Nat} (hn : 1 ≤ n) (hn2 : n ≤ 256) (hp : orb p w0 n = w0) (ha : ∀ i, 0 < i → i < n → orb p w0 i ≠ w0) :
    sh149 p w0 = some ((List.range n).map (fun i => (orb p w0 i).At), (List.range n).map (fun i => sgF p (orb p w0 i))) := by
  unfold sh149
  have hi := iter_steps (sb := sh149_1 p w0) (fun i => ((List.range i).map (fun i => (orb p w0 i).At), (List.range i).map (fun i => sgF p (orb p w0 i)), orb p w0 i)) n (x := ((List.range n).map (fun i => (orb p w0 i).At), (List.range n).map (fun i => sgF p (orb p w0 i)))) (by omega) (fun i hi => ?_) ?_
  · simp only [List.range_zero, List.map_nil] at hi
    rw [show orb p w0 0 = w0 from rfl] at hi
    rw [hi, bindS]
  · have hok := orb_ok hd h i
    have hc : (((((List.range i).map (fun i => (orb p w0 i).At)).length : Int) == 0) || (!decide (orb p w0 i = w0))) = true := by
      rcases Nat.eq_zero_or_pos i with h0 | h0
      · subst h0; rfl
      · rw [decide_eq_false (ha i h0 hi)]; simp
    simp only [sh149_1, eqW, hc, cond_true]
    rw [appL_ok (by simp only [List.length_map, List.length_range, List.length_cons, List.length_nil]; omega), bindS, seg_spec hd hok, bindS, appL_ok (by simp only [List.length_map, List.length_range, List.length_cons, List.length_nil]; omega), bindS, step_spec hd hok, bindS, range_snoc, range_snoc]
    rfl
  · have hc : (((((List.range n).map (fun i => (orb p w0 i).At)).length : Int) == 0) || (!decide (orb p w0 n = w0))) = false := by
      rw [decide_eq_true hp]
      simp
      omega
    simp only [sh149_1, eqW, hc, cond_false]
theorem set_spec {p : SPanel} {w0 : SWalker} {of : List Int} (hd : Dim p) (h : okW p w0) (hl : of.length = NS p) (out : List (List SPoint)) (pts : List SPoint) (n : Nat) (hn : n ≤ 256) :
    iter (sh97_3 out (pts, (List.range n).map (fun i => sgF p (orb p w0 i)))) (0, of) = some (ofN p w0 (out.length : Int) of n) := by
  refine iter_steps (sb := sh97_3 out (pts, (List.range n).map (fun i => sgF p (orb p w0 i)))) (fun i => ((i : Int), ofN p w0 (out.length : Int) of i)) n (by omega) (fun i hi => ?_) ?_
  · have hok := orb_ok hd h i
    have hli : (ofN p w0 (out.length : Int) of i).length = NS p := by rw [ofN_length, hl]
    have hlt : i < ((List.range n).map (fun i => sgF p (orb p w0 i))).length := by simpa using hi
    have hd1 : decide ((i : Int) < (((List.range n).map (fun i => sgF p (orb p w0 i))).length : Int)) = true := decide_eq_true (by omega)
    simp only [sh97_3, hd1, cond_true, getI_lt hlt, List.getElem_map, List.getElem_range, bindS, getI_sg hd hok hli]
    rw [w64_id (by omega) (by omega)]
    rfl
  · have hd1 : decide ((n : Int) < (((List.range n).map (fun i => sgF p (orb p w0 i))).length : Int)) = false := decide_eq_false (by simp)
    simp only [sh97_3, hd1, cond_false]

/-- Two loops side by side. -/
theorem iter_rel {σ1 σ2 ρ1 ρ2 : Type} {sb1 : σ1 → Option (σ1 ⊕ ρ1)} {sb2 : σ2 → Option (σ2 ⊕ ρ2)} (R : σ1 → σ2 → Prop) (μ : σ1 → Nat) (Q : ρ1 → ρ2 → Prop) {s1 : σ1} {s2 : σ2} (h0 : R s1 s2) (hμ : μ s1 < 4611686018427387904)
    (hs : ∀ a b, R a b → (∃ a' b', sb1 a = some (.inl a') ∧ sb2 b = some (.inl b') ∧ R a' b' ∧ μ a' < μ a) ∨ (∃ x y, sb1 a = some (.inr x) ∧ sb2 b = some (.inr y) ∧ Q x y)) : ∃ x y, iter sb1 s1 = some x ∧ iter sb2 s2 = some y ∧ Q x y := by
  have key : ∀ k a b, μ a ≤ k → R a b → ∃ x y, iterN sb1 (k + 1) a = some x ∧ iterN sb2 (k + 1) b = some y ∧ Q x y := by
    intro k
    induction k with
    | zero =>
      intro a b hk hR
      rcases hs a b hR with ⟨a', b', _, _, _, h4⟩ | ⟨x, y, h1, h2, h3⟩
      · omega
      · exact ⟨x, y, by simp [iterN, h1], by simp [iterN, h2], h3⟩
    | succ k ih =>
      intro a b hk hR
      rcases hs a b hR with ⟨a', b', h1, h2, h3, h4⟩ | ⟨x, y, h1, h2, h3⟩
      · obtain ⟨x, y, g1, g2, g3⟩ := ih a' b' (by omega) h3
        exact ⟨x, y, by rw [iterN, h1]; exact g1, by rw [iterN, h2]; exact g2, g3⟩
      · exact ⟨x, y, by simp [iterN, h1], by simp [iterN, h2], h3⟩
  obtain ⟨x, y, h1, h2, h3⟩ := key (μ s1) s1 s2 (Nat.le_refl _) h0
  exact ⟨x, y, iterN_mono _ FUEL _ _ (by rw [FUEL_eq]; omega) h1, iterN_mono _ FUEL _ _ (by rw [FUEL_eq]; omega) h2, h3⟩
theorem fill_step {a b : Int} {k n : Nat} (h : k < n) : (List.replicate k a ++ List.replicate (n - k) b).set k a = List.replicate (k + 1) a ++ List.replicate (n - (k + 1)) b := by
  obtain ⟨m, hm⟩ : ∃ m, n - k = m + 1 := ⟨n - k - 1, by omega⟩
  rw [List.set_append, if_neg (by simp), List.length_replicate, Nat.sub_self, hm, List.replicate_succ, List.set_cons_zero, show n - (k + 1) = m by omega, List.replicate_succ', List.append_assoc]
  rfl
/-- A closed curve. -/
def Cyc (p : SPanel) (c : List SWalker) : Prop := ∃ w0 n, okW p w0 ∧ 1 ≤ n ∧ n ≤ 256 ∧ orb p w0 n = w0 ∧ c = (List.range n).map (orb p w0)
def ptsOf (c : List SWalker) : List SPoint := c.map (·.At)
structure Tr (p : SPanel) (cs : List (List SWalker)) (of : List Int) (k : Nat) : Prop where
  len : of.length = NS p
  clo : Clo p of
  own : ∀ j, j < k → 0 ≤ of.getD j 0
  val : ∀ j, of.getD j 0 < (cs.length : Int) ∨ (of.getD j 0 = 0 ∧ NS p ≤ j)
  few : cs.length ≤ k
  cyc : ∀ c ∈ cs, Cyc p c
theorem seg_n {p : SPanel} (hd : Dim p) : w64 (w64 (4 * p.W) * p.H) = (NS p : Int) := by
  have h1 := NS_eq hd
  have := hd.w1; have := hd.w2
  rw [w64_id (x := 4 * p.W) (by omega) (by omega), w64_id (by omega) (by omega), h1.1]
theorem trace_body {p : SPanel} (hd : Dim p) (cs : List (List SWalker)) (of : List Int) (k : Nat) (hk : k < NS p) (ht : Tr p cs of k) : ∃ cs' of', Tr p cs' of' (k + 1) ∧
    sh104_2 p (NS p : Int) ((k : Int), cs, of) = some (.inl (((k + 1 : Nat) : Int), cs', of')) ∧ sh97_2 p ((k : Int), of, cs.map ptsOf) = some (.inl (((k + 1 : Nat) : Int), of', cs'.map ptsOf)) := by
  obtain ⟨tl, tc, to, tv, tf, ty⟩ := ht
  have hN := NS_eq hd
  have hkl : k < of.length := by omega
  have hw : w64 ((k : Int) + 1) = ((k + 1 : Nat) : Int) := by rw [w64_id (by omega) (by omega)]; omega
  have hkd : decide ((k : Int) < (NS p : Int)) = true := decide_eq_true (by omega)
  have hgd : of.getD k 0 = of[k] := by rw [List.getD_eq_getElem?_getD, List.getElem?_eq_getElem hkl]; rfl
  simp only [sh104_2, sh97_2, seg_n hd, hkd, cond_true, getI_lt hkl, bindS, hw]
  by_cases hneg : 0 ≤ of[k]
  · rw [decide_eq_true hneg]
    refine ⟨cs, of, ⟨tl, tc, fun j hj => ?_, tv, by omega, ty⟩, rfl, rfl⟩
    by_cases hjk : j = k
    · subst hjk; rw [hgd]; exact hneg
    · exact to j (by omega)
  · rw [decide_eq_false hneg]
    obtain ⟨wok, wsg⟩ := wlk_ok hd (k := (k : Int)) (by omega) (by omega)
    obtain ⟨n, n1, n2, nr, ns, ni⟩ := curve_impl hd wok tl cs (by rw [wsg, Int.toNat_natCast, hgd]; omega)
    obtain ⟨np, na⟩ := period hd wok tl (by omega) tc n1 nr ns
    simp only [cond_false]
    rw [walker_impl hd (by omega) (by omega), bindS, ni, bindS, appL_ok (by simp only [List.length_cons, List.length_nil]; omega), bindS, walker_spec hd (by omega) (by omega), bindS, curve_spec hd wok n1 n2 np na, bindS]
    have hss := set_spec hd wok tl (cs.map ptsOf) ((List.range n).map (fun i => (orb p (wlk p k) i).At)) n n2
    rw [List.length_map] at hss
    rw [hss, bindS, appL_ok (by simp only [List.length_map, List.length_cons, List.length_nil]; omega), bindS]
    refine ⟨_, _, ⟨by rw [ofN_length, tl], clo_next hd wok tl (by omega) tc n1 np, fun j hj => ?_, fun j => ?_, by simp only [List.length_append, List.length_cons, List.length_nil]; omega, fun c hc => ?_⟩, rfl, ?_⟩
    · by_cases hjk : j = k
      · subst hjk
        have := ofN_hit (c := (cs.length : Int)) hd wok tl n 0 (by omega)
        rw [show orb p (wlk p j) 0 = wlk p j from rfl, wsg, Int.toNat_natCast] at this
        omega
      · exact ofN_mono hd wok tl (by omega) n j (to j (by omega))
    · simp only [List.length_append, List.length_cons, List.length_nil]
      by_cases hit : ∃ m, m < n ∧ (sgF p (orb p (wlk p k) m)).toNat = j
      · obtain ⟨m, hm, he⟩ := hit
        have := ofN_hit (c := (cs.length : Int)) hd wok tl n m hm
        rw [he] at this
        left; omega
      · rw [ofN_old hd wok tl n j (fun m hm e => hit ⟨m, hm, e⟩)]
        rcases tv j with h | h
        · left; omega
        · right; exact h
    · rcases List.mem_append.1 hc with hc | hc
      · exact ty c hc
      · simp only [List.mem_cons, List.not_mem_nil, or_false] at hc
        exact ⟨wlk p k, n, wok, n1, n2, np, hc⟩
    · simp only [List.map_append, List.map_cons, List.map_nil, ptsOf, List.map_map]
      rfl
/-- What both ways of tracing come to. -/
theorem trace_eq (p : SPanel) (hd : Dim p) : ∃ cs of, sh104 p = some (cs, of) ∧ sh97 p = some (cs.map ptsOf, of) ∧ Tr p cs of (NS p) := by
  have hN := NS_eq hd
  have hs : sh157 p = some (NS p : Int) := by unfold sh157; rw [seg_n hd]
  have hmk : mkL (NS p : Int) (0 : Int) = some (List.replicate (NS p) 0) := mkL_ok (by omega)
  have e1 : iter (sh104_1 (List.replicate (NS p) 0)) (0, List.replicate (NS p) 0) = some (List.replicate (NS p) (-1)) := by
    have := iter_steps (sb := sh104_1 (List.replicate (NS p) 0)) (fun k => ((k : Int), List.replicate k (-1) ++ List.replicate (NS p - k) 0)) (NS p) (x := List.replicate (NS p) (-1)) (by omega) (fun k hk => ?_) ?_
    · simpa using this
    · have hl : k < (List.replicate k (-1 : Int) ++ List.replicate (NS p - k) 0).length := by simp; omega
      have hd1 : decide ((k : Int) < ((List.replicate (NS p) (0 : Int)).length : Int)) = true := decide_eq_true (by simp; omega)
      simp only [sh104_1, hd1, cond_true, getI_lt hl, bindS, Int.toNat_natCast]
      rw [w64_id (by omega) (by omega), fill_step hk]
      rfl
    · have hd1 : decide (((NS p : Nat) : Int) < ((List.replicate (NS p) (0 : Int)).length : Int)) = false := decide_eq_false (by simp)
      simp only [sh104_1, hd1, cond_false]
      simp
  have e2 : iter (sh97_1 p) (0, List.replicate (NS p) 0) = some (List.replicate (NS p) (-1)) := by
    have := iter_steps (sb := sh97_1 p) (fun k => ((k : Int), List.replicate k (-1) ++ List.replicate (NS p - k) 0)) (NS p) (x := List.replicate (NS p) (-1)) (by omega) (fun k hk => ?_) ?_
    · simpa using this
    · have hl : k < (List.replicate k (-1 : Int) ++ List.replicate (NS p - k) 0).length := by simp; omega
      have hd1 : decide ((k : Int) < (NS p : Int)) = true := decide_eq_true (by omega)
      simp only [sh97_1, seg_n hd, hd1, cond_true, getI_lt hl, bindS, Int.toNat_natCast]
      rw [w64_id (by omega) (by omega), fill_step hk]
      rfl
    · have hd1 : decide (((NS p : Nat) : Int) < (NS p : Int)) = false := decide_eq_false (by omega)
      simp only [sh97_1, seg_n hd, hd1, cond_false]
      simp
  have hneg : ∀ j, (List.replicate (NS p) (-1 : Int)).getD j 0 = if j < NS p then -1 else 0 := by
    intro j
    rw [List.getD_eq_getElem?_getD, List.getElem?_replicate]
    split <;> rfl
  have h0 : Tr p [] (List.replicate (NS p) (-1)) 0 := ⟨by simp, fun w hw hg => by rw [hneg, if_pos (sg_lt hd hw).1] at hg; omega, fun j hj => by omega, fun j => by rw [hneg]; split <;> simp; omega, by simp, by simp⟩
  obtain ⟨x, y, hx, hy, cs, of, rfl, rfl, ht⟩ := iter_rel (sb1 := sh104_2 p (NS p : Int)) (sb2 := sh97_2 p) (fun a b => ∃ (k : Nat) (cs : List (List SWalker)) (of : List Int), a = ((k : Int), cs, of) ∧ b = ((k : Int), of, cs.map ptsOf) ∧ k ≤ NS p ∧ Tr p cs of k)
    (fun a => NS p - a.1.toNat) (fun x y => ∃ cs of, x = (cs, of) ∧ y = (of, cs.map ptsOf) ∧ Tr p cs of (NS p)) (s1 := (0, [], List.replicate (NS p) (-1))) (s2 := (0, List.replicate (NS p) (-1), [])) ⟨0, [], _, rfl, rfl, by omega, h0⟩ (by simp only; omega) (by
    rintro a b ⟨k, cs, of, rfl, rfl, hk, ht⟩
    by_cases hk2 : k < NS p
    · left
      obtain ⟨cs', of', h1, h2, h3⟩ := trace_body hd cs of k hk2 ht
      exact ⟨_, _, h2, h3, ⟨k + 1, cs', of', rfl, rfl, by omega, h1⟩, by simp only [Int.toNat_natCast]; omega⟩
    · right
      have hkn : k = NS p := by omega
      subst hkn
      have hd1 : decide (((NS p : Nat) : Int) < (NS p : Int)) = false := decide_eq_false (by omega)
      simp only [sh104_2, sh97_2, seg_n hd, hd1, cond_false]
      exact ⟨_, _, rfl, rfl, cs, of, rfl, rfl, ht⟩)
  refine ⟨cs, of, ?_, ?_, ht⟩
  · unfold sh104
    rw [hs, bindS, hmk, bindS, e1, bindS, bindS, hx, bindS]
  · unfold sh97
    rw [seg_n hd, hmk, bindS, e2, bindS, hy, bindS]

/-! points -/
theorem eqPoint_eq (p q : SPoint) : sh84 p q = some (decide (p = q)) := by
  unfold sh84
  cases p with
  | mk a b =>
    cases q with
    | mk c d =>
      show (bif a != c then some false else (bif b != d then some false else some true)) = _
      by_cases h1 : a = c
      · subst h1
        rw [bne_self_eq_false, cond_false]
        by_cases h2 : b = d
        · subst h2; rw [bne_self_eq_false]; simp
        · rw [bne_iff_ne.2 h2]; simp [h2]
      · rw [bne_iff_ne.2 h1]; simp [h1]

theorem eqPointS_eq (xs ys : List SPoint) (h : xs.length ≤ 1048576) : sh17 xs ys = some (decide (xs = ys)) := by
  unfold sh17
  by_cases hl : xs.length = ys.length
  · have h1 : ((xs.length : Int) != (ys.length : Int)) = false := by simp; omega
    rw [h1, cond_false, iter_eq (xs := xs) (ys := ys) (by omega) hl (fun k hk => ?_) (by simp [sh17_1]), bindS]
    · by_cases he : xs = ys <;> simp [he, elimS]
    · have h2 : (k : Int) < xs.length := by omega
      have h3 : k < ys.length := by omega
      simp only [sh17_1, h2, decide_true, cond_true, getI_lt hk, getI_lt h3, bindS, eqPoint_eq]
      rw [w64_id (by omega) (by omega)]
      by_cases he : xs[k] = ys[k]
      · simp [he]
      · rw [if_neg he, decide_eq_false he]
        rfl
  · have h1 : ((xs.length : Int) != (ys.length : Int)) = true := by simp; omega
    rw [h1, cond_true]
    have : xs ≠ ys := fun h => hl (by rw [h])
    simp [this]

/-! mark_points -/
/-- The numbers that are laid into a result of places. -/
def marksP (m : Int) (n : Nat) : List SPoint := (List.range n).map fun (i : Nat) => ⟨m + 2 * (i : Int), m + 2 * (i : Int) + 1⟩
theorem marksP_length (m : Int) (n : Nat) : (marksP m n).length = n := by simp [marksP]
theorem marksP_get (m : Int) (n k : Nat) (h : k < n) : (marksP m n)[k]'(by rw [marksP_length]; exact h) = ⟨m + 2 * k, m + 2 * k + 1⟩ := by simp [marksP]
theorem marksP_succ (m : Int) (k : Nat) : marksP m (k + 1) = marksP m k ++ [⟨m + 2 * k, m + 2 * k + 1⟩] := by simp [marksP, List.range_succ]

theorem markPointS_eq (xs : List SPoint) (m : Int) (h0 : 0 ≤ m) (h1 : m ≤ 1099511627776) (h : xs.length ≤ 1099511627776) : sh18 xs m = some (m + 2 * xs.length, marksP m xs.length) := by
  unfold sh18
  have hi := iter_steps (sb := sh18_1 xs) (fun k => (m + 2 * (k : Int), (k : Int), marksP m k ++ xs.drop k)) xs.length (x := (m + 2 * xs.length, marksP m xs.length)) (by omega) (fun k hk => ?_) ?_
  · simp only [List.drop_zero] at hi
    rw [show marksP m 0 ++ xs = xs from rfl] at hi
    simp only [Int.natCast_zero, Int.mul_zero, Int.add_zero] at hi
    rw [hi, bindS]
  · have h2 : (k : Int) < xs.length := by omega
    have hl : k < (marksP m k ++ xs.drop k).length := by rw [List.length_append, marksP_length, List.length_drop]; omega
    have hl2 : ∀ y, k < ((marksP m k ++ xs.drop k).set k y).length := fun y => by rw [List.length_set]; exact hl
    simp only [sh18_1, h2, decide_true, cond_true, getI_lt hl, getI_lt (hl2 _), bindS, Int.toNat_natCast, List.getElem_set_self, List.set_set]
    rw [w64_id (x := m + 2 * (k : Int) + 1) (by omega) (by omega), w64_id (x := m + 2 * (k : Int) + 1 + 1) (by omega) (by omega), w64_id (x := (k : Int) + 1) (by omega) (by omega), List.set_append, if_neg (by rw [marksP_length]; omega), marksP_length, Nat.sub_self, List.drop_eq_getElem_cons hk, List.set_cons_zero, marksP_succ, List.append_assoc]
    simp only [Option.some.injEq, Sum.inl.injEq, Prod.mk.injEq]
    refine ⟨by omega, by omega, rfl⟩
  · have hd : decide ((xs.length : Int) < (xs.length : Int)) = false := by simp
    simp only [sh18_1, hd, cond_false, List.drop_length, List.append_nil]

theorem heldPointS_eq (m : Int) (n : Nat) (h0 : 0 ≤ m) (h1 : m ≤ 1099511627776) (h : n ≤ 1099511627776) : sh19 (marksP m n) m = some (m + 2 * n) := by
  unfold sh19
  have hi := iter_steps (sb := sh19_1 (marksP m n)) (fun k => (m + 2 * (k : Int), (k : Int))) n (x := .inl (m + 2 * n)) (by omega) (fun k hk => ?_) ?_
  · simp only [Int.natCast_zero, Int.mul_zero, Int.add_zero] at hi
    rw [hi, bindS]
    rfl
  · have h2 : (k : Int) < (marksP m n).length := by rw [marksP_length]; omega
    have hl : k < (marksP m n).length := by rw [marksP_length]; exact hk
    simp only [sh19_1, h2, decide_true, cond_true, getI_lt hl, bindS, marksP_get m n k hk, bne_self_eq_false, cond_false]
    rw [w64_id (x := m + 2 * (k : Int) + 1) (by omega) (by omega), bne_self_eq_false, cond_false, w64_id (x := m + 2 * (k : Int) + 1 + 1) (by omega) (by omega), w64_id (x := (k : Int) + 1) (by omega) (by omega)]
    simp only [Option.some.injEq, Sum.inl.injEq, Prod.mk.injEq]
    refine ⟨by omega, by omega⟩
  · have hd : decide ((n : Int) < ((marksP m n).length : Int)) = false := by rw [marksP_length]; simp
    simp only [sh19_1, hd, cond_false]

/-! curves -/
theorem inB_dec (k n : Int) : (decide (0 ≤ k) && decide (k ≤ n - 1)) = decide (0 ≤ k ∧ k < n) := by
  by_cases h : 0 ≤ k ∧ k < n
  · rw [decide_eq_true h, decide_eq_true h.1, decide_eq_true (by omega)]; rfl
  · rw [decide_eq_false h]
    by_cases h1 : 0 ≤ k
    · rw [decide_eq_true h1, decide_eq_false (by omega)]; rfl
    · rw [decide_eq_false h1]; rfl
theorem count_eq {p : SPanel} {cs : List (List SWalker)} {of : List Int} (ht : sh104 p = some (cs, of)) : sh156 p = some (cs.length : Int) := by
  unfold sh156; rw [ht, bindS]
theorem curveCode_eq {p : SPanel} {cs : List (List SWalker)} {of : List Int} (hb : p.Breaks.length ≤ 1048576) (hp : panelB p = true) (ht : sh104 p = some (cs, of)) (hc : cs.length ≤ 256) (k : Int) : sh102 p [k] = some (if 0 ≤ k ∧ k < (cs.length : Int) then 0 else 2) := by
  unfold sh102
  rw [validPanel_eq p hb, hp, bindS]
  simp only [Bool.not_true, cond_false]
  rw [iter_all (xs := [k]) (p := fun x => decide (0 ≤ x ∧ x < (cs.length : Int))) (r := (2 : Int)) (by simp) (fun j hj => ?_) (by simp [sh102_1]), bindS]
  · by_cases h : 0 ≤ k ∧ k < (cs.length : Int)
    · rw [if_pos h]; simp [elimS, h]
    · rw [if_neg h]; simp [elimS, h]
  · have hj0 : j = 0 := by simpa using hj
    subst hj0
    have g : getI [k] ((0 : Nat) : Int) = some k := rfl
    have hd : decide (((0 : Nat) : Int) < (([k] : List Int).length : Int)) = true := rfl
    simp only [sh102_1, hd, cond_true, g, bindS, count_eq ht, sh136, List.getElem_cons_zero]
    rw [w64_id (x := (cs.length : Int) - 1) (by omega) (by omega), inB_dec, w64_id (by omega) (by omega)]
    by_cases h : 0 ≤ k ∧ k < (cs.length : Int) <;> simp [h]
theorem curveCode_bad {p : SPanel} (hb : p.Breaks.length ≤ 1048576) (hp : panelB p = false) (ks : List Int) : sh102 p ks = some 1 := by
  unfold sh102
  rw [validPanel_eq p hb, hp, bindS]; rfl
def unitB (u : Int) : Bool := decide (1 ≤ u) && decide (u ≤ 1000)
theorem l20Code_eq {p : SPanel} {ps : List (List SPoint)} {of : List Int} (hb : p.Breaks.length ≤ 1048576) (hp : panelB p = true) (ht : sh97 p = some (ps, of)) (hc : ps.length ≤ 256) (k u : Int) : sh101 p k u = some (if (0 ≤ k ∧ k < (ps.length : Int)) ∧ unitB u = true then (ps.getD k.toNat [], 0) else ([], 2)) := by
  unfold sh101 sh115
  rw [l02Ok_eq p hb, hp, bindS, ht]
  simp only [Bool.not_true, cond_false, bindS]
  rw [w64_id (x := ((ps.length : Nat) : Int) - 1) (by omega) (by omega), inB_dec]
  by_cases h : 0 ≤ k ∧ k < (ps.length : Int)
  · rw [decide_eq_true h]
    show Option.bind (bif !true then some true else some !(unitB u)) _ = _
    cases hu : unitB u
    · simp [bindS]
    · have hl : k.toNat < ps.length := by omega
      simp only [Bool.not_true, cond_false, bindS, getI_toNat h.1 hl]
      rw [if_pos ⟨h, by first | rfl | trivial⟩, List.getD_eq_getElem?_getD, List.getElem?_eq_getElem hl]
      rfl
  · rw [decide_eq_false h, if_neg (fun hh => h hh.1)]; rfl
theorem l20Code_bad {p : SPanel} (hb : p.Breaks.length ≤ 1048576) (hp : panelB p = false) (k u : Int) : sh101 p k u = some ([], 1) := by
  unfold sh101
  rw [l02Ok_eq p hb, hp, bindS]; rfl
def upt (u : Int) (a : SPoint) : SPoint := ⟨w64 (a.X * u), w64 (a.Y * u)⟩
theorem cyc_len {p : SPanel} {c : List SWalker} (h : Cyc p c) : 1 ≤ c.length ∧ c.length ≤ 256 := by
  obtain ⟨w0, n, _, h1, h2, _, rfl⟩ := h
  simp; omega
theorem getD_map_pts (cs : List (List SWalker)) (k : Nat) : (cs.map ptsOf).getD k [] = ptsOf (cs.getD k []) := by
  rw [List.getD_eq_getElem?_getD, List.getD_eq_getElem?_getD, List.getElem?_map]
  cases cs[k]? <;> rfl
theorem getD_mem3 {cs : List (List SWalker)} {k : Nat} (h : k < cs.length) : cs.getD k [] ∈ cs ∧ getI cs (k : Int) = some (cs.getD k []) := by
  rw [List.getD_eq_getElem?_getD, List.getElem?_eq_getElem h]
  exact ⟨List.getElem_mem h, getI_lt h⟩
theorem markPanel_eq (p : SPanel) (h : p.Breaks.length ≤ 1048576) : sh33 p 1 = some ((1 : Int) + p.Breaks.length, marksFrom 1 p.Breaks.length) := by
  unfold sh33
  rw [markI64_eq _ _ (by omega) (by omega) (by omega), bindS]

/-! mark_pointss -/
theorem iter_done' {σ ρ : Type} {sb : σ → Option (σ ⊕ ρ)} {s : σ} {x : ρ} (h : sb s = some (.inr x)) : iter sb s = some x := iter_steps (fun _ => s) 0 (by omega) (fun k hk => by omega) h
def totP : List (List SPoint) → Nat
  | [] => 0
  | r :: rs => r.length + totP rs
theorem totP_snoc : ∀ (rs : List (List SPoint)) (r : List SPoint), totP (rs ++ [r]) = totP rs + r.length
  | [], r => by simp [totP]
  | x :: xs, r => by rw [List.cons_append, totP, totP, totP_snoc xs r]; omega
theorem totP_bound {B : Nat} : ∀ {rs : List (List SPoint)}, (∀ r ∈ rs, r.length ≤ B) → totP rs ≤ B * rs.length
  | [], _ => by simp [totP]
  | x :: xs, h => by
    have h1 := h x (List.mem_cons_self ..)
    have h2 := totP_bound (fun r hr => h r (List.mem_cons_of_mem _ hr))
    rw [totP, List.length_cons, Nat.mul_succ]; omega
theorem totP_take : ∀ (rs : List (List SPoint)) (k : Nat), totP (rs.take k) ≤ totP rs
  | [], k => by simp [totP]
  | x :: xs, 0 => by simp [totP]
  | x :: xs, k + 1 => by have := totP_take xs k; rw [List.take_succ_cons, totP, totP]; omega
def markSSP : Int → List (List SPoint) → List (List SPoint)
  | _, [] => []
  | m, r :: rs => marksP m r.length :: markSSP (m + 2 * r.length) rs
theorem markSSP_snoc : ∀ (m : Int) (rs : List (List SPoint)) (r : List SPoint), markSSP m (rs ++ [r]) = markSSP m rs ++ [marksP (m + 2 * totP rs) r.length]
  | m, [], r => by simp [markSSP, totP]
  | m, x :: xs, r => by
    rw [List.cons_append, markSSP, markSSP, markSSP_snoc _ xs r, List.cons_append, totP, show m + 2 * (x.length : Int) + 2 * (totP xs : Int) = m + 2 * ((x.length + totP xs : Nat) : Int) by omega]
theorem markSSP_length : ∀ (m : Int) (rs : List (List SPoint)), (markSSP m rs).length = rs.length
  | m, [] => rfl
  | m, x :: xs => by rw [markSSP, List.length_cons, List.length_cons, markSSP_length]
theorem markSSP_get : ∀ (m : Int) (rs : List (List SPoint)) (k : Nat) (h : k < rs.length), (markSSP m rs)[k]'(by rw [markSSP_length]; exact h) = marksP (m + 2 * totP (rs.take k)) rs[k].length
  | m, x :: xs, 0, h => by simp [markSSP, totP]
  | m, x :: xs, k + 1, h => by
    simp only [markSSP, List.getElem_cons_succ]
    rw [markSSP_get _ xs k (by simpa using h), List.take_succ_cons, totP]
    congr 1
    omega
theorem markPointSS_eq (xs : List (List SPoint)) (m : Int) (h0 : 0 ≤ m) (h1 : m ≤ 1048576) (hl : xs.length ≤ 1048576) (ht : totP xs ≤ 1048576) : sh49 xs m = some (m + 2 * totP xs, markSSP m xs) := by
  unfold sh49
  have hi := iter_steps (sb := sh49_1 xs) (fun k => (m + 2 * (totP (xs.take k) : Int), (k : Int), markSSP m (xs.take k) ++ xs.drop k)) xs.length (x := (m + 2 * totP xs, markSSP m xs)) (by omega) (fun k hk => ?_) ?_
  · simp only [List.take_zero, List.drop_zero] at hi
    rw [show markSSP m [] ++ xs = xs from rfl, show (totP [] : Nat) = 0 from rfl] at hi
    simp only [Int.natCast_zero, Int.mul_zero, Int.add_zero] at hi
    rw [hi, bindS]
  · have h2 : (k : Int) < xs.length := by omega
    have hml : (markSSP m (xs.take k)).length = k := by rw [markSSP_length, List.length_take]; omega
    have hlk : k < (markSSP m (xs.take k) ++ xs.drop k).length := by rw [List.length_append, hml, List.length_drop]; omega
    have hg : (markSSP m (xs.take k) ++ xs.drop k)[k] = xs[k] := by
      rw [List.getElem_append_right (by omega)]
      simp [hml]
    have htk := totP_take xs k
    have htk2 : totP (xs.take (k + 1)) = totP (xs.take k) + xs[k].length := by rw [List.take_succ_eq_append_getElem hk, totP_snoc]
    have htk3 := totP_take xs (k + 1)
    simp only [sh49_1, h2, decide_true, cond_true, getI_lt hlk, hg, bindS, markPointS_eq xs[k] (m + 2 * (totP (xs.take k) : Int)) (by omega) (by omega) (by omega), Int.toNat_natCast]
    rw [w64_id (by omega) (by omega), List.set_append, if_neg (by omega), hml, Nat.sub_self, List.drop_eq_getElem_cons hk, List.set_cons_zero, htk2]
    rw [List.take_succ_eq_append_getElem hk, markSSP_snoc, List.append_assoc]
    simp only [Option.some.injEq, Sum.inl.injEq, Prod.mk.injEq]
    refine ⟨by omega, by omega, rfl⟩
  · have hd : decide ((xs.length : Int) < (xs.length : Int)) = false := by simp
    simp only [sh49_1, hd, cond_false, List.drop_length, List.append_nil, List.take_length]
theorem heldPointSS_eq (xs : List (List SPoint)) (m : Int) (h0 : 0 ≤ m) (h1 : m ≤ 1048576) (hl : xs.length ≤ 1048576) (ht : totP xs ≤ 1048576) : sh50 (markSSP m xs) m = some (m + 2 * totP xs) := by
  unfold sh50
  have hi := iter_steps (sb := sh50_1 (markSSP m xs)) (fun k => (m + 2 * (totP (xs.take k) : Int), (k : Int))) xs.length (x := .inl (m + 2 * totP xs)) (by omega) (fun k hk => ?_) ?_
  · simp only [List.take_zero] at hi
    rw [show (totP [] : Nat) = 0 from rfl] at hi
    simp only [Int.natCast_zero, Int.mul_zero, Int.add_zero] at hi
    rw [hi, bindS]
    rfl
  · have hlk : k < (markSSP m xs).length := by rw [markSSP_length]; exact hk
    have h2 : (k : Int) < (markSSP m xs).length := by omega
    have htk := totP_take xs k
    have htk2 : totP (xs.take (k + 1)) = totP (xs.take k) + xs[k].length := by rw [List.take_succ_eq_append_getElem hk, totP_snoc]
    have htk3 := totP_take xs (k + 1)
    simp only [sh50_1, h2, decide_true, cond_true, getI_lt hlk, markSSP_get m xs k hk, bindS, heldPointS_eq (m + 2 * (totP (xs.take k) : Int)) xs[k].length (by omega) (by omega) (by omega)]
    rw [decide_eq_false (by omega), cond_false, w64_id (by omega) (by omega), htk2]
    simp only [Option.some.injEq, Sum.inl.injEq, Prod.mk.injEq]
    refine ⟨by omega, by omega⟩
  · have hd : decide ((xs.length : Int) < ((markSSP m xs).length : Int)) = false := by rw [markSSP_length]; simp
    simp only [sh50_1, hd, cond_false, List.take_length]
theorem eqPointSS_refl (xs : List (List SPoint)) (hl : xs.length ≤ 1048576) (hx : ∀ r ∈ xs, r.length ≤ 1048576) : sh48 xs xs = some true := by
  unfold sh48
  rw [bne_self_eq_false, cond_false, iter_all (xs := xs) (p := fun _ => true) (r := false) (by omega) (fun k hk => ?_) (by simp [sh48_1]), bindS]
  · simp [elimS]
  · have h2 : (k : Int) < xs.length := by omega
    simp only [sh48_1, h2, decide_true, cond_true, getI_lt hk, bindS, eqPointS_eq xs[k] xs[k] (hx _ (List.getElem_mem hk)), decide_true, Bool.not_true, cond_false, if_true]
    rw [w64_id (by omega) (by omega)]

/-! bandof -/
/-- The piece of a band at a segment. -/
def bandP (u h : Int) (a b : SPoint) : List SPoint :=
  [⟨w64 (w64 (a.X * u) + w64 (w64 (0 - h) * w64 (b.Y - a.Y))), w64 (w64 (a.Y * u) + w64 (h * w64 (b.X - a.X)))⟩,
   ⟨w64 (w64 (b.X * u) + w64 (w64 (0 - h) * w64 (b.Y - a.Y))), w64 (w64 (b.Y * u) + w64 (h * w64 (b.X - a.X)))⟩,
   ⟨w64 (w64 (b.X * u) - w64 (w64 (0 - h) * w64 (b.Y - a.Y))), w64 (w64 (b.Y * u) - w64 (h * w64 (b.X - a.X)))⟩,
   ⟨w64 (w64 (a.X * u) - w64 (w64 (0 - h) * w64 (b.Y - a.Y))), w64 (w64 (a.Y * u) - w64 (h * w64 (b.X - a.X)))⟩]
def bandF (u h : Int) (ps : List SPoint) : List (List SPoint) := (List.range ps.length).map fun i => bandP u h (ps.getD i ⟨0, 0⟩) (ps.getD ((i + 1) % ps.length) ⟨0, 0⟩)
theorem bandF_len (u h : Int) (ps : List SPoint) : (bandF u h ps).length = ps.length := by simp [bandF]
theorem bandF_get (u h : Int) (ps : List SPoint) (k : Nat) (hk : k < (bandF u h ps).length) : (bandF u h ps)[k] = bandP u h (ps.getD k ⟨0, 0⟩) (ps.getD ((k + 1) % ps.length) ⟨0, 0⟩) := by simp [bandF]
theorem getI_getD {xs : List SPoint} {k : Nat} (h : k < xs.length) : getI xs (k : Int) = some (xs.getD k ⟨0, 0⟩) := by
  rw [getI_lt h, List.getD_eq_getElem?_getD, List.getElem?_eq_getElem h]; rfl
theorem band_spec (u h : Int) (x : List SPoint × Int) (h1 : 1 ≤ x.1.length) (h2 : x.1.length ≤ 256) : iter (sh46_1 u h x) (0, []) = some (bandF u h x.1) := by
  have hi := iter_steps (sb := sh46_1 u h x) (fun k => ((k : Int), (bandF u h x.1).take k)) x.1.length (x := bandF u h x.1) (by omega) (fun k hk => ?_) ?_
  · simpa using hi
  · have hk2 : (k : Int) < x.1.length := by omega
    have hkb : k < (bandF u h x.1).length := by rw [bandF_len]; exact hk
    have hm : (w64 ((k : Int) + 1)).tmod (x.1.length : Int) = (((k + 1) % x.1.length : Nat) : Int) := by
      rw [w64_id (by omega) (by omega), Int.tmod_eq_emod_of_nonneg (by omega), Int.natCast_emod]; rfl
    simp only [sh46_1, hk2, decide_true, cond_true, getI_getD hk, bindS, nzI_ok (show (x.1.length : Int) ≠ 0 by omega), hm, getI_getD (Nat.mod_lt (k + 1) (show 0 < x.1.length by omega))]
    rw [appL_ok (by simp only [List.length_take, List.length_cons, List.length_nil]; omega), bindS, w64_id (x := (k : Int) + 1) (by omega) (by omega), List.take_succ_eq_append_getElem hkb, bandF_get]
    rfl
  · have hd : decide ((x.1.length : Int) < (x.1.length : Int)) = false := by simp
    simp only [sh46_1, hd, cond_false]
    rw [List.take_of_length_le (by rw [bandF_len]; exact Nat.le_refl _)]
theorem cyc_next {p : SPanel} (hd : Dim p) {c : List SWalker} (hc : Cyc p c) (k : Nat) (hk : k < c.length) : okW p c[k] ∧ (ptsOf c).getD k ⟨0, 0⟩ = c[k].At ∧ (ptsOf c).getD ((k + 1) % c.length) ⟨0, 0⟩ = ⟨c[k].At.X + c[k].DX, c[k].At.Y + c[k].DY⟩ := by
  obtain ⟨w0, n, h0, h1, h2, h3, rfl⟩ := hc
  have hkn : k < n := by simpa using hk
  have hg : ((List.range n).map (orb p w0))[k] = orb p w0 k := by simp
  have hp : ∀ j, j < n → (ptsOf ((List.range n).map (orb p w0))).getD j ⟨0, 0⟩ = (orb p w0 j).At := fun j hj => by
    simp [ptsOf, List.getD_eq_getElem?_getD, hj]
  have hl : ((List.range n).map (orb p w0)).length = n := by simp
  rw [hg, hl, hp k hkn, hp _ (Nat.mod_lt _ (by omega))]
  refine ⟨orb_ok hd h0 k, rfl, ?_⟩
  by_cases hk1 : k + 1 = n
  · rw [hk1, Nat.mod_self]
    have e : orb p w0 0 = orb p w0 (k + 1) := by rw [hk1, h3]; rfl
    rw [e]; rfl
  · rw [Nat.mod_eq_of_lt (by omega)]; rfl
theorem band_impl {p : SPanel} (hd : Dim p) {c : List SWalker} (hc : Cyc p c) (u h : Int) : iter (sh47_1 u h c) (0, []) = some (bandF u h (ptsOf c)) := by
  have hcl := cyc_len hc
  have hpl : (ptsOf c).length = c.length := by simp [ptsOf]
  have hi := iter_steps (sb := sh47_1 u h c) (fun k => ((k : Int), (bandF u h (ptsOf c)).take k)) c.length (x := bandF u h (ptsOf c)) (by omega) (fun k hk => ?_) ?_
  · simpa using hi
  · have hk2 : (k : Int) < c.length := by omega
    have hkb : k < (bandF u h (ptsOf c)).length := by rw [bandF_len, hpl]; exact hk
    obtain ⟨hw, e1, e2⟩ := cyc_next hd hc k hk
    have hs := ok_small hd hw
    have ex : w64 (c[k].At.X + c[k].DX - c[k].At.X) = c[k].DX := by rw [w64_id (by omega) (by omega)]; omega
    have ey : w64 (c[k].At.Y + c[k].DY - c[k].At.Y) = c[k].DY := by rw [w64_id (by omega) (by omega)]; omega
    simp only [sh47_1, hk2, decide_true, cond_true, getI_lt hk, bindS, next_eq' hd hw]
    rw [appL_ok (by simp only [List.length_take, List.length_cons, List.length_nil]; omega), bindS, w64_id (x := (k : Int) + 1) (by omega) (by omega), List.take_succ_eq_append_getElem hkb, bandF_get, hpl, e1, e2]
    simp only [bandP, ex, ey]
    rfl
  · have hd : decide ((c.length : Int) < (c.length : Int)) = false := by simp
    simp only [sh47_1, hd, cond_false]
    rw [List.take_of_length_le (by rw [bandF_len, hpl]; exact Nat.le_refl _)]
theorem band_rows (u h : Int) (ps : List SPoint) : ∀ r ∈ bandF u h ps, r.length ≤ 4 := by
  intro r hr
  simp only [bandF, List.mem_map] at hr
  obtain ⟨i, _, rfl⟩ := hr
  exact Nat.le_refl _
theorem bandOf_total (p : SPanel) (k u h : Int) (hb : p.Breaks.length ≤ 1048576) : ∃ r, sh46 p k u h = some r ∧ sh47 p k u h = some r ∧ r.1.length ≤ 256 ∧ ∀ x ∈ r.1, x.length ≤ 4 := by
  unfold sh46 sh47
  cases hp : panelB p
  · rw [l20Code_bad hb hp, curveCode_bad hb hp]
    exact ⟨_, rfl, rfl, by simp, by simp⟩
  · obtain ⟨cs, of, h1, h2, ht⟩ := trace_eq p (dim_of hp)
    have hN := (NS_eq (dim_of hp)).2.1
    have hf := ht.few
    have hc : cs.length ≤ 256 := by omega
    rw [l20Code_eq hb hp h2 (by rw [List.length_map]; exact hc), curveCode_eq hb hp h1 hc, List.length_map]
    by_cases hk : 0 ≤ k ∧ k < (cs.length : Int)
    · obtain ⟨j, rfl⟩ : ∃ j : Nat, k = j := ⟨k.toNat, by omega⟩
      obtain ⟨m1, m2⟩ := getD_mem3 (cs := cs) (k := j) (by omega)
      have hl := cyc_len (ht.cyc _ m1)
      have ev : ∀ x, sh103 x = some (unitB x) := fun x => rfl
      have el : sh115 h 1 1000 = some (unitB h) := rfl
      rw [if_pos hk]
      simp only [bindS, bne_self_eq_false, cond_false, ev, el]
      cases hu : unitB u
      · rw [if_neg (by simp)]
        exact ⟨_, rfl, rfl, by simp, by simp⟩
      · rw [if_pos ⟨hk, rfl⟩, h1]
        cases hv : unitB h
        · exact ⟨_, rfl, rfl, by simp, by simp⟩
        · simp only [beq_self_eq_true, cond_true, Bool.not_true, cond_false, bindS, Bool.true_and]
          cases hw : decide (u < w64 (2 * h))
          · simp only [cond_false, bindS, bne_self_eq_false, m2, Int.toNat_natCast, getD_map_pts]
            rw [band_spec u h _ (by simp only [ptsOf, List.length_map]; exact hl.1) (by simp only [ptsOf, List.length_map]; exact hl.2), band_impl (dim_of hp) (ht.cyc _ m1)]
            exact ⟨_, rfl, rfl, by simp only [bandF_len, ptsOf, List.length_map]; exact hl.2, band_rows _ _ _⟩
          · exact ⟨_, rfl, rfl, by simp, by simp⟩
    · rw [if_neg hk, if_neg (fun h => hk h.1)]
      exact ⟨_, rfl, rfl, by simp, by simp⟩

/-! FnExactBandOf -/
theorem law10 (p : SPanel) (k u h : Int) (hk0 : okSPanel p) : sh10 p k u h = some true := by
  unfold sh10
  have hm : maxLen = 9223372036854775807 := rfl
  have hb := hk0.2.2.1
  rw [szPanel_eq p (by omega), bindS]
  by_cases hp : p.Breaks.length ≤ 1048576
  · obtain ⟨r, h1, h2, h3, h4⟩ := bandOf_total p k u h hp
    have ht : totP r.1 ≤ 4 * r.1.length := totP_bound h4
    have hd : decide ((1048576 : Int) - (p.Breaks.length : Int) < 0) = false := decide_eq_false (by omega)
    have m2 := markPointSS_eq r.1 1 (by omega) (by omega) (by omega) (by omega)
    have m3 := heldPointSS_eq r.1 1 (by omega) (by omega) (by omega) (by omega)
    have m4 := eqPointSS_refl r.1 (by omega) (fun x hx => by have := h4 x hx; omega)
    have n1 : decide ((1 : Int) + (p.Breaks.length : Int) < 0) = false := decide_eq_false (by omega)
    have n2 : decide ((1 : Int) + 2 * (totP r.1 : Int) < 0) = false := decide_eq_false (by omega)
    simp only [if_pos hp, hd, cond_false, toPanel_eq p hp, bindS, h1, h2, bne_self_eq_false, Bool.or_self, eqPanel_refl p hp, m4, Bool.not_true, markPanel_eq p hp, m2, m3, n1, n2]
  · rw [if_neg hp]; rfl
end Go.Sh
