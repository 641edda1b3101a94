/- Plain laws: what the shallow functions come to. -/
import Derived.Test.YtinipjijgggjkaaF13W4
set_option linter.unusedVariables false
set_option linter.unusedSimpArgs false
namespace Go.Sh
open Go Go.RowKit

/-! to_i64s -/

/-! eq_i64s -/

/-! mark_i64s -/
/-- The numbers that are laid into a result to see whether it is of one's own. -/
def marksFrom (m : Int) (n : Nat) : List Int := (List.range n).map fun (i : Nat) => m + (i : Int)
theorem marksFrom_length (m : Int) (n : Nat) : (marksFrom m n).length = n := by simp [marksFrom]
theorem marksFrom_get (m : Int) (n k : Nat) (h : k < n) : (marksFrom m n)[k]'(by rw [marksFrom_length]; exact h) = m + k := by simp [marksFrom]
theorem marksFrom_succ (m : Int) (k : Nat) : marksFrom m (k + 1) = marksFrom m k ++ [m + k] := by simp [marksFrom, List.range_succ]


/-! iters -/
theorem w64_lo (x : Int) : -9223372036854775808 ≤ w64 x := by
  have := IntKind.wrap_i64 x
  show _ ≤ IntKind.i64.wrap x
  omega
theorem w64_hi (x : Int) : w64 x ≤ 9223372036854775807 := by
  have := IntKind.wrap_i64 x
  show IntKind.i64.wrap x ≤ _
  omega
theorem getI_toNat {T : Type} {xs : List T} {i : Int} (h0 : 0 ≤ i) (h : i.toNat < xs.length) : getI xs i = some xs[i.toNat] := by
  unfold getI; rw [if_pos h0]; exact List.getElem?_eq_getElem h
theorem nzI_ok {a : Int} (h : a ≠ 0) : nzI a = some a := by simp [nzI, h]

/-- The loop that looks for the first element that passes. -/
theorem iter_find {T : Type} {sb : Int → Option (Int ⊕ (Unit ⊕ Int))} {xs : List T} {p : T → Bool} (hl : xs.length < 1099511627776)
    (hsb : ∀ (k : Nat) (h : k < xs.length), sb (k : Int) = if p xs[k] = true then some (.inr (.inr (k : Int))) else some (.inl ((k : Int) + 1))) (he : sb (xs.length : Int) = some (.inr (.inl ()))) :
    iter sb 0 = some (if xs.any p = true then .inr (xs.findIdx p : Int) else .inl ()) := by
  have h := iter_res (sb := sb) (fun k => (k : Int)) (fun k => if (xs.drop k).any p = true then (.inr (k + (xs.drop k).findIdx p : Nat) : Unit ⊕ Int) else .inl ()) xs.length (by omega) (fun k hk => ?_) (by
    rw [he, List.drop_of_length_le (Nat.le_refl _)]; simp)
  · simpa using h
  · rw [hsb k hk, List.drop_eq_getElem_cons hk]
    by_cases hx : p xs[k] = true
    · right
      rw [if_pos hx]
      simp only [List.any_cons, hx, Bool.true_or, if_true, List.findIdx_cons, cond_true, Nat.add_zero]
    · left
      rw [if_neg hx]
      refine ⟨by simp, ?_⟩
      have hx' : p xs[k] = false := by simpa using hx
      simp only [List.any_cons, hx', Bool.false_or, List.findIdx_cons, cond_false]
      split <;> simp
      omega

theorem iterN_congr {σ ρ : Type} {sb1 sb2 : σ → Option (σ ⊕ ρ)} (I : σ → Prop) (hs : ∀ s, I s → sb1 s = sb2 s ∧ ∀ s', sb2 s = some (.inl s') → I s') : ∀ (n : Nat) (s : σ), I s → iterN sb1 n s = iterN sb2 n s
  | 0, _, _ => rfl
  | n + 1, s, h => by
    obtain ⟨h1, h2⟩ := hs s h
    simp only [iterN, h1]
    cases hb : sb2 s with
    | none => rfl
    | some o =>
      cases o with
      | inl s' => exact iterN_congr I hs n s' (h2 s' hb)
      | inr x => rfl
/-- Two loops whose bodies agree where the invariant holds. -/
theorem iter_congr {σ ρ : Type} {sb1 sb2 : σ → Option (σ ⊕ ρ)} (I : σ → Prop) {s0 : σ} (h0 : I s0) (hs : ∀ s, I s → sb1 s = sb2 s ∧ ∀ s', sb2 s = some (.inl s') → I s') : iter sb1 s0 = iter sb2 s0 :=
  iterN_congr I hs FUEL s0 h0

/-- A loop over a list, as a fold. -/
theorem iter_fold {T σ S ρ : Type} {sb : S → Option (S ⊕ ρ)} (xs : List T) (st : Nat → σ → S) (g : σ → T → σ) (h : σ → ρ) (I : Nat → σ → Prop) (s0 : σ) (h0 : I 0 s0) (hl : xs.length < 1099511627776)
    (hsb : ∀ (k : Nat) (hk : k < xs.length) s, I k s → sb (st k s) = some (.inl (st (k + 1) (g s xs[k]))) ∧ I (k + 1) (g s xs[k])) (he : ∀ s, I xs.length s → sb (st xs.length s) = some (.inr (h s))) :
    iter sb (st 0 s0) = some (h (xs.foldl g s0)) ∧ I xs.length (xs.foldl g s0) := by
  have hI : ∀ k, k ≤ xs.length → I k ((xs.take k).foldl g s0) := by
    intro k
    induction k with
    | zero => intro _; simpa using h0
    | succ k ih =>
      intro hk
      rw [List.take_succ_eq_append_getElem (by omega), List.foldl_append]
      exact (hsb k (by omega) _ (ih (by omega))).2
  have hlast := hI xs.length (Nat.le_refl _)
  rw [List.take_length] at hlast
  refine ⟨?_, hlast⟩
  refine iter_steps (fun k => st k ((xs.take k).foldl g s0)) xs.length (by omega) (fun k hk => ?_) (by rw [List.take_length]; exact he _ hlast)
  rw [(hsb k hk _ (hI k (by omega))).1, List.take_succ_eq_append_getElem hk, List.foldl_append]
  rfl

/-- The greater one. -/
def mx (a b : Int) : Int := if a < b then b else a
def mn (a b : Int) : Int := if b < a then b else a
theorem mx_comm' (a b : Int) : (if b < a then a else b) = mx a b := by unfold mx; split <;> split <;> omega
theorem foldl_snoc {α β : Type} (f : α → β) : ∀ (xs : List α) (a : List β), xs.foldl (fun acc m => acc ++ [f m]) a = a ++ xs.map f
  | [], a => by simp
  | x :: xs, a => by rw [List.foldl_cons, foldl_snoc f xs]; simp

/-! panel -/
def brkB (k : Int) : Bool := decide (0 ≤ k) && decide (k ≤ 2)
def sideB (n : Int) : Bool := decide (1 ≤ n) && decide (n ≤ 8)
def innerN (w h : Int) : Int := w64 (w64 (w * w64 (h - 1)) + w64 (h * w64 (w - 1)))
def panelB (p : SPanel) : Bool := (sideB p.W && sideB p.H) && (((p.Breaks.length : Int) == innerN p.W p.H) && p.Breaks.all brkB)
theorem l02Ok_eq (p : SPanel) (h : p.Breaks.length ≤ 1048576) : sh82 p = some (panelB p) := by
  unfold sh82 panelB
  have hi : iter (sh82_1 p) 0 = some (if p.Breaks.all brkB = true then .inl () else .inr false) := iter_all (xs := p.Breaks) (by omega) (fun k hk => by
    have h2 : (k : Int) < p.Breaks.length := by omega
    simp only [sh82_1, sh127, h2, decide_true, cond_true, getI_lt hk, bindS]
    rw [w64_id (x := (k : Int) + 1) (by omega) (by omega)]
    unfold brkB
    cases decide (0 ≤ p.Breaks[k]) && decide (p.Breaks[k] ≤ 2) <;> rfl) (by simp [sh82_1])
  simp only [sh143, sh144, sh127, bindS, hi]
  show Option.bind (bif !(sideB p.W) then some true else some !(sideB p.H)) _ = _
  cases sideB p.W
  · rfl
  · cases sideB p.H
    · rfl
    · show (bif ((p.Breaks.length : Int) != innerN p.W p.H) then _ else _) = _
      simp only [bne]
      cases ((p.Breaks.length : Int) == innerN p.W p.H)
      · rfl
      · cases p.Breaks.all brkB <;> rfl
theorem validPanel_eq (p : SPanel) (h : p.Breaks.length ≤ 1048576) : sh86 p = some (panelB p) := by
  unfold sh86 panelB
  have hi : iter (sh86_1 p) 0 = some (if p.Breaks.all brkB = true then .inl () else .inr false) := iter_all (xs := p.Breaks) (by omega) (fun k hk => by
    have h2 : (k : Int) < p.Breaks.length := by omega
    simp only [sh86_1, sh148, sh125, h2, decide_true, cond_true, getI_lt hk, bindS]
    rw [w64_id (x := (k : Int) + 1) (by omega) (by omega)]
    unfold brkB
    cases decide (0 ≤ p.Breaks[k]) && decide (p.Breaks[k] ≤ 2) <;> rfl) (by simp [sh86_1])
  simp only [sh146, sh147, sh125, bindS, hi]
  show Option.bind (Option.bind (bif (sideB p.W) then some (sideB p.H) else some false) _) _ = _
  cases sideB p.W
  · rfl
  · cases sideB p.H
    · rfl
    · show (bif ((p.Breaks.length : Int) != innerN p.W p.H) then _ else _) = _
      simp only [bne]
      cases ((p.Breaks.length : Int) == innerN p.W p.H)
      · rfl
      · cases p.Breaks.all brkB <;> rfl
theorem panelB_facts {p : SPanel} (h : panelB p = true) : (1 ≤ p.W ∧ p.W ≤ 8) ∧ (1 ≤ p.H ∧ p.H ≤ 8) ∧ (p.Breaks.length : Int) = p.W * (p.H - 1) + p.H * (p.W - 1) ∧ (∀ k ∈ p.Breaks, 0 ≤ k ∧ k ≤ 2) ∧ p.Breaks.length ≤ 112 := by
  unfold panelB sideB brkB innerN at h
  simp only [Bool.and_eq_true, decide_eq_true_eq, List.all_eq_true, beq_iff_eq] at h
  obtain ⟨⟨⟨hw, hw2⟩, hh, hh2⟩, hl, ha⟩ := h
  have key : ∀ w : Int, 1 ≤ w → w ≤ 8 → ∀ k : Int, 1 ≤ k → k ≤ 8 → 0 ≤ w * (k - 1) ∧ w * (k - 1) ≤ 56 := by
    intro w h1 h2 k h3 h4
    have : 0 ≤ w * (k - 1) := Int.mul_nonneg (by omega) (by omega)
    have h5 : w * (k - 1) ≤ 8 * (k - 1) := Int.mul_le_mul_of_nonneg_right h2 (by omega)
    omega
  have k1 := key p.W hw hw2 p.H hh hh2
  have k2 := key p.H hh hh2 p.W hw hw2
  rw [w64_id (x := p.H - 1) (by omega) (by omega), w64_id (x := p.W - 1) (by omega) (by omega), w64_id (x := p.W * (p.H - 1)) (by omega) (by omega), w64_id (x := p.H * (p.W - 1)) (by omega) (by omega), w64_id (by omega) (by omega)] at hl
  exact ⟨⟨hw, hw2⟩, ⟨hh, hh2⟩, hl, ha, by omega⟩
def hasB (p : SPanel) (a : SPoint) : Bool := ((decide (0 ≤ a.X) && decide (a.X ≤ w64 (2 * p.W))) && (decide (0 ≤ a.Y) && decide (a.Y ≤ w64 (2 * p.H)))) && ((w64 (a.X + a.Y)).tmod 2 == 1)
def edgeB (p : SPanel) (a : SPoint) : Bool := (((a.X == 0) || (a.Y == 0)) || (a.X == w64 (2 * p.W))) || (a.Y == w64 (2 * p.H))
theorem l02Edge_eq (p : SPanel) (a : SPoint) : sh178 p a = some (edgeB p a) := rfl
theorem isBorder_eq (p : SPanel) (a : SPoint) : sh196 p a = some (edgeB p a) := by
  unfold sh196 edgeB
  cases (a.X == 0) <;> cases (a.Y == 0) <;> cases (a.X == w64 (2 * p.W)) <;> cases (a.Y == w64 (2 * p.H)) <;> rfl
def codeOf (p : SPanel) (a : SPoint) : Int := bif !panelB p then 1 else bif !hasB p a then 2 else bif edgeB p a then 6 else 0
theorem codeOf_cases (p : SPanel) (a : SPoint) : codeOf p a = 1 ∨ codeOf p a = 2 ∨ codeOf p a = 6 ∨ codeOf p a = 0 := by
  unfold codeOf
  cases panelB p <;> cases hasB p a <;> cases edgeB p a <;> simp

/-! walkers -/
/-- A walker that fits into a panel. -/
def okW (p : SPanel) (w : SWalker) : Prop := (w.DX = 1 ∨ w.DX = -1) ∧ (w.DY = 1 ∨ w.DY = -1) ∧ (0 ≤ w.At.X ∧ w.At.X ≤ 2 * p.W) ∧ (0 ≤ w.At.Y ∧ w.At.Y ≤ 2 * p.H) ∧ (w.At.X + w.At.Y) % 2 = 1 ∧ (0 ≤ w.At.X + w.DX ∧ w.At.X + w.DX ≤ 2 * p.W) ∧ (0 ≤ w.At.Y + w.DY ∧ w.At.Y + w.DY ≤ 2 * p.H)
structure Dim (p : SPanel) : Prop where
  w1 : 1 ≤ p.W
  w2 : p.W ≤ 8
  h1 : 1 ≤ p.H
  h2 : p.H ≤ 8
  bl : (p.Breaks.length : Int) = p.W * (p.H - 1) + p.H * (p.W - 1)
theorem dim_of {p : SPanel} (h : panelB p = true) : Dim p := let ⟨h1, h2, h3, _⟩ := panelB_facts h; ⟨h1.1, h1.2, h2.1, h2.2, h3⟩
theorem eight {n : Int} (h1 : 1 ≤ n) (h2 : n ≤ 8) : n = 1 ∨ n = 2 ∨ n = 3 ∨ n = 4 ∨ n = 5 ∨ n = 6 ∨ n = 7 ∨ n = 8 := by omega
def numF (p : SPanel) (x y : Int) : Int := (y - 1) * p.W - y / 2 + (x - 1) / 2
def brkF (p : SPanel) (x y : Int) : Int := if x = 0 ∨ x = 2 * p.W ∨ y = 0 ∨ y = 2 * p.H then 0 else p.Breaks.getD (numF p x y).toNat 0
def stp (p : SPanel) (w : SWalker) : SWalker := ⟨⟨w.At.X + w.DX, w.At.Y + w.DY⟩, if w.At.X + w.DX = 0 ∨ w.At.X + w.DX = 2 * p.W ∨ brkF p (w.At.X + w.DX) (w.At.Y + w.DY) = 1 then 0 - w.DX else w.DX, if w.At.Y + w.DY = 0 ∨ w.At.Y + w.DY = 2 * p.H ∨ brkF p (w.At.X + w.DX) (w.At.Y + w.DY) = 2 then 0 - w.DY else w.DY⟩
def bck (w : SWalker) : SWalker := ⟨⟨w.At.X + w.DX, w.At.Y + w.DY⟩, 0 - w.DX, 0 - w.DY⟩
def sgF (p : SPanel) (w : SWalker) : Int := (if w.DX = 1 then w.At.X else w.At.X - 1) * (2 * p.H) + (if w.DY = 1 then w.At.Y else w.At.Y - 1)
theorem brk_edge {p : SPanel} {x y : Int} (h : x = 0 ∨ x = 2 * p.W ∨ y = 0 ∨ y = 2 * p.H) : brkF p x y = 0 := if_pos h
theorem stp_ok {p : SPanel} {w : SWalker} (hd : Dim p) (h : okW p w) : okW p (stp p w) := by
  obtain ⟨w1, w2, h1, h2, bl⟩ := hd
  clear bl
  obtain ⟨⟨X, Y⟩, DX, DY⟩ := w
  obtain ⟨a1, a2, ⟨a3, a4⟩, ⟨a5, a6⟩, a7, ⟨a8, a9⟩, a10, a11⟩ := h
  simp only at a1 a2 a3 a4 a5 a6 a7 a8 a9 a10 a11
  unfold okW stp
  simp only
  generalize brkF p (X + DX) (Y + DY) = k
  rcases a1 with rfl | rfl <;> rcases a2 with rfl | rfl <;> (refine ⟨?_, ?_, ⟨?_, ?_⟩, ⟨?_, ?_⟩, ?_, ⟨?_, ?_⟩, ⟨?_, ?_⟩⟩ <;> (try split) <;> omega)
theorem bck_ok {p : SPanel} {w : SWalker} (h : okW p w) : okW p (bck w) := by
  obtain ⟨⟨X, Y⟩, DX, DY⟩ := w
  obtain ⟨a1, a2, ⟨a3, a4⟩, ⟨a5, a6⟩, a7, ⟨a8, a9⟩, a10, a11⟩ := h
  simp only at a1 a2 a3 a4 a5 a6 a7 a8 a9 a10 a11
  unfold okW bck
  simp only
  rcases a1 with rfl | rfl <;> rcases a2 with rfl | rfl <;> (refine ⟨?_, ?_, ⟨?_, ?_⟩, ⟨?_, ?_⟩, ?_, ⟨?_, ?_⟩, ⟨?_, ?_⟩⟩ <;> omega)
theorem walker_ext {a b : SWalker} (h1 : a.At.X = b.At.X) (h2 : a.At.Y = b.At.Y) (h3 : a.DX = b.DX) (h4 : a.DY = b.DY) : a = b := by
  obtain ⟨⟨ax, ay⟩, ad, ae⟩ := a
  obtain ⟨⟨bx, by'⟩, bd, be⟩ := b
  simp only at h1 h2 h3 h4
  subst h1; subst h2; subst h3; subst h4
  rfl
theorem bck_bck (w : SWalker) : bck (bck w) = w := by
  apply walker_ext <;> simp only [bck] <;> omega
theorem stp_back (p : SPanel) (w : SWalker) : stp p (bck (stp p w)) = bck w := by
  have e : ∀ a d : Int, a + d + (0 - d) = a := fun a d => by omega
  have hx : (bck (stp p w)).At.X + (bck (stp p w)).DX = w.At.X + w.DX := by simp only [bck, stp]; omega
  have hy : (bck (stp p w)).At.Y + (bck (stp p w)).DY = w.At.Y + w.DY := by simp only [bck, stp]; omega
  apply walker_ext
  · exact hx
  · exact hy
  · show (if (bck (stp p w)).At.X + (bck (stp p w)).DX = 0 ∨ (bck (stp p w)).At.X + (bck (stp p w)).DX = 2 * p.W ∨ brkF p ((bck (stp p w)).At.X + (bck (stp p w)).DX) ((bck (stp p w)).At.Y + (bck (stp p w)).DY) = 1 then 0 - (bck (stp p w)).DX else (bck (stp p w)).DX) = 0 - w.DX
    rw [hx, hy]
    simp only [bck, stp]
    split <;> omega
  · show (if (bck (stp p w)).At.Y + (bck (stp p w)).DY = 0 ∨ (bck (stp p w)).At.Y + (bck (stp p w)).DY = 2 * p.H ∨ brkF p ((bck (stp p w)).At.X + (bck (stp p w)).DX) ((bck (stp p w)).At.Y + (bck (stp p w)).DY) = 2 then 0 - (bck (stp p w)).DY else (bck (stp p w)).DY) = 0 - w.DY
    rw [hx, hy]
    simp only [bck, stp]
    split <;> omega
theorem stp_inj {p : SPanel} {a b : SWalker} (h : stp p a = stp p b) : a = b := by
  have h1 := stp_back p a
  rw [h, stp_back p b] at h1
  rw [← bck_bck a, ← h1, bck_bck]
theorem bck_ne {p : SPanel} {w : SWalker} (h : okW p w) : bck w ≠ w := by
  intro e
  have := congrArg (fun w : SWalker => w.At.X) e
  simp only [bck] at this
  rcases h.1 with a | a <;> omega
theorem stp_ne_bck {p : SPanel} {w : SWalker} (h : okW p w) : stp p w ≠ bck w := by
  intro e
  have e1 := congrArg (fun w : SWalker => w.DX) e
  have e2 := congrArg (fun w : SWalker => w.DY) e
  obtain ⟨⟨X, Y⟩, DX, DY⟩ := w
  obtain ⟨a1, a2, ⟨a3, a4⟩, ⟨a5, a6⟩, a7, ⟨a8, a9⟩, a10, a11⟩ := h
  simp only [bck, stp] at e1 e2 a1 a2 a3 a4 a5 a6 a7 a8 a9 a10 a11
  have hk : X + DX = 0 ∨ X + DX = 2 * p.W ∨ Y + DY = 0 ∨ Y + DY = 2 * p.H → brkF p (X + DX) (Y + DY) = 0 := brk_edge
  generalize brkF p (X + DX) (Y + DY) = k at e1 e2 hk
  rcases a1 with rfl | rfl <;> rcases a2 with rfl | rfl <;> split at e1 <;> split at e2 <;> omega
theorem sg_bck {p : SPanel} {w : SWalker} (h : okW p w) : sgF p (bck w) = sgF p w := by
  obtain ⟨⟨X, Y⟩, DX, DY⟩ := w
  obtain ⟨a1, a2, _⟩ := h
  simp only at a1 a2
  have ex : (if (0 : Int) - DX = 1 then X + DX else X + DX - 1) = (if DX = 1 then X else X - 1) := by rcases a1 with rfl | rfl <;> split <;> (try split) <;> omega
  have ey : (if (0 : Int) - DY = 1 then Y + DY else Y + DY - 1) = (if DY = 1 then Y else Y - 1) := by rcases a2 with rfl | rfl <;> split <;> (try split) <;> omega
  unfold sgF bck
  simp only
  rw [ex, ey]
theorem sg_bd {p : SPanel} {w : SWalker} (hd : Dim p) (h : okW p w) : 0 ≤ sgF p w ∧ sgF p w < 4 * p.W * p.H := by
  obtain ⟨w1, w2, h1, h2, bl⟩ := hd
  clear bl
  obtain ⟨a1, a2, ⟨a3, a4⟩, ⟨a5, a6⟩, a7, ⟨a8, a9⟩, a10, a11⟩ := h
  unfold sgF
  have key : ∀ a b : Int, 0 ≤ a → a + 1 ≤ 2 * p.W → 0 ≤ b → b + 1 ≤ 2 * p.H → 0 ≤ a * (2 * p.H) + b ∧ a * (2 * p.H) + b < 4 * p.W * p.H := by
    intro a b ha hb hc hd
    clear a1 a2 a3 a4 a5 a6 a7 a8 a9 a10 a11
    generalize p.H = H at *
    generalize p.W = W at *
    rcases eight h1 h2 with e | e | e | e | e | e | e | e <;> subst e <;> omega
  refine key _ _ ?_ ?_ ?_ ?_ <;> split <;> omega
theorem sg_same {p : SPanel} {v w : SWalker} (hd : Dim p) (hv : okW p v) (hw : okW p w) (h : sgF p v = sgF p w) : v = w ∨ v = bck w := by
  obtain ⟨w1, w2, h1, h2, bl⟩ := hd
  clear bl
  obtain ⟨a1, a2, ⟨a3, a4⟩, ⟨a5, a6⟩, a7, ⟨a8, a9⟩, a10, a11⟩ := hv
  obtain ⟨b1, b2, ⟨b3, b4⟩, ⟨b5, b6⟩, b7, ⟨b8, b9⟩, b10, b11⟩ := hw
  have key : ∀ a b c d : Int, 0 ≤ b → b + 1 ≤ 2 * p.H → 0 ≤ d → d + 1 ≤ 2 * p.H → a * (2 * p.H) + b = c * (2 * p.H) + d → a = c ∧ b = d := by
    intro a b c d hb hb2 hd hd2 he
    clear a1 a2 a3 a4 a5 a6 a7 a8 a9 a10 a11 b1 b2 b3 b4 b5 b6 b7 b8 b9 b10 b11 h
    generalize p.H = H at *
    rcases eight h1 h2 with e | e | e | e | e | e | e | e <;> subst e <;> omega
  unfold sgF at h
  obtain ⟨e1, e2⟩ := key _ _ _ _ (by split <;> omega) (by split <;> omega) (by split <;> omega) (by split <;> omega) h
  obtain ⟨⟨VX, VY⟩, VD, VE⟩ := v
  obtain ⟨⟨X, Y⟩, DX, DY⟩ := w
  simp only at a1 a2 a3 a4 a5 a6 a7 a8 a9 a10 a11 b1 b2 b3 b4 b5 b6 b7 b8 b9 b10 b11 e1 e2
  clear h h1 h2 w1 w2 key a3 a4 a5 a6 a8 a9 a10 a11 b3 b4 b5 b6 b8 b9 b10 b11
  rcases a1 with rfl | rfl <;> rcases b1 with rfl | rfl <;> rcases a2 with rfl | rfl <;> rcases b2 with rfl | rfl <;> simp only [show ¬ ((-1 : Int) = 1) by omega, if_true, if_false] at e1 e2 <;>
    first
    | (exfalso; omega)
    | (left; apply walker_ext <;> simp only <;> omega)
    | (right; apply walker_ext <;> simp only [bck] <;> omega)
/-- The walker of a segment. -/
def wlk (p : SPanel) (k : Int) : SWalker := if (k / (2 * p.H) + k % (2 * p.H)) % 2 = 1 then ⟨⟨k / (2 * p.H), k % (2 * p.H)⟩, 1, 1⟩ else ⟨⟨k / (2 * p.H), k % (2 * p.H) + 1⟩, 1, -1⟩
theorem wlk_ok {p : SPanel} (hd : Dim p) {k : Int} (h0 : 0 ≤ k) (h1 : k < 4 * p.W * p.H) : okW p (wlk p k) ∧ sgF p (wlk p k) = k := by
  obtain ⟨w1, w2, g1, g2, bl⟩ := hd
  clear bl
  have e1 : 0 ≤ k / (2 * p.H) ∧ k / (2 * p.H) + 1 ≤ 2 * p.W ∧ 0 ≤ k % (2 * p.H) ∧ k % (2 * p.H) + 1 ≤ 2 * p.H ∧ k / (2 * p.H) * (2 * p.H) + k % (2 * p.H) = k := by
    generalize p.H = H at *
    generalize p.W = W at *
    rcases eight g1 g2 with e | e | e | e | e | e | e | e <;> subst e <;> omega
  obtain ⟨e1, e2, e3, e4, e5⟩ := e1
  unfold wlk
  generalize k / (2 * p.H) = a at *
  generalize k % (2 * p.H) = b at *
  split
  · refine ⟨⟨.inl rfl, .inl rfl, ⟨?_, ?_⟩, ⟨?_, ?_⟩, ?_, ⟨?_, ?_⟩, ⟨?_, ?_⟩⟩, ?_⟩ <;> simp only [sgF, if_true] <;> omega
  · refine ⟨⟨.inl rfl, .inr rfl, ⟨?_, ?_⟩, ⟨?_, ?_⟩, ?_, ⟨?_, ?_⟩, ⟨?_, ?_⟩⟩, ?_⟩ <;> simp only [sgF, if_true, show ¬ ((-1 : Int) = 1) by omega, if_false] <;> omega

/-! steps -/
theorem ok_small {p : SPanel} {w : SWalker} (hd : Dim p) (h : okW p w) : (0 ≤ w.At.X ∧ w.At.X ≤ 16) ∧ (0 ≤ w.At.Y ∧ w.At.Y ≤ 16) ∧ (0 ≤ w.At.X + w.DX ∧ w.At.X + w.DX ≤ 16) ∧ (0 ≤ w.At.Y + w.DY ∧ w.At.Y + w.DY ≤ 16) := by
  obtain ⟨w1, w2, h1, h2, bl⟩ := hd
  clear bl
  obtain ⟨a1, a2, ⟨a3, a4⟩, ⟨a5, a6⟩, a7, ⟨a8, a9⟩, a10, a11⟩ := h
  omega
theorem next_eq' {p : SPanel} {w : SWalker} (hd : Dim p) (h : okW p w) : sh195 w = some ⟨w.At.X + w.DX, w.At.Y + w.DY⟩ := by
  obtain ⟨b1, b2, b3, b4⟩ := ok_small hd h
  unfold sh195
  rw [w64_id (by omega) (by omega), w64_id (by omega) (by omega)]
theorem l03Next_eq {p : SPanel} {w : SWalker} (hd : Dim p) (h : okW p w) : sh199 w = some ⟨w.At.X + w.DX, w.At.Y + w.DY⟩ := by
  obtain ⟨b1, b2, b3, b4⟩ := ok_small hd h
  unfold sh199
  rw [w64_id (by omega) (by omega), w64_id (by omega) (by omega)]
theorem mul_small {a H : Int} (h1 : 1 ≤ H) (h2 : H ≤ 8) (ha : 0 ≤ a) (ha2 : a ≤ 40) : 0 ≤ a * H ∧ a * H ≤ 320 := by
  rcases eight h1 h2 with e | e | e | e | e | e | e | e <;> subst e <;> omega
theorem seg_impl {p : SPanel} {w : SWalker} (hd : Dim p) (h : okW p w) : sh168 p w = some (sgF p w) := by
  obtain ⟨b1, b2, b3, b4⟩ := ok_small hd h
  have hn := next_eq' hd h
  unfold sh168
  rw [hn, bindS]
  simp only
  have ex : (if w.At.X + w.DX < w.At.X then w.At.X + w.DX else w.At.X) = (if w.DX = 1 then w.At.X else w.At.X - 1) := by
    rcases h.1 with a | a <;> rw [a] <;> split <;> (try split) <;> omega
  have ey : (if w.At.Y + w.DY < w.At.Y then w.At.Y + w.DY else w.At.Y) = (if w.DY = 1 then w.At.Y else w.At.Y - 1) := by
    rcases h.2.1 with a | a <;> rw [a] <;> split <;> (try split) <;> omega
  have bx : 0 ≤ (if w.DX = 1 then w.At.X else w.At.X - 1) ∧ (if w.DX = 1 then w.At.X else w.At.X - 1) ≤ 16 := by
    rcases h.1 with a | a <;> rw [a] at b3 ⊢ <;> split <;> omega
  have by' : 0 ≤ (if w.DY = 1 then w.At.Y else w.At.Y - 1) ∧ (if w.DY = 1 then w.At.Y else w.At.Y - 1) ≤ 16 := by
    rcases h.2.1 with a | a <;> rw [a] at b4 ⊢ <;> split <;> omega
  rw [ex, ey]
  unfold sgF
  generalize (if w.DX = 1 then w.At.X else w.At.X - 1) = a at *
  generalize (if w.DY = 1 then w.At.Y else w.At.Y - 1) = b at *
  have hm := mul_small (a := a * 2) hd.h1 hd.h2 (by omega) (by omega)
  rw [w64_id (x := a * 2) (by omega) (by omega), w64_id (x := a * 2 * p.H) (by omega) (by omega), w64_id (by omega) (by omega), Int.mul_assoc]
theorem seg_spec {p : SPanel} {w : SWalker} (hd : Dim p) (h : okW p w) : sh117 p w = some (sgF p w) := by
  obtain ⟨b1, b2, b3, b4⟩ := ok_small hd h
  have hn := l03Next_eq hd h
  unfold sh117 sh172
  rw [hn, bindS]
  unfold sgF
  rcases h.1 with a | a <;> rcases h.2.1 with b | b
  · rw [a, b]
    simp only [beq_self_eq_true, cond_true, bindS, if_true]
    have hm := mul_small (a := w.At.X * 2) hd.h1 hd.h2 (by omega) (by omega)
    rw [decide_eq_true (by omega), cond_true, bindS, w64_id (x := w.At.X * 2) (by omega) (by omega), w64_id (x := w.At.X * 2 * p.H) (by omega) (by omega), w64_id (x := w.At.X * 2 * p.H + w.At.Y) (by omega) (by omega), w64_id (x := w.At.X * 2 * p.H + w.At.Y - 1) (by omega) (by omega), w64_id (by omega) (by omega), Int.mul_assoc]
    congr 1; omega
  · rw [b] at b4
    rw [a, b]
    simp only [beq_self_eq_true, cond_true, bindS, if_true, show ¬ ((-1 : Int) = 1) by omega, if_false]
    have hm := mul_small (a := w.At.X * 2) hd.h1 hd.h2 (by omega) (by omega)
    rw [decide_eq_false (by omega), cond_false, bindS, w64_id (x := w.At.X * 2) (by omega) (by omega), w64_id (x := w.At.X * 2 * p.H) (by omega) (by omega), w64_id (x := w.At.X * 2 * p.H + w.At.Y) (by omega) (by omega), w64_id (by omega) (by omega), Int.mul_assoc]
    congr 1; omega
  · rw [a] at b3
    rw [a, b]
    simp only [show ((-1 : Int) == 1) = false from rfl, cond_false, bindS, if_true, show ¬ ((-1 : Int) = 1) by omega, if_false]
    have hm := mul_small (a := (w.At.X + -1) * 2) hd.h1 hd.h2 (by omega) (by omega)
    rw [decide_eq_false (by omega), cond_false, bindS, w64_id (x := (w.At.X + -1) * 2) (by omega) (by omega), w64_id (x := (w.At.X + -1) * 2 * p.H) (by omega) (by omega), w64_id (x := (w.At.X + -1) * 2 * p.H + (w.At.Y + 1)) (by omega) (by omega), w64_id (by omega) (by omega), Int.mul_assoc, show w.At.X + -1 = w.At.X - 1 by omega]
    congr 1; omega
  · rw [a] at b3
    rw [b] at b4
    rw [a, b]
    simp only [show ((-1 : Int) == 1) = false from rfl, cond_false, bindS, show ¬ ((-1 : Int) = 1) by omega, if_false]
    have hm := mul_small (a := (w.At.X + -1) * 2) hd.h1 hd.h2 (by omega) (by omega)
    rw [decide_eq_true (by omega), cond_true, bindS, w64_id (x := (w.At.X + -1) * 2) (by omega) (by omega), w64_id (x := (w.At.X + -1) * 2 * p.H) (by omega) (by omega), w64_id (x := (w.At.X + -1) * 2 * p.H + (w.At.Y + -1)) (by omega) (by omega), w64_id (x := (w.At.X + -1) * 2 * p.H + (w.At.Y + -1) - 1) (by omega) (by omega), w64_id (by omega) (by omega), Int.mul_assoc, show w.At.X + -1 = w.At.X - 1 by omega]
    congr 1; omega
/-- An inner point. -/
def inr (p : SPanel) (x y : Int) : Prop := (1 ≤ x ∧ x ≤ 2 * p.W - 1) ∧ (1 ≤ y ∧ y ≤ 2 * p.H - 1) ∧ (x + y) % 2 = 1
theorem num_bd {p : SPanel} (hd : Dim p) {x y : Int} (h : inr p x y) : 0 ≤ numF p x y ∧ numF p x y < p.Breaks.length := by
  obtain ⟨w1, w2, h1, h2, bl⟩ := hd
  obtain ⟨⟨a1, a2⟩, ⟨a3, a4⟩, a5⟩ := h
  rw [bl]
  unfold numF
  clear bl
  generalize p.W = W at *
  generalize p.H = H at *
  rcases eight w1 w2 with e | e | e | e | e | e | e | e <;> subst e <;> constructor <;> omega
theorem number_impl {p : SPanel} (hd : Dim p) {x y : Int} (h : inr p x y) : sh197 p ⟨x, y⟩ = some (numF p x y) := by
  have hb := num_bd hd h
  obtain ⟨w1, w2, h1, h2, bl⟩ := hd
  obtain ⟨⟨a1, a2⟩, ⟨a3, a4⟩, a5⟩ := h
  clear bl hb
  unfold sh197 numF
  simp only
  generalize p.W = W at *
  generalize p.H = H at *
  have e1 : y.tdiv 2 = y / 2 := Int.tdiv_eq_ediv_of_nonneg (by omega)
  have e2 : w64 (y - 1) = y - 1 := w64_id (by omega) (by omega)
  have e3 : (y - 1).tdiv 2 = (y - 1) / 2 := Int.tdiv_eq_ediv_of_nonneg (by omega)
  have e4 : x.tdiv 2 = x / 2 := Int.tdiv_eq_ediv_of_nonneg (by omega)
  have e5 : w64 (W - 1) = W - 1 := w64_id (by omega) (by omega)
  have e6 : y.tmod 2 = y % 2 := Int.tmod_eq_emod_of_nonneg (by omega)
  have m1 : 0 ≤ y / 2 * (W - 1) ∧ y / 2 * (W - 1) ≤ 320 := by
    rcases eight w1 w2 with e | e | e | e | e | e | e | e <;> subst e <;> omega
  have m2 : 0 ≤ (y - 1) / 2 * W ∧ (y - 1) / 2 * W ≤ 320 := by
    rcases eight w1 w2 with e | e | e | e | e | e | e | e <;> subst e <;> omega
  rw [e1, e2, e3, e4, e5, e6, w64_id (x := y / 2) (by omega) (by omega), w64_id (x := (y - 1) / 2) (by omega) (by omega), w64_id (x := x / 2) (by omega) (by omega), w64_id (x := y / 2 * (W - 1)) (by omega) (by omega), w64_id (x := (y - 1) / 2 * W) (by omega) (by omega), w64_id (x := y / 2 * (W - 1) + (y - 1) / 2 * W) (by omega) (by omega), w64_id (x := y / 2 * (W - 1) + (y - 1) / 2 * W + x / 2) (by omega) (by omega), w64_id (x := y / 2 * (W - 1) + (y - 1) / 2 * W + x / 2 - 1) (by omega) (by omega)]
  by_cases hy : y % 2 = 1
  · rw [beq_iff_eq.2 hy, cond_true]
    congr 1
    rcases eight w1 w2 with e | e | e | e | e | e | e | e <;> subst e <;> omega
  · rw [beq_eq_false_iff_ne.2 hy, cond_false]
    congr 1
    rcases eight w1 w2 with e | e | e | e | e | e | e | e <;> subst e <;> omega
theorem row_spec {p : SPanel} (hd : Dim p) {y : Int} (h0 : 1 ≤ y) (h1 : y ≤ 16) : sh182 p y = some ((y - 1) * p.W - y / 2) := by
  obtain ⟨w1, w2, _, _, bl⟩ := hd
  clear bl
  unfold sh182
  obtain ⟨n, hn⟩ : ∃ n : Nat, y = n + 1 := ⟨(y - 1).toNat, by omega⟩
  have hi := iter_steps (sb := sh182_1 p y) (fun k => ((k : Int) * p.W - ((k : Int) + 1) / 2, (k : Int) + 1)) n (x := (y - 1) * p.W - y / 2) (by omega) (fun k hk => ?_) ?_
  · simp only [Int.natCast_zero, Int.zero_mul] at hi
    rw [show (0 : Int) - (0 + 1) / 2 = 0 by omega, show (0 : Int) + 1 = 1 by omega] at hi
    rw [hi, bindS]
  · have h2 : (k : Int) + 1 < y := by omega
    have hm : 0 ≤ (k : Int) * p.W ∧ (k : Int) * p.W ≤ 320 := by have := mul_small (a := (k : Int)) w1 w2 (by omega) (by omega); exact this
    have e6 : ((k : Int) + 1).tmod 2 = ((k : Int) + 1) % 2 := Int.tmod_eq_emod_of_nonneg (by omega)
    have hms : ((k + 1 : Nat) : Int) * p.W = (k : Int) * p.W + p.W := by rw [Int.natCast_add, Int.add_mul]; simp
    simp only [sh182_1, h2, decide_true, cond_true, e6]
    rw [hms]
    generalize (k : Int) * p.W = m at *
    rw [w64_id (x := m - ((k : Int) + 1) / 2 + p.W) (by omega) (by omega), w64_id (x := (k : Int) + 1 + 1) (by omega) (by omega), w64_id (x := m - ((k : Int) + 1) / 2 + p.W - 1) (by omega) (by omega)]
    by_cases hy : ((k : Int) + 1) % 2 = 1
    · rw [beq_iff_eq.2 hy, cond_true, bindS]
      simp only [Option.some.injEq, Sum.inl.injEq, Prod.mk.injEq]
      refine ⟨by omega, by omega⟩
    · rw [beq_eq_false_iff_ne.2 hy, cond_false, bindS]
      simp only [Option.some.injEq, Sum.inl.injEq, Prod.mk.injEq]
      refine ⟨by omega, by omega⟩
  · have hd : decide ((n : Int) + 1 < y) = false := decide_eq_false (by omega)
    simp only [sh182_1, hd, cond_false]
    rw [hn, show (n : Int) + 1 - 1 = (n : Int) by omega]
theorem number_spec {p : SPanel} (hd : Dim p) {x y : Int} (h : inr p x y) : sh179 p ⟨x, y⟩ = some (numF p x y) := by
  have hb := num_bd hd h
  have hd' := hd
  obtain ⟨w1, w2, h1, h2, bl⟩ := hd
  obtain ⟨⟨a1, a2⟩, ⟨a3, a4⟩, a5⟩ := h
  unfold sh179
  rw [show (SPoint.mk x y).Y = y from rfl, show (SPoint.mk x y).X = x from rfl, row_spec hd' (by omega) (by omega), bindS, w64_id (x := x - 1) (by omega) (by omega), Int.tdiv_eq_ediv_of_nonneg (by omega), w64_id (x := (x - 1) / 2) (by omega) (by omega)]
  have hm := mul_small (a := y - 1) w1 w2 (by omega) (by omega)
  unfold numF
  rw [w64_id (by omega) (by omega)]
theorem inner_of {p : SPanel} {w : SWalker} (h : okW p w) (he : ¬ (w.At.X + w.DX = 0 ∨ w.At.X + w.DX = 2 * p.W ∨ w.At.Y + w.DY = 0 ∨ w.At.Y + w.DY = 2 * p.H)) : inr p (w.At.X + w.DX) (w.At.Y + w.DY) := by
  obtain ⟨a1, a2, ⟨a3, a4⟩, ⟨a5, a6⟩, a7, ⟨a8, a9⟩, a10, a11⟩ := h
  refine ⟨⟨by omega, by omega⟩, ⟨by omega, by omega⟩, ?_⟩
  rcases a1 with a1 | a1 <;> rcases a2 with a2 | a2 <;> omega
theorem beq_dec (a b : Int) : (a == b) = decide (a = b) := by
  by_cases h : a = b
  · subst h; simp
  · rw [beq_eq_false_iff_ne.2 h, decide_eq_false h]
theorem ite_flip {c : Prop} [Decidable c] {α : Type} {a b : α} : (bif decide c then some a else some b) = some (if c then a else b) := by
  by_cases h : c <;> simp [h]
theorem step_impl {p : SPanel} {w : SWalker} (hd : Dim p) (h : okW p w) : ∃ t, sh169 p w = some (stp p w, t) := by
  obtain ⟨b1, b2, b3, b4⟩ := ok_small hd h
  have hwW : w64 (2 * p.W) = 2 * p.W := by have := hd.w1; have := hd.w2; exact w64_id (by omega) (by omega)
  have hwH : w64 (2 * p.H) = 2 * p.H := by have := hd.h1; have := hd.h2; exact w64_id (by omega) (by omega)
  have hdx : w64 (0 - w.DX) = 0 - w.DX := by rcases h.1 with a | a <;> rw [a] <;> exact w64_id (by omega) (by omega)
  have hdy : w64 (0 - w.DY) = 0 - w.DY := by rcases h.2.1 with a | a <;> rw [a] <;> exact w64_id (by omega) (by omega)
  unfold sh169 sh196
  rw [next_eq' hd h, bindS]
  simp only [hwW, hwH, bindS, beq_dec]
  have ek : (bif !(((decide (w.At.X + w.DX = 0) || decide (w.At.X + w.DX = 2 * p.W)) || decide (w.At.Y + w.DY = 0)) || decide (w.At.Y + w.DY = 2 * p.H)) then (Option.bind (sh197 p ⟨w.At.X + w.DX, w.At.Y + w.DY⟩) fun x18 => Option.bind (getI p.Breaks x18) fun x19 => some x19) else (some 0)) = some (brkF p (w.At.X + w.DX) (w.At.Y + w.DY)) := by
    by_cases he : w.At.X + w.DX = 0 ∨ w.At.X + w.DX = 2 * p.W ∨ w.At.Y + w.DY = 0 ∨ w.At.Y + w.DY = 2 * p.H
    · have : (((decide (w.At.X + w.DX = 0) || decide (w.At.X + w.DX = 2 * p.W)) || decide (w.At.Y + w.DY = 0)) || decide (w.At.Y + w.DY = 2 * p.H)) = true := by
        simp only [Bool.or_eq_true, decide_eq_true_eq]; rcases he with h | h | h | h <;> simp [h]
      rw [this, brk_edge he]; rfl
    · have : (((decide (w.At.X + w.DX = 0) || decide (w.At.X + w.DX = 2 * p.W)) || decide (w.At.Y + w.DY = 0)) || decide (w.At.Y + w.DY = 2 * p.H)) = false := by
        simp only [not_or] at he
        simp [he]
      have hin := inner_of h he
      have hb := num_bd hd hin
      have hl : (numF p (w.At.X + w.DX) (w.At.Y + w.DY)).toNat < p.Breaks.length := by omega
      rw [this, Bool.not_false, cond_true, number_impl hd hin, bindS, getI_toNat hb.1 hl, bindS]
      unfold brkF
      rw [if_neg he, List.getD_eq_getElem?_getD, List.getElem?_eq_getElem hl]
      rfl
  rw [ek, bindS]
  simp only [stp]
  generalize brkF p (w.At.X + w.DX) (w.At.Y + w.DY) = k
  have c1 : ((decide (w.At.X + w.DX = 0) || decide (w.At.X + w.DX = 2 * p.W)) || decide (k = 1)) = decide (w.At.X + w.DX = 0 ∨ w.At.X + w.DX = 2 * p.W ∨ k = 1) := by
    simp only [Bool.decide_or, Bool.or_assoc]
  have c2 : ((decide (w.At.Y + w.DY = 0) || decide (w.At.Y + w.DY = 2 * p.H)) || decide (k = 2)) = decide (w.At.Y + w.DY = 0 ∨ w.At.Y + w.DY = 2 * p.H ∨ k = 2) := by
    simp only [Bool.decide_or, Bool.or_assoc]
  rw [c1, c2]
  by_cases d1 : w.At.X + w.DX = 0 ∨ w.At.X + w.DX = 2 * p.W ∨ k = 1 <;> by_cases d2 : w.At.Y + w.DY = 0 ∨ w.At.Y + w.DY = 2 * p.H ∨ k = 2
  · rw [decide_eq_true d1, decide_eq_true d2, if_pos d1, if_pos d2, cond_true, bindS, cond_true, bindS, hdx]
    simp only [hdy]
    exact ⟨_, rfl⟩
  · rw [decide_eq_true d1, decide_eq_false d2, if_pos d1, if_neg d2, cond_true, bindS, cond_false, bindS, hdx]
    exact ⟨_, rfl⟩
  · rw [decide_eq_false d1, decide_eq_true d2, if_neg d1, if_pos d2, cond_false, bindS, cond_true, bindS]
    simp only [hdy]
    exact ⟨_, rfl⟩
  · rw [decide_eq_false d1, decide_eq_false d2, if_neg d1, if_neg d2, cond_false, bindS, cond_false, bindS]
    exact ⟨_, rfl⟩
theorem step_spec {p : SPanel} {w : SWalker} (hd : Dim p) (h : okW p w) : sh198 p w = some (stp p w) := by
  obtain ⟨b1, b2, b3, b4⟩ := ok_small hd h
  have hwW : w64 (2 * p.W) = 2 * p.W := by have := hd.w1; have := hd.w2; exact w64_id (by omega) (by omega)
  have hwH : w64 (2 * p.H) = 2 * p.H := by have := hd.h1; have := hd.h2; exact w64_id (by omega) (by omega)
  have hdx : w64 (0 - w.DX) = 0 - w.DX := by rcases h.1 with a | a <;> rw [a] <;> exact w64_id (by omega) (by omega)
  have hdy : w64 (0 - w.DY) = 0 - w.DY := by rcases h.2.1 with a | a <;> rw [a] <;> exact w64_id (by omega) (by omega)
  unfold sh198 sh178
  rw [l03Next_eq hd h, bindS]
  simp only [hwW, hwH, bindS, beq_dec, hdx]
  by_cases he : w.At.X + w.DX = 0 ∨ w.At.X + w.DX = 2 * p.W ∨ w.At.Y + w.DY = 0 ∨ w.At.Y + w.DY = 2 * p.H
  · have e0 : (((decide (w.At.X + w.DX = 0) || decide (w.At.Y + w.DY = 0)) || decide (w.At.X + w.DX = 2 * p.W)) || decide (w.At.Y + w.DY = 2 * p.H)) = true := by
      simp only [Bool.or_eq_true, decide_eq_true_eq]; rcases he with h | h | h | h <;> simp [h]
    have hk := brk_edge he
    simp only [e0, Bool.not_true, cond_false, bindS, stp, hk]
    have c1 : (decide (w.At.X + w.DX = 0) || decide (w.At.X + w.DX = 2 * p.W)) = decide (w.At.X + w.DX = 0 ∨ w.At.X + w.DX = 2 * p.W ∨ (0 : Int) = 1) := by simp
    have c2 : (decide (w.At.Y + w.DY = 0) || decide (w.At.Y + w.DY = 2 * p.H)) = decide (w.At.Y + w.DY = 0 ∨ w.At.Y + w.DY = 2 * p.H ∨ (0 : Int) = 2) := by simp
    rw [c1, c2]
    by_cases d1 : w.At.X + w.DX = 0 ∨ w.At.X + w.DX = 2 * p.W ∨ (0 : Int) = 1 <;> by_cases d2 : w.At.Y + w.DY = 0 ∨ w.At.Y + w.DY = 2 * p.H ∨ (0 : Int) = 2
    · rw [decide_eq_true d1, decide_eq_true d2, if_pos d1, if_pos d2, cond_true, bindS, cond_true, bindS]
      simp only [hdy]
    · rw [decide_eq_true d1, decide_eq_false d2, if_pos d1, if_neg d2, cond_true, bindS, cond_false, bindS]
    · rw [decide_eq_false d1, decide_eq_true d2, if_neg d1, if_pos d2, cond_false, bindS, cond_true, bindS]
      simp only [hdy]
    · rw [decide_eq_false d1, decide_eq_false d2, if_neg d1, if_neg d2, cond_false, bindS, cond_false, bindS]
  · have hin := inner_of h he
    have hb := num_bd hd hin
    have hl : (numF p (w.At.X + w.DX) (w.At.Y + w.DY)).toNat < p.Breaks.length := by omega
    have hg : getI p.Breaks (numF p (w.At.X + w.DX) (w.At.Y + w.DY)) = some (brkF p (w.At.X + w.DX) (w.At.Y + w.DY)) := by
      rw [getI_toNat hb.1 hl]
      unfold brkF
      rw [if_neg he, List.getD_eq_getElem?_getD, List.getElem?_eq_getElem hl]
      rfl
    simp only [not_or] at he
    simp only [he.1, he.2.1, he.2.2.1, he.2.2.2, decide_false, Bool.or_self, Bool.not_false, cond_false, cond_true, bindS, number_spec hd hin, hg, stp, false_or]
    generalize brkF p (w.At.X + w.DX) (w.At.Y + w.DY) = k
    by_cases d1 : k = 1
    · subst d1
      simp only [decide_true, cond_true, bindS, if_true, hdx, show ¬ ((1 : Int) = 2) by omega, if_false]
    · by_cases d2 : k = 2
      · subst d2
        simp only [show ¬ ((2 : Int) = 1) by omega, decide_false, decide_true, cond_true, cond_false, bindS, if_true, hdy, if_false]
      · simp only [d1, d2, decide_false, cond_false, bindS, if_false]
theorem walker_impl {p : SPanel} (hd : Dim p) {k : Int} (h0 : 0 ≤ k) (h1 : k < 4 * p.W * p.H) : sh167 p k = some (wlk p k) := by
  have hwH : w64 (2 * p.H) = 2 * p.H := by have := hd.h1; have := hd.h2; exact w64_id (by omega) (by omega)
  have hb : 0 ≤ k / (2 * p.H) ∧ k / (2 * p.H) ≤ 16 ∧ 0 ≤ k % (2 * p.H) ∧ k % (2 * p.H) ≤ 16 := by
    obtain ⟨w1, w2, g1, g2, bl⟩ := hd
    clear bl
    generalize p.H = H at *
    generalize p.W = W at *
    rcases eight g1 g2 with e | e | e | e | e | e | e | e <;> subst e <;> omega
  have e1 : k.tdiv (2 * p.H) = k / (2 * p.H) := Int.tdiv_eq_ediv_of_nonneg h0
  have e2 : k.tmod (2 * p.H) = k % (2 * p.H) := Int.tmod_eq_emod_of_nonneg h0
  unfold sh167 wlk
  rw [hwH, nzI_ok (by have := hd.h1; omega), bindS, bindS, e1, e2, w64_id (x := k / (2 * p.H)) (by omega) (by omega)]
  generalize k / (2 * p.H) = a at *
  generalize k % (2 * p.H) = b at *
  rw [w64_id (x := a + b) (by omega) (by omega), w64_id (x := b + 1) (by omega) (by omega), Int.tmod_eq_emod_of_nonneg (by omega), beq_dec, ite_flip]
theorem walker_spec {p : SPanel} (hd : Dim p) {k : Int} (h0 : 0 ≤ k) (h1 : k < 4 * p.W * p.H) : sh171 p k = some (wlk p k) := by
  have hwH : w64 (2 * p.H) = 2 * p.H := by have := hd.h1; have := hd.h2; exact w64_id (by omega) (by omega)
  have hb : 0 ≤ k / (2 * p.H) ∧ k / (2 * p.H) ≤ 16 ∧ 0 ≤ k % (2 * p.H) ∧ k % (2 * p.H) ≤ 16 := by
    obtain ⟨w1, w2, g1, g2, bl⟩ := hd
    clear bl
    generalize p.H = H at *
    generalize p.W = W at *
    rcases eight g1 g2 with e | e | e | e | e | e | e | e <;> subst e <;> omega
  have e1 : k.tdiv (2 * p.H) = k / (2 * p.H) := Int.tdiv_eq_ediv_of_nonneg h0
  have e2 : k.tmod (2 * p.H) = k % (2 * p.H) := Int.tmod_eq_emod_of_nonneg h0
  unfold sh171 wlk
  rw [hwH, nzI_ok (by have := hd.h1; omega), bindS, bindS, e1, e2, w64_id (x := k / (2 * p.H)) (by omega) (by omega)]
  generalize k / (2 * p.H) = a at *
  generalize k % (2 * p.H) = b at *
  have t1 : a.tmod 2 = a % 2 := Int.tmod_eq_emod_of_nonneg (by omega)
  have t2 : b.tdiv 2 = b / 2 := Int.tdiv_eq_ediv_of_nonneg (by omega)
  have t3 : b.tmod 2 = b % 2 := Int.tmod_eq_emod_of_nonneg (by omega)
  have t4 : w64 (b + 1) = b + 1 := w64_id (by omega) (by omega)
  have t5 : (b + 1).tdiv 2 = (b + 1) / 2 := Int.tdiv_eq_ediv_of_nonneg (by omega)
  rw [t1, t2, t3, t4, t5, w64_id (x := b / 2) (by omega) (by omega), w64_id (x := b / 2 * 2) (by omega) (by omega), w64_id (x := b / 2 * 2 + 1) (by omega) (by omega), w64_id (x := 2 * (b % 2)) (by omega) (by omega), w64_id (x := 2 * (b % 2) - 1) (by omega) (by omega), w64_id (x := (b + 1) / 2) (by omega) (by omega), w64_id (x := (b + 1) / 2 * 2) (by omega) (by omega)]
  by_cases ha : a % 2 = 0
  · rw [beq_iff_eq.2 ha, cond_true]
    split
    · rw [show b / 2 * 2 + 1 = b by omega, show 2 * (b % 2) - 1 = 1 by omega]
    · rw [show b / 2 * 2 + 1 = b + 1 by omega, show 2 * (b % 2) - 1 = -1 by omega]
  · rw [beq_eq_false_iff_ne.2 ha, cond_false]
    by_cases hbb : b % 2 = 1
    · rw [beq_iff_eq.2 hbb, cond_true, bindS, if_neg (by omega), show (b + 1) / 2 * 2 = b + 1 by omega]
    · rw [beq_eq_false_iff_ne.2 hbb, cond_false, bindS, if_pos (by omega), show (b + 1) / 2 * 2 = b by omega]

/-! trace -/
def orb (p : SPanel) (w0 : SWalker) : Nat → SWalker
  | 0 => w0
  | i + 1 => stp p (orb p w0 i)
theorem orb_ok {p : SPanel} {w0 : SWalker} (hd : Dim p) (h : okW p w0) : ∀ i, okW p (orb p w0 i)
  | 0 => h
  | i + 1 => stp_ok hd (orb_ok hd h i)
theorem no_back {p : SPanel} {w0 : SWalker} (hd : Dim p) (h : okW p w0) : ∀ d i, orb p w0 (i + d) ≠ bck (orb p w0 i)
  | 0, i => fun e => bck_ne (orb_ok hd h i) e.symm
  | 1, i => fun e => stp_ne_bck (orb_ok hd h i) e
  | d + 2, i => fun e => by
    have h1 : stp p (orb p w0 (i + d + 1)) = stp p (bck (stp p (orb p w0 i))) := by rw [stp_back]; exact e
    have h2 := stp_inj h1
    exact no_back hd h d (i + 1) (by rw [show i + 1 + d = i + d + 1 by omega]; exact h2)
def ofN (p : SPanel) (w0 : SWalker) (c : Int) (of : List Int) : Nat → List Int
  | 0 => of
  | i + 1 => (ofN p w0 c of i).set (sgF p (orb p w0 i)).toNat c
theorem ofN_length (p : SPanel) (w0 : SWalker) (c : Int) (of : List Int) : ∀ i, (ofN p w0 c of i).length = of.length
  | 0 => rfl
  | i + 1 => by rw [ofN, List.length_set, ofN_length]
theorem getD_set (l : List Int) (i j : Nat) (c d : Int) (h : i < l.length) : (l.set i c).getD j d = if i = j then c else l.getD j d := by
  rw [List.getD_eq_getElem?_getD, List.getD_eq_getElem?_getD, List.getElem?_set]
  by_cases hij : i = j
  · subst hij; simp [h]
  · simp [hij]
def NS (p : SPanel) : Nat := (4 * p.W * p.H).toNat
theorem NS_eq {p : SPanel} (hd : Dim p) : ((NS p : Nat) : Int) = 4 * p.W * p.H ∧ NS p ≤ 256 ∧ 1 ≤ NS p := by
  obtain ⟨w1, w2, h1, h2, bl⟩ := hd
  clear bl
  unfold NS
  generalize p.W = W at *
  generalize p.H = H at *
  rcases eight h1 h2 with e | e | e | e | e | e | e | e <;> subst e <;> omega
theorem sg_lt {p : SPanel} {w : SWalker} (hd : Dim p) (h : okW p w) : (sgF p w).toNat < NS p ∧ 0 ≤ sgF p w := by
  have h1 := sg_bd hd h
  have h2 := NS_eq hd
  omega
theorem ofN_hit {p : SPanel} {w0 : SWalker} {c : Int} {of : List Int} (hd : Dim p) (h : okW p w0) (hl : of.length = NS p) : ∀ (i m : Nat), m < i → (ofN p w0 c of i).getD (sgF p (orb p w0 m)).toNat 0 = c
  | i + 1, m, hm => by
    have hi := sg_lt hd (orb_ok hd h i)
    rw [ofN, getD_set _ _ _ _ _ (by rw [ofN_length, hl]; exact hi.1)]
    split
    · rfl
    · rename_i hne
      have : m ≠ i := fun e => hne (by rw [e])
      exact ofN_hit hd h hl i m (by omega)
theorem ofN_old {p : SPanel} {w0 : SWalker} {c : Int} {of : List Int} (hd : Dim p) (h : okW p w0) (hl : of.length = NS p) : ∀ (i j : Nat), (∀ m, m < i → (sgF p (orb p w0 m)).toNat ≠ j) → (ofN p w0 c of i).getD j 0 = of.getD j 0
  | 0, _, _ => rfl
  | i + 1, j, hn => by
    have hi := sg_lt hd (orb_ok hd h i)
    rw [ofN, getD_set _ _ _ _ _ (by rw [ofN_length, hl]; exact hi.1), if_neg (hn i (by omega))]
    exact ofN_old hd h hl i j (fun m hm => hn m (by omega))
/-- The runs of a curve: each segment is free when it comes up. -/
def Run (p : SPanel) (w0 : SWalker) (c : Int) (of : List Int) (n : Nat) : Prop := ∀ j, j < n → (ofN p w0 c of j).getD (sgF p (orb p w0 j)).toNat 0 < 0
/-- What is owned is owned as a whole. -/
def Clo (p : SPanel) (of : List Int) : Prop := ∀ w, okW p w → 0 ≤ of.getD (sgF p w).toNat 0 → 0 ≤ of.getD (sgF p (stp p w)).toNat 0
theorem sg_eq_of {p : SPanel} {v w : SWalker} (hd : Dim p) (hv : okW p v) (hw : okW p w) (h : (sgF p v).toNat = (sgF p w).toNat) : sgF p v = sgF p w := by
  have := sg_lt hd hv
  have := sg_lt hd hw
  omega
theorem free_old {p : SPanel} {w0 : SWalker} {c : Int} {of : List Int} (hd : Dim p) (h : okW p w0) (hl : of.length = NS p) (hc : 0 ≤ c) {k : Nat} (hk : (ofN p w0 c of k).getD (sgF p (orb p w0 k)).toNat 0 < 0) :
    of.getD (sgF p (orb p w0 k)).toNat 0 < 0 ∧ ∀ m, m < k → sgF p (orb p w0 m) ≠ sgF p (orb p w0 k) := by
  have hno : ∀ m, m < k → (sgF p (orb p w0 m)).toNat ≠ (sgF p (orb p w0 k)).toNat := fun m hm e => by
    have := ofN_hit (c := c) hd h hl k m hm
    rw [e] at this
    omega
  rw [ofN_old hd h hl k _ hno] at hk
  exact ⟨hk, fun m hm e => hno m hm (by rw [e])⟩
theorem period {p : SPanel} {w0 : SWalker} {c : Int} {of : List Int} (hd : Dim p) (h : okW p w0) (hl : of.length = NS p) (hc : 0 ≤ c) (hcl : Clo p of) {n : Nat} (hn : 1 ≤ n) (hr : Run p w0 c of n) (hs : 0 ≤ (ofN p w0 c of n).getD (sgF p (orb p w0 n)).toNat 0) :
    orb p w0 n = w0 ∧ ∀ i, 0 < i → i < n → orb p w0 i ≠ w0 := by
  constructor
  · by_cases hit : ∃ m, m < n ∧ (sgF p (orb p w0 m)).toNat = (sgF p (orb p w0 n)).toNat
    · obtain ⟨m, hm, he⟩ := hit
      rcases sg_same hd (orb_ok hd h n) (orb_ok hd h m) (sg_eq_of hd (orb_ok hd h m) (orb_ok hd h n) he).symm with e | e
      · cases m with
        | zero => exact e
        | succ m =>
          obtain ⟨k, rfl⟩ : ∃ k, n = k + 1 := ⟨n - 1, by omega⟩
          have e2 : orb p w0 k = orb p w0 m := stp_inj e
          have := (free_old hd h hl hc (hr k (by omega))).2 m (by omega)
          rw [e2] at this
          exact absurd rfl this
      · exact absurd (by rw [show m + (n - m) = n by omega]; exact e) (no_back hd h (n - m) m)
    · exfalso
      rw [ofN_old hd h hl n _ (fun m hm e => hit ⟨m, hm, e⟩)] at hs
      obtain ⟨k, rfl⟩ : ∃ k, n = k + 1 := ⟨n - 1, by omega⟩
      have h1 := hcl (bck (orb p w0 (k + 1))) (bck_ok (orb_ok hd h (k + 1))) (by rw [sg_bck (orb_ok hd h (k + 1))]; exact hs)
      rw [show stp p (bck (orb p w0 (k + 1))) = bck (orb p w0 k) from stp_back p (orb p w0 k), sg_bck (orb_ok hd h k)] at h1
      have := (free_old hd h hl hc (hr k (by omega))).1
      omega
  · intro i h0 hi e
    have := (free_old hd h hl hc (hr i hi)).2 0 h0
    rw [e] at this
    exact absurd rfl this
theorem ofN_mono {p : SPanel} {w0 : SWalker} {c : Int} {of : List Int} (hd : Dim p) (h : okW p w0) (hl : of.length = NS p) (hc : 0 ≤ c) (n j : Nat) (hj : 0 ≤ of.getD j 0) : 0 ≤ (ofN p w0 c of n).getD j 0 := by
  by_cases hit : ∃ m, m < n ∧ (sgF p (orb p w0 m)).toNat = j
  · obtain ⟨m, hm, he⟩ := hit
    rw [← he, ofN_hit hd h hl n m hm]; exact hc
  · rw [ofN_old hd h hl n j (fun m hm e => hit ⟨m, hm, e⟩)]; exact hj
theorem clo_next {p : SPanel} {w0 : SWalker} {c : Int} {of : List Int} (hd : Dim p) (h : okW p w0) (hl : of.length = NS p) (hc : 0 ≤ c) (hcl : Clo p of) {n : Nat} (hn : 1 ≤ n) (hp : orb p w0 n = w0) : Clo p (ofN p w0 c of n) := by
  intro w hw hg
  have hit : ∀ m, m < n → ∀ v, sgF p v = sgF p (orb p w0 m) → 0 ≤ (ofN p w0 c of n).getD (sgF p v).toNat 0 := fun m hm v he => by
    rw [he, ofN_hit hd h hl n m hm]; exact hc
  by_cases hh : ∃ m, m < n ∧ (sgF p (orb p w0 m)).toNat = (sgF p w).toNat
  · obtain ⟨m, hm, he⟩ := hh
    rcases sg_same hd hw (orb_ok hd h m) (sg_eq_of hd (orb_ok hd h m) hw he).symm with e | e
    · subst e
      by_cases hm2 : m + 1 < n
      · exact hit (m + 1) hm2 _ rfl
      · have : m + 1 = n := by omega
        exact hit 0 (by omega) _ (by show sgF p (orb p w0 (m + 1)) = _; rw [this, hp]; rfl)
    · subst e
      cases m with
      | zero =>
        obtain ⟨k, rfl⟩ : ∃ k, n = k + 1 := ⟨n - 1, by omega⟩
        refine hit k (by omega) _ ?_
        rw [show bck (orb p w0 0) = bck (stp p (orb p w0 k)) from (show bck w0 = bck (orb p w0 (k + 1)) by rw [hp]), stp_back, sg_bck (orb_ok hd h k)]
      | succ m =>
        refine hit m (by omega) _ ?_
        rw [show stp p (bck (orb p w0 (m + 1))) = bck (orb p w0 m) from stp_back p (orb p w0 m), sg_bck (orb_ok hd h m)]
  · rw [ofN_old hd h hl n _ (fun m hm e => hh ⟨m, hm, e⟩)] at hg
    exact ofN_mono hd h hl hc n _ (hcl w hw hg)

def negs (l : List Int) : Nat := l.countP fun x => decide (x < 0)
theorem negs_set {l : List Int} {i : Nat} {c : Int} (h : i < l.length) (hf : l.getD i 0 < 0) (hc : 0 ≤ c) : negs (l.set i c) + 1 = negs l := by
  unfold negs
  induction l generalizing i with
  | nil => simp at h
  | cons x xs ih =>
    cases i with
    | zero =>
      have hx : x < 0 := by simpa using hf
      rw [List.set_cons_zero, List.countP_cons, List.countP_cons, decide_eq_true hx, decide_eq_false (show ¬ c < 0 by omega)]
      simp
    | succ i =>
      have := ih (i := i) (by simpa using h) (by simpa using hf)
      rw [List.set_cons_succ, List.countP_cons, List.countP_cons]
      omega
theorem negs_le (l : List Int) : negs l ≤ l.length := List.countP_le_length
theorem getI_sg {p : SPanel} {w : SWalker} {of : List Int} (hd : Dim p) (h : okW p w) (hl : of.length = NS p) : getI of (sgF p w) = some (of.getD (sgF p w).toNat 0) := by
  have h1 := sg_lt hd h
  rw [List.getD_eq_getElem?_getD, List.getElem?_eq_getElem (by omega)]
  exact getI_toNat h1.2 (by omega)
theorem range_snoc {T : Type} (f : Nat → T) (i : Nat) : (List.range (i + 1)).map f = (List.range i).map f ++ [f i] := by simp [List.range_succ]
theorem curve_impl {p : SPanel} {w0 : SWalker} {of : List Int} (hd : Dim p) (h : okW p w0) (hl : of.length = NS p) (cs : List (List SWalker)) (hf : of.getD (sgF p w0).toNat 0 < 0) :
    ∃ n, 1 ≤ n ∧ n ≤ 256 ∧ Run p w0 (cs.length : Int) of n ∧ 0 ≤ (ofN p w0 (cs.length : Int) of n).getD (sgF p (orb p w0 n)).toNat 0 ∧
      iter (sh114_3 p cs) (of, [], w0) = some (ofN p w0 (cs.length : Int) of n, (List.range n).map (orb p w0)) := by
  have hN := NS_eq hd
  have hng := negs_le of
  obtain ⟨y, hy, n, rfl, h1, h2, h3, h4⟩ := iter_inv (sb := sh114_3 p cs) (fun (s : List Int × List SWalker × SWalker) => ∃ i, s = (ofN p w0 (cs.length : Int) of i, (List.range i).map (orb p w0), orb p w0 i) ∧ Run p w0 (cs.length : Int) of i ∧ i + negs (ofN p w0 (cs.length : Int) of i) = negs of)
    (fun s => negs s.1) (fun y => ∃ n, y = (ofN p w0 (cs.length : Int) of n, (List.range n).map (orb p w0)) ∧ 1 ≤ n ∧ n ≤ 256 ∧ Run p w0 (cs.length : Int) of n ∧ 0 ≤ (ofN p w0 (cs.length : Int) of n).getD (sgF p (orb p w0 n)).toNat 0) (s0 := (of, [], w0))
    ⟨0, rfl, fun j hj => by omega, by simp [ofN]⟩ (by simp only; omega) (by
    rintro s ⟨i, rfl, hr, hn⟩
    have hok := orb_ok hd h i
    have hli : (ofN p w0 (cs.length : Int) of i).length = NS p := by rw [ofN_length, hl]
    obtain ⟨t, hst⟩ := step_impl hd hok
    simp only [sh114_3, seg_impl hd hok, bindS, getI_sg hd hok hli, hst]
    by_cases hneg : (ofN p w0 (cs.length : Int) of i).getD (sgF p (orb p w0 i)).toNat 0 < 0
    · left
      rw [decide_eq_true hneg, cond_true, appL_ok (by simp only [List.length_map, List.length_range, List.length_cons, List.length_nil]; omega), bindS]
      have hset := negs_set (c := (cs.length : Int)) (by rw [hli]; exact (sg_lt hd hok).1) hneg (by omega)
      refine ⟨_, rfl, ⟨i + 1, by rw [range_snoc]; rfl, fun j hj => ?_, by rw [ofN]; omega⟩, by simp only; omega⟩
      by_cases hji : j = i
      · subst hji; exact hneg
      · exact hr j (by omega)
    · right
      rw [decide_eq_false hneg, cond_false]
      refine ⟨_, rfl, i, rfl, ?_, by omega, hr, by omega⟩
      rcases Nat.eq_zero_or_pos i with h0 | h0
      · subst h0; exact absurd hf hneg
      · exact h0)
  exact ⟨n, h1, h2, h3, h4, hy⟩
instance decW : DecidableEq SWalker := fun a b => if h : a.At.X = b.At.X ∧ a.At.Y = b.At.Y ∧ a.DX = b.DX ∧ a.DY = b.DY then isTrue (walker_ext h.1 h.2.1 h.2.2.1 h.2.2.2) else isFalse (fun e => h (by subst e; simp))
theorem eqW (a b : SWalker) : (((a.At.X == b.At.X) && ((a.At.Y == b.At.Y) && true)) && ((a.DX == b.DX) && ((a.DY == b.DY) && true))) = decide (a = b) := by
  by_cases h : a = b
  · subst h; simp
  · rw [decide_eq_false h]
    simp only [Bool.and_true]
    cases h1 : (a.At.X == b.At.X) <;> cases h2 : (a.At.Y == b.At.Y) <;> cases h3 : (a.DX == b.DX) <;> cases h4 : (a.DY == b.DY) <;> (try rfl)
    simp only [beq_iff_eq] at h1 h2 h3 h4
    exact absurd (walker_ext h1 h2 h3 h4) h
theorem curve_spec {p : SPanel} {w0 : SWalker} (hd : Dim p) (h : okW p w0) {n : Nat} (hn : 1 ≤ n) (hn2 : n ≤ 256) (hp : orb p w0 n = w0) (ha : ∀ i, 0 < i → i < n → orb p w0 i ≠ w0) :
    sh170 p w0 = some ((List.range n).map (fun i => (orb p w0 i).At), (List.range n).map (fun i => sgF p (orb p w0 i))) := by
  unfold sh170
  have hi := iter_steps (sb := sh170_1 p w0) (fun i => ((List.range i).map (fun i => (orb p w0 i).At), (List.range i).map (fun i => sgF p (orb p w0 i)), orb p w0 i)) n (x := ((List.range n).map (fun i => (orb p w0 i).At), (List.range n).map (fun i => sgF p (orb p w0 i)))) (by omega) (fun i hi => ?_) ?_
  · simp only [List.range_zero, List.map_nil] at hi
    rw [show orb p w0 0 = w0 from rfl] at hi
    rw [hi, bindS]
  · have hok := orb_ok hd h i
    have hc : (((((List.range i).map (fun i => (orb p w0 i).At)).length : Int) == 0) || (!decide (orb p w0 i = w0))) = true := by
      rcases Nat.eq_zero_or_pos i with h0 | h0
      · subst h0; rfl
      · rw [decide_eq_false (ha i h0 hi)]; simp
    simp only [sh170_1, eqW, hc, cond_true]
    rw [appL_ok (by simp only [List.length_map, List.length_range, List.length_cons, List.length_nil]; omega), bindS, seg_spec hd hok, bindS, appL_ok (by simp only [List.length_map, List.length_range, List.length_cons, List.length_nil]; omega), bindS, step_spec hd hok, bindS, range_snoc, range_snoc]
    rfl
  · have hc : (((((List.range n).map (fun i => (orb p w0 i).At)).length : Int) == 0) || (!decide (orb p w0 n = w0))) = false := by
      rw [decide_eq_true hp]
      simp
      omega
    simp only [sh170_1, eqW, hc, cond_false]
theorem set_spec {p : SPanel} {w0 : SWalker} {of : List Int} (hd : Dim p) (h : okW p w0) (hl : of.length = NS p) (out : List (List SPoint)) (pts : List SPoint) (n : Nat) (hn : n ≤ 256) :
    iter (sh116_3 out (pts, (List.range n).map (fun i => sgF p (orb p w0 i)))) (0, of) = some (ofN p w0 (out.length : Int) of n) := by
  refine iter_steps (sb := sh116_3 out (pts, (List.range n).map (fun i => sgF p (orb p w0 i)))) (fun i => ((i : Int), ofN p w0 (out.length : Int) of i)) n (by omega) (fun i hi => ?_) ?_
  · have hok := orb_ok hd h i
    have hli : (ofN p w0 (out.length : Int) of i).length = NS p := by rw [ofN_length, hl]
    have hlt : i < ((List.range n).map (fun i => sgF p (orb p w0 i))).length := by simpa using hi
    have hd1 : decide ((i : Int) < (((List.range n).map (fun i => sgF p (orb p w0 i))).length : Int)) = true := decide_eq_true (by omega)
    simp only [sh116_3, hd1, cond_true, getI_lt hlt, List.getElem_map, List.getElem_range, bindS, getI_sg hd hok hli]
    rw [w64_id (by omega) (by omega)]
    rfl
  · have hd1 : decide ((n : Int) < (((List.range n).map (fun i => sgF p (orb p w0 i))).length : Int)) = false := decide_eq_false (by simp)
    simp only [sh116_3, hd1, cond_false]

/-- Two loops side by side. -/
theorem iter_rel {σ1 σ2 ρ1 ρ2 : Type} {sb1 : σ1 → Option (σ1 ⊕ ρ1)} {sb2 : σ2 → Option (σ2 ⊕ ρ2)} (R : σ1 → σ2 → Prop) (μ : σ1 → Nat) (Q : ρ1 → ρ2 → Prop) {s1 : σ1} {s2 : σ2} (h0 : R s1 s2) (hμ : μ s1 < 4611686018427387904)
    (hs : ∀ a b, R a b → (∃ a' b', sb1 a = some (.inl a') ∧ sb2 b = some (.inl b') ∧ R a' b' ∧ μ a' < μ a) ∨ (∃ x y, sb1 a = some (.inr x) ∧ sb2 b = some (.inr y) ∧ Q x y)) : ∃ x y, iter sb1 s1 = some x ∧ iter sb2 s2 = some y ∧ Q x y := by
  have key : ∀ k a b, μ a ≤ k → R a b → ∃ x y, iterN sb1 (k + 1) a = some x ∧ iterN sb2 (k + 1) b = some y ∧ Q x y := by
    intro k
    induction k with
    | zero =>
      intro a b hk hR
      rcases hs a b hR with ⟨a', b', _, _, _, h4⟩ | ⟨x, y, h1, h2, h3⟩
      · omega
      · exact ⟨x, y, by simp [iterN, h1], by simp [iterN, h2], h3⟩
    | succ k ih =>
      intro a b hk hR
      rcases hs a b hR with ⟨a', b', h1, h2, h3, h4⟩ | ⟨x, y, h1, h2, h3⟩
      · obtain ⟨x, y, g1, g2, g3⟩ := ih a' b' (by omega) h3
        exact ⟨x, y, by rw [iterN, h1]; exact g1, by rw [iterN, h2]; exact g2, g3⟩
      · exact ⟨x, y, by simp [iterN, h1], by simp [iterN, h2], h3⟩
  obtain ⟨x, y, h1, h2, h3⟩ := key (μ s1) s1 s2 (Nat.le_refl _) h0
  exact ⟨x, y, iterN_mono _ FUEL _ _ (by rw [FUEL_eq]; omega) h1, iterN_mono _ FUEL _ _ (by rw [FUEL_eq]; omega) h2, h3⟩
theorem fill_step {a b : Int} {k n : Nat} (h : k < n) : (List.replicate k a ++ List.replicate (n - k) b).set k a = List.replicate (k + 1) a ++ List.replicate (n - (k + 1)) b := by
  obtain ⟨m, hm⟩ : ∃ m, n - k = m + 1 := ⟨n - k - 1, by omega⟩
  rw [List.set_append, if_neg (by simp), List.length_replicate, Nat.sub_self, hm, List.replicate_succ, List.set_cons_zero, show n - (k + 1) = m by omega, List.replicate_succ', List.append_assoc]
  rfl
/-- A closed curve. -/
def Cyc (p : SPanel) (c : List SWalker) : Prop := ∃ w0 n, okW p w0 ∧ 1 ≤ n ∧ n ≤ 256 ∧ orb p w0 n = w0 ∧ c = (List.range n).map (orb p w0)
/-- What is owned is owned by one curve. -/
def Clv (p : SPanel) (of : List Int) : Prop := ∀ w, okW p w → 0 ≤ of.getD (sgF p w).toNat 0 → of.getD (sgF p (stp p w)).toNat 0 = of.getD (sgF p w).toNat 0
theorem clv_next {p : SPanel} {w0 : SWalker} {c : Int} {of : List Int} (hd : Dim p) (h : okW p w0) (hl : of.length = NS p) (hc : 0 ≤ c) (hcl : Clv p of) {n : Nat} (hn : 1 ≤ n) (hr : Run p w0 c of n) (hp : orb p w0 n = w0) : Clv p (ofN p w0 c of n) := by
  intro w hw hg
  have hit : ∀ m, m < n → ∀ v, sgF p v = sgF p (orb p w0 m) → (ofN p w0 c of n).getD (sgF p v).toNat 0 = c := fun m hm v he => by
    rw [he, ofN_hit hd h hl n m hm]
  by_cases hh : ∃ m, m < n ∧ (sgF p (orb p w0 m)).toNat = (sgF p w).toNat
  · obtain ⟨m, hm, he⟩ := hh
    have hs := sg_eq_of hd (orb_ok hd h m) hw he
    rw [hit m hm w hs.symm]
    rcases sg_same hd hw (orb_ok hd h m) hs.symm with e | e
    · subst e
      by_cases hm2 : m + 1 < n
      · exact hit (m + 1) hm2 _ rfl
      · have : m + 1 = n := by omega
        exact hit 0 (by omega) _ (by show sgF p (orb p w0 (m + 1)) = _; rw [this, hp]; rfl)
    · subst e
      cases m with
      | zero =>
        obtain ⟨k, rfl⟩ : ∃ k, n = k + 1 := ⟨n - 1, by omega⟩
        refine hit k (by omega) _ ?_
        rw [show bck (orb p w0 0) = bck (stp p (orb p w0 k)) from (show bck w0 = bck (orb p w0 (k + 1)) by rw [hp]), stp_back, sg_bck (orb_ok hd h k)]
      | succ m =>
        refine hit m (by omega) _ ?_
        rw [show stp p (bck (orb p w0 (m + 1))) = bck (orb p w0 m) from stp_back p (orb p w0 m), sg_bck (orb_ok hd h m)]
  · have ew := ofN_old (c := c) hd h hl n _ (fun m hm e => hh ⟨m, hm, e⟩)
    rw [ew] at hg ⊢
    have e := hcl w hw hg
    rw [ofN_old hd h hl n _ (fun m hm e2 => ?_)]
    · exact e
    · have h1 := (free_old hd h hl hc (hr m hm)).1
      rw [e2] at h1
      omega
def ptsOf (c : List SWalker) : List SPoint := c.map (·.At)
structure Tr (p : SPanel) (cs : List (List SWalker)) (of : List Int) (k : Nat) : Prop where
  len : of.length = NS p
  clo : Clo p of
  own : ∀ j, j < k → 0 ≤ of.getD j 0
  val : ∀ j, of.getD j 0 < (cs.length : Int) ∨ (of.getD j 0 = 0 ∧ NS p ≤ j)
  few : cs.length ≤ k
  cyc : ∀ c ∈ cs, Cyc p c
  sum : (cs.map List.length).sum + negs of = NS p
  clv : Clv p of
theorem run_negs {p : SPanel} {w0 : SWalker} {c : Int} {of : List Int} (hd : Dim p) (h : okW p w0) (hl : of.length = NS p) (hc : 0 ≤ c) : ∀ n, Run p w0 c of n → n + negs (ofN p w0 c of n) = negs of
  | 0, _ => by simp [ofN]
  | n + 1, hr => by
    have ih := run_negs hd h hl hc n (fun j hj => hr j (by omega))
    have hset := negs_set (c := c) (by rw [ofN_length, hl]; exact (sg_lt hd (orb_ok hd h n)).1) (hr n (by omega)) hc
    rw [ofN]; omega
theorem sum_snoc (cs : List (List SWalker)) (c : List SWalker) : ((cs ++ [c]).map List.length).sum = (cs.map List.length).sum + c.length := by simp
theorem seg_n {p : SPanel} (hd : Dim p) : w64 (w64 (4 * p.W) * p.H) = (NS p : Int) := by
  have h1 := NS_eq hd
  have := hd.w1; have := hd.w2
  rw [w64_id (x := 4 * p.W) (by omega) (by omega), w64_id (by omega) (by omega), h1.1]
theorem trace_body {p : SPanel} (hd : Dim p) (cs : List (List SWalker)) (of : List Int) (k : Nat) (hk : k < NS p) (ht : Tr p cs of k) : ∃ cs' of', Tr p cs' of' (k + 1) ∧
    sh114_2 p (NS p : Int) ((k : Int), cs, of) = some (.inl (((k + 1 : Nat) : Int), cs', of')) ∧ sh116_2 p ((k : Int), of, cs.map ptsOf) = some (.inl (((k + 1 : Nat) : Int), of', cs'.map ptsOf)) := by
  obtain ⟨tl, tc, to, tv, tf, ty, ts, tw⟩ := ht
  have hN := NS_eq hd
  have hkl : k < of.length := by omega
  have hw : w64 ((k : Int) + 1) = ((k + 1 : Nat) : Int) := by rw [w64_id (by omega) (by omega)]; omega
  have hkd : decide ((k : Int) < (NS p : Int)) = true := decide_eq_true (by omega)
  have hgd : of.getD k 0 = of[k] := by rw [List.getD_eq_getElem?_getD, List.getElem?_eq_getElem hkl]; rfl
  simp only [sh114_2, sh116_2, seg_n hd, hkd, cond_true, getI_lt hkl, bindS, hw]
  by_cases hneg : 0 ≤ of[k]
  · rw [decide_eq_true hneg]
    refine ⟨cs, of, ⟨tl, tc, fun j hj => ?_, tv, by omega, ty, ts, tw⟩, rfl, rfl⟩
    by_cases hjk : j = k
    · subst hjk; rw [hgd]; exact hneg
    · exact to j (by omega)
  · rw [decide_eq_false hneg]
    obtain ⟨wok, wsg⟩ := wlk_ok hd (k := (k : Int)) (by omega) (by omega)
    obtain ⟨n, n1, n2, nr, ns, ni⟩ := curve_impl hd wok tl cs (by rw [wsg, Int.toNat_natCast, hgd]; omega)
    obtain ⟨np, na⟩ := period hd wok tl (by omega) tc n1 nr ns
    simp only [cond_false]
    rw [walker_impl hd (by omega) (by omega), bindS, ni, bindS, appL_ok (by simp only [List.length_cons, List.length_nil]; omega), bindS, walker_spec hd (by omega) (by omega), bindS, curve_spec hd wok n1 n2 np na, bindS]
    have hss := set_spec hd wok tl (cs.map ptsOf) ((List.range n).map (fun i => (orb p (wlk p k) i).At)) n n2
    rw [List.length_map] at hss
    rw [hss, bindS, appL_ok (by simp only [List.length_map, List.length_cons, List.length_nil]; omega), bindS]
    refine ⟨_, _, ⟨by rw [ofN_length, tl], clo_next hd wok tl (by omega) tc n1 np, fun j hj => ?_, fun j => ?_, by simp only [List.length_append, List.length_cons, List.length_nil]; omega, fun c hc => ?_, by have hrn := run_negs hd wok tl (by omega) n nr; rw [sum_snoc, List.length_map, List.length_range]; omega, clv_next hd wok tl (by omega) tw n1 nr np⟩, rfl, ?_⟩
    · by_cases hjk : j = k
      · subst hjk
        have := ofN_hit (c := (cs.length : Int)) hd wok tl n 0 (by omega)
        rw [show orb p (wlk p j) 0 = wlk p j from rfl, wsg, Int.toNat_natCast] at this
        omega
      · exact ofN_mono hd wok tl (by omega) n j (to j (by omega))
    · simp only [List.length_append, List.length_cons, List.length_nil]
      by_cases hit : ∃ m, m < n ∧ (sgF p (orb p (wlk p k) m)).toNat = j
      · obtain ⟨m, hm, he⟩ := hit
        have := ofN_hit (c := (cs.length : Int)) hd wok tl n m hm
        rw [he] at this
        left; omega
      · rw [ofN_old hd wok tl n j (fun m hm e => hit ⟨m, hm, e⟩)]
        rcases tv j with h | h
        · left; omega
        · right; exact h
    · rcases List.mem_append.1 hc with hc | hc
      · exact ty c hc
      · simp only [List.mem_cons, List.not_mem_nil, or_false] at hc
        exact ⟨wlk p k, n, wok, n1, n2, np, hc⟩
    · simp only [List.map_append, List.map_cons, List.map_nil, ptsOf, List.map_map]
      rfl
/-- What both ways of tracing come to. -/
theorem trace_eq (p : SPanel) (hd : Dim p) : ∃ cs of, sh114 p = some (cs, of) ∧ sh116 p = some (cs.map ptsOf, of) ∧ Tr p cs of (NS p) := by
  have hN := NS_eq hd
  have hs : sh166 p = some (NS p : Int) := by unfold sh166; rw [seg_n hd]
  have hmk : mkL (NS p : Int) (0 : Int) = some (List.replicate (NS p) 0) := mkL_ok (by omega)
  have e1 : iter (sh114_1 (List.replicate (NS p) 0)) (0, List.replicate (NS p) 0) = some (List.replicate (NS p) (-1)) := by
    have := iter_steps (sb := sh114_1 (List.replicate (NS p) 0)) (fun k => ((k : Int), List.replicate k (-1) ++ List.replicate (NS p - k) 0)) (NS p) (x := List.replicate (NS p) (-1)) (by omega) (fun k hk => ?_) ?_
    · simpa using this
    · have hl : k < (List.replicate k (-1 : Int) ++ List.replicate (NS p - k) 0).length := by simp; omega
      have hd1 : decide ((k : Int) < ((List.replicate (NS p) (0 : Int)).length : Int)) = true := decide_eq_true (by simp; omega)
      simp only [sh114_1, hd1, cond_true, getI_lt hl, bindS, Int.toNat_natCast]
      rw [w64_id (by omega) (by omega), fill_step hk]
      rfl
    · have hd1 : decide (((NS p : Nat) : Int) < ((List.replicate (NS p) (0 : Int)).length : Int)) = false := decide_eq_false (by simp)
      simp only [sh114_1, hd1, cond_false]
      simp
  have e2 : iter (sh116_1 p) (0, List.replicate (NS p) 0) = some (List.replicate (NS p) (-1)) := by
    have := iter_steps (sb := sh116_1 p) (fun k => ((k : Int), List.replicate k (-1) ++ List.replicate (NS p - k) 0)) (NS p) (x := List.replicate (NS p) (-1)) (by omega) (fun k hk => ?_) ?_
    · simpa using this
    · have hl : k < (List.replicate k (-1 : Int) ++ List.replicate (NS p - k) 0).length := by simp; omega
      have hd1 : decide ((k : Int) < (NS p : Int)) = true := decide_eq_true (by omega)
      simp only [sh116_1, seg_n hd, hd1, cond_true, getI_lt hl, bindS, Int.toNat_natCast]
      rw [w64_id (by omega) (by omega), fill_step hk]
      rfl
    · have hd1 : decide (((NS p : Nat) : Int) < (NS p : Int)) = false := decide_eq_false (by omega)
      simp only [sh116_1, seg_n hd, hd1, cond_false]
      simp
  have hneg : ∀ j, (List.replicate (NS p) (-1 : Int)).getD j 0 = if j < NS p then -1 else 0 := by
    intro j
    rw [List.getD_eq_getElem?_getD, List.getElem?_replicate]
    split <;> rfl
  have h0 : Tr p [] (List.replicate (NS p) (-1)) 0 := ⟨by simp, fun w hw hg => by rw [hneg, if_pos (sg_lt hd hw).1] at hg; omega, fun j hj => by omega, fun j => by rw [hneg]; split <;> simp; omega, by simp, by simp, by simp [negs, List.countP_replicate], fun w hw hg => by rw [hneg, if_pos (sg_lt hd hw).1] at hg; omega⟩
  obtain ⟨x, y, hx, hy, cs, of, rfl, rfl, ht⟩ := iter_rel (sb1 := sh114_2 p (NS p : Int)) (sb2 := sh116_2 p) (fun a b => ∃ (k : Nat) (cs : List (List SWalker)) (of : List Int), a = ((k : Int), cs, of) ∧ b = ((k : Int), of, cs.map ptsOf) ∧ k ≤ NS p ∧ Tr p cs of k)
    (fun a => NS p - a.1.toNat) (fun x y => ∃ cs of, x = (cs, of) ∧ y = (of, cs.map ptsOf) ∧ Tr p cs of (NS p)) (s1 := (0, [], List.replicate (NS p) (-1))) (s2 := (0, List.replicate (NS p) (-1), [])) ⟨0, [], _, rfl, rfl, by omega, h0⟩ (by simp only; omega) (by
    rintro a b ⟨k, cs, of, rfl, rfl, hk, ht⟩
    by_cases hk2 : k < NS p
    · left
      obtain ⟨cs', of', h1, h2, h3⟩ := trace_body hd cs of k hk2 ht
      exact ⟨_, _, h2, h3, ⟨k + 1, cs', of', rfl, rfl, by omega, h1⟩, by simp only [Int.toNat_natCast]; omega⟩
    · right
      have hkn : k = NS p := by omega
      subst hkn
      have hd1 : decide (((NS p : Nat) : Int) < (NS p : Int)) = false := decide_eq_false (by omega)
      simp only [sh114_2, sh116_2, seg_n hd, hd1, cond_false]
      exact ⟨_, _, rfl, rfl, cs, of, rfl, rfl, ht⟩)
  refine ⟨cs, of, ?_, ?_, ht⟩
  · unfold sh114
    rw [hs, bindS, hmk, bindS, e1, bindS, bindS, hx, bindS]
  · unfold sh116
    rw [seg_n hd, hmk, bindS, e2, bindS, hy, bindS]

/-! points -/

/-! mark_points -/
/-- The numbers that are laid into a result of places. -/
def marksP (m : Int) (n : Nat) : List SPoint := (List.range n).map fun (i : Nat) => ⟨m + 2 * (i : Int), m + 2 * (i : Int) + 1⟩
theorem marksP_length (m : Int) (n : Nat) : (marksP m n).length = n := by simp [marksP]
theorem marksP_get (m : Int) (n k : Nat) (h : k < n) : (marksP m n)[k]'(by rw [marksP_length]; exact h) = ⟨m + 2 * k, m + 2 * k + 1⟩ := by simp [marksP]
theorem marksP_succ (m : Int) (k : Nat) : marksP m (k + 1) = marksP m k ++ [⟨m + 2 * k, m + 2 * k + 1⟩] := by simp [marksP, List.range_succ]


/-! curves -/
theorem inB_dec (k n : Int) : (decide (0 ≤ k) && decide (k ≤ n - 1)) = decide (0 ≤ k ∧ k < n) := by
  by_cases h : 0 ≤ k ∧ k < n
  · rw [decide_eq_true h, decide_eq_true h.1, decide_eq_true (by omega)]; rfl
  · rw [decide_eq_false h]
    by_cases h1 : 0 ≤ k
    · rw [decide_eq_true h1, decide_eq_false (by omega)]; rfl
    · rw [decide_eq_false h1]; rfl
theorem count_eq {p : SPanel} {cs : List (List SWalker)} {of : List Int} (ht : sh114 p = some (cs, of)) : sh118 p = some (cs.length : Int) := by
  unfold sh118; rw [ht, bindS]
theorem curveCode_eq {p : SPanel} {cs : List (List SWalker)} {of : List Int} (hb : p.Breaks.length ≤ 1048576) (hp : panelB p = true) (ht : sh114 p = some (cs, of)) (hc : cs.length ≤ 256) (k : Int) : sh102 p [k] = some (if 0 ≤ k ∧ k < (cs.length : Int) then 0 else 2) := by
  unfold sh102
  rw [validPanel_eq p hb, hp, bindS]
  simp only [Bool.not_true, cond_false]
  rw [iter_all (xs := [k]) (p := fun x => decide (0 ≤ x ∧ x < (cs.length : Int))) (r := (2 : Int)) (by simp) (fun j hj => ?_) (by simp [sh102_1]), bindS]
  · by_cases h : 0 ≤ k ∧ k < (cs.length : Int)
    · rw [if_pos h]; simp [elimS, h]
    · rw [if_neg h]; simp [elimS, h]
  · have hj0 : j = 0 := by simpa using hj
    subst hj0
    have g : getI [k] ((0 : Nat) : Int) = some k := rfl
    have hd : decide (((0 : Nat) : Int) < (([k] : List Int).length : Int)) = true := rfl
    simp only [sh102_1, hd, cond_true, g, bindS, count_eq ht, sh125, List.getElem_cons_zero]
    rw [w64_id (x := (cs.length : Int) - 1) (by omega) (by omega), inB_dec, w64_id (by omega) (by omega)]
    by_cases h : 0 ≤ k ∧ k < (cs.length : Int) <;> simp [h]
theorem curveCode_bad {p : SPanel} (hb : p.Breaks.length ≤ 1048576) (hp : panelB p = false) (ks : List Int) : sh102 p ks = some 1 := by
  unfold sh102
  rw [validPanel_eq p hb, hp, bindS]; rfl
def unitB (u : Int) : Bool := decide (1 ≤ u) && decide (u ≤ 1000)
def upt (u : Int) (a : SPoint) : SPoint := ⟨w64 (a.X * u), w64 (a.Y * u)⟩
theorem cyc_len {p : SPanel} {c : List SWalker} (h : Cyc p c) : 1 ≤ c.length ∧ c.length ≤ 256 := by
  obtain ⟨w0, n, _, h1, h2, _, rfl⟩ := h
  simp; omega
theorem getD_map_pts (cs : List (List SWalker)) (k : Nat) : (cs.map ptsOf).getD k [] = ptsOf (cs.getD k []) := by
  rw [List.getD_eq_getElem?_getD, List.getD_eq_getElem?_getD, List.getElem?_map]
  cases cs[k]? <;> rfl
theorem getD_mem3 {cs : List (List SWalker)} {k : Nat} (h : k < cs.length) : cs.getD k [] ∈ cs ∧ getI cs (k : Int) = some (cs.getD k []) := by
  rw [List.getD_eq_getElem?_getD, List.getElem?_eq_getElem h]
  exact ⟨List.getElem_mem h, getI_lt h⟩

/-! src -/
/-- Bytes from which is drawn. -/
def srcB (c : List Int) : Prop := ∀ x ∈ c, 0 ≤ x ∧ x ≤ 255
theorem okI_u8 {x : Int} (h : okI .u8 x) : 0 ≤ x ∧ x ≤ 255 := by
  unfold okI Lit.wf at h
  simp only [Bool.and_eq_true, decide_eq_true_eq] at h
  have h1 : IntKind.u8.min = 0 := by decide
  have h2 : IntKind.u8.max = 255 := by decide
  rw [h1, h2] at h
  exact h
theorem srcB_of {c : List Int} (h : ∀ y ∈ c, okI .u8 y) : srcB c := fun x hx => okI_u8 (h x hx)
theorem andI_255 (a : Int) : 0 ≤ andI .u64 a 255 ∧ andI .u64 a 255 ≤ 255 := by
  unfold andI
  have hle : (BitVec.ofInt IntKind.u64.bits a &&& BitVec.ofInt IntKind.u64.bits 255).toNat ≤ 255 := by
    rw [BitVec.toNat_and]
    refine Nat.le_trans Nat.and_le_right ?_
    decide
  rw [IntKind.wrap_u64]
  omega
theorem next_ok (q : Sl00Src) (hc : srcB q.code) (h0 : 0 ≤ q.at_) (h1 : q.at_ ≤ 4611686018427387904) :
    ∃ r, sh165 q = some r ∧ (0 ≤ r.1 ∧ r.1 ≤ 255) ∧ 0 ≤ r.2.1 ∧ r.2.1 ≤ q.at_ + 1 := by
  unfold sh165
  have hw : w64 (q.at_ + 1) = q.at_ + 1 := w64_id (by omega) (by omega)
  have hfin : ∀ b : Int, 0 ≤ b ∧ b ≤ 255 → ∀ s t : Int, ∃ r, (bif decide (w64 (q.at_ + 1) ≤ (q.code.length : Int)) then some (b, w64 (q.at_ + 1), s) else some (w64 (andI .u64 t 255), w64 (q.at_ + 1), s)) = some r ∧ (0 ≤ r.1 ∧ r.1 ≤ 255) ∧ 0 ≤ r.2.1 ∧ r.2.1 ≤ q.at_ + 1 := by
    intro b hb s t
    have ha := andI_255 t
    have hwa : w64 (andI .u64 t 255) = andI .u64 t 255 := w64_id (by omega) (by omega)
    rw [hw, hwa]
    cases decide (q.at_ + 1 ≤ (q.code.length : Int))
    · exact ⟨_, rfl, ha, by simp only; omega, by simp only; omega⟩
    · exact ⟨_, rfl, hb, by simp only; omega, by simp only; omega⟩
  by_cases hl : q.at_ < (q.code.length : Int)
  · have hn : q.at_.toNat < q.code.length := by omega
    have hb := hc _ (List.getElem_mem hn)
    rw [decide_eq_true hl, cond_true, getI_toNat h0 hn, bindS, w64_id (by omega) (by omega), bindS]
    exact hfin _ hb _ _
  · rw [decide_eq_false hl, cond_false, bindS]
    exact hfin 0 (by omega) _ _
theorem pick_ok (q : Sl00Src) (n : Int) (hc : srcB q.code) (h0 : 0 ≤ q.at_) (h1 : q.at_ ≤ 2305843009213693952) :
    ∃ r, sh113 q n = some r ∧ (0 ≤ r.1 ∧ (r.1 < n ∨ r.1 = 0)) ∧ 0 ≤ r.2.1 ∧ r.2.1 ≤ q.at_ + 2 := by
  unfold sh113
  by_cases hn : n ≤ 1
  · rw [decide_eq_true hn, cond_true]
    exact ⟨_, rfl, by simp, h0, by simp only; omega⟩
  · rw [decide_eq_false hn, cond_false]
    obtain ⟨x, e, b, a0, a1⟩ := next_ok q hc h0 (by omega)
    rw [e, bindS]
    have hmod : ∀ z : Int, 0 ≤ z → 0 ≤ z.tmod n ∧ z.tmod n < n := fun z hz => by
      rw [Int.tmod_eq_emod_of_nonneg hz]
      exact ⟨Int.emod_nonneg _ (by omega), Int.emod_lt_of_pos _ (by omega)⟩
    by_cases hb : 200 < n
    · obtain ⟨y, e2, b2, c0, c1⟩ := next_ok ⟨q.code, x.2.1, x.2.2⟩ hc a0 (by simp only; omega)
      rw [decide_eq_true hb, cond_true, e2, bindS, bindS, nzI_ok (by omega), bindS]
      simp only at c1
      rw [w64_id (x := x.1 * 256) (by omega) (by omega), w64_id (by omega) (by omega)]
      have := hmod (x.1 * 256 + y.1) (by omega)
      exact ⟨_, rfl, ⟨this.1, .inl this.2⟩, c0, by simp only; omega⟩
    · rw [decide_eq_false hb, cond_false, bindS, nzI_ok (by omega), bindS]
      have := hmod x.1 b.1
      exact ⟨_, rfl, ⟨this.1, .inl this.2⟩, a0, by simp only; omega⟩
theorem among_ok (q : Sl00Src) (l : List Int) (hc : srcB q.code) (h0 : 0 ≤ q.at_) (h1 : q.at_ ≤ 2305843009213693952) (hl : 0 < l.length) :
    ∃ r, sh124 q l = some r ∧ r.1 ∈ l ∧ 0 ≤ r.2.1 ∧ r.2.1 ≤ q.at_ + 2 := by
  unfold sh124
  obtain ⟨x, e, b, a0, a1⟩ := pick_ok q l.length hc h0 h1
  have hx : x.1.toNat < l.length := by omega
  rw [e, bindS, getI_toNat b.1 hx, bindS]
  exact ⟨_, rfl, List.getElem_mem hx, a0, a1⟩
theorem f6big_eq (c : List Int) (h : c.length ≤ 9223372036854775807) : sh45 c = some (decide (4096 < c.length)) := by
  unfold sh45
  congr 1
  simp only [decide_eq_decide]; omega

/-! drawpoint -/
theorem l02Point_tot {p : SPanel} (hd : Dim p) (k : Int) : ∃ r, sh155 p k = some r := by
  have h1 := hd.h1; have h2 := hd.h2
  unfold sh155
  obtain ⟨y, hy, hy1, hy2⟩ := iter_inv (sb := sh155_1 p k) (s0 := 1) (fun y => 1 ≤ y ∧ y ≤ 16) (fun y => (16 - y).toNat) (fun y => 1 ≤ y ∧ y ≤ 16) (by omega) (by decide) (by
    intro y ⟨i1, i2⟩
    have hw : w64 (y + 1) = y + 1 := w64_id (by omega) (by omega)
    have hw2 : w64 (2 * p.H) = 2 * p.H := w64_id (by omega) (by omega)
    simp only [sh155_1, hw, hw2]
    by_cases hc : y + 1 < 2 * p.H
    · rw [decide_eq_true hc, cond_true, row_spec hd (by omega) (by omega), bindS, bindS]
      cases decide ((y + 1 - 1) * p.W - (y + 1) / 2 ≤ k)
      · right
        exact ⟨_, rfl, i1, i2⟩
      · left
        exact ⟨_, rfl, ⟨by omega, by omega⟩, by omega⟩
    · right
      rw [decide_eq_false hc, cond_false, bindS, cond_false]
      exact ⟨_, rfl, i1, i2⟩)
  rw [hy, bindS, row_spec hd hy1 hy2, bindS]
  exact ⟨_, rfl⟩

/-! cross -/
/-! ### inner points, in their order -/
def rowK (p : SPanel) (y : Int) : Int := (y - 1) * p.W - y / 2
def cntK (p : SPanel) (y : Int) : Int := if y % 2 = 1 then p.W - 1 else p.W
theorem rowK_succ (p : SPanel) (y : Int) (_h : 1 ≤ y) : rowK p (y + 1) = rowK p y + cntK p y := by
  have e : (y + 1 - 1) * p.W = (y - 1) * p.W + p.W := by grind
  unfold rowK cntK
  rw [e]
  split <;> omega
theorem rowK_mono {p : SPanel} (hw : 1 ≤ p.W) {a b : Int} (h : a ≤ b) : rowK p a ≤ rowK p b := by
  have e : (b - 1) * p.W = (a - 1) * p.W + (b - a) * p.W := by rw [← Int.add_mul]; congr 1; omega
  have m : (b - a) * 1 ≤ (b - a) * p.W := Int.mul_le_mul_of_nonneg_left hw (by omega)
  unfold rowK
  rw [e]
  omega
def rowPts (p : SPanel) (y : Int) : List SPoint := (List.range (cntK p y).toNat).map fun (j : Nat) => ⟨1 + y % 2 + 2 * (j : Int), y⟩
def ptsN (p : SPanel) : Nat → List SPoint
  | 0 => []
  | n + 1 => ptsN p n ++ rowPts p ((n : Int) + 1)
theorem ptsN_len {p : SPanel} (hd : Dim p) : ∀ n : Nat, ((ptsN p n).length : Int) = rowK p ((n : Int) + 1)
  | 0 => by simp [ptsN, rowK]
  | n + 1 => by
    have ih := ptsN_len hd n
    have hs := rowK_succ p ((n : Int) + 1) (by omega)
    have hc : 0 ≤ cntK p ((n : Int) + 1) := by have := hd.w1; unfold cntK; split <;> omega
    unfold ptsN
    rw [List.length_append, Int.natCast_add, ih, Int.natCast_add]
    unfold rowPts
    rw [List.length_map, List.length_range, Int.toNat_of_nonneg hc]
    simp only [Int.natCast_one]
    omega
theorem inner_pts {p : SPanel} (hd : Dim p) {y : Int} (h1 : 1 ≤ y) (h2 : y < 2 * p.H) (l : List SPoint) (hl : l.length ≤ 1000) : iter (sh149_2 p y) (w64 (1 + (y.tmod 2)), l) = some (l ++ rowPts p y) := by
  have d1 := hd.w1; have d2 := hd.w2; have d3 := hd.h2
  have hc : 0 ≤ cntK p y := by unfold cntK; split <;> omega
  have hc2 : cntK p y ≤ 8 := by unfold cntK; split <;> omega
  have hm : y.tmod 2 = y % 2 := Int.tmod_eq_emod_of_nonneg (by omega)
  have hw : w64 (2 * p.W) = 2 * p.W := w64_id (by omega) (by omega)
  have h0 : w64 (1 + (y.tmod 2)) = 1 + y % 2 + 2 * ((0 : Nat) : Int) := by rw [hm, w64_id (by omega) (by omega)]; omega
  have hrl : (rowPts p y).length = (cntK p y).toNat := by unfold rowPts; rw [List.length_map, List.length_range]
  have hi := iter_steps (sb := sh149_2 p y) (fun j => (1 + y % 2 + 2 * (j : Int), l ++ (rowPts p y).take j)) (cntK p y).toNat (x := l ++ rowPts p y) (by omega) (fun j hj => ?_) ?_
  · rw [h0]
    simpa using hi
  · have hd1 : decide (1 + y % 2 + 2 * (j : Int) < 2 * p.W) = true := by
      refine decide_eq_true ?_
      unfold cntK at hj hc
      split at hj <;> omega
    have hjl : j < (rowPts p y).length := by omega
    simp only [sh149_2, hw, hd1, cond_true]
    rw [appL_ok (by simp only [List.length_append, List.length_take, List.length_cons, List.length_nil]; omega), bindS, w64_id (by omega) (by omega), List.take_succ_eq_append_getElem hjl, List.append_assoc]
    have e : (rowPts p y)[j] = ⟨1 + y % 2 + 2 * (j : Int), y⟩ := by simp [rowPts]
    rw [e, show 1 + y % 2 + 2 * (j : Int) + 2 = 1 + y % 2 + 2 * ((j + 1 : Nat) : Int) by omega]
  · have hd1 : decide (1 + y % 2 + 2 * (((cntK p y).toNat : Nat) : Int) < 2 * p.W) = false := by
      refine decide_eq_false ?_
      rw [Int.toNat_of_nonneg hc]
      unfold cntK
      split <;> omega
    simp only [sh149_2, hw, hd1, cond_false]
    rw [List.take_of_length_le (by omega)]
theorem ptsN_small {p : SPanel} (hd : Dim p) {n : Nat} (hn : n ≤ 15) : (ptsN p n).length ≤ 128 := by
  have h := ptsN_len hd n
  have d1 := hd.w1; have d2 := hd.w2
  have m : (n : Int) * p.W ≤ 15 * 8 := Int.mul_le_mul (by omega) d2 (by omega) (by omega)
  unfold rowK at h
  rw [show (n : Int) + 1 - 1 = n by omega] at h
  omega
theorem points_impl {p : SPanel} (hd : Dim p) : sh149 p = some (ptsN p (2 * p.H - 1).toNat) := by
  have d1 := hd.h1; have d2 := hd.h2
  have hw : w64 (2 * p.H) = 2 * p.H := w64_id (by omega) (by omega)
  unfold sh149
  have hi := iter_steps (sb := sh149_1 p) (fun n => ((n : Int) + 1, ptsN p n)) (2 * p.H - 1).toNat (x := ptsN p (2 * p.H - 1).toNat) (by omega) (fun n hn => ?_) ?_
  · have e0 : ptsN p 0 = [] := rfl
    simp only [Int.natCast_zero, Int.zero_add, e0] at hi
    rw [hi]; rfl
  · have hd1 : decide ((n : Int) + 1 < 2 * p.H) = true := decide_eq_true (by omega)
    have hs := ptsN_small hd (n := n) (by omega)
    simp only [sh149_1, hw, hd1, cond_true]
    rw [inner_pts hd (by omega) (by omega) _ (by omega), bindS, w64_id (by omega) (by omega)]
    rfl
  · have hd1 : decide ((((2 * p.H - 1).toNat : Nat) : Int) + 1 < 2 * p.H) = false := decide_eq_false (by omega)
    simp only [sh149_1, hw, hd1, cond_false]
theorem point_at {p : SPanel} (hd : Dim p) {y j : Int} (h1 : 1 ≤ y) (h2 : y < 2 * p.H) (h3 : 0 ≤ j) (h4 : j < cntK p y) : sh155 p (rowK p y + j) = some ⟨1 + y % 2 + 2 * j, y⟩ := by
  have d1 := hd.h1; have d2 := hd.h2; have d3 := hd.w1; have d4 := hd.w2
  have hw2 : w64 (2 * p.H) = 2 * p.H := w64_id (by omega) (by omega)
  have hc2 : cntK p y ≤ 8 := by unfold cntK; split <;> omega
  have hrow : 0 ≤ rowK p y ∧ rowK p y ≤ 200 := by
    have m : (y - 1) * p.W ≤ 15 * 8 := Int.mul_le_mul (by omega) d4 (by omega) (by omega)
    have m2 : (y - 1) * 1 ≤ (y - 1) * p.W := Int.mul_le_mul_of_nonneg_left d3 (by omega)
    unfold rowK
    omega
  unfold sh155
  obtain ⟨z, hz, rfl⟩ := iter_inv (sb := sh155_1 p (rowK p y + j)) (s0 := 1) (fun z => 1 ≤ z ∧ z ≤ y) (fun z => (y - z).toNat) (fun z => z = y) (by omega) (by omega) (by
    intro z ⟨i1, i2⟩
    have hw : w64 (z + 1) = z + 1 := w64_id (by omega) (by omega)
    simp only [sh155_1, hw, hw2]
    by_cases hzy : z < y
    · left
      have hm := rowK_mono d3 (show z + 1 ≤ y by omega)
      have hc : decide ((z + 1 - 1) * p.W - (z + 1) / 2 ≤ rowK p y + j) = true := decide_eq_true (by unfold rowK at hm ⊢; omega)
      rw [decide_eq_true (show z + 1 < 2 * p.H by omega), cond_true, row_spec hd (by omega) (by omega), bindS, bindS, hc]
      exact ⟨_, rfl, ⟨by omega, by omega⟩, by omega⟩
    · right
      have hzy2 : z = y := by omega
      subst hzy2
      by_cases hc : z + 1 < 2 * p.H
      · have hs := rowK_succ p z i1
        have hc2 : decide ((z + 1 - 1) * p.W - (z + 1) / 2 ≤ rowK p z + j) = false := decide_eq_false (by unfold rowK at hs ⊢; omega)
        rw [decide_eq_true hc, cond_true, row_spec hd (by omega) (by omega), bindS, bindS, hc2]
        exact ⟨_, rfl, rfl⟩
      · rw [decide_eq_false hc, cond_false, bindS, cond_false]
        exact ⟨_, rfl, rfl⟩)
  have hr : sh182 p z = some (rowK p z) := row_spec hd h1 (by omega)
  have hm : z.tmod 2 = z % 2 := Int.tmod_eq_emod_of_nonneg (by omega)
  rw [hz, bindS, hr, bindS, hm, show rowK p z + j - rowK p z = j by omega, w64_id (x := j) (by omega) (by omega), w64_id (x := 2 * j) (by omega) (by omega), w64_id (x := 2 * j + 1) (by omega) (by omega), w64_id (by omega) (by omega)]
  rw [show 2 * j + 1 + z % 2 = 1 + z % 2 + 2 * j by omega]
/-- A point, and its number. -/
structure PtAt (p : SPanel) (k : Nat) (q : SPoint) : Prop where
  spec : sh155 p (k : Int) = some q
  x1 : 1 ≤ q.X
  x2 : q.X < 2 * p.W
  y1 : 1 ≤ q.Y
  y2 : q.Y < 2 * p.H
  odd : (q.X + q.Y) % 2 = 1
  num : numF p q.X q.Y = (k : Int)
theorem pts_at {p : SPanel} (hd : Dim p) : ∀ n : Nat, (n : Int) ≤ 2 * p.H - 1 → ∀ k (hk : k < (ptsN p n).length), PtAt p k (ptsN p n)[k]
  | 0, _, k, hk => by simp [ptsN] at hk
  | n + 1, hn, k, hk => by
    have d1 := hd.w1
    have ihl := ptsN_len hd n
    unfold ptsN at hk ⊢
    by_cases h : k < (ptsN p n).length
    · rw [List.getElem_append_left h]
      exact pts_at hd n (by omega) k h
    · rw [List.getElem_append_right (by omega)]
      rw [List.length_append] at hk
      have hc : 0 ≤ cntK p ((n : Int) + 1) := by unfold cntK; split <;> omega
      have hrl : (rowPts p ((n : Int) + 1)).length = (cntK p ((n : Int) + 1)).toNat := by unfold rowPts; rw [List.length_map, List.length_range]
      obtain ⟨j, hj⟩ : ∃ j, j = k - (ptsN p n).length := ⟨_, rfl⟩
      have e : (rowPts p ((n : Int) + 1))[k - (ptsN p n).length]'(by omega) = ⟨1 + ((n : Int) + 1) % 2 + 2 * (j : Int), (n : Int) + 1⟩ := by simp [rowPts, hj]
      rw [e]
      have hjc : (j : Int) < cntK p ((n : Int) + 1) := by omega
      have hkk : (k : Int) = rowK p ((n : Int) + 1) + (j : Int) := by omega
      have hs := point_at hd (y := (n : Int) + 1) (j := j) (by omega) (by omega) (by omega) hjc
      refine ⟨by rw [hkk]; exact hs, by simp only; omega, ?_, by simp only; omega, by simp only; omega, by simp only; omega, ?_⟩
      · simp only
        unfold cntK at hjc
        split at hjc <;> omega
      · simp only [numF]
        rw [hkk]
        unfold rowK
        omega
/-! ### the curves at a crossing -/
def mv (p : SPanel) (of : List Int) (q : SPoint) (dx dy : Int) : Int := of.getD (sgF p ⟨q, dx, dy⟩).toNat 0
theorem okW_at {p : SPanel} {k : Nat} {q : SPoint} (h : PtAt p k q) {dx dy : Int} (hx : dx = 1 ∨ dx = -1) (hy : dy = 1 ∨ dy = -1) : okW p ⟨q, dx, dy⟩ := by
  obtain ⟨_, x1, x2, y1, y2, o, _⟩ := h
  unfold okW
  simp only
  omega
theorem mv_bd {p : SPanel} (hd : Dim p) {cs : List (List SWalker)} {of : List Int} (ht : Tr p cs of (NS p)) {k : Nat} {q : SPoint} (h : PtAt p k q) {dx dy : Int} (hx : dx = 1 ∨ dx = -1) (hy : dy = 1 ∨ dy = -1) : (0 ≤ mv p of q dx dy ∧ mv p of q dx dy < (cs.length : Int)) ∧ getI of (sgF p ⟨q, dx, dy⟩) = some (mv p of q dx dy) := by
  have hok := okW_at h hx hy
  have hs := sg_lt hd hok
  refine ⟨⟨ht.own _ hs.1, ?_⟩, getI_sg hd hok ht.len⟩
  rcases ht.val (sgF p ⟨q, dx, dy⟩).toNat with h1 | h1
  · exact h1
  · omega
theorem mv_same {p : SPanel} (hd : Dim p) {cs : List (List SWalker)} {of : List Int} (ht : Tr p cs of (NS p)) {k : Nat} {q : SPoint} (h : PtAt p k q) (h0 : p.Breaks.getD k 0 = 0) : mv p of q (-1) (-1) = mv p of q 1 1 ∧ mv p of q 1 (-1) = mv p of q (-1) 1 := by
  have hbrk : brkF p q.X q.Y = 0 := by
    have h1 := h.x1; have h2 := h.x2; have h3 := h.y1; have h4 := h.y2
    unfold brkF
    rw [if_neg (by omega), h.num, Int.toNat_natCast, h0]
  have key : ∀ dx dy : Int, (dx = 1 ∨ dx = -1) → (dy = 1 ∨ dy = -1) → mv p of q (-dx) (-dy) = mv p of q dx dy := by
    intro dx dy hx hy
    have hw : okW p ⟨⟨q.X - dx, q.Y - dy⟩, dx, dy⟩ := by
      obtain ⟨_, x1, x2, y1, y2, o, _⟩ := h
      unfold okW
      simp only
      omega
    have hs : stp p ⟨⟨q.X - dx, q.Y - dy⟩, dx, dy⟩ = ⟨q, dx, dy⟩ := by
      have h1 := h.x1; have h2 := h.x2; have h3 := h.y1; have h4 := h.y2
      unfold stp
      simp only [Int.sub_add_cancel, hbrk]
      rw [if_neg (by omega), if_neg (by omega)]
    have hsg : sgF p ⟨⟨q.X - dx, q.Y - dy⟩, dx, dy⟩ = sgF p ⟨q, -dx, -dy⟩ := by
      unfold sgF
      simp only
      rcases hx with rfl | rfl <;> rcases hy with rfl | rfl <;> simp
    have := ht.clv _ hw (ht.own _ (sg_lt hd hw).1)
    rw [hs, hsg] at this
    unfold mv
    exact this.symm
  exact ⟨key 1 1 (.inl rfl) (.inl rfl), key (-1) 1 (.inr rfl) (.inl rfl)⟩
theorem meet_val {p : SPanel} (hd : Dim p) {cs : List (List SWalker)} {of : List Int} (ht : Tr p cs of (NS p)) {k : Nat} {q : SPoint} (h : PtAt p k q) : sh154 p of q = some [mv p of q (-1) (-1), mv p of q 1 (-1), mv p of q (-1) 1, mv p of q 1 1] := by
  unfold sh154
  have s1 := seg_spec hd (okW_at h (.inr rfl) (.inr rfl))
  have s2 := seg_spec hd (okW_at h (.inl rfl) (.inr rfl))
  have s3 := seg_spec hd (okW_at h (.inr rfl) (.inl rfl))
  have s4 := seg_spec hd (okW_at h (.inl rfl) (.inl rfl))
  have g1 := (mv_bd hd ht h (dx := -1) (dy := -1) (.inr rfl) (.inr rfl)).2
  have g2 := (mv_bd hd ht h (dx := 1) (dy := -1) (.inl rfl) (.inr rfl)).2
  have g3 := (mv_bd hd ht h (dx := -1) (dy := 1) (.inr rfl) (.inl rfl)).2
  have g4 := (mv_bd hd ht h (dx := 1) (dy := 1) (.inl rfl) (.inl rfl)).2
  generalize mv p of q (-1) (-1) = v1 at *
  generalize mv p of q 1 (-1) = v2 at *
  generalize mv p of q (-1) 1 = v3 at *
  generalize mv p of q 1 1 = v4 at *
  have hi := iter_steps (sb := sh154_1 p of q) (fun k => ((k : Int), [v1, v2, v3, v4].take k)) 4 (x := [v1, v2, v3, v4]) (by omega) (fun k hk => ?_) ?_
  · simp only [Int.natCast_zero, List.take_zero] at hi
    rw [hi]; rfl
  · have hk4 : k = 0 ∨ k = 1 ∨ k = 2 ∨ k = 3 := by omega
    rcases hk4 with rfl | rfl | rfl | rfl
    · have e1 : w64 ((w64 (((((0 : Nat) : Int).tmod 2) * 2))) - 1) = -1 := by decide
      have e2 : w64 ((w64 ((w64 (((0 : Nat) : Int).tdiv 2)) * 2)) - 1) = -1 := by decide
      have e3 : w64 (((0 : Nat) : Int) + 1) = ((1 : Nat) : Int) := by decide
      have hd1 : decide (((0 : Nat) : Int) < 4) = true := rfl
      simp only [sh154_1, hd1, cond_true, e1, e2, e3, s1, bindS, g1]
      rw [appL_ok (by simp)]; rfl
    · have e1 : w64 ((w64 (((((1 : Nat) : Int).tmod 2) * 2))) - 1) = 1 := by decide
      have e2 : w64 ((w64 ((w64 (((1 : Nat) : Int).tdiv 2)) * 2)) - 1) = -1 := by decide
      have e3 : w64 (((1 : Nat) : Int) + 1) = ((2 : Nat) : Int) := by decide
      have hd1 : decide (((1 : Nat) : Int) < 4) = true := rfl
      simp only [sh154_1, hd1, cond_true, e1, e2, e3, s2, bindS, g2]
      rw [appL_ok (by simp)]; rfl
    · have e1 : w64 ((w64 (((((2 : Nat) : Int).tmod 2) * 2))) - 1) = -1 := by decide
      have e2 : w64 ((w64 ((w64 (((2 : Nat) : Int).tdiv 2)) * 2)) - 1) = 1 := by decide
      have e3 : w64 (((2 : Nat) : Int) + 1) = ((3 : Nat) : Int) := by decide
      have hd1 : decide (((2 : Nat) : Int) < 4) = true := rfl
      simp only [sh154_1, hd1, cond_true, e1, e2, e3, s3, bindS, g3]
      rw [appL_ok (by simp)]; rfl
    · have e1 : w64 ((w64 (((((3 : Nat) : Int).tmod 2) * 2))) - 1) = 1 := by decide
      have e2 : w64 ((w64 ((w64 (((3 : Nat) : Int).tdiv 2)) * 2)) - 1) = 1 := by decide
      have e3 : w64 (((3 : Nat) : Int) + 1) = ((4 : Nat) : Int) := by decide
      have hd1 : decide (((3 : Nat) : Int) < 4) = true := rfl
      simp only [sh154_1, hd1, cond_true, e1, e2, e3, s4, bindS, g4]
      rw [appL_ok (by simp)]; rfl
  · have hd1 : decide (((4 : Nat) : Int) < 4) = false := rfl
    simp only [sh154_1, hd1, cond_false]
    rfl
theorem around_val {p : SPanel} (hd : Dim p) {k : Nat} {q : SPoint} (h : PtAt p k q) : sh183 p q = some ⟨sgF p ⟨q, -1, -1⟩, sgF p ⟨q, -1, 1⟩, sgF p ⟨q, 1, -1⟩, sgF p ⟨q, 1, 1⟩⟩ := by
  unfold sh183
  have s1 := seg_impl hd (okW_at h (.inr rfl) (.inr rfl))
  have s2 := seg_impl hd (okW_at h (.inr rfl) (.inl rfl))
  have s3 := seg_impl hd (okW_at h (.inl rfl) (.inr rfl))
  have s4 := seg_impl hd (okW_at h (.inl rfl) (.inl rfl))
  generalize sgF p ⟨q, -1, -1⟩ = v1 at *
  generalize sgF p ⟨q, -1, 1⟩ = v2 at *
  generalize sgF p ⟨q, 1, -1⟩ = v3 at *
  generalize sgF p ⟨q, 1, 1⟩ = v4 at *
  have hi := iter_steps (sb := sh183_1 p q) (fun k => ((k : Int), [v1, v2, v3, v4].take k ++ List.replicate (4 - k) 0)) 4 (x := [v1, v2, v3, v4]) (by omega) (fun k hk => ?_) ?_
  · simp only [Int.natCast_zero, List.take_zero, List.nil_append, Nat.sub_zero] at hi
    rw [hi]; rfl
  · have hk4 : k = 0 ∨ k = 1 ∨ k = 2 ∨ k = 3 := by omega
    rcases hk4 with rfl | rfl | rfl | rfl
    · have e : getI ([⟨-1, -1⟩, ⟨-1, 1⟩, ⟨1, -1⟩, ⟨1, 1⟩] : List A112) ((0 : Nat) : Int) = some ⟨-1, -1⟩ := rfl
      have a0 : getI [(-1 : Int), -1] (0 : Int) = some (-1) := rfl
      have a1 : getI [(-1 : Int), -1] (1 : Int) = some (-1) := rfl
      have e3 : w64 (((0 : Nat) : Int) + 1) = ((1 : Nat) : Int) := by decide
      have hd1 : decide (((0 : Nat) : Int) < 4) = true := rfl
      simp only [sh183_1, hd1, cond_true, e, bindS, a0, a1, s1, e3]
      rfl
    · have e : getI ([⟨-1, -1⟩, ⟨-1, 1⟩, ⟨1, -1⟩, ⟨1, 1⟩] : List A112) ((1 : Nat) : Int) = some ⟨-1, 1⟩ := rfl
      have a0 : getI [(-1 : Int), 1] (0 : Int) = some (-1) := rfl
      have a1 : getI [(-1 : Int), 1] (1 : Int) = some 1 := rfl
      have e3 : w64 (((1 : Nat) : Int) + 1) = ((2 : Nat) : Int) := by decide
      have hd1 : decide (((1 : Nat) : Int) < 4) = true := rfl
      simp only [sh183_1, hd1, cond_true, e, bindS, a0, a1, s2, e3]
      rfl
    · have e : getI ([⟨-1, -1⟩, ⟨-1, 1⟩, ⟨1, -1⟩, ⟨1, 1⟩] : List A112) ((2 : Nat) : Int) = some ⟨1, -1⟩ := rfl
      have a0 : getI [(1 : Int), -1] (0 : Int) = some 1 := rfl
      have a1 : getI [(1 : Int), -1] (1 : Int) = some (-1) := rfl
      have e3 : w64 (((2 : Nat) : Int) + 1) = ((3 : Nat) : Int) := by decide
      have hd1 : decide (((2 : Nat) : Int) < 4) = true := rfl
      simp only [sh183_1, hd1, cond_true, e, bindS, a0, a1, s3, e3]
      rfl
    · have e : getI ([⟨-1, -1⟩, ⟨-1, 1⟩, ⟨1, -1⟩, ⟨1, 1⟩] : List A112) ((3 : Nat) : Int) = some ⟨1, 1⟩ := rfl
      have a0 : getI [(1 : Int), 1] (0 : Int) = some 1 := rfl
      have a1 : getI [(1 : Int), 1] (1 : Int) = some 1 := rfl
      have e3 : w64 (((3 : Nat) : Int) + 1) = ((4 : Nat) : Int) := by decide
      have hd1 : decide (((3 : Nat) : Int) < 4) = true := rfl
      simp only [sh183_1, hd1, cond_true, e, bindS, a0, a1, s4, e3]
      rfl
  · have hd1 : decide (((4 : Nat) : Int) < 4) = false := rfl
    simp only [sh183_1, hd1, cond_false]
    rfl
theorem sort_two (a b : Int) : sortL [a, b, b, a] = if a ≤ b then [a, a, b, b] else [b, b, a, a] := by
  unfold sortL
  by_cases h : a ≤ b
  · by_cases h2 : b ≤ a
    · have : a = b := by omega
      subst this
      simp [List.mergeSort, List.MergeSort.Internal.splitInTwo, List.merge]
    · simp [List.mergeSort, List.MergeSort.Internal.splitInTwo, List.merge, h, h2]
  · have h2 : b ≤ a := by omega
    simp [List.mergeSort, List.MergeSort.Internal.splitInTwo, List.merge, h, h2]
theorem compact_two (a b : Int) : Lib.compact [a, a, b, b] = if a = b then [a] else [a, b] := by
  unfold Lib.compact
  show Lib.compactUpTo _ (0 + 1 + 1 + 1 + 1) = _
  rw [Lib.compactUpTo_succ, Lib.compactUpTo_succ, Lib.compactUpTo_succ, Lib.compactUpTo_succ]
  by_cases h : a = b
  · subst h; simp [Lib.compactUpTo, Lib.keeps]
  · have h2 : ¬ b = a := fun e => h e.symm
    simp [Lib.compactUpTo, Lib.keeps, h, h2]
theorem curvesAt_val {p : SPanel} (hd : Dim p) {cs : List (List SWalker)} {of : List Int} (ht : Tr p cs of (NS p)) {k : Nat} {q : SPoint} (h : PtAt p k q) (h0 : p.Breaks.getD k 0 = 0) :
    sh157 p of q = some (if mv p of q (-1) (-1) = mv p of q 1 (-1) then [mv p of q (-1) (-1)] else if mv p of q (-1) (-1) ≤ mv p of q 1 (-1) then [mv p of q (-1) (-1), mv p of q 1 (-1)] else [mv p of q 1 (-1), mv p of q (-1) (-1)]) := by
  obtain ⟨e1, e2⟩ := mv_same hd ht h h0
  unfold sh157
  rw [around_val hd h, bindS]
  have g1 := (mv_bd hd ht h (dx := -1) (dy := -1) (.inr rfl) (.inr rfl)).2
  have g3 := (mv_bd hd ht h (dx := 1) (dy := -1) (.inl rfl) (.inr rfl)).2
  have g2 := (mv_bd hd ht h (dx := -1) (dy := 1) (.inr rfl) (.inl rfl)).2
  have g4 := (mv_bd hd ht h (dx := 1) (dy := 1) (.inl rfl) (.inl rfl)).2
  rw [← e2] at g2
  rw [← e1] at g4
  generalize mv p of q (-1) (-1) = a at *
  generalize mv p of q 1 (-1) = b at *
  generalize sgF p ⟨q, -1, -1⟩ = v1 at *
  generalize sgF p ⟨q, -1, 1⟩ = v2 at *
  generalize sgF p ⟨q, 1, -1⟩ = v3 at *
  generalize sgF p ⟨q, 1, 1⟩ = v4 at *
  have hi := iter_steps (sb := sh157_1 of ⟨v1, v2, v3, v4⟩) (fun k => ((k : Int), [a, b, b, a].take k)) 4 (x := [a, b, b, a]) (by omega) (fun k hk => ?_) ?_
  · simp only [Int.natCast_zero, List.take_zero] at hi
    have hs : sortR [a, b, b, a] = some (sortL [a, b, b, a]) := by unfold sortR; rw [if_pos (by simp)]
    rw [hi, bindS, hs, bindS, sort_two]
    by_cases hab : a ≤ b
    · rw [if_pos hab]
      unfold compR
      rw [compact_two, if_pos (by refine ⟨by simp, ?_⟩; split <;> simp), bindS]
      rw [if_pos hab]
    · rw [if_neg hab]
      unfold compR
      rw [compact_two, if_pos (by refine ⟨by simp, ?_⟩; split <;> simp), bindS, if_neg (show ¬ b = a by omega), if_neg (show ¬ a = b by omega), if_neg hab]
  · have hk4 : k = 0 ∨ k = 1 ∨ k = 2 ∨ k = 3 := by omega
    rcases hk4 with rfl | rfl | rfl | rfl
    · have e : getI ([v1, v2, v3, v4] : List Int) ((0 : Nat) : Int) = some v1 := rfl
      have e3 : w64 (((0 : Nat) : Int) + 1) = ((1 : Nat) : Int) := by decide
      have hd1 : decide (((0 : Nat) : Int) < 4) = true := rfl
      simp only [sh157_1, hd1, cond_true, e, bindS, g1, e3]
      rw [appL_ok (by simp)]; rfl
    · have e : getI ([v1, v2, v3, v4] : List Int) ((1 : Nat) : Int) = some v2 := rfl
      have e3 : w64 (((1 : Nat) : Int) + 1) = ((2 : Nat) : Int) := by decide
      have hd1 : decide (((1 : Nat) : Int) < 4) = true := rfl
      simp only [sh157_1, hd1, cond_true, e, bindS, g2, e3]
      rw [appL_ok (by simp)]; rfl
    · have e : getI ([v1, v2, v3, v4] : List Int) ((2 : Nat) : Int) = some v3 := rfl
      have e3 : w64 (((2 : Nat) : Int) + 1) = ((3 : Nat) : Int) := by decide
      have hd1 : decide (((2 : Nat) : Int) < 4) = true := rfl
      simp only [sh157_1, hd1, cond_true, e, bindS, g3, e3]
      rw [appL_ok (by simp)]; rfl
    · have e : getI ([v1, v2, v3, v4] : List Int) ((3 : Nat) : Int) = some v4 := rfl
      have e3 : w64 (((3 : Nat) : Int) + 1) = ((4 : Nat) : Int) := by decide
      have hd1 : decide (((3 : Nat) : Int) < 4) = true := rfl
      simp only [sh157_1, hd1, cond_true, e, bindS, g4, e3]
      rw [appL_ok (by simp)]; rfl
  · have hd1 : decide (((4 : Nat) : Int) < 4) = false := rfl
    simp only [sh157_1, hd1, cond_false]
    rfl
/-! ### the table of crossings -/
structure Sq (n : Nat) (M : List (List Bool)) : Prop where
  len : M.length = n
  row : ∀ r ∈ M, r.length = n
def rowM (M : List (List Bool)) (a : Int) : List Bool := M.getD a.toNat []
def put2 (M : List (List Bool)) (a b : Int) : List (List Bool) := (M.set a.toNat ((rowM M a).set b.toNat true)).set b.toNat ((rowM M b).set a.toNat true)
theorem put2_comm (M : List (List Bool)) {a b : Int} (ha : 0 ≤ a) (hb : 0 ≤ b) (h : a ≠ b) : put2 M a b = put2 M b a := by
  unfold put2
  rw [List.set_comm _ _ (by omega)]
theorem Sq.getI {n : Nat} {M : List (List Bool)} (h : Sq n M) {a : Int} (h0 : 0 ≤ a) (h1 : a < (n : Int)) : getI M a = some (rowM M a) ∧ (rowM M a).length = n := by
  have hl : a.toNat < M.length := by rw [h.len]; omega
  have e : rowM M a = M[a.toNat] := by unfold rowM; rw [List.getD_eq_getElem?_getD, List.getElem?_eq_getElem hl]; rfl
  rw [e]
  exact ⟨getI_toNat h0 hl, h.row _ (List.getElem_mem hl)⟩
theorem Sq.put {n : Nat} {M : List (List Bool)} (h : Sq n M) {a b : Int} (h0 : 0 ≤ a) (h1 : a < (n : Int)) (h2 : 0 ≤ b) (h3 : b < (n : Int)) : Sq n (put2 M a b) := by
  have ra := (h.getI h0 h1).2
  have rb := (h.getI h2 h3).2
  refine ⟨by unfold put2; rw [List.length_set, List.length_set, h.len], fun r hr => ?_⟩
  unfold put2 at hr
  rcases List.mem_or_eq_of_mem_set hr with hr | hr
  · rcases List.mem_or_eq_of_mem_set hr with hr | hr
    · exact h.row r hr
    · rw [hr, List.length_set]; exact ra
  · rw [hr, List.length_set]; exact rb
theorem getI_set_ne {T : Type} {M : List T} {a b : Int} {x : T} (ha : 0 ≤ a) (hb : 0 ≤ b) (h : a ≠ b) : getI (M.set a.toNat x) b = getI M b := by
  unfold getI
  rw [if_pos hb, if_pos hb, List.getElem?_set, if_neg (by omega)]
/-- What one crossing does. -/
def stepM (p : SPanel) (of : List Int) (M : List (List Bool)) (k : Nat) : List (List Bool) :=
  if p.Breaks.getD k 0 = 0 ∧ mv p of ((ptsN p (2 * p.H - 1).toNat).getD k ⟨0, 0⟩) (-1) (-1) ≠ mv p of ((ptsN p (2 * p.H - 1).toNat).getD k ⟨0, 0⟩) 1 (-1) then put2 M (mv p of ((ptsN p (2 * p.H - 1).toNat).getD k ⟨0, 0⟩) (-1) (-1)) (mv p of ((ptsN p (2 * p.H - 1).toNat).getD k ⟨0, 0⟩) 1 (-1)) else M
def crossM (p : SPanel) (of : List Int) (n : Nat) : List (List Bool) := (List.range p.Breaks.length).foldl (stepM p of) (List.replicate n (List.replicate n false))
theorem pts_count {p : SPanel} (hd : Dim p) : (ptsN p (2 * p.H - 1).toNat).length = p.Breaks.length := by
  have h := ptsN_len hd (2 * p.H - 1).toNat
  have h1 := hd.h1
  rw [Int.toNat_of_nonneg (by omega)] at h
  have hb := hd.bl
  unfold rowK at h
  have e : (2 * p.H - 1 + 1 - 1) * p.W = 2 * (p.W * p.H) - p.W := by grind
  have e1 : p.W * (p.H - 1) = p.W * p.H - p.W := by grind
  have e2 : p.H * (p.W - 1) = p.W * p.H - p.H := by grind
  rw [e] at h
  rw [e1, e2] at hb
  omega
theorem pt_of {p : SPanel} (hd : Dim p) {k : Nat} (hk : k < p.Breaks.length) : PtAt p k ((ptsN p (2 * p.H - 1).toNat).getD k ⟨0, 0⟩) := by
  have h1 := hd.h1
  have hl : k < (ptsN p (2 * p.H - 1).toNat).length := by rw [pts_count hd]; exact hk
  rw [List.getD_eq_getElem?_getD, List.getElem?_eq_getElem hl]
  exact pts_at hd _ (by omega) k hl
theorem step_sq {p : SPanel} (hd : Dim p) {cs : List (List SWalker)} {of : List Int} (ht : Tr p cs of (NS p)) {M : List (List Bool)} (h : Sq cs.length M) {k : Nat} (hk : k < p.Breaks.length) : Sq cs.length (stepM p of M k) := by
  have hp := pt_of hd hk
  have b1 := (mv_bd hd ht hp (dx := -1) (dy := -1) (.inr rfl) (.inr rfl)).1
  have b2 := (mv_bd hd ht hp (dx := 1) (dy := -1) (.inl rfl) (.inr rfl)).1
  unfold stepM
  split
  · exact h.put b1.1 b1.2 b2.1 b2.2
  · exact h
theorem rep_loop (n : Nat) (hn : n ≤ 256) (sb : Int × List (List Bool) → Option ((Int × List (List Bool)) ⊕ List (List Bool))) (hs : ∀ k l, sb (k, l) = bif decide (k < (n : Int)) then (Option.bind (mkL (n : Int) false) fun x24 => Option.bind (appL l [x24]) fun x29 => some (.inl (w64 (k + 1), x29))) else (some (.inr l))) : iter sb (0, []) = some (List.replicate n (List.replicate n false)) := by
  have hi := iter_steps (sb := sb) (fun k => ((k : Int), List.replicate k (List.replicate n false))) n (x := List.replicate n (List.replicate n false)) (by omega) (fun k hk => ?_) ?_
  · simpa using hi
  · have hd : decide ((k : Int) < (n : Int)) = true := decide_eq_true (by omega)
    rw [hs, hd, cond_true, mkL_ok (by omega), bindS, appL_ok (by simp; omega), bindS, w64_id (by omega) (by omega), List.replicate_succ']
    rfl
  · have hd : decide ((n : Int) < (n : Int)) = false := by simp
    rw [hs, hd, cond_false]
theorem sq0 (n : Nat) : Sq n (List.replicate n (List.replicate n false)) := ⟨by simp, fun r hr => by rw [List.eq_of_mem_replicate hr]; simp⟩
theorem cross_spec {p : SPanel} (hp : panelB p = true) {cs : List (List SWalker)} {of : List Int} (h2 : sh116 p = some (cs.map ptsOf, of)) (ht : Tr p cs of (NS p)) (hc : cs.length ≤ 256) : sh94 p = some (crossM p of cs.length) := by
  have hd := dim_of hp
  have hb := (panelB_facts hp).2.2.2.2
  unfold sh94
  rw [h2, bindS, rep_loop cs.length hc (sh94_1 (cs.map ptsOf, of)) (fun k l => by simp only [sh94_1, List.length_map]), bindS]
  have hi := iter_fold (sb := sh94_2 p (cs.map ptsOf, of)) (List.range p.Breaks.length) (fun k (M : List (List Bool)) => ((k : Int), M)) (stepM p of) (fun M => M) (fun _ M => Sq cs.length M) (List.replicate cs.length (List.replicate cs.length false)) (sq0 _) (by rw [List.length_range]; omega) (fun k hk M hM => ?_) (fun M _ => by
      have hdd : decide ((((List.range p.Breaks.length).length : Nat) : Int) < (p.Breaks.length : Int)) = false := by rw [List.length_range]; simp
      simp only [sh94_2, hdd, cond_false])
  · have h1 := hi.1
    simp only [Int.natCast_zero] at h1
    rw [h1]; rfl
  · rw [List.length_range] at hk
    rw [List.getElem_range]
    refine ⟨?_, step_sq hd ht hM hk⟩
    have hpt := pt_of hd hk
    have b1 := (mv_bd hd ht hpt (dx := -1) (dy := -1) (.inr rfl) (.inr rfl)).1
    have b2 := (mv_bd hd ht hpt (dx := 1) (dy := -1) (.inl rfl) (.inr rfl)).1
    have hdd : decide ((k : Int) < (p.Breaks.length : Int)) = true := decide_eq_true (by omega)
    have hgk : getI p.Breaks (k : Int) = some (p.Breaks.getD k 0) := by rw [getI_lt hk, List.getD_eq_getElem?_getD, List.getElem?_eq_getElem hk]; rfl
    have w1 : w64 ((k : Int) + 1) = ((k + 1 : Nat) : Int) := by rw [w64_id (by omega) (by omega)]; rfl
    simp only [sh94_2, hdd, cond_true, hpt.spec, bindS, meet_val hd ht hpt, hgk, w1]
    unfold stepM
    generalize (ptsN p (2 * p.H - 1).toNat).getD k ⟨0, 0⟩ = q at *
    generalize mv p of q (-1) (-1) = a at *
    generalize mv p of q 1 (-1) = b at *
    have g0 : getI [a, b, mv p of q (-1) 1, mv p of q 1 1] (0 : Int) = some a := rfl
    have g1 : getI [a, b, mv p of q (-1) 1, mv p of q 1 1] (1 : Int) = some b := rfl
    simp only [g0, g1, bindS]
    by_cases h : p.Breaks.getD k 0 = 0 ∧ a ≠ b
    · have hcb : ((p.Breaks.getD k 0 == 0) && (a != b)) = true := by simp only [Bool.and_eq_true, beq_iff_eq, bne_iff_ne]; exact h
      obtain ⟨ra, rla⟩ := hM.getI b1.1 b1.2
      obtain ⟨rb, rlb⟩ := hM.getI b2.1 b2.2
      have e1 : getI (rowM M a) b = some (rowM M a)[b.toNat] := getI_toNat b2.1 (by omega)
      have e2 : getI (rowM M b) a = some (rowM M b)[a.toNat] := getI_toNat b1.1 (by omega)
      rw [hcb, cond_true, ra, bindS, e1, bindS, getI_set_ne b1.1 b2.1 h.2, rb, bindS, e2, bindS, bindS, if_pos h]
      rfl
    · have hcb : ((p.Breaks.getD k 0 == 0) && (a != b)) = false := by
        cases hh : ((p.Breaks.getD k 0 == 0) && (a != b))
        · rfl
        · simp only [Bool.and_eq_true, beq_iff_eq, bne_iff_ne] at hh
          exact absurd hh h
      rw [hcb, cond_false, bindS, if_neg h]
def crossK (p : SPanel) : List Nat := (List.range p.Breaks.length).filter fun k => p.Breaks.getD k 0 == 0
theorem crossings_val {p : SPanel} (hp : panelB p = true) : sh156 p = some ((crossK p).map fun k => (ptsN p (2 * p.H - 1).toNat).getD k ⟨0, 0⟩) := by
  have hd := dim_of hp
  have hb := (panelB_facts hp).2.2.2.2
  have hl := pts_count hd
  unfold sh156
  rw [points_impl hd, bindS]
  generalize hP : ptsN p (2 * p.H - 1).toNat = P at *
  have hi := iter_steps (sb := sh156_1 p P) (fun k => ((k : Int), (((List.range k).filter fun k => p.Breaks.getD k 0 == 0)).map fun k => P.getD k ⟨0, 0⟩)) P.length (x := (crossK p).map fun k => P.getD k ⟨0, 0⟩) (by omega) (fun k hk => ?_) ?_
  · simp only [Int.natCast_zero, List.range_zero, List.filter_nil, List.map_nil] at hi
    rw [hi]; rfl
  · have hdd : decide ((k : Int) < (P.length : Int)) = true := decide_eq_true (by omega)
    have hkb : k < p.Breaks.length := by omega
    have hgk : getI p.Breaks (k : Int) = some (p.Breaks.getD k 0) := by rw [getI_lt hkb, List.getD_eq_getElem?_getD, List.getElem?_eq_getElem hkb]; rfl
    have hgp : getI P (k : Int) = some (P.getD k ⟨0, 0⟩) := by rw [getI_lt hk, List.getD_eq_getElem?_getD, List.getElem?_eq_getElem hk]; rfl
    have w1 : w64 ((k : Int) + 1) = ((k + 1 : Nat) : Int) := by rw [w64_id (by omega) (by omega)]; rfl
    simp only [sh156_1, hdd, cond_true, hgp, hgk, bindS, w1]
    rw [List.range_succ, List.filter_append, List.map_append]
    cases h0 : (p.Breaks.getD k 0 == 0)
    · have hf : ([k].filter fun k => p.Breaks.getD k 0 == 0) = [] := by
        show (match (p.Breaks.getD k 0 == 0) with | true => k :: [] | false => []) = []
        rw [h0]
      rw [hf, List.map_nil, List.append_nil, cond_false, bindS]
    · have hf : ([k].filter fun k => p.Breaks.getD k 0 == 0) = [k] := by
        show (match (p.Breaks.getD k 0 == 0) with | true => k :: [] | false => []) = [k]
        rw [h0]
      have hfl := List.length_filter_le (fun k => p.Breaks.getD k 0 == 0) (List.range k)
      rw [List.length_range] at hfl
      rw [hf, cond_true, appL_ok (by simp only [List.length_map, List.length_cons, List.length_nil]; omega), bindS, bindS]
      rfl
  · have hdd : decide ((P.length : Int) < (P.length : Int)) = false := by simp
    simp only [sh156_1, hdd, cond_false]
    unfold crossK
    rw [hl]
theorem foldl_filter' {α β : Type} (f g : β → α → β) (t : α → Bool) (hf : ∀ b a, t a = false → f b a = b) (hg : ∀ b a, t a = true → f b a = g b a) : ∀ (l : List α) (b : β), l.foldl f b = (l.filter t).foldl g b
  | [], b => rfl
  | a :: l, b => by
    cases h : t a
    · rw [List.foldl_cons, hf b a h, List.filter_cons_of_neg (by simp [h])]
      exact foldl_filter' f g t hf hg l b
    · rw [List.foldl_cons, hg b a h, List.filter_cons_of_pos h, List.foldl_cons]
      exact foldl_filter' f g t hf hg l _
theorem cross_impl {p : SPanel} (hp : panelB p = true) {cs : List (List SWalker)} {of : List Int} (h2 : sh114 p = some (cs, of)) (ht : Tr p cs of (NS p)) (hc : cs.length ≤ 256) : sh98 p = some (crossM p of cs.length) := by
  have hd := dim_of hp
  have hb := (panelB_facts hp).2.2.2.2
  unfold sh98
  rw [count_eq h2, bindS, rep_loop cs.length hc (sh98_1 (cs.length : Int)) (fun k l => by simp only [sh98_1]), bindS, h2, bindS, crossings_val hp, bindS]
  have hfl : (crossK p).length ≤ p.Breaks.length := by
    have := List.length_filter_le (fun k => p.Breaks.getD k 0 == 0) (List.range p.Breaks.length)
    rw [List.length_range] at this
    exact this
  have hi := iter_fold (sb := sh98_2 p (cs, of) ((crossK p).map fun k => (ptsN p (2 * p.H - 1).toNat).getD k ⟨0, 0⟩)) (crossK p) (fun k (M : List (List Bool)) => ((k : Int), M)) (stepM p of) (fun M => M) (fun _ M => Sq cs.length M) (List.replicate cs.length (List.replicate cs.length false)) (sq0 _) (by omega) (fun i hi M hM => ?_) (fun M _ => by
      have hdd : decide (((crossK p).length : Int) < ((((crossK p).map fun k => (ptsN p (2 * p.H - 1).toNat).getD k ⟨0, 0⟩).length : Nat) : Int)) = false := by rw [List.length_map]; simp
      simp only [sh98_2, hdd, cond_false])
  · have h1 := hi.1
    simp only [Int.natCast_zero] at h1
    have hE := foldl_filter' (stepM p of) (stepM p of) (fun k => p.Breaks.getD k 0 == 0) (fun b a h => by
      unfold stepM
      rw [if_neg (fun hh => by rw [hh.1] at h; cases h)]) (fun b a h => rfl) (List.range p.Breaks.length) (List.replicate cs.length (List.replicate cs.length false))
    rw [h1, bindS]
    unfold crossM
    rw [hE]
    rfl
  · have hmem : (crossK p)[i] ∈ crossK p := List.getElem_mem hi
    have hmf := List.mem_filter.1 (show (crossK p)[i] ∈ (List.range p.Breaks.length).filter fun k => p.Breaks.getD k 0 == 0 from hmem)
    have hgk : getI ((crossK p).map fun k => (ptsN p (2 * p.H - 1).toNat).getD k ⟨0, 0⟩) (i : Int) = some ((ptsN p (2 * p.H - 1).toNat).getD (crossK p)[i] ⟨0, 0⟩) := by
      rw [getI_lt (by rw [List.length_map]; exact hi), List.getElem_map]
    have hk0 : (crossK p)[i] < p.Breaks.length ∧ p.Breaks.getD (crossK p)[i] 0 = 0 := ⟨List.mem_range.1 hmf.1, by simpa using hmf.2⟩
    generalize (crossK p)[i] = k at hk0 hgk
    refine ⟨?_, step_sq hd ht hM hk0.1⟩
    have hpt := pt_of hd hk0.1
    have b1 := (mv_bd hd ht hpt (dx := -1) (dy := -1) (.inr rfl) (.inr rfl)).1
    have b2 := (mv_bd hd ht hpt (dx := 1) (dy := -1) (.inl rfl) (.inr rfl)).1
    have hdd : decide ((i : Int) < ((((crossK p).map fun k => (ptsN p (2 * p.H - 1).toNat).getD k ⟨0, 0⟩).length : Nat) : Int)) = true := decide_eq_true (by rw [List.length_map]; omega)
    have w1 : w64 ((i : Int) + 1) = ((i + 1 : Nat) : Int) := by rw [w64_id (by omega) (by omega)]; rfl
    simp only [sh98_2, hdd, cond_true, hgk, bindS, curvesAt_val hd ht hpt hk0.2, w1]
    unfold stepM
    generalize (ptsN p (2 * p.H - 1).toNat).getD k ⟨0, 0⟩ = q at *
    generalize mv p of q (-1) (-1) = a at *
    generalize mv p of q 1 (-1) = b at *
    obtain ⟨ra, rla⟩ := hM.getI b1.1 b1.2
    obtain ⟨rb, rlb⟩ := hM.getI b2.1 b2.2
    have e1 : getI (rowM M a) b = some (rowM M a)[b.toNat] := getI_toNat b2.1 (by omega)
    have e2 : getI (rowM M b) a = some (rowM M b)[a.toNat] := getI_toNat b1.1 (by omega)
    by_cases hab : a = b
    · have hl : ((([a] : List Int).length : Int) == 2) = false := rfl
      rw [if_pos hab, hl, cond_false, bindS, if_neg (fun h => h.2 hab)]
    · rw [if_neg hab, if_pos (show p.Breaks.getD k 0 = 0 ∧ a ≠ b from ⟨hk0.2, hab⟩)]
      by_cases hle : a ≤ b
      · have hl : ((([a, b] : List Int).length : Int) == 2) = true := rfl
        have g0 : getI [a, b] (0 : Int) = some a := rfl
        have g1 : getI [a, b] (1 : Int) = some b := rfl
        rw [if_pos hle, hl, cond_true]
        simp only [g0, g1, bindS, ra, rb, e1, getI_set_ne b1.1 b2.1 hab, e2]
        rfl
      · have hl : ((([b, a] : List Int).length : Int) == 2) = true := rfl
        have g0 : getI [b, a] (0 : Int) = some b := rfl
        have g1 : getI [b, a] (1 : Int) = some a := rfl
        rw [if_neg hle, hl, cond_true, put2_comm M b1.1 b2.1 hab]
        simp only [g0, g1, bindS, ra, rb, e2, getI_set_ne b2.1 b1.1 (fun h => hab h.symm), e1]
        rfl
theorem cross_sq {p : SPanel} (hd : Dim p) {cs : List (List SWalker)} {of : List Int} (ht : Tr p cs of (NS p)) : Sq cs.length (crossM p of cs.length) := by
  unfold crossM
  have key : ∀ (l : List Nat) (M : List (List Bool)), (∀ k ∈ l, k < p.Breaks.length) → Sq cs.length M → Sq cs.length (l.foldl (stepM p of) M) := by
    intro l
    induction l with
    | nil => intro M _ h; exact h
    | cons k l ih =>
      intro M hk h
      rw [List.foldl_cons]
      exact ih _ (fun x hx => hk x (List.mem_cons_of_mem _ hx)) (step_sq hd ht h (hk k (List.mem_cons_self ..)))
  exact key _ _ (fun k hk => List.mem_range.1 hk) (sq0 _)

/-! colouring -/
/-! ### the table is symmetric -/
def ent (M : List (List Bool)) (a b : Nat) : Bool := (M.getD a []).getD b false
theorem getD_setG {T : Type} (l : List T) (i j : Nat) (x d : T) (h : i < l.length) : (l.set i x).getD j d = if i = j then x else l.getD j d := by
  rw [List.getD_eq_getElem?_getD, List.getD_eq_getElem?_getD, List.getElem?_set]
  by_cases hij : i = j
  · subst hij; simp [h]
  · simp [hij]
theorem Sq.ent {n : Nat} {M : List (List Bool)} (h : Sq n M) {a b : Nat} (ha : a < n) (hb : b < n) : Go.Sh.getI M (a : Int) = some (M.getD a []) ∧ (M.getD a []).length = n ∧ Go.Sh.getI (M.getD a []) (b : Int) = some (Go.Sh.ent M a b) := by
  have hl : a < M.length := by rw [h.len]; exact ha
  have e : M.getD a [] = M[a] := by rw [List.getD_eq_getElem?_getD, List.getElem?_eq_getElem hl]; rfl
  have hr := h.row _ (List.getElem_mem hl)
  unfold Go.Sh.ent
  rw [e]
  have hb2 : b < M[a].length := by omega
  exact ⟨getI_lt hl, hr, by rw [getI_lt hb2, List.getD_eq_getElem?_getD, List.getElem?_eq_getElem hb2]; rfl⟩
structure Sy (n : Nat) (M : List (List Bool)) : Prop where
  sq : Sq n M
  sym : ∀ a b, a < n → b < n → ent M a b = ent M b a
  irr : ∀ a, a < n → ent M a a = false
theorem ent_put {n : Nat} {M : List (List Bool)} (h : Sq n M) {a b : Nat} (ha : a < n) (hb : b < n) (hab : a ≠ b) (i j : Nat) : ent (put2 M (a : Int) (b : Int)) i j = if (i = a ∧ j = b) ∨ (i = b ∧ j = a) then true else ent M i j := by
  have la := (h.ent ha ha).2.1
  have lb := (h.ent hb hb).2.1
  unfold ent put2 rowM
  simp only [Int.toNat_natCast]
  rw [getD_setG _ _ _ _ _ (by rw [List.length_set, h.len]; exact hb)]
  by_cases hi : b = i
  · subst hi
    rw [if_pos rfl, getD_setG _ _ _ _ _ (by omega)]
    by_cases hj : a = j
    · subst hj
      rw [if_pos rfl, if_pos (.inr ⟨rfl, rfl⟩)]
    · rw [if_neg hj, if_neg (by omega)]
  · rw [if_neg hi, getD_setG _ _ _ _ _ (by rw [h.len]; exact ha)]
    by_cases hi2 : a = i
    · subst hi2
      rw [if_pos rfl, getD_setG _ _ _ _ _ (by omega)]
      by_cases hj : b = j
      · subst hj
        rw [if_pos rfl, if_pos (.inl ⟨rfl, rfl⟩)]
      · rw [if_neg hj, if_neg (by omega)]
    · rw [if_neg hi2, if_neg (by omega)]
theorem sy0 (n : Nat) : Sy n (List.replicate n (List.replicate n false)) := by
  have e : ∀ a b, ent (List.replicate n (List.replicate n false)) a b = false := by
    intro a b
    unfold ent
    rw [List.getD_eq_getElem?_getD, List.getD_eq_getElem?_getD, List.getElem?_replicate]
    split
    · simp only [Option.getD_some, List.getElem?_replicate]
      split <;> rfl
    · rfl
  exact ⟨sq0 n, fun a b _ _ => by rw [e, e], fun a _ => e a a⟩
theorem step_sy {p : SPanel} (hd : Dim p) {cs : List (List SWalker)} {of : List Int} (ht : Tr p cs of (NS p)) {M : List (List Bool)} (h : Sy cs.length M) {k : Nat} (hk : k < p.Breaks.length) : Sy cs.length (stepM p of M k) := by
  have hp := pt_of hd hk
  have b1 := (mv_bd hd ht hp (dx := -1) (dy := -1) (.inr rfl) (.inr rfl)).1
  have b2 := (mv_bd hd ht hp (dx := 1) (dy := -1) (.inl rfl) (.inr rfl)).1
  have hs := step_sq hd ht h.sq hk
  unfold stepM at hs ⊢
  generalize (ptsN p (2 * p.H - 1).toNat).getD k ⟨0, 0⟩ = q at *
  generalize mv p of q (-1) (-1) = a at *
  generalize mv p of q 1 (-1) = b at *
  by_cases hc : p.Breaks.getD k 0 = 0 ∧ a ≠ b
  · rw [if_pos hc] at hs ⊢
    obtain ⟨x, rfl⟩ : ∃ x : Nat, a = x := ⟨a.toNat, by omega⟩
    obtain ⟨y, rfl⟩ : ∃ y : Nat, b = y := ⟨b.toNat, by omega⟩
    have hxy : x ≠ y := fun e => hc.2 (by rw [e])
    have hx : x < cs.length := by omega
    have hy : y < cs.length := by omega
    refine ⟨hs, fun i j hi hj => ?_, fun i hi => ?_⟩
    · rw [ent_put h.sq hx hy hxy, ent_put h.sq hx hy hxy, h.sym i j hi hj]
      by_cases h1 : (i = x ∧ j = y) ∨ (i = y ∧ j = x)
      · rw [if_pos h1, if_pos (by omega)]
      · rw [if_neg h1, if_neg (by omega)]
    · rw [ent_put h.sq hx hy hxy, if_neg (by omega)]
      exact h.irr i hi
  · rw [if_neg hc]; exact h
theorem cross_sy {p : SPanel} (hd : Dim p) {cs : List (List SWalker)} {of : List Int} (ht : Tr p cs of (NS p)) : Sy cs.length (crossM p of cs.length) := by
  unfold crossM
  have key : ∀ (l : List Nat) (M : List (List Bool)), (∀ k ∈ l, k < p.Breaks.length) → Sy cs.length M → Sy cs.length (l.foldl (stepM p of) M) := by
    intro l
    induction l with
    | nil => intro M _ h; exact h
    | cons k l ih =>
      intro M hk h
      rw [List.foldl_cons]
      exact ih _ (fun x hx => hk x (List.mem_cons_of_mem _ hx)) (step_sy hd ht h (hk k (List.mem_cons_self ..)))
  exact key _ _ (fun k hk => List.mem_range.1 hk) (sy0 _)

/-! fewest -/
/-! ### whether so many colours do -/
def freeB (M : List (List Bool)) (cols : List Int) (c : Int) : Bool := !(List.range cols.length).any fun j => ent M cols.length j && (cols.getD j 0 == c)
def canT (M : List (List Bool)) (many : Int) : Nat → List Int → Int → Bool
  | 0, _, _ => true
  | d + 1, cols, used => (List.range (if used + 1 < many then used + 1 else many).toNat).any fun (c : Nat) => freeB M cols (c : Int) && canT M many d (cols ++ [(c : Int)]) (if used < (c : Int) + 1 then (c : Int) + 1 else used)
theorem foldl_andF {α : Type} (P : α → Bool) : ∀ (l : List α) (b : Bool), l.foldl (fun ok a => if ok then !P a else false) b = (b && !l.any P)
  | [], b => by simp
  | a :: l, b => by
    rw [List.foldl_cons, foldl_andF P l, List.any_cons]
    cases b <;> cases P a <;> simp
theorem getI_colsF {q : List Int} {k : Nat} (h : k < q.length) : getI q (k : Int) = some (q.getD k 0) := by
  rw [getI_lt h, List.getD_eq_getElem?_getD, List.getElem?_eq_getElem h]; rfl
theorem freeB_spec {n : Nat} {M : List (List Bool)} (h : Sq n M) (hn : n ≤ 256) (cols : List Int) (c : Int) (hk : cols.length < n) : iter (sh103_2 M cols c) (true, 0) = some (freeB M cols c) := by
  have hi := iter_fold (sb := sh103_2 M cols c) (List.range cols.length) (fun j (ok : Bool) => (ok, (j : Int))) (fun (ok : Bool) j => if ok then !(ent M cols.length j && (cols.getD j 0 == c)) else false) (fun ok => ok) (fun _ _ => True) true trivial (by rw [List.length_range]; omega) (fun j hj ok _ => ⟨?_, trivial⟩) (fun ok _ => by
      have hdd : decide ((((List.range cols.length).length : Nat) : Int) < (cols.length : Int)) = false := by rw [List.length_range]; simp
      simp only [sh103_2, hdd, cond_false])
  · have h1 := hi.1
    simp only [Int.natCast_zero] at h1
    rw [h1, foldl_andF (fun j => ent M cols.length j && (cols.getD j 0 == c))]
    unfold freeB
    rw [Bool.true_and]
  · rw [List.length_range] at hj
    rw [List.getElem_range]
    obtain ⟨g1, g2, g3⟩ := h.ent hk (show j < n by omega)
    have hdd : decide ((j : Int) < (cols.length : Int)) = true := decide_eq_true (by omega)
    have w1 : w64 ((j : Int) + 1) = ((j + 1 : Nat) : Int) := by rw [w64_id (by omega) (by omega)]; rfl
    simp only [sh103_2, hdd, cond_true, g1, g3, bindS, getI_colsF hj, w1]
    cases ok
    · rfl
    · cases ent M cols.length j
      · rfl
      · simp only [cond_true, bindS, Bool.true_and, if_true]
theorem freeB_impl {n : Nat} {M : List (List Bool)} (h : Sq n M) (hn : n ≤ 256) (cols : List Int) (c : Int) (hk : cols.length < n) : iter (sh104_3 M cols c) (true, 0) = some (freeB M cols c) := by
  have hi := iter_fold (sb := sh104_3 M cols c) (List.range cols.length) (fun j (ok : Bool) => (ok, (j : Int))) (fun (ok : Bool) j => if ok then !(ent M cols.length j && (cols.getD j 0 == c)) else false) (fun ok => ok) (fun _ _ => True) true trivial (by rw [List.length_range]; omega) (fun j hj ok _ => ⟨?_, trivial⟩) (fun ok _ => by
      have hdd : decide ((((List.range cols.length).length : Nat) : Int) < (cols.length : Int)) = false := by rw [List.length_range]; simp
      simp only [sh104_3, hdd, cond_false])
  · have h1 := hi.1
    simp only [Int.natCast_zero] at h1
    rw [h1, foldl_andF (fun j => ent M cols.length j && (cols.getD j 0 == c))]
    unfold freeB
    rw [Bool.true_and]
  · rw [List.length_range] at hj
    rw [List.getElem_range]
    obtain ⟨g1, g2, g3⟩ := h.ent hk (show j < n by omega)
    have hdd : decide ((j : Int) < (cols.length : Int)) = true := decide_eq_true (by omega)
    have w1 : w64 ((j : Int) + 1) = ((j + 1 : Nat) : Int) := by rw [w64_id (by omega) (by omega)]; rfl
    simp only [sh104_3, hdd, cond_true, g1, g3, bindS, getI_colsF hj, w1]
    cases ok <;> rfl
def muS (m x : Int) : Int := if m < x + 1 then x + 1 else m
def muL (cols : List Int) : Int := cols.foldl muS 0
theorem muL_snoc (cols : List Int) (c : Int) : muL (cols ++ [c]) = muS (muL cols) c := by unfold muL; rw [List.foldl_append]; rfl
structure GB (cols : List Int) : Prop where
  rng : ∀ x ∈ cols, 0 ≤ x ∧ x < 300
  mu0 : 0 ≤ muL cols
  mu1 : muL cols ≤ (cols.length : Int)
theorem GB.snoc {cols : List Int} (h : GB cols) (hl : cols.length ≤ 256) {c : Int} (h0 : 0 ≤ c) (h1 : c ≤ muL cols) : GB (cols ++ [c]) := by
  have hm := h.mu1
  have h2 := h.mu0
  refine ⟨fun x hx => ?_, ?_, ?_⟩
  · rcases List.mem_append.1 hx with hx | hx
    · exact h.rng x hx
    · simp at hx; omega
  · rw [muL_snoc]; unfold muS; split <;> omega
  · rw [muL_snoc, List.length_append]; unfold muS; simp only [List.length_cons, List.length_nil]; split <;> omega
theorem mu_impl (cols : List Int) (h : GB cols) (hl : cols.length ≤ 256) : iter (sh104_1 cols) (0, 0) = some (muL cols) := by
  have hi := iter_fold (sb := sh104_1 cols) cols (fun k (m : Int) => (m, (k : Int))) muS (fun m => m) (fun _ _ => True) 0 trivial (by omega) (fun k hk m _ => ⟨?_, trivial⟩) (fun m _ => by
      have hdd : decide ((cols.length : Int) < (cols.length : Int)) = false := by simp
      simp only [sh104_1, hdd, cond_false])
  · have h1 := hi.1
    simp only [Int.natCast_zero] at h1
    exact h1
  · have hb := h.rng _ (List.getElem_mem hk)
    have hdd : decide ((k : Int) < (cols.length : Int)) = true := decide_eq_true (by omega)
    have w1 : w64 ((k : Int) + 1) = ((k + 1 : Nat) : Int) := by rw [w64_id (by omega) (by omega)]; rfl
    have w2 : w64 (cols[k] + 1) = cols[k] + 1 := w64_id (by omega) (by omega)
    simp only [sh104_1, hdd, cond_true, getI_lt hk, bindS, w1, w2]
    rfl
theorem can_both {n : Nat} {M : List (List Bool)} (h : Sq n M) (hn : n ≤ 256) (many : Int) (hm : 0 ≤ many ∧ many ≤ 1000) : ∀ (d : Nat) (cols : List Int) (fu : Nat), cols.length + d = n → d < fu → GB cols →
    sh103F fu M cols many (muL cols) = some (canT M many d cols (muL cols)) ∧ sh104F fu M cols many = some (canT M many d cols (muL cols))
  | _, cols, 0, _, hf, _ => by omega
  | 0, cols, fu + 1, hl, _, _ => by
    have e : ((cols.length : Int) == ((M.length : Nat) : Int)) = true := by rw [h.len, beq_iff_eq]; omega
    constructor
    · show sh103B (sh103F fu) M cols many (muL cols) = _
      unfold sh103B
      rw [e]; rfl
    · show sh104B (sh104F fu) M cols many = _
      unfold sh104B
      rw [e]; rfl
  | d + 1, cols, fu + 1, hl, hf, hg => by
    have e : ((cols.length : Int) == ((M.length : Nat) : Int)) = false := by rw [h.len, beq_eq_false_iff_ne]; omega
    have hk : cols.length < n := by omega
    have g0 := hg.mu0
    have g1 := hg.mu1
    obtain ⟨m, hmd⟩ : ∃ m : Nat, m = (if muL cols + 1 < many then muL cols + 1 else many).toNat := ⟨_, rfl⟩
    have hm1 : (m : Int) ≤ many ∧ (m : Int) ≤ muL cols + 1 ∧ ((m : Int) = many ∨ (m : Int) = muL cols + 1) := by rw [hmd]; split <;> omega
    have ih : ∀ c : Nat, c < m → sh103F fu M (cols ++ [(c : Int)]) many (muS (muL cols) (c : Int)) = some (canT M many d (cols ++ [(c : Int)]) (muS (muL cols) (c : Int))) ∧ sh104F fu M (cols ++ [(c : Int)]) many = some (canT M many d (cols ++ [(c : Int)]) (muS (muL cols) (c : Int))) := by
      intro c hc
      have := can_both h hn many hm d (cols ++ [(c : Int)]) fu (by simp; omega) (by omega) (hg.snoc (by omega) (by omega) (by omega))
      rw [muL_snoc] at this
      exact this
    have happ : ∀ c : Nat, appL cols [(c : Int)] = some (cols ++ [(c : Int)]) := fun c => appL_ok (by simp only [List.length_cons, List.length_nil]; omega)
    have hown : appL ([] : List Int) cols = some cols := by rw [appL_ok (by simp; omega), List.nil_append]
    have eT : canT M many (d + 1) cols (muL cols) = (List.range m).any fun (c : Nat) => freeB M cols (c : Int) && canT M many d (cols ++ [(c : Int)]) (muS (muL cols) (c : Int)) := by rw [hmd]; rfl
    constructor
    · show sh103B (sh103F fu) M cols many (muL cols) = _
      unfold sh103B
      rw [e, cond_false, iter_all (xs := List.range m) (p := fun (c : Nat) => !(freeB M cols (c : Int) && canT M many d (cols ++ [(c : Int)]) (muS (muL cols) (c : Int)))) (r := true) (by rw [List.length_range]; omega) (fun c hc => ?_) ?_, bindS, eT]
      · rw [List.all_eq_not_any_not]
        simp only [Bool.not_not]
        cases (List.range m).any fun (c : Nat) => freeB M cols (c : Int) && canT M many d (cols ++ [(c : Int)]) (muS (muL cols) (c : Int)) <;> rfl
      · have d1 : (decide ((((List.range m).length : Nat) : Int) < many) && decide ((((List.range m).length : Nat) : Int) ≤ muL cols)) = false := by
          rw [List.length_range]
          rcases hm1.2.2 with h1 | h1
          · rw [decide_eq_false (show ¬ (m : Int) < many by omega)]; rfl
          · rw [decide_eq_false (show ¬ (m : Int) ≤ muL cols by omega), Bool.and_false]
        simp only [sh103_1, d1, cond_false]
      · rw [List.length_range] at hc
        have d1 : (decide ((c : Int) < many) && decide ((c : Int) ≤ muL cols)) = true := by simp only [Bool.and_eq_true, decide_eq_true_eq]; omega
        have w1 : w64 ((c : Int) + 1) = (c : Int) + 1 := w64_id (by omega) (by omega)
        have hmx : sh129 (muL cols) ((c : Int) + 1) = some (muS (muL cols) (c : Int)) := by
          unfold sh129 muS
          by_cases hh : muL cols < (c : Int) + 1
          · rw [if_pos hh, decide_eq_false (show ¬ (c : Int) + 1 < muL cols by omega)]; rfl
          · rw [if_neg hh]
            by_cases h2 : (c : Int) + 1 < muL cols
            · rw [decide_eq_true h2]; rfl
            · rw [decide_eq_false h2, cond_false]; congr 1; omega
        rw [List.getElem_range]
        simp only [sh103_1, d1, cond_true, freeB_spec h hn cols (c : Int) hk, bindS, sh158, hown, happ, w1, hmx, (ih c hc).1]
        cases freeB M cols (c : Int)
        · rfl
        · simp only [cond_true, bindS, Bool.true_and]
          cases canT M many d (cols ++ [(c : Int)]) (muS (muL cols) (c : Int)) <;> rfl
    · show sh104B (sh104F fu) M cols many = _
      have wm : w64 (muL cols + 1) = muL cols + 1 := w64_id (by omega) (by omega)
      have hmi : (if muL cols + 1 < many then muL cols + 1 else many) = (m : Int) := by rw [hmd]; split <;> omega
      unfold sh104B
      rw [e, cond_false, mu_impl cols hg (by omega), bindS, iter_all (xs := List.range m) (p := fun (c : Nat) => !(freeB M cols (c : Int) && canT M many d (cols ++ [(c : Int)]) (muS (muL cols) (c : Int)))) (r := true) (by rw [List.length_range]; omega) (fun c hc => ?_) ?_, bindS, eT]
      · rw [List.all_eq_not_any_not]
        simp only [Bool.not_not]
        cases (List.range m).any fun (c : Nat) => freeB M cols (c : Int) && canT M many d (cols ++ [(c : Int)]) (muS (muL cols) (c : Int)) <;> rfl
      · have d1 : decide ((((List.range m).length : Nat) : Int) < (m : Int)) = false := by rw [List.length_range]; simp
        simp only [sh104_2, wm, hmi, d1, cond_false]
      · rw [List.length_range] at hc
        have d1 : decide ((c : Int) < (m : Int)) = true := decide_eq_true (by omega)
        have w1 : w64 ((c : Int) + 1) = (c : Int) + 1 := w64_id (by omega) (by omega)
        rw [List.getElem_range]
        simp only [sh104_2, wm, hmi, d1, cond_true, freeB_impl h hn cols (c : Int) hk, bindS, sh159, hown, happ, w1, (ih c hc).2]
        cases freeB M cols (c : Int)
        · rfl
        · simp only [cond_true, bindS, Bool.true_and]
          cases canT M many d (cols ++ [(c : Int)]) (muS (muL cols) (c : Int)) <;> rfl
theorem canT_full {n : Nat} {M : List (List Bool)} (many : Int) (hm : (n : Int) ≤ many) : ∀ (d : Nat) (cols : List Int) (used : Int), cols.length + d = n → 0 ≤ used → used ≤ (cols.length : Int) → (∀ x ∈ cols, x < used) → canT M many d cols used = true
  | 0, _, _, _, _, _, _ => rfl
  | d + 1, cols, used, hl, h0, h1, hx => by
    unfold canT
    rw [List.any_eq_true]
    refine ⟨used.toNat, List.mem_range.2 (by split <;> omega), ?_⟩
    rw [Int.toNat_of_nonneg h0, Bool.and_eq_true]
    constructor
    · unfold freeB
      rw [Bool.not_eq_true', List.any_eq_false]
      intro j hj
      rw [List.mem_range] at hj
      intro hh
      simp only [Bool.and_eq_true, beq_iff_eq] at hh
      have := hx _ (List.getElem_mem hj)
      have e : cols.getD j 0 = cols[j] := by rw [List.getD_eq_getElem?_getD, List.getElem?_eq_getElem hj]; rfl
      omega
    · rw [if_pos (show used < used + 1 by omega)]
      refine canT_full many hm d (cols ++ [used]) (used + 1) (by simp; omega) (by omega) (by simp; omega) (fun x hx2 => ?_)
      rcases List.mem_append.1 hx2 with h | h
      · have := hx x h; omega
      · simp at h; omega
theorem fewest_total (p : SPanel) (hb : p.Breaks.length ≤ 1048576) : ∃ r, sh41 p = some r ∧ sh42 p = some r := by
  unfold sh41 sh42
  rw [l02Ok_eq p hb, validPanel_eq p hb]
  simp only [bindS]
  cases hp : panelB p
  · exact ⟨_, rfl, rfl⟩
  · obtain ⟨cs, of, h1, h2, ht⟩ := trace_eq p (dim_of hp)
    have hN := (NS_eq (dim_of hp)).2.1
    have hf := ht.few
    have hc : cs.length ≤ 256 := by omega
    have hsq := cross_sq (dim_of hp) ht
    simp only [Bool.not_true, cond_false, cross_spec hp h2 ht hc, cross_impl hp h1 ht hc, bindS, hsq.len]
    generalize crossM p of cs.length = M at hsq
    cases hd : decide (10 < ((cs.length : Nat) : Int))
    · have hten : cs.length ≤ 10 := by simp at hd; omega
      have hg0 : GB [] := ⟨by simp, Int.le_refl _, Int.le_refl _⟩
      have hboth : ∀ x : Int, 0 ≤ x → x ≤ 1000 → sh103 M [] x 0 = some (canT M x cs.length [] 0) ∧ sh104 M [] x = some (canT M x cs.length [] 0) := fun x h0 h1 =>
        can_both hsq hc x ⟨h0, h1⟩ cs.length [] 2000 (by simp) (by omega) hg0
      have hI : ∀ a, 1 ≤ a ∧ a ≤ 11 → (sh41_1 M a = if canT M a cs.length [] 0 = true then some (.inr a) else some (.inl (a + 1))) ∧ (sh42_1 M a = if canT M a cs.length [] 0 = true then some (.inr a) else some (.inl (a + 1))) := by
        intro a ha
        obtain ⟨b1, b2⟩ := hboth a (by omega) (by omega)
        constructor
        · simp only [sh41_1, b1, bindS]
          rw [w64_id (by omega) (by omega)]
          cases canT M a cs.length [] 0 <;> rfl
        · simp only [sh42_1, b2, bindS]
          rw [w64_id (by omega) (by omega)]
          cases canT M a cs.length [] 0 <;> rfl
      obtain ⟨x, y, g1, g2, rfl⟩ := iter_rel (sb1 := sh41_1 M) (sb2 := sh42_1 M) (fun a b => a = b ∧ 1 ≤ a ∧ a ≤ 11) (fun a : Int => (12 - a).toNat) (fun x y => x = y) (s1 := 1) (s2 := 1) ⟨rfl, by omega, by omega⟩ (by decide) (by
        rintro a b ⟨rfl, i1, i2⟩
        obtain ⟨q1, q2⟩ := hI a ⟨i1, i2⟩
        rw [q1, q2]
        cases hcan : canT M a cs.length [] 0
        · left
          have : a < 11 := by
            rcases Int.lt_or_le a 11 with h | h
            · exact h
            · have := canT_full (M := M) a (show ((cs.length : Nat) : Int) ≤ a by omega) cs.length [] 0 (by simp) (Int.le_refl _) (by simp) (by simp)
              rw [hcan] at this; cases this
          exact ⟨a + 1, a + 1, rfl, rfl, ⟨rfl, by omega, by omega⟩, by omega⟩
        · right
          exact ⟨a, a, rfl, rfl, rfl⟩)
      simp only [cond_false, g1, g2, bindS]
      exact ⟨_, rfl, rfl⟩
    · exact ⟨_, rfl, rfl⟩

/-! greedy -/
/-! ### the least colour that is free -/
/-- Colour c is taken by a neighbour of k among the first k. -/
def usedF (M : List (List Bool)) (cols : List Int) (k c : Nat) : Bool := (List.range k).any fun j => ent M k j && (cols.getD j 0 == (c : Int))
theorem miss : ∀ (k : Nat) (l : List Int), l.length ≤ k → ∃ c : Nat, c ≤ k ∧ (c : Int) ∉ l
  | 0, l, h => ⟨0, Nat.le_refl 0, fun hm => by
    have hl : l = [] := List.eq_nil_of_length_eq_zero (by omega)
    rw [hl] at hm
    cases hm⟩
  | k + 1, l, h => by
    by_cases hm : ((k + 1 : Nat) : Int) ∈ l
    · obtain ⟨c, hc, hn⟩ := miss k (l.erase ((k + 1 : Nat) : Int)) (by rw [List.length_erase_of_mem hm]; omega)
      exact ⟨c, by omega, fun hcl => hn ((List.mem_erase_of_ne (by omega)).2 hcl)⟩
    · exact ⟨k + 1, Nat.le_refl _, hm⟩
def freeC (M : List (List Bool)) (cols : List Int) (k : Nat) : Nat := (List.range (k + 1)).findIdx fun c => !usedF M cols k c
theorem freeC_ok (M : List (List Bool)) (cols : List Int) (k : Nat) (hl : cols.length = k) : freeC M cols k ≤ k ∧ usedF M cols k (freeC M cols k) = false ∧ ∀ c, c < freeC M cols k → usedF M cols k c = true := by
  have hex : ∃ x ∈ List.range (k + 1), (!usedF M cols k x) = true := by
    obtain ⟨c, hc, hn⟩ := miss k cols (by omega)
    refine ⟨c, List.mem_range.2 (by omega), ?_⟩
    rw [Bool.not_eq_true']
    unfold usedF
    rw [List.any_eq_false]
    intro j hj
    rw [List.mem_range] at hj
    intro h
    simp only [Bool.and_eq_true, beq_iff_eq] at h
    have hjl : j < cols.length := by omega
    rw [List.getD_eq_getElem?_getD, List.getElem?_eq_getElem hjl] at h
    exact hn (h.2 ▸ List.getElem_mem hjl)
  have hlt := List.findIdx_lt_length_of_exists hex
  have h1 := List.findIdx_getElem (w := hlt)
  rw [List.length_range] at hlt
  rw [List.getElem_range, Bool.not_eq_true'] at h1
  refine ⟨by unfold freeC; omega, h1, fun c hc => ?_⟩
  have h2 := List.not_of_lt_findIdx hc
  rw [List.getElem_range] at h2
  simpa using h2
theorem foldl_and {α : Type} (P : α → Bool) : ∀ (l : List α) (b : Bool), l.foldl (fun ok a => if ok then !P a else false) b = (b && !l.any P)
  | [], b => by simp
  | a :: l, b => by
    rw [List.foldl_cons, foldl_and P l, List.any_cons]
    cases b <;> cases P a <;> simp
theorem getI_cols {q : List Int} {k : Nat} (h : k < q.length) : getI q (k : Int) = some (q.getD k 0) := by
  rw [getI_lt h, List.getD_eq_getElem?_getD, List.getElem?_eq_getElem h]; rfl
theorem free_spec {n : Nat} {M : List (List Bool)} (h : Sq n M) (hn : n ≤ 256) (cols : List Int) (k c : Nat) (hk : k < n) (hl : cols.length = k) : iter (sh99_3 M (k : Int) cols (c : Int)) (true, 0) = some (!usedF M cols k c) := by
  have hi := iter_fold (sb := sh99_3 M (k : Int) cols (c : Int)) (List.range k) (fun j (ok : Bool) => (ok, (j : Int))) (fun (ok : Bool) j => if ok then !(ent M k j && (cols.getD j 0 == (c : Int))) else false) (fun ok => ok) (fun _ _ => True) true trivial (by rw [List.length_range]; omega) (fun j hj ok _ => ⟨?_, trivial⟩) (fun ok _ => by
      have hdd : decide ((((List.range k).length : Nat) : Int) < (k : Int)) = false := by rw [List.length_range]; simp
      simp only [sh99_3, hdd, cond_false])
  · have h1 := hi.1
    simp only [Int.natCast_zero] at h1
    rw [h1, foldl_and (fun j => ent M k j && (cols.getD j 0 == (c : Int)))]
    unfold usedF
    rw [Bool.true_and]
  · rw [List.length_range] at hj
    rw [List.getElem_range]
    obtain ⟨g1, g2, g3⟩ := h.ent hk (show j < n by omega)
    have hdd : decide ((j : Int) < (k : Int)) = true := decide_eq_true (by omega)
    have w1 : w64 ((j : Int) + 1) = ((j + 1 : Nat) : Int) := by rw [w64_id (by omega) (by omega)]; rfl
    simp only [sh99_3, hdd, cond_true, g1, g3, bindS, getI_cols (q := cols) (k := j) (by omega), w1]
    cases ok
    · rfl
    · cases ent M k j
      · rfl
      · simp only [cond_true, bindS, Bool.true_and, if_true]
theorem least_spec {n : Nat} {M : List (List Bool)} (h : Sq n M) (hn : n ≤ 256) (cols : List Int) (k : Nat) (hk : k < n) (hl : cols.length = k) : iter (sh99_2 M (k : Int) cols) (0, false) = some (freeC M cols k : Int) := by
  obtain ⟨f1, f2, f3⟩ := freeC_ok M cols k hl
  generalize freeC M cols k = c0 at *
  obtain ⟨y, hy, rfl⟩ := iter_inv (sb := sh99_2 M (k : Int) cols) (fun (s : Int × Bool) => ∃ c : Nat, s.1 = (c : Int) ∧ c ≤ c0 ∧ (s.2 = true → c = c0)) (fun s => 2 * (c0 - s.1.toNat) + (if s.2 then 0 else 1)) (fun y => y = (c0 : Int)) (s0 := (0, false)) ⟨0, rfl, by omega, fun h => by cases h⟩ (by simp; omega) (by
    rintro ⟨s, b⟩ ⟨c, hs, hc, hb⟩
    simp only at hs hb
    subst hs
    cases b
    · left
      simp only [sh99_2, Bool.not_false, cond_true, free_spec h hn cols k c hk hl, bindS]
      cases hu : usedF M cols k c
      · have : c = c0 := by
          rcases Nat.lt_or_ge c c0 with h1 | h1
          · rw [f3 c h1] at hu; cases hu
          · omega
        subst this
        refine ⟨_, rfl, ⟨c, rfl, Nat.le_refl _, fun _ => rfl⟩, by simp⟩
      · have hne : c ≠ c0 := fun e => by subst e; rw [f2] at hu; cases hu
        simp only [Bool.not_true, Bool.not_false, cond_true, bindS]
        rw [w64_id (by omega) (by omega)]
        refine ⟨_, rfl, ⟨c + 1, by simp only; omega, by omega, fun h => by cases h⟩, ?_⟩
        simp only [Bool.false_eq_true, if_false]
        omega
    · right
      refine ⟨(c : Int), rfl, ?_⟩
      rw [hb rfl])
  exact hy
def stepG (M : List (List Bool)) (cols : List Int) (k : Nat) : List Int := cols ++ [(freeC M cols k : Int)]
def greedyL (n : Nat) (M : List (List Bool)) : List Int := (List.range n).foldl (stepG M) []
def GI (k : Nat) (cols : List Int) : Prop := cols.length = k ∧ ∀ j, j < k → 0 ≤ cols.getD j 0 ∧ cols.getD j 0 ≤ (j : Int)
theorem stepG_ok {M : List (List Bool)} {cols : List Int} {k : Nat} (h : GI k cols) : GI (k + 1) (stepG M cols k) := by
  obtain ⟨h1, h2⟩ := h
  have hf := (freeC_ok M cols k h1).1
  refine ⟨by unfold stepG; rw [List.length_append, h1]; rfl, fun j hj => ?_⟩
  unfold stepG
  rw [List.getD_eq_getElem?_getD]
  by_cases hjk : j < k
  · rw [List.getElem?_append_left (by omega)]
    have := h2 j hjk
    rw [List.getD_eq_getElem?_getD] at this
    exact this
  · have : j = k := by omega
    subst this
    rw [List.getElem?_append_right (by omega), h1, Nat.sub_self]
    simp only [List.getElem?_cons_zero, Option.getD_some]
    omega
theorem greedy_spec {n : Nat} {M : List (List Bool)} (h : Sq n M) (hn : n ≤ 256) : sh99 M = some (greedyL n M) ∧ GI n (greedyL n M) := by
  have hi := iter_fold (sb := sh99_1 M) (List.range n) (fun k (cols : List Int) => ((k : Int), cols)) (stepG M) (fun c => c) (fun k cols => GI k cols) [] ⟨rfl, fun j hj => by omega⟩ (by rw [List.length_range]; omega) (fun k hk cols hI => ?_) (fun cols _ => by
      have hdd : decide ((((List.range n).length : Nat) : Int) < ((M.length : Nat) : Int)) = false := by rw [List.length_range, h.len]; simp
      simp only [sh99_1, hdd, cond_false])
  · have h1 := hi.1
    have h2 := hi.2
    simp only [Int.natCast_zero] at h1
    rw [List.length_range] at h2
    refine ⟨?_, h2⟩
    unfold sh99
    rw [h1]; rfl
  · rw [List.length_range] at hk
    rw [List.getElem_range]
    refine ⟨?_, stepG_ok hI⟩
    have hdd : decide ((k : Int) < ((M.length : Nat) : Int)) = true := decide_eq_true (by rw [h.len]; omega)
    have w1 : w64 ((k : Int) + 1) = ((k + 1 : Nat) : Int) := by rw [w64_id (by omega) (by omega)]; rfl
    have hl := hI.1
    simp only [sh99_1, hdd, cond_true, least_spec h hn cols k hk hI.1, bindS, w1]
    rw [appL_ok (by simp only [List.length_cons, List.length_nil]; omega), bindS]
    rfl
/-! the marks of the code -/
def markU (M : List (List Bool)) (cols : List Int) (k : Nat) (U : List Bool) (j : Nat) : List Bool := if ent M k j = true then U.set (cols.getD j 0).toNat true else U
theorem markU_get {M : List (List Bool)} {cols : List Int} {k : Nat} (hI : GI k cols) : ∀ (m : Nat), m ≤ k → ∀ U : List Bool, U = (List.range m).foldl (markU M cols k) (List.replicate (k + 1) false) → U.length = k + 1 ∧ ∀ c, c ≤ k → U.getD c false = (List.range m).any fun j => ent M k j && (cols.getD j 0 == (c : Int))
  | 0, _, U, hU => by
    subst hU
    refine ⟨by simp, fun c hc => ?_⟩
    simp only [List.range_zero, List.foldl_nil, List.any_nil, List.getD_eq_getElem?_getD, List.getElem?_replicate]
    split <;> rfl
  | m + 1, hm, U, hU => by
    obtain ⟨i1, i2⟩ := markU_get hI m (by omega) _ rfl
    rw [List.range_succ, List.foldl_append, List.foldl_cons, List.foldl_nil] at hU
    generalize (List.range m).foldl (markU M cols k) (List.replicate (k + 1) false) = V at *
    have hb := hI.2 m (by omega)
    subst hU
    unfold markU
    refine ⟨by split <;> simp [i1], fun c hc => ?_⟩
    rw [List.range_succ, List.any_append, ← i2 c hc]
    simp only [List.any_cons, List.any_nil, Bool.or_false]
    cases he : ent M k m
    · simp
    · rw [if_pos rfl, getD_setG _ _ _ _ _ (by omega)]
      by_cases h : (cols.getD m 0).toNat = c
      · rw [if_pos h]
        have : (cols.getD m 0 == (c : Int)) = true := by rw [beq_iff_eq]; omega
        rw [this]; simp
      · rw [if_neg h]
        have : (cols.getD m 0 == (c : Int)) = false := by rw [beq_eq_false_iff_ne]; omega
        rw [this]; simp
theorem index_eq (U : List Bool) (h : U.length ≤ 1048576) : sh100 U false = some (if U.any (fun x => !x) = true then (U.findIdx (fun x => !x) : Int) else -1) := by
  unfold sh100
  rw [iter_find (xs := U) (p := fun x => !x) (by omega) (fun k hk => ?_) (by simp [sh100_1]), bindS]
  · cases U.any (fun x => !x) <;> rfl
  · have h2 : (k : Int) < U.length := by omega
    simp only [sh100_1, h2, decide_true, cond_true, getI_lt hk, bindS]
    rw [w64_id (by omega) (by omega)]
    cases U[k] <;> rfl
theorem greedy_impl {n : Nat} {M : List (List Bool)} (h : Sq n M) (hn : n ≤ 256) : iter (sh36_1 M) (0, []) = some (greedyL n M) := by
  have hi := iter_fold (sb := sh36_1 M) (List.range n) (fun k (cols : List Int) => ((k : Int), cols)) (stepG M) (fun c => c) (fun k cols => GI k cols) [] ⟨rfl, fun j hj => by omega⟩ (by rw [List.length_range]; omega) (fun k hk cols hI => ?_) (fun cols _ => by
      have hdd : decide ((((List.range n).length : Nat) : Int) < ((M.length : Nat) : Int)) = false := by rw [List.length_range, h.len]; simp
      simp only [sh36_1, hdd, cond_false])
  · have h1 := hi.1
    simp only [Int.natCast_zero] at h1
    exact h1
  · rw [List.length_range] at hk
    rw [List.getElem_range]
    refine ⟨?_, stepG_ok hI⟩
    have hdd : decide ((k : Int) < ((M.length : Nat) : Int)) = true := decide_eq_true (by rw [h.len]; omega)
    have w1 : w64 ((k : Int) + 1) = ((k + 1 : Nat) : Int) := by rw [w64_id (by omega) (by omega)]; rfl
    have hl := hI.1
    have hmk : mkL ((k + 1 : Nat) : Int) false = some (List.replicate (k + 1) false) := mkL_ok (by omega)
    obtain ⟨u1, u2⟩ := markU_get (M := M) hI k (Nat.le_refl _) _ rfl
    have hin := iter_fold (sb := sh36_2 (k : Int) cols (M.getD k [])) (List.range k) (fun j (U : List Bool) => ((j : Int), U)) (markU M cols k) (fun U => U) (fun _ U => U.length = k + 1) (List.replicate (k + 1) false) (by simp) (by rw [List.length_range]; omega) (fun j hj U hU => ?_) (fun U _ => by
        have hd2 : decide ((((List.range k).length : Nat) : Int) < (k : Int)) = false := by rw [List.length_range]; simp
        simp only [sh36_2, hd2, cond_false])
    · have hin1 := hin.1
      simp only [Int.natCast_zero] at hin1
      simp only [sh36_1, hdd, cond_true, (h.ent hk hk).1, bindS, w1, hmk, hin1]
      generalize (List.range k).foldl (markU M cols k) (List.replicate (k + 1) false) = U at *
      obtain ⟨f1, f2, f3⟩ := freeC_ok M cols k hI.1
      have hfi : U.findIdx (fun x => !x) = freeC M cols k ∧ U.any (fun x => !x) = true := by
        have hg : ∀ c, c ≤ k → U.getD c false = usedF M cols k c := u2
        have hfl : freeC M cols k < U.length := by omega
        have e0 : U[freeC M cols k] = false := by
          have := hg _ f1
          rw [List.getD_eq_getElem?_getD, List.getElem?_eq_getElem hfl] at this
          rw [f2] at this
          exact this
        have hany : U.any (fun x => !x) = true := List.any_eq_true.2 ⟨_, List.getElem_mem hfl, by rw [e0]; rfl⟩
        refine ⟨?_, hany⟩
        rcases Nat.lt_trichotomy (U.findIdx (fun x => !x)) (freeC M cols k) with hlt | heq | hgt
        · exfalso
          have hl2 : U.findIdx (fun x => !x) < U.length := by omega
          have h1 := List.findIdx_getElem (w := hl2)
          have := hg (U.findIdx (fun x => !x)) (by omega)
          rw [List.getD_eq_getElem?_getD, List.getElem?_eq_getElem hl2, f3 _ hlt] at this
          rw [show U[U.findIdx (fun x => !x)] = true from this] at h1
          cases h1
        · exact heq
        · exfalso
          have := List.not_of_lt_findIdx hgt
          rw [e0] at this
          cases this
      rw [index_eq U (by omega), bindS, if_pos hfi.2, hfi.1, appL_ok (by simp only [List.length_cons, List.length_nil]; omega), bindS]
      rfl
    · rw [List.length_range] at hj
      rw [List.getElem_range]
      obtain ⟨g1, g2, g3⟩ := h.ent hk (show j < n by omega)
      have hb := hI.2 j hj
      have hd2 : decide ((j : Int) < (k : Int)) = true := decide_eq_true (by omega)
      have w2 : w64 ((j : Int) + 1) = ((j + 1 : Nat) : Int) := by rw [w64_id (by omega) (by omega)]; rfl
      have hgu : getI U (cols.getD j 0) = some (U[(cols.getD j 0).toNat]'(by omega)) := getI_toNat hb.1 (by omega)
      refine ⟨?_, by unfold markU; split <;> simp [hU]⟩
      simp only [sh36_2, hd2, cond_true, g3, bindS, getI_cols (q := cols) (k := j) (by omega), hgu, w2]
      unfold markU
      cases ent M k j <;> rfl
theorem colourCurves_total (p : SPanel) (hb : p.Breaks.length ≤ 1048576) : ∃ r, sh35 p = some r ∧ sh36 p = some r ∧ r.1.length ≤ 256 := by
  unfold sh35 sh36
  rw [l02Ok_eq p hb, validPanel_eq p hb]
  simp only [bindS]
  cases hp : panelB p
  · exact ⟨_, rfl, rfl, by simp⟩
  · obtain ⟨cs, of, h1, h2, ht⟩ := trace_eq p (dim_of hp)
    have hN := (NS_eq (dim_of hp)).2.1
    have hf := ht.few
    have hc : cs.length ≤ 256 := by omega
    have hsq := cross_sq (dim_of hp) ht
    obtain ⟨g1, g2⟩ := greedy_spec hsq hc
    have hl := g2.1
    simp only [Bool.not_true, cond_false, cross_spec hp h2 ht hc, cross_impl hp h1 ht hc, bindS, g1, greedy_impl hsq hc]
    exact ⟨_, rfl, rfl, by simp only; omega⟩

/-! iscolouring -/
/-! ### a proper colouring -/
def clash (M : List (List Bool)) (q : List Int) (i j : Nat) : Bool := ent M i j && (q.getD i 0 == q.getD j 0)
def properS (n : Nat) (M : List (List Bool)) (q : List Int) : Bool := (List.range n).all fun i => (List.range i).all fun j => !clash M q i j
def properI (n : Nat) (M : List (List Bool)) (q : List Int) : Bool := (List.range n).all fun i => (List.range n).all fun j => !clash M q i j
theorem proper_same {n : Nat} {M : List (List Bool)} (h : Sy n M) (q : List Int) : properS n M q = properI n M q := by
  rw [Bool.eq_iff_iff]
  unfold properS properI
  simp only [List.all_eq_true, List.mem_range, Bool.not_eq_true']
  constructor
  · intro H i hi j hj
    rcases Nat.lt_trichotomy i j with hij | hij | hij
    · have := H j hj i hij
      unfold clash at this ⊢
      rw [h.sym i j hi hj, Bool.beq_comm]
      exact this
    · subst hij
      unfold clash
      rw [h.irr i hi]; rfl
    · exact H i hi j hij
  · intro H i hi j hj
    exact H i hi j (by omega)
theorem getI_getD0 {q : List Int} {k : Nat} (h : k < q.length) : getI q (k : Int) = some (q.getD k 0) := by
  rw [getI_lt h, List.getD_eq_getElem?_getD, List.getElem?_eq_getElem h]; rfl
theorem properS_eq {n : Nat} {M : List (List Bool)} (h : Sq n M) (q : List Int) (hq : q.length = n) (hn : n ≤ 256) : sh96 M q = some (properS n M q) := by
  have inner : ∀ i : Nat, i < n → iter (sh96_2 M q (i : Int)) 0 = some (if ((List.range i).all fun j => !clash M q i j) = true then .inl () else .inr false) := by
    intro i hi
    refine iter_all (xs := List.range i) (p := fun j => !clash M q i j) (r := false) (by rw [List.length_range]; omega) (fun k hk => ?_) (by simp [sh96_2])
    rw [List.length_range] at hk
    obtain ⟨g1, g2, g3⟩ := h.ent hi (show k < n by omega)
    have h2 : (k : Int) < (i : Int) := by omega
    simp only [sh96_2, h2, decide_true, cond_true, g1, g3, bindS, getI_getD0 (q := q) (k := i) (by omega), getI_getD0 (q := q) (k := k) (by omega), List.getElem_range]
    rw [w64_id (by omega) (by omega)]
    unfold clash
    cases ent M i k
    · rfl
    · simp only [cond_true, bindS, Bool.true_and]
      cases (q.getD i 0 == q.getD k 0) <;> rfl
  unfold sh96
  rw [iter_all (xs := List.range n) (p := fun i => (List.range i).all fun j => !clash M q i j) (r := false) (by rw [List.length_range]; omega) (fun k hk => ?_) (by simp [sh96_1, h.len]), bindS]
  · unfold properS
    cases (List.range n).all fun i => (List.range i).all fun j => !clash M q i j <;> rfl
  · rw [List.length_range] at hk
    have h2 : (k : Int) < ((M.length : Nat) : Int) := by rw [h.len]; omega
    simp only [sh96_1, h2, decide_true, cond_true, inner k hk, bindS, List.getElem_range]
    rw [w64_id (by omega) (by omega)]
    cases (List.range k).all fun j => !clash M q k j <;> rfl
theorem properI_loop {n : Nat} {M : List (List Bool)} (h : Sq n M) (q : List Int) (hq : q.length = n) (hn : n ≤ 256) : iter (sh33_1 q M) 0 = some (if properI n M q = true then .inl () else .inr false) := by
  have inner : ∀ i : Nat, i < n → iter (sh33_2 q (i : Int) (M.getD i [])) 0 = some (if ((List.range n).all fun j => !clash M q i j) = true then .inl () else .inr false) := by
    intro i hi
    have hrl := (h.ent hi hi).2.1
    refine iter_all (xs := List.range n) (p := fun j => !clash M q i j) (r := false) (by rw [List.length_range]; omega) (fun k hk => ?_) (by
      have hdd : decide ((((List.range n).length : Nat) : Int) < ((M.getD i []).length : Int)) = false := by rw [List.length_range, hrl]; simp
      simp only [sh33_2, hdd, cond_false])
    rw [List.length_range] at hk
    obtain ⟨g1, g2, g3⟩ := h.ent hi hk
    have h2 : (k : Int) < ((M.getD i []).length : Int) := by omega
    simp only [sh33_2, h2, decide_true, cond_true, g3, bindS, getI_getD0 (q := q) (k := i) (by omega), getI_getD0 (q := q) (k := k) (by omega), List.getElem_range]
    rw [w64_id (by omega) (by omega)]
    unfold clash
    cases ent M i k
    · rfl
    · simp only [cond_true, bindS, Bool.true_and]
      cases (q.getD i 0 == q.getD k 0) <;> rfl
  unfold properI
  refine iter_all (xs := List.range n) (p := fun i => (List.range n).all fun j => !clash M q i j) (r := false) (by rw [List.length_range]; omega) (fun k hk => ?_) (by simp [sh33_1, h.len])
  rw [List.length_range] at hk
  have h2 : (k : Int) < ((M.length : Nat) : Int) := by rw [h.len]; omega
  simp only [sh33_1, h2, decide_true, cond_true, (h.ent hk hk).1, inner k hk, bindS, List.getElem_range]
  rw [w64_id (by omega) (by omega)]
  cases (List.range n).all fun j => !clash M q k j <;> rfl
def colsB (q : List Int) : Bool := q.all fun x => decide (0 ≤ x) && decide (x ≤ 9)
theorem l21ListC_eq (q : List Int) (m : Int) (h : q.length ≤ 1048576) : sh95 q m = some (if colsB q = true then ((q.length : Int) == m) else false) := by
  unfold sh95 colsB
  rw [iter_all (xs := q) (p := fun x => decide (0 ≤ x) && decide (x ≤ 9)) (r := false) (by omega) (fun k hk => ?_) (by simp [sh95_1]), bindS]
  · cases q.all fun x => decide (0 ≤ x) && decide (x ≤ 9) <;> rfl
  · have h2 : (k : Int) < q.length := by omega
    simp only [sh95_1, sh127, h2, decide_true, cond_true, getI_lt hk, bindS]
    rw [w64_id (by omega) (by omega)]
    cases decide (0 ≤ q[k]) && decide (q[k] ≤ 9) <;> rfl
theorem areColoursC_eq {p : SPanel} {cs : List (List SWalker)} {of : List Int} (h2 : sh114 p = some (cs, of)) (q : List Int) (h : q.length ≤ 1048576) : sh97 p q = some (if colsB q = true then ((q.length : Int) == (cs.length : Int)) else false) := by
  unfold sh97 colsB
  rw [iter_all (xs := q) (p := fun x => decide (0 ≤ x) && decide (x ≤ 9)) (r := false) (by omega) (fun k hk => ?_) (by simp [sh97_1]), bindS, count_eq h2]
  · cases q.all fun x => decide (0 ≤ x) && decide (x ≤ 9) <;> rfl
  · have h2 : (k : Int) < q.length := by omega
    simp only [sh97_1, sh125, h2, decide_true, cond_true, getI_lt hk, bindS]
    rw [w64_id (by omega) (by omega)]
    cases decide (0 ≤ q[k]) && decide (q[k] ≤ 9) <;> rfl
theorem isColouring_total (p : SPanel) (q : List Int) (hb : p.Breaks.length ≤ 1048576) (hq : q.length ≤ 1048576) : ∃ r, sh31 p q = some r ∧ sh33 p q = some r := by
  unfold sh31 sh33
  rw [l02Ok_eq p hb, validPanel_eq p hb]
  simp only [bindS]
  cases hp : panelB p
  · exact ⟨_, rfl, rfl⟩
  · obtain ⟨cs, of, h1, h2, ht⟩ := trace_eq p (dim_of hp)
    have hN := (NS_eq (dim_of hp)).2.1
    have hf := ht.few
    have hc : cs.length ≤ 256 := by omega
    have hsy := cross_sy (dim_of hp) ht
    simp only [Bool.not_true, cond_false, cross_spec hp h2 ht hc, cross_impl hp h1 ht hc, bindS, l21ListC_eq q _ hq, areColoursC_eq h1 q hq, hsy.sq.len]
    cases hcb : (if colsB q = true then ((q.length : Int) == (cs.length : Int)) else false)
    · exact ⟨_, rfl, rfl⟩
    · have hql : q.length = cs.length := by
        split at hcb
        · simp only [beq_iff_eq] at hcb; omega
        · cases hcb
      simp only [cond_true, Bool.not_true, cond_false, bindS, properS_eq hsy.sq q hql hc, properI_loop hsy.sq q hql hc, proper_same hsy q]
      cases properI cs.length (crossM p of cs.length) q
      · exact ⟨_, rfl, rfl⟩
      · exact ⟨_, rfl, rfl⟩

/-! neighbours -/
/-- The places that hold true. -/
def truesL (r : List Bool) (k : Nat) : List Int := ((List.range k).filter fun i => r.getD i false).map fun (i : Nat) => (i : Int)
theorem trues_loop (r : List Bool) (h : r.length ≤ 256) (sb : Int × List Int → Option ((Int × List Int) ⊕ List Int)) (hs : ∀ k l, sb (k, l) = bif decide (k < (r.length : Int)) then (Option.bind (getI r k) fun x27 => Option.bind (bif x27 then (Option.bind (appL l [k]) fun x33 => some x33) else (some l)) fun j28 => (some (.inl (w64 (k + 1), j28)))) else (some (.inr l))) : iter sb (0, []) = some (truesL r r.length) := by
  have hi := iter_steps (sb := sb) (fun k => ((k : Int), truesL r k)) r.length (x := truesL r r.length) (by omega) (fun k hk => ?_) ?_
  · simpa [truesL] using hi
  · have hd : decide ((k : Int) < (r.length : Int)) = true := decide_eq_true (by omega)
    have hg : getI r (k : Int) = some (r.getD k false) := by rw [getI_lt hk, List.getD_eq_getElem?_getD, List.getElem?_eq_getElem hk]; rfl
    have w1 : w64 ((k : Int) + 1) = ((k + 1 : Nat) : Int) := by rw [w64_id (by omega) (by omega)]; rfl
    have hfl : (truesL r k).length ≤ k := by
      have := List.length_filter_le (fun i => r.getD i false) (List.range k)
      rw [List.length_range] at this
      unfold truesL
      rw [List.length_map]; exact this
    rw [hs, hd, cond_true, hg, bindS, w1]
    cases h0 : r.getD k false
    · have hf : ([k].filter fun i => r.getD i false) = [] := by
        show (match r.getD k false with | true => k :: [] | false => []) = []
        rw [h0]
      rw [cond_false, bindS]
      unfold truesL
      rw [List.range_succ, List.filter_append, List.map_append, hf, List.map_nil, List.append_nil]
    · rw [cond_true, appL_ok (by simp only [List.length_cons, List.length_nil]; omega), bindS, bindS]
      have hf : ([k].filter fun i => r.getD i false) = [k] := by
        show (match r.getD k false with | true => k :: [] | false => []) = [k]
        rw [h0]
      unfold truesL
      rw [List.range_succ, List.filter_append, List.map_append, hf]
      rfl
  · have hd : decide ((r.length : Int) < (r.length : Int)) = false := by simp
    rw [hs, hd, cond_false]
theorem truesL_len (r : List Bool) (k : Nat) : (truesL r k).length ≤ k := by
  have := List.length_filter_le (fun i => r.getD i false) (List.range k)
  rw [List.length_range] at this
  unfold truesL
  rw [List.length_map]; exact this
theorem neighbours_total (p : SPanel) (k : Int) (hb : p.Breaks.length ≤ 1048576) : ∃ r, sh39 p k = some r ∧ sh40 p k = some r ∧ r.1.length ≤ 256 := by
  unfold sh39 sh40 sh101
  rw [l02Ok_eq p hb]
  cases hp : panelB p
  · rw [curveCode_bad hb hp]
    exact ⟨_, rfl, rfl, by simp⟩
  · obtain ⟨cs, of, h1, h2, ht⟩ := trace_eq p (dim_of hp)
    have hN := (NS_eq (dim_of hp)).2.1
    have hf := ht.few
    have hc : cs.length ≤ 256 := by omega
    rw [curveCode_eq hb hp h1 hc]
    simp only [bindS, Bool.not_true, cond_false, h2, List.length_map, sh127]
    rw [w64_id (x := ((cs.length : Nat) : Int) - 1) (by omega) (by omega), inB_dec]
    by_cases hk : 0 ≤ k ∧ k < (cs.length : Int)
    · have hsq := cross_sq (dim_of hp) ht
      obtain ⟨g1, g2⟩ := hsq.getI hk.1 hk.2
      rw [decide_eq_true hk, if_pos hk]
      simp only [Bool.not_true, cond_false, bne_self_eq_false, bindS, cross_spec hp h2 ht hc, cross_impl hp h1 ht hc, g1]
      rw [trues_loop (rowM (crossM p of cs.length) k) (by omega) (sh39_1 (rowM (crossM p of cs.length) k)) (fun k l => by simp only [sh39_1]), bindS, trues_loop (rowM (crossM p of cs.length) k) (by omega) (sh40_1 (rowM (crossM p of cs.length) k)) (fun k l => by simp only [sh40_1]), bindS]
      have := truesL_len (rowM (crossM p of cs.length) k) (rowM (crossM p of cs.length) k).length
      exact ⟨_, rfl, rfl, by simp only; omega⟩
    · rw [decide_eq_false hk, if_neg hk]
      exact ⟨_, rfl, rfl, by simp⟩

/-! decimal -/
theorem u64_id {x : Int} (h1 : 0 ≤ x) (h2 : x < 18446744073709551616) : IntKind.u64.wrap x = x := by
  unfold IntKind.wrap
  have hs : IntKind.u64.signed = false := rfl
  have hb : IntKind.u64.bits = 64 := rfl
  simp only [hs, hb, Bool.false_and]
  show x % 2 ^ 64 = x
  omega
theorem u64_neg {x : Int} (h1 : -9223372036854775808 ≤ x) (h2 : x < 0) : IntKind.u64.wrap (0 - IntKind.u64.wrap x) = -x := by
  unfold IntKind.wrap
  have hs : IntKind.u64.signed = false := rfl
  have hb : IntKind.u64.bits = 64 := rfl
  simp only [hs, hb, Bool.false_and]
  show (0 - x % 2 ^ 64) % 2 ^ 64 = -x
  omega
theorem u8_id {x : Int} (h1 : 0 ≤ x) (h2 : x < 256) : IntKind.u8.wrap x = x := by
  unfold IntKind.wrap
  have hs : IntKind.u8.signed = false := rfl
  have hb : IntKind.u8.bits = 8 := rfl
  simp only [hs, hb, Bool.false_and]
  show x % 2 ^ 8 = x
  omega

/-- The digits of a number, the first one first. -/
def digs (n : Nat) : List Int := if h : n = 0 then [] else digs (n / 10) ++ [48 + ((n % 10 : Nat) : Int)]
decreasing_by omega
theorem digs_zero : digs 0 = [] := by unfold digs; simp
theorem digs_pos {n : Nat} (h : 0 < n) : digs n = digs (n / 10) ++ [48 + ((n % 10 : Nat) : Int)] := by
  rw [digs]; simp [show n ≠ 0 by omega]
theorem digs_len : ∀ (k n : Nat), n < 10 ^ k → (digs n).length ≤ k
  | 0, n, h => by
    have : n = 0 := by simpa using h
    subst this; simp [digs_zero]
  | k + 1, n, h => by
    by_cases h0 : n = 0
    · subst h0; simp [digs_zero]
    · rw [digs_pos (by omega), List.length_append]
      have := digs_len k (n / 10) (by rw [Nat.pow_succ] at h; omega)
      simp; omega
theorem digs_byte (n : Nat) : ∀ x ∈ digs n, 48 ≤ x ∧ x ≤ 57 := by
  induction n using Nat.strongRecOn with
  | ind n ih =>
    intro x hx
    by_cases h0 : n = 0
    · subst h0; rw [digs_zero] at hx; simp at hx
    · rw [digs_pos (by omega)] at hx
      rcases List.mem_append.1 hx with h | h
      · exact ih (n / 10) (by omega) x h
      · simp at h; omega
theorem digs_ne {n : Nat} (h : 0 < n) : digs n ≠ [] := by rw [digs_pos h]; simp

/-- The bytes of a number in decimal. -/
def decL (n : Int) : List Int := if n = 0 then [48] else (if n < 0 then [45] else []) ++ digs n.natAbs
theorem decL_len {n : Int} (h1 : -9223372036854775808 ≤ n) (h2 : n ≤ 9223372036854775807) : (decL n).length ≤ 20 := by
  unfold decL
  have := digs_len 19 n.natAbs (by omega)
  split
  · simp
  · split <;> simp <;> omega
theorem decL_byte (n : Int) : ∀ x ∈ decL n, 0 ≤ x ∧ x < 256 := by
  intro x hx
  unfold decL at hx
  split at hx
  · simp at hx; omega
  · rcases List.mem_append.1 hx with h | h
    · split at h <;> simp at h; omega
    · have := digs_byte _ x h; omega

/-! bytes as a string -/
theorem bytesS_foldl : ∀ (xs : List Int) (s : ByteArray), xs.foldl (fun r n => r.push (UInt8.ofNat n.toNat)) s = ⟨s.data ++ (xs.map fun n => UInt8.ofNat n.toNat).toArray⟩
  | [], s => by simp
  | n :: ns, s => by
    rw [List.foldl_cons, bytesS_foldl ns]
    simp [ByteArray.push]
theorem bytesS_data (xs : List Int) : bytesS xs = ⟨(xs.map fun n => UInt8.ofNat n.toNat).toArray⟩ := by
  unfold bytesS
  rw [bytesS_foldl]
  congr 1
  apply Array.ext'
  simp [ByteArray.empty, ByteArray.emptyWithCapacity]
  rfl
theorem bytesS_size (xs : List Int) : (bytesS xs).size = xs.length := by
  rw [bytesS_data]
  show (List.toArray _).size = _
  simp
theorem bytesS_append (xs ys : List Int) : bytesS xs ++ bytesS ys = bytesS (xs ++ ys) := by
  apply ByteArray.ext
  rw [ByteArray.data_append, bytesS_data, bytesS_data, bytesS_data]
  apply Array.ext'
  simp
theorem strI_bytesS {xs : List Int} (h : ∀ x ∈ xs, 0 ≤ x ∧ x < 256) : strI (bytesS xs) = xs := by
  rw [bytesS_data, strI]
  simp only [List.map_map]
  conv => rhs; rw [← List.map_id xs]
  refine List.map_congr_left fun x hx => ?_
  obtain ⟨h1, h2⟩ := h x hx
  show ((UInt8.ofNat x.toNat).toNat : Int) = x
  rw [UInt8.toNat_ofNat']
  omega
theorem catS_ok {xs ys : List Int} (h : xs.length + ys.length ≤ 1099511627776) : catS (bytesS xs) (bytesS ys) = some (bytesS (xs ++ ys)) := by
  have : LIM = 1099511627776 := rfl
  unfold catS
  rw [bytesS_size, bytesS_size, if_pos (by omega), bytesS_append]
theorem lit_nil : (ByteArray.mk #[] : ByteArray) = bytesS [] := rfl
theorem lit_minus : (ByteArray.mk #[45] : ByteArray) = bytesS [45] := rfl
theorem lit_zero : (ByteArray.mk #[48] : ByteArray) = bytesS [48] := rfl
theorem lit_blank : (ByteArray.mk #[32] : ByteArray) = bytesS [32] := rfl

theorem tmod_abs (n : Int) : (if n.tmod 10 < 0 then 0 - n.tmod 10 else n.tmod 10) = ((n.natAbs % 10 : Nat) : Int) := by
  by_cases h : 0 ≤ n
  · rw [Int.tmod_eq_emod_of_nonneg h]; split <;> omega
  · have := Int.neg_tmod (-n) 10
    rw [Int.neg_neg] at this
    rw [this, Int.tmod_eq_emod_of_nonneg (by omega)]
    split <;> omega
theorem tdiv_abs (n : Int) : (n.tdiv 10).natAbs = n.natAbs / 10 := by
  rw [Int.natAbs_tdiv]; rfl

theorem Decimal_eq (n : Int) (h1 : -9223372036854775808 ≤ n) (h2 : n ≤ 9223372036854775807) : sh115 n = some (bytesS (decL n)) := by
  unfold sh115
  by_cases h0 : n = 0
  · subst h0; rfl
  · have hN : n.natAbs < 10 ^ 19 := by omega
    rw [beq_eq_false_iff_ne.2 h0, cond_false]
    have e1 : (bif decide (n < 0) then (some (IntKind.u64.wrap (0 - (IntKind.u64.wrap n)))) else (some (IntKind.u64.wrap n))) = some (n.natAbs : Int) := by
      by_cases hneg : n < 0
      · simp only [hneg, decide_true, cond_true]
        rw [u64_neg h1 hneg]; congr 1; omega
      · have hd : decide (n < 0) = false := decide_eq_false hneg
        simp only [hd, cond_false]
        rw [u64_id (by omega) (by omega)]; congr 1; omega
    rw [e1, bindS]
    obtain ⟨b, hb, hr1, hr2, hr3, hr4⟩ := iter_inv (sb := sh115_1) (fun (s : Int × Int × List Int) => ∃ a r : Nat, s.1 = (a : Int) ∧ s.2.1 = (r : Int) ∧ 1 ≤ a ∧ a ≤ 20 ∧ r < 10 ^ (a - 1) ∧ s.2.2.length = 20 ∧ digs n.natAbs = digs r ++ s.2.2.drop a) (fun s => s.1.toNat)
      (fun (b : Int × List Int) => 1 ≤ b.1 ∧ b.1 ≤ 20 ∧ b.2.length = 20 ∧ digs n.natAbs = b.2.drop b.1.toNat) (s0 := (20, (n.natAbs : Int), List.replicate 20 (0 : Int)))
      ⟨20, n.natAbs, rfl, rfl, by omega, by omega, hN, rfl, by simp⟩ (by simp only; omega) (by
      rintro ⟨x, y, l⟩ ⟨a, r, rfl, rfl, ha1, ha2, hr, hl, hd⟩
      simp only at hl hd ⊢
      by_cases hr0 : r = 0
      · right
        subst hr0
        refine ⟨((a : Int), l), rfl, by simp only; omega, by simp only; omega, hl, ?_⟩
        simp only [Int.toNat_natCast]
        rw [hd, digs_zero, List.nil_append]
      · left
        have ha : 2 ≤ a := by
          rcases Nat.lt_or_ge a 2 with h | h
          · have : a = 1 := by omega
            subst this
            simp at hr; omega
          · exact h
        have hp : 10 ^ (a - 1) ≤ 10 ^ 19 := Nat.pow_le_pow_right (by omega) (by omega)
        have hp2 : 10 ^ (a - 1) = 10 ^ (a - 1 - 1) * 10 := by rw [← Nat.pow_succ]; congr 1; omega
        have hpos : (0 : Int) < (r : Int) := by omega
        have hw : w64 ((a : Int) - 1) = ((a - 1 : Nat) : Int) := by rw [w64_id (by omega) (by omega)]; omega
        have hlt : a - 1 < l.length := by omega
        have et : ((r : Int)).tmod 10 = ((r % 10 : Nat) : Int) := by rw [Int.tmod_eq_emod_of_nonneg (by omega)]; omega
        have ed : ((r : Int)).tdiv 10 = ((r / 10 : Nat) : Int) := by rw [Int.tdiv_eq_ediv_of_nonneg (by omega)]; omega
        simp only [sh115_1, hpos, decide_true, cond_true, hw, getI_lt hlt, bindS, et, ed, Int.toNat_natCast]
        rw [u64_id (x := ((r / 10 : Nat) : Int)) (by omega) (by omega), u64_id (x := 48 + ((r % 10 : Nat) : Int)) (by omega) (by omega), u8_id (by omega) (by omega)]
        refine ⟨_, rfl, ⟨a - 1, r / 10, rfl, rfl, by omega, by omega, by omega, by simp only [List.length_set]; exact hl, ?_⟩, by simp only [Int.toNat_natCast]; omega⟩
        simp only
        rw [hd, digs_pos (n := r) (by omega), List.append_assoc]
        congr 1
        rw [List.drop_eq_getElem_cons (i := a - 1) (by rw [List.length_set]; exact hlt), List.getElem_set_self, List.drop_set_of_lt (by omega)]
        rw [show a - 1 + 1 = a by omega]
        rfl)
    rw [hb, bindS]
    obtain ⟨x, l⟩ := b
    simp only at hr1 hr2 hr3 hr4
    obtain ⟨a, rfl⟩ : ∃ a : Nat, x = a := ⟨x.toNat, by omega⟩
    simp only [Int.toNat_natCast] at hr4
    unfold decL
    rw [if_neg h0]
    by_cases hneg : n < 0
    · have hw : w64 ((a : Int) - 1) = ((a - 1 : Nat) : Int) := by rw [w64_id (by omega) (by omega)]; omega
      have hlt : a - 1 < l.length := by omega
      simp only [hneg, decide_true, cond_true, hw, getI_lt hlt, bindS, if_true, Int.toNat_natCast]
      have hdl : dropL (l.set (a - 1) 45) ((a - 1 : Nat) : Int) = some ((l.set (a - 1) 45).drop (a - 1)) := by
        simp [dropL]; omega
      rw [hdl, bindS, List.drop_eq_getElem_cons (i := a - 1) (by rw [List.length_set]; exact hlt), List.getElem_set_self, List.drop_set_of_lt (by omega), hr4]
      rw [show a - 1 + 1 = a by omega]
      rfl
    · have hd : decide (n < 0) = false := decide_eq_false hneg
      have hdl : dropL l (a : Int) = some (l.drop a) := by
        simp [dropL]; omega
      simp only [hd, cond_false, bindS, hdl]
      rw [if_neg hneg, List.nil_append, hr4]

/-! strings -/
theorem catS_tot {x y : ByteArray} (h : x.size + y.size ≤ 1099511627776) : catS x y = some (x ++ y) := by
  have : LIM = 1099511627776 := rfl
  unfold catS
  rw [if_pos (by omega)]

/-! colourlines -/
def colB (c : Int) : Bool := decide (0 ≤ c) && decide (c ≤ 9)
theorem decL_digit {c : Int} (h : colB c = true) : decL c = [48 + c] ∧ 0 ≤ c ∧ c ≤ 9 := by
  unfold colB at h
  simp only [Bool.and_eq_true, decide_eq_true_eq] at h
  obtain ⟨h1, h2⟩ := h
  refine ⟨?_, h1, h2⟩
  have : c = 0 ∨ c = 1 ∨ c = 2 ∨ c = 3 ∨ c = 4 ∨ c = 5 ∨ c = 6 ∨ c = 7 ∨ c = 8 ∨ c = 9 := by omega
  rcases this with e | e | e | e | e | e | e | e | e | e <;> subst e <;> (first | rfl | (unfold decL; rw [if_neg (by omega), if_neg (by omega), digs_pos (by decide)]; simp [digs_zero]))
theorem l21List_eq (q : List Int) (n : Int) (h : q.length ≤ 1048576) : sh95 q n = some (q.all colB && ((q.length : Int) == n)) := by
  unfold sh95
  rw [iter_all (xs := q) (p := colB) (r := false) (by omega) (fun k hk => ?_) (by simp [sh95_1]), bindS]
  · cases q.all colB <;> simp [elimS]
  · have h2 : (k : Int) < q.length := by omega
    simp only [sh95_1, sh127, h2, decide_true, cond_true, getI_lt hk, bindS]
    rw [w64_id (x := (k : Int) + 1) (by omega) (by omega)]
    unfold colB
    cases decide (0 ≤ q[k]) && decide (q[k] ≤ 9) <;> rfl
theorem areColours_eq {p : SPanel} {cs : List (List SWalker)} {of : List Int} (ht : sh114 p = some (cs, of)) (q : List Int) (h : q.length ≤ 1048576) : sh97 p q = some (q.all colB && ((q.length : Int) == (cs.length : Int))) := by
  unfold sh97
  rw [iter_all (xs := q) (p := colB) (r := false) (by omega) (fun k hk => ?_) (by simp [sh97_1]), bindS]
  · cases q.all colB
    · simp [elimS]
    · simp [elimS, count_eq ht]
  · have h2 : (k : Int) < q.length := by omega
    simp only [sh97_1, sh125, h2, decide_true, cond_true, getI_lt hk, bindS]
    rw [w64_id (x := (k : Int) + 1) (by omega) (by omega)]
    unfold colB
    cases decide (0 ≤ q[k]) && decide (q[k] ≤ 9) <;> rfl
/-- The colour of a segment. -/
def colA (p : SPanel) (q of : List Int) (y : Int) (x : Nat) : Int := q.getD (of.getD ((x : Int) * (2 * p.H) + y).toNat 0).toNat 0
theorem lines_same {p : SPanel} {cs : List (List SWalker)} {of : List Int} (hd : Dim p) (ht : Tr p cs of (NS p)) (q : List Int) (hq : q.all colB = true) (hl : q.length = cs.length) :
    ∃ r, iter (sh58_1 p q (cs.map ptsOf, of)) (0, ([] : List ByteArray)) = some r ∧ iter (sh57_1 p q (cs, of)) (0, ([] : List ByteArray)) = some r ∧ r.length ≤ 16 := by
  have hN := NS_eq hd
  have hW : w64 (2 * p.W) = 2 * p.W := by have := hd.w1; have := hd.w2; exact w64_id (by omega) (by omega)
  have hH : w64 (2 * p.H) = 2 * p.H := by have := hd.h1; have := hd.h2; exact w64_id (by omega) (by omega)
  have cell : ∀ (x y : Nat), (x : Int) < 2 * p.W → (y : Int) < 2 * p.H → getI of ((x : Int) * (2 * p.H) + y) = some (of.getD ((x : Int) * (2 * p.H) + y).toNat 0) ∧ getI q (of.getD ((x : Int) * (2 * p.H) + y).toNat 0) = some (colA p q of y x) ∧ colB (colA p q of y x) = true := by
    intro x y hx hy
    have hb : 0 ≤ (x : Int) * (2 * p.H) + y ∧ (x : Int) * (2 * p.H) + y < (NS p : Int) := by
      rw [hN.1]
      obtain ⟨w1, w2, g1, g2, bl⟩ := hd
      clear bl hN hW hH ht
      generalize p.H = H at *
      generalize p.W = W at *
      rcases eight g1 g2 with e | e | e | e | e | e | e | e <;> subst e <;> omega
    have hi : ((x : Int) * (2 * p.H) + y).toNat < of.length := by have := ht.len; omega
    have h0 := ht.own ((x : Int) * (2 * p.H) + y).toNat (by omega)
    have h1 : of.getD ((x : Int) * (2 * p.H) + y).toNat 0 < (cs.length : Int) := by
      rcases ht.val ((x : Int) * (2 * p.H) + y).toNat with h | h
      · exact h
      · have := h.2; omega
    have hi2 : (of.getD ((x : Int) * (2 * p.H) + y).toNat 0).toNat < q.length := by omega
    refine ⟨?_, ?_, ?_⟩
    · rw [getI_toNat hb.1 hi, List.getD_eq_getElem?_getD, List.getElem?_eq_getElem hi]; rfl
    · rw [getI_toNat h0 hi2]
      unfold colA
      rw [List.getD_eq_getElem?_getD (l := q), List.getElem?_eq_getElem hi2]; rfl
    · unfold colA
      rw [List.getD_eq_getElem?_getD (l := q), List.getElem?_eq_getElem hi2]
      exact List.all_eq_true.1 hq _ (List.getElem_mem hi2)
  have linS : ∀ y : Nat, (y : Int) < 2 * p.H → iter (sh58_2 p q (cs.map ptsOf, of) (y : Int)) (0, ([] : List Int)) = some ((List.range (2 * p.W).toNat).map (fun x => 48 + colA p q of y x)) := by
    intro y hy
    have hw1 := hd.w1; have hw2 := hd.w2; have hh1 := hd.h1; have hh2 := hd.h2
    refine iter_steps (sb := sh58_2 p q (cs.map ptsOf, of) (y : Int)) (fun k => ((k : Int), (List.range k).map (fun x => 48 + colA p q of y x))) (2 * p.W).toNat (by omega) (fun k hk => ?_) ?_
    · have hx : (k : Int) < 2 * p.W := by omega
      obtain ⟨c1, c2, c3⟩ := cell k y hx hy
      obtain ⟨_, d1, d2⟩ := decL_digit c3
      have ej : ∃ w, (bif ((w64 ((k : Int) + (y : Int))).tmod 2) == 0 then (some (SWalker.mk (SPoint.mk (k : Int) (w64 ((y : Int) + 1))) 1 (-1))) else (some (SWalker.mk (SPoint.mk (k : Int) (y : Int)) 1 1))) = some w ∧ okW p w ∧ sgF p w = (k : Int) * (2 * p.H) + y := by
        rw [w64_id (x := (k : Int) + y) (by omega) (by omega), w64_id (x := (y : Int) + 1) (by omega) (by omega), Int.tmod_eq_emod_of_nonneg (by omega)]
        by_cases he : ((k : Int) + y) % 2 = 0
        · rw [beq_iff_eq.2 he, cond_true]
          refine ⟨_, rfl, ⟨.inl rfl, .inr rfl, ⟨?_, ?_⟩, ⟨?_, ?_⟩, ?_, ⟨?_, ?_⟩, ⟨?_, ?_⟩⟩, ?_⟩ <;> simp only [sgF, if_true, show ¬ ((-1 : Int) = 1) by omega, if_false] <;> omega
        · rw [beq_eq_false_iff_ne.2 he, cond_false]
          refine ⟨_, rfl, ⟨.inl rfl, .inl rfl, ⟨?_, ?_⟩, ⟨?_, ?_⟩, ?_, ⟨?_, ?_⟩, ⟨?_, ?_⟩⟩, ?_⟩ <;> simp only [sgF, if_true] <;> omega
      obtain ⟨w, e1, e2, e3⟩ := ej
      simp only [sh58_2, hW, decide_eq_true hx, cond_true, e1, bindS, seg_spec hd e2, e3, c1, c2]
      rw [w64_id (x := 48 + colA p q of y k) (by omega) (by omega), u8_id (by omega) (by omega), appL_ok (by simp only [List.length_map, List.length_range, List.length_cons, List.length_nil]; omega), bindS, w64_id (by omega) (by omega), range_snoc]
      rfl
    · have hx : decide ((((2 * p.W).toNat : Nat) : Int) < 2 * p.W) = false := decide_eq_false (by omega)
      simp only [sh58_2, hW, hx, cond_false]
  have linI : ∀ y : Nat, (y : Int) < 2 * p.H → iter (sh57_2 p q (cs, of) (y : Int)) (ByteArray.mk #[], 0) = some (bytesS ((List.range (2 * p.W).toNat).map (fun x => 48 + colA p q of y x))) := by
    intro y hy
    have hw1 := hd.w1; have hw2 := hd.w2; have hh1 := hd.h1; have hh2 := hd.h2
    refine iter_steps (sb := sh57_2 p q (cs, of) (y : Int)) (fun k => (bytesS ((List.range k).map (fun x => 48 + colA p q of y x)), (k : Int))) (2 * p.W).toNat (by omega) (fun k hk => ?_) ?_
    · have hx : (k : Int) < 2 * p.W := by omega
      obtain ⟨c1, c2, c3⟩ := cell k y hx hy
      obtain ⟨d0, d1, d2⟩ := decL_digit c3
      have hm := mul_small (a := (k : Int) * 2) hh1 hh2 (by omega) (by omega)
      simp only [sh57_2, hW, decide_eq_true hx, cond_true]
      rw [w64_id (x := (k : Int) * 2) (by omega) (by omega), w64_id (x := (k : Int) * 2 * p.H) (by omega) (by omega), w64_id (by omega) (by omega), Int.mul_assoc, c1, bindS, c2, bindS, Decimal_eq _ (by omega) (by omega), bindS, d0, catS_ok (by simp only [List.length_map, List.length_range, List.length_cons, List.length_nil]; omega), bindS, w64_id (by omega) (by omega), range_snoc]
      rfl
    · have hx : decide ((((2 * p.W).toNat : Nat) : Int) < 2 * p.W) = false := decide_eq_false (by omega)
      simp only [sh57_2, hW, hx, cond_false]
  have hh1 := hd.h1; have hh2 := hd.h2
  refine ⟨(List.range (2 * p.H).toNat).map (fun y : Nat => bytesS ((List.range (2 * p.W).toNat).map (fun x => 48 + colA p q of (y : Int) x))), ?_, ?_, by simp; omega⟩
  · refine iter_steps (sb := sh58_1 p q (cs.map ptsOf, of)) (fun k => ((k : Int), (List.range k).map (fun y : Nat => bytesS ((List.range (2 * p.W).toNat).map (fun x => 48 + colA p q of (y : Int) x))))) (2 * p.H).toNat (by omega) (fun k hk => ?_) ?_
    · have hy : (k : Int) < 2 * p.H := by omega
      simp only [sh58_1, hH, decide_eq_true hy, cond_true, linS k hy, bindS]
      rw [appL_ok (by simp only [List.length_map, List.length_range, List.length_cons, List.length_nil]; omega), bindS, w64_id (by omega) (by omega), range_snoc]
      rfl
    · have hy : decide ((((2 * p.H).toNat : Nat) : Int) < 2 * p.H) = false := decide_eq_false (by omega)
      simp only [sh58_1, hH, hy, cond_false]
  · refine iter_steps (sb := sh57_1 p q (cs, of)) (fun k => ((k : Int), (List.range k).map (fun y : Nat => bytesS ((List.range (2 * p.W).toNat).map (fun x => 48 + colA p q of (y : Int) x))))) (2 * p.H).toNat (by omega) (fun k hk => ?_) ?_
    · have hy : (k : Int) < 2 * p.H := by omega
      simp only [sh57_1, hH, decide_eq_true hy, cond_true, linI k hy, bindS]
      rw [appL_ok (by simp only [List.length_map, List.length_range, List.length_cons, List.length_nil]; omega), bindS, w64_id (by omega) (by omega), range_snoc]
      rfl
    · have hy : decide ((((2 * p.H).toNat : Nat) : Int) < 2 * p.H) = false := decide_eq_false (by omega)
      simp only [sh57_1, hH, hy, cond_false]
theorem colourLines_total (p : SPanel) (q : List Int) (hb : p.Breaks.length ≤ 1048576) (hq : q.length ≤ 1048576) : ∃ r, sh58 p q = some r ∧ sh57 p q = some r ∧ r.1.length ≤ 16 := by
  unfold sh58 sh57
  rw [l02Ok_eq p hb, validPanel_eq p hb]
  simp only [bindS]
  cases hp : panelB p
  · exact ⟨_, rfl, rfl, by simp⟩
  · obtain ⟨cs, of, h1, h2, ht⟩ := trace_eq p (dim_of hp)
    simp only [Bool.not_true, cond_false, h2, bindS, l21List_eq _ _ hq, areColours_eq h1 _ hq, List.length_map, h1]
    cases ha : q.all colB
    · exact ⟨_, rfl, rfl, by simp⟩
    · by_cases hl : q.length = cs.length
      · have hl2 : ((q.length : Int) == (cs.length : Int)) = true := beq_iff_eq.2 (by omega)
        obtain ⟨r, g1, g2, g3⟩ := lines_same (dim_of hp) ht q ha hl
        simp only [hl2, Bool.and_self, Bool.not_true, cond_false, g1, g2, bindS]
        exact ⟨_, rfl, rfl, g3⟩
      · have hl2 : ((q.length : Int) == (cs.length : Int)) = false := beq_eq_false_iff_ne.2 (by omega)
        rw [hl2]
        exact ⟨_, rfl, rfl, by simp⟩

/-! draw02 -/
theorem l02New_ok (w h : Int) (hw : 1 ≤ w ∧ w ≤ 8) (hh : 1 ≤ h ∧ h ≤ 8) : ∃ r, sh163 w h = some r ∧ r.W = w ∧ r.H = h ∧ (∀ x ∈ r.Breaks, x = 0) ∧ panelB r = true := by
  unfold sh163 sh144
  have hb1 : 0 ≤ w * (h - 1) ∧ w * (h - 1) ≤ 56 := by
    have h1 : 0 ≤ w * (h - 1) := Int.mul_nonneg (by omega) (by omega)
    have h2 : w * (h - 1) ≤ 8 * (h - 1) := Int.mul_le_mul_of_nonneg_right (by omega) (by omega)
    omega
  have hb2 : 0 ≤ h * (w - 1) ∧ h * (w - 1) ≤ 56 := by
    have h1 : 0 ≤ h * (w - 1) := Int.mul_nonneg (by omega) (by omega)
    have h2 : h * (w - 1) ≤ 8 * (w - 1) := Int.mul_le_mul_of_nonneg_right (by omega) (by omega)
    omega
  have e : w64 (w64 (w * w64 (h - 1)) + w64 (h * w64 (w - 1))) = ((w * (h - 1) + h * (w - 1)).toNat : Int) := by
    rw [w64_id (x := h - 1) (by omega) (by omega), w64_id (x := w - 1) (by omega) (by omega), w64_id (x := w * (h - 1)) (by omega) (by omega), w64_id (x := h * (w - 1)) (by omega) (by omega), w64_id (by omega) (by omega)]
    omega
  simp only [bindS]
  rw [e, mkL_ok (by omega), bindS]
  refine ⟨_, rfl, rfl, rfl, fun x hx => List.eq_of_mem_replicate hx, ?_⟩
  unfold panelB
  simp only [List.length_replicate, Bool.and_eq_true, beq_iff_eq, List.all_eq_true]
  refine ⟨⟨?_, ?_⟩, ?_, fun x hx => ?_⟩
  · unfold sideB; simp [hw.1, hw.2]
  · unfold sideB; simp [hh.1, hh.2]
  · unfold innerN; rw [e]
  · rw [List.eq_of_mem_replicate hx]; rfl
theorem panelB_of {w h : Int} {b b' : List Int} (hp : panelB ⟨w, h, b⟩ = true) (hl : b'.length = b.length) (hx : ∀ x ∈ b', 0 ≤ x ∧ x ≤ 2) : panelB ⟨w, h, b'⟩ = true := by
  unfold panelB at hp ⊢
  simp only [Bool.and_eq_true, List.all_eq_true, hl] at hp ⊢
  refine ⟨hp.1, hp.2.1, fun x hm => ?_⟩
  unfold brkB; simp [(hx x hm).1, (hx x hm).2]
theorem draw02_ok (q : Sl00Src) (n : Int) (hn : 1 ≤ n ∧ n ≤ 8) (hc : srcB q.code) (h0 : 0 ≤ q.at_) (h1 : q.at_ ≤ 1099511627776) :
    ∃ r, sh162 q n = some r ∧ panelB r.1 = true ∧ (r.1.W ≤ n ∧ r.1.H ≤ n) ∧ 0 ≤ r.2.1 ∧ r.2.1 ≤ q.at_ + 1000 := by
  unfold sh162
  obtain ⟨x3, e3, b3, a3, c3⟩ := pick_ok q n hc h0 (by omega)
  rw [e3, bindS]
  obtain ⟨x4, e4, b4, a4, c4⟩ := pick_ok ⟨q.code, x3.2.1, x3.2.2⟩ n hc a3 (by simp only; omega)
  rw [e4, bindS, w64_id (x := 1 + x3.1) (by omega) (by omega), w64_id (x := 1 + x4.1) (by omega) (by omega)]
  simp only at c4
  obtain ⟨x5, e5, w5, h5, z5, p5⟩ := l02New_ok (1 + x3.1) (1 + x4.1) ⟨by omega, by omega⟩ ⟨by omega, by omega⟩
  rw [e5, bindS]
  obtain ⟨x11, e11, b11, a11, c11⟩ := pick_ok ⟨q.code, x4.2.1, x4.2.2⟩ 4 hc a4 (by simp only; omega)
  rw [e11, bindS]
  simp only at c11
  have hbl : x5.Breaks.length ≤ 112 := (panelB_facts p5).2.2.2.2
  have hi := iter_inv (sb := sh162_1 q x5 x11) (s0 := (0, (x11.2.1, x11.2.2), x5.Breaks)) (fun s => 0 ≤ s.1 ∧ s.1 ≤ x5.Breaks.length ∧ s.2.2.length = x5.Breaks.length ∧ (∀ x ∈ s.2.2, 0 ≤ x ∧ x ≤ 2) ∧ 0 ≤ s.2.1.1 ∧ s.2.1.1 ≤ q.at_ + 6 + 4 * s.1) (fun s => ((x5.Breaks.length : Int) - s.1).toNat)
    (fun s => s.2.length = x5.Breaks.length ∧ (∀ x ∈ s.2, 0 ≤ x ∧ x ≤ 2) ∧ 0 ≤ s.1.1 ∧ s.1.1 ≤ q.at_ + 600) ⟨by simp, by simp, rfl, fun x hx => by rw [z5 x hx]; omega, a11, by simp only; omega⟩ (by simp only; omega) (by
    rintro ⟨k, ⟨a, sd⟩, l⟩ ⟨i1, i2, i3, i4, i5, i6⟩
    simp only at i1 i2 i3 i4 i5 i6
    by_cases hk : k < x5.Breaks.length
    · left
      have hkd : k < ((x5.Breaks.length : Nat) : Int) := hk
      simp only [sh162_1, hkd, decide_true, cond_true]
      obtain ⟨y, g, n1, m, n2⟩ := pick_ok ⟨q.code, a, sd⟩ 4 hc i5 (by simp only; omega)
      simp only at n2
      rw [g, bindS]
      by_cases hlt : y.1 < x11.1
      · obtain ⟨y2, g2, n3, m2, n4⟩ := pick_ok ⟨q.code, y.2.1, y.2.2⟩ 2 hc m (by simp only; omega)
        simp only at n4
        rw [decide_eq_true hlt, cond_true, g2, bindS, getI_toNat i1 (by omega), bindS, bindS, w64_id (x := k + 1) (by omega) (by omega), w64_id (x := 1 + y2.1) (by omega) (by omega)]
        refine ⟨_, rfl, ⟨by simp only; omega, by simp only; omega, by simp only [List.length_set]; omega, fun x hx => ?_, m2, by simp only; omega⟩, by simp only; omega⟩
        rcases List.mem_or_eq_of_mem_set hx with h | h
        · exact i4 x h
        · rw [h]; omega
      · rw [decide_eq_false hlt, cond_false, bindS, w64_id (x := k + 1) (by omega) (by omega)]
        exact ⟨_, rfl, ⟨by simp only; omega, by simp only; omega, i3, i4, m, by simp only; omega⟩, by simp only; omega⟩
    · right
      have hkd : ¬ k < ((x5.Breaks.length : Nat) : Int) := hk
      simp only [sh162_1, hkd, decide_false, cond_false]
      exact ⟨_, rfl, i3, i4, i5, by simp only; omega⟩)
  obtain ⟨b, hb, d1, d2, d3, d4⟩ := hi
  rw [hb, bindS]
  refine ⟨_, rfl, panelB_of (b := x5.Breaks) (by exact p5) d1 d2, ⟨by simp only [w5]; omega, by simp only [h5]; omega⟩, d3, by simp only; omega⟩
theorem bent02_ok (q : Sl00Src) (hc : srcB q.code) (h0 : 0 ≤ q.at_) (h1 : q.at_ ≤ 549755813888) :
    ∃ r, sh108 q = some r ∧ r.1.Breaks.length ≤ 200 ∧ 0 ≤ r.2.1 ∧ r.2.1 ≤ q.at_ + 1100 := by
  unfold sh108
  obtain ⟨x3, e3, b3, _, a3, c3⟩ := draw02_ok q 5 (by omega) hc h0 (by omega)
  have hbl : x3.1.Breaks.length ≤ 112 := (panelB_facts b3).2.2.2.2
  rw [e3, bindS]
  obtain ⟨x, e, b, a, c⟩ := pick_ok ⟨q.code, x3.2.1, x3.2.2⟩ 20 hc a3 (by simp only; omega)
  rw [e, bindS]
  simp only at c
  cases x.1 == 0
  · rw [cond_false]
    cases x.1 == 1
    · rw [cond_false]
      cases x.1 == 2
      · rw [cond_false]
        cases x.1 == 3
        · rw [cond_false]
          simp only [bindS]
          exact ⟨_, rfl, by simp only; omega, a, by simp only; omega⟩
        · rw [cond_true]
          obtain ⟨y, g, _, _, _, p5⟩ := l02New_ok 8 8 (by omega) (by omega)
          have := (panelB_facts p5).2.2.2.2
          rw [g]
          simp only [bindS]
          exact ⟨_, rfl, by simp only; omega, a, by simp only; omega⟩
      · rw [cond_true]
        by_cases hl : 0 < (x3.1.Breaks.length : Int)
        · obtain ⟨y, g, n1, m, n⟩ := pick_ok ⟨q.code, x.2.1, x.2.2⟩ (x3.1.Breaks.length : Int) hc a (by simp only; omega)
          simp only at n
          obtain ⟨z, g2, n3, m2, n4⟩ := among_ok ⟨q.code, y.2.1, y.2.2⟩ [(-1), 2, 3] hc m (by simp only; omega) (by simp)
          simp only at n4
          rw [decide_eq_true hl, cond_true, g, bindS, g2, bindS, getI_toNat n1.1 (by omega)]
          simp only [bindS]
          exact ⟨_, rfl, by simp only [List.length_set]; omega, m2, by simp only; omega⟩
        · rw [decide_eq_false hl, cond_false]
          simp only [bindS]
          exact ⟨_, rfl, by simp only; omega, a, by simp only; omega⟩
    · rw [cond_true, appL_ok (by simp only [List.length_cons, List.length_nil]; omega)]
      simp only [bindS]
      exact ⟨_, rfl, by simp only [List.length_append, List.length_cons, List.length_nil]; omega, a, by simp only; omega⟩
  · rw [cond_true]
    obtain ⟨z, g2, n3, m2, n4⟩ := among_ok ⟨q.code, x.2.1, x.2.2⟩ [0, 8, 9, (-9223372036854775808)] hc a (by simp only; omega) (by simp)
    simp only at n4
    rw [g2]
    simp only [bindS]
    exact ⟨_, rfl, by simp only; omega, m2, by simp only; omega⟩

/-! f6ints -/
theorem f6ints_eq (xs ys : List Int) (h : xs.length ≤ 1048576) : sh51 xs ys = some (decide (xs = ys)) := by
  unfold sh51
  by_cases hl : xs.length = ys.length
  · have h1 : ((xs.length : Int) != (ys.length : Int)) = false := by simp; omega
    rw [h1, cond_false, iter_eq (xs := xs) (ys := ys) (by omega) hl (fun k hk => ?_) (by simp [sh51_1]), bindS]
    · by_cases he : xs = ys <;> simp [he, elimS]
    · have h2 : (k : Int) < xs.length := by omega
      have h3 : k < ys.length := by omega
      simp only [sh51_1, h2, decide_true, cond_true, getI_lt hk, getI_lt h3, bindS]
      rw [w64_id (by omega) (by omega)]
      by_cases he : xs[k] = ys[k]
      · simp [he]
      · rw [if_neg he, bne_iff_ne.2 he]
        rfl
  · have h1 : ((xs.length : Int) != (ys.length : Int)) = true := by simp; omega
    rw [h1, cond_true]
    have : xs ≠ ys := fun h => hl (by rw [h])
    simp [this]

/-! fncolours -/
theorem f6texts_refl (xs : List ByteArray) (h : xs.length ≤ 1048576) : sh59 xs xs = some true := by
  unfold sh59
  rw [bne_self_eq_false, cond_false, iter_all (xs := xs) (p := fun _ => true) (r := false) (by omega) (fun k hk => ?_) (by simp [sh59_1]), bindS]
  · simp [elimS]
  · have h2 : (k : Int) < xs.length := by omega
    simp only [sh59_1, h2, decide_true, cond_true, getI_lt hk, bindS, beq_self_eq_true, Bool.not_true, cond_false, if_true]
    rw [w64_id (by omega) (by omega)]
theorem tr_pos {p : SPanel} {cs : List (List SWalker)} {of : List Int} (hd : Dim p) (ht : Tr p cs of (NS p)) : 1 ≤ cs.length := by
  have h1 := NS_eq hd
  have h2 := hd.w1
  have h3 := hd.h1
  have h4 : 0 < p.W * p.H := Int.mul_pos (by omega) (by omega)
  have hN : 0 < NS p := by
    rcases Nat.eq_zero_or_pos (NS p) with h | h
    · have hz := h1.1
      rw [h] at hz
      have : 4 * p.W * p.H = 4 * (p.W * p.H) := by rw [Int.mul_assoc]
      omega
    · exact h
  have h5 := ht.own 0 hN
  rcases ht.val 0 with h | h
  · omega
  · omega
/-! ### the greedy colours -/
def gcol (M : List (List Bool)) (j : Nat) : Nat := freeC M (greedyL j M) j
theorem greedyL_succ (M : List (List Bool)) (k : Nat) : greedyL (k + 1) M = greedyL k M ++ [(gcol M k : Int)] := by
  unfold greedyL
  rw [List.range_succ, List.foldl_append]
  rfl
theorem greedyL_map (M : List (List Bool)) : ∀ n, greedyL n M = (List.range n).map fun j => (gcol M j : Int)
  | 0 => rfl
  | n + 1 => by rw [greedyL_succ, List.range_succ, List.map_append, greedyL_map M n]; rfl
theorem greedyL_len (M : List (List Bool)) (n : Nat) : (greedyL n M).length = n := by rw [greedyL_map]; simp
theorem greedyL_get (M : List (List Bool)) {n j : Nat} (h : j < n) : (greedyL n M).getD j 0 = (gcol M j : Int) := by
  rw [greedyL_map, List.getD_eq_getElem?_getD, List.getElem?_eq_getElem (by simpa using h)]
  simp
theorem gcol_le (M : List (List Bool)) (k : Nat) : gcol M k ≤ k := (freeC_ok M (greedyL k M) k (greedyL_len M k)).1
theorem gcol_free (M : List (List Bool)) (k : Nat) : usedF M (greedyL k M) k (gcol M k) = false := (freeC_ok M (greedyL k M) k (greedyL_len M k)).2.1
theorem gcol_used (M : List (List Bool)) (k c : Nat) (h : c < gcol M k) : usedF M (greedyL k M) k c = true := (freeC_ok M (greedyL k M) k (greedyL_len M k)).2.2 c h
theorem greedy_proper (M : List (List Bool)) (n : Nat) : properS n M (greedyL n M) = true := by
  unfold properS
  simp only [List.all_eq_true, List.mem_range, Bool.not_eq_true']
  intro i hi j hj
  unfold clash
  rw [greedyL_get M hi, greedyL_get M (show j < n by omega)]
  have hf := gcol_free M i
  unfold usedF at hf
  rw [List.any_eq_false] at hf
  have := hf j (List.mem_range.2 hj)
  rw [greedyL_get M hj] at this
  cases he : ent M i j
  · rfl
  · rw [he, Bool.true_and] at this
    rw [Bool.true_and, Bool.beq_comm]
    · simpa using this
theorem greedy_cols (M : List (List Bool)) {n : Nat} (hn : n ≤ 10) : colsB (greedyL n M) = true := by
  unfold colsB
  rw [List.all_eq_true]
  intro x hx
  rw [greedyL_map] at hx
  obtain ⟨j, hj, rfl⟩ := List.mem_map.1 hx
  rw [List.mem_range] at hj
  have := gcol_le M j
  simp only [Bool.and_eq_true, decide_eq_true_eq]; omega
theorem muS_ge (m x : Int) : m ≤ muS m x ∧ x + 1 ≤ muS m x := by unfold muS; split <;> omega
theorem muF_ge : ∀ (l : List Int) (m : Int), m ≤ l.foldl muS m ∧ ∀ x ∈ l, x + 1 ≤ l.foldl muS m
  | [], m => ⟨Int.le_refl _, by simp⟩
  | a :: l, m => by
    have h := muF_ge l (muS m a)
    have h2 := muS_ge m a
    rw [List.foldl_cons]
    refine ⟨by omega, fun x hx => ?_⟩
    rcases List.mem_cons.1 hx with rfl | hx
    · omega
    · exact h.2 x hx
theorem muL_ge {l : List Int} {x : Int} (h : x ∈ l) : x + 1 ≤ muL l := (muF_ge l 0).2 x h
theorem muL_nonneg (l : List Int) : 0 ≤ muL l := (muF_ge l 0).1
theorem gcol_mu (M : List (List Bool)) (k : Nat) : (gcol M k : Int) ≤ muL (greedyL k M) := by
  have h0 := muL_nonneg (greedyL k M)
  by_cases hz : gcol M k = 0
  · omega
  · have hu := gcol_used M k (gcol M k - 1) (by omega)
    unfold usedF at hu
    rw [List.any_eq_true] at hu
    obtain ⟨j, hj, he⟩ := hu
    rw [List.mem_range] at hj
    simp only [Bool.and_eq_true, beq_iff_eq] at he
    have hl := greedyL_len M k
    have hm : (greedyL k M).getD j 0 ∈ greedyL k M := by
      rw [List.getD_eq_getElem?_getD, List.getElem?_eq_getElem (by omega)]
      exact List.getElem_mem _
    have := muL_ge hm
    omega
theorem canT_greedy (M : List (List Bool)) (n : Nat) (many : Int) (hm : ∀ j, j < n → (gcol M j : Int) < many) : ∀ (d k : Nat), k + d = n → canT M many d (greedyL k M) (muL (greedyL k M)) = true
  | 0, _, _ => rfl
  | d + 1, k, hk => by
    unfold canT
    have h1 := hm k (by omega)
    have h2 := gcol_mu M k
    rw [List.any_eq_true]
    refine ⟨gcol M k, List.mem_range.2 (by split <;> omega), ?_⟩
    rw [Bool.and_eq_true]
    constructor
    · have := gcol_free M k
      unfold freeB
      unfold usedF at this
      rw [greedyL_len, this]; rfl
    · have ih := canT_greedy M n many hm d (k + 1) (by omega)
      rw [greedyL_succ, muL_snoc] at ih
      exact ih
theorem canT_all (M : List (List Bool)) (n : Nat) : canT M (muL (greedyL n M)) n [] 0 = true := by
  have := canT_greedy M n (muL (greedyL n M)) (fun j hj => by
    have hx : (gcol M j : Int) ∈ greedyL n M := by rw [greedyL_map]; exact List.mem_map.2 ⟨j, List.mem_range.2 hj, rfl⟩
    have := muL_ge hx
    omega) n 0 (by omega)
  exact this
theorem mu_greedy_le (M : List (List Bool)) : ∀ n, muL (greedyL n M) ≤ (n : Int)
  | 0 => Int.le_refl _
  | n + 1 => by
    rw [greedyL_succ, muL_snoc]
    have h1 := mu_greedy_le M n
    have h2 := gcol_le M n
    unfold muS
    split <;> omega
theorem mu_greedy_pos (M : List (List Bool)) {n : Nat} (h : 1 ≤ n) : 1 ≤ muL (greedyL n M) := by
  have hx : (gcol M 0 : Int) ∈ greedyL n M := by rw [greedyL_map]; exact List.mem_map.2 ⟨0, List.mem_range.2 h, rfl⟩
  have := muL_ge hx
  omega
theorem colourCurves_val {p : SPanel} (hp : panelB p = true) (hb : p.Breaks.length ≤ 1048576) {cs : List (List SWalker)} {of : List Int} (h1 : sh114 p = some (cs, of)) (ht : Tr p cs of (NS p)) (hc : cs.length ≤ 256) : sh36 p = some (greedyL cs.length (crossM p of cs.length), 0) := by
  unfold sh36
  have hsq := cross_sq (dim_of hp) ht
  rw [validPanel_eq p hb, hp]
  simp only [bindS, Bool.not_true, cond_false, cross_impl hp h1 ht hc, greedy_impl hsq hc]
theorem isColouring_greedy {p : SPanel} (hp : panelB p = true) (hb : p.Breaks.length ≤ 1048576) {cs : List (List SWalker)} {of : List Int} (h1 : sh114 p = some (cs, of)) (ht : Tr p cs of (NS p)) (hc : cs.length ≤ 10) : sh33 p (greedyL cs.length (crossM p of cs.length)) = some true := by
  unfold sh33
  have hsy := cross_sy (dim_of hp) ht
  have hl := greedyL_len (crossM p of cs.length) cs.length
  rw [validPanel_eq p hb, hp]
  simp only [bindS, Bool.not_true, cond_false, areColoursC_eq h1 _ (show (greedyL cs.length (crossM p of cs.length)).length ≤ 1048576 by omega), greedy_cols _ hc, if_true, hl, beq_self_eq_true, cross_impl hp h1 ht (by omega), properI_loop hsy.sq _ hl (by omega)]
  rw [← proper_same hsy, greedy_proper]
  rfl
theorem fewest_more (p : SPanel) (hb : p.Breaks.length ≤ 1048576) : ∃ r, sh41 p = some r ∧ sh42 p = some r ∧
    (r.2 = 0 → panelB p = true ∧ ∃ cs of, sh114 p = some (cs, of) ∧ Tr p cs of (NS p) ∧ cs.length ≤ 10 ∧ 1 ≤ r.1 ∧ ∀ x, 1 ≤ x → canT (crossM p of cs.length) x cs.length [] 0 = true → r.1 ≤ x) := by
  unfold sh41 sh42
  rw [l02Ok_eq p hb, validPanel_eq p hb]
  simp only [bindS]
  cases hp : panelB p
  · exact ⟨_, rfl, rfl, fun h => by simp at h⟩
  · obtain ⟨cs, of, h1, h2, ht⟩ := trace_eq p (dim_of hp)
    have hN := (NS_eq (dim_of hp)).2.1
    have hf := ht.few
    have hc : cs.length ≤ 256 := by omega
    have hsq := cross_sq (dim_of hp) ht
    simp only [Bool.not_true, cond_false, cross_spec hp h2 ht hc, cross_impl hp h1 ht hc, bindS, hsq.len]
    obtain ⟨M, hM⟩ : ∃ M, M = crossM p of cs.length := ⟨_, rfl⟩
    rw [← hM] at hsq ⊢
    cases hd : decide (10 < ((cs.length : Nat) : Int))
    · have hten : cs.length ≤ 10 := by simp at hd; omega
      have hg0 : GB [] := ⟨by simp, Int.le_refl _, Int.le_refl _⟩
      have hboth : ∀ x : Int, 0 ≤ x → x ≤ 1000 → sh103 M [] x 0 = some (canT M x cs.length [] 0) ∧ sh104 M [] x = some (canT M x cs.length [] 0) := fun x h0 h1 =>
        can_both hsq hc x ⟨h0, h1⟩ cs.length [] 2000 (by simp) (by omega) hg0
      have hI : ∀ a, 1 ≤ a ∧ a ≤ 11 → (sh41_1 M a = if canT M a cs.length [] 0 = true then some (.inr a) else some (.inl (a + 1))) ∧ (sh42_1 M a = if canT M a cs.length [] 0 = true then some (.inr a) else some (.inl (a + 1))) := by
        intro a ha
        obtain ⟨b1, b2⟩ := hboth a (by omega) (by omega)
        constructor
        · simp only [sh41_1, b1, bindS]
          rw [w64_id (by omega) (by omega)]
          cases canT M a cs.length [] 0 <;> rfl
        · simp only [sh42_1, b2, bindS]
          rw [w64_id (by omega) (by omega)]
          cases canT M a cs.length [] 0 <;> rfl
      obtain ⟨x, y, g1, g2, rfl, k1, k2⟩ := iter_rel (sb1 := sh41_1 M) (sb2 := sh42_1 M) (fun a b => a = b ∧ (1 ≤ a ∧ a ≤ 11) ∧ ∀ z, 1 ≤ z → canT M z cs.length [] 0 = true → a ≤ z) (fun a : Int => (12 - a).toNat) (fun x y => x = y ∧ 1 ≤ x ∧ ∀ z, 1 ≤ z → canT M z cs.length [] 0 = true → x ≤ z) (s1 := 1) (s2 := 1) ⟨rfl, by omega, fun z hz _ => hz⟩ (by decide) (by
        rintro a b ⟨rfl, ⟨i1, i2⟩, i3⟩
        obtain ⟨q1, q2⟩ := hI a ⟨i1, i2⟩
        rw [q1, q2]
        cases hcan : canT M a cs.length [] 0
        · left
          have : a < 11 := by
            rcases Int.lt_or_le a 11 with h | h
            · exact h
            · have := canT_full (M := M) a (show ((cs.length : Nat) : Int) ≤ a by omega) cs.length [] 0 (by simp) (Int.le_refl _) (by simp) (by simp)
              rw [hcan] at this; cases this
          refine ⟨a + 1, a + 1, rfl, rfl, ⟨rfl, by omega, fun z hz hc => ?_⟩, by omega⟩
          have h5 := i3 z hz hc
          rcases Int.lt_or_le a z with h | h
          · omega
          · have : a = z := by omega
            rw [← this, hcan] at hc; cases hc
        · right
          exact ⟨a, a, rfl, rfl, rfl, i1, i3⟩)
      simp only [cond_false, g1, g2, bindS]
      refine ⟨_, rfl, rfl, fun _ => ⟨trivial, cs, of, h1, ht, hten, k1, ?_⟩⟩
      rw [← hM]
      exact k2
    · exact ⟨_, rfl, rfl, fun h => by simp at h⟩
/-! ### draws -/
theorem min9_ok (l : List Int) (h : l.length ≤ 1048576) : ∃ r, iter (sh112_1 l) (0, l) = some r ∧ r.length = l.length := by
  refine iter_inv (sb := sh112_1 l) (s0 := (0, l)) (fun s => 0 ≤ s.1 ∧ s.1 ≤ l.length ∧ s.2.length = l.length) (fun s => ((l.length : Int) - s.1).toNat) (fun r => r.length = l.length) ⟨by simp, by simp, rfl⟩ (by simp only; omega) ?_
  rintro ⟨k, q⟩ ⟨i1, i2, i3⟩
  simp only at i1 i2 i3
  by_cases hk : k < l.length
  · left
    have hx : ∃ y, sh164 (q[k.toNat]'(by omega)) 9 = some y := by
      unfold sh164
      cases decide ((q[k.toNat]'(by omega)) < 9) <;> exact ⟨_, rfl⟩
    obtain ⟨y, hy⟩ := hx
    have hkd : decide (k < (l.length : Int)) = true := decide_eq_true hk
    simp only [sh112_1, hkd, cond_true]
    rw [getI_toNat i1 (show k.toNat < q.length by omega)]
    simp only [bindS, hy]
    rw [w64_id (by omega) (by omega)]
    exact ⟨_, rfl, ⟨by simp only; omega, by simp only; omega, by simp only [List.length_set]; omega⟩, by simp only; omega⟩
  · right
    have hkd : decide (k < (l.length : Int)) = false := decide_eq_false hk
    simp only [sh112_1, hkd, cond_false]
    exact ⟨_, rfl, i3⟩
theorem colours_ok (c : List Int) (hc : srcB c) : ∃ r, sh112 c = some r ∧ r.1.Breaks.length ≤ 200 ∧ r.2.length ≤ 300 := by
  unfold sh112
  obtain ⟨d, e, l, a, b⟩ := bent02_ok ⟨c, 0, 0⟩ hc (Int.le_refl 0) (by simp only; omega)
  simp only at b
  rw [show sh109 c = some ⟨c, 0, 0⟩ from rfl]
  simp only [bindS, e, l02Ok_eq d.1 (by omega)]
  cases hp : panelB d.1
  · exact ⟨_, rfl, l, by simp⟩
  · obtain ⟨cs, of, h1, h2, ht⟩ := trace_eq d.1 (dim_of hp)
    have hN := (NS_eq (dim_of hp)).2.1
    have hf := ht.few
    have hcc : cs.length ≤ 256 := by omega
    have hpos := tr_pos (dim_of hp) ht
    have hsq := cross_sq (dim_of hp) ht
    obtain ⟨g1, g2⟩ := greedy_spec hsq hcc
    have hl := greedyL_len (crossM d.1 of cs.length) cs.length
    simp only [Bool.not_true, cond_false, cross_spec hp h2 ht hcc, bindS, g1]
    generalize greedyL cs.length (crossM d.1 of cs.length) = q at hl
    obtain ⟨q2, m1, m2⟩ := min9_ok q (by omega)
    obtain ⟨x, f1, f2, f3, f4⟩ := pick_ok ⟨c, d.2.1, d.2.2⟩ 6 hc a (by simp only; omega)
    simp only at f4
    simp only [m1, bindS, f1]
    cases x.1 == 0
    · cases x.1 == 1
      · cases x.1 == 2
        · exact ⟨_, rfl, l, by simp only; omega⟩
        · simp only [cond_false, cond_true, appL_ok (show q2.length + [(0 : Int)].length ≤ 1099511627776 by simp only [List.length_cons, List.length_nil]; omega), bindS]
          exact ⟨_, rfl, l, by simp only [List.length_append, List.length_cons, List.length_nil]; omega⟩
      · obtain ⟨y, k1, _, k3, k4⟩ := among_ok ⟨c, x.2.1, x.2.2⟩ [(-1), 9, 10] hc f3 (by simp only; omega) (by simp)
        simp only [cond_false, cond_true, k1, bindS, getI_toNat (show (0 : Int) ≤ 0 by omega) (show (0 : Int).toNat < q2.length by simp only [Int.toNat_zero]; omega)]
        exact ⟨_, rfl, l, by simp only [List.length_set]; omega⟩
    · obtain ⟨y, k1, k2, k3, k4⟩ := pick_ok ⟨c, x.2.1, x.2.2⟩ ((q.length : Nat) : Int) hc f3 (by simp only; omega)
      simp only at k4
      obtain ⟨z, n1, n2, n3, n4⟩ := pick_ok ⟨c, y.2.1, y.2.2⟩ 4 hc k3 (by simp only; omega)
      simp only [cond_true, k1, bindS, n1, getI_toNat k2.1 (show y.1.toNat < q2.length by omega)]
      exact ⟨_, rfl, l, by simp only [List.length_set]; omega⟩

/-! FnColours -/
theorem most_loop (x : List Int × Int) (h : x.1.length ≤ 1048576) (hb : ∀ y ∈ x.1, 0 ≤ y ∧ y ≤ 1000) : iter (sh13_1 x) (0, 0) = some (muL x.1) := by
  have hi := iter_fold (sb := sh13_1 x) x.1 (fun k (m : Int) => (m, (k : Int))) muS (fun m => m) (fun _ _ => True) 0 trivial (by omega) (fun k hk m _ => ⟨?_, trivial⟩) (fun m _ => by
      have hdd : decide ((x.1.length : Int) < (x.1.length : Int)) = false := by simp
      simp only [sh13_1, hdd, cond_false])
  · have h1 := hi.1
    simp only [Int.natCast_zero] at h1
    exact h1
  · have hb := hb _ (List.getElem_mem hk)
    have hdd : decide ((k : Int) < (x.1.length : Int)) = true := decide_eq_true (by omega)
    have w1 : w64 ((k : Int) + 1) = ((k + 1 : Nat) : Int) := by rw [w64_id (by omega) (by omega)]; rfl
    have w2 : w64 (x.1[k] + 1) = x.1[k] + 1 := w64_id (by omega) (by omega)
    simp only [sh13_1, hdd, cond_true, getI_lt hk, bindS, w1, w2]
    rfl
theorem law13 (c : List Int) (hl0 : c.length ≤ maxLen) (hk0 : ∀ y ∈ c, okI .u8 y) : sh13 c = some true := by
  unfold sh13
  have hm : maxLen = 9223372036854775807 := rfl
  have hc := srcB_of hk0
  rw [f6big_eq c (by omega), bindS]
  cases hbig : decide (4096 < c.length)
  · rw [cond_false]
    have hfrom : sh109 c = some ⟨c, 0, 0⟩ := rfl
    obtain ⟨d, e1, l1, a1, c1⟩ := bent02_ok ⟨c, 0, 0⟩ hc (Int.le_refl 0) (by simp only; omega)
    simp only at c1
    have hA : sh52 c = some d.1 := by unfold sh52; simp only [hfrom, bindS, e1]
    have hB : sh53 c = some d.1 := by unfold sh53; simp only [hfrom, bindS, e1]
    obtain ⟨q, e2, l2, l3⟩ := colours_ok c hc
    have hC : sh54 c = some (q.1, q.2) := by unfold sh54; simp only [e2, bindS]
    have hD : sh56 c = some (q.1, q.2) := by unfold sh56; simp only [e2, bindS]
    obtain ⟨y1, f1, _, g1, g2⟩ := pick_ok ⟨c, d.2.1, d.2.2⟩ 5 hc a1 (by simp only; omega)
    simp only at g2
    obtain ⟨y2, f2, _, g3, g4⟩ := pick_ok ⟨c, y1.2.1, y1.2.2⟩ 12 hc g1 (by simp only; omega)
    have hE : ∃ k, sh55 c = some (d.1, k) := by unfold sh55; simp only [hfrom, bindS, e1, f1, f2]; exact ⟨_, rfl⟩
    obtain ⟨k, hE⟩ := hE
    obtain ⟨r1, b1, b2, b3⟩ := colourCurves_total d.1 (by omega)
    obtain ⟨r2, b4, b5, b6⟩ := fewest_more d.1 (by omega)
    obtain ⟨r3, b7, b8⟩ := isColouring_total q.1 q.2 (by omega) (by omega)
    obtain ⟨r4, n1, n2, n3⟩ := neighbours_total d.1 k (by omega)
    obtain ⟨r5, n4, n5, n6⟩ := colourLines_total q.1 q.2 (by omega) (by omega)
    rw [hA, hB, hC, hD, hE]
    simp only [bindS, b1, b2, b4, b5, b7, b8, n1, n2, n4, n5, bne_self_eq_false, cond_false, Bool.or_self, f6ints_eq r1.1 r1.1 (by omega), f6ints_eq r4.1 r4.1 (by omega), f6texts_refl r5.1 (by omega), decide_true, Bool.not_true]
    have hlast : (bif r1.2 != 0 then some true else (Option.bind (sh60 d.1) fun x => some ((x.2 == 0) && ((r1.1.length : Int) == x.1)))) = some true := by
      cases hp : panelB d.1
      · have hr : r1.2 = 1 := by
          unfold sh36 at b2
          rw [validPanel_eq d.1 (by omega), hp] at b2
          simp only [bindS, Bool.not_false, cond_true, Option.some.injEq] at b2
          rw [← b2]
        rw [hr]; rfl
      · obtain ⟨cs, of, h1, h2, ht⟩ := trace_eq d.1 (dim_of hp)
        have hN := (NS_eq (dim_of hp)).2.1
        have hf := ht.few
        have hv := colourCurves_val hp (by omega) h1 ht (by omega)
        rw [b2] at hv
        have hv2 := Option.some.inj hv
        have hcount : sh60 d.1 = some ((cs.length : Int), 0) := by
          unfold sh60
          rw [validPanel_eq d.1 (by omega), hp, bindS, count_eq h1]; rfl
        rw [hv2, hcount]
        simp only [bne_self_eq_false, cond_false, bindS, beq_self_eq_true, greedyL_len, Bool.and_self]
    by_cases h0 : r2.2 = 0
    · obtain ⟨hp, cs, of, h1, ht, hten, k1, k2⟩ := b6 h0
      have hv := colourCurves_val hp (by omega) h1 ht (by omega)
      have hr1 := b2.symm.trans hv
      have hr1' := Option.some.inj hr1
      have hmx := most_loop (greedyL cs.length (crossM d.1 of cs.length), 0) (by simp only [greedyL_len]; omega) (fun y hy => by
        simp only [greedyL_map] at hy
        obtain ⟨j, hj, rfl⟩ := List.mem_map.1 hy
        rw [List.mem_range] at hj
        have := gcol_le (crossM d.1 of cs.length) j
        omega)
      have hpos := mu_greedy_pos (crossM d.1 of cs.length) (tr_pos (dim_of hp) ht)
      have hfew := k2 _ hpos (canT_all (crossM d.1 of cs.length) cs.length)
      have hic := isColouring_greedy hp (by omega) h1 ht hten
      have hd1 : decide (muL (greedyL cs.length (crossM d.1 of cs.length)) < r2.1) = false := decide_eq_false (by omega)
      have hd2 : decide (r2.1 < 1) = false := decide_eq_false (by omega)
      rw [hr1'] at hlast ⊢
      simp only [h0, beq_self_eq_true, cond_true, bne_self_eq_false, cond_false, bindS, hic, Bool.not_true, hmx, hd1, hd2, Bool.or_self] at hlast ⊢
      exact hlast
    · have h1 : (r2.2 == 0) = false := beq_eq_false_iff_ne.2 h0
      rw [h1, cond_false]
      exact hlast
  · rfl
end Go.Sh
