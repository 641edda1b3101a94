/- Plain laws: what the shallow functions come to. -/
import Derived.Test.YtnifcedmpilldaaF6W3
set_option linter.unusedVariables false
set_option linter.unusedSimpArgs false
namespace Go.Sh
open Go Go.RowKit

/-! to_i64s -/

/-! eq_i64s -/

/-! mark_i64s -/
/-- The numbers that are laid into a result to see whether it is of one's own. -/
def marksFrom (m : Int) (n : Nat) : List Int := (List.range n).map fun (i : Nat) => m + (i : Int)
theorem marksFrom_length (m : Int) (n : Nat) : (marksFrom m n).length = n := by simp [marksFrom]
theorem marksFrom_get (m : Int) (n k : Nat) (h : k < n) : (marksFrom m n)[k]'(by rw [marksFrom_length]; exact h) = m + k := by simp [marksFrom]
theorem marksFrom_succ (m : Int) (k : Nat) : marksFrom m (k + 1) = marksFrom m k ++ [m + k] := by simp [marksFrom, List.range_succ]


/-! iters -/
theorem w64_lo (x : Int) : -9223372036854775808 ≤ w64 x := by
  have := IntKind.wrap_i64 x
  show _ ≤ IntKind.i64.wrap x
  omega
theorem w64_hi (x : Int) : w64 x ≤ 9223372036854775807 := by
  have := IntKind.wrap_i64 x
  show IntKind.i64.wrap x ≤ _
  omega
theorem getI_toNat {T : Type} {xs : List T} {i : Int} (h0 : 0 ≤ i) (h : i.toNat < xs.length) : getI xs i = some xs[i.toNat] := by
  unfold getI; rw [if_pos h0]; exact List.getElem?_eq_getElem h
theorem nzI_ok {a : Int} (h : a ≠ 0) : nzI a = some a := by simp [nzI, h]

/-- The loop that looks for the first element that passes. -/
theorem iter_find {T : Type} {sb : Int → Option (Int ⊕ (Unit ⊕ Int))} {xs : List T} {p : T → Bool} (hl : xs.length < 1099511627776)
    (hsb : ∀ (k : Nat) (h : k < xs.length), sb (k : Int) = if p xs[k] = true then some (.inr (.inr (k : Int))) else some (.inl ((k : Int) + 1))) (he : sb (xs.length : Int) = some (.inr (.inl ()))) :
    iter sb 0 = some (if xs.any p = true then .inr (xs.findIdx p : Int) else .inl ()) := by
  have h := iter_res (sb := sb) (fun k => (k : Int)) (fun k => if (xs.drop k).any p = true then (.inr (k + (xs.drop k).findIdx p : Nat) : Unit ⊕ Int) else .inl ()) xs.length (by omega) (fun k hk => ?_) (by
    rw [he, List.drop_of_length_le (Nat.le_refl _)]; simp)
  · simpa using h
  · rw [hsb k hk, List.drop_eq_getElem_cons hk]
    by_cases hx : p xs[k] = true
    · right
      rw [if_pos hx]
      simp only [List.any_cons, hx, Bool.true_or, if_true, List.findIdx_cons, cond_true, Nat.add_zero]
    · left
      rw [if_neg hx]
      refine ⟨by simp, ?_⟩
      have hx' : p xs[k] = false := by simpa using hx
      simp only [List.any_cons, hx', Bool.false_or, List.findIdx_cons, cond_false]
      split <;> simp
      omega

theorem iterN_congr {σ ρ : Type} {sb1 sb2 : σ → Option (σ ⊕ ρ)} (I : σ → Prop) (hs : ∀ s, I s → sb1 s = sb2 s ∧ ∀ s', sb2 s = some (.inl s') → I s') : ∀ (n : Nat) (s : σ), I s → iterN sb1 n s = iterN sb2 n s
  | 0, _, _ => rfl
  | n + 1, s, h => by
    obtain ⟨h1, h2⟩ := hs s h
    simp only [iterN, h1]
    cases hb : sb2 s with
    | none => rfl
    | some o =>
      cases o with
      | inl s' => exact iterN_congr I hs n s' (h2 s' hb)
      | inr x => rfl
/-- Two loops whose bodies agree where the invariant holds. -/
theorem iter_congr {σ ρ : Type} {sb1 sb2 : σ → Option (σ ⊕ ρ)} (I : σ → Prop) {s0 : σ} (h0 : I s0) (hs : ∀ s, I s → sb1 s = sb2 s ∧ ∀ s', sb2 s = some (.inl s') → I s') : iter sb1 s0 = iter sb2 s0 :=
  iterN_congr I hs FUEL s0 h0

/-- A loop over a list, as a fold. -/
theorem iter_fold {T σ S ρ : Type} {sb : S → Option (S ⊕ ρ)} (xs : List T) (st : Nat → σ → S) (g : σ → T → σ) (h : σ → ρ) (I : Nat → σ → Prop) (s0 : σ) (h0 : I 0 s0) (hl : xs.length < 1099511627776)
    (hsb : ∀ (k : Nat) (hk : k < xs.length) s, I k s → sb (st k s) = some (.inl (st (k + 1) (g s xs[k]))) ∧ I (k + 1) (g s xs[k])) (he : ∀ s, I xs.length s → sb (st xs.length s) = some (.inr (h s))) :
    iter sb (st 0 s0) = some (h (xs.foldl g s0)) ∧ I xs.length (xs.foldl g s0) := by
  have hI : ∀ k, k ≤ xs.length → I k ((xs.take k).foldl g s0) := by
    intro k
    induction k with
    | zero => intro _; simpa using h0
    | succ k ih =>
      intro hk
      rw [List.take_succ_eq_append_getElem (by omega), List.foldl_append]
      exact (hsb k (by omega) _ (ih (by omega))).2
  have hlast := hI xs.length (Nat.le_refl _)
  rw [List.take_length] at hlast
  refine ⟨?_, hlast⟩
  refine iter_steps (fun k => st k ((xs.take k).foldl g s0)) xs.length (by omega) (fun k hk => ?_) (by rw [List.take_length]; exact he _ hlast)
  rw [(hsb k hk _ (hI k (by omega))).1, List.take_succ_eq_append_getElem hk, List.foldl_append]
  rfl

/-- The greater one. -/
def mx (a b : Int) : Int := if a < b then b else a
def mn (a b : Int) : Int := if b < a then b else a
theorem mx_comm' (a b : Int) : (if b < a then a else b) = mx a b := by unfold mx; split <;> split <;> omega
theorem foldl_snoc {α β : Type} (f : α → β) : ∀ (xs : List α) (a : List β), xs.foldl (fun acc m => acc ++ [f m]) a = a ++ xs.map f
  | [], a => by simp
  | x :: xs, a => by rw [List.foldl_cons, foldl_snoc f xs]; simp

/-! panel -/
def brkB (k : Int) : Bool := decide (0 ≤ k) && decide (k ≤ 2)
def sideB (n : Int) : Bool := decide (1 ≤ n) && decide (n ≤ 8)
def innerN (w h : Int) : Int := w64 (w64 (w * w64 (h - 1)) + w64 (h * w64 (w - 1)))
def panelB (p : SPanel) : Bool := (sideB p.W && sideB p.H) && (((p.Breaks.length : Int) == innerN p.W p.H) && p.Breaks.all brkB)
theorem l02Ok_eq (p : SPanel) (h : p.Breaks.length ≤ 1048576) : sh139 p = some (panelB p) := by
  unfold sh139 panelB
  have hi : iter (sh139_1 p) 0 = some (if p.Breaks.all brkB = true then .inl () else .inr false) := iter_all (xs := p.Breaks) (by omega) (fun k hk => by
    have h2 : (k : Int) < p.Breaks.length := by omega
    simp only [sh139_1, sh100, h2, decide_true, cond_true, getI_lt hk, bindS]
    rw [w64_id (x := (k : Int) + 1) (by omega) (by omega)]
    unfold brkB
    cases decide (0 ≤ p.Breaks[k]) && decide (p.Breaks[k] ≤ 2) <;> rfl) (by simp [sh139_1])
  simp only [sh201, sh202, sh100, bindS, hi]
  show Option.bind (bif !(sideB p.W) then some true else some !(sideB p.H)) _ = _
  cases sideB p.W
  · rfl
  · cases sideB p.H
    · rfl
    · show (bif ((p.Breaks.length : Int) != innerN p.W p.H) then _ else _) = _
      simp only [bne]
      cases ((p.Breaks.length : Int) == innerN p.W p.H)
      · rfl
      · cases p.Breaks.all brkB <;> rfl
theorem validPanel_eq (p : SPanel) (h : p.Breaks.length ≤ 1048576) : sh128 p = some (panelB p) := by
  unfold sh128 panelB
  have hi : iter (sh128_1 p) 0 = some (if p.Breaks.all brkB = true then .inl () else .inr false) := iter_all (xs := p.Breaks) (by omega) (fun k hk => by
    have h2 : (k : Int) < p.Breaks.length := by omega
    simp only [sh128_1, sh122, sh107, h2, decide_true, cond_true, getI_lt hk, bindS]
    rw [w64_id (x := (k : Int) + 1) (by omega) (by omega)]
    unfold brkB
    cases decide (0 ≤ p.Breaks[k]) && decide (p.Breaks[k] ≤ 2) <;> rfl) (by simp [sh128_1])
  simp only [sh189, sh190, sh107, bindS, hi]
  show Option.bind (Option.bind (bif (sideB p.W) then some (sideB p.H) else some false) _) _ = _
  cases sideB p.W
  · rfl
  · cases sideB p.H
    · rfl
    · show (bif ((p.Breaks.length : Int) != innerN p.W p.H) then _ else _) = _
      simp only [bne]
      cases ((p.Breaks.length : Int) == innerN p.W p.H)
      · rfl
      · cases p.Breaks.all brkB <;> rfl
theorem panelB_facts {p : SPanel} (h : panelB p = true) : (1 ≤ p.W ∧ p.W ≤ 8) ∧ (1 ≤ p.H ∧ p.H ≤ 8) ∧ (p.Breaks.length : Int) = p.W * (p.H - 1) + p.H * (p.W - 1) ∧ (∀ k ∈ p.Breaks, 0 ≤ k ∧ k ≤ 2) ∧ p.Breaks.length ≤ 112 := by
  unfold panelB sideB brkB innerN at h
  simp only [Bool.and_eq_true, decide_eq_true_eq, List.all_eq_true, beq_iff_eq] at h
  obtain ⟨⟨⟨hw, hw2⟩, hh, hh2⟩, hl, ha⟩ := h
  have key : ∀ w : Int, 1 ≤ w → w ≤ 8 → ∀ k : Int, 1 ≤ k → k ≤ 8 → 0 ≤ w * (k - 1) ∧ w * (k - 1) ≤ 56 := by
    intro w h1 h2 k h3 h4
    have : 0 ≤ w * (k - 1) := Int.mul_nonneg (by omega) (by omega)
    have h5 : w * (k - 1) ≤ 8 * (k - 1) := Int.mul_le_mul_of_nonneg_right h2 (by omega)
    omega
  have k1 := key p.W hw hw2 p.H hh hh2
  have k2 := key p.H hh hh2 p.W hw hw2
  rw [w64_id (x := p.H - 1) (by omega) (by omega), w64_id (x := p.W - 1) (by omega) (by omega), w64_id (x := p.W * (p.H - 1)) (by omega) (by omega), w64_id (x := p.H * (p.W - 1)) (by omega) (by omega), w64_id (by omega) (by omega)] at hl
  exact ⟨⟨hw, hw2⟩, ⟨hh, hh2⟩, hl, ha, by omega⟩
def hasB (p : SPanel) (a : SPoint) : Bool := ((decide (0 ≤ a.X) && decide (a.X ≤ w64 (2 * p.W))) && (decide (0 ≤ a.Y) && decide (a.Y ≤ w64 (2 * p.H)))) && ((w64 (a.X + a.Y)).tmod 2 == 1)
def edgeB (p : SPanel) (a : SPoint) : Bool := (((a.X == 0) || (a.Y == 0)) || (a.X == w64 (2 * p.W))) || (a.Y == w64 (2 * p.H))
theorem l02Edge_eq (p : SPanel) (a : SPoint) : sh188 p a = some (edgeB p a) := rfl
theorem isBorder_eq (p : SPanel) (a : SPoint) : sh187 p a = some (edgeB p a) := by
  unfold sh187 edgeB
  cases (a.X == 0) <;> cases (a.Y == 0) <;> cases (a.X == w64 (2 * p.W)) <;> cases (a.Y == w64 (2 * p.H)) <;> rfl
def codeOf (p : SPanel) (a : SPoint) : Int := bif !panelB p then 1 else bif !hasB p a then 2 else bif edgeB p a then 6 else 0
theorem codeOf_cases (p : SPanel) (a : SPoint) : codeOf p a = 1 ∨ codeOf p a = 2 ∨ codeOf p a = 6 ∨ codeOf p a = 0 := by
  unfold codeOf
  cases panelB p <;> cases hasB p a <;> cases edgeB p a <;> simp

/-! walkers -/
/-- A walker that fits into a panel. -/
def okW (p : SPanel) (w : SWalker) : Prop := (w.DX = 1 ∨ w.DX = -1) ∧ (w.DY = 1 ∨ w.DY = -1) ∧ (0 ≤ w.At.X ∧ w.At.X ≤ 2 * p.W) ∧ (0 ≤ w.At.Y ∧ w.At.Y ≤ 2 * p.H) ∧ (w.At.X + w.At.Y) % 2 = 1 ∧ (0 ≤ w.At.X + w.DX ∧ w.At.X + w.DX ≤ 2 * p.W) ∧ (0 ≤ w.At.Y + w.DY ∧ w.At.Y + w.DY ≤ 2 * p.H)
structure Dim (p : SPanel) : Prop where
  w1 : 1 ≤ p.W
  w2 : p.W ≤ 8
  h1 : 1 ≤ p.H
  h2 : p.H ≤ 8
  bl : (p.Breaks.length : Int) = p.W * (p.H - 1) + p.H * (p.W - 1)
theorem dim_of {p : SPanel} (h : panelB p = true) : Dim p := let ⟨h1, h2, h3, _⟩ := panelB_facts h; ⟨h1.1, h1.2, h2.1, h2.2, h3⟩
theorem eight {n : Int} (h1 : 1 ≤ n) (h2 : n ≤ 8) : n = 1 ∨ n = 2 ∨ n = 3 ∨ n = 4 ∨ n = 5 ∨ n = 6 ∨ n = 7 ∨ n = 8 := by omega
def numF (p : SPanel) (x y : Int) : Int := (y - 1) * p.W - y / 2 + (x - 1) / 2
def brkF (p : SPanel) (x y : Int) : Int := if x = 0 ∨ x = 2 * p.W ∨ y = 0 ∨ y = 2 * p.H then 0 else p.Breaks.getD (numF p x y).toNat 0
def stp (p : SPanel) (w : SWalker) : SWalker := ⟨⟨w.At.X + w.DX, w.At.Y + w.DY⟩, if w.At.X + w.DX = 0 ∨ w.At.X + w.DX = 2 * p.W ∨ brkF p (w.At.X + w.DX) (w.At.Y + w.DY) = 1 then 0 - w.DX else w.DX, if w.At.Y + w.DY = 0 ∨ w.At.Y + w.DY = 2 * p.H ∨ brkF p (w.At.X + w.DX) (w.At.Y + w.DY) = 2 then 0 - w.DY else w.DY⟩
def bck (w : SWalker) : SWalker := ⟨⟨w.At.X + w.DX, w.At.Y + w.DY⟩, 0 - w.DX, 0 - w.DY⟩
def sgF (p : SPanel) (w : SWalker) : Int := (if w.DX = 1 then w.At.X else w.At.X - 1) * (2 * p.H) + (if w.DY = 1 then w.At.Y else w.At.Y - 1)
theorem brk_edge {p : SPanel} {x y : Int} (h : x = 0 ∨ x = 2 * p.W ∨ y = 0 ∨ y = 2 * p.H) : brkF p x y = 0 := if_pos h
theorem stp_ok {p : SPanel} {w : SWalker} (hd : Dim p) (h : okW p w) : okW p (stp p w) := by
  obtain ⟨w1, w2, h1, h2, bl⟩ := hd
  clear bl
  obtain ⟨⟨X, Y⟩, DX, DY⟩ := w
  obtain ⟨a1, a2, ⟨a3, a4⟩, ⟨a5, a6⟩, a7, ⟨a8, a9⟩, a10, a11⟩ := h
  simp only at a1 a2 a3 a4 a5 a6 a7 a8 a9 a10 a11
  unfold okW stp
  simp only
  generalize brkF p (X + DX) (Y + DY) = k
  rcases a1 with rfl | rfl <;> rcases a2 with rfl | rfl <;> (refine ⟨?_, ?_, ⟨?_, ?_⟩, ⟨?_, ?_⟩, ?_, ⟨?_, ?_⟩, ⟨?_, ?_⟩⟩ <;> (try split) <;> omega)
theorem bck_ok {p : SPanel} {w : SWalker} (h : okW p w) : okW p (bck w) := by
  obtain ⟨⟨X, Y⟩, DX, DY⟩ := w
  obtain ⟨a1, a2, ⟨a3, a4⟩, ⟨a5, a6⟩, a7, ⟨a8, a9⟩, a10, a11⟩ := h
  simp only at a1 a2 a3 a4 a5 a6 a7 a8 a9 a10 a11
  unfold okW bck
  simp only
  rcases a1 with rfl | rfl <;> rcases a2 with rfl | rfl <;> (refine ⟨?_, ?_, ⟨?_, ?_⟩, ⟨?_, ?_⟩, ?_, ⟨?_, ?_⟩, ⟨?_, ?_⟩⟩ <;> omega)
theorem walker_ext {a b : SWalker} (h1 : a.At.X = b.At.X) (h2 : a.At.Y = b.At.Y) (h3 : a.DX = b.DX) (h4 : a.DY = b.DY) : a = b := by
  obtain ⟨⟨ax, ay⟩, ad, ae⟩ := a
  obtain ⟨⟨bx, by'⟩, bd, be⟩ := b
  simp only at h1 h2 h3 h4
  subst h1; subst h2; subst h3; subst h4
  rfl
theorem bck_bck (w : SWalker) : bck (bck w) = w := by
  apply walker_ext <;> simp only [bck] <;> omega
theorem stp_back (p : SPanel) (w : SWalker) : stp p (bck (stp p w)) = bck w := by
  have e : ∀ a d : Int, a + d + (0 - d) = a := fun a d => by omega
  have hx : (bck (stp p w)).At.X + (bck (stp p w)).DX = w.At.X + w.DX := by simp only [bck, stp]; omega
  have hy : (bck (stp p w)).At.Y + (bck (stp p w)).DY = w.At.Y + w.DY := by simp only [bck, stp]; omega
  apply walker_ext
  · exact hx
  · exact hy
  · show (if (bck (stp p w)).At.X + (bck (stp p w)).DX = 0 ∨ (bck (stp p w)).At.X + (bck (stp p w)).DX = 2 * p.W ∨ brkF p ((bck (stp p w)).At.X + (bck (stp p w)).DX) ((bck (stp p w)).At.Y + (bck (stp p w)).DY) = 1 then 0 - (bck (stp p w)).DX else (bck (stp p w)).DX) = 0 - w.DX
    rw [hx, hy]
    simp only [bck, stp]
    split <;> omega
  · show (if (bck (stp p w)).At.Y + (bck (stp p w)).DY = 0 ∨ (bck (stp p w)).At.Y + (bck (stp p w)).DY = 2 * p.H ∨ brkF p ((bck (stp p w)).At.X + (bck (stp p w)).DX) ((bck (stp p w)).At.Y + (bck (stp p w)).DY) = 2 then 0 - (bck (stp p w)).DY else (bck (stp p w)).DY) = 0 - w.DY
    rw [hx, hy]
    simp only [bck, stp]
    split <;> omega
theorem stp_inj {p : SPanel} {a b : SWalker} (h : stp p a = stp p b) : a = b := by
  have h1 := stp_back p a
  rw [h, stp_back p b] at h1
  rw [← bck_bck a, ← h1, bck_bck]
theorem bck_ne {p : SPanel} {w : SWalker} (h : okW p w) : bck w ≠ w := by
  intro e
  have := congrArg (fun w : SWalker => w.At.X) e
  simp only [bck] at this
  rcases h.1 with a | a <;> omega
theorem stp_ne_bck {p : SPanel} {w : SWalker} (h : okW p w) : stp p w ≠ bck w := by
  intro e
  have e1 := congrArg (fun w : SWalker => w.DX) e
  have e2 := congrArg (fun w : SWalker => w.DY) e
  obtain ⟨⟨X, Y⟩, DX, DY⟩ := w
  obtain ⟨a1, a2, ⟨a3, a4⟩, ⟨a5, a6⟩, a7, ⟨a8, a9⟩, a10, a11⟩ := h
  simp only [bck, stp] at e1 e2 a1 a2 a3 a4 a5 a6 a7 a8 a9 a10 a11
  have hk : X + DX = 0 ∨ X + DX = 2 * p.W ∨ Y + DY = 0 ∨ Y + DY = 2 * p.H → brkF p (X + DX) (Y + DY) = 0 := brk_edge
  generalize brkF p (X + DX) (Y + DY) = k at e1 e2 hk
  rcases a1 with rfl | rfl <;> rcases a2 with rfl | rfl <;> split at e1 <;> split at e2 <;> omega
theorem sg_bck {p : SPanel} {w : SWalker} (h : okW p w) : sgF p (bck w) = sgF p w := by
  obtain ⟨⟨X, Y⟩, DX, DY⟩ := w
  obtain ⟨a1, a2, _⟩ := h
  simp only at a1 a2
  have ex : (if (0 : Int) - DX = 1 then X + DX else X + DX - 1) = (if DX = 1 then X else X - 1) := by rcases a1 with rfl | rfl <;> split <;> (try split) <;> omega
  have ey : (if (0 : Int) - DY = 1 then Y + DY else Y + DY - 1) = (if DY = 1 then Y else Y - 1) := by rcases a2 with rfl | rfl <;> split <;> (try split) <;> omega
  unfold sgF bck
  simp only
  rw [ex, ey]
theorem sg_bd {p : SPanel} {w : SWalker} (hd : Dim p) (h : okW p w) : 0 ≤ sgF p w ∧ sgF p w < 4 * p.W * p.H := by
  obtain ⟨w1, w2, h1, h2, bl⟩ := hd
  clear bl
  obtain ⟨a1, a2, ⟨a3, a4⟩, ⟨a5, a6⟩, a7, ⟨a8, a9⟩, a10, a11⟩ := h
  unfold sgF
  have key : ∀ a b : Int, 0 ≤ a → a + 1 ≤ 2 * p.W → 0 ≤ b → b + 1 ≤ 2 * p.H → 0 ≤ a * (2 * p.H) + b ∧ a * (2 * p.H) + b < 4 * p.W * p.H := by
    intro a b ha hb hc hd
    clear a1 a2 a3 a4 a5 a6 a7 a8 a9 a10 a11
    generalize p.H = H at *
    generalize p.W = W at *
    rcases eight h1 h2 with e | e | e | e | e | e | e | e <;> subst e <;> omega
  refine key _ _ ?_ ?_ ?_ ?_ <;> split <;> omega
theorem sg_same {p : SPanel} {v w : SWalker} (hd : Dim p) (hv : okW p v) (hw : okW p w) (h : sgF p v = sgF p w) : v = w ∨ v = bck w := by
  obtain ⟨w1, w2, h1, h2, bl⟩ := hd
  clear bl
  obtain ⟨a1, a2, ⟨a3, a4⟩, ⟨a5, a6⟩, a7, ⟨a8, a9⟩, a10, a11⟩ := hv
  obtain ⟨b1, b2, ⟨b3, b4⟩, ⟨b5, b6⟩, b7, ⟨b8, b9⟩, b10, b11⟩ := hw
  have key : ∀ a b c d : Int, 0 ≤ b → b + 1 ≤ 2 * p.H → 0 ≤ d → d + 1 ≤ 2 * p.H → a * (2 * p.H) + b = c * (2 * p.H) + d → a = c ∧ b = d := by
    intro a b c d hb hb2 hd hd2 he
    clear a1 a2 a3 a4 a5 a6 a7 a8 a9 a10 a11 b1 b2 b3 b4 b5 b6 b7 b8 b9 b10 b11 h
    generalize p.H = H at *
    rcases eight h1 h2 with e | e | e | e | e | e | e | e <;> subst e <;> omega
  unfold sgF at h
  obtain ⟨e1, e2⟩ := key _ _ _ _ (by split <;> omega) (by split <;> omega) (by split <;> omega) (by split <;> omega) h
  obtain ⟨⟨VX, VY⟩, VD, VE⟩ := v
  obtain ⟨⟨X, Y⟩, DX, DY⟩ := w
  simp only at a1 a2 a3 a4 a5 a6 a7 a8 a9 a10 a11 b1 b2 b3 b4 b5 b6 b7 b8 b9 b10 b11 e1 e2
  clear h h1 h2 w1 w2 key a3 a4 a5 a6 a8 a9 a10 a11 b3 b4 b5 b6 b8 b9 b10 b11
  rcases a1 with rfl | rfl <;> rcases b1 with rfl | rfl <;> rcases a2 with rfl | rfl <;> rcases b2 with rfl | rfl <;> simp only [show ¬ ((-1 : Int) = 1) by omega, if_true, if_false] at e1 e2 <;>
    first
    | (exfalso; omega)
    | (left; apply walker_ext <;> simp only <;> omega)
    | (right; apply walker_ext <;> simp only [bck] <;> omega)
/-- The walker of a segment. -/
def wlk (p : SPanel) (k : Int) : SWalker := if (k / (2 * p.H) + k % (2 * p.H)) % 2 = 1 then ⟨⟨k / (2 * p.H), k % (2 * p.H)⟩, 1, 1⟩ else ⟨⟨k / (2 * p.H), k % (2 * p.H) + 1⟩, 1, -1⟩
theorem wlk_ok {p : SPanel} (hd : Dim p) {k : Int} (h0 : 0 ≤ k) (h1 : k < 4 * p.W * p.H) : okW p (wlk p k) ∧ sgF p (wlk p k) = k := by
  obtain ⟨w1, w2, g1, g2, bl⟩ := hd
  clear bl
  have e1 : 0 ≤ k / (2 * p.H) ∧ k / (2 * p.H) + 1 ≤ 2 * p.W ∧ 0 ≤ k % (2 * p.H) ∧ k % (2 * p.H) + 1 ≤ 2 * p.H ∧ k / (2 * p.H) * (2 * p.H) + k % (2 * p.H) = k := by
    generalize p.H = H at *
    generalize p.W = W at *
    rcases eight g1 g2 with e | e | e | e | e | e | e | e <;> subst e <;> omega
  obtain ⟨e1, e2, e3, e4, e5⟩ := e1
  unfold wlk
  generalize k / (2 * p.H) = a at *
  generalize k % (2 * p.H) = b at *
  split
  · refine ⟨⟨.inl rfl, .inl rfl, ⟨?_, ?_⟩, ⟨?_, ?_⟩, ?_, ⟨?_, ?_⟩, ⟨?_, ?_⟩⟩, ?_⟩ <;> simp only [sgF, if_true] <;> omega
  · refine ⟨⟨.inl rfl, .inr rfl, ⟨?_, ?_⟩, ⟨?_, ?_⟩, ?_, ⟨?_, ?_⟩, ⟨?_, ?_⟩⟩, ?_⟩ <;> simp only [sgF, if_true, show ¬ ((-1 : Int) = 1) by omega, if_false] <;> omega

/-! steps -/
theorem ok_small {p : SPanel} {w : SWalker} (hd : Dim p) (h : okW p w) : (0 ≤ w.At.X ∧ w.At.X ≤ 16) ∧ (0 ≤ w.At.Y ∧ w.At.Y ≤ 16) ∧ (0 ≤ w.At.X + w.DX ∧ w.At.X + w.DX ≤ 16) ∧ (0 ≤ w.At.Y + w.DY ∧ w.At.Y + w.DY ≤ 16) := by
  obtain ⟨w1, w2, h1, h2, bl⟩ := hd
  clear bl
  obtain ⟨a1, a2, ⟨a3, a4⟩, ⟨a5, a6⟩, a7, ⟨a8, a9⟩, a10, a11⟩ := h
  omega
theorem next_eq' {p : SPanel} {w : SWalker} (hd : Dim p) (h : okW p w) : sh98 w = some ⟨w.At.X + w.DX, w.At.Y + w.DY⟩ := by
  obtain ⟨b1, b2, b3, b4⟩ := ok_small hd h
  unfold sh98
  rw [w64_id (by omega) (by omega), w64_id (by omega) (by omega)]
theorem l03Next_eq {p : SPanel} {w : SWalker} (hd : Dim p) (h : okW p w) : sh216 w = some ⟨w.At.X + w.DX, w.At.Y + w.DY⟩ := by
  obtain ⟨b1, b2, b3, b4⟩ := ok_small hd h
  unfold sh216
  rw [w64_id (by omega) (by omega), w64_id (by omega) (by omega)]
theorem mul_small {a H : Int} (h1 : 1 ≤ H) (h2 : H ≤ 8) (ha : 0 ≤ a) (ha2 : a ≤ 40) : 0 ≤ a * H ∧ a * H ≤ 320 := by
  rcases eight h1 h2 with e | e | e | e | e | e | e | e <;> subst e <;> omega
theorem seg_impl {p : SPanel} {w : SWalker} (hd : Dim p) (h : okW p w) : sh177 p w = some (sgF p w) := by
  obtain ⟨b1, b2, b3, b4⟩ := ok_small hd h
  have hn := next_eq' hd h
  unfold sh177
  rw [hn, bindS]
  simp only
  have ex : (if w.At.X + w.DX < w.At.X then w.At.X + w.DX else w.At.X) = (if w.DX = 1 then w.At.X else w.At.X - 1) := by
    rcases h.1 with a | a <;> rw [a] <;> split <;> (try split) <;> omega
  have ey : (if w.At.Y + w.DY < w.At.Y then w.At.Y + w.DY else w.At.Y) = (if w.DY = 1 then w.At.Y else w.At.Y - 1) := by
    rcases h.2.1 with a | a <;> rw [a] <;> split <;> (try split) <;> omega
  have bx : 0 ≤ (if w.DX = 1 then w.At.X else w.At.X - 1) ∧ (if w.DX = 1 then w.At.X else w.At.X - 1) ≤ 16 := by
    rcases h.1 with a | a <;> rw [a] at b3 ⊢ <;> split <;> omega
  have by' : 0 ≤ (if w.DY = 1 then w.At.Y else w.At.Y - 1) ∧ (if w.DY = 1 then w.At.Y else w.At.Y - 1) ≤ 16 := by
    rcases h.2.1 with a | a <;> rw [a] at b4 ⊢ <;> split <;> omega
  rw [ex, ey]
  unfold sgF
  generalize (if w.DX = 1 then w.At.X else w.At.X - 1) = a at *
  generalize (if w.DY = 1 then w.At.Y else w.At.Y - 1) = b at *
  have hm := mul_small (a := a * 2) hd.h1 hd.h2 (by omega) (by omega)
  rw [w64_id (x := a * 2) (by omega) (by omega), w64_id (x := a * 2 * p.H) (by omega) (by omega), w64_id (by omega) (by omega), Int.mul_assoc]
theorem seg_spec {p : SPanel} {w : SWalker} (hd : Dim p) (h : okW p w) : sh214 p w = some (sgF p w) := by
  obtain ⟨b1, b2, b3, b4⟩ := ok_small hd h
  have hn := l03Next_eq hd h
  unfold sh214 sh217
  rw [hn, bindS]
  unfold sgF
  rcases h.1 with a | a <;> rcases h.2.1 with b | b
  · rw [a, b]
    simp only [beq_self_eq_true, cond_true, bindS, if_true]
    have hm := mul_small (a := w.At.X * 2) hd.h1 hd.h2 (by omega) (by omega)
    rw [decide_eq_true (by omega), cond_true, bindS, w64_id (x := w.At.X * 2) (by omega) (by omega), w64_id (x := w.At.X * 2 * p.H) (by omega) (by omega), w64_id (x := w.At.X * 2 * p.H + w.At.Y) (by omega) (by omega), w64_id (x := w.At.X * 2 * p.H + w.At.Y - 1) (by omega) (by omega), w64_id (by omega) (by omega), Int.mul_assoc]
    congr 1; omega
  · rw [b] at b4
    rw [a, b]
    simp only [beq_self_eq_true, cond_true, bindS, if_true, show ¬ ((-1 : Int) = 1) by omega, if_false]
    have hm := mul_small (a := w.At.X * 2) hd.h1 hd.h2 (by omega) (by omega)
    rw [decide_eq_false (by omega), cond_false, bindS, w64_id (x := w.At.X * 2) (by omega) (by omega), w64_id (x := w.At.X * 2 * p.H) (by omega) (by omega), w64_id (x := w.At.X * 2 * p.H + w.At.Y) (by omega) (by omega), w64_id (by omega) (by omega), Int.mul_assoc]
    congr 1; omega
  · rw [a] at b3
    rw [a, b]
    simp only [show ((-1 : Int) == 1) = false from rfl, cond_false, bindS, if_true, show ¬ ((-1 : Int) = 1) by omega, if_false]
    have hm := mul_small (a := (w.At.X + -1) * 2) hd.h1 hd.h2 (by omega) (by omega)
    rw [decide_eq_false (by omega), cond_false, bindS, w64_id (x := (w.At.X + -1) * 2) (by omega) (by omega), w64_id (x := (w.At.X + -1) * 2 * p.H) (by omega) (by omega), w64_id (x := (w.At.X + -1) * 2 * p.H + (w.At.Y + 1)) (by omega) (by omega), w64_id (by omega) (by omega), Int.mul_assoc, show w.At.X + -1 = w.At.X - 1 by omega]
    congr 1; omega
  · rw [a] at b3
    rw [b] at b4
    rw [a, b]
    simp only [show ((-1 : Int) == 1) = false from rfl, cond_false, bindS, show ¬ ((-1 : Int) = 1) by omega, if_false]
    have hm := mul_small (a := (w.At.X + -1) * 2) hd.h1 hd.h2 (by omega) (by omega)
    rw [decide_eq_true (by omega), cond_true, bindS, w64_id (x := (w.At.X + -1) * 2) (by omega) (by omega), w64_id (x := (w.At.X + -1) * 2 * p.H) (by omega) (by omega), w64_id (x := (w.At.X + -1) * 2 * p.H + (w.At.Y + -1)) (by omega) (by omega), w64_id (x := (w.At.X + -1) * 2 * p.H + (w.At.Y + -1) - 1) (by omega) (by omega), w64_id (by omega) (by omega), Int.mul_assoc, show w.At.X + -1 = w.At.X - 1 by omega]
    congr 1; omega
/-- An inner point. -/
def inr (p : SPanel) (x y : Int) : Prop := (1 ≤ x ∧ x ≤ 2 * p.W - 1) ∧ (1 ≤ y ∧ y ≤ 2 * p.H - 1) ∧ (x + y) % 2 = 1
theorem num_bd {p : SPanel} (hd : Dim p) {x y : Int} (h : inr p x y) : 0 ≤ numF p x y ∧ numF p x y < p.Breaks.length := by
  obtain ⟨w1, w2, h1, h2, bl⟩ := hd
  obtain ⟨⟨a1, a2⟩, ⟨a3, a4⟩, a5⟩ := h
  rw [bl]
  unfold numF
  clear bl
  generalize p.W = W at *
  generalize p.H = H at *
  rcases eight w1 w2 with e | e | e | e | e | e | e | e <;> subst e <;> constructor <;> omega
theorem number_impl {p : SPanel} (hd : Dim p) {x y : Int} (h : inr p x y) : sh194 p ⟨x, y⟩ = some (numF p x y) := by
  have hb := num_bd hd h
  obtain ⟨w1, w2, h1, h2, bl⟩ := hd
  obtain ⟨⟨a1, a2⟩, ⟨a3, a4⟩, a5⟩ := h
  clear bl hb
  unfold sh194 numF
  simp only
  generalize p.W = W at *
  generalize p.H = H at *
  have e1 : y.tdiv 2 = y / 2 := Int.tdiv_eq_ediv_of_nonneg (by omega)
  have e2 : w64 (y - 1) = y - 1 := w64_id (by omega) (by omega)
  have e3 : (y - 1).tdiv 2 = (y - 1) / 2 := Int.tdiv_eq_ediv_of_nonneg (by omega)
  have e4 : x.tdiv 2 = x / 2 := Int.tdiv_eq_ediv_of_nonneg (by omega)
  have e5 : w64 (W - 1) = W - 1 := w64_id (by omega) (by omega)
  have e6 : y.tmod 2 = y % 2 := Int.tmod_eq_emod_of_nonneg (by omega)
  have m1 : 0 ≤ y / 2 * (W - 1) ∧ y / 2 * (W - 1) ≤ 320 := by
    rcases eight w1 w2 with e | e | e | e | e | e | e | e <;> subst e <;> omega
  have m2 : 0 ≤ (y - 1) / 2 * W ∧ (y - 1) / 2 * W ≤ 320 := by
    rcases eight w1 w2 with e | e | e | e | e | e | e | e <;> subst e <;> omega
  rw [e1, e2, e3, e4, e5, e6, w64_id (x := y / 2) (by omega) (by omega), w64_id (x := (y - 1) / 2) (by omega) (by omega), w64_id (x := x / 2) (by omega) (by omega), w64_id (x := y / 2 * (W - 1)) (by omega) (by omega), w64_id (x := (y - 1) / 2 * W) (by omega) (by omega), w64_id (x := y / 2 * (W - 1) + (y - 1) / 2 * W) (by omega) (by omega), w64_id (x := y / 2 * (W - 1) + (y - 1) / 2 * W + x / 2) (by omega) (by omega), w64_id (x := y / 2 * (W - 1) + (y - 1) / 2 * W + x / 2 - 1) (by omega) (by omega)]
  by_cases hy : y % 2 = 1
  · rw [beq_iff_eq.2 hy, cond_true]
    congr 1
    rcases eight w1 w2 with e | e | e | e | e | e | e | e <;> subst e <;> omega
  · rw [beq_eq_false_iff_ne.2 hy, cond_false]
    congr 1
    rcases eight w1 w2 with e | e | e | e | e | e | e | e <;> subst e <;> omega
theorem row_spec {p : SPanel} (hd : Dim p) {y : Int} (h0 : 1 ≤ y) (h1 : y ≤ 16) : sh203 p y = some ((y - 1) * p.W - y / 2) := by
  obtain ⟨w1, w2, _, _, bl⟩ := hd
  clear bl
  unfold sh203
  obtain ⟨n, hn⟩ : ∃ n : Nat, y = n + 1 := ⟨(y - 1).toNat, by omega⟩
  have hi := iter_steps (sb := sh203_1 p y) (fun k => ((k : Int) * p.W - ((k : Int) + 1) / 2, (k : Int) + 1)) n (x := (y - 1) * p.W - y / 2) (by omega) (fun k hk => ?_) ?_
  · simp only [Int.natCast_zero, Int.zero_mul] at hi
    rw [show (0 : Int) - (0 + 1) / 2 = 0 by omega, show (0 : Int) + 1 = 1 by omega] at hi
    rw [hi, bindS]
  · have h2 : (k : Int) + 1 < y := by omega
    have hm : 0 ≤ (k : Int) * p.W ∧ (k : Int) * p.W ≤ 320 := by have := mul_small (a := (k : Int)) w1 w2 (by omega) (by omega); exact this
    have e6 : ((k : Int) + 1).tmod 2 = ((k : Int) + 1) % 2 := Int.tmod_eq_emod_of_nonneg (by omega)
    have hms : ((k + 1 : Nat) : Int) * p.W = (k : Int) * p.W + p.W := by rw [Int.natCast_add, Int.add_mul]; simp
    simp only [sh203_1, h2, decide_true, cond_true, e6]
    rw [hms]
    generalize (k : Int) * p.W = m at *
    rw [w64_id (x := m - ((k : Int) + 1) / 2 + p.W) (by omega) (by omega), w64_id (x := (k : Int) + 1 + 1) (by omega) (by omega), w64_id (x := m - ((k : Int) + 1) / 2 + p.W - 1) (by omega) (by omega)]
    by_cases hy : ((k : Int) + 1) % 2 = 1
    · rw [beq_iff_eq.2 hy, cond_true, bindS]
      simp only [Option.some.injEq, Sum.inl.injEq, Prod.mk.injEq]
      refine ⟨by omega, by omega⟩
    · rw [beq_eq_false_iff_ne.2 hy, cond_false, bindS]
      simp only [Option.some.injEq, Sum.inl.injEq, Prod.mk.injEq]
      refine ⟨by omega, by omega⟩
  · have hd : decide ((n : Int) + 1 < y) = false := decide_eq_false (by omega)
    simp only [sh203_1, hd, cond_false]
    rw [hn, show (n : Int) + 1 - 1 = (n : Int) by omega]
theorem number_spec {p : SPanel} (hd : Dim p) {x y : Int} (h : inr p x y) : sh141 p ⟨x, y⟩ = some (numF p x y) := by
  have hb := num_bd hd h
  have hd' := hd
  obtain ⟨w1, w2, h1, h2, bl⟩ := hd
  obtain ⟨⟨a1, a2⟩, ⟨a3, a4⟩, a5⟩ := h
  unfold sh141
  rw [show (SPoint.mk x y).Y = y from rfl, show (SPoint.mk x y).X = x from rfl, row_spec hd' (by omega) (by omega), bindS, w64_id (x := x - 1) (by omega) (by omega), Int.tdiv_eq_ediv_of_nonneg (by omega), w64_id (x := (x - 1) / 2) (by omega) (by omega)]
  have hm := mul_small (a := y - 1) w1 w2 (by omega) (by omega)
  unfold numF
  rw [w64_id (by omega) (by omega)]
theorem inner_of {p : SPanel} {w : SWalker} (h : okW p w) (he : ¬ (w.At.X + w.DX = 0 ∨ w.At.X + w.DX = 2 * p.W ∨ w.At.Y + w.DY = 0 ∨ w.At.Y + w.DY = 2 * p.H)) : inr p (w.At.X + w.DX) (w.At.Y + w.DY) := by
  obtain ⟨a1, a2, ⟨a3, a4⟩, ⟨a5, a6⟩, a7, ⟨a8, a9⟩, a10, a11⟩ := h
  refine ⟨⟨by omega, by omega⟩, ⟨by omega, by omega⟩, ?_⟩
  rcases a1 with a1 | a1 <;> rcases a2 with a2 | a2 <;> omega
theorem beq_dec (a b : Int) : (a == b) = decide (a = b) := by
  by_cases h : a = b
  · subst h; simp
  · rw [beq_eq_false_iff_ne.2 h, decide_eq_false h]
theorem ite_flip {c : Prop} [Decidable c] {α : Type} {a b : α} : (bif decide c then some a else some b) = some (if c then a else b) := by
  by_cases h : c <;> simp [h]
theorem step_impl {p : SPanel} {w : SWalker} (hd : Dim p) (h : okW p w) : ∃ t, sh178 p w = some (stp p w, t) := by
  obtain ⟨b1, b2, b3, b4⟩ := ok_small hd h
  have hwW : w64 (2 * p.W) = 2 * p.W := by have := hd.w1; have := hd.w2; exact w64_id (by omega) (by omega)
  have hwH : w64 (2 * p.H) = 2 * p.H := by have := hd.h1; have := hd.h2; exact w64_id (by omega) (by omega)
  have hdx : w64 (0 - w.DX) = 0 - w.DX := by rcases h.1 with a | a <;> rw [a] <;> exact w64_id (by omega) (by omega)
  have hdy : w64 (0 - w.DY) = 0 - w.DY := by rcases h.2.1 with a | a <;> rw [a] <;> exact w64_id (by omega) (by omega)
  unfold sh178 sh187
  rw [next_eq' hd h, bindS]
  simp only [hwW, hwH, bindS, beq_dec]
  have ek : (bif !(((decide (w.At.X + w.DX = 0) || decide (w.At.X + w.DX = 2 * p.W)) || decide (w.At.Y + w.DY = 0)) || decide (w.At.Y + w.DY = 2 * p.H)) then (Option.bind (sh194 p ⟨w.At.X + w.DX, w.At.Y + w.DY⟩) fun x18 => Option.bind (getI p.Breaks x18) fun x19 => some x19) else (some 0)) = some (brkF p (w.At.X + w.DX) (w.At.Y + w.DY)) := by
    by_cases he : w.At.X + w.DX = 0 ∨ w.At.X + w.DX = 2 * p.W ∨ w.At.Y + w.DY = 0 ∨ w.At.Y + w.DY = 2 * p.H
    · have : (((decide (w.At.X + w.DX = 0) || decide (w.At.X + w.DX = 2 * p.W)) || decide (w.At.Y + w.DY = 0)) || decide (w.At.Y + w.DY = 2 * p.H)) = true := by
        simp only [Bool.or_eq_true, decide_eq_true_eq]; rcases he with h | h | h | h <;> simp [h]
      rw [this, brk_edge he]; rfl
    · have : (((decide (w.At.X + w.DX = 0) || decide (w.At.X + w.DX = 2 * p.W)) || decide (w.At.Y + w.DY = 0)) || decide (w.At.Y + w.DY = 2 * p.H)) = false := by
        simp only [not_or] at he
        simp [he]
      have hin := inner_of h he
      have hb := num_bd hd hin
      have hl : (numF p (w.At.X + w.DX) (w.At.Y + w.DY)).toNat < p.Breaks.length := by omega
      rw [this, Bool.not_false, cond_true, number_impl hd hin, bindS, getI_toNat hb.1 hl, bindS]
      unfold brkF
      rw [if_neg he, List.getD_eq_getElem?_getD, List.getElem?_eq_getElem hl]
      rfl
  rw [ek, bindS]
  simp only [stp]
  generalize brkF p (w.At.X + w.DX) (w.At.Y + w.DY) = k
  have c1 : ((decide (w.At.X + w.DX = 0) || decide (w.At.X + w.DX = 2 * p.W)) || decide (k = 1)) = decide (w.At.X + w.DX = 0 ∨ w.At.X + w.DX = 2 * p.W ∨ k = 1) := by
    simp only [Bool.decide_or, Bool.or_assoc]
  have c2 : ((decide (w.At.Y + w.DY = 0) || decide (w.At.Y + w.DY = 2 * p.H)) || decide (k = 2)) = decide (w.At.Y + w.DY = 0 ∨ w.At.Y + w.DY = 2 * p.H ∨ k = 2) := by
    simp only [Bool.decide_or, Bool.or_assoc]
  rw [c1, c2]
  by_cases d1 : w.At.X + w.DX = 0 ∨ w.At.X + w.DX = 2 * p.W ∨ k = 1 <;> by_cases d2 : w.At.Y + w.DY = 0 ∨ w.At.Y + w.DY = 2 * p.H ∨ k = 2
  · rw [decide_eq_true d1, decide_eq_true d2, if_pos d1, if_pos d2, cond_true, bindS, cond_true, bindS, hdx]
    simp only [hdy]
    exact ⟨_, rfl⟩
  · rw [decide_eq_true d1, decide_eq_false d2, if_pos d1, if_neg d2, cond_true, bindS, cond_false, bindS, hdx]
    exact ⟨_, rfl⟩
  · rw [decide_eq_false d1, decide_eq_true d2, if_neg d1, if_pos d2, cond_false, bindS, cond_true, bindS]
    simp only [hdy]
    exact ⟨_, rfl⟩
  · rw [decide_eq_false d1, decide_eq_false d2, if_neg d1, if_neg d2, cond_false, bindS, cond_false, bindS]
    exact ⟨_, rfl⟩
theorem step_spec {p : SPanel} {w : SWalker} (hd : Dim p) (h : okW p w) : sh213 p w = some (stp p w) := by
  obtain ⟨b1, b2, b3, b4⟩ := ok_small hd h
  have hwW : w64 (2 * p.W) = 2 * p.W := by have := hd.w1; have := hd.w2; exact w64_id (by omega) (by omega)
  have hwH : w64 (2 * p.H) = 2 * p.H := by have := hd.h1; have := hd.h2; exact w64_id (by omega) (by omega)
  have hdx : w64 (0 - w.DX) = 0 - w.DX := by rcases h.1 with a | a <;> rw [a] <;> exact w64_id (by omega) (by omega)
  have hdy : w64 (0 - w.DY) = 0 - w.DY := by rcases h.2.1 with a | a <;> rw [a] <;> exact w64_id (by omega) (by omega)
  unfold sh213 sh188
  rw [l03Next_eq hd h, bindS]
  simp only [hwW, hwH, bindS, beq_dec, hdx]
  by_cases he : w.At.X + w.DX = 0 ∨ w.At.X + w.DX = 2 * p.W ∨ w.At.Y + w.DY = 0 ∨ w.At.Y + w.DY = 2 * p.H
  · have e0 : (((decide (w.At.X + w.DX = 0) || decide (w.At.Y + w.DY = 0)) || decide (w.At.X + w.DX = 2 * p.W)) || decide (w.At.Y + w.DY = 2 * p.H)) = true := by
      simp only [Bool.or_eq_true, decide_eq_true_eq]; rcases he with h | h | h | h <;> simp [h]
    have hk := brk_edge he
    simp only [e0, Bool.not_true, cond_false, bindS, stp, hk]
    have c1 : (decide (w.At.X + w.DX = 0) || decide (w.At.X + w.DX = 2 * p.W)) = decide (w.At.X + w.DX = 0 ∨ w.At.X + w.DX = 2 * p.W ∨ (0 : Int) = 1) := by simp
    have c2 : (decide (w.At.Y + w.DY = 0) || decide (w.At.Y + w.DY = 2 * p.H)) = decide (w.At.Y + w.DY = 0 ∨ w.At.Y + w.DY = 2 * p.H ∨ (0 : Int) = 2) := by simp
    rw [c1, c2]
    by_cases d1 : w.At.X + w.DX = 0 ∨ w.At.X + w.DX = 2 * p.W ∨ (0 : Int) = 1 <;> by_cases d2 : w.At.Y + w.DY = 0 ∨ w.At.Y + w.DY = 2 * p.H ∨ (0 : Int) = 2
    · rw [decide_eq_true d1, decide_eq_true d2, if_pos d1, if_pos d2, cond_true, bindS, cond_true, bindS]
      simp only [hdy]
    · rw [decide_eq_true d1, decide_eq_false d2, if_pos d1, if_neg d2, cond_true, bindS, cond_false, bindS]
    · rw [decide_eq_false d1, decide_eq_true d2, if_neg d1, if_pos d2, cond_false, bindS, cond_true, bindS]
      simp only [hdy]
    · rw [decide_eq_false d1, decide_eq_false d2, if_neg d1, if_neg d2, cond_false, bindS, cond_false, bindS]
  · have hin := inner_of h he
    have hb := num_bd hd hin
    have hl : (numF p (w.At.X + w.DX) (w.At.Y + w.DY)).toNat < p.Breaks.length := by omega
    have hg : getI p.Breaks (numF p (w.At.X + w.DX) (w.At.Y + w.DY)) = some (brkF p (w.At.X + w.DX) (w.At.Y + w.DY)) := by
      rw [getI_toNat hb.1 hl]
      unfold brkF
      rw [if_neg he, List.getD_eq_getElem?_getD, List.getElem?_eq_getElem hl]
      rfl
    simp only [not_or] at he
    simp only [he.1, he.2.1, he.2.2.1, he.2.2.2, decide_false, Bool.or_self, Bool.not_false, cond_false, cond_true, bindS, number_spec hd hin, hg, stp, false_or]
    generalize brkF p (w.At.X + w.DX) (w.At.Y + w.DY) = k
    by_cases d1 : k = 1
    · subst d1
      simp only [decide_true, cond_true, bindS, if_true, hdx, show ¬ ((1 : Int) = 2) by omega, if_false]
    · by_cases d2 : k = 2
      · subst d2
        simp only [show ¬ ((2 : Int) = 1) by omega, decide_false, decide_true, cond_true, cond_false, bindS, if_true, hdy, if_false]
      · simp only [d1, d2, decide_false, cond_false, bindS, if_false]
theorem walker_impl {p : SPanel} (hd : Dim p) {k : Int} (h0 : 0 ≤ k) (h1 : k < 4 * p.W * p.H) : sh176 p k = some (wlk p k) := by
  have hwH : w64 (2 * p.H) = 2 * p.H := by have := hd.h1; have := hd.h2; exact w64_id (by omega) (by omega)
  have hb : 0 ≤ k / (2 * p.H) ∧ k / (2 * p.H) ≤ 16 ∧ 0 ≤ k % (2 * p.H) ∧ k % (2 * p.H) ≤ 16 := by
    obtain ⟨w1, w2, g1, g2, bl⟩ := hd
    clear bl
    generalize p.H = H at *
    generalize p.W = W at *
    rcases eight g1 g2 with e | e | e | e | e | e | e | e <;> subst e <;> omega
  have e1 : k.tdiv (2 * p.H) = k / (2 * p.H) := Int.tdiv_eq_ediv_of_nonneg h0
  have e2 : k.tmod (2 * p.H) = k % (2 * p.H) := Int.tmod_eq_emod_of_nonneg h0
  unfold sh176 wlk
  rw [hwH, nzI_ok (by have := hd.h1; omega), bindS, bindS, e1, e2, w64_id (x := k / (2 * p.H)) (by omega) (by omega)]
  generalize k / (2 * p.H) = a at *
  generalize k % (2 * p.H) = b at *
  rw [w64_id (x := a + b) (by omega) (by omega), w64_id (x := b + 1) (by omega) (by omega), Int.tmod_eq_emod_of_nonneg (by omega), beq_dec, ite_flip]
theorem walker_spec {p : SPanel} (hd : Dim p) {k : Int} (h0 : 0 ≤ k) (h1 : k < 4 * p.W * p.H) : sh206 p k = some (wlk p k) := by
  have hwH : w64 (2 * p.H) = 2 * p.H := by have := hd.h1; have := hd.h2; exact w64_id (by omega) (by omega)
  have hb : 0 ≤ k / (2 * p.H) ∧ k / (2 * p.H) ≤ 16 ∧ 0 ≤ k % (2 * p.H) ∧ k % (2 * p.H) ≤ 16 := by
    obtain ⟨w1, w2, g1, g2, bl⟩ := hd
    clear bl
    generalize p.H = H at *
    generalize p.W = W at *
    rcases eight g1 g2 with e | e | e | e | e | e | e | e <;> subst e <;> omega
  have e1 : k.tdiv (2 * p.H) = k / (2 * p.H) := Int.tdiv_eq_ediv_of_nonneg h0
  have e2 : k.tmod (2 * p.H) = k % (2 * p.H) := Int.tmod_eq_emod_of_nonneg h0
  unfold sh206 wlk
  rw [hwH, nzI_ok (by have := hd.h1; omega), bindS, bindS, e1, e2, w64_id (x := k / (2 * p.H)) (by omega) (by omega)]
  generalize k / (2 * p.H) = a at *
  generalize k % (2 * p.H) = b at *
  have t1 : a.tmod 2 = a % 2 := Int.tmod_eq_emod_of_nonneg (by omega)
  have t2 : b.tdiv 2 = b / 2 := Int.tdiv_eq_ediv_of_nonneg (by omega)
  have t3 : b.tmod 2 = b % 2 := Int.tmod_eq_emod_of_nonneg (by omega)
  have t4 : w64 (b + 1) = b + 1 := w64_id (by omega) (by omega)
  have t5 : (b + 1).tdiv 2 = (b + 1) / 2 := Int.tdiv_eq_ediv_of_nonneg (by omega)
  rw [t1, t2, t3, t4, t5, w64_id (x := b / 2) (by omega) (by omega), w64_id (x := b / 2 * 2) (by omega) (by omega), w64_id (x := b / 2 * 2 + 1) (by omega) (by omega), w64_id (x := 2 * (b % 2)) (by omega) (by omega), w64_id (x := 2 * (b % 2) - 1) (by omega) (by omega), w64_id (x := (b + 1) / 2) (by omega) (by omega), w64_id (x := (b + 1) / 2 * 2) (by omega) (by omega)]
  by_cases ha : a % 2 = 0
  · rw [beq_iff_eq.2 ha, cond_true]
    split
    · rw [show b / 2 * 2 + 1 = b by omega, show 2 * (b % 2) - 1 = 1 by omega]
    · rw [show b / 2 * 2 + 1 = b + 1 by omega, show 2 * (b % 2) - 1 = -1 by omega]
  · rw [beq_eq_false_iff_ne.2 ha, cond_false]
    by_cases hbb : b % 2 = 1
    · rw [beq_iff_eq.2 hbb, cond_true, bindS, if_neg (by omega), show (b + 1) / 2 * 2 = b + 1 by omega]
    · rw [beq_eq_false_iff_ne.2 hbb, cond_false, bindS, if_pos (by omega), show (b + 1) / 2 * 2 = b by omega]

/-! trace -/
def orb (p : SPanel) (w0 : SWalker) : Nat → SWalker
  | 0 => w0
  | i + 1 => stp p (orb p w0 i)
theorem orb_ok {p : SPanel} {w0 : SWalker} (hd : Dim p) (h : okW p w0) : ∀ i, okW p (orb p w0 i)
  | 0 => h
  | i + 1 => stp_ok hd (orb_ok hd h i)
theorem no_back {p : SPanel} {w0 : SWalker} (hd : Dim p) (h : okW p w0) : ∀ d i, orb p w0 (i + d) ≠ bck (orb p w0 i)
  | 0, i => fun e => bck_ne (orb_ok hd h i) e.symm
  | 1, i => fun e => stp_ne_bck (orb_ok hd h i) e
  | d + 2, i => fun e => by
    have h1 : stp p (orb p w0 (i + d + 1)) = stp p (bck (stp p (orb p w0 i))) := by rw [stp_back]; exact e
    have h2 := stp_inj h1
    exact no_back hd h d (i + 1) (by rw [show i + 1 + d = i + d + 1 by omega]; exact h2)
def ofN (p : SPanel) (w0 : SWalker) (c : Int) (of : List Int) : Nat → List Int
  | 0 => of
  | i + 1 => (ofN p w0 c of i).set (sgF p (orb p w0 i)).toNat c
theorem ofN_length (p : SPanel) (w0 : SWalker) (c : Int) (of : List Int) : ∀ i, (ofN p w0 c of i).length = of.length
  | 0 => rfl
  | i + 1 => by rw [ofN, List.length_set, ofN_length]
theorem getD_set (l : List Int) (i j : Nat) (c d : Int) (h : i < l.length) : (l.set i c).getD j d = if i = j then c else l.getD j d := by
  rw [List.getD_eq_getElem?_getD, List.getD_eq_getElem?_getD, List.getElem?_set]
  by_cases hij : i = j
  · subst hij; simp [h]
  · simp [hij]
def NS (p : SPanel) : Nat := (4 * p.W * p.H).toNat
theorem NS_eq {p : SPanel} (hd : Dim p) : ((NS p : Nat) : Int) = 4 * p.W * p.H ∧ NS p ≤ 256 ∧ 1 ≤ NS p := by
  obtain ⟨w1, w2, h1, h2, bl⟩ := hd
  clear bl
  unfold NS
  generalize p.W = W at *
  generalize p.H = H at *
  rcases eight h1 h2 with e | e | e | e | e | e | e | e <;> subst e <;> omega
theorem sg_lt {p : SPanel} {w : SWalker} (hd : Dim p) (h : okW p w) : (sgF p w).toNat < NS p ∧ 0 ≤ sgF p w := by
  have h1 := sg_bd hd h
  have h2 := NS_eq hd
  omega
theorem ofN_hit {p : SPanel} {w0 : SWalker} {c : Int} {of : List Int} (hd : Dim p) (h : okW p w0) (hl : of.length = NS p) : ∀ (i m : Nat), m < i → (ofN p w0 c of i).getD (sgF p (orb p w0 m)).toNat 0 = c
  | i + 1, m, hm => by
    have hi := sg_lt hd (orb_ok hd h i)
    rw [ofN, getD_set _ _ _ _ _ (by rw [ofN_length, hl]; exact hi.1)]
    split
    · rfl
    · rename_i hne
      have : m ≠ i := fun e => hne (by rw [e])
      exact ofN_hit hd h hl i m (by omega)
theorem ofN_old {p : SPanel} {w0 : SWalker} {c : Int} {of : List Int} (hd : Dim p) (h : okW p w0) (hl : of.length = NS p) : ∀ (i j : Nat), (∀ m, m < i → (sgF p (orb p w0 m)).toNat ≠ j) → (ofN p w0 c of i).getD j 0 = of.getD j 0
  | 0, _, _ => rfl
  | i + 1, j, hn => by
    have hi := sg_lt hd (orb_ok hd h i)
    rw [ofN, getD_set _ _ _ _ _ (by rw [ofN_length, hl]; exact hi.1), if_neg (hn i (by omega))]
    exact ofN_old hd h hl i j (fun m hm => hn m (by omega))
/-- The runs of a curve: each segment is free when it comes up. -/
def Run (p : SPanel) (w0 : SWalker) (c : Int) (of : List Int) (n : Nat) : Prop := ∀ j, j < n → (ofN p w0 c of j).getD (sgF p (orb p w0 j)).toNat 0 < 0
/-- What is owned is owned as a whole. -/
def Clo (p : SPanel) (of : List Int) : Prop := ∀ w, okW p w → 0 ≤ of.getD (sgF p w).toNat 0 → 0 ≤ of.getD (sgF p (stp p w)).toNat 0
theorem sg_eq_of {p : SPanel} {v w : SWalker} (hd : Dim p) (hv : okW p v) (hw : okW p w) (h : (sgF p v).toNat = (sgF p w).toNat) : sgF p v = sgF p w := by
  have := sg_lt hd hv
  have := sg_lt hd hw
  omega
theorem free_old {p : SPanel} {w0 : SWalker} {c : Int} {of : List Int} (hd : Dim p) (h : okW p w0) (hl : of.length = NS p) (hc : 0 ≤ c) {k : Nat} (hk : (ofN p w0 c of k).getD (sgF p (orb p w0 k)).toNat 0 < 0) :
    of.getD (sgF p (orb p w0 k)).toNat 0 < 0 ∧ ∀ m, m < k → sgF p (orb p w0 m) ≠ sgF p (orb p w0 k) := by
  have hno : ∀ m, m < k → (sgF p (orb p w0 m)).toNat ≠ (sgF p (orb p w0 k)).toNat := fun m hm e => by
    have := ofN_hit (c := c) hd h hl k m hm
    rw [e] at this
    omega
  rw [ofN_old hd h hl k _ hno] at hk
  exact ⟨hk, fun m hm e => hno m hm (by rw [e])⟩
theorem period {p : SPanel} {w0 : SWalker} {c : Int} {of : List Int} (hd : Dim p) (h : okW p w0) (hl : of.length = NS p) (hc : 0 ≤ c) (hcl : Clo p of) {n : Nat} (hn : 1 ≤ n) (hr : Run p w0 c of n) (hs : 0 ≤ (ofN p w0 c of n).getD (sgF p (orb p w0 n)).toNat 0) :
    orb p w0 n = w0 ∧ ∀ i, 0 < i → i < n → orb p w0 i ≠ w0 := by
  constructor
  · by_cases hit : ∃ m, m < n ∧ (sgF p (orb p w0 m)).toNat = (sgF p (orb p w0 n)).toNat
    · obtain ⟨m, hm, he⟩ := hit
      rcases sg_same hd (orb_ok hd h n) (orb_ok hd h m) (sg_eq_of hd (orb_ok hd h m) (orb_ok hd h n) he).symm with e | e
      · cases m with
        | zero => exact e
        | succ m =>
          obtain ⟨k, rfl⟩ : ∃ k, n = k + 1 := ⟨n - 1, by omega⟩
          have e2 : orb p w0 k = orb p w0 m := stp_inj e
          have := (free_old hd h hl hc (hr k (by omega))).2 m (by omega)
          rw [e2] at this
          exact absurd rfl this
      · exact absurd (by rw [show m + (n - m) = n by omega]; exact e) (no_back hd h (n - m) m)
    · exfalso
      rw [ofN_old hd h hl n _ (fun m hm e => hit ⟨m, hm, e⟩)] at hs
      obtain ⟨k, rfl⟩ : ∃ k, n = k + 1 := ⟨n - 1, by omega⟩
      have h1 := hcl (bck (orb p w0 (k + 1))) (bck_ok (orb_ok hd h (k + 1))) (by rw [sg_bck (orb_ok hd h (k + 1))]; exact hs)
      rw [show stp p (bck (orb p w0 (k + 1))) = bck (orb p w0 k) from stp_back p (orb p w0 k), sg_bck (orb_ok hd h k)] at h1
      have := (free_old hd h hl hc (hr k (by omega))).1
      omega
  · intro i h0 hi e
    have := (free_old hd h hl hc (hr i hi)).2 0 h0
    rw [e] at this
    exact absurd rfl this
theorem ofN_mono {p : SPanel} {w0 : SWalker} {c : Int} {of : List Int} (hd : Dim p) (h : okW p w0) (hl : of.length = NS p) (hc : 0 ≤ c) (n j : Nat) (hj : 0 ≤ of.getD j 0) : 0 ≤ (ofN p w0 c of n).getD j 0 := by
  by_cases hit : ∃ m, m < n ∧ (sgF p (orb p w0 m)).toNat = j
  · obtain ⟨m, hm, he⟩ := hit
    rw [← he, ofN_hit hd h hl n m hm]; exact hc
  · rw [ofN_old hd h hl n j (fun m hm e => hit ⟨m, hm, e⟩)]; exact hj
theorem clo_next {p : SPanel} {w0 : SWalker} {c : Int} {of : List Int} (hd : Dim p) (h : okW p w0) (hl : of.length = NS p) (hc : 0 ≤ c) (hcl : Clo p of) {n : Nat} (hn : 1 ≤ n) (hp : orb p w0 n = w0) : Clo p (ofN p w0 c of n) := by
  intro w hw hg
  have hit : ∀ m, m < n → ∀ v, sgF p v = sgF p (orb p w0 m) → 0 ≤ (ofN p w0 c of n).getD (sgF p v).toNat 0 := fun m hm v he => by
    rw [he, ofN_hit hd h hl n m hm]; exact hc
  by_cases hh : ∃ m, m < n ∧ (sgF p (orb p w0 m)).toNat = (sgF p w).toNat
  · obtain ⟨m, hm, he⟩ := hh
    rcases sg_same hd hw (orb_ok hd h m) (sg_eq_of hd (orb_ok hd h m) hw he).symm with e | e
    · subst e
      by_cases hm2 : m + 1 < n
      · exact hit (m + 1) hm2 _ rfl
      · have : m + 1 = n := by omega
        exact hit 0 (by omega) _ (by show sgF p (orb p w0 (m + 1)) = _; rw [this, hp]; rfl)
    · subst e
      cases m with
      | zero =>
        obtain ⟨k, rfl⟩ : ∃ k, n = k + 1 := ⟨n - 1, by omega⟩
        refine hit k (by omega) _ ?_
        rw [show bck (orb p w0 0) = bck (stp p (orb p w0 k)) from (show bck w0 = bck (orb p w0 (k + 1)) by rw [hp]), stp_back, sg_bck (orb_ok hd h k)]
      | succ m =>
        refine hit m (by omega) _ ?_
        rw [show stp p (bck (orb p w0 (m + 1))) = bck (orb p w0 m) from stp_back p (orb p w0 m), sg_bck (orb_ok hd h m)]
  · rw [ofN_old hd h hl n _ (fun m hm e => hh ⟨m, hm, e⟩)] at hg
    exact ofN_mono hd h hl hc n _ (hcl w hw hg)

def negs (l : List Int) : Nat := l.countP fun x => decide (x < 0)
theorem negs_set {l : List Int} {i : Nat} {c : Int} (h : i < l.length) (hf : l.getD i 0 < 0) (hc : 0 ≤ c) : negs (l.set i c) + 1 = negs l := by
  unfold negs
  induction l generalizing i with
  | nil => simp at h
  | cons x xs ih =>
    cases i with
    | zero =>
      have hx : x < 0 := by simpa using hf
      rw [List.set_cons_zero, List.countP_cons, List.countP_cons, decide_eq_true hx, decide_eq_false (show ¬ c < 0 by omega)]
      simp
    | succ i =>
      have := ih (i := i) (by simpa using h) (by simpa using hf)
      rw [List.set_cons_succ, List.countP_cons, List.countP_cons]
      omega
theorem negs_le (l : List Int) : negs l ≤ l.length := List.countP_le_length
theorem getI_sg {p : SPanel} {w : SWalker} {of : List Int} (hd : Dim p) (h : okW p w) (hl : of.length = NS p) : getI of (sgF p w) = some (of.getD (sgF p w).toNat 0) := by
  have h1 := sg_lt hd h
  rw [List.getD_eq_getElem?_getD, List.getElem?_eq_getElem (by omega)]
  exact getI_toNat h1.2 (by omega)
theorem range_snoc {T : Type} (f : Nat → T) (i : Nat) : (List.range (i + 1)).map f = (List.range i).map f ++ [f i] := by simp [List.range_succ]
theorem curve_impl {p : SPanel} {w0 : SWalker} {of : List Int} (hd : Dim p) (h : okW p w0) (hl : of.length = NS p) (cs : List (List SWalker)) (hf : of.getD (sgF p w0).toNat 0 < 0) :
    ∃ n, 1 ≤ n ∧ n ≤ 256 ∧ Run p w0 (cs.length : Int) of n ∧ 0 ≤ (ofN p w0 (cs.length : Int) of n).getD (sgF p (orb p w0 n)).toNat 0 ∧
      iter (sh97_3 p cs) (of, [], w0) = some (ofN p w0 (cs.length : Int) of n, (List.range n).map (orb p w0)) := by
  have hN := NS_eq hd
  have hng := negs_le of
  obtain ⟨y, hy, n, rfl, h1, h2, h3, h4⟩ := iter_inv (sb := sh97_3 p cs) (fun (s : List Int × List SWalker × SWalker) => ∃ i, s = (ofN p w0 (cs.length : Int) of i, (List.range i).map (orb p w0), orb p w0 i) ∧ Run p w0 (cs.length : Int) of i ∧ i + negs (ofN p w0 (cs.length : Int) of i) = negs of)
    (fun s => negs s.1) (fun y => ∃ n, y = (ofN p w0 (cs.length : Int) of n, (List.range n).map (orb p w0)) ∧ 1 ≤ n ∧ n ≤ 256 ∧ Run p w0 (cs.length : Int) of n ∧ 0 ≤ (ofN p w0 (cs.length : Int) of n).getD (sgF p (orb p w0 n)).toNat 0) (s0 := (of, [], w0))
    ⟨0, rfl, fun j hj => by omega, by simp [ofN]⟩ (by simp only; omega) (by
    rintro s ⟨i, rfl, hr, hn⟩
    have hok := orb_ok hd h i
    have hli : (ofN p w0 (cs.length : Int) of i).length = NS p := by rw [ofN_length, hl]
    obtain ⟨t, hst⟩ := step_impl hd hok
    simp only [sh97_3, seg_impl hd hok, bindS, getI_sg hd hok hli, hst]
    by_cases hneg : (ofN p w0 (cs.length : Int) of i).getD (sgF p (orb p w0 i)).toNat 0 < 0
    · left
      rw [decide_eq_true hneg, cond_true, appL_ok (by simp only [List.length_map, List.length_range, List.length_cons, List.length_nil]; omega), bindS]
      have hset := negs_set (c := (cs.length : Int)) (by rw [hli]; exact (sg_lt hd hok).1) hneg (by omega)
      refine ⟨_, rfl, ⟨i + 1, by rw [range_snoc]; rfl, fun j hj => ?_, by rw [ofN]; omega⟩, by simp only; omega⟩
      by_cases hji : j = i
      · subst hji; exact hneg
      · exact hr j (by omega)
    · right
      rw [decide_eq_false hneg, cond_false]
      refine ⟨_, rfl, i, rfl, ?_, by omega, hr, by omega⟩
      rcases Nat.eq_zero_or_pos i with h0 | h0
      · subst h0; exact absurd hf hneg
      · exact h0)
  exact ⟨n, h1, h2, h3, h4, hy⟩
instance decW : DecidableEq SWalker := fun a b => if h : a.At.X = b.At.X ∧ a.At.Y = b.At.Y ∧ a.DX = b.DX ∧ a.DY = b.DY then isTrue (walker_ext h.1 h.2.1 h.2.2.1 h.2.2.2) else isFalse (fun e => h (by subst e; simp))
theorem eqW (a b : SWalker) : (((a.At.X == b.At.X) && ((a.At.Y == b.At.Y) && true)) && ((a.DX == b.DX) && ((a.DY == b.DY) && true))) = decide (a = b) := by
  by_cases h : a = b
  · subst h; simp
  · rw [decide_eq_false h]
    simp only [Bool.and_true]
    cases h1 : (a.At.X == b.At.X) <;> cases h2 : (a.At.Y == b.At.Y) <;> cases h3 : (a.DX == b.DX) <;> cases h4 : (a.DY == b.DY) <;> (try rfl)
    simp only [beq_iff_eq] at h1 h2 h3 h4
    exact absurd (walker_ext h1 h2 h3 h4) h
theorem curve_spec {p : SPanel} {w0 : SWalker} (hd : Dim p) (h : okW p w0) {n : Nat} (hn : 1 ≤ n) (hn2 : n ≤ 256) (hp : orb p w0 n = w0) (ha : ∀ i, 0 < i → i < n → orb p w0 i ≠ w0) :
    sh205 p w0 = some ((List.range n).map (fun i => (orb p w0 i).At), (List.range n).map (fun i => sgF p (orb p w0 i))) := by
  unfold sh205
  have hi := iter_steps (sb := sh205_1 p w0) (fun i => ((List.range i).map (fun i => (orb p w0 i).At), (List.range i).map (fun i => sgF p (orb p w0 i)), orb p w0 i)) n (x := ((List.range n).map (fun i => (orb p w0 i).At), (List.range n).map (fun i => sgF p (orb p w0 i)))) (by omega) (fun i hi => ?_) ?_
  · simp only [List.range_zero, List.map_nil] at hi
    rw [show orb p w0 0 = w0 from rfl] at hi
    rw [hi, bindS]
  · have hok := orb_ok hd h i
    have hc : (((((List.range i).map (fun i => (orb p w0 i).At)).length : Int) == 0) || (!decide (orb p w0 i = w0))) = true := by
      rcases Nat.eq_zero_or_pos i with h0 | h0
      · subst h0; rfl
      · rw [decide_eq_false (ha i h0 hi)]; simp
    simp only [sh205_1, eqW, hc, cond_true]
    rw [appL_ok (by simp only [List.length_map, List.length_range, List.length_cons, List.length_nil]; omega), bindS, seg_spec hd hok, bindS, appL_ok (by simp only [List.length_map, List.length_range, List.length_cons, List.length_nil]; omega), bindS, step_spec hd hok, bindS, range_snoc, range_snoc]
    rfl
  · have hc : (((((List.range n).map (fun i => (orb p w0 i).At)).length : Int) == 0) || (!decide (orb p w0 n = w0))) = false := by
      rw [decide_eq_true hp]
      simp
      omega
    simp only [sh205_1, eqW, hc, cond_false]
theorem set_spec {p : SPanel} {w0 : SWalker} {of : List Int} (hd : Dim p) (h : okW p w0) (hl : of.length = NS p) (out : List (List SPoint)) (pts : List SPoint) (n : Nat) (hn : n ≤ 256) :
    iter (sh147_3 out (pts, (List.range n).map (fun i => sgF p (orb p w0 i)))) (0, of) = some (ofN p w0 (out.length : Int) of n) := by
  refine iter_steps (sb := sh147_3 out (pts, (List.range n).map (fun i => sgF p (orb p w0 i)))) (fun i => ((i : Int), ofN p w0 (out.length : Int) of i)) n (by omega) (fun i hi => ?_) ?_
  · have hok := orb_ok hd h i
    have hli : (ofN p w0 (out.length : Int) of i).length = NS p := by rw [ofN_length, hl]
    have hlt : i < ((List.range n).map (fun i => sgF p (orb p w0 i))).length := by simpa using hi
    have hd1 : decide ((i : Int) < (((List.range n).map (fun i => sgF p (orb p w0 i))).length : Int)) = true := decide_eq_true (by omega)
    simp only [sh147_3, hd1, cond_true, getI_lt hlt, List.getElem_map, List.getElem_range, bindS, getI_sg hd hok hli]
    rw [w64_id (by omega) (by omega)]
    rfl
  · have hd1 : decide ((n : Int) < (((List.range n).map (fun i => sgF p (orb p w0 i))).length : Int)) = false := decide_eq_false (by simp)
    simp only [sh147_3, hd1, cond_false]

/-- Two loops side by side. -/
theorem iter_rel {σ1 σ2 ρ1 ρ2 : Type} {sb1 : σ1 → Option (σ1 ⊕ ρ1)} {sb2 : σ2 → Option (σ2 ⊕ ρ2)} (R : σ1 → σ2 → Prop) (μ : σ1 → Nat) (Q : ρ1 → ρ2 → Prop) {s1 : σ1} {s2 : σ2} (h0 : R s1 s2) (hμ : μ s1 < 4611686018427387904)
    (hs : ∀ a b, R a b → (∃ a' b', sb1 a = some (.inl a') ∧ sb2 b = some (.inl b') ∧ R a' b' ∧ μ a' < μ a) ∨ (∃ x y, sb1 a = some (.inr x) ∧ sb2 b = some (.inr y) ∧ Q x y)) : ∃ x y, iter sb1 s1 = some x ∧ iter sb2 s2 = some y ∧ Q x y := by
  have key : ∀ k a b, μ a ≤ k → R a b → ∃ x y, iterN sb1 (k + 1) a = some x ∧ iterN sb2 (k + 1) b = some y ∧ Q x y := by
    intro k
    induction k with
    | zero =>
      intro a b hk hR
      rcases hs a b hR with ⟨a', b', _, _, _, h4⟩ | ⟨x, y, h1, h2, h3⟩
      · omega
      · exact ⟨x, y, by simp [iterN, h1], by simp [iterN, h2], h3⟩
    | succ k ih =>
      intro a b hk hR
      rcases hs a b hR with ⟨a', b', h1, h2, h3, h4⟩ | ⟨x, y, h1, h2, h3⟩
      · obtain ⟨x, y, g1, g2, g3⟩ := ih a' b' (by omega) h3
        exact ⟨x, y, by rw [iterN, h1]; exact g1, by rw [iterN, h2]; exact g2, g3⟩
      · exact ⟨x, y, by simp [iterN, h1], by simp [iterN, h2], h3⟩
  obtain ⟨x, y, h1, h2, h3⟩ := key (μ s1) s1 s2 (Nat.le_refl _) h0
  exact ⟨x, y, iterN_mono _ FUEL _ _ (by rw [FUEL_eq]; omega) h1, iterN_mono _ FUEL _ _ (by rw [FUEL_eq]; omega) h2, h3⟩
theorem fill_step {a b : Int} {k n : Nat} (h : k < n) : (List.replicate k a ++ List.replicate (n - k) b).set k a = List.replicate (k + 1) a ++ List.replicate (n - (k + 1)) b := by
  obtain ⟨m, hm⟩ : ∃ m, n - k = m + 1 := ⟨n - k - 1, by omega⟩
  rw [List.set_append, if_neg (by simp), List.length_replicate, Nat.sub_self, hm, List.replicate_succ, List.set_cons_zero, show n - (k + 1) = m by omega, List.replicate_succ', List.append_assoc]
  rfl
/-- A closed curve. -/
def Cyc (p : SPanel) (c : List SWalker) : Prop := ∃ w0 n, okW p w0 ∧ 1 ≤ n ∧ n ≤ 256 ∧ orb p w0 n = w0 ∧ c = (List.range n).map (orb p w0)
def ptsOf (c : List SWalker) : List SPoint := c.map (·.At)
structure Tr (p : SPanel) (cs : List (List SWalker)) (of : List Int) (k : Nat) : Prop where
  len : of.length = NS p
  clo : Clo p of
  own : ∀ j, j < k → 0 ≤ of.getD j 0
  val : ∀ j, of.getD j 0 < (cs.length : Int) ∨ (of.getD j 0 = 0 ∧ NS p ≤ j)
  few : cs.length ≤ k
  cyc : ∀ c ∈ cs, Cyc p c
  sum : (cs.map List.length).sum + negs of = NS p
theorem run_negs {p : SPanel} {w0 : SWalker} {c : Int} {of : List Int} (hd : Dim p) (h : okW p w0) (hl : of.length = NS p) (hc : 0 ≤ c) : ∀ n, Run p w0 c of n → n + negs (ofN p w0 c of n) = negs of
  | 0, _ => by simp [ofN]
  | n + 1, hr => by
    have ih := run_negs hd h hl hc n (fun j hj => hr j (by omega))
    have hset := negs_set (c := c) (by rw [ofN_length, hl]; exact (sg_lt hd (orb_ok hd h n)).1) (hr n (by omega)) hc
    rw [ofN]; omega
theorem sum_snoc (cs : List (List SWalker)) (c : List SWalker) : ((cs ++ [c]).map List.length).sum = (cs.map List.length).sum + c.length := by simp
theorem seg_n {p : SPanel} (hd : Dim p) : w64 (w64 (4 * p.W) * p.H) = (NS p : Int) := by
  have h1 := NS_eq hd
  have := hd.w1; have := hd.w2
  rw [w64_id (x := 4 * p.W) (by omega) (by omega), w64_id (by omega) (by omega), h1.1]
theorem trace_body {p : SPanel} (hd : Dim p) (cs : List (List SWalker)) (of : List Int) (k : Nat) (hk : k < NS p) (ht : Tr p cs of k) : ∃ cs' of', Tr p cs' of' (k + 1) ∧
    sh97_2 p (NS p : Int) ((k : Int), cs, of) = some (.inl (((k + 1 : Nat) : Int), cs', of')) ∧ sh147_2 p ((k : Int), of, cs.map ptsOf) = some (.inl (((k + 1 : Nat) : Int), of', cs'.map ptsOf)) := by
  obtain ⟨tl, tc, to, tv, tf, ty, ts⟩ := ht
  have hN := NS_eq hd
  have hkl : k < of.length := by omega
  have hw : w64 ((k : Int) + 1) = ((k + 1 : Nat) : Int) := by rw [w64_id (by omega) (by omega)]; omega
  have hkd : decide ((k : Int) < (NS p : Int)) = true := decide_eq_true (by omega)
  have hgd : of.getD k 0 = of[k] := by rw [List.getD_eq_getElem?_getD, List.getElem?_eq_getElem hkl]; rfl
  simp only [sh97_2, sh147_2, seg_n hd, hkd, cond_true, getI_lt hkl, bindS, hw]
  by_cases hneg : 0 ≤ of[k]
  · rw [decide_eq_true hneg]
    refine ⟨cs, of, ⟨tl, tc, fun j hj => ?_, tv, by omega, ty, ts⟩, rfl, rfl⟩
    by_cases hjk : j = k
    · subst hjk; rw [hgd]; exact hneg
    · exact to j (by omega)
  · rw [decide_eq_false hneg]
    obtain ⟨wok, wsg⟩ := wlk_ok hd (k := (k : Int)) (by omega) (by omega)
    obtain ⟨n, n1, n2, nr, ns, ni⟩ := curve_impl hd wok tl cs (by rw [wsg, Int.toNat_natCast, hgd]; omega)
    obtain ⟨np, na⟩ := period hd wok tl (by omega) tc n1 nr ns
    simp only [cond_false]
    rw [walker_impl hd (by omega) (by omega), bindS, ni, bindS, appL_ok (by simp only [List.length_cons, List.length_nil]; omega), bindS, walker_spec hd (by omega) (by omega), bindS, curve_spec hd wok n1 n2 np na, bindS]
    have hss := set_spec hd wok tl (cs.map ptsOf) ((List.range n).map (fun i => (orb p (wlk p k) i).At)) n n2
    rw [List.length_map] at hss
    rw [hss, bindS, appL_ok (by simp only [List.length_map, List.length_cons, List.length_nil]; omega), bindS]
    refine ⟨_, _, ⟨by rw [ofN_length, tl], clo_next hd wok tl (by omega) tc n1 np, fun j hj => ?_, fun j => ?_, by simp only [List.length_append, List.length_cons, List.length_nil]; omega, fun c hc => ?_, by have hrn := run_negs hd wok tl (by omega) n nr; rw [sum_snoc, List.length_map, List.length_range]; omega⟩, rfl, ?_⟩
    · by_cases hjk : j = k
      · subst hjk
        have := ofN_hit (c := (cs.length : Int)) hd wok tl n 0 (by omega)
        rw [show orb p (wlk p j) 0 = wlk p j from rfl, wsg, Int.toNat_natCast] at this
        omega
      · exact ofN_mono hd wok tl (by omega) n j (to j (by omega))
    · simp only [List.length_append, List.length_cons, List.length_nil]
      by_cases hit : ∃ m, m < n ∧ (sgF p (orb p (wlk p k) m)).toNat = j
      · obtain ⟨m, hm, he⟩ := hit
        have := ofN_hit (c := (cs.length : Int)) hd wok tl n m hm
        rw [he] at this
        left; omega
      · rw [ofN_old hd wok tl n j (fun m hm e => hit ⟨m, hm, e⟩)]
        rcases tv j with h | h
        · left; omega
        · right; exact h
    · rcases List.mem_append.1 hc with hc | hc
      · exact ty c hc
      · simp only [List.mem_cons, List.not_mem_nil, or_false] at hc
        exact ⟨wlk p k, n, wok, n1, n2, np, hc⟩
    · simp only [List.map_append, List.map_cons, List.map_nil, ptsOf, List.map_map]
      rfl
/-- What both ways of tracing come to. -/
theorem trace_eq (p : SPanel) (hd : Dim p) : ∃ cs of, sh97 p = some (cs, of) ∧ sh147 p = some (cs.map ptsOf, of) ∧ Tr p cs of (NS p) := by
  have hN := NS_eq hd
  have hs : sh175 p = some (NS p : Int) := by unfold sh175; rw [seg_n hd]
  have hmk : mkL (NS p : Int) (0 : Int) = some (List.replicate (NS p) 0) := mkL_ok (by omega)
  have e1 : iter (sh97_1 (List.replicate (NS p) 0)) (0, List.replicate (NS p) 0) = some (List.replicate (NS p) (-1)) := by
    have := iter_steps (sb := sh97_1 (List.replicate (NS p) 0)) (fun k => ((k : Int), List.replicate k (-1) ++ List.replicate (NS p - k) 0)) (NS p) (x := List.replicate (NS p) (-1)) (by omega) (fun k hk => ?_) ?_
    · simpa using this
    · have hl : k < (List.replicate k (-1 : Int) ++ List.replicate (NS p - k) 0).length := by simp; omega
      have hd1 : decide ((k : Int) < ((List.replicate (NS p) (0 : Int)).length : Int)) = true := decide_eq_true (by simp; omega)
      simp only [sh97_1, hd1, cond_true, getI_lt hl, bindS, Int.toNat_natCast]
      rw [w64_id (by omega) (by omega), fill_step hk]
      rfl
    · have hd1 : decide (((NS p : Nat) : Int) < ((List.replicate (NS p) (0 : Int)).length : Int)) = false := decide_eq_false (by simp)
      simp only [sh97_1, hd1, cond_false]
      simp
  have e2 : iter (sh147_1 p) (0, List.replicate (NS p) 0) = some (List.replicate (NS p) (-1)) := by
    have := iter_steps (sb := sh147_1 p) (fun k => ((k : Int), List.replicate k (-1) ++ List.replicate (NS p - k) 0)) (NS p) (x := List.replicate (NS p) (-1)) (by omega) (fun k hk => ?_) ?_
    · simpa using this
    · have hl : k < (List.replicate k (-1 : Int) ++ List.replicate (NS p - k) 0).length := by simp; omega
      have hd1 : decide ((k : Int) < (NS p : Int)) = true := decide_eq_true (by omega)
      simp only [sh147_1, seg_n hd, hd1, cond_true, getI_lt hl, bindS, Int.toNat_natCast]
      rw [w64_id (by omega) (by omega), fill_step hk]
      rfl
    · have hd1 : decide (((NS p : Nat) : Int) < (NS p : Int)) = false := decide_eq_false (by omega)
      simp only [sh147_1, seg_n hd, hd1, cond_false]
      simp
  have hneg : ∀ j, (List.replicate (NS p) (-1 : Int)).getD j 0 = if j < NS p then -1 else 0 := by
    intro j
    rw [List.getD_eq_getElem?_getD, List.getElem?_replicate]
    split <;> rfl
  have h0 : Tr p [] (List.replicate (NS p) (-1)) 0 := ⟨by simp, fun w hw hg => by rw [hneg, if_pos (sg_lt hd hw).1] at hg; omega, fun j hj => by omega, fun j => by rw [hneg]; split <;> simp; omega, by simp, by simp, by simp [negs, List.countP_replicate]⟩
  obtain ⟨x, y, hx, hy, cs, of, rfl, rfl, ht⟩ := iter_rel (sb1 := sh97_2 p (NS p : Int)) (sb2 := sh147_2 p) (fun a b => ∃ (k : Nat) (cs : List (List SWalker)) (of : List Int), a = ((k : Int), cs, of) ∧ b = ((k : Int), of, cs.map ptsOf) ∧ k ≤ NS p ∧ Tr p cs of k)
    (fun a => NS p - a.1.toNat) (fun x y => ∃ cs of, x = (cs, of) ∧ y = (of, cs.map ptsOf) ∧ Tr p cs of (NS p)) (s1 := (0, [], List.replicate (NS p) (-1))) (s2 := (0, List.replicate (NS p) (-1), [])) ⟨0, [], _, rfl, rfl, by omega, h0⟩ (by simp only; omega) (by
    rintro a b ⟨k, cs, of, rfl, rfl, hk, ht⟩
    by_cases hk2 : k < NS p
    · left
      obtain ⟨cs', of', h1, h2, h3⟩ := trace_body hd cs of k hk2 ht
      exact ⟨_, _, h2, h3, ⟨k + 1, cs', of', rfl, rfl, by omega, h1⟩, by simp only [Int.toNat_natCast]; omega⟩
    · right
      have hkn : k = NS p := by omega
      subst hkn
      have hd1 : decide (((NS p : Nat) : Int) < (NS p : Int)) = false := decide_eq_false (by omega)
      simp only [sh97_2, sh147_2, seg_n hd, hd1, cond_false]
      exact ⟨_, _, rfl, rfl, cs, of, rfl, rfl, ht⟩)
  refine ⟨cs, of, ?_, ?_, ht⟩
  · unfold sh97
    rw [hs, bindS, hmk, bindS, e1, bindS, bindS, hx, bindS]
  · unfold sh147
    rw [seg_n hd, hmk, bindS, e2, bindS, hy, bindS]

/-! points -/

/-! mark_points -/
/-- The numbers that are laid into a result of places. -/
def marksP (m : Int) (n : Nat) : List SPoint := (List.range n).map fun (i : Nat) => ⟨m + 2 * (i : Int), m + 2 * (i : Int) + 1⟩
theorem marksP_length (m : Int) (n : Nat) : (marksP m n).length = n := by simp [marksP]
theorem marksP_get (m : Int) (n k : Nat) (h : k < n) : (marksP m n)[k]'(by rw [marksP_length]; exact h) = ⟨m + 2 * k, m + 2 * k + 1⟩ := by simp [marksP]
theorem marksP_succ (m : Int) (k : Nat) : marksP m (k + 1) = marksP m k ++ [⟨m + 2 * k, m + 2 * k + 1⟩] := by simp [marksP, List.range_succ]


/-! curves -/
theorem inB_dec (k n : Int) : (decide (0 ≤ k) && decide (k ≤ n - 1)) = decide (0 ≤ k ∧ k < n) := by
  by_cases h : 0 ≤ k ∧ k < n
  · rw [decide_eq_true h, decide_eq_true h.1, decide_eq_true (by omega)]; rfl
  · rw [decide_eq_false h]
    by_cases h1 : 0 ≤ k
    · rw [decide_eq_true h1, decide_eq_false (by omega)]; rfl
    · rw [decide_eq_false h1]; rfl
theorem count_eq {p : SPanel} {cs : List (List SWalker)} {of : List Int} (ht : sh97 p = some (cs, of)) : sh174 p = some (cs.length : Int) := by
  unfold sh174; rw [ht, bindS]
theorem curveCode_eq {p : SPanel} {cs : List (List SWalker)} {of : List Int} (hb : p.Breaks.length ≤ 1048576) (hp : panelB p = true) (ht : sh97 p = some (cs, of)) (hc : cs.length ≤ 256) (k : Int) : sh95 p [k] = some (if 0 ≤ k ∧ k < (cs.length : Int) then 0 else 2) := by
  unfold sh95
  rw [validPanel_eq p hb, hp, bindS]
  simp only [Bool.not_true, cond_false]
  rw [iter_all (xs := [k]) (p := fun x => decide (0 ≤ x ∧ x < (cs.length : Int))) (r := (2 : Int)) (by simp) (fun j hj => ?_) (by simp [sh95_1]), bindS]
  · by_cases h : 0 ≤ k ∧ k < (cs.length : Int)
    · rw [if_pos h]; simp [elimS, h]
    · rw [if_neg h]; simp [elimS, h]
  · have hj0 : j = 0 := by simpa using hj
    subst hj0
    have g : getI [k] ((0 : Nat) : Int) = some k := rfl
    have hd : decide (((0 : Nat) : Int) < (([k] : List Int).length : Int)) = true := rfl
    simp only [sh95_1, hd, cond_true, g, bindS, count_eq ht, sh107, List.getElem_cons_zero]
    rw [w64_id (x := (cs.length : Int) - 1) (by omega) (by omega), inB_dec, w64_id (by omega) (by omega)]
    by_cases h : 0 ≤ k ∧ k < (cs.length : Int) <;> simp [h]
theorem curveCode_bad {p : SPanel} (hb : p.Breaks.length ≤ 1048576) (hp : panelB p = false) (ks : List Int) : sh95 p ks = some 1 := by
  unfold sh95
  rw [validPanel_eq p hb, hp, bindS]; rfl
def unitB (u : Int) : Bool := decide (1 ≤ u) && decide (u ≤ 1000)
theorem l20Code_eq {p : SPanel} {ps : List (List SPoint)} {of : List Int} (hb : p.Breaks.length ≤ 1048576) (hp : panelB p = true) (ht : sh147 p = some (ps, of)) (hc : ps.length ≤ 256) (k u : Int) : sh99 p k u = some (if (0 ≤ k ∧ k < (ps.length : Int)) ∧ unitB u = true then (ps.getD k.toNat [], 0) else ([], 2)) := by
  unfold sh99 sh100
  rw [l02Ok_eq p hb, hp, bindS, ht]
  simp only [Bool.not_true, cond_false, bindS]
  rw [w64_id (x := ((ps.length : Nat) : Int) - 1) (by omega) (by omega), inB_dec]
  by_cases h : 0 ≤ k ∧ k < (ps.length : Int)
  · rw [decide_eq_true h]
    show Option.bind (bif !true then some true else some !(unitB u)) _ = _
    cases hu : unitB u
    · simp [bindS]
    · have hl : k.toNat < ps.length := by omega
      simp only [Bool.not_true, cond_false, bindS, getI_toNat h.1 hl]
      rw [if_pos ⟨h, by first | rfl | trivial⟩, List.getD_eq_getElem?_getD, List.getElem?_eq_getElem hl]
      rfl
  · rw [decide_eq_false h, if_neg (fun hh => h hh.1)]; rfl
theorem l20Code_bad {p : SPanel} (hb : p.Breaks.length ≤ 1048576) (hp : panelB p = false) (k u : Int) : sh99 p k u = some ([], 1) := by
  unfold sh99
  rw [l02Ok_eq p hb, hp, bindS]; rfl
def upt (u : Int) (a : SPoint) : SPoint := ⟨w64 (a.X * u), w64 (a.Y * u)⟩
theorem path_eq (c : List SWalker) (u : Int) (h : c.length ≤ 256) : sh101 c u = some ((ptsOf c).map (upt u)) := by
  unfold sh101
  have hi := iter_fold (sb := sh101_1 c u) c (fun k (l : List SPoint) => ((k : Int), l)) (fun acc a => acc ++ [upt u a.At]) (fun l => l) (fun k l => l.length = k) [] rfl (by omega) (fun k hk l hI => ?_) (fun l _ => by
      have hd : decide ((c.length : Int) < (c.length : Int)) = false := by simp
      simp only [sh101_1, hd, cond_false])
  · have h1 := hi.1
    simp only [Int.natCast_zero] at h1
    rw [h1, bindS, foldl_snoc, List.nil_append, ptsOf, List.map_map]
    rfl
  · have h2 : (k : Int) < c.length := by omega
    refine ⟨?_, by simp [hI]⟩
    simp only [sh101_1, h2, decide_true, cond_true, getI_lt hk, bindS]
    rw [appL_ok (by simp only [List.length_cons, List.length_nil]; omega), bindS, w64_id (by omega) (by omega)]
    rfl
theorem cyc_len {p : SPanel} {c : List SWalker} (h : Cyc p c) : 1 ≤ c.length ∧ c.length ≤ 256 := by
  obtain ⟨w0, n, _, h1, h2, _, rfl⟩ := h
  simp; omega
theorem getD_map_pts (cs : List (List SWalker)) (k : Nat) : (cs.map ptsOf).getD k [] = ptsOf (cs.getD k []) := by
  rw [List.getD_eq_getElem?_getD, List.getD_eq_getElem?_getD, List.getElem?_map]
  cases cs[k]? <;> rfl
theorem getD_mem3 {cs : List (List SWalker)} {k : Nat} (h : k < cs.length) : cs.getD k [] ∈ cs ∧ getI cs (k : Int) = some (cs.getD k []) := by
  rw [List.getD_eq_getElem?_getD, List.getElem?_eq_getElem h]
  exact ⟨List.getElem_mem h, getI_lt h⟩

/-! toolmoves -/

/-! mark_moves -/
/-- The numbers that are laid into a result of moves of a tool. -/
def marksM (m : Int) (n : Nat) : List SToolMove := (List.range n).map fun (i : Nat) => ⟨m + 3 * (i : Int), m + 3 * (i : Int) + 1, m + 3 * (i : Int) + 2⟩
theorem marksM_length (m : Int) (n : Nat) : (marksM m n).length = n := by simp [marksM]
theorem marksM_get (m : Int) (n k : Nat) (h : k < n) : (marksM m n)[k]'(by rw [marksM_length]; exact h) = ⟨m + 3 * k, m + 3 * k + 1, m + 3 * k + 2⟩ := by simp [marksM]
theorem marksM_succ (m : Int) (k : Nat) : marksM m (k + 1) = marksM m k ++ [⟨m + 3 * k, m + 3 * k + 1, m + 3 * k + 2⟩] := by simp [marksM, List.range_succ]


/-! carvecurve -/
def mvT (d : Int) (a : SPoint) : SToolMove := ⟨a.X, a.Y, d⟩
/-- The moves along places. -/
def carveL (d s : Int) (q : List SPoint) : List SToolMove := [mvT s (q.getD 0 ⟨0, 0⟩)] ++ q.map (mvT (w64 (0 - d))) ++ [mvT (w64 (0 - d)) (q.getD 0 ⟨0, 0⟩), mvT s (q.getD 0 ⟨0, 0⟩)]
theorem carve_impl (c : List SWalker) (u d s : Int) (h1 : 1 ≤ c.length) (h : c.length ≤ 256) : sh145 c u d s = some (carveL d s ((ptsOf c).map (upt u))) := by
  unfold sh145
  rw [path_eq c u h, bindS]
  have hql : ((ptsOf c).map (upt u)).length = c.length := by simp [ptsOf]
  generalize (ptsOf c).map (upt u) = q at hql
  have hg : getI q 0 = some (q.getD 0 ⟨0, 0⟩) := by
    have := getI_lt (xs := q) (k := 0) (by omega)
    rw [List.getD_eq_getElem?_getD, List.getElem?_eq_getElem (by omega)]
    exact this
  have hi := iter_fold (sb := sh145_1 d q) q (fun k (l : List SToolMove) => ((k : Int), l)) (fun acc a => acc ++ [mvT (w64 (0 - d)) a]) (fun l => l) (fun k l => l.length = k + 1) [mvT s (q.getD 0 ⟨0, 0⟩)] rfl (by omega) (fun k hk l hI => ?_) (fun l _ => by
      have hd : decide ((q.length : Int) < (q.length : Int)) = false := by simp
      simp only [sh145_1, hd, cond_false])
  · have h1 := hi.1
    simp only [Int.natCast_zero] at h1
    rw [hg, bindS]
    rw [show SToolMove.mk (q.getD 0 ⟨0, 0⟩).X (q.getD 0 ⟨0, 0⟩).Y s = mvT s (q.getD 0 ⟨0, 0⟩) from rfl, h1, bindS, foldl_snoc]
    rw [appL_ok (by simp only [List.length_append, List.length_map, List.length_cons, List.length_nil]; omega), bindS]
    rfl
  · have h2 : (k : Int) < q.length := by omega
    refine ⟨?_, by simp [hI]⟩
    simp only [sh145_1, h2, decide_true, cond_true, getI_lt hk, bindS]
    rw [appL_ok (by simp only [List.length_cons, List.length_nil]; omega), bindS, w64_id (by omega) (by omega)]
    rfl
theorem carve_spec (q : List SPoint) (u d s : Int) (h1 : 1 ≤ q.length) (h : q.length ≤ 256) : sh149 q u d s = some (carveL d s (q.map (upt u))) := by
  unfold sh149
  have hg : getI q 0 = some (q.getD 0 ⟨0, 0⟩) := by
    have := getI_lt (xs := q) (k := 0) (by omega)
    rw [List.getD_eq_getElem?_getD, List.getElem?_eq_getElem (by omega)]
    exact this
  have hgm : (q.map (upt u)).getD 0 ⟨0, 0⟩ = upt u (q.getD 0 ⟨0, 0⟩) := by
    rw [List.getD_eq_getElem?_getD, List.getD_eq_getElem?_getD, List.getElem?_map, List.getElem?_eq_getElem (show 0 < q.length by omega)]
    rfl
  have hi := iter_steps (sb := sh149_1 q u d) (fun k => ((k : Int), [mvT s (upt u (q.getD 0 ⟨0, 0⟩))] ++ ((q ++ [q.getD 0 ⟨0, 0⟩]).take k).map (fun a => mvT (w64 (0 - d)) (upt u a)))) (q.length + 1) (x := [mvT s (upt u (q.getD 0 ⟨0, 0⟩))] ++ (q ++ [q.getD 0 ⟨0, 0⟩]).map (fun a => mvT (w64 (0 - d)) (upt u a))) (by omega) (fun k hk => ?_) ?_
  · simp only [Int.natCast_zero, List.take_zero, List.map_nil, List.append_nil] at hi
    rw [hg, bindS, bindS, appL_ok (by simp), bindS, List.nil_append]
    rw [show SToolMove.mk (w64 ((q.getD 0 ⟨0, 0⟩).X * u)) (w64 ((q.getD 0 ⟨0, 0⟩).Y * u)) s = mvT s (upt u (q.getD 0 ⟨0, 0⟩)) from rfl, hi, bindS, bindS, bindS, appL_ok (by simp only [List.length_append, List.length_map, List.length_cons, List.length_nil]; omega), bindS]
    unfold carveL
    rw [hgm]
    simp [List.map_map, Function.comp_def]
    rfl
  · have h2 : (k : Int) ≤ q.length := by omega
    have hkl : k < (q ++ [q.getD 0 ⟨0, 0⟩]).length := by simp; omega
    have hgk : getI q ((k : Int).tmod (q.length : Int)) = some (q ++ [q.getD 0 ⟨0, 0⟩])[k] := by
      rw [Int.tmod_eq_emod_of_nonneg (by omega)]
      by_cases hkq : k < q.length
      · rw [Int.emod_eq_of_lt (by omega) (by omega), getI_lt hkq, List.getElem_append_left hkq]
      · have : k = q.length := by omega
        subst this
        rw [Int.emod_self, hg, List.getElem_append_right (by omega)]
        simp
    simp only [sh149_1, h2, decide_true, cond_true, nzI_ok (show (q.length : Int) ≠ 0 by omega), bindS, hgk]
    rw [appL_ok (by simp only [List.length_append, List.length_map, List.length_take, List.length_cons, List.length_nil]; omega), bindS, w64_id (x := (k : Int) + 1) (by omega) (by omega), List.take_succ_eq_append_getElem hkl]
    simp only [List.map_append, List.map_cons, List.map_nil, List.append_assoc]
    rfl
  · have hd : decide (((q.length + 1 : Nat) : Int) ≤ (q.length : Int)) = false := decide_eq_false (by omega)
    simp only [sh149_1, hd, cond_false]
    rw [List.take_of_length_le (by simp)]
theorem carveL_len (d s : Int) (q : List SPoint) : (carveL d s q).length = q.length + 3 := by simp [carveL]
def cutB (d : Int) : Bool := decide (1 ≤ d) && decide (d ≤ 500)
theorem carveCurve_total (p : SPanel) (k u d s : Int) (hb : p.Breaks.length ≤ 1048576) : ∃ r, sh54 p k u d s = some r ∧ sh53 p k u d s = some r ∧ r.1.length ≤ 300 := by
  unfold sh54 sh53 sh146
  cases hp : panelB p
  · rw [l20Code_bad hb hp, curveCode_bad hb hp]
    exact ⟨_, rfl, rfl, by simp⟩
  · obtain ⟨cs, of, h1, h2, ht⟩ := trace_eq p (dim_of hp)
    have hN := (NS_eq (dim_of hp)).2.1
    have hf := ht.few
    have hc : cs.length ≤ 256 := by omega
    rw [l20Code_eq hb hp h2 (by rw [List.length_map]; exact hc), curveCode_eq hb hp h1 hc, List.length_map]
    by_cases hk : 0 ≤ k ∧ k < (cs.length : Int)
    · obtain ⟨j, rfl⟩ : ∃ j : Nat, k = j := ⟨k.toNat, by omega⟩
      obtain ⟨m1, m2⟩ := getD_mem3 (cs := cs) (k := j) (by omega)
      have hl := cyc_len (ht.cyc _ m1)
      rw [if_pos hk]
      simp only [bindS, bne_self_eq_false, cond_false, sh143, sh96, sh107, sh100]
      have hu0 : (decide (1 ≤ u) && decide (u ≤ 1000)) = unitB u := rfl
      rw [hu0]
      have hd0 : (decide (1 ≤ d) && decide (d ≤ 500)) = cutB d := rfl
      have hs0 : (decide (1 ≤ s) && decide (s ≤ 500)) = cutB s := rfl
      rw [hd0, hs0]
      cases hu : unitB u
      · rw [if_neg (by simp)]
        exact ⟨_, rfl, rfl, by simp⟩
      · rw [if_pos ⟨hk, rfl⟩, h1]
        simp only [beq_self_eq_true, cond_true]
        cases cutB d
        · exact ⟨_, rfl, rfl, by simp⟩
        · cases cutB s
          · exact ⟨_, rfl, rfl, by simp⟩
          · simp only [Bool.not_true, cond_false, cond_true, bindS, bne_self_eq_false, m2, Int.toNat_natCast, getD_map_pts]
            rw [carve_impl _ _ _ _ hl.1 hl.2, carve_spec _ _ _ _ (by simp only [ptsOf, List.length_map]; exact hl.1) (by simp only [ptsOf, List.length_map]; exact hl.2)]
            refine ⟨_, rfl, rfl, ?_⟩
            rw [carveL_len]; simp only [ptsOf, List.length_map]; omega
    · rw [if_neg hk, if_neg (fun h => hk h.1)]
      exact ⟨_, rfl, rfl, by simp⟩

/-! max -/
theorem l00Max_eq (a b : Int) : sh182 a b = some (mx a b) := by
  unfold sh182
  rw [← mx_comm']
  by_cases h : b < a <;> simp [h]

/-! dist -/
def dst (a b : Int) : Int := mx (w64 (a - b)) (w64 (b - a))
theorem l10Away_eq (a b : Int) : sh114 a b = some (dst a b) := by
  unfold sh114
  rw [l00Max_eq]; rfl
theorem distance_eq (a b : Int) : sh204 a b = some (dst a b) := rfl

/-! carveorder -/
/-- One loop, by an invariant and a measure. -/
theorem iter_invQ {σ ρ : Type} {sb : σ → Option (σ ⊕ ρ)} (I : σ → Prop) (μ : σ → Nat) (Q : ρ → Prop) {s : σ} (h0 : I s) (hμ : μ s < 4611686018427387904)
    (hs : ∀ a, I a → (∃ a', sb a = some (.inl a') ∧ I a' ∧ μ a' < μ a) ∨ (∃ x, sb a = some (.inr x) ∧ Q x)) : ∃ x, iter sb s = some x ∧ Q x := by
  obtain ⟨x, y, h1, h2, h3⟩ := iter_rel (sb1 := sb) (sb2 := sb) (fun a b => a = b ∧ I a) μ (fun x y => x = y ∧ Q x) (s1 := s) (s2 := s) ⟨rfl, h0⟩ hμ (fun a b hab => by
    obtain ⟨rfl, hI⟩ := hab
    rcases hs a hI with ⟨a', g1, g2, g3⟩ | ⟨x, g1, g2⟩
    · exact .inl ⟨a', a', g1, g1, ⟨rfl, g2⟩, g3⟩
    · exact .inr ⟨x, x, g1, g1, rfl, g2⟩)
  exact ⟨x, h1, h3.2⟩
theorem bind_map {α β γ : Type} (o : Option α) (f : α → β) (g : β → Option γ) : Option.bind (o.map f) g = Option.bind o (fun a => g (f a)) := by cases o <;> rfl
theorem getI_map {α β : Type} (f : α → β) (xs : List α) (i : Int) : getI (xs.map f) i = (getI xs i).map f := by
  unfold getI
  split
  · exact List.getElem?_map ..
  · rfl
theorem best_same (cs : List (List SWalker)) (of : List Int) (at' : SPoint) (dn : List Bool) : sh148_2 (cs.map ptsOf) at' dn = sh144_2 (cs, of) dn at' := by
  funext ⟨b, l, i⟩
  simp only [sh148_2, sh144_2, List.length_map, getI_map, bind_map, ptsOf, l10Away_eq, distance_eq, bindS]
/-- The nearest curve that is not done. -/
theorem best_ok (cs : List (List SWalker)) (of : List Int) (at' : SPoint) (dn : List Bool) (hc : ∀ c ∈ cs, 1 ≤ c.length) (hl : dn.length = cs.length) (hn : cs.length ≤ 256) (hf : ∃ j : Nat, dn[j]? = some false) :
    ∃ b : Int, iter (sh144_2 (cs, of) dn at') (-1, 0, 0) = some b ∧ ∃ k : Nat, b = k ∧ k < cs.length ∧ dn[k]? = some false := by
  obtain ⟨j0, hj0⟩ := hf
  refine iter_invQ (fun s : Int × Int × Int => ∃ i : Nat, s.2.2 = i ∧ i ≤ cs.length ∧ ((s.1 = -1 ∧ ∀ j, j < i → dn[j]? = some true) ∨ ∃ k : Nat, s.1 = k ∧ k < cs.length ∧ dn[k]? = some false)) (fun s : Int × Int × Int => ((cs.length : Int) - s.2.2).toNat) _ ⟨0, rfl, Nat.zero_le _, .inl ⟨rfl, fun j hj => absurd hj (Nat.not_lt_zero _)⟩⟩ (by simp; omega) ?_
  rintro ⟨b, l, i⟩ ⟨k, hi, hk, hI⟩
  simp only at hi
  subst hi
  by_cases hlt : k < cs.length
  · left
    have hd : decide ((k : Int) < ((cs.length : Nat) : Int)) = true := decide_eq_true (by omega)
    have hdl : k < dn.length := by omega
    have hck := hc _ (List.getElem_mem hlt)
    have hg0 : getI cs[k] 0 = some (cs[k][0]) := getI_lt (xs := cs[k]) (k := 0) (by omega)
    simp only [sh144_2, hd, cond_true, getI_lt hlt, bindS, hg0, distance_eq, getI_lt hdl, w64_id (x := (k : Int) + 1) (by omega) (by omega)]
    cases hdk : dn[k]
    · by_cases hb : (decide (b < 0) || decide (w64 (dst cs[k][0].At.X at'.X + dst cs[k][0].At.Y at'.Y) < l)) = true
      · rw [hb]
        refine ⟨_, rfl, ⟨k + 1, rfl, hlt, .inr ⟨k, rfl, hlt, ?_⟩⟩, ?_⟩
        · rw [List.getElem?_eq_getElem hdl, hdk]
        · simp only; omega
      · have hb' : (decide (b < 0) || decide (w64 (dst cs[k][0].At.X at'.X + dst cs[k][0].At.Y at'.Y) < l)) = false := by simpa using hb
        rw [hb']
        have hb0 : ¬ b < 0 := by simp at hb; omega
        refine ⟨_, rfl, ⟨k + 1, rfl, hlt, .inr ?_⟩, ?_⟩
        · rcases hI with ⟨h1, _⟩ | h1
          · simp only at h1; omega
          · exact h1
        · simp only; omega
    · refine ⟨_, rfl, ⟨k + 1, rfl, hlt, ?_⟩, ?_⟩
      · rcases hI with ⟨h1, h2⟩ | h1
        · refine .inl ⟨h1, fun j hj => ?_⟩
          by_cases hjk : j = k
          · subst hjk; rw [List.getElem?_eq_getElem hdl, hdk]
          · exact h2 j (by omega)
        · exact .inr h1
      · simp only [Bool.not_true, Bool.false_and, cond_false, bindS]; omega
  · right
    have hd : decide ((k : Int) < ((cs.length : Nat) : Int)) = false := decide_eq_false (by omega)
    simp only [sh144_2, hd, cond_false]
    refine ⟨b, rfl, ?_⟩
    rcases hI with ⟨_, h2⟩ | h1
    · have hj : j0 < dn.length := (List.getElem?_eq_some_iff.1 hj0).1
      rw [h2 j0 (by omega)] at hj0
      cases hj0
    · exact h1
theorem order_ok (p : SPanel) (cs : List (List SWalker)) (of : List Int) (ht : sh97 p = some (cs, of)) (hc : ∀ c ∈ cs, 1 ≤ c.length) (hn : cs.length ≤ 256) :
    ∃ o, sh148 (cs.map ptsOf) = some o ∧ sh144 p = some o ∧ o.length = cs.length ∧ ∀ x ∈ o, ∃ k : Nat, x = k ∧ k < cs.length := by
  unfold sh148 sh144
  rw [ht, bindS, List.length_map, mkL_ok (by omega), bindS, bindS]
  obtain ⟨x, y, h1, h2, rfl, h3⟩ := iter_rel (sb1 := sh148_1 (cs.map ptsOf)) (sb2 := sh144_1 (cs, of))
    (fun a b => b.1 = (a.1.length : Int) ∧ b.2.1 = a.1 ∧ b.2.2.1 = a.2.2 ∧ b.2.2.2 = a.2.1 ∧ a.2.1.length = cs.length ∧ a.2.1.count false = cs.length - a.1.length ∧ a.1.length ≤ cs.length ∧ ∀ x ∈ a.1, ∃ k : Nat, x = k ∧ k < cs.length)
    (fun a => cs.length - a.1.length) (fun x y => x = y ∧ x.length = cs.length ∧ ∀ z ∈ x, ∃ k : Nat, z = k ∧ k < cs.length)
    (s1 := ([], List.replicate cs.length false, ⟨0, 0⟩)) (s2 := (0, [], ⟨0, 0⟩, List.replicate cs.length false))
    ⟨rfl, rfl, rfl, rfl, by simp, by simp, by simp, by simp⟩ (by simp; omega) (by
      rintro ⟨o, dn, at'⟩ ⟨k, o', at2, dn2⟩ ⟨r1, r2, r3, r4, r5, r6, r7, r8⟩
      simp only at r1 r2 r3 r4 r5 r6 r7 r8
      subst r1; subst r2; subst r3; subst r4
      by_cases hlt : o'.length < cs.length
      · left
        have hd : decide ((o'.length : Int) < ((cs.length : Nat) : Int)) = true := decide_eq_true (by omega)
        have hex : ∃ j : Nat, dn2[j]? = some false := by
          have hm : false ∈ dn2 := List.count_pos_iff.1 (by omega)
          obtain ⟨j, hj, he⟩ := List.getElem_of_mem hm
          exact ⟨j, by rw [List.getElem?_eq_getElem hj, he]⟩
        obtain ⟨b, hb, k, rfl, hk, hdk⟩ := best_ok cs of at2 dn2 hc r5 hn hex
        have hkd : k < dn2.length := by omega
        have hdk' : dn2[k] = false := by rw [List.getElem?_eq_getElem hkd] at hdk; exact Option.some.inj hdk
        have hck := hc _ (List.getElem_mem hk)
        have hg0 : getI cs[k] 0 = some (cs[k][0]) := getI_lt (xs := cs[k]) (k := 0) (by omega)
        have ha : appL o' [(k : Int)] = some (o' ++ [(k : Int)]) := appL_ok (by simp only [List.length_cons, List.length_nil]; omega)
        refine ⟨(o' ++ [(k : Int)], dn2.set k true, (cs[k][0]).At), ((o' ++ [(k : Int)]).length, o' ++ [(k : Int)], (cs[k][0]).At, dn2.set k true), ?_, ?_, ⟨rfl, rfl, rfl, rfl, ?_, ?_, ?_, ?_⟩, ?_⟩
        · simp only [sh148_1, List.length_map, hd, cond_true, best_same cs of, hb, bindS, getI_lt hkd, getI_map, getI_lt hk, Option.map_some, ptsOf, hg0, ha, Int.toNat_natCast]
        · simp only [sh144_1, hd, cond_true, hb, bindS, getI_lt hkd, getI_lt hk, hg0, ha, Int.toNat_natCast]
          rw [w64_id (by omega) (by omega)]
          simp only [List.length_append, List.length_cons, List.length_nil]
          rfl
        · simpa using r5
        · simp only [List.count_set hkd, hdk', List.length_append, List.length_cons, List.length_nil]
          simp
          omega
        · simp only [List.length_append, List.length_cons, List.length_nil]; omega
        · intro x hx
          rcases List.mem_append.1 hx with hx | hx
          · exact r8 x hx
          · simp at hx; exact ⟨k, hx, hk⟩
        · simp only [List.length_append, List.length_cons, List.length_nil]; omega
      · right
        have hd : decide ((o'.length : Int) < ((cs.length : Nat) : Int)) = false := decide_eq_false (by omega)
        refine ⟨o', o', ?_, ?_, rfl, by omega, r8⟩
        · simp only [sh148_1, List.length_map, hd, cond_false]
        · simp only [sh144_1, hd, cond_false])
  rw [h1, h2]
  exact ⟨x, rfl, rfl, h3⟩
theorem carveOrder_total (p : SPanel) (hb : p.Breaks.length ≤ 1048576) : ∃ r, sh57 p = some r ∧ sh56 p = some r ∧ r.1.length ≤ 256 := by
  unfold sh57 sh56
  rw [l02Ok_eq p hb, validPanel_eq p hb]
  cases hp : panelB p
  · exact ⟨_, rfl, rfl, by simp⟩
  · obtain ⟨cs, of, h1, h2, ht⟩ := trace_eq p (dim_of hp)
    have hN := (NS_eq (dim_of hp)).2.1
    have hf := ht.few
    obtain ⟨o, g1, g2, g3, _⟩ := order_ok p cs of h1 (fun c hc => (cyc_len (ht.cyc c hc)).1) (by omega)
    simp only [bindS, Bool.not_true, cond_false, h2, g1, g2]
    exact ⟨_, rfl, rfl, by simp only; omega⟩

/-! carvepanel -/
theorem some_curve {p : SPanel} (hd : Dim p) {cs : List (List SWalker)} {of : List Int} (ht : Tr p cs of (NS p)) : 1 ≤ cs.length := by
  have hN := NS_eq hd
  have h1 := hd.w1; have h2 := hd.h1
  have hpos : 0 < NS p := by
    have := Int.mul_pos (show (0 : Int) < p.W by omega) (show (0 : Int) < p.H by omega)
    have h4 : 4 * p.W * p.H = 4 * (p.W * p.H) := Int.mul_assoc ..
    have := hN.1
    omega
  have a := ht.own 0 hpos
  rcases ht.val 0 with h | ⟨_, h⟩
  · omega
  · omega
theorem carvePanel_loop (cs : List (List SWalker)) (of : List Int) (o : List Int) (u d s : Int) (hc : ∀ c ∈ cs, 1 ≤ c.length ∧ c.length ≤ 256) (hn : cs.length ≤ 256) (hl : o.length = cs.length) (ho : ∀ x ∈ o, ∃ k : Nat, x = k ∧ k < cs.length) :
    ∃ r, iter (sh51_1 u d s (cs.map ptsOf, of) o) (0, []) = some r ∧ iter (sh50_1 u d s (cs, of) o) (0, []) = some r ∧ r.length ≤ 66304 := by
  obtain ⟨x, y, h1, h2, rfl, h3⟩ := iter_rel (sb1 := sh51_1 u d s (cs.map ptsOf, of) o) (sb2 := sh50_1 u d s (cs, of) o)
    (fun a b => a = b ∧ ∃ i : Nat, a.1 = i ∧ i ≤ o.length ∧ a.2.length ≤ 259 * i) (fun a : Int × List SToolMove => ((o.length : Int) - a.1).toNat) (fun x y => x = y ∧ x.length ≤ 66304) (s1 := (0, [])) (s2 := (0, [])) ⟨rfl, 0, rfl, Nat.zero_le _, by simp⟩ (by simp; omega) (by
      rintro ⟨k, l⟩ b ⟨rfl, i, hi, hio, hll⟩
      simp only at hi hll
      subst hi
      by_cases hlt : i < o.length
      · left
        have hd : decide ((i : Int) < (o.length : Int)) = true := decide_eq_true (by omega)
        obtain ⟨k, hk, hkl⟩ := ho _ (List.getElem_mem hlt)
        have hck := hc _ (List.getElem_mem hkl)
        have hpl : (ptsOf cs[k]).length = cs[k].length := by simp [ptsOf]
        have ha : appL l (carveL d s ((ptsOf cs[k]).map (upt u))) = some (l ++ carveL d s ((ptsOf cs[k]).map (upt u))) := appL_ok (by rw [carveL_len]; simp [ptsOf]; omega)
        have hw : w64 ((i : Int) + 1) = ((i + 1 : Nat) : Int) := by rw [w64_id (by omega) (by omega)]; rfl
        refine ⟨(((i + 1 : Nat) : Int), l ++ carveL d s ((ptsOf cs[k]).map (upt u))), _, ?_, ?_, ⟨rfl, i + 1, rfl, hlt, ?_⟩, ?_⟩
        · simp only [sh51_1, hd, cond_true, getI_lt hlt, bindS, hk, getI_map, getI_lt hkl, Option.map_some, carve_spec _ u d s (by rw [hpl]; exact hck.1) (by rw [hpl]; exact hck.2), ha, hw]
        · simp only [sh50_1, hd, cond_true, getI_lt hlt, bindS, hk, getI_lt hkl, carve_impl _ u d s hck.1 hck.2, ha, hw]
        · simp only [List.length_append, carveL_len, List.length_map, hpl]; omega
        · simp only; omega
      · right
        have hd : decide ((i : Int) < (o.length : Int)) = false := decide_eq_false (by omega)
        refine ⟨l, l, ?_, ?_, rfl, by omega⟩
        · simp only [sh51_1, hd, cond_false]
        · simp only [sh50_1, hd, cond_false])
  exact ⟨x, h1, h2, h3⟩
theorem carvePanel_total (p : SPanel) (u d s : Int) (hb : p.Breaks.length ≤ 1048576) : ∃ r, sh51 p u d s = some r ∧ sh50 p u d s = some r ∧ r.1.length ≤ 66304 := by
  unfold sh51 sh50 sh146
  rw [validPanel_eq p hb]
  cases hp : panelB p
  · rw [l20Code_bad hb hp]
    exact ⟨_, rfl, rfl, by simp⟩
  · obtain ⟨cs, of, h1, h2, ht⟩ := trace_eq p (dim_of hp)
    have hN := (NS_eq (dim_of hp)).2.1
    have hf := ht.few
    have hc : cs.length ≤ 256 := by omega
    have hc1 := some_curve (dim_of hp) ht
    rw [l20Code_eq hb hp h2 (by rw [List.length_map]; exact hc), List.length_map]
    obtain ⟨o, g1, g2, g3, g4⟩ := order_ok p cs of h1 (fun c hc => (cyc_len (ht.cyc c hc)).1) hc
    obtain ⟨r, k1, k2, k3⟩ := carvePanel_loop cs of o u d s (fun c hc => cyc_len (ht.cyc c hc)) hc g3 g4
    simp only [bindS, bne_self_eq_false, cond_false, Bool.not_true, sh143, sh96, sh107, sh100]
    have hu0 : (decide (1 ≤ u) && decide (u ≤ 1000)) = unitB u := rfl
    rw [hu0]
    have hd0 : (decide (1 ≤ d) && decide (d ≤ 500)) = cutB d := rfl
    have hs0 : (decide (1 ≤ s) && decide (s ≤ 500)) = cutB s := rfl
    rw [hd0, hs0]
    cases hu : unitB u
    · rw [if_neg (by simp)]
      exact ⟨_, rfl, rfl, by simp⟩
    · rw [if_pos ⟨⟨by omega, by omega⟩, rfl⟩]
      simp only [beq_self_eq_true, cond_true]
      cases cutB d
      · exact ⟨_, rfl, rfl, by simp⟩
      · cases cutB s
        · exact ⟨_, rfl, rfl, by simp⟩
        · simp only [Bool.not_true, cond_false, cond_true, bindS, bne_self_eq_false, h2, h1, g1, g2, k1, k2]
          exact ⟨_, rfl, rfl, k3⟩

/-! trace_spec -/
/-- A run of segments that are free comes to an end. -/
theorem curve_run {p : SPanel} {w0 : SWalker} {of : List Int} (hd : Dim p) (h : okW p w0) (hl : of.length = NS p) (c : Int) (hc : 0 ≤ c) (hf : of.getD (sgF p w0).toNat 0 < 0) :
    ∃ n, 1 ≤ n ∧ n ≤ 256 ∧ Run p w0 c of n ∧ 0 ≤ (ofN p w0 c of n).getD (sgF p (orb p w0 n)).toNat 0 := by
  have hN := NS_eq hd
  have hng := negs_le of
  have key : ∀ m i, negs (ofN p w0 c of i) ≤ m → Run p w0 c of i → i + negs (ofN p w0 c of i) = negs of → ∃ n, i ≤ n ∧ n ≤ 256 ∧ Run p w0 c of n ∧ 0 ≤ (ofN p w0 c of n).getD (sgF p (orb p w0 n)).toNat 0 := by
    intro m
    induction m with
    | zero =>
      intro i hm hr hn
      refine ⟨i, Nat.le_refl _, by omega, hr, ?_⟩
      by_cases hneg : (ofN p w0 c of i).getD (sgF p (orb p w0 i)).toNat 0 < 0
      · have hok := orb_ok hd h i
        have hset := negs_set (c := c) (by rw [ofN_length, hl]; exact (sg_lt hd hok).1) hneg hc
        omega
      · omega
    | succ m ih =>
      intro i hm hr hn
      by_cases hneg : (ofN p w0 c of i).getD (sgF p (orb p w0 i)).toNat 0 < 0
      · have hok := orb_ok hd h i
        have hset := negs_set (c := c) (by rw [ofN_length, hl]; exact (sg_lt hd hok).1) hneg hc
        obtain ⟨n, h1, h2, h3, h4⟩ := ih (i + 1) (by rw [ofN]; omega) (fun j hj => by
          by_cases hji : j = i
          · subst hji; exact hneg
          · exact hr j (by omega)) (by rw [ofN]; omega)
        exact ⟨n, by omega, h2, h3, h4⟩
      · exact ⟨i, Nat.le_refl _, by omega, hr, by omega⟩
  obtain ⟨n, _, h2, h3, h4⟩ := key (negs of) 0 (by simp [ofN]) (fun j hj => by omega) (by simp [ofN])
  refine ⟨n, ?_, h2, h3, h4⟩
  rcases Nat.eq_zero_or_pos n with h0 | h0
  · subst h0
    exfalso
    have : 0 ≤ of.getD (sgF p w0).toNat 0 := h4
    omega
  · exact h0
theorem trace_body_spec {p : SPanel} (hd : Dim p) (cs : List (List SWalker)) (of : List Int) (k : Nat) (hk : k < NS p) (ht : Tr p cs of k) : ∃ cs' of', Tr p cs' of' (k + 1) ∧
    sh147_2 p ((k : Int), of, cs.map ptsOf) = some (.inl (((k + 1 : Nat) : Int), of', cs'.map ptsOf)) := by
  obtain ⟨tl, tc, to, tv, tf, ty, ts⟩ := ht
  have hN := NS_eq hd
  have hkl : k < of.length := by omega
  have hw : w64 ((k : Int) + 1) = ((k + 1 : Nat) : Int) := by rw [w64_id (by omega) (by omega)]; omega
  have hkd : decide ((k : Int) < (NS p : Int)) = true := decide_eq_true (by omega)
  have hgd : of.getD k 0 = of[k] := by rw [List.getD_eq_getElem?_getD, List.getElem?_eq_getElem hkl]; rfl
  simp only [sh147_2, seg_n hd, hkd, cond_true, getI_lt hkl, bindS, hw]
  by_cases hneg : 0 ≤ of[k]
  · rw [decide_eq_true hneg]
    refine ⟨cs, of, ⟨tl, tc, fun j hj => ?_, tv, by omega, ty, ts⟩, rfl⟩
    by_cases hjk : j = k
    · subst hjk; rw [hgd]; exact hneg
    · exact to j (by omega)
  · rw [decide_eq_false hneg]
    obtain ⟨wok, wsg⟩ := wlk_ok hd (k := (k : Int)) (by omega) (by omega)
    obtain ⟨n, n1, n2, nr, ns⟩ := curve_run hd wok tl (cs.length : Int) (by omega) (by rw [wsg, Int.toNat_natCast, hgd]; omega)
    obtain ⟨np, na⟩ := period hd wok tl (by omega) tc n1 nr ns
    simp only [cond_false]
    rw [walker_spec hd (by omega) (by omega), bindS, curve_spec hd wok n1 n2 np na, bindS]
    have hss := set_spec hd wok tl (cs.map ptsOf) ((List.range n).map (fun i => (orb p (wlk p k) i).At)) n n2
    rw [List.length_map] at hss
    rw [hss, bindS, appL_ok (by simp only [List.length_map, List.length_cons, List.length_nil]; omega), bindS]
    refine ⟨cs ++ [(List.range n).map (orb p (wlk p k))], ofN p (wlk p k) (cs.length : Int) of n, ⟨by rw [ofN_length, tl], clo_next hd wok tl (by omega) tc n1 np, fun j hj => ?_, fun j => ?_, by simp only [List.length_append, List.length_cons, List.length_nil]; omega, fun c hc => ?_, by have hrn := run_negs hd wok tl (by omega) n nr; rw [sum_snoc, List.length_map, List.length_range]; omega⟩, ?_⟩
    · by_cases hjk : j = k
      · subst hjk
        have := ofN_hit (c := (cs.length : Int)) hd wok tl n 0 (by omega)
        rw [show orb p (wlk p j) 0 = wlk p j from rfl, wsg, Int.toNat_natCast] at this
        omega
      · exact ofN_mono hd wok tl (by omega) n j (to j (by omega))
    · simp only [List.length_append, List.length_cons, List.length_nil]
      by_cases hit : ∃ m, m < n ∧ (sgF p (orb p (wlk p k) m)).toNat = j
      · obtain ⟨m, hm, he⟩ := hit
        have := ofN_hit (c := (cs.length : Int)) hd wok tl n m hm
        rw [he] at this
        left; omega
      · rw [ofN_old hd wok tl n j (fun m hm e => hit ⟨m, hm, e⟩)]
        rcases tv j with h | h
        · left; omega
        · right; exact h
    · rcases List.mem_append.1 hc with hc | hc
      · exact ty c hc
      · simp only [List.mem_cons, List.not_mem_nil, or_false] at hc
        exact ⟨wlk p k, n, wok, n1, n2, np, hc⟩
    · simp only [List.map_append, List.map_cons, List.map_nil, ptsOf, List.map_map]
      rfl
theorem trace_spec_eq (p : SPanel) (hd : Dim p) : ∃ (cs : List (List SWalker)) (of : List Int), sh147 p = some (cs.map ptsOf, of) ∧ Tr p cs of (NS p) := by
  have hN := NS_eq hd
  have hmk : mkL (NS p : Int) (0 : Int) = some (List.replicate (NS p) 0) := mkL_ok (by omega)
  have e2 : iter (sh147_1 p) (0, List.replicate (NS p) 0) = some (List.replicate (NS p) (-1)) := by
    have := iter_steps (sb := sh147_1 p) (fun k => ((k : Int), List.replicate k (-1) ++ List.replicate (NS p - k) 0)) (NS p) (x := List.replicate (NS p) (-1)) (by omega) (fun k hk => ?_) ?_
    · simpa using this
    · have hl : k < (List.replicate k (-1 : Int) ++ List.replicate (NS p - k) 0).length := by simp; omega
      have hd1 : decide ((k : Int) < (NS p : Int)) = true := decide_eq_true (by omega)
      simp only [sh147_1, seg_n hd, hd1, cond_true, getI_lt hl, bindS, Int.toNat_natCast]
      rw [w64_id (by omega) (by omega), fill_step hk]
      rfl
    · have hd1 : decide (((NS p : Nat) : Int) < (NS p : Int)) = false := decide_eq_false (by omega)
      simp only [sh147_1, seg_n hd, hd1, cond_false]
      simp
  have hneg : ∀ j, (List.replicate (NS p) (-1 : Int)).getD j 0 = if j < NS p then -1 else 0 := by
    intro j
    rw [List.getD_eq_getElem?_getD, List.getElem?_replicate]
    split <;> rfl
  have h0 : Tr p [] (List.replicate (NS p) (-1)) 0 := ⟨by simp, fun w hw hg => by rw [hneg, if_pos (sg_lt hd hw).1] at hg; omega, fun j hj => by omega, fun j => by rw [hneg]; split <;> simp; omega, by simp, by simp, by simp [negs, List.countP_replicate]⟩
  obtain ⟨y, hy, cs, of, rfl, ht⟩ := iter_inv (sb := sh147_2 p) (fun b => ∃ (k : Nat) (cs : List (List SWalker)) (of : List Int), b = ((k : Int), of, cs.map ptsOf) ∧ k ≤ NS p ∧ Tr p cs of k)
    (fun a => NS p - a.1.toNat) (fun y => ∃ (cs : List (List SWalker)) (of : List Int), y = (of, cs.map ptsOf) ∧ Tr p cs of (NS p)) (s0 := (0, List.replicate (NS p) (-1), [])) ⟨0, [], _, rfl, by omega, h0⟩ (by simp only; omega) (by
    rintro b ⟨k, cs, of, rfl, hk, ht⟩
    by_cases hk2 : k < NS p
    · left
      obtain ⟨cs', of', h1, h3⟩ := trace_body_spec hd cs of k hk2 ht
      exact ⟨_, h3, ⟨k + 1, cs', of', rfl, by omega, h1⟩, by simp only [Int.toNat_natCast]; omega⟩
    · right
      have hkn : k = NS p := by omega
      subst hkn
      have hd1 : decide (((NS p : Nat) : Int) < (NS p : Int)) = false := decide_eq_false (by omega)
      simp only [sh147_2, seg_n hd, hd1, cond_false]
      exact ⟨_, rfl, cs, of, rfl, ht⟩)
  refine ⟨cs, of, ?_, ht⟩
  unfold sh147
  rw [seg_n hd, hmk, bindS, e2, bindS, hy, bindS]

/-! orderspec -/
theorem bestS_ok (cs : List (List SPoint)) (at' : SPoint) (dn : List Bool) (hc : ∀ c ∈ cs, 1 ≤ c.length) (hl : dn.length = cs.length) (hn : cs.length ≤ 256) (hf : ∃ j : Nat, dn[j]? = some false) :
    ∃ b : Int, iter (sh148_2 cs at' dn) (-1, 0, 0) = some b ∧ ∃ k : Nat, b = k ∧ k < cs.length ∧ dn[k]? = some false := by
  obtain ⟨j0, hj0⟩ := hf
  refine iter_inv (fun s : Int × Int × Int => ∃ i : Nat, s.2.2 = i ∧ i ≤ cs.length ∧ ((s.1 = -1 ∧ ∀ j, j < i → dn[j]? = some true) ∨ ∃ k : Nat, s.1 = k ∧ k < cs.length ∧ dn[k]? = some false)) (fun s : Int × Int × Int => ((cs.length : Int) - s.2.2).toNat) _ ⟨0, rfl, Nat.zero_le _, .inl ⟨rfl, fun j hj => absurd hj (Nat.not_lt_zero _)⟩⟩ (by simp; omega) ?_
  rintro ⟨b, l, i⟩ ⟨k, hi, hk, hI⟩
  simp only at hi
  subst hi
  by_cases hlt : k < cs.length
  · left
    have hd : decide ((k : Int) < ((cs.length : Nat) : Int)) = true := decide_eq_true (by omega)
    have hdl : k < dn.length := by omega
    have hck := hc _ (List.getElem_mem hlt)
    have hg0 : getI cs[k] 0 = some (cs[k][0]) := getI_lt (xs := cs[k]) (k := 0) (by omega)
    simp only [sh148_2, hd, cond_true, getI_lt hlt, bindS, hg0, l10Away_eq, getI_lt hdl, w64_id (x := (k : Int) + 1) (by omega) (by omega)]
    cases hdk : dn[k]
    · by_cases hb : (decide (b < 0) || decide (w64 (dst cs[k][0].X at'.X + dst cs[k][0].Y at'.Y) < l)) = true
      · rw [hb]
        refine ⟨_, rfl, ⟨k + 1, rfl, hlt, .inr ⟨k, rfl, hlt, ?_⟩⟩, ?_⟩
        · rw [List.getElem?_eq_getElem hdl, hdk]
        · simp only; omega
      · have hb' : (decide (b < 0) || decide (w64 (dst cs[k][0].X at'.X + dst cs[k][0].Y at'.Y) < l)) = false := by simpa using hb
        rw [hb']
        have hb0 : ¬ b < 0 := by simp at hb; omega
        refine ⟨_, rfl, ⟨k + 1, rfl, hlt, .inr ?_⟩, ?_⟩
        · rcases hI with ⟨h1, _⟩ | h1
          · simp only at h1; omega
          · exact h1
        · simp only; omega
    · refine ⟨_, rfl, ⟨k + 1, rfl, hlt, ?_⟩, ?_⟩
      · rcases hI with ⟨h1, h2⟩ | h1
        · refine .inl ⟨h1, fun j hj => ?_⟩
          by_cases hjk : j = k
          · subst hjk; rw [List.getElem?_eq_getElem hdl, hdk]
          · exact h2 j (by omega)
        · exact .inr h1
      · simp only [Bool.not_true, Bool.false_and, cond_false, bindS]; omega
  · right
    have hd : decide ((k : Int) < ((cs.length : Nat) : Int)) = false := decide_eq_false (by omega)
    simp only [sh148_2, hd, cond_false]
    refine ⟨b, rfl, ?_⟩
    rcases hI with ⟨_, h2⟩ | h1
    · have hj : j0 < dn.length := (List.getElem?_eq_some_iff.1 hj0).1
      rw [h2 j0 (by omega)] at hj0
      cases hj0
    · exact h1
/-- The order has each curve once. -/
theorem orderS_ok (cs : List (List SPoint)) (hc : ∀ c ∈ cs, 1 ≤ c.length) (hn : cs.length ≤ 256) :
    ∃ o, sh148 cs = some o ∧ o.length = cs.length ∧ o.Nodup ∧ ∀ x ∈ o, ∃ k : Nat, x = k ∧ k < cs.length := by
  unfold sh148
  rw [mkL_ok (by omega), bindS]
  obtain ⟨x, h1, h3⟩ := iter_inv (sb := sh148_1 cs)
    (fun a => a.2.1.length = cs.length ∧ a.2.1.count false = cs.length - a.1.length ∧ a.1.length ≤ cs.length ∧ a.1.Nodup ∧ ∀ x ∈ a.1, ∃ k : Nat, x = k ∧ k < cs.length ∧ a.2.1[k]? = some true)
    (fun a => cs.length - a.1.length) (fun x => x.length = cs.length ∧ x.Nodup ∧ ∀ z ∈ x, ∃ k : Nat, z = k ∧ k < cs.length)
    (s0 := ([], List.replicate cs.length false, ⟨0, 0⟩))
    ⟨by simp, by simp, by simp, by simp, by simp⟩ (by simp; omega) (by
      rintro ⟨o', dn2, at2⟩ ⟨r5, r6, r7, rn, r8⟩
      simp only at r5 r6 r7 rn r8
      by_cases hlt : o'.length < cs.length
      · left
        have hd : decide ((o'.length : Int) < ((cs.length : Nat) : Int)) = true := decide_eq_true (by omega)
        have hex : ∃ j : Nat, dn2[j]? = some false := by
          have hm : false ∈ dn2 := List.count_pos_iff.1 (by omega)
          obtain ⟨j, hj, he⟩ := List.getElem_of_mem hm
          exact ⟨j, by rw [List.getElem?_eq_getElem hj, he]⟩
        obtain ⟨b, hb, k, rfl, hk, hdk⟩ := bestS_ok cs at2 dn2 hc r5 hn hex
        have hkd : k < dn2.length := by omega
        have hdk' : dn2[k] = false := by rw [List.getElem?_eq_getElem hkd] at hdk; exact Option.some.inj hdk
        have hck := hc _ (List.getElem_mem hk)
        have hg0 : getI cs[k] 0 = some (cs[k][0]) := getI_lt (xs := cs[k]) (k := 0) (by omega)
        have ha : appL o' [(k : Int)] = some (o' ++ [(k : Int)]) := appL_ok (by simp only [List.length_cons, List.length_nil]; omega)
        refine ⟨(o' ++ [(k : Int)], dn2.set k true, (cs[k][0])), ?_, ⟨?_, ?_, ?_, ?_, ?_⟩, ?_⟩
        · simp only [sh148_1, hd, cond_true, hb, bindS, getI_lt hkd, getI_lt hk, hg0, ha, Int.toNat_natCast]
        · simpa using r5
        · simp only [List.count_set hkd, hdk', List.length_append, List.length_cons, List.length_nil]
          simp
          omega
        · simp only [List.length_append, List.length_cons, List.length_nil]; omega
        · rw [List.nodup_append]
          refine ⟨rn, by simp, fun x hx y hy => ?_⟩
          simp at hy
          subst hy
          intro hxk
          obtain ⟨j, hj, _, hj3⟩ := r8 x hx
          have : j = k := by omega
          subst this
          rw [hdk] at hj3
          cases hj3
        · intro x hx
          simp only at hx ⊢
          rcases List.mem_append.1 hx with hx | hx
          · obtain ⟨j, hj, hj2, hj3⟩ := r8 x hx
            refine ⟨j, hj, hj2, ?_⟩
            rw [List.getElem?_set]
            split
            · rename_i h; subst h; simp [hkd]
            · exact hj3
          · simp at hx
            exact ⟨k, hx, hk, by simp [hkd]⟩
        · simp only [List.length_append, List.length_cons, List.length_nil]; omega
      · right
        have hd : decide ((o'.length : Int) < ((cs.length : Nat) : Int)) = false := decide_eq_false (by omega)
        refine ⟨o', ?_, by omega, rn, fun x hx => ?_⟩
        · simp only [sh148_1, hd, cond_false]
        · obtain ⟨j, hj, hj2, _⟩ := r8 x hx
          exact ⟨j, hj, hj2⟩)
  rw [h1]
  exact ⟨x, rfl, h3⟩
/-- The moves for all curves in some order. -/
def carveAll (u d s : Int) (cs : List (List SPoint)) (o : List Int) : List SToolMove := o.flatMap fun k => carveL d s ((cs.getD k.toNat []).map (upt u))
theorem flatMap_snoc {α β : Type} (f : α → List β) (l : List α) (x : α) : (l ++ [x]).flatMap f = l.flatMap f ++ f x := by simp
theorem carveAll_len (u d s : Int) (cs : List (List SPoint)) : ∀ (o : List Int), (∀ x ∈ o, ∃ k : Nat, x = k ∧ k < cs.length) → (∀ c ∈ cs, c.length ≤ 256) → (carveAll u d s cs o).length ≤ 259 * o.length
  | [], _, _ => by simp [carveAll]
  | x :: o, h, hc => by
    have ih := carveAll_len u d s cs o (fun y hy => h y (List.mem_cons_of_mem _ hy)) hc
    obtain ⟨k, rfl, hk⟩ := h x (List.mem_cons_self ..)
    have hg : cs.getD k [] = cs[k] := by rw [List.getD_eq_getElem?_getD, List.getElem?_eq_getElem hk]; rfl
    have := hc _ (List.getElem_mem hk)
    unfold carveAll at ih ⊢
    rw [List.flatMap_cons, List.length_append, carveL_len, List.length_map, Int.toNat_natCast, hg, List.length_cons]
    omega
theorem panelS_loop (cs : List (List SPoint)) (of : List Int) (o : List Int) (u d s : Int) (hc : ∀ c ∈ cs, 1 ≤ c.length ∧ c.length ≤ 256) (hn : cs.length ≤ 256) (hl : o.length = cs.length) (ho : ∀ x ∈ o, ∃ k : Nat, x = k ∧ k < cs.length) :
    iter (sh51_1 u d s (cs, of) o) (0, []) = some (carveAll u d s cs o) := by
  have hi := iter_steps (sb := sh51_1 u d s (cs, of) o) (fun k => ((k : Int), carveAll u d s cs (o.take k))) o.length (x := carveAll u d s cs o) (by omega) (fun i hlt => ?_) ?_
  · simpa [carveAll] using hi
  · have hd : decide ((i : Int) < (o.length : Int)) = true := decide_eq_true (by omega)
    obtain ⟨k, hk, hkl⟩ := ho _ (List.getElem_mem hlt)
    have hck := hc _ (List.getElem_mem hkl)
    have hlen := carveAll_len u d s cs (o.take i) (fun x hx => ho x (List.mem_of_mem_take hx)) (fun c hcm => (hc c hcm).2)
    rw [List.length_take] at hlen
    have hg : cs.getD k [] = cs[k] := by rw [List.getD_eq_getElem?_getD, List.getElem?_eq_getElem hkl]; rfl
    have ha : appL (carveAll u d s cs (o.take i)) (carveL d s (cs[k].map (upt u))) = some (carveAll u d s cs (o.take i) ++ carveL d s (cs[k].map (upt u))) := appL_ok (by rw [carveL_len, List.length_map]; omega)
    have hw : w64 ((i : Int) + 1) = ((i + 1 : Nat) : Int) := by rw [w64_id (by omega) (by omega)]; rfl
    simp only [sh51_1, hd, cond_true, getI_lt hlt, bindS, hk, getI_lt hkl, carve_spec _ u d s hck.1 hck.2, ha, hw]
    rw [List.take_succ_eq_append_getElem hlt, hk]
    unfold carveAll
    rw [flatMap_snoc, Int.toNat_natCast, hg]
  · have hd : decide ((o.length : Int) < (o.length : Int)) = false := by simp
    simp only [sh51_1, hd, cond_false, List.take_length]
/-- What carving a panel comes to. -/
theorem panelS_val (p : SPanel) (u d s : Int) (hp : panelB p = true) (hu : unitB u = true) (hd : cutB d = true) (hs : cutB s = true) : ∃ (cs : List (List SWalker)) (of o : List Int), sh147 p = some (cs.map ptsOf, of) ∧ Tr p cs of (NS p) ∧ sh51 p u d s = some (carveAll u d s (cs.map ptsOf) o, 0) ∧ o.length = cs.length ∧ o.Nodup ∧ (∀ x ∈ o, ∃ k : Nat, x = k ∧ k < cs.length) ∧ 1 ≤ cs.length ∧ cs.length ≤ 256 := by
  have hb := (panelB_facts hp).2.2.2.2
  obtain ⟨cs, of, h2, ht⟩ := trace_spec_eq p (dim_of hp)
  have hN := NS_eq (dim_of hp)
  have hf := ht.few
  have h0 := ht.own 0 (by omega)
  have hc1 : 1 ≤ cs.length := by
    rcases ht.val 0 with h | h
    · omega
    · omega
  have hcl : ∀ c ∈ cs.map ptsOf, 1 ≤ c.length ∧ c.length ≤ 256 := fun c hc => by
    obtain ⟨w, hw, rfl⟩ := List.mem_map.1 hc
    have := cyc_len (ht.cyc w hw)
    unfold ptsOf
    rw [List.length_map]; exact this
  obtain ⟨o, g1, g2, g3, g4⟩ := orderS_ok (cs.map ptsOf) (fun c hc => (hcl c hc).1) (by rw [List.length_map]; omega)
  rw [List.length_map] at g2 g4
  refine ⟨cs, of, o, h2, ht, ?_, g2, g3, g4, hc1, by omega⟩
  unfold sh51 sh146
  rw [l20Code_eq (by omega) hp h2 (by rw [List.length_map]; omega), List.length_map, if_pos ⟨by omega, hu⟩]
  have hd0 : sh100 d 1 500 = some (cutB d) := rfl
  have hs0 : sh100 s 1 500 = some (cutB s) := rfl
  rw [hd0, hs0, hd, hs]
  simp only [bindS, beq_self_eq_true, cond_true, Bool.not_true, cond_false, bne_self_eq_false, h2, g1]
  rw [panelS_loop (cs.map ptsOf) of o u d s hcl (by rw [List.length_map]; omega) (by rw [List.length_map]; exact g2) (by rw [List.length_map]; exact g4)]
  rfl

/-! moves -/
def coB (x : Int) : Bool := decide (-100000 ≤ x) && decide (x ≤ 100000)
def moveB (m : SToolMove) : Bool := (coB m.X && coB m.Y) && (decide (-500 ≤ m.Z) && decide (m.Z ≤ 500))
def movesB (q : List SToolMove) : Bool := q.all moveB && decide (q.length ≤ 700)

theorem l22Ok_eq (q : List SToolMove) (h : q.length ≤ 1048576) : sh152 q = some (movesB q) := by
  unfold sh152 movesB
  rw [iter_all (xs := q) (p := moveB) (r := false) (by omega) (fun k hk => ?_) (by simp [sh152_1]), bindS]
  · cases ha : q.all moveB
    · simp [elimS]
    · simp only [elimS, if_true, Bool.true_and]
      congr 1
      simp only [decide_eq_decide]; omega
  · have h2 : (k : Int) < q.length := by omega
    simp only [sh152_1, sh100, h2, decide_true, cond_true, getI_lt hk, bindS]
    rw [w64_id (x := (k : Int) + 1) (by omega) (by omega)]
    unfold moveB coB
    cases h0 : decide (-100000 ≤ q[k].X) && decide (q[k].X ≤ 100000) <;> cases h1 : decide (-100000 ≤ q[k].Y) && decide (q[k].Y ≤ 100000) <;> cases h3 : decide (-500 ≤ q[k].Z) && decide (q[k].Z ≤ 500) <;> rfl

theorem validMoves_eq (q : List SToolMove) (h : q.length ≤ 1048576) : sh151 q = some (movesB q) := by
  unfold sh151 movesB
  rw [iter_all (xs := q) (p := moveB) (r := false) (by omega) (fun k hk => ?_) (by simp [sh151_1]), bindS]
  · cases ha : q.all moveB
    · simp [elimS]
    · simp only [elimS, if_true, Bool.true_and]
      congr 1
      simp only [decide_eq_decide]; omega
  · have h2 : (k : Int) < q.length := by omega
    simp only [sh151_1, sh106, sh107, h2, decide_true, cond_true, getI_lt hk, bindS]
    rw [w64_id (x := (k : Int) + 1) (by omega) (by omega)]
    unfold moveB coB
    cases h0 : decide (-100000 ≤ q[k].X) && decide (q[k].X ≤ 100000) <;> cases h1 : decide (-100000 ≤ q[k].Y) && decide (q[k].Y ≤ 100000) <;> cases h3 : decide (-500 ≤ q[k].Z) && decide (q[k].Z ≤ 500) <;> rfl

theorem movesB_len {q : List SToolMove} (h : movesB q = true) : q.length ≤ 700 := by
  unfold movesB at h
  simp only [Bool.and_eq_true, decide_eq_true_eq] at h
  exact h.2

/-! checkmoves -/
theorem cm_body (p : SPanel) (q : List SToolMove) (u r d : Int) (hl : q.length ≤ 1048576) (k : Nat) (hk : k < q.length) : ∃ b : Bool,
    sh60_1 p q u r d (k : Int) = some (if b = true then .inr (.inr ((k : Int), 0)) else .inl (((k + 1 : Nat) : Int))) ∧ sh59_1 p q u r d (k : Int) = some (if b = true then .inr (.inr ((k : Int), 0)) else .inl (((k + 1 : Nat) : Int))) := by
  have h2 : (k : Int) < q.length := by omega
  have hw1 : w64 ((k : Int) + 1) = ((k + 1 : Nat) : Int) := by rw [w64_id (by omega) (by omega)]; omega
  by_cases h0 : k = 0
  · subst h0
    have hd0 : decide ((0 : Int) < ((0 : Nat) : Int)) = false := rfl
    simp only [sh60_1, sh59_1, sh100, sh107, h2, decide_true, cond_true, getI_lt hk, bindS, hw1, hd0, Bool.false_and, cond_false]
    generalize (decide (w64 (0 - r) ≤ q[0].X) && decide (q[0].X ≤ w64 (w64 (w64 (2 * p.W) * u) + r))) = A
    generalize (decide (w64 (0 - r) ≤ q[0].Y) && decide (q[0].Y ≤ w64 (w64 (w64 (2 * p.H) * u) + r))) = B
    generalize decide (q[0].Z < 0) = Z
    generalize decide (q[0].Z < w64 (0 - d)) = D
    refine ⟨((Z && (!A || !B)) || D), ?_, ?_⟩ <;> cases A <;> cases B <;> cases Z <;> cases D <;> rfl
  · have hd0 : decide ((0 : Int) < (k : Int)) = true := decide_eq_true (by omega)
    have hw2 : w64 ((k : Int) - 1) = ((k - 1 : Nat) : Int) := by rw [w64_id (by omega) (by omega)]; omega
    have hk1 : k - 1 < q.length := by omega
    simp only [sh60_1, sh59_1, sh100, sh107, h2, decide_true, cond_true, getI_lt hk, getI_lt hk1, bindS, hw1, hw2, hd0, Bool.true_and]
    rw [show (q[k].X != q[k - 1].X) = (q[k - 1].X != q[k].X) from bne_comm, show (q[k].Y != q[k - 1].Y) = (q[k - 1].Y != q[k].Y) from bne_comm]
    generalize (decide (w64 (0 - r) ≤ q[k].X) && decide (q[k].X ≤ w64 (w64 (w64 (2 * p.W) * u) + r))) = A
    generalize (decide (w64 (0 - r) ≤ q[k].Y) && decide (q[k].Y ≤ w64 (w64 (w64 (2 * p.H) * u) + r))) = B
    generalize decide (q[k].Z < 0) = Z
    generalize decide (q[k].Z < w64 (0 - d)) = D
    generalize decide (0 ≤ q[k - 1].Z) = P
    generalize (q[k - 1].X != q[k].X) = X
    generalize (q[k - 1].Y != q[k].Y) = Y
    refine ⟨((Z && (!A || !B)) || D) || (Z && (P && (X || Y))), ?_, ?_⟩ <;> cases A <;> cases B <;> cases Z <;> cases D <;> cases P <;> cases X <;> cases Y <;> rfl
theorem cm_end (p : SPanel) (q : List SToolMove) (u r d : Int) : sh60_1 p q u r d (q.length : Int) = some (.inr (.inl ())) ∧ sh59_1 p q u r d (q.length : Int) = some (.inr (.inl ())) := by
  have hd : decide ((q.length : Int) < (q.length : Int)) = false := by simp
  constructor
  · simp only [sh60_1, hd, cond_false]
  · simp only [sh59_1, hd, cond_false]
theorem cm_loop (p : SPanel) (q : List SToolMove) (u r d : Int) (hl : q.length ≤ 1048576) : ∃ y, iter (sh60_1 p q u r d) 0 = some y ∧ iter (sh59_1 p q u r d) 0 = some y := by
  have e : iter (sh60_1 p q u r d) 0 = iter (sh59_1 p q u r d) 0 := by
    refine iter_congr (fun i => ∃ k : Nat, i = (k : Int) ∧ k ≤ q.length) ⟨0, rfl, by omega⟩ ?_
    rintro _ ⟨k, rfl, hk⟩
    by_cases hk2 : k < q.length
    · obtain ⟨b, h1, h2⟩ := cm_body p q u r d hl k hk2
      refine ⟨by rw [h1, h2], fun s' hs => ?_⟩
      rw [h2] at hs
      cases b
      · simp at hs; exact ⟨k + 1, by omega, by omega⟩
      · simp at hs
    · have hkl : k = q.length := by omega
      subst hkl
      obtain ⟨h1, h2⟩ := cm_end p q u r d
      refine ⟨by rw [h1, h2], fun s' hs => ?_⟩
      rw [h2] at hs
      simp at hs
  obtain ⟨y, hy, _⟩ := iter_inv (sb := sh60_1 p q u r d) (fun i => ∃ k : Nat, i = (k : Int) ∧ k ≤ q.length) (fun i => q.length - i.toNat) (fun (_ : Unit ⊕ (Int × Int)) => True) (s0 := 0) ⟨0, rfl, by omega⟩ (by show q.length - (0 : Int).toNat < 4611686018427387904; omega) (by
    rintro _ ⟨k, rfl, hk⟩
    by_cases hk2 : k < q.length
    · obtain ⟨b, h1, h2⟩ := cm_body p q u r d hl k hk2
      rw [h1]
      cases b
      · left; exact ⟨_, rfl, ⟨k + 1, rfl, by omega⟩, by show q.length - (((k + 1 : Nat) : Int)).toNat < q.length - ((k : Nat) : Int).toNat; omega⟩
      · right; exact ⟨_, rfl, trivial⟩
    · have hkl : k = q.length := by omega
      subst hkl
      right
      exact ⟨_, (cm_end p q u r d).1, trivial⟩)
  exact ⟨y, hy, by rw [← e, hy]⟩
theorem checkMoves_total (p : SPanel) (q : List SToolMove) (u r d : Int) (h : p.Breaks.length ≤ 1048576) (hl : q.length ≤ 1048576) : ∃ z, sh60 p q u r d = some z ∧ sh59 p q u r d = some z := by
  unfold sh60 sh59
  rw [l02Ok_eq p h, validPanel_eq p h, l22Ok_eq q hl, validMoves_eq q hl]
  simp only [bindS, sh100, sh107, sh143, sh96]
  obtain ⟨y, h1, h2⟩ := cm_loop p q u r d hl
  rw [h1, h2]
  generalize (decide (1 ≤ u) && decide (u ≤ 1000)) = U
  generalize (decide (0 ≤ r) && decide (r ≤ 200)) = R
  generalize (decide (1 ≤ d) && decide (d ≤ 500)) = D
  cases panelB p <;> cases movesB q <;> cases U <;> cases R <;> cases D <;> cases y <;> exact ⟨_, rfl, rfl⟩

/-! lengths -/
def away (p q : SToolMove) : Int := mx (mx (dst p.X q.X) (dst p.Y q.Y)) (dst p.Z q.Z)

/-! carvedlaw -/
/-! ### what a carved panel measures -/
def wtM (a b : SToolMove) : Int := if a.Z < 0 ∨ b.Z < 0 then mx (mx (dst a.X b.X) (dst a.Y b.Y)) (dst a.Z b.Z) else 0
structure FS where
  sum : Int
  ok : Prop
  last : SToolMove
/-- A move fits: in range, over the panel when it cuts, and not cutting on its way in. -/
structure InM (lx ly d : Int) (x : SToolMove) : Prop where
  rng : moveB x = true
  px : x.Z < 0 → 0 ≤ x.X ∧ x.X ≤ lx
  py : x.Z < 0 → 0 ≤ x.Y ∧ x.Y ≤ ly
  dep : -d ≤ x.Z
def OkM (a b : SToolMove) : Prop := b.Z < 0 → 0 ≤ a.Z → a.X = b.X ∧ a.Y = b.Y
def fwM (lx ly d : Int) (s : FS) (x : SToolMove) : FS := ⟨s.sum + wtM s.last x, s.ok ∧ InM lx ly d x ∧ OkM s.last x, x⟩
theorem fw_all {lx ly d : Int} : ∀ (t : List SToolMove) (s : FS), (t.foldl (fwM lx ly d) s).ok → s.ok ∧ ∀ k (hk : k < t.length), InM lx ly d t[k] ∧ OkM ((s.last :: t).getD k ⟨0, 0, 0⟩) t[k]
  | [], s, h => ⟨h, fun k hk => by simp at hk⟩
  | x :: t, s, h => by
    obtain ⟨h1, h2⟩ := fw_all t (fwM lx ly d s x) h
    refine ⟨h1.1, fun k hk => ?_⟩
    cases k with
    | zero => exact h1.2
    | succ k => exact h2 k (by simpa using hk)
theorem dst_self (a : Int) : dst a a = 0 := by
  unfold dst mx
  rw [Int.sub_self, w64_id (by omega) (by omega)]; rfl
theorem dst_val {a b : Int} (h1 : -100000 ≤ a ∧ a ≤ 100000) (h2 : -100000 ≤ b ∧ b ≤ 100000) : dst a b = mx (a - b) (b - a) := by
  unfold dst
  rw [w64_id (by omega) (by omega), w64_id (by omega) (by omega)]
theorem moveB_bd {m : SToolMove} (h : moveB m = true) : (-100000 ≤ m.X ∧ m.X ≤ 100000) ∧ (-100000 ≤ m.Y ∧ m.Y ≤ 100000) ∧ (-500 ≤ m.Z ∧ m.Z ≤ 500) := by
  unfold moveB coB at h
  simp only [Bool.and_eq_true, decide_eq_true_eq] at h
  omega
theorem wt_bd {a b : SToolMove} (ha : moveB a = true) (hb : moveB b = true) : 0 ≤ wtM a b ∧ wtM a b ≤ 200000 := by
  have h1 := moveB_bd ha
  have h2 := moveB_bd hb
  unfold wtM
  split
  · rw [dst_val h1.1 h2.1, dst_val h1.2.1 h2.2.1, dst_val (by omega) (by omega)]
    unfold mx
    repeat' split
    all_goals omega
  · omega
theorem mx_alt' (a b : Int) : (if a < b then b else a) = mx a b := by unfold mx; split <;> (try split) <;> omega
theorem cut_len (a : SToolMove) (t : List SToolMove) (h : movesB (a :: t) = true) : sh63 (a :: t) = some ((t.foldl (fwM 0 0 0) ⟨0, True, a⟩).sum, 0) := by
  have hl := movesB_len h
  have hm : ∀ x ∈ a :: t, moveB x = true := by
    unfold movesB at h
    simp only [Bool.and_eq_true, List.all_eq_true] at h
    exact h.1
  have hg : ∀ k, k < (a :: t).length → moveB ((a :: t).getD k ⟨0, 0, 0⟩) = true := fun k hk => by
    rw [List.getD_eq_getElem?_getD, List.getElem?_eq_getElem hk]
    exact hm _ (List.getElem_mem hk)
  have hgI : ∀ k, k < (a :: t).length → getI (a :: t) (k : Int) = some ((a :: t).getD k ⟨0, 0, 0⟩) := fun k hk => by
    rw [getI_lt hk, List.getD_eq_getElem?_getD, List.getElem?_eq_getElem hk]; rfl
  unfold sh63 sh154
  rw [validMoves_eq _ (by omega), h, bindS]
  simp only [List.length_cons] at hl
  have hi := iter_fold (sb := sh154_1 (a :: t) true) t (fun k (s : FS) => (s.sum, (k : Int) + 1)) (fwM 0 0 0) (fun s => s.sum) (fun k s => s.last = (a :: t).getD k ⟨0, 0, 0⟩ ∧ 0 ≤ s.sum ∧ s.sum ≤ (k : Int) * 200000) ⟨0, True, a⟩ ⟨rfl, by simp, by simp⟩ (by omega) (fun k hk s hI => ?_) (fun s hI => by
      have hd : decide ((t.length : Int) + 1 < ((a :: t).length : Int)) = false := by simp
      simp only [sh154_1, hd, cond_false])
  · have h1 := hi.1
    simp only [Int.natCast_zero, Int.zero_add] at h1
    rw [Bool.not_true, cond_false, h1]
    rfl
  · obtain ⟨i1, i2, i3⟩ := hI
    have hk1 : k + 1 < (a :: t).length := by simp; omega
    have h2 : (k : Int) + 1 < (a :: t).length := by omega
    have hw : w64 ((k : Int) + 1 - 1) = (k : Int) := by rw [show (k : Int) + 1 - 1 = k by omega]; exact w64_id (by omega) (by omega)
    have g1 := hgI k (by omega)
    have g2 : getI (a :: t) ((k : Int) + 1) = some t[k] := by have := getI_lt hk1; simpa using this
    have b1 := hg k (by omega)
    have b2 : moveB t[k] = true := hm _ (List.mem_cons_of_mem _ (List.getElem_mem hk))
    have hb := wt_bd b1 b2
    have hs : w64 (s.sum + wtM ((a :: t).getD k ⟨0, 0, 0⟩) t[k]) = s.sum + wtM ((a :: t).getD k ⟨0, 0, 0⟩) t[k] := w64_id (by omega) (by omega)
    refine ⟨?_, ?_, ?_, ?_⟩
    · simp only [sh154_1, h2, decide_true, cond_true, hw, g1, g2, bindS, distance_eq, mx_alt', fwM, i1]
      generalize (a :: t).getD k ⟨0, 0, 0⟩ = p at *
      have hwk : w64 ((k : Int) + 1 + 1) = ((k + 1 : Nat) : Int) + 1 := by rw [w64_id (by omega) (by omega)]; omega
      rw [hwk]
      by_cases hz : p.Z < 0 ∨ t[k].Z < 0
      · have hc : ((decide (p.Z < 0) || decide (t[k].Z < 0)) == true) = true := by simpa using hz
        unfold wtM at hs ⊢
        rw [if_pos hz] at hs ⊢
        rw [hc, cond_true, bindS, hs]
      · have hc : ((decide (p.Z < 0) || decide (t[k].Z < 0)) == true) = false := by simpa using hz
        unfold wtM
        rw [if_neg hz, hc, cond_false, bindS, Int.add_zero]
    · simp only [fwM]
      rw [List.getD_cons_succ, List.getD_eq_getElem?_getD, List.getElem?_eq_getElem hk]; rfl
    · simp only [fwM, i1]; omega
    · simp only [fwM, i1]; omega
theorem cm_step (p : SPanel) (L : List SToolMove) (u d : Int) (hl : L.length ≤ 700) (hd : 1 ≤ d ∧ d ≤ 500) (hu : 1 ≤ u ∧ u ≤ 1000) (hD : Dim p) (k : Nat) (hk : k < L.length) (hI : InM (2 * p.W * u) (2 * p.H * u) d L[k]) (hO : 0 < k → OkM (L.getD (k - 1) ⟨0, 0, 0⟩) L[k]) :
    sh59_1 p L u 0 d (k : Int) = some (.inl ((k + 1 : Nat) : Int)) := by
  have h2 : (k : Int) < L.length := by omega
  have hw1 : w64 ((k : Int) + 1) = ((k + 1 : Nat) : Int) := by rw [w64_id (by omega) (by omega)]; omega
  have d1 := hD.w1; have d2 := hD.w2; have d3 := hD.h1; have d4 := hD.h2
  have m1 : 0 ≤ 2 * p.W * u ∧ 2 * p.W * u ≤ 16000 := ⟨Int.mul_nonneg (by omega) (by omega), by have := Int.mul_le_mul (show 2 * p.W ≤ 16 by omega) hu.2 (by omega) (by omega); omega⟩
  have m2 : 0 ≤ 2 * p.H * u ∧ 2 * p.H * u ≤ 16000 := ⟨Int.mul_nonneg (by omega) (by omega), by have := Int.mul_le_mul (show 2 * p.H ≤ 16 by omega) hu.2 (by omega) (by omega); omega⟩
  have z0 : w64 (0 - 0) = 0 := by decide
  have z1 : w64 (0 - d) = -d := by rw [w64_id (by omega) (by omega)]; omega
  have z2 : w64 (w64 (w64 (2 * p.W) * u) + 0) = 2 * p.W * u := by rw [w64_id (x := 2 * p.W) (by omega) (by omega), w64_id (x := 2 * p.W * u) (by omega) (by omega), Int.add_zero, w64_id (by omega) (by omega)]
  have z3 : w64 (w64 (w64 (2 * p.H) * u) + 0) = 2 * p.H * u := by rw [w64_id (x := 2 * p.H) (by omega) (by omega), w64_id (x := 2 * p.H * u) (by omega) (by omega), Int.add_zero, w64_id (by omega) (by omega)]
  have hdep : decide (L[k].Z < -d) = false := decide_eq_false (by have := hI.dep; omega)
  have hA : decide (L[k].Z < 0) = true → (decide (0 ≤ L[k].X) && decide (L[k].X ≤ 2 * p.W * u)) = true ∧ (decide (0 ≤ L[k].Y) && decide (L[k].Y ≤ 2 * p.H * u)) = true := fun h => by
    have hz : L[k].Z < 0 := by simpa using h
    have h3 := hI.px hz
    have h4 := hI.py hz
    simp only [Bool.and_eq_true, decide_eq_true_eq]
    exact ⟨h3, h4⟩
  by_cases h0 : k = 0
  · subst h0
    have hd0 : decide ((0 : Int) < ((0 : Nat) : Int)) = false := rfl
    simp only [sh59_1, sh107, h2, decide_true, cond_true, getI_lt hk, bindS, hw1, hd0, cond_false, z0, z1, z2, z3, hdep]
    revert hA
    generalize (decide (0 ≤ L[0].X) && decide (L[0].X ≤ 2 * p.W * u)) = A
    generalize (decide (0 ≤ L[0].Y) && decide (L[0].Y ≤ 2 * p.H * u)) = B
    generalize decide (L[0].Z < 0) = Z
    cases A <;> cases B <;> cases Z <;> first | (intro _; rfl) | (intro h; exact absurd (h rfl) (by decide))
  · have hd0 : decide ((0 : Int) < (k : Int)) = true := decide_eq_true (by omega)
    have hw2 : w64 ((k : Int) - 1) = ((k - 1 : Nat) : Int) := by rw [w64_id (by omega) (by omega)]; omega
    have hk1 : k - 1 < L.length := by omega
    have hO2 := hO (by omega)
    rw [List.getD_eq_getElem?_getD, List.getElem?_eq_getElem hk1] at hO2
    have hB : decide (L[k].Z < 0) = true → decide (0 ≤ L[k - 1].Z) = true → (L[k - 1].X != L[k].X) = false ∧ (L[k - 1].Y != L[k].Y) = false := fun h h' => by
      have := hO2 (by simpa using h) (by simpa using h')
      simp only [bne_eq_false_iff_eq]
      exact this
    simp only [sh59_1, sh107, h2, decide_true, cond_true, getI_lt hk, getI_lt hk1, bindS, hw1, hw2, hd0, z0, z1, z2, z3, hdep]
    revert hA hB
    generalize (decide (0 ≤ L[k].X) && decide (L[k].X ≤ 2 * p.W * u)) = A
    generalize (decide (0 ≤ L[k].Y) && decide (L[k].Y ≤ 2 * p.H * u)) = B
    generalize decide (L[k].Z < 0) = Z
    generalize decide (0 ≤ L[k - 1].Z) = P
    generalize (L[k - 1].X != L[k].X) = X
    generalize (L[k - 1].Y != L[k].Y) = Y
    cases A <;> cases B <;> cases Z <;> cases P <;> cases X <;> cases Y <;> first | (intro _ _; rfl) | (intro h h'; exact absurd (h rfl) (by decide)) | (intro h h'; exact absurd (h' rfl rfl) (by decide))
theorem check_val (p : SPanel) (L : List SToolMove) (u d : Int) (hp : panelB p = true) (hd : cutB d = true) (hu : unitB u = true) (hm : movesB L = true) (hI : ∀ k (hk : k < L.length), InM (2 * p.W * u) (2 * p.H * u) d L[k] ∧ (0 < k → OkM (L.getD (k - 1) ⟨0, 0, 0⟩) L[k])) : sh59 p L u 0 d = some (-1, 0) := by
  have hl := movesB_len hm
  have hb := (panelB_facts hp).2.2.2.2
  have hu2 := hu
  have hd2 := hd
  unfold unitB at hu2
  unfold cutB at hd2
  simp only [Bool.and_eq_true, decide_eq_true_eq] at hu2 hd2
  unfold sh59
  have hi := iter_steps (sb := sh59_1 p L u 0 d) (fun k => (k : Int)) L.length (x := .inl ()) (by omega) (fun k hk => ?_) ?_
  · simp only [Int.natCast_zero] at hi
    have hu0 : (decide (1 ≤ u) && decide (u ≤ 1000)) = true := hu
    have hd0 : (decide (1 ≤ d) && decide (d ≤ 500)) = true := hd
    rw [validPanel_eq p (by omega), hp, bindS, validMoves_eq L (by omega), hm]
    simp only [Bool.not_true, cond_false, bindS, sh143, sh96, sh107, hu0, hd0, cond_true, hi]
    rfl
  · exact cm_step p L u d hl hd2 hu2 (dim_of hp) k hk (hI k hk).1 (hI k hk).2
  · have hdd : decide ((L.length : Int) < (L.length : Int)) = false := by simp
    simp only [sh59_1, hdd, cond_false]
/-- One curve's moves, folded. -/
theorem block_fold {p : SPanel} (hp : panelB p = true) {c : List SWalker} (hc : Cyc p c) {u d s : Int} (hu : 1 ≤ u ∧ u ≤ 1000) (hd : 1 ≤ d ∧ d ≤ 500) (hs : 1 ≤ s ∧ s ≤ 500) (st : FS) (ho : st.ok) (hz : 0 ≤ st.last.Z) :
    ((carveL d s ((ptsOf c).map (upt u))).foldl (fwM (2 * p.W * u) (2 * p.H * u) d) st).ok ∧ ((carveL d s ((ptsOf c).map (upt u))).foldl (fwM (2 * p.W * u) (2 * p.H * u) d) st).sum = st.sum + (c.length : Int) * u + 2 * (d + s) ∧ 0 ≤ ((carveL d s ((ptsOf c).map (upt u))).foldl (fwM (2 * p.W * u) (2 * p.H * u) d) st).last.Z := by
  have hD := dim_of hp
  obtain ⟨w0, n, h0, h1, h2, h3, rfl⟩ := hc
  have zd : w64 (0 - d) = -d := by rw [w64_id (by omega) (by omega)]; omega
  have hlen : ((List.range n).map (orb p w0)).length = n := by simp
  have hq0 : (((ptsOf ((List.range n).map (orb p w0))).map (upt u)).getD 0 ⟨0, 0⟩) = upt u w0.At := by
    obtain ⟨m, rfl⟩ : ∃ m, n = m + 1 := ⟨n - 1, by omega⟩
    rw [List.range_succ_eq_map]
    rfl
  have e : carveL d s ((ptsOf ((List.range n).map (orb p w0))).map (upt u)) = mvT s (upt u w0.At) :: mvT (-d) (upt u w0.At) :: ((List.range n).map (fun i => mvT (-d) (upt u (orb p w0 (i + 1)).At)) ++ [mvT s (upt u w0.At)]) := by
    unfold carveL
    rw [hq0, zd]
    have e2 : ((ptsOf ((List.range n).map (orb p w0))).map (upt u)).map (mvT (-d)) ++ [mvT (-d) (upt u w0.At)] = mvT (-d) (upt u w0.At) :: (List.range n).map (fun i => mvT (-d) (upt u (orb p w0 (i + 1)).At)) := by
      have e3 : (List.range (n + 1)).map (fun i => mvT (-d) (upt u (orb p w0 i).At)) = ((ptsOf ((List.range n).map (orb p w0))).map (upt u)).map (mvT (-d)) ++ [mvT (-d) (upt u w0.At)] := by
        rw [range_snoc, h3]
        simp only [ptsOf, List.map_map]
        rfl
      rw [← e3, List.range_succ_eq_map, List.map_cons, List.map_map]
      rfl
    rw [List.append_assoc, show [mvT (-d) (upt u w0.At), mvT s (upt u w0.At)] = [mvT (-d) (upt u w0.At)] ++ [mvT s (upt u w0.At)] from rfl, ← List.append_assoc (List.map (mvT (-d)) _), e2]
    rfl
  have uv : ∀ i, upt u (orb p w0 i).At = ⟨(orb p w0 i).At.X * u, (orb p w0 i).At.Y * u⟩ ∧ (0 ≤ (orb p w0 i).At.X * u ∧ (orb p w0 i).At.X * u ≤ 2 * p.W * u) ∧ (0 ≤ (orb p w0 i).At.Y * u ∧ (orb p w0 i).At.Y * u ≤ 2 * p.H * u) := by
    intro i
    obtain ⟨_, _, k3, k4, _⟩ := orb_ok hD h0 i
    have b1 : 0 ≤ (orb p w0 i).At.X * u := Int.mul_nonneg k3.1 (by omega)
    have b2 : (orb p w0 i).At.X * u ≤ 2 * p.W * u := Int.mul_le_mul k3.2 (Int.le_refl _) (by omega) (by have := hD.w1; omega)
    have b3 : 0 ≤ (orb p w0 i).At.Y * u := Int.mul_nonneg k4.1 (by omega)
    have b4 : (orb p w0 i).At.Y * u ≤ 2 * p.H * u := Int.mul_le_mul k4.2 (Int.le_refl _) (by omega) (by have := hD.h1; omega)
    have b5 : 2 * p.W * u ≤ 16 * 1000 := Int.mul_le_mul (by have := hD.w2; omega) hu.2 (by omega) (by omega)
    have b6 : 2 * p.H * u ≤ 16 * 1000 := Int.mul_le_mul (by have := hD.h2; omega) hu.2 (by omega) (by omega)
    refine ⟨?_, ⟨b1, b2⟩, b3, b4⟩
    unfold upt
    rw [w64_id (by omega) (by omega), w64_id (by omega) (by omega)]
  have b5 : 2 * p.W * u ≤ 16 * 1000 := Int.mul_le_mul (by have := hD.w2; omega) hu.2 (by omega) (by omega)
  have b6 : 2 * p.H * u ≤ 16 * 1000 := Int.mul_le_mul (by have := hD.h2; omega) hu.2 (by omega) (by omega)
  have inD : ∀ i, InM (2 * p.W * u) (2 * p.H * u) d (mvT (-d) (upt u (orb p w0 i).At)) := by
    intro i
    obtain ⟨k1, k2, k3⟩ := uv i
    rw [k1]
    refine ⟨?_, fun _ => k2, fun _ => k3, Int.le_refl _⟩
    unfold moveB coB mvT
    simp only [Bool.and_eq_true, decide_eq_true_eq]
    omega
  have inS : InM (2 * p.W * u) (2 * p.H * u) d (mvT s (upt u w0.At)) := by
    obtain ⟨k1, k2, k3⟩ := uv 0
    have k1' : upt u w0.At = ⟨w0.At.X * u, w0.At.Y * u⟩ := k1
    have k2' : 0 ≤ w0.At.X * u ∧ w0.At.X * u ≤ 2 * p.W * u := k2
    have k3' : 0 ≤ w0.At.Y * u ∧ w0.At.Y * u ≤ 2 * p.H * u := k3
    rw [k1']
    refine ⟨?_, fun _ => k2', fun _ => k3', by show -d ≤ s; omega⟩
    unfold moveB coB mvT
    simp only [Bool.and_eq_true, decide_eq_true_eq]
    omega
  have wS : ∀ a : SToolMove, 0 ≤ a.Z → wtM a (mvT s (upt u w0.At)) = 0 := fun a ha => by
    unfold wtM
    exact if_neg (by rintro (h | h); · omega
                     · have h' : s < 0 := h; omega)
  have wD : ∀ x : SPoint, wtM (mvT s x) (mvT (-d) x) = d + s ∧ wtM (mvT (-d) x) (mvT s x) = d + s := by
    intro x
    have hz1 : (mvT s x).Z < 0 ∨ (mvT (-d) x).Z < 0 := .inr (show -d < 0 by omega)
    have e1 : dst s (-d) = d + s := by
      rw [dst_val (by omega) (by omega)]; unfold mx; split <;> omega
    have e2 : dst (-d) s = d + s := by
      rw [dst_val (by omega) (by omega)]; unfold mx; split <;> omega
    have em : mx (mx 0 0) (d + s) = d + s := by unfold mx; repeat' split
                                                all_goals omega
    constructor
    · unfold wtM
      rw [if_pos hz1]
      show mx (mx (dst x.X x.X) (dst x.Y x.Y)) (dst s (-d)) = _
      rw [dst_self, dst_self, e1, em]
    · unfold wtM
      rw [if_pos hz1.symm]
      show mx (mx (dst x.X x.X) (dst x.Y x.Y)) (dst (-d) s) = _
      rw [dst_self, dst_self, e2, em]
  have wP : ∀ i, wtM (mvT (-d) (upt u (orb p w0 i).At)) (mvT (-d) (upt u (orb p w0 (i + 1)).At)) = u := by
    intro i
    obtain ⟨k1, k2, k3⟩ := uv i
    obtain ⟨l1, l2, l3⟩ := uv (i + 1)
    obtain ⟨dx, dy, _⟩ := orb_ok hD h0 i
    have ax : (orb p w0 (i + 1)).At.X = (orb p w0 i).At.X + (orb p w0 i).DX := rfl
    have ay : (orb p w0 (i + 1)).At.Y = (orb p w0 i).At.Y + (orb p w0 i).DY := rfl
    rw [k1, l1]
    unfold wtM mvT
    rw [if_pos (.inl (show -d < 0 by omega))]
    simp only
    rw [dst_self, dst_val (by omega) (by omega), dst_val (by omega) (by omega), ax, ay, Int.add_mul, Int.add_mul]
    have ex : (orb p w0 i).DX * u = u ∨ (orb p w0 i).DX * u = -u := by rcases dx with h | h <;> rw [h] <;> omega
    have ey : (orb p w0 i).DY * u = u ∨ (orb p w0 i).DY * u = -u := by rcases dy with h | h <;> rw [h] <;> omega
    unfold mx
    rcases ex with h | h <;> rcases ey with h' | h' <;> rw [h, h'] <;> (repeat' split) <;> omega
  have run : ∀ (k : Nat) (t : FS), t.ok → t.last = mvT (-d) (upt u w0.At) → (((List.range k).map (fun i => mvT (-d) (upt u (orb p w0 (i + 1)).At))).foldl (fwM (2 * p.W * u) (2 * p.H * u) d) t).ok ∧ (((List.range k).map (fun i => mvT (-d) (upt u (orb p w0 (i + 1)).At))).foldl (fwM (2 * p.W * u) (2 * p.H * u) d) t).sum = t.sum + (k : Int) * u ∧ (((List.range k).map (fun i => mvT (-d) (upt u (orb p w0 (i + 1)).At))).foldl (fwM (2 * p.W * u) (2 * p.H * u) d) t).last = mvT (-d) (upt u (orb p w0 k).At) := by
    intro k t hto htl
    induction k with
    | zero => exact ⟨hto, by simp, htl⟩
    | succ k ih =>
      obtain ⟨i1, i2, i3⟩ := ih
      rw [range_snoc, List.foldl_append, List.foldl_cons, List.foldl_nil]
      refine ⟨⟨i1, inD (k + 1), ?_⟩, ?_, rfl⟩
      · rw [i3]
        intro _ h
        have h' : 0 ≤ -d := h
        omega
      · show _ + wtM _ _ = _
        rw [i2, i3, wP k]
        rw [Int.natCast_add, Int.add_mul]
        omega
  rw [e, List.foldl_cons, List.foldl_cons, List.foldl_append, List.foldl_cons, List.foldl_nil, hlen]
  obtain ⟨r1, r2, r3⟩ := run n (fwM (2 * p.W * u) (2 * p.H * u) d (fwM (2 * p.W * u) (2 * p.H * u) d st (mvT s (upt u w0.At))) (mvT (-d) (upt u w0.At))) ⟨⟨ho, inS, fun h => by have h' : s < 0 := h; omega⟩, inD 0, fun _ _ => ⟨rfl, rfl⟩⟩ rfl
  rw [h3] at r3
  refine ⟨⟨r1, inS, fun h => by have h' : s < 0 := h; omega⟩, ?_, show 0 ≤ s by omega⟩
  show _ + wtM _ _ = _
  rw [r2, r3, (wD _).2]
  show st.sum + wtM _ _ + wtM _ _ + _ + _ = _
  rw [wS _ hz]
  have := (wD (upt u w0.At)).1
  show st.sum + 0 + wtM (mvT s (upt u w0.At)) (mvT (-d) (upt u w0.At)) + _ + _ = _
  rw [this]
  omega
def lenAt (cs : List (List SWalker)) (x : Int) : Int := ((cs.getD x.toNat []).length : Int)
theorem all_fold {p : SPanel} (hp : panelB p = true) {cs : List (List SWalker)} (hcy : ∀ c ∈ cs, Cyc p c) {u d s : Int} (hu : 1 ≤ u ∧ u ≤ 1000) (hd : 1 ≤ d ∧ d ≤ 500) (hs : 1 ≤ s ∧ s ≤ 500) : ∀ (o : List Int), (∀ x ∈ o, ∃ k : Nat, x = k ∧ k < cs.length) → ∀ (st : FS), st.ok → 0 ≤ st.last.Z →
    ((carveAll u d s (cs.map ptsOf) o).foldl (fwM (2 * p.W * u) (2 * p.H * u) d) st).ok ∧ ((carveAll u d s (cs.map ptsOf) o).foldl (fwM (2 * p.W * u) (2 * p.H * u) d) st).sum = st.sum + ((o.map (lenAt cs)).sum * u + (o.length : Int) * (2 * (d + s))) ∧ ((carveAll u d s (cs.map ptsOf) o).length : Int) = (o.map (lenAt cs)).sum + 3 * (o.length : Int)
  | [], _, st, h1, _ => by simp [carveAll, h1]
  | x :: o, hx, st, h1, h2 => by
    obtain ⟨k, rfl, hk⟩ := hx x (List.mem_cons_self ..)
    have hm := getD_mem3 (cs := cs) hk
    obtain ⟨b1, b2, b3⟩ := block_fold hp (hcy _ hm.1) hu hd hs st h1 h2
    obtain ⟨c1, c2, c3⟩ := all_fold hp hcy hu hd hs o (fun y hy => hx y (List.mem_cons_of_mem _ hy)) _ b1 b3
    have e : carveAll u d s (cs.map ptsOf) ((k : Int) :: o) = carveL d s ((ptsOf (cs.getD k [])).map (upt u)) ++ carveAll u d s (cs.map ptsOf) o := by
      unfold carveAll
      rw [List.flatMap_cons, Int.toNat_natCast, getD_map_pts]
    have el : lenAt cs (k : Int) = ((cs.getD k []).length : Int) := by unfold lenAt; rw [Int.toNat_natCast]
    rw [e, List.foldl_append]
    refine ⟨c1, ?_, ?_⟩
    · rw [c2, b2, List.map_cons, List.sum_cons, List.length_cons, el, Int.add_mul, Int.natCast_add, Int.add_mul]
      simp only [Int.natCast_one, Int.one_mul]
      omega
    · rw [List.length_append, carveL_len, Int.natCast_add, c3, List.map_cons, List.sum_cons, List.length_cons, el]
      simp only [ptsOf, List.length_map]
      omega
/-! a list that has each number once -/
def cntR (o : List Int) (k : Nat) : Int := ((o.count (k : Int) : Nat) : Int)
def addR (f : Nat → Int) : Nat → Int
  | 0 => 0
  | n + 1 => addR f n + f n
theorem addR_add (f g : Nat → Int) : ∀ n, addR (fun k => f k + g k) n = addR f n + addR g n
  | 0 => rfl
  | n + 1 => by unfold addR; rw [addR_add f g n]; omega
theorem addR_congr {f g : Nat → Int} : ∀ n, (∀ k, k < n → f k = g k) → addR f n = addR g n
  | 0, _ => rfl
  | n + 1, h => by unfold addR; rw [addR_congr n (fun k hk => h k (by omega)), h n (by omega)]
theorem addR_one (g : Nat → Int) (j : Nat) : ∀ n, addR (fun k => if k = j then g k else 0) n = if j < n then g j else 0
  | 0 => rfl
  | n + 1 => by
    unfold addR
    rw [addR_one g j n]
    by_cases h : j < n
    · rw [if_pos h, if_neg (show ¬ n = j by omega), if_pos (show j < n + 1 by omega)]; omega
    · rw [if_neg h]
      by_cases h2 : n = j
      · subst h2; rw [if_pos rfl, if_pos (Nat.lt_succ_self _)]; omega
      · rw [if_neg h2, if_neg (show ¬ j < n + 1 by omega)]; rfl
theorem sum_cnt (g : Nat → Int) (n : Nat) : ∀ (o : List Int), (∀ x ∈ o, ∃ k : Nat, x = k ∧ k < n) → (o.map (fun x => g x.toNat)).sum = addR (fun k => cntR o k * g k) n
  | [], _ => by
    have : addR (fun k => cntR [] k * g k) n = addR (fun _ => 0) n := addR_congr n (fun k _ => by simp [cntR])
    rw [this]
    clear this
    induction n with
    | zero => rfl
    | succ n ih =>
      unfold addR
      have := ih (by simp)
      simp only [List.map_nil, List.sum_nil] at this ⊢
      omega
  | x :: o, h => by
    obtain ⟨j, rfl, hj⟩ := h x (List.mem_cons_self ..)
    have ih := sum_cnt g n o (fun y hy => h y (List.mem_cons_of_mem _ hy))
    have e : addR (fun k => cntR ((j : Int) :: o) k * g k) n = addR (fun k => cntR o k * g k + if k = j then g k else 0) n := by
      refine addR_congr n (fun k _ => ?_)
      unfold cntR
      rw [List.count_cons]
      by_cases hk : k = j
      · subst hk
        simp [Int.add_mul]
      · have : ¬ (j : Int) = (k : Int) := by omega
        simp [hk, this]
    rw [List.map_cons, List.sum_cons, ih, e, addR_add, addR_one, if_pos hj, Int.toNat_natCast]
    omega
theorem addR_le {f : Nat → Int} : ∀ n, (∀ k, k < n → f k ≤ 1) → addR f n ≤ n
  | 0, _ => by simp [addR]
  | n + 1, h => by
    have := addR_le n (fun k hk => h k (by omega))
    have := h n (by omega)
    unfold addR
    omega
theorem addR_full {f : Nat → Int} : ∀ n, (∀ k, k < n → f k ≤ 1) → addR f n = n → ∀ k, k < n → f k = 1
  | 0, _, _, k, hk => by omega
  | n + 1, h, he, k, hk => by
    have h1 := addR_le n (fun k hk => h k (by omega))
    have h2 := h n (by omega)
    unfold addR at he
    by_cases hkn : k = n
    · subst hkn; omega
    · exact addR_full n (fun k hk => h k (by omega)) (by omega) k (by omega)
theorem once_sum (g : Nat → Int) (n : Nat) (o : List Int) (hl : o.length = n) (hn : o.Nodup) (ho : ∀ x ∈ o, ∃ k : Nat, x = k ∧ k < n) : (o.map (fun x => g x.toNat)).sum = addR g n := by
  have h1 := sum_cnt (fun _ => 1) n o ho
  have e1 : ∀ l : List Int, (l.map (fun _ => (1 : Int))).sum = l.length := by
    intro l
    induction l with
    | nil => rfl
    | cons a l ih => rw [List.map_cons, List.sum_cons, ih, List.length_cons]; omega
  rw [e1, hl] at h1
  have h2 : addR (cntR o) n = n := by rw [h1]; exact addR_congr n (fun k _ => by omega)
  have h3 : ∀ k, k < n → cntR o k = 1 := addR_full n (fun k _ => by
    have := List.nodup_iff_count.1 hn (k : Int)
    unfold cntR; omega) h2
  rw [sum_cnt g n o ho]
  exact addR_congr n (fun k hk => by rw [h3 k hk]; omega)
theorem addR_list : ∀ (cs : List (List SWalker)), addR (fun k => ((cs.getD k []).length : Int)) cs.length = (((cs.map List.length).sum : Nat) : Int) := by
  intro cs
  have key : ∀ n, n ≤ cs.length → addR (fun k => ((cs.getD k []).length : Int)) n = ((((cs.take n).map List.length).sum : Nat) : Int) := by
    intro n hn
    induction n with
    | zero => rfl
    | succ n ih =>
      have hnl : n < cs.length := by omega
      unfold addR
      rw [ih (by omega), List.take_succ_eq_append_getElem hnl, List.getD_eq_getElem?_getD, List.getElem?_eq_getElem hnl, List.map_append, List.sum_append]
      simp only [Option.getD_some, List.map_cons, List.map_nil, List.sum_cons, List.sum_nil]
      omega
  have := key cs.length (Nat.le_refl _)
  rw [List.take_length] at this
  exact this
theorem tr_sum {p : SPanel} {cs : List (List SWalker)} {of : List Int} (ht : Tr p cs of (NS p)) : (cs.map List.length).sum = NS p := by
  have h1 := ht.sum
  have h2 : negs of = 0 := by
    unfold negs
    rw [List.countP_eq_zero]
    intro x hx
    obtain ⟨j, hj, rfl⟩ := List.getElem_of_mem hx
    have hl := ht.len
    have := ht.own j (by omega)
    rw [List.getD_eq_getElem?_getD, List.getElem?_eq_getElem hj] at this
    simpa using this
  omega
theorem two_sum {p : SPanel} : ∀ (cs : List (List SWalker)), (∀ c ∈ cs, 2 ≤ c.length) → 2 * cs.length ≤ (cs.map List.length).sum
  | [], _ => by simp
  | c :: cs, h => by
    have h1 := two_sum (p := p) cs (fun x hx => h x (List.mem_cons_of_mem _ hx))
    have h2 := h c (List.mem_cons_self ..)
    rw [List.map_cons, List.sum_cons, List.length_cons]; omega
theorem cyc_two' {p : SPanel} {c : List SWalker} (h : Cyc p c) : 2 ≤ c.length := by
  obtain ⟨w0, n, h1, h2, h3, h4, rfl⟩ := h
  rw [List.length_map, List.length_range]
  rcases Nat.lt_or_ge n 2 with h | h
  · exfalso
    have : n = 1 := by omega
    subst this
    have e : (stp p w0).At.X = w0.At.X := by
      have h5 : stp p w0 = w0 := h4
      rw [h5]
    have e2 : (stp p w0).At.X = w0.At.X + w0.DX := rfl
    have := h1.1
    omega
  · exact h
theorem carve_inv (p : SPanel) (u d s : Int) (hb : p.Breaks.length ≤ 1048576) {r : List SToolMove × Int} (hr : sh50 p u d s = some r) (h0 : r.2 = 0) : panelB p = true ∧ unitB u = true ∧ cutB d = true ∧ cutB s = true := by
  have hv : sh143 u d s = some ((unitB u && cutB d) && cutB s) := by
    unfold sh143 sh96 sh107 unitB cutB
    simp only [bindS]
    cases (decide (1 ≤ u) && decide (u ≤ 1000)) <;> cases (decide (1 ≤ d) && decide (d ≤ 500)) <;> rfl
  unfold sh50 at hr
  rw [validPanel_eq p hb, bindS, hv, bindS] at hr
  cases hp : panelB p
  · rw [hp] at hr
    have := Option.some.inj hr
    rw [← this] at h0; cases h0
  · cases hc : (unitB u && cutB d) && cutB s
    · rw [hp, hc] at hr
      have := Option.some.inj hr
      rw [← this] at h0; cases h0
    · simp only [Bool.and_eq_true] at hc
      exact ⟨rfl, hc.1.1, hc.1.2, hc.2⟩
/-- What the law asks of a carved panel. -/
theorem carved_ok (p : SPanel) (u d s : Int) (hp : panelB p = true) (hu : unitB u = true) (hd : cutB d = true) (hs : cutB s = true) {L : List SToolMove} (hL : sh51 p u d s = some (L, 0)) : ∃ n : Int, sh62 p = some (n, 0) ∧ sh63 L = some (w64 (w64 (w64 (w64 (4 * p.W) * p.H) * u) + w64 (w64 (2 * n) * w64 (d + s))), 0) ∧ sh59 p L u 0 d = some (-1, 0) ∧ (L.length : Int) = w64 (w64 (w64 (4 * p.W) * p.H) + w64 (3 * n)) := by
  have hD := dim_of hp
  have hb := (panelB_facts hp).2.2.2.2
  obtain ⟨cs, of, o, g1, ht, g2, g3, g4, g5, g6, g7⟩ := panelS_val p u d s hp hu hd hs
  have hLe : L = carveAll u d s (cs.map ptsOf) o := by
    rw [g2] at hL
    exact (congrArg Prod.fst (Option.some.inj hL)).symm
  have hu2 := hu
  have hd2 := hd
  have hs2 := hs
  unfold unitB at hu2
  unfold cutB at hd2 hs2
  simp only [Bool.and_eq_true, decide_eq_true_eq] at hu2 hd2 hs2
  have hN := NS_eq hD
  have hsum := tr_sum ht
  have htwo := two_sum (p := p) cs (fun c hc => cyc_two' (ht.cyc c hc))
  obtain ⟨f1, f2, f3⟩ := all_fold hp ht.cyc hu2 hd2 hs2 o g5 ⟨0, True, mvT s ⟨0, 0⟩⟩ trivial (show 0 ≤ s by omega)
  have hos : (o.map (lenAt cs)).sum = (NS p : Int) := by
    have := once_sum (fun k => ((cs.getD k []).length : Int)) cs.length o g3 g4 g5
    rw [addR_list, hsum] at this
    exact this
  rw [← hLe] at f1 f2 f3
  rw [hos, g3] at f2 f3
  have hLl : L.length ≤ 700 := by omega
  obtain ⟨_, hall⟩ := fw_all L _ f1
  have hmv : movesB L = true := by
    unfold movesB
    rw [Bool.and_eq_true, List.all_eq_true]
    refine ⟨fun x hx => ?_, decide_eq_true hLl⟩
    obtain ⟨k, hk, rfl⟩ := List.getElem_of_mem hx
    exact (hall k hk).1.rng
  have hns := seg_n hD
  have m0 : 0 ≤ (NS p : Int) * u ∧ (NS p : Int) * u ≤ 256 * 1000 := ⟨Int.mul_nonneg (by omega) (by omega), Int.mul_le_mul (by omega) hu2.2 (by omega) (by omega)⟩
  have m1 : 0 ≤ (cs.length : Int) * (2 * (d + s)) ∧ (cs.length : Int) * (2 * (d + s)) ≤ 256 * 2000 := ⟨Int.mul_nonneg (by omega) (by omega), Int.mul_le_mul (by omega) (by omega) (by omega) (by omega)⟩
  have m2 : 2 * (cs.length : Int) * (d + s) = (cs.length : Int) * (2 * (d + s)) := by rw [Int.mul_comm 2, Int.mul_assoc]
  refine ⟨(cs.length : Int), ?_, ?_, ?_, ?_⟩
  · unfold sh62 sh153
    rw [l02Ok_eq p (by omega), hp, bindS, g1, bindS, List.length_map]
    rfl
  · cases hLc : L with
    | nil => rw [hLc] at f3; simp at f3; omega
    | cons a t =>
      rw [hLc] at hmv f2 hall
      rw [cut_len a t hmv]
      have hz : 0 ≤ a.Z := by
        have h1 := (hall 0 (by simp)).2
        have e : ((mvT s ⟨0, 0⟩ :: a :: t).getD 0 ⟨0, 0, 0⟩) = mvT s ⟨0, 0⟩ := rfl
        have hh : a = (carveAll u d s (cs.map ptsOf) o).getD 0 ⟨0, 0, 0⟩ := by rw [← hLe, hLc]; rfl
        cases ho : o with
        | nil => rw [ho] at g3; simp at g3; omega
        | cons x o' =>
          rw [hh, ho]
          show 0 ≤ s
          omega
      have hw : ∀ (l : List SToolMove) (s1 s2 : FS) (lx ly dd : Int), s1.last = s2.last → (l.foldl (fwM lx ly dd) s1).sum - s1.sum = (l.foldl (fwM 0 0 0) s2).sum - s2.sum := by
        intro l
        induction l with
        | nil => intro s1 s2 lx ly dd _; simp
        | cons x l ih =>
          intro s1 s2 lx ly dd h
          have := ih (fwM lx ly dd s1 x) (fwM 0 0 0 s2 x) lx ly dd rfl
          rw [List.foldl_cons, List.foldl_cons]
          have e1 : (fwM lx ly dd s1 x).sum = s1.sum + wtM s1.last x := rfl
          have e2 : (fwM 0 0 0 s2 x).sum = s2.sum + wtM s2.last x := rfl
          rw [e1, e2, h] at this
          omega
      rw [List.foldl_cons] at f2
      have hf := hw t (fwM (2 * p.W * u) (2 * p.H * u) d ⟨0, True, mvT s ⟨0, 0⟩⟩ a) ⟨0, True, a⟩ (2 * p.W * u) (2 * p.H * u) d rfl
      have e0 : (fwM (2 * p.W * u) (2 * p.H * u) d ⟨0, True, mvT s ⟨0, 0⟩⟩ a).sum = 0 := by
        show 0 + wtM (mvT s ⟨0, 0⟩) a = 0
        unfold wtM
        rw [if_neg (by rintro (h | h); · have h' : s < 0 := h; omega
                       · omega)]
        rfl
      rw [e0] at hf
      have et : (t.foldl (fwM 0 0 0) ⟨0, True, a⟩).sum = (NS p : Int) * u + (cs.length : Int) * (2 * (d + s)) := by
        have : (⟨0, True, a⟩ : FS).sum = 0 := rfl
        rw [this] at hf
        have h0 : (⟨0, True, mvT s ⟨0, 0⟩⟩ : FS).sum = 0 := rfl
        rw [h0] at f2
        omega
      rw [et, hns, w64_id (x := d + s) (by omega) (by omega), w64_id (x := 2 * (cs.length : Int)) (by omega) (by omega), m2, w64_id (x := (NS p : Int) * u) (by omega) (by omega), w64_id (x := (cs.length : Int) * (2 * (d + s))) (by omega) (by omega), w64_id (by omega) (by omega)]
  · refine check_val p L u d hp hd hu hmv (fun k hk => ⟨(hall k hk).1, fun h0 => ?_⟩)
    have h1 := (hall k hk).2
    obtain ⟨j, rfl⟩ : ∃ j, k = j + 1 := ⟨k - 1, by omega⟩
    rw [List.getD_cons_succ] at h1
    exact h1
  · rw [hns, w64_id (x := 3 * (cs.length : Int)) (by omega) (by omega), w64_id (by omega) (by omega)]
    exact f3

/-! src -/
/-- Bytes from which is drawn. -/
def srcB (c : List Int) : Prop := ∀ x ∈ c, 0 ≤ x ∧ x ≤ 255
theorem okI_u8 {x : Int} (h : okI .u8 x) : 0 ≤ x ∧ x ≤ 255 := by
  unfold okI Lit.wf at h
  simp only [Bool.and_eq_true, decide_eq_true_eq] at h
  have h1 : IntKind.u8.min = 0 := by decide
  have h2 : IntKind.u8.max = 255 := by decide
  rw [h1, h2] at h
  exact h
theorem srcB_of {c : List Int} (h : ∀ y ∈ c, okI .u8 y) : srcB c := fun x hx => okI_u8 (h x hx)
theorem andI_255 (a : Int) : 0 ≤ andI .u64 a 255 ∧ andI .u64 a 255 ≤ 255 := by
  unfold andI
  have hle : (BitVec.ofInt IntKind.u64.bits a &&& BitVec.ofInt IntKind.u64.bits 255).toNat ≤ 255 := by
    rw [BitVec.toNat_and]
    refine Nat.le_trans Nat.and_le_right ?_
    decide
  rw [IntKind.wrap_u64]
  omega
theorem next_ok (q : Sl00Src) (hc : srcB q.code) (h0 : 0 ≤ q.at_) (h1 : q.at_ ≤ 4611686018427387904) :
    ∃ r, sh173 q = some r ∧ (0 ≤ r.1 ∧ r.1 ≤ 255) ∧ 0 ≤ r.2.1 ∧ r.2.1 ≤ q.at_ + 1 := by
  unfold sh173
  have hw : w64 (q.at_ + 1) = q.at_ + 1 := w64_id (by omega) (by omega)
  have hfin : ∀ b : Int, 0 ≤ b ∧ b ≤ 255 → ∀ s t : Int, ∃ r, (bif decide (w64 (q.at_ + 1) ≤ (q.code.length : Int)) then some (b, w64 (q.at_ + 1), s) else some (w64 (andI .u64 t 255), w64 (q.at_ + 1), s)) = some r ∧ (0 ≤ r.1 ∧ r.1 ≤ 255) ∧ 0 ≤ r.2.1 ∧ r.2.1 ≤ q.at_ + 1 := by
    intro b hb s t
    have ha := andI_255 t
    have hwa : w64 (andI .u64 t 255) = andI .u64 t 255 := w64_id (by omega) (by omega)
    rw [hw, hwa]
    cases decide (q.at_ + 1 ≤ (q.code.length : Int))
    · exact ⟨_, rfl, ha, by simp only; omega, by simp only; omega⟩
    · exact ⟨_, rfl, hb, by simp only; omega, by simp only; omega⟩
  by_cases hl : q.at_ < (q.code.length : Int)
  · have hn : q.at_.toNat < q.code.length := by omega
    have hb := hc _ (List.getElem_mem hn)
    rw [decide_eq_true hl, cond_true, getI_toNat h0 hn, bindS, w64_id (by omega) (by omega), bindS]
    exact hfin _ hb _ _
  · rw [decide_eq_false hl, cond_false, bindS]
    exact hfin 0 (by omega) _ _
theorem pick_ok (q : Sl00Src) (n : Int) (hc : srcB q.code) (h0 : 0 ≤ q.at_) (h1 : q.at_ ≤ 2305843009213693952) :
    ∃ r, sh92 q n = some r ∧ (0 ≤ r.1 ∧ (r.1 < n ∨ r.1 = 0)) ∧ 0 ≤ r.2.1 ∧ r.2.1 ≤ q.at_ + 2 := by
  unfold sh92
  by_cases hn : n ≤ 1
  · rw [decide_eq_true hn, cond_true]
    exact ⟨_, rfl, by simp, h0, by simp only; omega⟩
  · rw [decide_eq_false hn, cond_false]
    obtain ⟨x, e, b, a0, a1⟩ := next_ok q hc h0 (by omega)
    rw [e, bindS]
    have hmod : ∀ z : Int, 0 ≤ z → 0 ≤ z.tmod n ∧ z.tmod n < n := fun z hz => by
      rw [Int.tmod_eq_emod_of_nonneg hz]
      exact ⟨Int.emod_nonneg _ (by omega), Int.emod_lt_of_pos _ (by omega)⟩
    by_cases hb : 200 < n
    · obtain ⟨y, e2, b2, c0, c1⟩ := next_ok ⟨q.code, x.2.1, x.2.2⟩ hc a0 (by simp only; omega)
      rw [decide_eq_true hb, cond_true, e2, bindS, bindS, nzI_ok (by omega), bindS]
      simp only at c1
      rw [w64_id (x := x.1 * 256) (by omega) (by omega), w64_id (by omega) (by omega)]
      have := hmod (x.1 * 256 + y.1) (by omega)
      exact ⟨_, rfl, ⟨this.1, .inl this.2⟩, c0, by simp only; omega⟩
    · rw [decide_eq_false hb, cond_false, bindS, nzI_ok (by omega), bindS]
      have := hmod x.1 b.1
      exact ⟨_, rfl, ⟨this.1, .inl this.2⟩, a0, by simp only; omega⟩
theorem one_ok (q : Sl00Src) (n : Int) (hc : srcB q.code) (h0 : 0 ≤ q.at_) (h1 : q.at_ ≤ 2305843009213693952) :
    ∃ r, sh93 q n = some r ∧ 0 ≤ r.2.1 ∧ r.2.1 ≤ q.at_ + 2 := by
  unfold sh93
  obtain ⟨x, e, _, a0, a1⟩ := pick_ok q n hc h0 h1
  rw [e, bindS]
  exact ⟨_, rfl, a0, a1⟩
theorem among_ok (q : Sl00Src) (l : List Int) (hc : srcB q.code) (h0 : 0 ≤ q.at_) (h1 : q.at_ ≤ 2305843009213693952) (hl : 0 < l.length) :
    ∃ r, sh94 q l = some r ∧ r.1 ∈ l ∧ 0 ≤ r.2.1 ∧ r.2.1 ≤ q.at_ + 2 := by
  unfold sh94
  obtain ⟨x, e, b, a0, a1⟩ := pick_ok q l.length hc h0 h1
  have hx : x.1.toNat < l.length := by omega
  rw [e, bindS, getI_toNat b.1 hx, bindS]
  exact ⟨_, rfl, List.getElem_mem hx, a0, a1⟩
theorem f6big_eq (c : List Int) (h : c.length ≤ 9223372036854775807) : sh9 c = some (decide (4096 < c.length)) := by
  unfold sh9
  congr 1
  simp only [decide_eq_decide]; omega

/-! draw02 -/
theorem l02New_ok (w h : Int) (hw : 1 ≤ w ∧ w ≤ 8) (hh : 1 ≤ h ∧ h ≤ 8) : ∃ r, sh184 w h = some r ∧ r.W = w ∧ r.H = h ∧ (∀ x ∈ r.Breaks, x = 0) ∧ panelB r = true := by
  unfold sh184 sh202
  have hb1 : 0 ≤ w * (h - 1) ∧ w * (h - 1) ≤ 56 := by
    have h1 : 0 ≤ w * (h - 1) := Int.mul_nonneg (by omega) (by omega)
    have h2 : w * (h - 1) ≤ 8 * (h - 1) := Int.mul_le_mul_of_nonneg_right (by omega) (by omega)
    omega
  have hb2 : 0 ≤ h * (w - 1) ∧ h * (w - 1) ≤ 56 := by
    have h1 : 0 ≤ h * (w - 1) := Int.mul_nonneg (by omega) (by omega)
    have h2 : h * (w - 1) ≤ 8 * (w - 1) := Int.mul_le_mul_of_nonneg_right (by omega) (by omega)
    omega
  have e : w64 (w64 (w * w64 (h - 1)) + w64 (h * w64 (w - 1))) = ((w * (h - 1) + h * (w - 1)).toNat : Int) := by
    rw [w64_id (x := h - 1) (by omega) (by omega), w64_id (x := w - 1) (by omega) (by omega), w64_id (x := w * (h - 1)) (by omega) (by omega), w64_id (x := h * (w - 1)) (by omega) (by omega), w64_id (by omega) (by omega)]
    omega
  simp only [bindS]
  rw [e, mkL_ok (by omega), bindS]
  refine ⟨_, rfl, rfl, rfl, fun x hx => List.eq_of_mem_replicate hx, ?_⟩
  unfold panelB
  simp only [List.length_replicate, Bool.and_eq_true, beq_iff_eq, List.all_eq_true]
  refine ⟨⟨?_, ?_⟩, ?_, fun x hx => ?_⟩
  · unfold sideB; simp [hw.1, hw.2]
  · unfold sideB; simp [hh.1, hh.2]
  · unfold innerN; rw [e]
  · rw [List.eq_of_mem_replicate hx]; rfl
theorem panelB_of {w h : Int} {b b' : List Int} (hp : panelB ⟨w, h, b⟩ = true) (hl : b'.length = b.length) (hx : ∀ x ∈ b', 0 ≤ x ∧ x ≤ 2) : panelB ⟨w, h, b'⟩ = true := by
  unfold panelB at hp ⊢
  simp only [Bool.and_eq_true, List.all_eq_true, hl] at hp ⊢
  refine ⟨hp.1, hp.2.1, fun x hm => ?_⟩
  unfold brkB; simp [(hx x hm).1, (hx x hm).2]
theorem draw02_ok (q : Sl00Src) (n : Int) (hn : 1 ≤ n ∧ n ≤ 8) (hc : srcB q.code) (h0 : 0 ≤ q.at_) (h1 : q.at_ ≤ 1099511627776) :
    ∃ r, sh183 q n = some r ∧ panelB r.1 = true ∧ (r.1.W ≤ n ∧ r.1.H ≤ n) ∧ 0 ≤ r.2.1 ∧ r.2.1 ≤ q.at_ + 1000 := by
  unfold sh183
  obtain ⟨x3, e3, b3, a3, c3⟩ := pick_ok q n hc h0 (by omega)
  rw [e3, bindS]
  obtain ⟨x4, e4, b4, a4, c4⟩ := pick_ok ⟨q.code, x3.2.1, x3.2.2⟩ n hc a3 (by simp only; omega)
  rw [e4, bindS, w64_id (x := 1 + x3.1) (by omega) (by omega), w64_id (x := 1 + x4.1) (by omega) (by omega)]
  simp only at c4
  obtain ⟨x5, e5, w5, h5, z5, p5⟩ := l02New_ok (1 + x3.1) (1 + x4.1) ⟨by omega, by omega⟩ ⟨by omega, by omega⟩
  rw [e5, bindS]
  obtain ⟨x11, e11, b11, a11, c11⟩ := pick_ok ⟨q.code, x4.2.1, x4.2.2⟩ 4 hc a4 (by simp only; omega)
  rw [e11, bindS]
  simp only at c11
  have hbl : x5.Breaks.length ≤ 112 := (panelB_facts p5).2.2.2.2
  have hi := iter_inv (sb := sh183_1 q x5 x11) (s0 := (0, (x11.2.1, x11.2.2), x5.Breaks)) (fun s => 0 ≤ s.1 ∧ s.1 ≤ x5.Breaks.length ∧ s.2.2.length = x5.Breaks.length ∧ (∀ x ∈ s.2.2, 0 ≤ x ∧ x ≤ 2) ∧ 0 ≤ s.2.1.1 ∧ s.2.1.1 ≤ q.at_ + 6 + 4 * s.1) (fun s => ((x5.Breaks.length : Int) - s.1).toNat)
    (fun s => s.2.length = x5.Breaks.length ∧ (∀ x ∈ s.2, 0 ≤ x ∧ x ≤ 2) ∧ 0 ≤ s.1.1 ∧ s.1.1 ≤ q.at_ + 600) ⟨by simp, by simp, rfl, fun x hx => by rw [z5 x hx]; omega, a11, by simp only; omega⟩ (by simp only; omega) (by
    rintro ⟨k, ⟨a, sd⟩, l⟩ ⟨i1, i2, i3, i4, i5, i6⟩
    simp only at i1 i2 i3 i4 i5 i6
    by_cases hk : k < x5.Breaks.length
    · left
      have hkd : k < ((x5.Breaks.length : Nat) : Int) := hk
      simp only [sh183_1, hkd, decide_true, cond_true]
      obtain ⟨y, g, n1, m, n2⟩ := pick_ok ⟨q.code, a, sd⟩ 4 hc i5 (by simp only; omega)
      simp only at n2
      rw [g, bindS]
      by_cases hlt : y.1 < x11.1
      · obtain ⟨y2, g2, n3, m2, n4⟩ := pick_ok ⟨q.code, y.2.1, y.2.2⟩ 2 hc m (by simp only; omega)
        simp only at n4
        rw [decide_eq_true hlt, cond_true, g2, bindS, getI_toNat i1 (by omega), bindS, bindS, w64_id (x := k + 1) (by omega) (by omega), w64_id (x := 1 + y2.1) (by omega) (by omega)]
        refine ⟨_, rfl, ⟨by simp only; omega, by simp only; omega, by simp only [List.length_set]; omega, fun x hx => ?_, m2, by simp only; omega⟩, by simp only; omega⟩
        rcases List.mem_or_eq_of_mem_set hx with h | h
        · exact i4 x h
        · rw [h]; omega
      · rw [decide_eq_false hlt, cond_false, bindS, w64_id (x := k + 1) (by omega) (by omega)]
        exact ⟨_, rfl, ⟨by simp only; omega, by simp only; omega, i3, i4, m, by simp only; omega⟩, by simp only; omega⟩
    · right
      have hkd : ¬ k < ((x5.Breaks.length : Nat) : Int) := hk
      simp only [sh183_1, hkd, decide_false, cond_false]
      exact ⟨_, rfl, i3, i4, i5, by simp only; omega⟩)
  obtain ⟨b, hb, d1, d2, d3, d4⟩ := hi
  rw [hb, bindS]
  refine ⟨_, rfl, panelB_of (b := x5.Breaks) (by exact p5) d1 d2, ⟨by simp only [w5]; omega, by simp only [h5]; omega⟩, d3, by simp only; omega⟩
theorem bent02_ok (q : Sl00Src) (hc : srcB q.code) (h0 : 0 ≤ q.at_) (h1 : q.at_ ≤ 549755813888) :
    ∃ r, sh118 q = some r ∧ r.1.Breaks.length ≤ 200 ∧ 0 ≤ r.2.1 ∧ r.2.1 ≤ q.at_ + 1100 := by
  unfold sh118
  obtain ⟨x3, e3, b3, _, a3, c3⟩ := draw02_ok q 5 (by omega) hc h0 (by omega)
  have hbl : x3.1.Breaks.length ≤ 112 := (panelB_facts b3).2.2.2.2
  rw [e3, bindS]
  obtain ⟨x, e, b, a, c⟩ := pick_ok ⟨q.code, x3.2.1, x3.2.2⟩ 20 hc a3 (by simp only; omega)
  rw [e, bindS]
  simp only at c
  cases x.1 == 0
  · rw [cond_false]
    cases x.1 == 1
    · rw [cond_false]
      cases x.1 == 2
      · rw [cond_false]
        cases x.1 == 3
        · rw [cond_false]
          simp only [bindS]
          exact ⟨_, rfl, by simp only; omega, a, by simp only; omega⟩
        · rw [cond_true]
          obtain ⟨y, g, _, _, _, p5⟩ := l02New_ok 8 8 (by omega) (by omega)
          have := (panelB_facts p5).2.2.2.2
          rw [g]
          simp only [bindS]
          exact ⟨_, rfl, by simp only; omega, a, by simp only; omega⟩
      · rw [cond_true]
        by_cases hl : 0 < (x3.1.Breaks.length : Int)
        · obtain ⟨y, g, n1, m, n⟩ := pick_ok ⟨q.code, x.2.1, x.2.2⟩ (x3.1.Breaks.length : Int) hc a (by simp only; omega)
          simp only at n
          obtain ⟨z, g2, n3, m2, n4⟩ := among_ok ⟨q.code, y.2.1, y.2.2⟩ [(-1), 2, 3] hc m (by simp only; omega) (by simp)
          simp only at n4
          rw [decide_eq_true hl, cond_true, g, bindS, g2, bindS, getI_toNat n1.1 (by omega)]
          simp only [bindS]
          exact ⟨_, rfl, by simp only [List.length_set]; omega, m2, by simp only; omega⟩
        · rw [decide_eq_false hl, cond_false]
          simp only [bindS]
          exact ⟨_, rfl, by simp only; omega, a, by simp only; omega⟩
    · rw [cond_true, appL_ok (by simp only [List.length_cons, List.length_nil]; omega)]
      simp only [bindS]
      exact ⟨_, rfl, by simp only [List.length_append, List.length_cons, List.length_nil]; omega, a, by simp only; omega⟩
  · rw [cond_true]
    obtain ⟨z, g2, n3, m2, n4⟩ := among_ok ⟨q.code, x.2.1, x.2.2⟩ [0, 8, 9, (-9223372036854775808)] hc a (by simp only; omega) (by simp)
    simp only at n4
    rw [g2]
    simp only [bindS]
    exact ⟨_, rfl, by simp only; omega, m2, by simp only; omega⟩

/-! decimal -/
theorem u64_id {x : Int} (h1 : 0 ≤ x) (h2 : x < 18446744073709551616) : IntKind.u64.wrap x = x := by
  unfold IntKind.wrap
  have hs : IntKind.u64.signed = false := rfl
  have hb : IntKind.u64.bits = 64 := rfl
  simp only [hs, hb, Bool.false_and]
  show x % 2 ^ 64 = x
  omega
theorem u64_neg {x : Int} (h1 : -9223372036854775808 ≤ x) (h2 : x < 0) : IntKind.u64.wrap (0 - IntKind.u64.wrap x) = -x := by
  unfold IntKind.wrap
  have hs : IntKind.u64.signed = false := rfl
  have hb : IntKind.u64.bits = 64 := rfl
  simp only [hs, hb, Bool.false_and]
  show (0 - x % 2 ^ 64) % 2 ^ 64 = -x
  omega
theorem u8_id {x : Int} (h1 : 0 ≤ x) (h2 : x < 256) : IntKind.u8.wrap x = x := by
  unfold IntKind.wrap
  have hs : IntKind.u8.signed = false := rfl
  have hb : IntKind.u8.bits = 8 := rfl
  simp only [hs, hb, Bool.false_and]
  show x % 2 ^ 8 = x
  omega

/-- The digits of a number, the first one first. -/
def digs (n : Nat) : List Int := if h : n = 0 then [] else digs (n / 10) ++ [48 + ((n % 10 : Nat) : Int)]
decreasing_by omega
theorem digs_zero : digs 0 = [] := by unfold digs; simp
theorem digs_pos {n : Nat} (h : 0 < n) : digs n = digs (n / 10) ++ [48 + ((n % 10 : Nat) : Int)] := by
  rw [digs]; simp [show n ≠ 0 by omega]
theorem digs_len : ∀ (k n : Nat), n < 10 ^ k → (digs n).length ≤ k
  | 0, n, h => by
    have : n = 0 := by simpa using h
    subst this; simp [digs_zero]
  | k + 1, n, h => by
    by_cases h0 : n = 0
    · subst h0; simp [digs_zero]
    · rw [digs_pos (by omega), List.length_append]
      have := digs_len k (n / 10) (by rw [Nat.pow_succ] at h; omega)
      simp; omega
theorem digs_byte (n : Nat) : ∀ x ∈ digs n, 48 ≤ x ∧ x ≤ 57 := by
  induction n using Nat.strongRecOn with
  | ind n ih =>
    intro x hx
    by_cases h0 : n = 0
    · subst h0; rw [digs_zero] at hx; simp at hx
    · rw [digs_pos (by omega)] at hx
      rcases List.mem_append.1 hx with h | h
      · exact ih (n / 10) (by omega) x h
      · simp at h; omega
theorem digs_ne {n : Nat} (h : 0 < n) : digs n ≠ [] := by rw [digs_pos h]; simp

/-- The bytes of a number in decimal. -/
def decL (n : Int) : List Int := if n = 0 then [48] else (if n < 0 then [45] else []) ++ digs n.natAbs
theorem decL_len {n : Int} (h1 : -9223372036854775808 ≤ n) (h2 : n ≤ 9223372036854775807) : (decL n).length ≤ 20 := by
  unfold decL
  have := digs_len 19 n.natAbs (by omega)
  split
  · simp
  · split <;> simp <;> omega
theorem decL_byte (n : Int) : ∀ x ∈ decL n, 0 ≤ x ∧ x < 256 := by
  intro x hx
  unfold decL at hx
  split at hx
  · simp at hx; omega
  · rcases List.mem_append.1 hx with h | h
    · split at h <;> simp at h; omega
    · have := digs_byte _ x h; omega

/-! bytes as a string -/
theorem bytesS_foldl : ∀ (xs : List Int) (s : ByteArray), xs.foldl (fun r n => r.push (UInt8.ofNat n.toNat)) s = ⟨s.data ++ (xs.map fun n => UInt8.ofNat n.toNat).toArray⟩
  | [], s => by simp
  | n :: ns, s => by
    rw [List.foldl_cons, bytesS_foldl ns]
    simp [ByteArray.push]
theorem bytesS_data (xs : List Int) : bytesS xs = ⟨(xs.map fun n => UInt8.ofNat n.toNat).toArray⟩ := by
  unfold bytesS
  rw [bytesS_foldl]
  congr 1
  apply Array.ext'
  simp [ByteArray.empty, ByteArray.emptyWithCapacity]
  rfl
theorem bytesS_size (xs : List Int) : (bytesS xs).size = xs.length := by
  rw [bytesS_data]
  show (List.toArray _).size = _
  simp
theorem bytesS_append (xs ys : List Int) : bytesS xs ++ bytesS ys = bytesS (xs ++ ys) := by
  apply ByteArray.ext
  rw [ByteArray.data_append, bytesS_data, bytesS_data, bytesS_data]
  apply Array.ext'
  simp
theorem strI_bytesS {xs : List Int} (h : ∀ x ∈ xs, 0 ≤ x ∧ x < 256) : strI (bytesS xs) = xs := by
  rw [bytesS_data, strI]
  simp only [List.map_map]
  conv => rhs; rw [← List.map_id xs]
  refine List.map_congr_left fun x hx => ?_
  obtain ⟨h1, h2⟩ := h x hx
  show ((UInt8.ofNat x.toNat).toNat : Int) = x
  rw [UInt8.toNat_ofNat']
  omega
theorem catS_ok {xs ys : List Int} (h : xs.length + ys.length ≤ 1099511627776) : catS (bytesS xs) (bytesS ys) = some (bytesS (xs ++ ys)) := by
  have : LIM = 1099511627776 := rfl
  unfold catS
  rw [bytesS_size, bytesS_size, if_pos (by omega), bytesS_append]
theorem lit_nil : (ByteArray.mk #[] : ByteArray) = bytesS [] := rfl
theorem lit_minus : (ByteArray.mk #[45] : ByteArray) = bytesS [45] := rfl
theorem lit_zero : (ByteArray.mk #[48] : ByteArray) = bytesS [48] := rfl
theorem lit_blank : (ByteArray.mk #[32] : ByteArray) = bytesS [32] := rfl

theorem tmod_abs (n : Int) : (if n.tmod 10 < 0 then 0 - n.tmod 10 else n.tmod 10) = ((n.natAbs % 10 : Nat) : Int) := by
  by_cases h : 0 ≤ n
  · rw [Int.tmod_eq_emod_of_nonneg h]; split <;> omega
  · have := Int.neg_tmod (-n) 10
    rw [Int.neg_neg] at this
    rw [this, Int.tmod_eq_emod_of_nonneg (by omega)]
    split <;> omega
theorem tdiv_abs (n : Int) : (n.tdiv 10).natAbs = n.natAbs / 10 := by
  rw [Int.natAbs_tdiv]; rfl


/-! strs -/
def isByte (x : Int) : Prop := 0 ≤ x ∧ x < 256
theorem strI_byte (s : ByteArray) : ∀ x ∈ strI s, isByte x := by
  intro x hx
  unfold strI at hx
  obtain ⟨b, _, rfl⟩ := List.mem_map.1 hx
  have := UInt8.toNat_lt b
  unfold isByte
  omega
theorem bytesS_strI (s : ByteArray) : bytesS (strI s) = s := by
  rw [bytesS_data, strI, List.map_map]
  apply ByteArray.ext
  apply Array.ext'
  simp only [List.map_map]
  conv => rhs; rw [← List.map_id s.data.toList]
  refine List.map_congr_left fun b _ => ?_
  show UInt8.ofNat ((b.toNat : Int)).toNat = b
  rw [Int.toNat_natCast]
  exact UInt8.ofNat_toNat
theorem strI_inj {a b : ByteArray} (h : strI a = strI b) : a = b := by rw [← bytesS_strI a, h, bytesS_strI]
theorem bytesS_inj {A B : List Int} (hA : ∀ x ∈ A, isByte x) (hB : ∀ x ∈ B, isByte x) (h : bytesS A = bytesS B) : A = B := by
  rw [← strI_bytesS hA, h, strI_bytesS hB]
theorem toList_loop (s : ByteArray) : ∀ (k i : Nat) (r : List UInt8), s.size - i = k → ByteArray.toList.loop s i r = r.reverse ++ s.data.toList.drop i
  | 0, i, r, h => by
    rw [ByteArray.toList.loop, if_neg (by omega), List.drop_of_length_le (by show s.data.size ≤ i; have : s.data.size = s.size := rfl; omega), List.append_nil]
  | k + 1, i, r, h => by
    have hi : i < s.size := by omega
    have hi2 : i < s.data.toList.length := hi
    rw [ByteArray.toList.loop, if_pos hi, toList_loop s k (i + 1) _ (by omega), List.drop_eq_getElem_cons hi2, List.reverse_cons, List.append_assoc]
    have : s.get! i = s.data.toList[i] := by
      show s.data[i]! = _
      rw [getElem!_pos s.data i hi]
      simp
    rw [this]
    rfl
theorem toList_data (s : ByteArray) : s.toList = s.data.toList := by
  unfold ByteArray.toList
  rw [toList_loop s s.size 0 [] (by omega)]
  simp
theorem toList_inj {a b : ByteArray} (h : a.toList = b.toList) : a = b := by
  rw [toList_data, toList_data] at h
  exact ByteArray.ext (Array.toList_inj.1 h)
theorem eqS {A B : List Int} (hA : ∀ x ∈ A, isByte x) (hB : ∀ x ∈ B, isByte x) : ((bytesS A).toList == (bytesS B).toList) = decide (A = B) := by
  by_cases h : A = B
  · subst h; simp
  · have : (bytesS A).toList ≠ (bytesS B).toList := fun he => h (bytesS_inj hA hB (toList_inj he))
    simp [h, this]
theorem getS_strI (s : ByteArray) (k : Nat) : getS s (k : Int) = (strI s)[k]? := by
  unfold getS strI
  rw [if_pos (by omega), Int.toNat_natCast, List.getElem?_map]
  congr 1
  by_cases h : k < s.size
  · rw [getElem?_pos s k h, List.getElem?_eq_getElem (show k < s.data.toList.length from h)]
    rfl
  · rw [getElem?_neg s k h, List.getElem?_eq_none (show s.data.toList.length ≤ k from Nat.le_of_not_lt h)]
theorem getS_ok {L : List Int} (hb : ∀ x ∈ L, isByte x) {k : Nat} (h : k < L.length) : getS (bytesS L) (k : Int) = some L[k] := by
  rw [getS_strI, strI_bytesS hb, List.getElem?_eq_getElem h]
theorem subS_ok {L : List Int} (hb : ∀ x ∈ L, isByte x) {i j : Nat} (hij : i ≤ j) (h : j ≤ L.length) : subS (bytesS L) (i : Int) (j : Int) = some (bytesS ((L.drop i).take (j - i))) := by
  unfold subS
  rw [if_pos (by rw [bytesS_size]; omega), Int.toNat_natCast, Int.toNat_natCast]
  congr 1
  apply strI_inj
  rw [strI_bytesS (fun x hx => hb x (List.mem_of_mem_drop (List.mem_of_mem_take hx)))]
  unfold strI
  rw [ByteArray.data_extract, Array.toList_extract, List.extract_eq_take_drop, List.map_take, List.map_drop]
  have := strI_bytesS hb
  unfold strI at this
  rw [this]
theorem mem_drop_take {L : List Int} (hb : ∀ x ∈ L, isByte x) (i j : Nat) : ∀ x ∈ (L.drop i).take j, isByte x := fun x hx => hb x (List.mem_of_mem_drop (List.mem_of_mem_take hx))

/-! parts of a text -/
def consHead (x : Int) : List (List Int) → List (List Int)
  | [] => [[x]]
  | h :: t => (x :: h) :: t
def splitL (b : Int) : List Int → List (List Int)
  | [] => [[]]
  | x :: xs => if x = b then [] :: splitL b xs else consHead x (splitL b xs)
theorem splitL_ne (b : Int) (L : List Int) : splitL b L ≠ [] := by
  cases L with
  | nil => simp [splitL]
  | cons x xs =>
    unfold splitL
    split
    · simp
    · cases splitL b xs <;> simp [consHead]
theorem splitL_none {b : Int} : ∀ {a : List Int}, b ∉ a → splitL b a = [a]
  | [], _ => rfl
  | x :: xs, h => by
    have h1 : x ≠ b := fun e => h (by simp [e])
    have h2 : b ∉ xs := fun e => h (by simp [e])
    rw [splitL, if_neg h1, splitL_none h2]
    rfl
theorem splitL_app {b : Int} : ∀ {a : List Int} (c : List Int), b ∉ a → splitL b (a ++ b :: c) = a :: splitL b c
  | [], c, _ => by simp [splitL]
  | x :: xs, c, h => by
    have h1 : x ≠ b := fun e => h (by simp [e])
    have h2 : b ∉ xs := fun e => h (by simp [e])
    rw [List.cons_append, splitL, if_neg h1, splitL_app c h2]
    rfl
theorem splitL_mem {b : Int} {p : Int → Prop} : ∀ {L : List Int}, (∀ x ∈ L, p x) → ∀ w ∈ splitL b L, ∀ x ∈ w, p x
  | [], _, w, hw, x, hx => by simp [splitL] at hw; subst hw; cases hx
  | y :: ys, h, w, hw, x, hx => by
    have ih := splitL_mem (b := b) (fun z hz => h z (List.mem_cons_of_mem _ hz)) (L := ys)
    rw [splitL] at hw
    split at hw
    · rcases List.mem_cons.1 hw with rfl | hw
      · cases hx
      · exact ih w hw x hx
    · cases hs : splitL b ys with
      | nil => exact absurd hs (splitL_ne b ys)
      | cons u t =>
        rw [hs, consHead] at hw
        rw [hs] at ih
        rcases List.mem_cons.1 hw with rfl | hw
        · rcases List.mem_cons.1 hx with rfl | hx
          · exact h _ (List.mem_cons_self ..)
          · exact ih u (List.mem_cons_self ..) x hx
        · exact ih w (List.mem_cons_of_mem _ hw) x hx
theorem splitL_bound {b : Int} : ∀ (L : List Int), (splitL b L).length ≤ L.length + 1 ∧ ∀ w ∈ splitL b L, w.length ≤ L.length
  | [] => by simp [splitL]
  | y :: ys => by
    obtain ⟨h1, h2⟩ := splitL_bound (b := b) ys
    rw [splitL]
    split
    · refine ⟨by simp only [List.length_cons]; omega, fun w hw => ?_⟩
      rcases List.mem_cons.1 hw with rfl | hw
      · simp
      · have := h2 w hw; simp only [List.length_cons]; omega
    · cases hs : splitL b ys with
      | nil => exact absurd hs (splitL_ne b ys)
      | cons u t =>
        rw [hs] at h1 h2
        refine ⟨by simp only [consHead, List.length_cons] at h1 ⊢; omega, fun w hw => ?_⟩
        rw [consHead] at hw
        rcases List.mem_cons.1 hw with rfl | hw
        · have := h2 u (List.mem_cons_self ..); simp only [List.length_cons]; omega
        · have := h2 w (List.mem_cons_of_mem _ hw); simp only [List.length_cons]; omega
theorem drop_split {L : List Int} {f i : Nat} (hf : f ≤ i) (hi : i < L.length) : L.drop f = (L.drop f).take (i - f) ++ L[i] :: L.drop (i + 1) := by
  conv => lhs; rw [← List.take_append_drop (i - f) (L.drop f)]
  rw [List.drop_drop, show f + (i - f) = i by omega, List.drop_eq_getElem_cons hi]
theorem take_snoc {L : List Int} {f i : Nat} (hf : f ≤ i) (hi : i < L.length) : (L.drop f).take (i + 1 - f) = (L.drop f).take (i - f) ++ [L[i]] := by
  rw [show i + 1 - f = (i - f) + 1 by omega, List.take_succ_eq_append_getElem (by rw [List.length_drop]; omega), List.getElem_drop]
  congr 2
  simp only [show f + (i - f) = i by omega]


/-! draw19 -/
def i64R (x : Int) : Prop := -9223372036854775808 ≤ x ∧ x ≤ 9223372036854775807
def ptR (p : SPoint) : Prop := i64R p.X ∧ i64R p.Y
theorem i64R_w64 (x : Int) : i64R (w64 x) := ⟨w64_lo x, w64_hi x⟩
theorem i64R_mx {a b : Int} (ha : i64R a) (hb : i64R b) : i64R (mx a b) := by
  unfold mx
  split
  · exact hb
  · exact ha
theorem i64R_small {x : Int} (h1 : -1000000 ≤ x) (h2 : x ≤ 1000000) : i64R x := ⟨by omega, by omega⟩
theorem ptR_set {l : List SPoint} {k : Nat} {p : SPoint} (hl : ∀ x ∈ l, ptR x) (hp : ptR p) : ∀ x ∈ l.set k p, ptR x := fun x hx => by
  rcases List.mem_or_eq_of_mem_set hx with h | h
  · exact hl x h
  · rw [h]; exact hp

/-! draw22 -/
def mvR (m : SToolMove) : Prop := (i64R m.X ∧ i64R m.Y) ∧ i64R m.Z
theorem carveL_R {u d s : Int} (hs : i64R s) {q : List SPoint} : ∀ m ∈ carveL d s (q.map (upt u)), mvR m := by
  have hp : ∀ x ∈ q.map (upt u), i64R x.X ∧ i64R x.Y := fun x hx => by
    obtain ⟨z, _, rfl⟩ := List.mem_map.1 hx
    exact ⟨i64R_w64 _, i64R_w64 _⟩
  have h0 : i64R ((q.map (upt u)).getD 0 ⟨0, 0⟩).X ∧ i64R ((q.map (upt u)).getD 0 ⟨0, 0⟩).Y := by
    cases hq : q.map (upt u) with
    | nil => exact ⟨i64R_small (by decide) (by decide), i64R_small (by decide) (by decide)⟩
    | cons a t => exact hp a (by rw [hq]; exact List.mem_cons_self ..)
  intro m hm
  unfold carveL mvT at hm
  simp only [List.mem_append, List.mem_cons, List.not_mem_nil, or_false, List.mem_map] at hm
  rcases hm with (h | ⟨x, ⟨z, hz, rfl⟩, rfl⟩) | h | h
  · rw [h]; exact ⟨h0, hs⟩
  · exact ⟨⟨i64R_w64 _, i64R_w64 _⟩, i64R_w64 _⟩
  · rw [h]; exact ⟨h0, i64R_w64 _⟩
  · rw [h]; exact ⟨h0, hs⟩
theorem draw22_ok (q : Sl00Src) (hc : srcB q.code) (h0 : 0 ≤ q.at_) (h1 : q.at_ ≤ 549755813888) : ∃ r, sh161 q = some r ∧ r.1.length ≤ 40 ∧ (∀ m ∈ r.1, mvR m) ∧ 0 ≤ r.2.1 ∧ r.2.1 ≤ q.at_ + 1100 := by
  unfold sh161
  obtain ⟨x1, e1, p1, _, a1, c1⟩ := draw02_ok q 3 (by omega) hc h0 (by omega)
  obtain ⟨x2, e2, b2, a2, c2⟩ := pick_ok ⟨q.code, x1.2.1, x1.2.2⟩ 9 hc a1 (by simp only; omega)
  simp only at c2
  obtain ⟨x3, e3, b3, a3, c3⟩ := pick_ok ⟨q.code, x2.2.1, x2.2.2⟩ 20 hc a2 (by simp only; omega)
  simp only at c3
  obtain ⟨x4, e4, b4, a4, c4⟩ := pick_ok ⟨q.code, x3.2.1, x3.2.2⟩ 9 hc a3 (by simp only; omega)
  simp only at c4
  have w1 : w64 (1 + x2.1) = 1 + x2.1 := w64_id (by omega) (by omega)
  have w2 : w64 (1 + x3.1) = 1 + x3.1 := w64_id (by omega) (by omega)
  have w3 : w64 (1 + x4.1) = 1 + x4.1 := w64_id (by omega) (by omega)
  obtain ⟨cs, of, o, g1, g2, g3, g4, g5, g6, g7, g8⟩ := panelS_val x1.1 (1 + x2.1) (1 + x3.1) (1 + x4.1) p1 (by unfold unitB; simp; omega) (by unfold cutB; simp; omega) (by unfold cutB; simp; omega)
  rw [e1, bindS, e2, bindS, e3, bindS, e4, bindS, w1, w2, w3, g3, bindS]
  have hR : ∀ m ∈ carveAll (1 + x2.1) (1 + x3.1) (1 + x4.1) (cs.map ptsOf) o, mvR m := fun m hm => by
    unfold carveAll at hm
    rw [List.mem_flatMap] at hm
    obtain ⟨k, _, hk⟩ := hm
    exact carveL_R (i64R_small (by omega) (by omega)) m hk
  simp only
  by_cases hl : (40 : Int) < ((carveAll (1 + x2.1) (1 + x3.1) (1 + x4.1) (cs.map ptsOf) o).length : Int)
  · obtain ⟨x5, e5, b5, a5, c5⟩ := pick_ok ⟨q.code, x4.2.1, x4.2.2⟩ 30 hc a4 (by simp only; omega)
    simp only at c5
    have ht : takeL (carveAll (1 + x2.1) (1 + x3.1) (1 + x4.1) (cs.map ptsOf) o) (w64 (10 + x5.1)) = some ((carveAll (1 + x2.1) (1 + x3.1) (1 + x4.1) (cs.map ptsOf) o).take (10 + x5.1).toNat) := by
      rw [w64_id (by omega) (by omega)]
      unfold takeL
      rw [if_pos (by omega)]
    rw [decide_eq_true hl, cond_true, e5, bindS, ht, bindS, bindS]
    exact ⟨_, rfl, by simp only [List.length_take]; omega, fun m hm => hR m (List.mem_of_mem_take hm), a5, by simp only; omega⟩
  · rw [decide_eq_false hl, cond_false, bindS]
    exact ⟨_, rfl, by simp only; omega, hR, a4, by simp only; omega⟩
theorem mvR_set {l : List SToolMove} {k : Nat} {p : SToolMove} (hl : ∀ x ∈ l, mvR x) (hp : mvR p) : ∀ x ∈ l.set k p, mvR x := fun x hx => by
  rcases List.mem_or_eq_of_mem_set hx with h | h
  · exact hl x h
  · rw [h]; exact hp
theorem bent22_ok (q : Sl00Src) (hc : srcB q.code) (h0 : 0 ≤ q.at_) (h1 : q.at_ ≤ 274877906944) : ∃ r, sh150 q = some r ∧ r.1.length ≤ 701 ∧ (∀ m ∈ r.1, mvR m) ∧ 0 ≤ r.2.1 ∧ r.2.1 ≤ q.at_ + 1200 := by
  unfold sh150
  obtain ⟨x1, e1, b1, d1, a1, c1⟩ := draw22_ok q hc h0 (by omega)
  rw [e1, bindS]
  by_cases hl : x1.1.length = 0
  · have : ((x1.1.length : Int) == 0) = true := beq_iff_eq.2 (by omega)
    rw [this, cond_true]
    exact ⟨_, rfl, by simp only; omega, d1, a1, by simp only; omega⟩
  · have hlb : ((x1.1.length : Int) == 0) = false := beq_eq_false_iff_ne.2 (by omega)
    obtain ⟨x5, e5, b5, a5, c5⟩ := pick_ok ⟨q.code, x1.2.1, x1.2.2⟩ (x1.1.length : Int) hc a1 (by simp only; omega)
    simp only at c5
    obtain ⟨x6, e6, b6, a6, c6⟩ := pick_ok ⟨q.code, x5.2.1, x5.2.2⟩ 16 hc a5 (by simp only; omega)
    simp only at c6
    have hk : x5.1.toNat < x1.1.length := by
      rcases b5.2 with h | h
      · omega
      · omega
    have hg : getI x1.1 x5.1 = some x1.1[x5.1.toNat] := getI_toNat b5.1 hk
    have hp0 := d1 _ (List.getElem_mem hk)
    rw [hlb, cond_false, e5, bindS, e6, bindS]
    cases x6.1 == 0
    · rw [cond_false]
      cases x6.1 == 1
      · rw [cond_false]
        cases x6.1 == 2
        · rw [cond_false]
          cases x6.1 == 3
          · rw [cond_false, bindS]
            exact ⟨_, rfl, by simp only; omega, d1, a6, by simp only; omega⟩
          · rw [cond_true, hg, bindS, bindS, bindS]
            exact ⟨_, rfl, by simp only [List.length_set]; omega, mvR_set d1 ⟨hp0.1, i64R_w64 _⟩, a6, by simp only; omega⟩
        · rw [cond_true]
          obtain ⟨y, g, n1, m, n⟩ := pick_ok ⟨q.code, x6.2.1, x6.2.2⟩ 2 hc a6 (by simp only; omega)
          simp only at n
          have hw : w64 (700 + y.1) = ((700 + y.1.toNat : Nat) : Int) := by rw [w64_id (by omega) (by omega)]; omega
          rw [g, bindS, hw, mkL_ok (by omega), bindS]
          refine ⟨_, rfl, by simp only [List.length_replicate]; omega, fun p hp => ?_, m, by simp only; omega⟩
          rw [List.eq_of_mem_replicate hp]
          exact ⟨⟨i64R_small (by decide) (by decide), i64R_small (by decide) (by decide)⟩, i64R_small (by decide) (by decide)⟩
      · rw [cond_true]
        obtain ⟨y, g, n1, m, n⟩ := among_ok ⟨q.code, x6.2.1, x6.2.2⟩ [(-501), (-500), 500, 501] hc a6 (by simp only; omega) (by simp)
        simp only at n
        rw [g, bindS, hg, bindS]
        refine ⟨_, rfl, by simp only [List.length_set]; omega, mvR_set d1 ⟨hp0.1, show i64R y.1 from ?_⟩, m, by simp only; omega⟩
        simp only [List.mem_cons, List.not_mem_nil, or_false] at n1
        unfold i64R
        rcases n1 with h | h | h | h <;> rw [h] <;> decide
    · rw [cond_true]
      obtain ⟨y, g, n1, m, n⟩ := among_ok ⟨q.code, x6.2.1, x6.2.2⟩ [(-100001), (-100000), 100000, 100001] hc a6 (by simp only; omega) (by simp)
      simp only at n
      rw [g, bindS, hg, bindS]
      refine ⟨_, rfl, by simp only [List.length_set]; omega, mvR_set d1 ⟨⟨show i64R y.1 from ?_, hp0.1.2⟩, hp0.2⟩, m, by simp only; omega⟩
      simp only [List.mem_cons, List.not_mem_nil, or_false] at n1
      unfold i64R
      rcases n1 with h | h | h | h <;> rw [h] <;> decide

/-! mark_pointss -/
theorem iter_done' {σ ρ : Type} {sb : σ → Option (σ ⊕ ρ)} {s : σ} {x : ρ} (h : sb s = some (.inr x)) : iter sb s = some x := iter_steps (fun _ => s) 0 (by omega) (fun k hk => by omega) h
def totP : List (List SPoint) → Nat
  | [] => 0
  | r :: rs => r.length + totP rs
theorem totP_snoc : ∀ (rs : List (List SPoint)) (r : List SPoint), totP (rs ++ [r]) = totP rs + r.length
  | [], r => by simp [totP]
  | x :: xs, r => by rw [List.cons_append, totP, totP, totP_snoc xs r]; omega
theorem totP_bound {B : Nat} : ∀ {rs : List (List SPoint)}, (∀ r ∈ rs, r.length ≤ B) → totP rs ≤ B * rs.length
  | [], _ => by simp [totP]
  | x :: xs, h => by
    have h1 := h x (List.mem_cons_self ..)
    have h2 := totP_bound (fun r hr => h r (List.mem_cons_of_mem _ hr))
    rw [totP, List.length_cons, Nat.mul_succ]; omega
theorem totP_take : ∀ (rs : List (List SPoint)) (k : Nat), totP (rs.take k) ≤ totP rs
  | [], k => by simp [totP]
  | x :: xs, 0 => by simp [totP]
  | x :: xs, k + 1 => by have := totP_take xs k; rw [List.take_succ_cons, totP, totP]; omega
def markSSP : Int → List (List SPoint) → List (List SPoint)
  | _, [] => []
  | m, r :: rs => marksP m r.length :: markSSP (m + 2 * r.length) rs
theorem markSSP_snoc : ∀ (m : Int) (rs : List (List SPoint)) (r : List SPoint), markSSP m (rs ++ [r]) = markSSP m rs ++ [marksP (m + 2 * totP rs) r.length]
  | m, [], r => by simp [markSSP, totP]
  | m, x :: xs, r => by
    rw [List.cons_append, markSSP, markSSP, markSSP_snoc _ xs r, List.cons_append, totP, show m + 2 * (x.length : Int) + 2 * (totP xs : Int) = m + 2 * ((x.length + totP xs : Nat) : Int) by omega]
theorem markSSP_length : ∀ (m : Int) (rs : List (List SPoint)), (markSSP m rs).length = rs.length
  | m, [] => rfl
  | m, x :: xs => by rw [markSSP, List.length_cons, List.length_cons, markSSP_length]
theorem markSSP_get : ∀ (m : Int) (rs : List (List SPoint)) (k : Nat) (h : k < rs.length), (markSSP m rs)[k]'(by rw [markSSP_length]; exact h) = marksP (m + 2 * totP (rs.take k)) rs[k].length
  | m, x :: xs, 0, h => by simp [markSSP, totP]
  | m, x :: xs, k + 1, h => by
    simp only [markSSP, List.getElem_cons_succ]
    rw [markSSP_get _ xs k (by simpa using h), List.take_succ_cons, totP]
    congr 1
    omega

/-! bandof -/
/-- The piece of a band at a segment. -/
def bandP (u h : Int) (a b : SPoint) : List SPoint :=
  [⟨w64 (w64 (a.X * u) + w64 (w64 (0 - h) * w64 (b.Y - a.Y))), w64 (w64 (a.Y * u) + w64 (h * w64 (b.X - a.X)))⟩,
   ⟨w64 (w64 (b.X * u) + w64 (w64 (0 - h) * w64 (b.Y - a.Y))), w64 (w64 (b.Y * u) + w64 (h * w64 (b.X - a.X)))⟩,
   ⟨w64 (w64 (b.X * u) - w64 (w64 (0 - h) * w64 (b.Y - a.Y))), w64 (w64 (b.Y * u) - w64 (h * w64 (b.X - a.X)))⟩,
   ⟨w64 (w64 (a.X * u) - w64 (w64 (0 - h) * w64 (b.Y - a.Y))), w64 (w64 (a.Y * u) - w64 (h * w64 (b.X - a.X)))⟩]
def bandF (u h : Int) (ps : List SPoint) : List (List SPoint) := (List.range ps.length).map fun i => bandP u h (ps.getD i ⟨0, 0⟩) (ps.getD ((i + 1) % ps.length) ⟨0, 0⟩)
theorem bandF_len (u h : Int) (ps : List SPoint) : (bandF u h ps).length = ps.length := by simp [bandF]
theorem bandF_get (u h : Int) (ps : List SPoint) (k : Nat) (hk : k < (bandF u h ps).length) : (bandF u h ps)[k] = bandP u h (ps.getD k ⟨0, 0⟩) (ps.getD ((k + 1) % ps.length) ⟨0, 0⟩) := by simp [bandF]
theorem getI_getD {xs : List SPoint} {k : Nat} (h : k < xs.length) : getI xs (k : Int) = some (xs.getD k ⟨0, 0⟩) := by
  rw [getI_lt h, List.getD_eq_getElem?_getD, List.getElem?_eq_getElem h]; rfl
theorem cyc_next {p : SPanel} (hd : Dim p) {c : List SWalker} (hc : Cyc p c) (k : Nat) (hk : k < c.length) : okW p c[k] ∧ (ptsOf c).getD k ⟨0, 0⟩ = c[k].At ∧ (ptsOf c).getD ((k + 1) % c.length) ⟨0, 0⟩ = ⟨c[k].At.X + c[k].DX, c[k].At.Y + c[k].DY⟩ := by
  obtain ⟨w0, n, h0, h1, h2, h3, rfl⟩ := hc
  have hkn : k < n := by simpa using hk
  have hg : ((List.range n).map (orb p w0))[k] = orb p w0 k := by simp
  have hp : ∀ j, j < n → (ptsOf ((List.range n).map (orb p w0))).getD j ⟨0, 0⟩ = (orb p w0 j).At := fun j hj => by
    simp [ptsOf, List.getD_eq_getElem?_getD, hj]
  have hl : ((List.range n).map (orb p w0)).length = n := by simp
  rw [hg, hl, hp k hkn, hp _ (Nat.mod_lt _ (by omega))]
  refine ⟨orb_ok hd h0 k, rfl, ?_⟩
  by_cases hk1 : k + 1 = n
  · rw [hk1, Nat.mod_self]
    have e : orb p w0 0 = orb p w0 (k + 1) := by rw [hk1, h3]; rfl
    rw [e]; rfl
  · rw [Nat.mod_eq_of_lt (by omega)]; rfl
theorem band_rows (u h : Int) (ps : List SPoint) : ∀ r ∈ bandF u h ps, r.length ≤ 4 := by
  intro r hr
  simp only [bandF, List.mem_map] at hr
  obtain ⟨i, _, rfl⟩ := hr
  exact Nat.le_refl _

/-! draw20 -/
theorem one_ok' (q : Sl00Src) (n : Int) (hc : srcB q.code) (h0 : 0 ≤ q.at_) (h1 : q.at_ ≤ 2305843009213693952) :
    ∃ b a s, sh93 q n = some (b, a, s) ∧ 0 ≤ a ∧ a ≤ q.at_ + 2 := by
  obtain ⟨x, e, a0, a1⟩ := one_ok q n hc h0 h1
  exact ⟨x.1, x.2.1, x.2.2, e, a0, a1⟩
theorem bandP_len (u h : Int) (a b : SPoint) : (bandP u h a b).length = 4 := rfl
theorem ptR_upt (u : Int) (a : SPoint) : ptR (upt u a) := ⟨i64R_w64 _, i64R_w64 _⟩
/-- A curve of a valid panel, for a drawn number. -/
theorem curve_ok (p : SPanel) (hp : panelB p = true) : ∃ (cs : List (List SWalker)) (of : List Int), sh147 p = some (cs.map ptsOf, of) ∧ 1 ≤ cs.length ∧ cs.length ≤ 256 ∧ ∀ c ∈ cs, Cyc p c := by
  have hd := dim_of hp
  obtain ⟨cs, of, h2, h3⟩ := trace_spec_eq p hd
  have hN := NS_eq hd
  have hf := h3.few
  have h0 := h3.own 0 (by omega)
  refine ⟨cs, of, h2, ?_, by omega, h3.cyc⟩
  rcases h3.val 0 with h | h
  · omega
  · omega
theorem cyc_two {p : SPanel} {c : List SWalker} (h : Cyc p c) : 2 ≤ c.length := by
  obtain ⟨w0, n, h1, h2, h3, h4, rfl⟩ := h
  rw [List.length_map, List.length_range]
  rcases Nat.lt_or_ge n 2 with h | h
  · exfalso
    have : n = 1 := by omega
    subst this
    have e : (stp p w0).At.X = w0.At.X := by
      have h5 : stp p w0 = w0 := h4
      rw [h5]
    have e2 : (stp p w0).At.X = w0.At.X + w0.DX := rfl
    have := h1.1
    omega
  · exact h
theorem upt_ok {p : SPanel} (hp : panelB p = true) {c : List SWalker} (hc : Cyc p c) : 2 ≤ (ptsOf c).length ∧ (ptsOf c).length ≤ 256 := by
  have h1 := cyc_len hc
  have h2 := cyc_two hc
  unfold ptsOf
  rw [List.length_map]; omega
theorem bandF_pt (u h : Int) (ps : List SPoint) : ∀ r ∈ bandF u h ps, r.length = 4 ∧ ∀ x ∈ r, ptR x := by
  intro r hr
  unfold bandF at hr
  rw [List.mem_map] at hr
  obtain ⟨i, _, rfl⟩ := hr
  refine ⟨rfl, fun x hx => ?_⟩
  unfold bandP at hx
  simp only [List.mem_cons, List.not_mem_nil, or_false] at hx
  rcases hx with h | h | h | h <;> rw [h] <;> exact ⟨i64R_w64 _, i64R_w64 _⟩

/-! drawcarved -/
theorem sizes_ok (q : Sl00Src) (hc : srcB q.code) (h0 : 0 ≤ q.at_) (h1 : q.at_ ≤ 549755813888) : ∃ r, sh142 q = some r ∧ 0 ≤ r.2.2.2.1 ∧ r.2.2.2.1 ≤ q.at_ + 20 := by
  unfold sh142
  obtain ⟨x1, e1, b1, a1, c1⟩ := pick_ok q 20 hc h0 (by omega)
  obtain ⟨x2, e2, b2, a2, c2⟩ := pick_ok ⟨q.code, x1.2.1, x1.2.2⟩ 30 hc a1 (by simp only; omega)
  simp only at c2
  obtain ⟨x3, e3, b3, a3, c3⟩ := pick_ok ⟨q.code, x2.2.1, x2.2.2⟩ 9 hc a2 (by simp only; omega)
  simp only at c3
  obtain ⟨x4, e4, b4, a4, c4⟩ := pick_ok ⟨q.code, x3.2.1, x3.2.2⟩ 12 hc a3 (by simp only; omega)
  simp only at c4
  rw [e1, bindS, e2, bindS, e3, bindS, e4, bindS]
  cases x4.1 == 0
  · rw [cond_false]
    cases x4.1 == 1
    · rw [cond_false]
      cases x4.1 == 2
      · rw [cond_false]
        simp only [bindS]
        exact ⟨_, rfl, a4, by simp only; omega⟩
      · rw [cond_true]
        obtain ⟨y, g, n1, m, n⟩ := among_ok ⟨q.code, x4.2.1, x4.2.2⟩ [0, 500, 501] hc a4 (by simp only; omega) (by simp)
        simp only at n
        simp only [g, bindS]
        exact ⟨_, rfl, m, by simp only; omega⟩
    · rw [cond_true]
      obtain ⟨y, g, n1, m, n⟩ := among_ok ⟨q.code, x4.2.1, x4.2.2⟩ [0, 500, 501] hc a4 (by simp only; omega) (by simp)
      simp only at n
      simp only [g, bindS]
      exact ⟨_, rfl, m, by simp only; omega⟩
  · rw [cond_true]
    obtain ⟨y, g, n1, m, n⟩ := among_ok ⟨q.code, x4.2.1, x4.2.2⟩ [0, 1000, 1001] hc a4 (by simp only; omega) (by simp)
    simp only at n
    simp only [g, bindS]
    exact ⟨_, rfl, m, by simp only; omega⟩
theorem drawPanelC_ok (c : List Int) (hc : srcB c) : ∃ r, sh49 c = some r ∧ r.1.Breaks.length ≤ 200 := by
  unfold sh49
  have hfrom : sh90 c = some ⟨c, 0, 0⟩ := rfl
  obtain ⟨x, e, l, a, b⟩ := bent02_ok ⟨c, 0, 0⟩ hc (Int.le_refl 0) (by simp only; omega)
  simp only at b
  obtain ⟨y, g, m, n⟩ := sizes_ok ⟨c, x.2.1, x.2.2⟩ hc a (by simp only; omega)
  rw [hfrom, bindS, e, bindS, g, bindS]
  exact ⟨_, rfl, l⟩
theorem drawCurveC_ok (c : List Int) (hc : srcB c) : ∃ r, sh52 c = some r ∧ r.1.Breaks.length ≤ 200 := by
  unfold sh52
  have hfrom : sh90 c = some ⟨c, 0, 0⟩ := rfl
  obtain ⟨x, e, l, a, b⟩ := bent02_ok ⟨c, 0, 0⟩ hc (Int.le_refl 0) (by simp only; omega)
  simp only at b
  obtain ⟨x2, e2, b2, a2, c2⟩ := pick_ok ⟨c, x.2.1, x.2.2⟩ 4 hc a (by simp only; omega)
  simp only at c2
  obtain ⟨x3, e3, b3, a3, c3⟩ := pick_ok ⟨c, x2.2.1, x2.2.2⟩ 12 hc a2 (by simp only; omega)
  simp only at c3
  obtain ⟨y, g, m, n⟩ := sizes_ok ⟨c, x3.2.1, x3.2.2⟩ hc a3 (by simp only; omega)
  rw [hfrom, bindS, e, bindS, e2, bindS, e3, bindS, g, bindS]
  exact ⟨_, rfl, l⟩
theorem drawOrderC_ok (c : List Int) (hc : srcB c) : ∃ r, sh55 c = some r ∧ r.Breaks.length ≤ 200 := by
  unfold sh55
  have hfrom : sh90 c = some ⟨c, 0, 0⟩ := rfl
  obtain ⟨x, e, l, a, b⟩ := bent02_ok ⟨c, 0, 0⟩ hc (Int.le_refl 0) (by simp only; omega)
  rw [hfrom, bindS, e, bindS]
  exact ⟨_, rfl, l⟩
theorem drawCheckC_ok (c : List Int) (hc : srcB c) : ∃ r, sh58 c = some r ∧ r.1.Breaks.length ≤ 200 ∧ r.2.1.length ≤ 701 := by
  unfold sh58
  have hfrom : sh90 c = some ⟨c, 0, 0⟩ := rfl
  obtain ⟨x, e, l, a, b⟩ := bent02_ok ⟨c, 0, 0⟩ hc (Int.le_refl 0) (by simp only; omega)
  simp only at b
  obtain ⟨v, ev, lv, _, av, bv⟩ := bent22_ok ⟨c, x.2.1, x.2.2⟩ hc a (by simp only; omega)
  simp only at bv
  obtain ⟨y, g, m, n⟩ := sizes_ok ⟨c, v.2.1, v.2.2⟩ hc av (by simp only; omega)
  simp only at n
  obtain ⟨x3, e3, b3, a3, c3⟩ := pick_ok ⟨c, y.2.2.2.1, y.2.2.2.2⟩ 9 hc m (by simp only; omega)
  simp only at c3
  obtain ⟨b4, a4, s4, e4, f4, c4⟩ := one_ok' ⟨c, x3.2.1, x3.2.2⟩ 12 hc a3 (by simp only; omega)
  simp only at c4
  rw [hfrom, bindS, e, bindS, ev, bindS, g, bindS, e3, bindS, e4, bindS]
  have hj : ∃ j : Int × Int × Int, (bif b4 then (Option.bind (sh94 (Sl00Src.mk c a4 s4) [(-1), 0, 200, 201]) fun x40 => some (x40.1, (x40.2.1, x40.2.2))) else (some (x3.1, (a4, s4)))) = some j ∧ 0 ≤ j.2.1 ∧ j.2.1 ≤ 2000000 := by
    cases b4
    · exact ⟨_, rfl, f4, by simp only; omega⟩
    · obtain ⟨z, gz, n1, mz, nz⟩ := among_ok ⟨c, a4, s4⟩ [(-1), 0, 200, 201] hc f4 (by simp only; omega) (by simp)
      simp only at nz
      rw [cond_true, gz, bindS]
      exact ⟨_, rfl, mz, by simp only; omega⟩
  obtain ⟨j, ej, j0, j1⟩ := hj
  simp only
  rw [ej, bindS, l02Ok_eq x.1 (by omega), bindS]
  obtain ⟨bb, ebb⟩ : ∃ bb : Bool, (bif panelB x.1 then (Option.bind (sh100 y.1 1 20) fun x22 => some x22) else (some false)) = some bb := by
    cases panelB x.1
    · exact ⟨_, rfl⟩
    · exact ⟨_, rfl⟩
  rw [ebb, bindS]
  have tail : ∀ (z : List SToolMove), z.length ≤ 66304 → ∃ w : List SToolMove, (bif decide (700 < (z.length : Int)) then (Option.bind (takeL z (700 : Int)) fun x30 => some x30) else (some z)) = some w ∧ w.length ≤ 701 := by
    intro z hz
    by_cases h : (700 : Int) < (z.length : Int)
    · have ht : takeL z 700 = some (z.take 700) := by unfold takeL; rw [if_pos (by omega)]; rfl
      rw [decide_eq_true h, cond_true, ht, bindS]
      exact ⟨_, rfl, by rw [List.length_take]; omega⟩
    · rw [decide_eq_false h, cond_false]
      exact ⟨_, rfl, by omega⟩
  cases bb
  · simp only [cond_false, bindS]
    obtain ⟨w, hw, hwl⟩ := tail v.1 (by omega)
    rw [hw, bindS]
    exact ⟨_, rfl, l, hwl⟩
  · obtain ⟨b5, a5, s5, e5, f5, c5⟩ := one_ok' ⟨c, j.2.1, j.2.2⟩ 2 hc j0 (by simp only; omega)
    simp only at c5
    simp only [cond_true, e5, bindS]
    cases b5
    · simp only [cond_false, bindS]
      obtain ⟨w, hw, hwl⟩ := tail v.1 (by omega)
      rw [hw, bindS]
      exact ⟨_, rfl, l, hwl⟩
    · obtain ⟨x6, e6, b6, a6, c6⟩ := pick_ok ⟨c, a5, s5⟩ 30 hc f5 (by simp only; omega)
      obtain ⟨r, r1, r2, r3⟩ := carvePanel_total x.1 y.1 (w64 (1 + x6.1)) 5 (by omega)
      simp only [cond_true, e6, bindS, r1]
      obtain ⟨w, hw, hwl⟩ := tail r.1 r3
      rw [hw, bindS]
      exact ⟨_, rfl, l, hwl⟩

/-! f6tools -/
theorem eqMv (p q : SToolMove) : ((p.X == q.X) && ((p.Y == q.Y) && ((p.Z == q.Z) && true))) = decide (p = q) := by
  cases p with
  | mk a b c =>
    cases q with
    | mk d e f =>
      by_cases h1 : a = d
      · by_cases h2 : b = e
        · by_cases h3 : c = f
          · subst h1 h2 h3; simp
          · have : ¬ ((SToolMove.mk a b c) = (SToolMove.mk d e f)) := fun h => h3 (congrArg SToolMove.Z h)
            rw [decide_eq_false this]; simp [h3]
        · have : ¬ ((SToolMove.mk a b c) = (SToolMove.mk d e f)) := fun h => h2 (congrArg SToolMove.Y h)
          rw [decide_eq_false this]; simp [h2]
      · have : ¬ ((SToolMove.mk a b c) = (SToolMove.mk d e f)) := fun h => h1 (congrArg SToolMove.X h)
        rw [decide_eq_false this]; simp [h1]
theorem f6tools_eq (xs ys : List SToolMove) (h : xs.length ≤ 1048576) : sh61 xs ys = some (decide (xs = ys)) := by
  unfold sh61
  by_cases hl : xs.length = ys.length
  · have h1 : ((xs.length : Int) != (ys.length : Int)) = false := by simp; omega
    rw [h1, cond_false, iter_eq (xs := xs) (ys := ys) (by omega) hl (fun k hk => ?_) (by simp [sh61_1]), bindS]
    · by_cases he : xs = ys <;> simp [he, elimS]
    · have h2 : (k : Int) < xs.length := by omega
      have h3 : k < ys.length := by omega
      simp only [sh61_1, h2, decide_true, cond_true, getI_lt hk, getI_lt h3, bindS, eqMv]
      rw [w64_id (by omega) (by omega)]
      by_cases he : xs[k] = ys[k]
      · simp [he]
      · rw [if_neg he, decide_eq_false he]
        rfl
  · have h1 : ((xs.length : Int) != (ys.length : Int)) = true := by simp; omega
    rw [h1, cond_true]
    have : xs ≠ ys := fun h => hl (by rw [h])
    simp [this]
/-! ### a tool is read back -/
def lineL (m : SToolMove) : List Int := decL m.X ++ 32 :: (decL m.Y ++ 32 :: decL m.Z)

/-! f6ints -/
theorem f6ints_eq (xs ys : List Int) (h : xs.length ≤ 1048576) : sh46 xs ys = some (decide (xs = ys)) := by
  unfold sh46
  by_cases hl : xs.length = ys.length
  · have h1 : ((xs.length : Int) != (ys.length : Int)) = false := by simp; omega
    rw [h1, cond_false, iter_eq (xs := xs) (ys := ys) (by omega) hl (fun k hk => ?_) (by simp [sh46_1]), bindS]
    · by_cases he : xs = ys <;> simp [he, elimS]
    · have h2 : (k : Int) < xs.length := by omega
      have h3 : k < ys.length := by omega
      simp only [sh46_1, h2, decide_true, cond_true, getI_lt hk, getI_lt h3, bindS]
      rw [w64_id (by omega) (by omega)]
      by_cases he : xs[k] = ys[k]
      · simp [he]
      · rw [if_neg he, bne_iff_ne.2 he]
        rfl
  · have h1 : ((xs.length : Int) != (ys.length : Int)) = true := by simp; omega
    rw [h1, cond_true]
    have : xs ≠ ys := fun h => hl (by rw [h])
    simp [this]

/-! FnCarved -/
theorem law6 (c : List Int) (hl0 : c.length ≤ maxLen) (hk0 : ∀ y ∈ c, okI .u8 y) : sh6 c = some true := by
  unfold sh6
  have hm : maxLen = 9223372036854775807 := rfl
  have hc := srcB_of hk0
  rw [f6big_eq c (by omega), bindS]
  cases hbig : decide (4096 < c.length)
  · rw [cond_false]
    obtain ⟨d, e1, l1⟩ := drawPanelC_ok c hc
    obtain ⟨d2, e2, l2⟩ := drawCurveC_ok c hc
    obtain ⟨d3, e3, l3⟩ := drawOrderC_ok c hc
    obtain ⟨d4, e4, l4, l5⟩ := drawCheckC_ok c hc
    obtain ⟨r, r1, r2, r3⟩ := carvePanel_total d.1 d.2.1 d.2.2.1 d.2.2.2 (by omega)
    obtain ⟨k, k1, k2, k3⟩ := carveCurve_total d2.1 d2.2.1 d2.2.2.1 d2.2.2.2.1 d2.2.2.2.2 (by omega)
    obtain ⟨o, o1, o2, o3⟩ := carveOrder_total d3 (by omega)
    obtain ⟨z, z1, z2⟩ := checkMoves_total d4.1 d4.2.1 d4.2.2.1 d4.2.2.2.1 d4.2.2.2.2 (by omega) (by omega)
    simp only [e1, e2, e3, e4, r1, r2, k1, k2, o1, o2, z1, z2, bindS, bne_self_eq_false, cond_false, f6tools_eq r.1 r.1 (by omega), f6tools_eq k.1 k.1 (by omega), f6ints_eq o.1 o.1 (by omega), decide_true, Bool.not_true, Bool.or_self]
    cases h0 : (r.2 != 0)
    · have hr0 : r.2 = 0 := by simpa using h0
      obtain ⟨hp, hu, hd, hs⟩ := carve_inv d.1 d.2.1 d.2.2.1 d.2.2.2 (by omega) r2 hr0
      have hr : r = (r.1, 0) := by rw [← hr0]
      obtain ⟨n, n1, n2, n3, n4⟩ := carved_ok d.1 d.2.1 d.2.2.1 d.2.2.2 hp hu hd hs (L := r.1) (by rw [r1, ← hr])
      rw [cond_false, n1, bindS, n2, bindS, n3, bindS, n4]
      simp only [beq_self_eq_true, Bool.and_self]
    · rfl
  · rfl
end Go.Sh
