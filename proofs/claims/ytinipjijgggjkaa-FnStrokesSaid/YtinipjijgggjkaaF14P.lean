/- Plain laws: what the shallow functions come to. -/
import Derived.Test.YtinipjijgggjkaaF14W3
set_option linter.unusedVariables false
set_option linter.unusedSimpArgs false
namespace Go.Sh
open Go Go.RowKit

/-! to_i64s -/

/-! eq_i64s -/

/-! mark_i64s -/
/-- The numbers that are laid into a result to see whether it is of one's own. -/
def marksFrom (m : Int) (n : Nat) : List Int := (List.range n).map fun (i : Nat) => m + (i : Int)
theorem marksFrom_length (m : Int) (n : Nat) : (marksFrom m n).length = n := by simp [marksFrom]
theorem marksFrom_get (m : Int) (n k : Nat) (h : k < n) : (marksFrom m n)[k]'(by rw [marksFrom_length]; exact h) = m + k := by simp [marksFrom]
theorem marksFrom_succ (m : Int) (k : Nat) : marksFrom m (k + 1) = marksFrom m k ++ [m + k] := by simp [marksFrom, List.range_succ]


/-! iters -/
theorem w64_lo (x : Int) : -9223372036854775808 ≤ w64 x := by
  have := IntKind.wrap_i64 x
  show _ ≤ IntKind.i64.wrap x
  omega
theorem w64_hi (x : Int) : w64 x ≤ 9223372036854775807 := by
  have := IntKind.wrap_i64 x
  show IntKind.i64.wrap x ≤ _
  omega
theorem getI_toNat {T : Type} {xs : List T} {i : Int} (h0 : 0 ≤ i) (h : i.toNat < xs.length) : getI xs i = some xs[i.toNat] := by
  unfold getI; rw [if_pos h0]; exact List.getElem?_eq_getElem h
theorem nzI_ok {a : Int} (h : a ≠ 0) : nzI a = some a := by simp [nzI, h]

/-- The loop that looks for the first element that passes. -/
theorem iter_find {T : Type} {sb : Int → Option (Int ⊕ (Unit ⊕ Int))} {xs : List T} {p : T → Bool} (hl : xs.length < 1099511627776)
    (hsb : ∀ (k : Nat) (h : k < xs.length), sb (k : Int) = if p xs[k] = true then some (.inr (.inr (k : Int))) else some (.inl ((k : Int) + 1))) (he : sb (xs.length : Int) = some (.inr (.inl ()))) :
    iter sb 0 = some (if xs.any p = true then .inr (xs.findIdx p : Int) else .inl ()) := by
  have h := iter_res (sb := sb) (fun k => (k : Int)) (fun k => if (xs.drop k).any p = true then (.inr (k + (xs.drop k).findIdx p : Nat) : Unit ⊕ Int) else .inl ()) xs.length (by omega) (fun k hk => ?_) (by
    rw [he, List.drop_of_length_le (Nat.le_refl _)]; simp)
  · simpa using h
  · rw [hsb k hk, List.drop_eq_getElem_cons hk]
    by_cases hx : p xs[k] = true
    · right
      rw [if_pos hx]
      simp only [List.any_cons, hx, Bool.true_or, if_true, List.findIdx_cons, cond_true, Nat.add_zero]
    · left
      rw [if_neg hx]
      refine ⟨by simp, ?_⟩
      have hx' : p xs[k] = false := by simpa using hx
      simp only [List.any_cons, hx', Bool.false_or, List.findIdx_cons, cond_false]
      split <;> simp
      omega

theorem iterN_congr {σ ρ : Type} {sb1 sb2 : σ → Option (σ ⊕ ρ)} (I : σ → Prop) (hs : ∀ s, I s → sb1 s = sb2 s ∧ ∀ s', sb2 s = some (.inl s') → I s') : ∀ (n : Nat) (s : σ), I s → iterN sb1 n s = iterN sb2 n s
  | 0, _, _ => rfl
  | n + 1, s, h => by
    obtain ⟨h1, h2⟩ := hs s h
    simp only [iterN, h1]
    cases hb : sb2 s with
    | none => rfl
    | some o =>
      cases o with
      | inl s' => exact iterN_congr I hs n s' (h2 s' hb)
      | inr x => rfl
/-- Two loops whose bodies agree where the invariant holds. -/
theorem iter_congr {σ ρ : Type} {sb1 sb2 : σ → Option (σ ⊕ ρ)} (I : σ → Prop) {s0 : σ} (h0 : I s0) (hs : ∀ s, I s → sb1 s = sb2 s ∧ ∀ s', sb2 s = some (.inl s') → I s') : iter sb1 s0 = iter sb2 s0 :=
  iterN_congr I hs FUEL s0 h0

/-- A loop over a list, as a fold. -/
theorem iter_fold {T σ S ρ : Type} {sb : S → Option (S ⊕ ρ)} (xs : List T) (st : Nat → σ → S) (g : σ → T → σ) (h : σ → ρ) (I : Nat → σ → Prop) (s0 : σ) (h0 : I 0 s0) (hl : xs.length < 1099511627776)
    (hsb : ∀ (k : Nat) (hk : k < xs.length) s, I k s → sb (st k s) = some (.inl (st (k + 1) (g s xs[k]))) ∧ I (k + 1) (g s xs[k])) (he : ∀ s, I xs.length s → sb (st xs.length s) = some (.inr (h s))) :
    iter sb (st 0 s0) = some (h (xs.foldl g s0)) ∧ I xs.length (xs.foldl g s0) := by
  have hI : ∀ k, k ≤ xs.length → I k ((xs.take k).foldl g s0) := by
    intro k
    induction k with
    | zero => intro _; simpa using h0
    | succ k ih =>
      intro hk
      rw [List.take_succ_eq_append_getElem (by omega), List.foldl_append]
      exact (hsb k (by omega) _ (ih (by omega))).2
  have hlast := hI xs.length (Nat.le_refl _)
  rw [List.take_length] at hlast
  refine ⟨?_, hlast⟩
  refine iter_steps (fun k => st k ((xs.take k).foldl g s0)) xs.length (by omega) (fun k hk => ?_) (by rw [List.take_length]; exact he _ hlast)
  rw [(hsb k hk _ (hI k (by omega))).1, List.take_succ_eq_append_getElem hk, List.foldl_append]
  rfl

/-- The greater one. -/
def mx (a b : Int) : Int := if a < b then b else a
def mn (a b : Int) : Int := if b < a then b else a
theorem mx_comm' (a b : Int) : (if b < a then a else b) = mx a b := by unfold mx; split <;> split <;> omega
theorem foldl_snoc {α β : Type} (f : α → β) : ∀ (xs : List α) (a : List β), xs.foldl (fun acc m => acc ++ [f m]) a = a ++ xs.map f
  | [], a => by simp
  | x :: xs, a => by rw [List.foldl_cons, foldl_snoc f xs]; simp

/-! panel -/
def brkB (k : Int) : Bool := decide (0 ≤ k) && decide (k ≤ 2)
def sideB (n : Int) : Bool := decide (1 ≤ n) && decide (n ≤ 8)
def innerN (w h : Int) : Int := w64 (w64 (w * w64 (h - 1)) + w64 (h * w64 (w - 1)))
def panelB (p : SPanel) : Bool := (sideB p.W && sideB p.H) && (((p.Breaks.length : Int) == innerN p.W p.H) && p.Breaks.all brkB)
theorem l02Ok_eq (p : SPanel) (h : p.Breaks.length ≤ 1048576) : sh82 p = some (panelB p) := by
  unfold sh82 panelB
  have hi : iter (sh82_1 p) 0 = some (if p.Breaks.all brkB = true then .inl () else .inr false) := iter_all (xs := p.Breaks) (by omega) (fun k hk => by
    have h2 : (k : Int) < p.Breaks.length := by omega
    simp only [sh82_1, sh127, h2, decide_true, cond_true, getI_lt hk, bindS]
    rw [w64_id (x := (k : Int) + 1) (by omega) (by omega)]
    unfold brkB
    cases decide (0 ≤ p.Breaks[k]) && decide (p.Breaks[k] ≤ 2) <;> rfl) (by simp [sh82_1])
  simp only [sh143, sh144, sh127, bindS, hi]
  show Option.bind (bif !(sideB p.W) then some true else some !(sideB p.H)) _ = _
  cases sideB p.W
  · rfl
  · cases sideB p.H
    · rfl
    · show (bif ((p.Breaks.length : Int) != innerN p.W p.H) then _ else _) = _
      simp only [bne]
      cases ((p.Breaks.length : Int) == innerN p.W p.H)
      · rfl
      · cases p.Breaks.all brkB <;> rfl
theorem validPanel_eq (p : SPanel) (h : p.Breaks.length ≤ 1048576) : sh86 p = some (panelB p) := by
  unfold sh86 panelB
  have hi : iter (sh86_1 p) 0 = some (if p.Breaks.all brkB = true then .inl () else .inr false) := iter_all (xs := p.Breaks) (by omega) (fun k hk => by
    have h2 : (k : Int) < p.Breaks.length := by omega
    simp only [sh86_1, sh148, sh125, h2, decide_true, cond_true, getI_lt hk, bindS]
    rw [w64_id (x := (k : Int) + 1) (by omega) (by omega)]
    unfold brkB
    cases decide (0 ≤ p.Breaks[k]) && decide (p.Breaks[k] ≤ 2) <;> rfl) (by simp [sh86_1])
  simp only [sh146, sh147, sh125, bindS, hi]
  show Option.bind (Option.bind (bif (sideB p.W) then some (sideB p.H) else some false) _) _ = _
  cases sideB p.W
  · rfl
  · cases sideB p.H
    · rfl
    · show (bif ((p.Breaks.length : Int) != innerN p.W p.H) then _ else _) = _
      simp only [bne]
      cases ((p.Breaks.length : Int) == innerN p.W p.H)
      · rfl
      · cases p.Breaks.all brkB <;> rfl
theorem panelB_facts {p : SPanel} (h : panelB p = true) : (1 ≤ p.W ∧ p.W ≤ 8) ∧ (1 ≤ p.H ∧ p.H ≤ 8) ∧ (p.Breaks.length : Int) = p.W * (p.H - 1) + p.H * (p.W - 1) ∧ (∀ k ∈ p.Breaks, 0 ≤ k ∧ k ≤ 2) ∧ p.Breaks.length ≤ 112 := by
  unfold panelB sideB brkB innerN at h
  simp only [Bool.and_eq_true, decide_eq_true_eq, List.all_eq_true, beq_iff_eq] at h
  obtain ⟨⟨⟨hw, hw2⟩, hh, hh2⟩, hl, ha⟩ := h
  have key : ∀ w : Int, 1 ≤ w → w ≤ 8 → ∀ k : Int, 1 ≤ k → k ≤ 8 → 0 ≤ w * (k - 1) ∧ w * (k - 1) ≤ 56 := by
    intro w h1 h2 k h3 h4
    have : 0 ≤ w * (k - 1) := Int.mul_nonneg (by omega) (by omega)
    have h5 : w * (k - 1) ≤ 8 * (k - 1) := Int.mul_le_mul_of_nonneg_right h2 (by omega)
    omega
  have k1 := key p.W hw hw2 p.H hh hh2
  have k2 := key p.H hh hh2 p.W hw hw2
  rw [w64_id (x := p.H - 1) (by omega) (by omega), w64_id (x := p.W - 1) (by omega) (by omega), w64_id (x := p.W * (p.H - 1)) (by omega) (by omega), w64_id (x := p.H * (p.W - 1)) (by omega) (by omega), w64_id (by omega) (by omega)] at hl
  exact ⟨⟨hw, hw2⟩, ⟨hh, hh2⟩, hl, ha, by omega⟩
def hasB (p : SPanel) (a : SPoint) : Bool := ((decide (0 ≤ a.X) && decide (a.X ≤ w64 (2 * p.W))) && (decide (0 ≤ a.Y) && decide (a.Y ≤ w64 (2 * p.H)))) && ((w64 (a.X + a.Y)).tmod 2 == 1)
def edgeB (p : SPanel) (a : SPoint) : Bool := (((a.X == 0) || (a.Y == 0)) || (a.X == w64 (2 * p.W))) || (a.Y == w64 (2 * p.H))
theorem isPoint_eq (p : SPanel) (a : SPoint) : sh142 p a = some (hasB p a) := by
  unfold sh142 sh125 hasB
  simp only [bindS]
  cases (decide (0 ≤ a.X) && decide (a.X ≤ w64 (2 * p.W))) <;> rfl
def codeOf (p : SPanel) (a : SPoint) : Int := bif !panelB p then 1 else bif !hasB p a then 2 else bif edgeB p a then 6 else 0
theorem codeOf_cases (p : SPanel) (a : SPoint) : codeOf p a = 1 ∨ codeOf p a = 2 ∨ codeOf p a = 6 ∨ codeOf p a = 0 := by
  unfold codeOf
  cases panelB p <;> cases hasB p a <;> cases edgeB p a <;> simp

/-! walkers -/
structure Dim (p : SPanel) : Prop where
  w1 : 1 ≤ p.W
  w2 : p.W ≤ 8
  h1 : 1 ≤ p.H
  h2 : p.H ≤ 8
  bl : (p.Breaks.length : Int) = p.W * (p.H - 1) + p.H * (p.W - 1)
theorem dim_of {p : SPanel} (h : panelB p = true) : Dim p := let ⟨h1, h2, h3, _⟩ := panelB_facts h; ⟨h1.1, h1.2, h2.1, h2.2, h3⟩
theorem eight {n : Int} (h1 : 1 ≤ n) (h2 : n ≤ 8) : n = 1 ∨ n = 2 ∨ n = 3 ∨ n = 4 ∨ n = 5 ∨ n = 6 ∨ n = 7 ∨ n = 8 := by omega
def numF (p : SPanel) (x y : Int) : Int := (y - 1) * p.W - y / 2 + (x - 1) / 2
def brkF (p : SPanel) (x y : Int) : Int := if x = 0 ∨ x = 2 * p.W ∨ y = 0 ∨ y = 2 * p.H then 0 else p.Breaks.getD (numF p x y).toNat 0
theorem brk_edge {p : SPanel} {x y : Int} (h : x = 0 ∨ x = 2 * p.W ∨ y = 0 ∨ y = 2 * p.H) : brkF p x y = 0 := if_pos h

/-! steps -/
theorem mul_small {a H : Int} (h1 : 1 ≤ H) (h2 : H ≤ 8) (ha : 0 ≤ a) (ha2 : a ≤ 40) : 0 ≤ a * H ∧ a * H ≤ 320 := by
  rcases eight h1 h2 with e | e | e | e | e | e | e | e <;> subst e <;> omega
/-- An inner point. -/
def inr (p : SPanel) (x y : Int) : Prop := (1 ≤ x ∧ x ≤ 2 * p.W - 1) ∧ (1 ≤ y ∧ y ≤ 2 * p.H - 1) ∧ (x + y) % 2 = 1
theorem num_bd {p : SPanel} (hd : Dim p) {x y : Int} (h : inr p x y) : 0 ≤ numF p x y ∧ numF p x y < p.Breaks.length := by
  obtain ⟨w1, w2, h1, h2, bl⟩ := hd
  obtain ⟨⟨a1, a2⟩, ⟨a3, a4⟩, a5⟩ := h
  rw [bl]
  unfold numF
  clear bl
  generalize p.W = W at *
  generalize p.H = H at *
  rcases eight w1 w2 with e | e | e | e | e | e | e | e <;> subst e <;> constructor <;> omega
theorem beq_dec (a b : Int) : (a == b) = decide (a = b) := by
  by_cases h : a = b
  · subst h; simp
  · rw [beq_eq_false_iff_ne.2 h, decide_eq_false h]
theorem ite_flip {c : Prop} [Decidable c] {α : Type} {a b : α} : (bif decide c then some a else some b) = some (if c then a else b) := by
  by_cases h : c <;> simp [h]

/-! nearest -/
theorem iter_invN {σ ρ : Type} {sb : σ → Option (σ ⊕ ρ)} (I : σ → Prop) (μ : σ → Nat) (Q : ρ → Prop) {s : σ} (h0 : I s) (hμ : μ s < 4611686018427387904)
    (hs : ∀ a, I a → (∃ a', sb a = some (.inl a') ∧ I a' ∧ μ a' < μ a) ∨ (∃ x, sb a = some (.inr x) ∧ Q x)) : ∃ x, iter sb s = some x ∧ Q x := by
  have key : ∀ k a, μ a ≤ k → I a → ∃ x, iterN sb (k + 1) a = some x ∧ Q x := by
    intro k
    induction k with
    | zero =>
      intro a hk hR
      rcases hs a hR with ⟨a', _, _, h4⟩ | ⟨x, h1, h3⟩
      · omega
      · exact ⟨x, by simp [iterN, h1], h3⟩
    | succ k ih =>
      intro a hk hR
      rcases hs a hR with ⟨a', h1, h3, h4⟩ | ⟨x, h1, h3⟩
      · obtain ⟨x, g1, g3⟩ := ih a' (by omega) h3
        exact ⟨x, by rw [iterN, h1]; exact g1, g3⟩
      · exact ⟨x, by rw [iterN, h1], h3⟩
  obtain ⟨x, h1, h2⟩ := key 4611686018427387903 s (by omega) h0
  exact ⟨x, h1, h2⟩
/-- The points of a row and of all rows. -/
def rowX (y : Int) (n : Nat) : List SPoint := ((List.range n).filter (fun (x : Nat) => decide (((x : Int) + y) % 2 = 1))).map (fun (x : Nat) => ⟨(x : Int), y⟩)
theorem rowX_succ (y : Int) (n : Nat) : rowX y (n + 1) = rowX y n ++ (if ((n : Int) + y) % 2 = 1 then [⟨(n : Int), y⟩] else []) := by
  unfold rowX
  rw [List.range_succ, List.filter_append, List.map_append]
  by_cases h : ((n : Int) + y) % 2 = 1
  · rw [if_pos h, List.filter_cons, if_pos (decide_eq_true h)]; rfl
  · rw [if_neg h, List.filter_cons, if_neg (by simpa using h)]; rfl
theorem rowX_len (y : Int) (n : Nat) : (rowX y n).length ≤ n := by
  unfold rowX
  rw [List.length_map]
  exact Nat.le_trans (List.length_filter_le ..) (by simp)
def allX (w : Nat) : Nat → List SPoint
  | 0 => []
  | n + 1 => allX w n ++ rowX (n : Int) w
theorem allX_len (w : Nat) : ∀ n, (allX w n).length ≤ w * n
  | 0 => by simp [allX]
  | n + 1 => by
    have h1 := allX_len w n
    have h2 := rowX_len (n : Int) w
    rw [allX, List.length_append, Nat.mul_succ]; omega
theorem mem_allX {w : Nat} {a : SPoint} : ∀ {n : Nat}, a ∈ allX w n → ∃ x y : Nat, x < w ∧ y < n ∧ ((x : Int) + (y : Int)) % 2 = 1 ∧ a = ⟨(x : Int), (y : Int)⟩
  | n + 1, h => by
    rcases List.mem_append.1 h with h | h
    · obtain ⟨x, y, h1, h2, h3, h4⟩ := mem_allX h
      exact ⟨x, y, h1, by omega, h3, h4⟩
    · simp only [rowX, List.mem_map, List.mem_filter, List.mem_range, decide_eq_true_eq] at h
      obtain ⟨x, ⟨h1, h2⟩, rfl⟩ := h
      exact ⟨x, n, h1, by omega, h2, rfl⟩
theorem allX_ne {w n : Nat} (hw : 2 ≤ w) (hn : 1 ≤ n) : allX w n ≠ [] := by
  obtain ⟨m, rfl⟩ : ∃ m, n = m + 1 := ⟨n - 1, by omega⟩
  clear hn
  induction m with
  | zero =>
    intro h
    have hm : (⟨((1 : Nat) : Int), ((0 : Nat) : Int)⟩ : SPoint) ∈ allX w (0 + 1) := by
      refine List.mem_append.2 (.inr ?_)
      simp only [rowX, List.mem_map, List.mem_filter, List.mem_range, decide_eq_true_eq]
      exact ⟨1, ⟨by omega, by decide⟩, rfl⟩
    rw [h] at hm
    cases hm
  | succ m ih => intro h; rw [allX] at h; exact ih (List.append_eq_nil_iff.1 h).1
theorem odd_w (x y : Nat) (h : x ≤ 100) (h2 : y ≤ 100) : ((w64 ((x : Int) + (y : Int))).tmod 2 == 1) = decide (((x : Int) + (y : Int)) % 2 = 1) := by
  rw [w64_id (by omega) (by omega), Int.tmod_eq_emod_of_nonneg (by omega)]
  rfl
structure Ext (p : SPanel) (N M : Nat) : Prop where
  w : w64 (2 * p.W) = 2 * p.W
  h : w64 (2 * p.H) = 2 * p.H
  n : 2 * p.W + 1 = (N : Int)
  m : 2 * p.H + 1 = (M : Int)
  n1 : 3 ≤ N ∧ N ≤ 17
  m1 : 3 ≤ M ∧ M ≤ 17
theorem ext_of {p : SPanel} (hd : Dim p) : ∃ N M, Ext p N M := by
  have := hd.w1; have := hd.w2; have := hd.h1; have := hd.h2
  exact ⟨(2 * p.W + 1).toNat, (2 * p.H + 1).toNat, w64_id (by omega) (by omega), w64_id (by omega) (by omega), by omega, by omega, by omega, by omega⟩
theorem all_inner {p : SPanel} {N M : Nat} (h : Ext p N M) (y : Nat) (hy : y ≤ 17) (l : List SPoint) (hl : l.length ≤ 1000) : iter (sh174_2 p (y : Int)) (0, l) = some (l ++ rowX (y : Int) N) := by
  have h1 := h.n1
  have hi := iter_steps (sb := sh174_2 p (y : Int)) (fun k => ((k : Int), l ++ rowX (y : Int) k)) N (x := l ++ rowX (y : Int) N) (by omega) (fun k hk => ?_) ?_
  · simpa [rowX] using hi
  · have hd : decide ((k : Int) < w64 (w64 (2 * p.W) + 1)) = true := by rw [h.w, w64_id (by have := h.n; omega) (by have := h.n; omega)]; exact decide_eq_true (by have := h.n; omega)
    have hr := rowX_len (y : Int) k
    simp only [sh174_2, hd, cond_true, odd_w k y (by omega) (by omega)]
    rw [rowX_succ, w64_id (x := (k : Int) + 1) (by omega) (by omega)]
    by_cases ho : ((k : Int) + (y : Int)) % 2 = 1
    · rw [decide_eq_true ho, cond_true, appL_ok (by simp only [List.length_append, List.length_cons, List.length_nil]; omega), bindS, bindS, if_pos ho, List.append_assoc]; rfl
    · rw [decide_eq_false ho, cond_false, bindS, if_neg ho, List.append_nil]; rfl
  · have hd : decide ((N : Int) < w64 (w64 (2 * p.W) + 1)) = false := by rw [h.w, w64_id (by have := h.n; omega) (by have := h.n; omega)]; exact decide_eq_false (by have := h.n; omega)
    simp only [sh174_2, hd, cond_false]
theorem all_impl {p : SPanel} {N M : Nat} (h : Ext p N M) : sh174 p = some (allX N M) := by
  have h1 := h.n1; have h2 := h.m1
  unfold sh174
  have hi := iter_steps (sb := sh174_1 p) (fun k => ((k : Int), allX N k)) M (x := allX N M) (by omega) (fun k hk => ?_) ?_
  · rw [show ((0 : Int), ([] : List SPoint)) = (((0 : Nat) : Int), allX N 0) from rfl, hi, bindS]
  · have hd : decide ((k : Int) < w64 (w64 (2 * p.H) + 1)) = true := by rw [h.h, w64_id (by have := h.m; omega) (by have := h.m; omega)]; exact decide_eq_true (by have := h.m; omega)
    have hr := allX_len N k
    have hr2 : N * k ≤ 17 * 17 := Nat.mul_le_mul h1.2 (by omega)
    simp only [sh174_1, hd, cond_true, all_inner h k (by omega) (allX N k) (by omega), bindS]
    rw [w64_id (x := (k : Int) + 1) (by omega) (by omega)]
    rfl
  · have hd : decide ((M : Int) < w64 (w64 (2 * p.H) + 1)) = false := by rw [h.h, w64_id (by have := h.m; omega) (by have := h.m; omega)]; exact decide_eq_false (by have := h.m; omega)
    simp only [sh174_1, hd, cond_false]
/-- The square of a distance, and the two ways to look for the least. -/
def sqF (pl : SPoint) (s : Int) (a : SPoint) : Int := w64 (w64 (w64 (pl.X - w64 (a.X * s)) * w64 (pl.X - w64 (a.X * s))) + w64 (w64 (pl.Y - w64 (a.Y * s)) * w64 (pl.Y - w64 (a.Y * s))))
def sqI (pl : SPoint) (s : Int) (a : SPoint) : Int := w64 (w64 (w64 (w64 (a.X * s) - pl.X) * w64 (w64 (a.X * s) - pl.X)) + w64 (w64 (w64 (a.Y * s) - pl.Y) * w64 (w64 (a.Y * s) - pl.Y)))
def gS (pl : SPoint) (s : Int) (b : Int × SPoint) (a : SPoint) : Int × SPoint := if sqF pl s a < b.1 then (sqF pl s a, a) else b
def gI (pl : SPoint) (s : Int) (b : Int × SPoint) (a : SPoint) : Int × SPoint := if b.1 < 0 ∨ sqF pl s a < b.1 then (sqF pl s a, a) else b
theorem near_inner {p : SPanel} {N M : Nat} (h : Ext p N M) (pl : SPoint) (s : Int) (y : Nat) (hy : y ≤ 17) (b : Int) (o : SPoint) : iter (sh136_2 p pl s (y : Int)) (b, w64 (1 - (y : Int).tmod 2), o) = some ((rowX (y : Int) N).foldl (gS pl s) (b, o)) := by
  have h1 := h.n1
  have hx0 : w64 (1 - (y : Int).tmod 2) = 1 - (y : Int) % 2 := by rw [Int.tmod_eq_emod_of_nonneg (by omega), w64_id (by omega) (by omega)]
  rw [hx0]
  obtain ⟨x, hx, hq⟩ := iter_invN (sb := sh136_2 p pl s (y : Int)) (fun t : Int × Int × SPoint => ∃ k : Nat, t.2.1 = k ∧ k ≤ N + 1 ∧ ((k : Int) + (y : Int)) % 2 = 1 ∧ (t.1, t.2.2) = (rowX (y : Int) k).foldl (gS pl s) (b, o)) (fun t : Int × Int × SPoint => ((N : Int) + 2 - t.2.1).toNat) (fun x => x = (rowX (y : Int) N).foldl (gS pl s) (b, o)) (s := (b, 1 - (y : Int) % 2, o)) (by
      refine ⟨(1 - (y : Int) % 2).toNat, by simp only; omega, by omega, by omega, ?_⟩
      rcases (show (y : Int) % 2 = 0 ∨ (y : Int) % 2 = 1 by omega) with h0 | h0
      · rw [h0, show ((1 : Int) - 0).toNat = 0 + 1 from rfl, rowX_succ, if_neg (by omega)]; rfl
      · rw [h0]; rfl) (by simp only; omega) (by
      rintro ⟨c, z, q⟩ ⟨k, rfl, hk, ho, he⟩
      simp only at he
      by_cases hlt : k < N
      · left
        have hd : decide ((k : Int) ≤ w64 (2 * p.W)) = true := by rw [h.w]; exact decide_eq_true (by have := h.n; omega)
        have hsq : sh175 pl ⟨(k : Int), (y : Int)⟩ s = some (sqF pl s ⟨(k : Int), (y : Int)⟩) := rfl
        have hw : w64 ((k : Int) + 2) = ((k + 2 : Nat) : Int) := by rw [w64_id (by omega) (by omega)]; omega
        have hf : rowX (y : Int) (k + 2) = rowX (y : Int) k ++ [⟨(k : Int), (y : Int)⟩] := by rw [rowX_succ, rowX_succ, if_pos ho, if_neg (by omega), List.append_nil]
        simp only [sh136_2, hd, cond_true, hsq, bindS, hw]
        refine ⟨((gS pl s (c, q) ⟨(k : Int), (y : Int)⟩).1, ((k + 2 : Nat) : Int), (gS pl s (c, q) ⟨(k : Int), (y : Int)⟩).2), ?_, ⟨k + 2, rfl, by omega, by omega, ?_⟩, by simp only; omega⟩
        · unfold gS
          by_cases hc : sqF pl s ⟨(k : Int), (y : Int)⟩ < c
          · rw [decide_eq_true hc, if_pos hc]; rfl
          · rw [decide_eq_false hc, if_neg hc]; rfl
        · rw [hf, List.foldl_append, ← he]; rfl
      · right
        have hd : decide ((k : Int) ≤ w64 (2 * p.W)) = false := by rw [h.w]; exact decide_eq_false (by have := h.n; omega)
        simp only [sh136_2, hd, cond_false]
        refine ⟨(c, q), rfl, ?_⟩
        rw [he]
        rcases (show k = N ∨ k = N + 1 by omega) with rfl | rfl
        · rfl
        · rw [rowX_succ, if_neg (by omega), List.append_nil])
  rw [hx, hq]
theorem near_spec {p : SPanel} {N M : Nat} (h : Ext p N M) (pl : SPoint) (s : Int) : ∃ r, sh136 p pl s = some (r.2, decide (r.1 ≤ w64 (s * s))) ∧ r = (allX N M).foldl (gS pl s) (w64 (w64 (s * s) + 1), ⟨0, 0⟩) := by
  have h1 := h.m1
  unfold sh136
  obtain ⟨x, hx, hq⟩ := iter_invN (sb := sh136_1 p pl s) (fun t : Int × Int × SPoint => ∃ k : Nat, t.2.1 = k ∧ k ≤ M ∧ (t.1, t.2.2) = (allX N k).foldl (gS pl s) (w64 (w64 (s * s) + 1), ⟨0, 0⟩)) (fun t : Int × Int × SPoint => ((M : Int) - t.2.1).toNat) (fun x => x = (allX N M).foldl (gS pl s) (w64 (w64 (s * s) + 1), ⟨0, 0⟩)) (s := (w64 (w64 (s * s) + 1), 0, ⟨0, 0⟩)) ⟨0, rfl, by omega, rfl⟩ (by simp only; omega) (by
      rintro ⟨c, z, q⟩ ⟨k, rfl, hk, he⟩
      simp only at he
      by_cases hlt : k < M
      · left
        have hd : decide ((k : Int) ≤ w64 (2 * p.H)) = true := by rw [h.h]; exact decide_eq_true (by have := h.m; omega)
        have hw : w64 ((k : Int) + 1) = ((k + 1 : Nat) : Int) := by rw [w64_id (by omega) (by omega)]; rfl
        simp only [sh136_1, hd, cond_true, near_inner h pl s k (by omega), bindS, hw]
        refine ⟨_, rfl, ⟨k + 1, rfl, hlt, ?_⟩, by simp only; omega⟩
        rw [allX, List.foldl_append, ← he]
      · right
        have hd : decide ((k : Int) ≤ w64 (2 * p.H)) = false := by rw [h.h]; exact decide_eq_false (by have := h.m; omega)
        have hkM : k = M := by omega
        subst hkM
        simp only [sh136_1, hd, cond_false]
        exact ⟨(c, q), rfl, he⟩)
  exact ⟨x, by rw [hx]; rfl, hq⟩
theorem mul_bdN {x y B : Int} (h1 : -B ≤ x) (h2 : x ≤ B) (h3 : -B ≤ y) (h4 : y ≤ B) : -(B * B) ≤ x * y ∧ x * y ≤ B * B := by
  constructor
  · have : (x + B) * (y + B) ≥ 0 := Int.mul_nonneg (by omega) (by omega)
    have h5 : (B - x) * (B - y) ≥ 0 := Int.mul_nonneg (by omega) (by omega)
    rw [Int.add_mul, Int.mul_add, Int.mul_add] at this
    rw [Int.sub_mul, Int.mul_sub, Int.mul_sub] at h5
    have e1 : x * B = B * x := Int.mul_comm ..
    omega
  · have : (B - x) * (y + B) ≥ 0 := Int.mul_nonneg (by omega) (by omega)
    have h5 : (x + B) * (B - y) ≥ 0 := Int.mul_nonneg (by omega) (by omega)
    rw [Int.sub_mul, Int.mul_add, Int.mul_add] at this
    rw [Int.add_mul, Int.mul_sub, Int.mul_sub] at h5
    have e1 : x * B = B * x := Int.mul_comm ..
    omega
theorem sq_nonneg (x : Int) : 0 ≤ x * x := by
  rcases Int.le_total 0 x with h | h
  · exact Int.mul_nonneg h h
  · have := Int.mul_nonneg (show 0 ≤ -x by omega) (show 0 ≤ -x by omega)
    rwa [Int.neg_mul_neg] at this
theorem sq_ok {pl : SPoint} {s : Int} {a : SPoint} (hp : (0 ≤ pl.X ∧ pl.X ≤ 2000) ∧ (0 ≤ pl.Y ∧ pl.Y ≤ 2000)) (hs : 2 ≤ s ∧ s ≤ 100) (ha : (0 ≤ a.X ∧ a.X ≤ 17) ∧ (0 ≤ a.Y ∧ a.Y ≤ 17)) : sqI pl s a = sqF pl s a ∧ 0 ≤ sqF pl s a := by
  have m1 := mul_bdN (x := a.X) (y := s) (B := 100) (by omega) (by omega) (by omega) (by omega)
  have m2 := mul_bdN (x := a.Y) (y := s) (B := 100) (by omega) (by omega) (by omega) (by omega)
  unfold sqI sqF
  rw [w64_id (x := a.X * s) (by omega) (by omega), w64_id (x := a.Y * s) (by omega) (by omega)]
  generalize a.X * s = u at *
  generalize a.Y * s = v at *
  rw [w64_id (x := u - pl.X) (by omega) (by omega), w64_id (x := v - pl.Y) (by omega) (by omega), w64_id (x := pl.X - u) (by omega) (by omega), w64_id (x := pl.Y - v) (by omega) (by omega)]
  have e1 : (u - pl.X) * (u - pl.X) = (pl.X - u) * (pl.X - u) := by rw [← Int.neg_mul_neg, show -(u - pl.X) = pl.X - u by omega]
  have e2 : (v - pl.Y) * (v - pl.Y) = (pl.Y - v) * (pl.Y - v) := by rw [← Int.neg_mul_neg, show -(v - pl.Y) = pl.Y - v by omega]
  rw [e1, e2]
  refine ⟨rfl, ?_⟩
  have n1 := mul_bdN (x := pl.X - u) (y := pl.X - u) (B := 12000) (by omega) (by omega) (by omega) (by omega)
  have n2 := mul_bdN (x := pl.Y - v) (y := pl.Y - v) (B := 12000) (by omega) (by omega) (by omega) (by omega)
  have q1 := sq_nonneg (pl.X - u)
  have q2 := sq_nonneg (pl.Y - v)
  generalize (pl.X - u) * (pl.X - u) = z1 at *
  generalize (pl.Y - v) * (pl.Y - v) = z2 at *
  rw [w64_id (x := z1) (by omega) (by omega), w64_id (x := z2) (by omega) (by omega), w64_id (by omega) (by omega)]
  omega
theorem near_impl {p : SPanel} {N M : Nat} (h : Ext p N M) {pl : SPoint} {s : Int} (hp : (0 ≤ pl.X ∧ pl.X ≤ 2000) ∧ (0 ≤ pl.Y ∧ pl.Y ≤ 2000)) (hs : 2 ≤ s ∧ s ≤ 100) : ∃ r, sh134 p pl s = some (r.2, decide (r.1 ≤ w64 (s * s))) ∧ r = (allX N M).foldl (gI pl s) (-1, ⟨0, 0⟩) := by
  have h1 := h.m1
  have h2 := h.n1
  unfold sh134
  rw [all_impl h, bindS]
  have hl := allX_len N M
  have hl2 : N * M ≤ 17 * 17 := Nat.mul_le_mul h2.2 h1.2
  have hi := iter_fold (sb := sh134_1 pl s (allX N M)) (allX N M) (fun k (l : Int × SPoint) => (l.1, (k : Int), l.2)) (gI pl s) (fun l => l) (fun _ _ => True) (-1, ⟨0, 0⟩) trivial (by omega) (fun k hk l _ => ?_) (fun l _ => by
      have hd : decide (((allX N M).length : Int) < ((allX N M).length : Int)) = false := by simp
      simp only [sh134_1, hd, cond_false])
  · have e := hi.1
    simp only [Int.natCast_zero] at e
    rw [e]
    exact ⟨_, rfl, rfl⟩
  · refine ⟨?_, trivial⟩
    have hd : decide ((k : Int) < ((allX N M).length : Int)) = true := decide_eq_true (by omega)
    obtain ⟨x, y, hx, hy, _, hxy⟩ := mem_allX (List.getElem_mem hk)
    have hq : sqI pl s (allX N M)[k] = sqF pl s (allX N M)[k] := (sq_ok hp hs (by rw [hxy]; exact ⟨⟨by simp only; omega, by simp only; omega⟩, by simp only; omega, by simp only; omega⟩)).1
    simp only [sh134_1, hd, cond_true, getI_lt hk, bindS, w64_id (x := (k : Int) + 1) (by omega) (by omega)]
    rw [show w64 (w64 (w64 (w64 ((allX N M)[k].X * s) - pl.X) * w64 (w64 ((allX N M)[k].X * s) - pl.X)) + w64 (w64 (w64 ((allX N M)[k].Y * s) - pl.Y) * w64 (w64 ((allX N M)[k].Y * s) - pl.Y))) = sqI pl s (allX N M)[k] from rfl, hq]
    unfold gI
    by_cases hc : l.1 < 0 ∨ sqF pl s (allX N M)[k] < l.1
    · have hc2 : (decide (l.1 < 0) || decide (sqF pl s (allX N M)[k] < l.1)) = true := by simpa using hc
      rw [hc2, if_pos hc]; rfl
    · have hc2 : (decide (l.1 < 0) || decide (sqF pl s (allX N M)[k] < l.1)) = false := by simp at hc ⊢; omega
      rw [hc2, if_neg hc]; rfl
theorem fold_rel {pl : SPoint} {s S : Int} (hS : 0 ≤ S) (Q : List SPoint) : ∀ (P : List SPoint), (∀ a ∈ P, a ∈ Q ∧ 0 ≤ sqF pl s a) → ∀ (u v : Int × SPoint),
    ((u.1 = -1 ∧ v.1 = S + 1) ∨ (0 ≤ u.1 ∧ u.2 ∈ Q ∧ ((u.1 ≤ S ∧ v = u) ∨ (S < u.1 ∧ v.1 = S + 1)))) →
    (let u' := P.foldl (gI pl s) u; let v' := P.foldl (gS pl s) v; ((u'.1 = -1 ∧ v'.1 = S + 1 ∧ P = []) ∨ (0 ≤ u'.1 ∧ u'.2 ∈ Q ∧ ((u'.1 ≤ S ∧ v' = u') ∨ (S < u'.1 ∧ v'.1 = S + 1)))))
  | [], _, u, v, h => by
    rcases h with ⟨h1, h2⟩ | h
    · exact .inl ⟨h1, h2, rfl⟩
    · exact .inr h
  | a :: P, hP, u, v, h => by
    obtain ⟨ha, hq⟩ := hP a (List.mem_cons_self ..)
    have key : 0 ≤ (gI pl s u a).1 ∧ (gI pl s u a).2 ∈ Q ∧ (((gI pl s u a).1 ≤ S ∧ gS pl s v a = gI pl s u a) ∨ (S < (gI pl s u a).1 ∧ (gS pl s v a).1 = S + 1)) := by
      unfold gI gS
      rcases h with ⟨h1, h2⟩ | ⟨h1, h2, h3⟩
      · rw [if_pos (.inl (by omega))]
        refine ⟨hq, ha, ?_⟩
        by_cases hc : sqF pl s a < v.1
        · rw [if_pos hc]; exact .inl ⟨by simp only; omega, rfl⟩
        · rw [if_neg hc]; exact .inr ⟨by simp only; omega, h2⟩
      · rcases h3 with ⟨h3, rfl⟩ | ⟨h3, h4⟩
        · by_cases hc : sqF pl s a < v.1
          · rw [if_pos (.inr hc), if_pos hc]; exact ⟨hq, ha, .inl ⟨by simp only; omega, rfl⟩⟩
          · rw [if_neg (by omega), if_neg hc]; exact ⟨h1, h2, .inl ⟨h3, rfl⟩⟩
        · by_cases hc : sqF pl s a < u.1
          · rw [if_pos (.inr hc)]
            refine ⟨hq, ha, ?_⟩
            by_cases hd : sqF pl s a < v.1
            · rw [if_pos hd]; exact .inl ⟨by simp only; omega, rfl⟩
            · rw [if_neg hd]; exact .inr ⟨by simp only; omega, h4⟩
          · rw [if_neg (by omega), if_neg (by omega)]; exact ⟨h1, h2, .inr ⟨h3, h4⟩⟩
    have := fold_rel hS Q P (fun b hb => hP b (List.mem_cons_of_mem _ hb)) (gI pl s u a) (gS pl s v a) (.inr key)
    rcases this with ⟨h1, h2, rfl⟩ | h
    · exact .inr key
    · exact .inr h
/-- Both find the same point, or none. -/
theorem near_same {p : SPanel} (hd : Dim p) {pl : SPoint} {s : Int} (hp : (0 ≤ pl.X ∧ pl.X ≤ 2000) ∧ (0 ≤ pl.Y ∧ pl.Y ≤ 2000)) (hs : 2 ≤ s ∧ s ≤ 100) :
    (∃ a, sh136 p pl s = some (a, true) ∧ sh134 p pl s = some (a, true) ∧ (0 ≤ a.X ∧ a.X ≤ 2 * p.W) ∧ (0 ≤ a.Y ∧ a.Y ≤ 2 * p.H) ∧ (a.X + a.Y) % 2 = 1) ∨
    ∃ a b, sh136 p pl s = some (a, false) ∧ sh134 p pl s = some (b, false) := by
  obtain ⟨N, M, h⟩ := ext_of hd
  have h1 := h.n1; have h2 := h.m1; have e1 := h.n; have e2 := h.m
  obtain ⟨v, hv, hv2⟩ := near_spec h pl s
  obtain ⟨u, hu, hu2⟩ := near_impl h hp hs
  have mb := mul_bdN (x := s) (y := s) (B := 100) (by omega) (by omega) (by omega) (by omega)
  have q0 := sq_nonneg s
  have hw : w64 (s * s) = s * s := w64_id (by omega) (by omega)
  rw [hw] at hv hu hv2
  rw [w64_id (x := s * s + 1) (by omega) (by omega)] at hv2
  have hr := fold_rel (pl := pl) (s := s) (S := s * s) q0 (allX N M) (allX N M) (fun a ha => by
    obtain ⟨x, y, hx, hy, _, rfl⟩ := mem_allX ha
    exact ⟨ha, (sq_ok hp hs ⟨⟨by simp only; omega, by simp only; omega⟩, by simp only; omega, by simp only; omega⟩).2⟩) (-1, ⟨0, 0⟩) (s * s + 1, ⟨0, 0⟩) (.inl ⟨rfl, rfl⟩)
  rw [← hu2, ← hv2] at hr
  rcases hr with ⟨_, _, h3⟩ | ⟨h3, h4, h5⟩
  · exact absurd h3 (allX_ne (by omega) (by omega))
  · rcases h5 with ⟨h5, rfl⟩ | ⟨h5, h6⟩
    · left
      obtain ⟨x, y, hx, hy, hxy, he⟩ := mem_allX h4
      refine ⟨v.2, by rw [hv, decide_eq_true h5], by rw [hu, decide_eq_true h5], ?_⟩
      rw [he]
      refine ⟨⟨?_, ?_⟩, ⟨?_, ?_⟩, hxy⟩ <;> simp only <;> omega
    · right
      exact ⟨v.2, u.2, by rw [hv, decide_eq_false (by omega)], by rw [hu, decide_eq_false (by omega)]⟩

/-! strokes -/
def placeB (p : SPoint) : Bool := (decide (0 ≤ p.X) && decide (p.X ≤ 2000)) && (decide (0 ≤ p.Y) && decide (p.Y ≤ 2000))
def strokeB (q : List SPoint) : Bool := (decide (1 ≤ q.length) && decide (q.length ≤ 60)) && q.all placeB
theorem l19Ok_eq (q : List SPoint) (h : q.length ≤ 1048577) : sh121 q = some (strokeB q) := by
  unfold sh121 strokeB
  rw [iter_all (xs := q) (p := placeB) (r := false) (by omega) (fun k hk => ?_) (by simp [sh121_1]), bindS]
  · cases ha : q.all placeB
    · simp [elimS]
    · simp only [elimS, if_true, sh127, bindS, Bool.and_true]
      congr 2
      · simp only [decide_eq_decide]; omega
      · simp only [decide_eq_decide]; omega
  · have h2 : (k : Int) < q.length := by omega
    simp only [sh121_1, sh127, h2, decide_true, cond_true, getI_lt hk, bindS]
    rw [w64_id (x := (k : Int) + 1) (by omega) (by omega)]
    unfold placeB
    cases h0 : decide (0 ≤ q[k].X) && decide (q[k].X ≤ 2000) <;> cases h1 : decide (0 ≤ q[k].Y) && decide (q[k].Y ≤ 2000) <;> rfl
theorem isPlace_eq (p : SPoint) : sh132 p = some (placeB p) := by
  unfold sh132 sh125 placeB
  simp only [bindS]
  cases decide (0 ≤ p.X) && decide (p.X ≤ 2000) <;> rfl
theorem validStroke_eq (q : List SPoint) (h : q.length ≤ 1048577) : sh78 q = some (strokeB q) := by
  unfold sh78 sh140f141 sh176f141 sh125
  rw [iter_find (xs := q) (p := fun x => !placeB x) (by omega) (fun k hk => ?_) (by simp [sh176f141_1])]
  · simp only [bindS]
    unfold strokeB
    have e1 : decide ((1 : Int) ≤ (q.length : Int)) = decide (1 ≤ q.length) := by simp only [decide_eq_decide]; omega
    have e2 : decide ((q.length : Int) ≤ 60) = decide (q.length ≤ 60) := by simp only [decide_eq_decide]; omega
    rw [e1, e2]
    cases hc : decide (1 ≤ q.length) && decide (q.length ≤ 60)
    · rfl
    · have ha : q.any (fun x => !placeB x) = !q.all placeB := by rw [List.all_eq_not_any_not]; simp
      rw [ha]
      cases q.all placeB
      · simp [elimS]
      · simp [elimS]
  · have h2 : (k : Int) < q.length := by omega
    simp only [sh176f141_1, sh141, isPlace_eq, h2, decide_true, cond_true, getI_lt hk, bindS]
    rw [w64_id (x := (k : Int) + 1) (by omega) (by omega)]
    cases placeB q[k] <;> rfl
theorem strokeB_len {q : List SPoint} (h : strokeB q = true) : q.length ≤ 60 := by
  unfold strokeB at h
  simp only [Bool.and_eq_true, decide_eq_true_eq] at h
  exact h.1.2


/-! points -/

/-! polygon -/
def cornerB (p : SPoint) : Bool := (decide (-100000 ≤ p.X) && decide (p.X ≤ 100000)) && (decide (-100000 ≤ p.Y) && decide (p.Y ≤ 100000))
def polyB (q : List SPoint) : Bool := (decide (3 ≤ q.length) && decide (q.length ≤ 300)) && q.all cornerB

theorem polyB_len {q : List SPoint} (h : polyB q = true) : 3 ≤ q.length ∧ q.length ≤ 300 := by
  unfold polyB at h
  simp only [Bool.and_eq_true, decide_eq_true_eq] at h
  exact h.1

/-! max -/
theorem l00Max_eq (a b : Int) : sh129 a b = some (mx a b) := by
  unfold sh129
  rw [← mx_comm']
  by_cases h : b < a <;> simp [h]

/-! min -/
theorem l00Min_eq (a b : Int) : sh164 a b = some (mn a b) := by
  unfold sh164 mn
  by_cases h : a < b
  · have : ¬ b < a := by omega
    simp [h, this]
  · by_cases h2 : b < a <;> simp [h, h2] <;> omega

/-! boxof -/
def boxS (s : SPoint × SPoint) (p : SPoint) : SPoint × SPoint := (⟨mn s.1.X p.X, mn s.1.Y p.Y⟩, ⟨mx s.2.X p.X, mx s.2.Y p.Y⟩)
theorem boxS_same (p : SPoint) : boxS (p, p) p = (p, p) := by
  unfold boxS mn mx
  simp

theorem boxOf_eq (p : SPoint) (t : List SPoint) (h : t.length ≤ 1048576) : sh120 (p :: t) = some (t.foldl boxS (p, p)) := by
  unfold sh120
  have hg : getI (p :: t) 0 = some p := rfl
  rw [hg, bindS, bindS]
  have hi := iter_fold (sb := sh120_1 (p :: t)) (p :: t) (fun k s => ((k : Int), s.1, s.2)) boxS (fun s => (s.1, s.2)) (fun _ _ => True) (p, p) trivial (by simp; omega) (fun k hk s _ => ⟨by
      have h2 : (k : Int) < (p :: t).length := by omega
      simp only [sh120_1, h2, decide_true, cond_true, getI_lt hk, bindS]
      simp only [List.length_cons] at hk
      rw [w64_id (by omega) (by omega)]
      rfl, trivial⟩) (fun s _ => by
      have hd : decide (((p :: t).length : Int) < ((p :: t).length : Int)) = false := by simp
      simp only [sh120_1, hd, cond_false])
  have h1 := hi.1
  simp only [Int.natCast_zero] at h1
  rw [h1, bindS, List.foldl_cons, boxS_same]

theorem l19Box_eq (p : SPoint) (t : List SPoint) (h : t.length ≤ 1048576) : sh122 (p :: t) = some (t.foldl boxS (p, p)) := by
  unfold sh122
  have hg : getI (p :: t) 0 = some p := rfl
  rw [hg, bindS, bindS]
  have hi := iter_fold (sb := sh122_1 (p :: t)) t (fun k s => ((k : Int) + 1, s.1, s.2)) boxS (fun s => (s.1, s.2)) (fun _ _ => True) (p, p) trivial (by omega) (fun k hk s _ => ⟨by
      have hk1 : k + 1 < (p :: t).length := by simp; omega
      have h2 : (k : Int) + 1 < (p :: t).length := by omega
      have hgk : getI (p :: t) ((k : Int) + 1) = some t[k] := by have := getI_lt hk1; simpa using this
      simp only [sh122_1, h2, decide_true, cond_true, hgk, bindS, l00Min_eq, l00Max_eq]
      rw [w64_id (by omega) (by omega)]
      rfl, trivial⟩) (fun s _ => by
      have hd : decide ((t.length : Int) + 1 < ((p :: t).length : Int)) = false := by simp
      simp only [sh122_1, hd, cond_false])
  have h1 := hi.1
  simp only [Int.natCast_zero, Int.zero_add] at h1
  rw [h1, bindS]


/-! applystroke -/
theorem box_bd {B : Int} : ∀ (t : List SPoint) (z : SPoint × SPoint), ((0 ≤ z.1.X ∧ z.1.X ≤ B) ∧ (0 ≤ z.1.Y ∧ z.1.Y ≤ B) ∧ (0 ≤ z.2.X ∧ z.2.X ≤ B) ∧ (0 ≤ z.2.Y ∧ z.2.Y ≤ B)) → (∀ a ∈ t, (0 ≤ a.X ∧ a.X ≤ B) ∧ (0 ≤ a.Y ∧ a.Y ≤ B)) →
    (let r := t.foldl boxS z; (0 ≤ r.1.X ∧ r.1.X ≤ B) ∧ (0 ≤ r.1.Y ∧ r.1.Y ≤ B) ∧ (0 ≤ r.2.X ∧ r.2.X ≤ B) ∧ (0 ≤ r.2.Y ∧ r.2.Y ≤ B))
  | [], z, h, _ => h
  | a :: t, z, h, ht => by
    have ha := ht a (List.mem_cons_self ..)
    refine box_bd t (boxS z a) ?_ (fun b hb => ht b (List.mem_cons_of_mem _ hb))
    unfold boxS mn mx
    refine ⟨⟨?_, ?_⟩, ⟨?_, ?_⟩, ⟨?_, ?_⟩, ?_, ?_⟩ <;> simp only <;> split <;> omega
def kindF (b : SPoint × SPoint) (s : Int) : Int := bif (decide (w64 (2 * w64 (b.2.X - b.1.X)) < s) && decide (w64 (2 * w64 (b.2.Y - b.1.Y)) < s)) then 0 else (bif decide (w64 (2 * w64 (b.2.X - b.1.X)) ≤ w64 (b.2.Y - b.1.Y)) then 1 else (bif decide (w64 (2 * w64 (b.2.Y - b.1.Y)) ≤ w64 (b.2.X - b.1.X)) then 2 else 3))
theorem kindF_cases (b : SPoint × SPoint) (s : Int) : kindF b s = 0 ∨ kindF b s = 1 ∨ kindF b s = 2 ∨ kindF b s = 3 := by
  unfold kindF
  cases (decide (w64 (2 * w64 (b.2.X - b.1.X)) < s) && decide (w64 (2 * w64 (b.2.Y - b.1.Y)) < s)) <;> cases decide (w64 (2 * w64 (b.2.X - b.1.X)) ≤ w64 (b.2.Y - b.1.Y)) <;> cases decide (w64 (2 * w64 (b.2.Y - b.1.Y)) ≤ w64 (b.2.X - b.1.X)) <;> simp
theorem kind_spec {q : List SPoint} {b : SPoint × SPoint} (h : sh122 q = some b) (s : Int) : sh139 q s = some (kindF b s) := by
  unfold sh139 kindF
  rw [h, bindS]
  cases (decide (w64 (2 * w64 (b.2.X - b.1.X)) < s) && decide (w64 (2 * w64 (b.2.Y - b.1.Y)) < s)) <;> cases decide (w64 (2 * w64 (b.2.X - b.1.X)) ≤ w64 (b.2.Y - b.1.Y)) <;> cases decide (w64 (2 * w64 (b.2.Y - b.1.Y)) ≤ w64 (b.2.X - b.1.X)) <;> rfl
theorem kind_impl {q : List SPoint} {b : SPoint × SPoint} (h : sh120 q = some b) (s : Int) : sh137 q s = some (kindF b s) := by
  unfold sh137 kindF
  rw [h, bindS]
  cases (decide (w64 (2 * w64 (b.2.X - b.1.X)) < s) && decide (w64 (2 * w64 (b.2.Y - b.1.Y)) < s)) <;> cases decide (w64 (2 * w64 (b.2.X - b.1.X)) ≤ w64 (b.2.Y - b.1.Y)) <;> cases decide (w64 (2 * w64 (b.2.Y - b.1.Y)) ≤ w64 (b.2.X - b.1.X)) <;> rfl
theorem stroke_facts {q : List SPoint} (h : strokeB q = true) : ∃ a t, q = a :: t ∧ q.length ≤ 60 ∧ ∀ b ∈ q, (0 ≤ b.X ∧ b.X ≤ 2000) ∧ (0 ≤ b.Y ∧ b.Y ≤ 2000) := by
  unfold strokeB at h
  simp only [Bool.and_eq_true, decide_eq_true_eq, List.all_eq_true] at h
  obtain ⟨⟨h1, h2⟩, h3⟩ := h
  cases q with
  | nil => simp at h1
  | cons a t =>
    refine ⟨a, t, rfl, h2, fun b hb => ?_⟩
    have := h3 b hb
    unfold placeB at this
    simpa only [Bool.and_eq_true, decide_eq_true_eq] using this
theorem half_bd {a b : Int} (ha : 0 ≤ a ∧ a ≤ 2000) (hb : 0 ≤ b ∧ b ≤ 2000) : 0 ≤ w64 ((w64 (a + b)).tdiv 2) ∧ w64 ((w64 (a + b)).tdiv 2) ≤ 2000 := by
  rw [w64_id (x := a + b) (by omega) (by omega), Int.tdiv_eq_ediv_of_nonneg (by omega), w64_id (by omega) (by omega)]
  omega
theorem panel_eta (p : SPanel) : SPanel.mk p.W p.H p.Breaks = p := rfl
def scaleB (s : Int) : Bool := decide (2 ≤ s) && decide (s ≤ 100)

/-! src -/
/-- Bytes from which is drawn. -/
def srcB (c : List Int) : Prop := ∀ x ∈ c, 0 ≤ x ∧ x ≤ 255
theorem okI_u8 {x : Int} (h : okI .u8 x) : 0 ≤ x ∧ x ≤ 255 := by
  unfold okI Lit.wf at h
  simp only [Bool.and_eq_true, decide_eq_true_eq] at h
  have h1 : IntKind.u8.min = 0 := by decide
  have h2 : IntKind.u8.max = 255 := by decide
  rw [h1, h2] at h
  exact h
theorem srcB_of {c : List Int} (h : ∀ y ∈ c, okI .u8 y) : srcB c := fun x hx => okI_u8 (h x hx)
theorem andI_255 (a : Int) : 0 ≤ andI .u64 a 255 ∧ andI .u64 a 255 ≤ 255 := by
  unfold andI
  have hle : (BitVec.ofInt IntKind.u64.bits a &&& BitVec.ofInt IntKind.u64.bits 255).toNat ≤ 255 := by
    rw [BitVec.toNat_and]
    refine Nat.le_trans Nat.and_le_right ?_
    decide
  rw [IntKind.wrap_u64]
  omega
theorem next_ok (q : Sl00Src) (hc : srcB q.code) (h0 : 0 ≤ q.at_) (h1 : q.at_ ≤ 4611686018427387904) :
    ∃ r, sh165 q = some r ∧ (0 ≤ r.1 ∧ r.1 ≤ 255) ∧ 0 ≤ r.2.1 ∧ r.2.1 ≤ q.at_ + 1 := by
  unfold sh165
  have hw : w64 (q.at_ + 1) = q.at_ + 1 := w64_id (by omega) (by omega)
  have hfin : ∀ b : Int, 0 ≤ b ∧ b ≤ 255 → ∀ s t : Int, ∃ r, (bif decide (w64 (q.at_ + 1) ≤ (q.code.length : Int)) then some (b, w64 (q.at_ + 1), s) else some (w64 (andI .u64 t 255), w64 (q.at_ + 1), s)) = some r ∧ (0 ≤ r.1 ∧ r.1 ≤ 255) ∧ 0 ≤ r.2.1 ∧ r.2.1 ≤ q.at_ + 1 := by
    intro b hb s t
    have ha := andI_255 t
    have hwa : w64 (andI .u64 t 255) = andI .u64 t 255 := w64_id (by omega) (by omega)
    rw [hw, hwa]
    cases decide (q.at_ + 1 ≤ (q.code.length : Int))
    · exact ⟨_, rfl, ha, by simp only; omega, by simp only; omega⟩
    · exact ⟨_, rfl, hb, by simp only; omega, by simp only; omega⟩
  by_cases hl : q.at_ < (q.code.length : Int)
  · have hn : q.at_.toNat < q.code.length := by omega
    have hb := hc _ (List.getElem_mem hn)
    rw [decide_eq_true hl, cond_true, getI_toNat h0 hn, bindS, w64_id (by omega) (by omega), bindS]
    exact hfin _ hb _ _
  · rw [decide_eq_false hl, cond_false, bindS]
    exact hfin 0 (by omega) _ _
theorem pick_ok (q : Sl00Src) (n : Int) (hc : srcB q.code) (h0 : 0 ≤ q.at_) (h1 : q.at_ ≤ 2305843009213693952) :
    ∃ r, sh113 q n = some r ∧ (0 ≤ r.1 ∧ (r.1 < n ∨ r.1 = 0)) ∧ 0 ≤ r.2.1 ∧ r.2.1 ≤ q.at_ + 2 := by
  unfold sh113
  by_cases hn : n ≤ 1
  · rw [decide_eq_true hn, cond_true]
    exact ⟨_, rfl, by simp, h0, by simp only; omega⟩
  · rw [decide_eq_false hn, cond_false]
    obtain ⟨x, e, b, a0, a1⟩ := next_ok q hc h0 (by omega)
    rw [e, bindS]
    have hmod : ∀ z : Int, 0 ≤ z → 0 ≤ z.tmod n ∧ z.tmod n < n := fun z hz => by
      rw [Int.tmod_eq_emod_of_nonneg hz]
      exact ⟨Int.emod_nonneg _ (by omega), Int.emod_lt_of_pos _ (by omega)⟩
    by_cases hb : 200 < n
    · obtain ⟨y, e2, b2, c0, c1⟩ := next_ok ⟨q.code, x.2.1, x.2.2⟩ hc a0 (by simp only; omega)
      rw [decide_eq_true hb, cond_true, e2, bindS, bindS, nzI_ok (by omega), bindS]
      simp only at c1
      rw [w64_id (x := x.1 * 256) (by omega) (by omega), w64_id (by omega) (by omega)]
      have := hmod (x.1 * 256 + y.1) (by omega)
      exact ⟨_, rfl, ⟨this.1, .inl this.2⟩, c0, by simp only; omega⟩
    · rw [decide_eq_false hb, cond_false, bindS, nzI_ok (by omega), bindS]
      have := hmod x.1 b.1
      exact ⟨_, rfl, ⟨this.1, .inl this.2⟩, a0, by simp only; omega⟩
theorem one_ok (q : Sl00Src) (n : Int) (hc : srcB q.code) (h0 : 0 ≤ q.at_) (h1 : q.at_ ≤ 2305843009213693952) :
    ∃ r, sh123 q n = some r ∧ 0 ≤ r.2.1 ∧ r.2.1 ≤ q.at_ + 2 := by
  unfold sh123
  obtain ⟨x, e, _, a0, a1⟩ := pick_ok q n hc h0 h1
  rw [e, bindS]
  exact ⟨_, rfl, a0, a1⟩
theorem among_ok (q : Sl00Src) (l : List Int) (hc : srcB q.code) (h0 : 0 ≤ q.at_) (h1 : q.at_ ≤ 2305843009213693952) (hl : 0 < l.length) :
    ∃ r, sh124 q l = some r ∧ r.1 ∈ l ∧ 0 ≤ r.2.1 ∧ r.2.1 ≤ q.at_ + 2 := by
  unfold sh124
  obtain ⟨x, e, b, a0, a1⟩ := pick_ok q l.length hc h0 h1
  have hx : x.1.toNat < l.length := by omega
  rw [e, bindS, getI_toNat b.1 hx, bindS]
  exact ⟨_, rfl, List.getElem_mem hx, a0, a1⟩
theorem f6big_eq (c : List Int) (h : c.length ≤ 9223372036854775807) : sh45 c = some (decide (4096 < c.length)) := by
  unfold sh45
  congr 1
  simp only [decide_eq_decide]; omega

/-! decimal -/
theorem u64_id {x : Int} (h1 : 0 ≤ x) (h2 : x < 18446744073709551616) : IntKind.u64.wrap x = x := by
  unfold IntKind.wrap
  have hs : IntKind.u64.signed = false := rfl
  have hb : IntKind.u64.bits = 64 := rfl
  simp only [hs, hb, Bool.false_and]
  show x % 2 ^ 64 = x
  omega
theorem u64_neg {x : Int} (h1 : -9223372036854775808 ≤ x) (h2 : x < 0) : IntKind.u64.wrap (0 - IntKind.u64.wrap x) = -x := by
  unfold IntKind.wrap
  have hs : IntKind.u64.signed = false := rfl
  have hb : IntKind.u64.bits = 64 := rfl
  simp only [hs, hb, Bool.false_and]
  show (0 - x % 2 ^ 64) % 2 ^ 64 = -x
  omega
theorem u8_id {x : Int} (h1 : 0 ≤ x) (h2 : x < 256) : IntKind.u8.wrap x = x := by
  unfold IntKind.wrap
  have hs : IntKind.u8.signed = false := rfl
  have hb : IntKind.u8.bits = 8 := rfl
  simp only [hs, hb, Bool.false_and]
  show x % 2 ^ 8 = x
  omega

/-- The digits of a number, the first one first. -/
def digs (n : Nat) : List Int := if h : n = 0 then [] else digs (n / 10) ++ [48 + ((n % 10 : Nat) : Int)]
decreasing_by omega
theorem digs_zero : digs 0 = [] := by unfold digs; simp
theorem digs_pos {n : Nat} (h : 0 < n) : digs n = digs (n / 10) ++ [48 + ((n % 10 : Nat) : Int)] := by
  rw [digs]; simp [show n ≠ 0 by omega]
theorem digs_len : ∀ (k n : Nat), n < 10 ^ k → (digs n).length ≤ k
  | 0, n, h => by
    have : n = 0 := by simpa using h
    subst this; simp [digs_zero]
  | k + 1, n, h => by
    by_cases h0 : n = 0
    · subst h0; simp [digs_zero]
    · rw [digs_pos (by omega), List.length_append]
      have := digs_len k (n / 10) (by rw [Nat.pow_succ] at h; omega)
      simp; omega
theorem digs_byte (n : Nat) : ∀ x ∈ digs n, 48 ≤ x ∧ x ≤ 57 := by
  induction n using Nat.strongRecOn with
  | ind n ih =>
    intro x hx
    by_cases h0 : n = 0
    · subst h0; rw [digs_zero] at hx; simp at hx
    · rw [digs_pos (by omega)] at hx
      rcases List.mem_append.1 hx with h | h
      · exact ih (n / 10) (by omega) x h
      · simp at h; omega
theorem digs_ne {n : Nat} (h : 0 < n) : digs n ≠ [] := by rw [digs_pos h]; simp

/-- The bytes of a number in decimal. -/
def decL (n : Int) : List Int := if n = 0 then [48] else (if n < 0 then [45] else []) ++ digs n.natAbs
theorem decL_len {n : Int} (h1 : -9223372036854775808 ≤ n) (h2 : n ≤ 9223372036854775807) : (decL n).length ≤ 20 := by
  unfold decL
  have := digs_len 19 n.natAbs (by omega)
  split
  · simp
  · split <;> simp <;> omega
theorem decL_byte (n : Int) : ∀ x ∈ decL n, 0 ≤ x ∧ x < 256 := by
  intro x hx
  unfold decL at hx
  split at hx
  · simp at hx; omega
  · rcases List.mem_append.1 hx with h | h
    · split at h <;> simp at h; omega
    · have := digs_byte _ x h; omega

/-! bytes as a string -/
theorem bytesS_foldl : ∀ (xs : List Int) (s : ByteArray), xs.foldl (fun r n => r.push (UInt8.ofNat n.toNat)) s = ⟨s.data ++ (xs.map fun n => UInt8.ofNat n.toNat).toArray⟩
  | [], s => by simp
  | n :: ns, s => by
    rw [List.foldl_cons, bytesS_foldl ns]
    simp [ByteArray.push]
theorem bytesS_data (xs : List Int) : bytesS xs = ⟨(xs.map fun n => UInt8.ofNat n.toNat).toArray⟩ := by
  unfold bytesS
  rw [bytesS_foldl]
  congr 1
  apply Array.ext'
  simp [ByteArray.empty, ByteArray.emptyWithCapacity]
  rfl
theorem bytesS_size (xs : List Int) : (bytesS xs).size = xs.length := by
  rw [bytesS_data]
  show (List.toArray _).size = _
  simp
theorem bytesS_append (xs ys : List Int) : bytesS xs ++ bytesS ys = bytesS (xs ++ ys) := by
  apply ByteArray.ext
  rw [ByteArray.data_append, bytesS_data, bytesS_data, bytesS_data]
  apply Array.ext'
  simp
theorem strI_bytesS {xs : List Int} (h : ∀ x ∈ xs, 0 ≤ x ∧ x < 256) : strI (bytesS xs) = xs := by
  rw [bytesS_data, strI]
  simp only [List.map_map]
  conv => rhs; rw [← List.map_id xs]
  refine List.map_congr_left fun x hx => ?_
  obtain ⟨h1, h2⟩ := h x hx
  show ((UInt8.ofNat x.toNat).toNat : Int) = x
  rw [UInt8.toNat_ofNat']
  omega
theorem catS_ok {xs ys : List Int} (h : xs.length + ys.length ≤ 1099511627776) : catS (bytesS xs) (bytesS ys) = some (bytesS (xs ++ ys)) := by
  have : LIM = 1099511627776 := rfl
  unfold catS
  rw [bytesS_size, bytesS_size, if_pos (by omega), bytesS_append]
theorem lit_nil : (ByteArray.mk #[] : ByteArray) = bytesS [] := rfl
theorem lit_minus : (ByteArray.mk #[45] : ByteArray) = bytesS [45] := rfl
theorem lit_zero : (ByteArray.mk #[48] : ByteArray) = bytesS [48] := rfl
theorem lit_blank : (ByteArray.mk #[32] : ByteArray) = bytesS [32] := rfl

theorem tmod_abs (n : Int) : (if n.tmod 10 < 0 then 0 - n.tmod 10 else n.tmod 10) = ((n.natAbs % 10 : Nat) : Int) := by
  by_cases h : 0 ≤ n
  · rw [Int.tmod_eq_emod_of_nonneg h]; split <;> omega
  · have := Int.neg_tmod (-n) 10
    rw [Int.neg_neg] at this
    rw [this, Int.tmod_eq_emod_of_nonneg (by omega)]
    split <;> omega
theorem tdiv_abs (n : Int) : (n.tdiv 10).natAbs = n.natAbs / 10 := by
  rw [Int.natAbs_tdiv]; rfl


/-! strs -/
def isByte (x : Int) : Prop := 0 ≤ x ∧ x < 256
theorem strI_byte (s : ByteArray) : ∀ x ∈ strI s, isByte x := by
  intro x hx
  unfold strI at hx
  obtain ⟨b, _, rfl⟩ := List.mem_map.1 hx
  have := UInt8.toNat_lt b
  unfold isByte
  omega
theorem bytesS_strI (s : ByteArray) : bytesS (strI s) = s := by
  rw [bytesS_data, strI, List.map_map]
  apply ByteArray.ext
  apply Array.ext'
  simp only [List.map_map]
  conv => rhs; rw [← List.map_id s.data.toList]
  refine List.map_congr_left fun b _ => ?_
  show UInt8.ofNat ((b.toNat : Int)).toNat = b
  rw [Int.toNat_natCast]
  exact UInt8.ofNat_toNat
theorem strI_inj {a b : ByteArray} (h : strI a = strI b) : a = b := by rw [← bytesS_strI a, h, bytesS_strI]
theorem bytesS_inj {A B : List Int} (hA : ∀ x ∈ A, isByte x) (hB : ∀ x ∈ B, isByte x) (h : bytesS A = bytesS B) : A = B := by
  rw [← strI_bytesS hA, h, strI_bytesS hB]
theorem toList_loop (s : ByteArray) : ∀ (k i : Nat) (r : List UInt8), s.size - i = k → ByteArray.toList.loop s i r = r.reverse ++ s.data.toList.drop i
  | 0, i, r, h => by
    rw [ByteArray.toList.loop, if_neg (by omega), List.drop_of_length_le (by show s.data.size ≤ i; have : s.data.size = s.size := rfl; omega), List.append_nil]
  | k + 1, i, r, h => by
    have hi : i < s.size := by omega
    have hi2 : i < s.data.toList.length := hi
    rw [ByteArray.toList.loop, if_pos hi, toList_loop s k (i + 1) _ (by omega), List.drop_eq_getElem_cons hi2, List.reverse_cons, List.append_assoc]
    have : s.get! i = s.data.toList[i] := by
      show s.data[i]! = _
      rw [getElem!_pos s.data i hi]
      simp
    rw [this]
    rfl
theorem toList_data (s : ByteArray) : s.toList = s.data.toList := by
  unfold ByteArray.toList
  rw [toList_loop s s.size 0 [] (by omega)]
  simp
theorem toList_inj {a b : ByteArray} (h : a.toList = b.toList) : a = b := by
  rw [toList_data, toList_data] at h
  exact ByteArray.ext (Array.toList_inj.1 h)
theorem eqS {A B : List Int} (hA : ∀ x ∈ A, isByte x) (hB : ∀ x ∈ B, isByte x) : ((bytesS A).toList == (bytesS B).toList) = decide (A = B) := by
  by_cases h : A = B
  · subst h; simp
  · have : (bytesS A).toList ≠ (bytesS B).toList := fun he => h (bytesS_inj hA hB (toList_inj he))
    simp [h, this]
theorem getS_strI (s : ByteArray) (k : Nat) : getS s (k : Int) = (strI s)[k]? := by
  unfold getS strI
  rw [if_pos (by omega), Int.toNat_natCast, List.getElem?_map]
  congr 1
  by_cases h : k < s.size
  · rw [getElem?_pos s k h, List.getElem?_eq_getElem (show k < s.data.toList.length from h)]
    rfl
  · rw [getElem?_neg s k h, List.getElem?_eq_none (show s.data.toList.length ≤ k from Nat.le_of_not_lt h)]
theorem getS_ok {L : List Int} (hb : ∀ x ∈ L, isByte x) {k : Nat} (h : k < L.length) : getS (bytesS L) (k : Int) = some L[k] := by
  rw [getS_strI, strI_bytesS hb, List.getElem?_eq_getElem h]
theorem subS_ok {L : List Int} (hb : ∀ x ∈ L, isByte x) {i j : Nat} (hij : i ≤ j) (h : j ≤ L.length) : subS (bytesS L) (i : Int) (j : Int) = some (bytesS ((L.drop i).take (j - i))) := by
  unfold subS
  rw [if_pos (by rw [bytesS_size]; omega), Int.toNat_natCast, Int.toNat_natCast]
  congr 1
  apply strI_inj
  rw [strI_bytesS (fun x hx => hb x (List.mem_of_mem_drop (List.mem_of_mem_take hx)))]
  unfold strI
  rw [ByteArray.data_extract, Array.toList_extract, List.extract_eq_take_drop, List.map_take, List.map_drop]
  have := strI_bytesS hb
  unfold strI at this
  rw [this]
theorem mem_drop_take {L : List Int} (hb : ∀ x ∈ L, isByte x) (i j : Nat) : ∀ x ∈ (L.drop i).take j, isByte x := fun x hx => hb x (List.mem_of_mem_drop (List.mem_of_mem_take hx))

/-! parts of a text -/
def consHead (x : Int) : List (List Int) → List (List Int)
  | [] => [[x]]
  | h :: t => (x :: h) :: t
def splitL (b : Int) : List Int → List (List Int)
  | [] => [[]]
  | x :: xs => if x = b then [] :: splitL b xs else consHead x (splitL b xs)
theorem splitL_ne (b : Int) (L : List Int) : splitL b L ≠ [] := by
  cases L with
  | nil => simp [splitL]
  | cons x xs =>
    unfold splitL
    split
    · simp
    · cases splitL b xs <;> simp [consHead]
theorem splitL_none {b : Int} : ∀ {a : List Int}, b ∉ a → splitL b a = [a]
  | [], _ => rfl
  | x :: xs, h => by
    have h1 : x ≠ b := fun e => h (by simp [e])
    have h2 : b ∉ xs := fun e => h (by simp [e])
    rw [splitL, if_neg h1, splitL_none h2]
    rfl
theorem splitL_app {b : Int} : ∀ {a : List Int} (c : List Int), b ∉ a → splitL b (a ++ b :: c) = a :: splitL b c
  | [], c, _ => by simp [splitL]
  | x :: xs, c, h => by
    have h1 : x ≠ b := fun e => h (by simp [e])
    have h2 : b ∉ xs := fun e => h (by simp [e])
    rw [List.cons_append, splitL, if_neg h1, splitL_app c h2]
    rfl
theorem splitL_mem {b : Int} {p : Int → Prop} : ∀ {L : List Int}, (∀ x ∈ L, p x) → ∀ w ∈ splitL b L, ∀ x ∈ w, p x
  | [], _, w, hw, x, hx => by simp [splitL] at hw; subst hw; cases hx
  | y :: ys, h, w, hw, x, hx => by
    have ih := splitL_mem (b := b) (fun z hz => h z (List.mem_cons_of_mem _ hz)) (L := ys)
    rw [splitL] at hw
    split at hw
    · rcases List.mem_cons.1 hw with rfl | hw
      · cases hx
      · exact ih w hw x hx
    · cases hs : splitL b ys with
      | nil => exact absurd hs (splitL_ne b ys)
      | cons u t =>
        rw [hs, consHead] at hw
        rw [hs] at ih
        rcases List.mem_cons.1 hw with rfl | hw
        · rcases List.mem_cons.1 hx with rfl | hx
          · exact h _ (List.mem_cons_self ..)
          · exact ih u (List.mem_cons_self ..) x hx
        · exact ih w (List.mem_cons_of_mem _ hw) x hx
theorem splitL_bound {b : Int} : ∀ (L : List Int), (splitL b L).length ≤ L.length + 1 ∧ ∀ w ∈ splitL b L, w.length ≤ L.length
  | [] => by simp [splitL]
  | y :: ys => by
    obtain ⟨h1, h2⟩ := splitL_bound (b := b) ys
    rw [splitL]
    split
    · refine ⟨by simp only [List.length_cons]; omega, fun w hw => ?_⟩
      rcases List.mem_cons.1 hw with rfl | hw
      · simp
      · have := h2 w hw; simp only [List.length_cons]; omega
    · cases hs : splitL b ys with
      | nil => exact absurd hs (splitL_ne b ys)
      | cons u t =>
        rw [hs] at h1 h2
        refine ⟨by simp only [consHead, List.length_cons] at h1 ⊢; omega, fun w hw => ?_⟩
        rw [consHead] at hw
        rcases List.mem_cons.1 hw with rfl | hw
        · have := h2 u (List.mem_cons_self ..); simp only [List.length_cons]; omega
        · have := h2 w (List.mem_cons_of_mem _ hw); simp only [List.length_cons]; omega
theorem drop_split {L : List Int} {f i : Nat} (hf : f ≤ i) (hi : i < L.length) : L.drop f = (L.drop f).take (i - f) ++ L[i] :: L.drop (i + 1) := by
  conv => lhs; rw [← List.take_append_drop (i - f) (L.drop f)]
  rw [List.drop_drop, show f + (i - f) = i by omega, List.drop_eq_getElem_cons hi]
theorem take_snoc {L : List Int} {f i : Nat} (hf : f ≤ i) (hi : i < L.length) : (L.drop f).take (i + 1 - f) = (L.drop f).take (i - f) ++ [L[i]] := by
  rw [show i + 1 - f = (i - f) + 1 by omega, List.take_succ_eq_append_getElem (by rw [List.length_drop]; omega), List.getElem_drop]
  congr 2
  simp only [show f + (i - f) = i by omega]


/-! draw19 -/
def i64R (x : Int) : Prop := -9223372036854775808 ≤ x ∧ x ≤ 9223372036854775807
def ptR (p : SPoint) : Prop := i64R p.X ∧ i64R p.Y
theorem i64R_w64 (x : Int) : i64R (w64 x) := ⟨w64_lo x, w64_hi x⟩
theorem i64R_mx {a b : Int} (ha : i64R a) (hb : i64R b) : i64R (mx a b) := by
  unfold mx
  split
  · exact hb
  · exact ha
theorem i64R_small {x : Int} (h1 : -1000000 ≤ x) (h2 : x ≤ 1000000) : i64R x := ⟨by omega, by omega⟩
theorem draw19_ok (q : Sl00Src) (hc : srcB q.code) (h0 : 0 ≤ q.at_) (h1 : q.at_ ≤ 1099511627776) :
    ∃ r, sh173 q = some r ∧ (1 ≤ r.1.length ∧ r.1.length ≤ 8) ∧ (∀ p ∈ r.1, ptR p) ∧ 0 ≤ r.2.1 ∧ r.2.1 ≤ q.at_ + 20 := by
  unfold sh173
  obtain ⟨x1, e1, b1, a1, c1⟩ := pick_ok q 120 hc h0 (by omega)
  rw [e1, bindS]
  obtain ⟨x2, e2, b2, a2, c2⟩ := pick_ok ⟨q.code, x1.2.1, x1.2.2⟩ 120 hc a1 (by simp only; omega)
  rw [e2, bindS]
  simp only at c2
  obtain ⟨x3, e3, b3, a3, c3⟩ := pick_ok ⟨q.code, x2.2.1, x2.2.2⟩ 9 hc a2 (by simp only; omega)
  rw [e3, bindS]
  simp only at c3
  obtain ⟨x4, e4, b4, a4, c4⟩ := pick_ok ⟨q.code, x3.2.1, x3.2.2⟩ 9 hc a3 (by simp only; omega)
  rw [e4, bindS]
  simp only at c4
  obtain ⟨x5, e5, b5, a5, c5⟩ := pick_ok ⟨q.code, x4.2.1, x4.2.2⟩ 3 hc a4 (by simp only; omega)
  rw [e5, bindS]
  simp only at c5
  have hj : ∃ j : Int × Int × (Int × Int), (bif x5.1 == 0 then (Option.bind (sh113 (Sl00Src.mk q.code x5.2.1 x5.2.2) 2) fun x27 => some (x27.1, w64 (x4.1 - 2), (x27.2.1, x27.2.2))) else (Option.bind (bif x5.1 == 1 then (Option.bind (sh113 (Sl00Src.mk q.code x5.2.1 x5.2.2) 2) fun x29 => some (x29.1, (x29.2.1, x29.2.2))) else (some (w64 (x4.1 - 2), (x5.2.1, x5.2.2)))) fun j28 => (some (w64 (x3.1 - 2), j28.1, (j28.2.1, j28.2.2))))) = some j ∧ 0 ≤ j.2.2.1 ∧ j.2.2.1 ≤ q.at_ + 12 := by
    obtain ⟨y, g, _, m, n⟩ := pick_ok ⟨q.code, x5.2.1, x5.2.2⟩ 2 hc a5 (by simp only; omega)
    simp only at n
    rw [g]
    cases x5.1 == 0
    · cases x5.1 == 1
      · exact ⟨_, rfl, a5, by simp only; omega⟩
      · exact ⟨_, rfl, m, by simp only; omega⟩
    · exact ⟨_, rfl, m, by simp only; omega⟩
  obtain ⟨j, hj, hj1, hj2⟩ := hj
  rw [hj, bindS]
  obtain ⟨x9, e9, b9, a9, c9⟩ := pick_ok ⟨q.code, j.2.2.1, j.2.2.2⟩ 8 hc hj1 (by simp only; omega)
  rw [e9, bindS]
  simp only at c9
  rw [w64_id (x := 1 + x9.1) (by omega) (by omega)]
  have hi := iter_inv (sb := sh173_1 j) (s0 := (x1.1, x2.1, 1 + x9.1, [])) (fun s => i64R s.1 ∧ i64R s.2.1 ∧ 0 ≤ s.2.2.1 ∧ s.2.2.1 + (s.2.2.2.length : Int) = 1 + x9.1 ∧ ∀ p ∈ s.2.2.2, ptR p) (fun s => s.2.2.1.toNat)
    (fun l => (l.length : Int) = 1 + x9.1 ∧ ∀ p ∈ l, ptR p) ⟨i64R_small (by simp only; omega) (by simp only; omega), i64R_small (by simp only; omega) (by simp only; omega), by simp only; omega, by simp, by simp⟩ (by simp only; omega) (by
    rintro ⟨x, y, k, l⟩ ⟨i1, i2, i3, i4, i5⟩
    simp only at i1 i2 i3 i4 i5
    by_cases hk : 0 < k
    · left
      simp only [sh173_1, hk, decide_true, cond_true, l00Max_eq, bindS]
      rw [appL_ok (by simp only [List.length_cons, List.length_nil]; omega), bindS, w64_id (x := k - 1) (by omega) (by omega)]
      refine ⟨_, rfl, ⟨i64R_w64 _, i64R_w64 _, by simp only; omega, by simp only [List.length_append, List.length_cons, List.length_nil]; omega, fun p hp => ?_⟩, by simp only; omega⟩
      rcases List.mem_append.1 hp with h | h
      · exact i5 p h
      · simp at h
        subst h
        exact ⟨i64R_mx (i64R_small (by omega) (by omega)) i1, i64R_mx (i64R_small (by omega) (by omega)) i2⟩
    · right
      simp only [sh173_1, hk, decide_false, cond_false]
      exact ⟨_, rfl, by omega, i5⟩)
  obtain ⟨b, hb, d1, d2⟩ := hi
  rw [hb, bindS]
  exact ⟨_, rfl, ⟨by simp only; omega, by simp only; omega⟩, d2, a9, by simp only; omega⟩
theorem ptR_set {l : List SPoint} {k : Nat} {p : SPoint} (hl : ∀ x ∈ l, ptR x) (hp : ptR p) : ∀ x ∈ l.set k p, ptR x := fun x hx => by
  rcases List.mem_or_eq_of_mem_set hx with h | h
  · exact hl x h
  · rw [h]; exact hp
theorem bent19_ok (q : Sl00Src) (hc : srcB q.code) (h0 : 0 ≤ q.at_) (h1 : q.at_ ≤ 549755813888) :
    ∃ r, sh119 q = some r ∧ r.1.length ≤ 61 ∧ (∀ p ∈ r.1, ptR p) ∧ 0 ≤ r.2.1 ∧ r.2.1 ≤ q.at_ + 30 := by
  unfold sh119
  obtain ⟨x1, e1, b1, d1, a1, c1⟩ := draw19_ok q hc h0 (by omega)
  rw [e1, bindS]
  obtain ⟨x5, e5, b5, a5, c5⟩ := pick_ok ⟨q.code, x1.2.1, x1.2.2⟩ 24 hc a1 (by simp only; omega)
  rw [e5, bindS]
  simp only at c5
  have hg : getI x1.1 (0 : Int) = some x1.1[0] := getI_lt (k := 0) (by omega)
  have hp0 := d1 _ (List.getElem_mem (show 0 < x1.1.length by omega))
  cases x5.1 == 0
  · rw [cond_false]
    cases x5.1 == 1
    · rw [cond_false]
      cases x5.1 == 2
      · rw [cond_false]
        cases x5.1 == 3
        · rw [cond_false]
          exact ⟨_, rfl, by simp only; omega, d1, a5, by simp only; omega⟩
        · rw [cond_true]
          obtain ⟨y, g, n1, m, n⟩ := pick_ok ⟨q.code, x5.2.1, x5.2.2⟩ 2 hc a5 (by simp only; omega)
          simp only at n
          have hw : w64 (60 + y.1) = ((60 + y.1.toNat : Nat) : Int) := by rw [w64_id (by omega) (by omega)]; omega
          rw [g, bindS, hw, mkL_ok (by omega), bindS]
          refine ⟨_, rfl, by simp only [List.length_replicate]; omega, fun p hp => ?_, m, by simp only; omega⟩
          rw [List.eq_of_mem_replicate hp]
          exact ⟨i64R_small (by decide) (by decide), i64R_small (by decide) (by decide)⟩
      · rw [cond_true]
        exact ⟨_, rfl, by simp, by simp, a5, by simp only; omega⟩
    · rw [cond_true]
      obtain ⟨y, g, n1, m, n⟩ := among_ok ⟨q.code, x5.2.1, x5.2.2⟩ [(-9223372036854775808), 9223372036854775807] hc a5 (by simp only; omega) (by simp)
      simp only at n
      rw [g, bindS, hg, bindS]
      refine ⟨_, rfl, by simp only [List.length_set]; omega, ptR_set d1 ⟨hp0.1, show i64R y.1 from ?_⟩, m, by simp only; omega⟩
      simp only [List.mem_cons, List.not_mem_nil, or_false] at n1
      unfold i64R
      rcases n1 with h | h <;> rw [h] <;> decide
  · rw [cond_true]
    obtain ⟨y, g, n1, m, n⟩ := among_ok ⟨q.code, x5.2.1, x5.2.2⟩ [(-1), 0, 2000, 2001] hc a5 (by simp only; omega) (by simp)
    simp only at n
    rw [g, bindS, hg, bindS]
    refine ⟨_, rfl, by simp only [List.length_set]; omega, ptR_set d1 ⟨show i64R y.1 from ?_, hp0.2⟩, m, by simp only; omega⟩
    simp only [List.mem_cons, List.not_mem_nil, or_false] at n1
    unfold i64R
    rcases n1 with h | h | h | h <;> rw [h] <;> decide

/-! draw02 -/
theorem l02New_ok (w h : Int) (hw : 1 ≤ w ∧ w ≤ 8) (hh : 1 ≤ h ∧ h ≤ 8) : ∃ r, sh163 w h = some r ∧ r.W = w ∧ r.H = h ∧ (∀ x ∈ r.Breaks, x = 0) ∧ panelB r = true := by
  unfold sh163 sh144
  have hb1 : 0 ≤ w * (h - 1) ∧ w * (h - 1) ≤ 56 := by
    have h1 : 0 ≤ w * (h - 1) := Int.mul_nonneg (by omega) (by omega)
    have h2 : w * (h - 1) ≤ 8 * (h - 1) := Int.mul_le_mul_of_nonneg_right (by omega) (by omega)
    omega
  have hb2 : 0 ≤ h * (w - 1) ∧ h * (w - 1) ≤ 56 := by
    have h1 : 0 ≤ h * (w - 1) := Int.mul_nonneg (by omega) (by omega)
    have h2 : h * (w - 1) ≤ 8 * (w - 1) := Int.mul_le_mul_of_nonneg_right (by omega) (by omega)
    omega
  have e : w64 (w64 (w * w64 (h - 1)) + w64 (h * w64 (w - 1))) = ((w * (h - 1) + h * (w - 1)).toNat : Int) := by
    rw [w64_id (x := h - 1) (by omega) (by omega), w64_id (x := w - 1) (by omega) (by omega), w64_id (x := w * (h - 1)) (by omega) (by omega), w64_id (x := h * (w - 1)) (by omega) (by omega), w64_id (by omega) (by omega)]
    omega
  simp only [bindS]
  rw [e, mkL_ok (by omega), bindS]
  refine ⟨_, rfl, rfl, rfl, fun x hx => List.eq_of_mem_replicate hx, ?_⟩
  unfold panelB
  simp only [List.length_replicate, Bool.and_eq_true, beq_iff_eq, List.all_eq_true]
  refine ⟨⟨?_, ?_⟩, ?_, fun x hx => ?_⟩
  · unfold sideB; simp [hw.1, hw.2]
  · unfold sideB; simp [hh.1, hh.2]
  · unfold innerN; rw [e]
  · rw [List.eq_of_mem_replicate hx]; rfl
theorem panelB_of {w h : Int} {b b' : List Int} (hp : panelB ⟨w, h, b⟩ = true) (hl : b'.length = b.length) (hx : ∀ x ∈ b', 0 ≤ x ∧ x ≤ 2) : panelB ⟨w, h, b'⟩ = true := by
  unfold panelB at hp ⊢
  simp only [Bool.and_eq_true, List.all_eq_true, hl] at hp ⊢
  refine ⟨hp.1, hp.2.1, fun x hm => ?_⟩
  unfold brkB; simp [(hx x hm).1, (hx x hm).2]
theorem draw02_ok (q : Sl00Src) (n : Int) (hn : 1 ≤ n ∧ n ≤ 8) (hc : srcB q.code) (h0 : 0 ≤ q.at_) (h1 : q.at_ ≤ 1099511627776) :
    ∃ r, sh162 q n = some r ∧ panelB r.1 = true ∧ (r.1.W ≤ n ∧ r.1.H ≤ n) ∧ 0 ≤ r.2.1 ∧ r.2.1 ≤ q.at_ + 1000 := by
  unfold sh162
  obtain ⟨x3, e3, b3, a3, c3⟩ := pick_ok q n hc h0 (by omega)
  rw [e3, bindS]
  obtain ⟨x4, e4, b4, a4, c4⟩ := pick_ok ⟨q.code, x3.2.1, x3.2.2⟩ n hc a3 (by simp only; omega)
  rw [e4, bindS, w64_id (x := 1 + x3.1) (by omega) (by omega), w64_id (x := 1 + x4.1) (by omega) (by omega)]
  simp only at c4
  obtain ⟨x5, e5, w5, h5, z5, p5⟩ := l02New_ok (1 + x3.1) (1 + x4.1) ⟨by omega, by omega⟩ ⟨by omega, by omega⟩
  rw [e5, bindS]
  obtain ⟨x11, e11, b11, a11, c11⟩ := pick_ok ⟨q.code, x4.2.1, x4.2.2⟩ 4 hc a4 (by simp only; omega)
  rw [e11, bindS]
  simp only at c11
  have hbl : x5.Breaks.length ≤ 112 := (panelB_facts p5).2.2.2.2
  have hi := iter_inv (sb := sh162_1 q x5 x11) (s0 := (0, (x11.2.1, x11.2.2), x5.Breaks)) (fun s => 0 ≤ s.1 ∧ s.1 ≤ x5.Breaks.length ∧ s.2.2.length = x5.Breaks.length ∧ (∀ x ∈ s.2.2, 0 ≤ x ∧ x ≤ 2) ∧ 0 ≤ s.2.1.1 ∧ s.2.1.1 ≤ q.at_ + 6 + 4 * s.1) (fun s => ((x5.Breaks.length : Int) - s.1).toNat)
    (fun s => s.2.length = x5.Breaks.length ∧ (∀ x ∈ s.2, 0 ≤ x ∧ x ≤ 2) ∧ 0 ≤ s.1.1 ∧ s.1.1 ≤ q.at_ + 600) ⟨by simp, by simp, rfl, fun x hx => by rw [z5 x hx]; omega, a11, by simp only; omega⟩ (by simp only; omega) (by
    rintro ⟨k, ⟨a, sd⟩, l⟩ ⟨i1, i2, i3, i4, i5, i6⟩
    simp only at i1 i2 i3 i4 i5 i6
    by_cases hk : k < x5.Breaks.length
    · left
      have hkd : k < ((x5.Breaks.length : Nat) : Int) := hk
      simp only [sh162_1, hkd, decide_true, cond_true]
      obtain ⟨y, g, n1, m, n2⟩ := pick_ok ⟨q.code, a, sd⟩ 4 hc i5 (by simp only; omega)
      simp only at n2
      rw [g, bindS]
      by_cases hlt : y.1 < x11.1
      · obtain ⟨y2, g2, n3, m2, n4⟩ := pick_ok ⟨q.code, y.2.1, y.2.2⟩ 2 hc m (by simp only; omega)
        simp only at n4
        rw [decide_eq_true hlt, cond_true, g2, bindS, getI_toNat i1 (by omega), bindS, bindS, w64_id (x := k + 1) (by omega) (by omega), w64_id (x := 1 + y2.1) (by omega) (by omega)]
        refine ⟨_, rfl, ⟨by simp only; omega, by simp only; omega, by simp only [List.length_set]; omega, fun x hx => ?_, m2, by simp only; omega⟩, by simp only; omega⟩
        rcases List.mem_or_eq_of_mem_set hx with h | h
        · exact i4 x h
        · rw [h]; omega
      · rw [decide_eq_false hlt, cond_false, bindS, w64_id (x := k + 1) (by omega) (by omega)]
        exact ⟨_, rfl, ⟨by simp only; omega, by simp only; omega, i3, i4, m, by simp only; omega⟩, by simp only; omega⟩
    · right
      have hkd : ¬ k < ((x5.Breaks.length : Nat) : Int) := hk
      simp only [sh162_1, hkd, decide_false, cond_false]
      exact ⟨_, rfl, i3, i4, i5, by simp only; omega⟩)
  obtain ⟨b, hb, d1, d2, d3, d4⟩ := hi
  rw [hb, bindS]
  refine ⟨_, rfl, panelB_of (b := x5.Breaks) (by exact p5) d1 d2, ⟨by simp only [w5]; omega, by simp only [h5]; omega⟩, d3, by simp only; omega⟩
theorem bent02_ok (q : Sl00Src) (hc : srcB q.code) (h0 : 0 ≤ q.at_) (h1 : q.at_ ≤ 549755813888) :
    ∃ r, sh108 q = some r ∧ r.1.Breaks.length ≤ 200 ∧ 0 ≤ r.2.1 ∧ r.2.1 ≤ q.at_ + 1100 := by
  unfold sh108
  obtain ⟨x3, e3, b3, _, a3, c3⟩ := draw02_ok q 5 (by omega) hc h0 (by omega)
  have hbl : x3.1.Breaks.length ≤ 112 := (panelB_facts b3).2.2.2.2
  rw [e3, bindS]
  obtain ⟨x, e, b, a, c⟩ := pick_ok ⟨q.code, x3.2.1, x3.2.2⟩ 20 hc a3 (by simp only; omega)
  rw [e, bindS]
  simp only at c
  cases x.1 == 0
  · rw [cond_false]
    cases x.1 == 1
    · rw [cond_false]
      cases x.1 == 2
      · rw [cond_false]
        cases x.1 == 3
        · rw [cond_false]
          simp only [bindS]
          exact ⟨_, rfl, by simp only; omega, a, by simp only; omega⟩
        · rw [cond_true]
          obtain ⟨y, g, _, _, _, p5⟩ := l02New_ok 8 8 (by omega) (by omega)
          have := (panelB_facts p5).2.2.2.2
          rw [g]
          simp only [bindS]
          exact ⟨_, rfl, by simp only; omega, a, by simp only; omega⟩
      · rw [cond_true]
        by_cases hl : 0 < (x3.1.Breaks.length : Int)
        · obtain ⟨y, g, n1, m, n⟩ := pick_ok ⟨q.code, x.2.1, x.2.2⟩ (x3.1.Breaks.length : Int) hc a (by simp only; omega)
          simp only at n
          obtain ⟨z, g2, n3, m2, n4⟩ := among_ok ⟨q.code, y.2.1, y.2.2⟩ [(-1), 2, 3] hc m (by simp only; omega) (by simp)
          simp only at n4
          rw [decide_eq_true hl, cond_true, g, bindS, g2, bindS, getI_toNat n1.1 (by omega)]
          simp only [bindS]
          exact ⟨_, rfl, by simp only [List.length_set]; omega, m2, by simp only; omega⟩
        · rw [decide_eq_false hl, cond_false]
          simp only [bindS]
          exact ⟨_, rfl, by simp only; omega, a, by simp only; omega⟩
    · rw [cond_true, appL_ok (by simp only [List.length_cons, List.length_nil]; omega)]
      simp only [bindS]
      exact ⟨_, rfl, by simp only [List.length_append, List.length_cons, List.length_nil]; omega, a, by simp only; omega⟩
  · rw [cond_true]
    obtain ⟨z, g2, n3, m2, n4⟩ := among_ok ⟨q.code, x.2.1, x.2.2⟩ [0, 8, 9, (-9223372036854775808)] hc a (by simp only; omega) (by simp)
    simp only at n4
    rw [g2]
    simp only [bindS]
    exact ⟨_, rfl, by simp only; omega, m2, by simp only; omega⟩

/-! stroketexts_f6 -/
theorem eqPt (p q : SPoint) : ((p.X == q.X) && ((p.Y == q.Y) && true)) = decide (p = q) := by
  cases p with
  | mk a b =>
    cases q with
    | mk c d =>
      by_cases h1 : a = c
      · by_cases h2 : b = d
        · subst h1 h2; simp
        · have : ¬ ((SPoint.mk a b) = (SPoint.mk c d)) := fun h => h2 (congrArg SPoint.Y h)
          rw [decide_eq_false this]; simp [h2]
      · have : ¬ ((SPoint.mk a b) = (SPoint.mk c d)) := fun h => h1 (congrArg SPoint.X h)
        rw [decide_eq_false this]; simp [h1]
theorem f6points_eq (xs ys : List SPoint) (h : xs.length ≤ 1048576) : sh77 xs ys = some (decide (xs = ys)) := by
  unfold sh77
  by_cases hl : xs.length = ys.length
  · have h1 : ((xs.length : Int) != (ys.length : Int)) = false := by simp; omega
    rw [h1, cond_false, iter_eq (xs := xs) (ys := ys) (by omega) hl (fun k hk => ?_) (by simp [sh77_1]), bindS]
    · by_cases he : xs = ys <;> simp [he, elimS]
    · have h2 : (k : Int) < xs.length := by omega
      have h3 : k < ys.length := by omega
      simp only [sh77_1, h2, decide_true, cond_true, getI_lt hk, getI_lt h3, bindS, eqPt]
      rw [w64_id (by omega) (by omega)]
      by_cases he : xs[k] = ys[k]
      · simp [he]
      · rw [if_neg he, decide_eq_false he]
        rfl
  · have h1 : ((xs.length : Int) != (ys.length : Int)) = true := by simp; omega
    rw [h1, cond_true]
    have : xs ≠ ys := fun h => hl (by rw [h])
    simp [this]

/-! fnstrokes -/
/-! ### boxes -/
theorem box_in {lx ly hx hy : Int} : ∀ (t : List SPoint) (z : SPoint × SPoint), (lx ≤ z.1.X ∧ ly ≤ z.1.Y ∧ z.2.X ≤ hx ∧ z.2.Y ≤ hy) → (∀ a ∈ t, (lx ≤ a.X ∧ a.X ≤ hx) ∧ (ly ≤ a.Y ∧ a.Y ≤ hy)) →
    lx ≤ (t.foldl boxS z).1.X ∧ ly ≤ (t.foldl boxS z).1.Y ∧ (t.foldl boxS z).2.X ≤ hx ∧ (t.foldl boxS z).2.Y ≤ hy
  | [], z, h, _ => h
  | a :: t, z, h, ht => by
    have ha := ht a (List.mem_cons_self ..)
    refine box_in t (boxS z a) ?_ (fun b hb => ht b (List.mem_cons_of_mem _ hb))
    unfold boxS mn mx
    refine ⟨?_, ?_, ?_, ?_⟩ <;> simp only <;> split <;> omega
theorem box_le : ∀ (t : List SPoint) (z : SPoint × SPoint), ((t.foldl boxS z).1.X ≤ z.1.X ∧ (t.foldl boxS z).1.Y ≤ z.1.Y ∧ z.2.X ≤ (t.foldl boxS z).2.X ∧ z.2.Y ≤ (t.foldl boxS z).2.Y) ∧
    ∀ a ∈ t, ((t.foldl boxS z).1.X ≤ a.X ∧ a.X ≤ (t.foldl boxS z).2.X) ∧ ((t.foldl boxS z).1.Y ≤ a.Y ∧ a.Y ≤ (t.foldl boxS z).2.Y)
  | [], z => ⟨⟨Int.le_refl _, Int.le_refl _, Int.le_refl _, Int.le_refl _⟩, by simp⟩
  | a :: t, z => by
    obtain ⟨⟨h1, h2, h3, h4⟩, h5⟩ := box_le t (boxS z a)
    have e1 : (boxS z a).1.X ≤ z.1.X ∧ (boxS z a).1.X ≤ a.X := by unfold boxS mn; simp only; split <;> omega
    have e2 : (boxS z a).1.Y ≤ z.1.Y ∧ (boxS z a).1.Y ≤ a.Y := by unfold boxS mn; simp only; split <;> omega
    have e3 : z.2.X ≤ (boxS z a).2.X ∧ a.X ≤ (boxS z a).2.X := by unfold boxS mx; simp only; split <;> omega
    have e4 : z.2.Y ≤ (boxS z a).2.Y ∧ a.Y ≤ (boxS z a).2.Y := by unfold boxS mx; simp only; split <;> omega
    rw [List.foldl_cons]
    refine ⟨⟨by omega, by omega, by omega, by omega⟩, fun b hb => ?_⟩
    rcases List.mem_cons.1 hb with h | h
    · subst h; omega
    · exact h5 b h
def boxL (q : List SPoint) : SPoint × SPoint := q.tail.foldl boxS (q.getD 0 ⟨0, 0⟩, q.getD 0 ⟨0, 0⟩)
theorem boxL_mem {q : List SPoint} : ∀ a ∈ q, ((boxL q).1.X ≤ a.X ∧ a.X ≤ (boxL q).2.X) ∧ ((boxL q).1.Y ≤ a.Y ∧ a.Y ≤ (boxL q).2.Y) := by
  intro a ha
  cases q with
  | nil => cases ha
  | cons p t =>
    obtain ⟨⟨h1, h2, h3, h4⟩, h5⟩ := box_le t (p, p)
    have e : boxL (p :: t) = t.foldl boxS (p, p) := rfl
    rw [e]
    simp only at h1 h2 h3 h4
    rcases List.mem_cons.1 ha with h | h
    · subst h; omega
    · exact h5 a h
theorem boxL_in {q : List SPoint} {lx ly hx hy : Int} (hq : q ≠ []) (h : ∀ a ∈ q, (lx ≤ a.X ∧ a.X ≤ hx) ∧ (ly ≤ a.Y ∧ a.Y ≤ hy)) : lx ≤ (boxL q).1.X ∧ ly ≤ (boxL q).1.Y ∧ (boxL q).2.X ≤ hx ∧ (boxL q).2.Y ≤ hy := by
  cases q with
  | nil => exact absurd rfl hq
  | cons p t =>
    have hp := h p (List.mem_cons_self ..)
    exact box_in t (p, p) ⟨hp.1.1, hp.2.1, hp.1.2, hp.2.2⟩ (fun a ha => h a (List.mem_cons_of_mem _ ha))
theorem strokeBox_impl (q : List SPoint) (h : q.length ≤ 1048576) : sh62 q = some (if strokeB q = true then ((boxL q).1, (boxL q).2, 0) else (⟨0, 0⟩, ⟨0, 0⟩, 1)) := by
  unfold sh62
  rw [validStroke_eq q (by omega), bindS]
  cases hs : strokeB q
  · rfl
  · obtain ⟨a, t, rfl, _, _⟩ := stroke_facts hs
    simp only [List.length_cons] at h
    simp only [Bool.not_true, cond_false, boxOf_eq a t (by omega), bindS, if_true]
    rfl
theorem strokeBox_spec (q : List SPoint) (h : q.length ≤ 1048576) : sh63 q = some (if strokeB q = true then ((boxL q).1, (boxL q).2, 0) else (⟨0, 0⟩, ⟨0, 0⟩, 1)) := by
  unfold sh63
  rw [l19Ok_eq q (by omega), bindS]
  cases hs : strokeB q
  · rfl
  · obtain ⟨a, t, rfl, _, _⟩ := stroke_facts hs
    simp only [List.length_cons] at h
    simp only [Bool.not_true, cond_false, l19Box_eq a t (by omega), bindS, if_true]
    rfl
/-! ### thinning -/
def dst (a b : Int) : Int := mx (w64 (a - b)) (w64 (b - a))
theorem dst_comm (a b : Int) : dst a b = dst b a := by unfold dst mx; split <;> split <;> omega
def farB (s : Int) (a b : SPoint) : Bool := decide (s ≤ dst a.X b.X) || decide (s ≤ dst a.Y b.Y)
def thinS (s : Int) (o : List SPoint) (p : SPoint) : List SPoint := if farB s p (o.getLastD ⟨0, 0⟩) = true then o ++ [p] else o
theorem thinS_ne {s : Int} {o : List SPoint} {p : SPoint} (h : o ≠ []) : thinS s o p ≠ [] := by
  unfold thinS
  split
  · simp
  · exact h
theorem thin_len (s : Int) : ∀ (t o : List SPoint), (t.foldl (thinS s) o).length ≤ o.length + t.length
  | [], o => by simp
  | p :: t, o => by
    rw [List.foldl_cons]
    have h1 := thin_len s t (thinS s o p)
    have h2 : (thinS s o p).length ≤ o.length + 1 := by unfold thinS; split <;> simp
    rw [List.length_cons]; omega
theorem thin_mem (s : Int) : ∀ (t o : List SPoint), ∀ x ∈ t.foldl (thinS s) o, x ∈ o ∨ x ∈ t
  | [], o, x, hx => .inl hx
  | p :: t, o, x, hx => by
    rw [List.foldl_cons] at hx
    rcases thin_mem s t _ x hx with h | h
    · unfold thinS at h
      split at h
      · rcases List.mem_append.1 h with h | h
        · exact .inl h
        · right; simp at h; rw [h]; exact List.mem_cons_self ..
      · exact .inl h
    · exact .inr (List.mem_cons_of_mem _ h)
theorem getI_last {o : List SPoint} (h : o ≠ []) (hl : o.length ≤ 1048576) : getI o (w64 ((o.length : Int) - 1)) = some (o.getLastD ⟨0, 0⟩) := by
  have hp := List.length_pos_iff.2 h
  rw [w64_id (by omega) (by omega), show (o.length : Int) - 1 = ((o.length - 1 : Nat) : Int) by omega, getI_ofNat, ← List.getLast?_eq_getElem?, List.getLastD_eq_getLast?]
  obtain ⟨x, hx⟩ : ∃ x, o.getLast? = some x := ⟨o.getLast h, List.getLast?_eq_some_getLast h⟩
  rw [hx]; rfl
def thinL (s : Int) (q : List SPoint) : List SPoint := q.tail.foldl (thinS s) [q.getD 0 ⟨0, 0⟩]
theorem dist_impl (a b : Int) : sh126 a b = some (dst a b) := rfl
theorem dist_spec (a b : Int) : sh128 a b = some (dst a b) := by unfold sh128; rw [l00Max_eq]; rfl
theorem thin_impl (q : List SPoint) (s : Int) (h : q.length ≤ 1000) : sh65 q s = some (if strokeB q = true then (if 0 ≤ s ∧ s ≤ 2000 then (thinL s q, 0) else ([], 2)) else ([], 1)) := by
  unfold sh65
  rw [validStroke_eq q (by omega), bindS]
  cases hs : strokeB q
  · rfl
  · obtain ⟨a, t, rfl, hl, _⟩ := stroke_facts hs
    have hr : sh125 s 0 2000 = some (decide (0 ≤ s ∧ s ≤ 2000)) := by
      unfold sh125
      by_cases h1 : 0 ≤ s <;> by_cases h2 : s ≤ 2000 <;> simp [h1, h2]
    simp only [Bool.not_true, cond_false, hr, bindS, if_true]
    by_cases h2 : 0 ≤ s ∧ s ≤ 2000
    · have hg : getI (a :: t) (0 : Int) = some a := rfl
      have hd : dropL (a :: t) (1 : Int) = some t := by unfold dropL; rw [if_pos (by simp only [List.length_cons]; omega)]; rfl
      rw [decide_eq_true h2, if_pos h2, hg, bindS, hd, bindS]
      simp only [List.length_cons] at hl h
      have hi := iter_fold (sb := sh65_1 (a :: t) s t) t (fun k (o : List SPoint) => ((k : Int), o)) (thinS s) (fun o => o) (fun k o => o ≠ [] ∧ o.length ≤ k + 1) [a] ⟨by simp, by simp⟩ (by omega) (fun k hk o ho => ?_) (fun o _ => ?_)
      · have h1 := hi.1
        simp only [Int.natCast_zero] at h1
        simp only [Bool.not_true, cond_false, h1, bindS]
        rfl
      · have hkd : (k : Int) < ((((a :: t).length - ((1 : Int)).toNat) : Nat) : Int) := by simp; omega
        refine ⟨?_, thinS_ne ho.1, by unfold thinS; split <;> (try simp) <;> omega⟩
        simp only [sh65_1, hkd, decide_true, cond_true, getI_lt hk, bindS, getI_last ho.1 (show o.length ≤ 1048576 by omega), dist_impl]
        have e : (bif decide (s ≤ dst t[k].X (o.getLastD ⟨0, 0⟩).X) then (some true) else (some (decide (s ≤ dst t[k].Y (o.getLastD ⟨0, 0⟩).Y)))) = some (farB s t[k] (o.getLastD ⟨0, 0⟩)) := by
          unfold farB
          cases decide (s ≤ dst t[k].X (o.getLastD ⟨0, 0⟩).X) <;> rfl
        rw [e, bindS, w64_id (by omega) (by omega)]
        unfold thinS
        cases farB s t[k] (o.getLastD ⟨0, 0⟩)
        · rfl
        · rw [cond_true, appL_ok (by simp only [List.length_cons, List.length_nil]; omega)]
          rfl
      · have hkd : decide ((t.length : Int) < ((((a :: t).length - ((1 : Int)).toNat) : Nat) : Int)) = false := decide_eq_false (by simp)
        simp only [sh65_1, hkd, cond_false]
    · rw [decide_eq_false h2, if_neg h2]; rfl
theorem thin_spec (q : List SPoint) (s : Int) (h : q.length ≤ 1000) : sh66 q s = some (if strokeB q = true then (if 0 ≤ s ∧ s ≤ 2000 then (thinL s q, 0) else ([], 2)) else ([], 1)) := by
  unfold sh66
  rw [l19Ok_eq q (by omega), bindS]
  cases hs : strokeB q
  · rfl
  · obtain ⟨a, t, rfl, hl, _⟩ := stroke_facts hs
    have hr : sh127 s 0 2000 = some (decide (0 ≤ s ∧ s ≤ 2000)) := by
      unfold sh127
      by_cases h1 : 0 ≤ s <;> by_cases h2 : s ≤ 2000 <;> simp [h1, h2]
    simp only [Bool.not_true, cond_false, hr, bindS, if_true]
    by_cases h2 : 0 ≤ s ∧ s ≤ 2000
    · have hg : getI (a :: t) (0 : Int) = some a := rfl
      rw [decide_eq_true h2, if_pos h2, hg, bindS]
      simp only [List.length_cons] at hl h
      have hi := iter_fold (sb := sh66_1 (a :: t) s) t (fun k (o : List SPoint) => ((k : Int) + 1, o)) (thinS s) (fun o => o) (fun k o => o ≠ [] ∧ o.length ≤ k + 1) [a] ⟨by simp, by simp⟩ (by omega) (fun k hk o ho => ?_) (fun o _ => ?_)
      · have h1 := hi.1
        simp only [Int.natCast_zero, Int.zero_add] at h1
        simp only [Bool.not_true, cond_false, h1, bindS]
        rfl
      · have hk1 : k + 1 < (a :: t).length := by simp; omega
        have hkd : (k : Int) + 1 < (a :: t).length := by omega
        have hgk : getI (a :: t) ((k : Int) + 1) = some t[k] := by have := getI_lt hk1; simpa using this
        refine ⟨?_, thinS_ne ho.1, by unfold thinS; split <;> (try simp) <;> omega⟩
        simp only [sh66_1, hkd, decide_true, cond_true, hgk, bindS, getI_last ho.1 (show o.length ≤ 1048576 by omega), dist_spec, l00Max_eq]
        have e : decide (s ≤ mx (dst (o.getLastD ⟨0, 0⟩).X t[k].X) (dst (o.getLastD ⟨0, 0⟩).Y t[k].Y)) = farB s t[k] (o.getLastD ⟨0, 0⟩) := by
          unfold farB
          rw [dst_comm t[k].X, dst_comm t[k].Y, ← Bool.decide_or]
          simp only [decide_eq_decide]
          unfold mx
          split <;> omega
        rw [e, w64_id (by omega) (by omega)]
        unfold thinS
        cases farB s t[k] (o.getLastD ⟨0, 0⟩)
        · rfl
        · rw [cond_true, appL_ok (by simp only [List.length_cons, List.length_nil]; omega)]
          rfl
      · have hkd : decide ((t.length : Int) + 1 < ((a :: t).length : Int)) = false := decide_eq_false (by simp)
        simp only [sh66_1, hkd, cond_false]
    · rw [decide_eq_false h2, if_neg h2]; rfl
theorem thin_snoc {s : Int} {a : SPoint} {u : List SPoint} {p : SPoint} (h : u.foldl (thinS s) [a] = a :: u) : (thinS s (a :: u) p).tail.foldl (thinS s) [a] = thinS s (a :: u) p := by
  by_cases hc : farB s p ((a :: u).getLastD ⟨0, 0⟩) = true
  · have e : thinS s (a :: u) p = (a :: u) ++ [p] := by unfold thinS; rw [if_pos hc]
    rw [e]
    show (u ++ [p]).foldl (thinS s) [a] = _
    rw [List.foldl_append, h]
    exact e
  · have e : thinS s (a :: u) p = a :: u := by unfold thinS; rw [if_neg hc]
    rw [e]; exact h
theorem thin_head {s : Int} {a : SPoint} {u : List SPoint} {p : SPoint} : ∃ v, thinS s (a :: u) p = a :: v := by
  unfold thinS
  split
  · exact ⟨u ++ [p], rfl⟩
  · exact ⟨u, rfl⟩
theorem thin_again (s : Int) (a : SPoint) : ∀ (t u : List SPoint), u.foldl (thinS s) [a] = a :: u → ∃ v, t.foldl (thinS s) (a :: u) = a :: v ∧ v.foldl (thinS s) [a] = a :: v
  | [], u, h => ⟨u, rfl, h⟩
  | p :: t, u, h => by
    obtain ⟨v, hv⟩ := thin_head (s := s) (a := a) (u := u) (p := p)
    have h2 := thin_snoc (p := p) h
    rw [hv] at h2
    obtain ⟨w, h3, h4⟩ := thin_again s a t v h2
    exact ⟨w, by rw [List.foldl_cons, hv]; exact h3, h4⟩
theorem thinL_thinL (s : Int) {q : List SPoint} (hq : q ≠ []) : thinL s (thinL s q) = thinL s q ∧ thinL s q ≠ [] := by
  cases q with
  | nil => exact absurd rfl hq
  | cons a t =>
    obtain ⟨v, h1, h2⟩ := thin_again s a t [] rfl
    have e : thinL s (a :: t) = a :: v := h1
    rw [e]
    exact ⟨h2, by simp⟩
theorem thinL_ok (s : Int) {q : List SPoint} (hq : strokeB q = true) : strokeB (thinL s q) = true := by
  obtain ⟨a, t, rfl, hl, hpt⟩ := stroke_facts hq
  have hne := (thinL_thinL s (q := a :: t) (by simp)).2
  have hlen := thin_len s t [a]
  have hmem := thin_mem s t [a]
  have e : thinL s (a :: t) = t.foldl (thinS s) [a] := rfl
  rw [e] at hne ⊢
  have hpos := List.length_pos_iff.2 hne
  simp only [List.length_cons, List.length_nil] at hl hlen
  unfold strokeB
  simp only [Bool.and_eq_true, decide_eq_true_eq, List.all_eq_true]
  refine ⟨⟨by omega, by omega⟩, fun x hx => ?_⟩
  have := hpt x (by
    rcases hmem x hx with h | h
    · simp at h; rw [h]; exact List.mem_cons_self ..
    · exact List.mem_cons_of_mem _ h)
  unfold placeB
  simp [this.1.1, this.1.2, this.2.1, this.2.2]
/-! ### smoothing -/
def meanP (a b c : SPoint) : SPoint := ⟨w64 ((w64 ((w64 (a.X + (w64 (2 * b.X)))) + c.X)).tdiv 4), w64 ((w64 ((w64 (a.Y + (w64 (2 * b.Y)))) + c.Y)).tdiv 4)⟩
def smoothAt (q : List SPoint) (k : Nat) : SPoint := if k = 0 ∨ k + 1 = q.length then q.getD k ⟨0, 0⟩ else meanP (q.getD (k - 1) ⟨0, 0⟩) (q.getD k ⟨0, 0⟩) (q.getD (k + 1) ⟨0, 0⟩)
def smoothL (q : List SPoint) : List SPoint := (List.range q.length).map (smoothAt q)
theorem getD_at {q : List SPoint} {k : Nat} (h : k < q.length) : q.getD k ⟨0, 0⟩ = q[k] := by rw [List.getD_eq_getElem?_getD, List.getElem?_eq_getElem h]; rfl
theorem smooth_impl (q : List SPoint) (h : q.length ≤ 1000) : sh68 q = some (if strokeB q = true then (smoothL q, 0) else ([], 1)) := by
  unfold sh68 sh130
  rw [validStroke_eq q (by omega), bindS]
  cases hs : strokeB q
  · rfl
  · have hpos : 1 ≤ q.length := by
      obtain ⟨a, t, rfl, _, _⟩ := stroke_facts hs
      simp
    rw [appL_ok (by simp only [List.length_nil]; omega)]
    simp only [Bool.not_true, cond_false, bindS, if_true, List.nil_append]
    have hi := iter_steps (sb := sh68_1 q) (fun k => ((k : Int) + 1, (List.range (k + 1)).map (smoothAt q) ++ q.drop (k + 1))) (q.length - 2) (x := smoothL q) (by omega) (fun k hk => ?_) ?_
    · have h0 : (List.range (0 + 1)).map (smoothAt q) ++ q.drop (0 + 1) = q := by
        cases q with
        | nil => simp at hpos
        | cons a t => rfl
      rw [h0] at hi
      simp only [Int.natCast_zero, Int.zero_add] at hi
      rw [hi, bindS]
    · have hk1 : k + 1 < q.length := by omega
      have hk2 : k + 2 < q.length := by omega
      have hc : w64 ((k : Int) + 1 + 1) = ((k + 2 : Nat) : Int) := by rw [w64_id (by omega) (by omega)]; omega
      have hm : w64 ((k : Int) + 1 - 1) = (k : Int) := by rw [w64_id (by omega) (by omega)]; omega
      have hd : decide (((k + 2 : Nat) : Int) < (q.length : Int)) = true := decide_eq_true (by omega)
      have hl : ((List.range (k + 1)).map (smoothAt q)).length = k + 1 := by simp
      have hlt : k + 1 < ((List.range (k + 1)).map (smoothAt q) ++ q.drop (k + 1)).length := by rw [List.length_append, hl, List.length_drop]; omega
      rw [show (k : Int) + 1 = ((k + 1 : Nat) : Int) by omega] at hc hm ⊢
      simp only [sh68_1, hc, hm, hd, cond_true, getI_lt (show k < q.length by omega), getI_lt hk1, getI_lt hk2, bindS, getI_lt hlt, Int.toNat_natCast]
      rw [List.set_append, if_neg (by omega), hl, Nat.sub_self, List.drop_eq_getElem_cons hk1, List.set_cons_zero, List.range_succ (n := k + 1), List.map_append, List.append_assoc]
      have e : smoothAt q (k + 1) = meanP q[k] q[k + 1] q[k + 2] := by
        unfold smoothAt
        rw [if_neg (by omega), Nat.add_sub_cancel, getD_at (by omega), getD_at hk1, getD_at hk2]
      simp only [List.map_cons, List.map_nil, e]
      simp only [Option.some.injEq, Sum.inl.injEq, Prod.mk.injEq]
      refine ⟨by omega, rfl⟩
    · have hc : w64 (((q.length - 2 : Nat) : Int) + 1 + 1) = (((q.length - 2) + 2 : Nat) : Int) := by rw [w64_id (by omega) (by omega)]; omega
      have hd : decide ((((q.length - 2) + 2 : Nat) : Int) < (q.length : Int)) = false := decide_eq_false (by omega)
      simp only [sh68_1, hc, hd, cond_false]
      congr 2
      unfold smoothL
      rcases Nat.lt_or_ge q.length 2 with h2 | h2
      · have : q.length = 1 := by omega
        rw [show q.length - 2 + 1 = 1 by omega, this, List.drop_of_length_le (by omega), List.append_nil]
      · have hk1 : q.length - 2 + 1 < q.length := by omega
        rw [List.drop_eq_getElem_cons hk1, List.drop_of_length_le (by omega)]
        conv => rhs; rw [show q.length = (q.length - 2 + 1) + 1 by omega, List.range_succ, List.map_append]
        congr 1
        simp only [List.map_cons, List.map_nil]
        unfold smoothAt
        rw [if_pos (by omega), getD_at hk1]
theorem smooth_spec (q : List SPoint) (h : q.length ≤ 1000) : sh69 q = some (if strokeB q = true then (smoothL q, 0) else ([], 1)) := by
  unfold sh69
  rw [l19Ok_eq q (by omega), bindS]
  cases hs : strokeB q
  · rfl
  · simp only [Bool.not_true, cond_false, if_true]
    have hi := iter_steps (sb := sh69_1 q) (fun k => ((k : Int), (List.range k).map (smoothAt q))) q.length (x := smoothL q) (by omega) (fun k hk => ?_) ?_
    · simp only [List.range_zero, List.map_nil, Int.natCast_zero] at hi
      rw [hi, bindS]
    · have hd : decide ((k : Int) < (q.length : Int)) = true := decide_eq_true (by omega)
      have hw : w64 ((q.length : Int) - 1) = (q.length : Int) - 1 := w64_id (by omega) (by omega)
      have hc : w64 ((k : Int) + 1) = ((k + 1 : Nat) : Int) := by rw [w64_id (by omega) (by omega)]; omega
      simp only [sh69_1, hd, cond_true, hw, hc, getI_lt hk, bindS]
      by_cases he : k = 0 ∨ k + 1 = q.length
      · have hb : (((k : Int) == 0) || ((k : Int) == (q.length : Int) - 1)) = true := by
          rcases he with h | h
          · subst h; rfl
          · have : ((k : Int) == (q.length : Int) - 1) = true := beq_iff_eq.2 (by omega)
            rw [this, Bool.or_true]
        have e : smoothAt q k = q[k] := by unfold smoothAt; rw [if_pos he, getD_at hk]
        rw [hb, cond_true, appL_ok (by simp only [List.length_map, List.length_range, List.length_cons, List.length_nil]; omega), bindS, List.range_succ, List.map_append, List.map_cons, List.map_nil, e]
      · have hb : (((k : Int) == 0) || ((k : Int) == (q.length : Int) - 1)) = false := by
          rw [beq_eq_false_iff_ne.2 (by omega), beq_eq_false_iff_ne.2 (by omega)]; rfl
        have hm : w64 ((k : Int) - 1) = ((k - 1 : Nat) : Int) := by rw [w64_id (by omega) (by omega)]; omega
        have e : smoothAt q k = meanP q[k - 1] q[k] q[k + 1] := by
          unfold smoothAt
          rw [if_neg he, getD_at (by omega), getD_at hk, getD_at (by omega)]
        rw [hb, cond_false, hm, getI_lt (show k - 1 < q.length by omega), bindS, getI_lt (show k + 1 < q.length by omega), bindS, appL_ok (by simp only [List.length_map, List.length_range, List.length_cons, List.length_nil]; omega), bindS, List.range_succ, List.map_append, List.map_cons, List.map_nil, e]
        rfl
    · have hd : decide ((q.length : Int) < (q.length : Int)) = false := by simp
      simp only [sh69_1, hd, cond_false]
      rfl
theorem mean_in {a b c l h : Int} (h0 : 0 ≤ l) (h1 : h ≤ 2000) (ha : l ≤ a ∧ a ≤ h) (hb : l ≤ b ∧ b ≤ h) (hc : l ≤ c ∧ c ≤ h) : l ≤ w64 ((w64 ((w64 (a + (w64 (2 * b)))) + c)).tdiv 4) ∧ w64 ((w64 ((w64 (a + (w64 (2 * b)))) + c)).tdiv 4) ≤ h := by
  rw [w64_id (x := 2 * b) (by omega) (by omega), w64_id (x := a + 2 * b) (by omega) (by omega), w64_id (x := a + 2 * b + c) (by omega) (by omega), Int.tdiv_eq_ediv_of_nonneg (by omega), w64_id (by omega) (by omega)]
  omega
theorem smooth_in {q : List SPoint} {lx ly hx hy : Int} (h0 : 0 ≤ lx ∧ 0 ≤ ly) (h1 : hx ≤ 2000 ∧ hy ≤ 2000) (h : ∀ a ∈ q, (lx ≤ a.X ∧ a.X ≤ hx) ∧ (ly ≤ a.Y ∧ a.Y ≤ hy)) : ∀ a ∈ smoothL q, (lx ≤ a.X ∧ a.X ≤ hx) ∧ (ly ≤ a.Y ∧ a.Y ≤ hy) := by
  intro a ha
  unfold smoothL at ha
  rw [List.mem_map] at ha
  obtain ⟨k, hk, rfl⟩ := ha
  rw [List.mem_range] at hk
  have hg : ∀ j, j < q.length → (lx ≤ (q.getD j ⟨0, 0⟩).X ∧ (q.getD j ⟨0, 0⟩).X ≤ hx) ∧ (ly ≤ (q.getD j ⟨0, 0⟩).Y ∧ (q.getD j ⟨0, 0⟩).Y ≤ hy) := fun j hj => by
    rw [getD_at hj]; exact h _ (List.getElem_mem hj)
  unfold smoothAt
  split
  · exact hg k hk
  · have g1 := hg (k - 1) (by omega)
    have g2 := hg k hk
    have g3 := hg (k + 1) (by omega)
    exact ⟨mean_in h0.1 h1.1 g1.1 g2.1 g3.1, mean_in h0.2 h1.2 g1.2 g2.2 g3.2⟩
theorem smoothL_ok {q : List SPoint} (hq : strokeB q = true) : strokeB (smoothL q) = true := by
  obtain ⟨a, t, rfl, hl, hpt⟩ := stroke_facts hq
  have hin := smooth_in (q := a :: t) (lx := 0) (ly := 0) (hx := 2000) (hy := 2000) (by omega) (by omega) hpt
  have hsl : (smoothL (a :: t)).length = (a :: t).length := by simp [smoothL]
  unfold strokeB
  simp only [Bool.and_eq_true, decide_eq_true_eq, List.all_eq_true, hsl]
  refine ⟨⟨by simp, hl⟩, fun x hx => ?_⟩
  have := hin x hx
  unfold placeB
  simp [this.1.1, this.1.2, this.2.1, this.2.2]
/-! ### the nearest point; draws -/
theorem scale_ok (q : Sl00Src) (hc : srcB q.code) (h0 : 0 ≤ q.at_) (h1 : q.at_ ≤ 549755813888) : ∃ r, sh131 q = some r ∧ 0 ≤ r.2.1 ∧ r.2.1 ≤ q.at_ + 4 := by
  unfold sh131
  obtain ⟨x, e, a, c⟩ := one_ok q 10 hc h0 (by omega)
  rw [e, bindS]
  cases x.1
  · obtain ⟨y, g, n1, m, n⟩ := pick_ok ⟨q.code, x.2.1, x.2.2⟩ 16 hc a (by simp only; omega)
    simp only at n
    simp only [cond_false, g, bindS]
    exact ⟨_, rfl, m, by simp only; omega⟩
  · obtain ⟨y, g, n1, m, n⟩ := among_ok ⟨q.code, x.2.1, x.2.2⟩ [1, 2, 100, 101] hc a (by simp only; omega) (by simp)
    simp only at n
    simp only [cond_true, g, bindS]
    exact ⟨_, rfl, m, by simp only; omega⟩
theorem nearest_total (p : SPanel) (pl : SPoint) (s : Int) (hb : p.Breaks.length ≤ 1048576) : ∃ r, sh71 p pl s = some r ∧ sh72 p pl s = some r ∧ (r.2 = 0 → sh80 p r.1 = some true) := by
  unfold sh71 sh72 sh135
  have e1 : sh138 s = some (scaleB s) := rfl
  have e2 : sh133 s = some (scaleB s) := rfl
  have e3 : sh121 [pl] = some (placeB pl) := by
    rw [l19Ok_eq [pl] (by simp)]
    unfold strokeB
    simp
  rw [validPanel_eq p hb, l02Ok_eq p hb, isPlace_eq, e1, e2, e3]
  cases hp : panelB p
  · cases placeB pl <;> exact ⟨_, rfl, rfl, fun h => by cases h⟩
  · cases hpl : placeB pl
    · exact ⟨_, rfl, rfl, fun h => by cases h⟩
    · cases hs : scaleB s
      · exact ⟨_, rfl, rfl, fun h => by cases h⟩
      · have hs2 : 2 ≤ s ∧ s ≤ 100 := by unfold scaleB at hs; simpa using hs
        have hp2 : (0 ≤ pl.X ∧ pl.X ≤ 2000) ∧ (0 ≤ pl.Y ∧ pl.Y ≤ 2000) := by unfold placeB at hpl; simpa only [Bool.and_eq_true, decide_eq_true_eq] using hpl
        simp only [Bool.not_true, cond_false, bindS, bne_self_eq_false]
        rcases near_same (dim_of hp) hp2 hs2 with ⟨x, n1, n2, n3, n4, n5⟩ | ⟨x, y, n1, n2⟩
        · rw [n1, n2]
          simp only [bindS, Bool.not_true, cond_false]
          refine ⟨_, rfl, rfl, fun _ => ?_⟩
          unfold sh80
          rw [validPanel_eq p hb, hp, bindS, cond_true, isPoint_eq]
          have hd := dim_of hp
          have := hd.w1; have := hd.w2; have := hd.h1; have := hd.h2
          have hh : hasB p x = true := by
            unfold hasB
            rw [w64_id (x := 2 * p.W) (by omega) (by omega), w64_id (x := 2 * p.H) (by omega) (by omega), w64_id (x := x.X + x.Y) (by omega) (by omega), Int.tmod_eq_emod_of_nonneg (by omega)]
            simp [n3.1, n3.2, n4.1, n4.2, n5]
          rw [hh]; rfl
        · rw [n1, n2]
          exact ⟨_, rfl, rfl, fun h => by cases h⟩
theorem kind_total (q : List SPoint) (s : Int) (h : q.length ≤ 1048576) : ∃ r, sh74 q s = some r ∧ sh75 q s = some r := by
  unfold sh74 sh75
  have e1 : sh138 s = some (scaleB s) := rfl
  have e2 : sh133 s = some (scaleB s) := rfl
  rw [validStroke_eq q (by omega), l19Ok_eq q (by omega), e1, e2]
  cases hs : strokeB q
  · exact ⟨_, rfl, rfl⟩
  · cases scaleB s
    · exact ⟨_, rfl, rfl⟩
    · obtain ⟨a, t, rfl, hl, hpt⟩ := stroke_facts hs
      simp only [List.length_cons] at h
      simp only [Bool.not_true, cond_false, bindS, kind_spec (l19Box_eq a t (by omega)), kind_impl (boxOf_eq a t (by omega))]
      exact ⟨_, rfl, rfl⟩

/-! FnStrokes -/
theorem box_loop (q : List SPoint) (b : SPoint × SPoint × Int) (h : q.length ≤ 1048576) (hb : ∀ a ∈ q, (b.1.X ≤ a.X ∧ a.X ≤ b.2.1.X) ∧ (b.1.Y ≤ a.Y ∧ a.Y ≤ b.2.1.Y)) : iter (sh14_1 q b) 0 = some (.inl ()) := by
  rw [iter_all (xs := q) (p := fun _ => true) (r := false) (by omega) (fun k hk => ?_) (by simp [sh14_1])]
  · simp
  · have h2 : (k : Int) < q.length := by omega
    have h3 := hb _ (List.getElem_mem hk)
    have d1 : decide (q[k].X < b.1.X) = false := decide_eq_false (by omega)
    have d2 : decide (q[k].Y < b.1.Y) = false := decide_eq_false (by omega)
    have d3 : decide (b.2.1.X < q[k].X) = false := decide_eq_false (by omega)
    have d4 : decide (b.2.1.Y < q[k].Y) = false := decide_eq_false (by omega)
    simp only [sh14_1, h2, decide_true, cond_true, getI_lt hk, bindS, d1, d2, d3, d4, cond_false, if_true]
    rw [w64_id (by omega) (by omega)]
theorem box_loop2 (q : List SPoint) (b : SPoint × SPoint × Int) : sh14_2 q b = sh14_1 q b := rfl
theorem box_loop3 (q : List SPoint) (b : SPoint × SPoint × Int) : sh14_3 q b = sh14_1 q b := rfl
theorem box_loop4 (q : List SPoint) (b : SPoint × SPoint × Int) : sh14_4 q b = sh14_1 q b := rfl
theorem law14 (c : List Int) (hl0 : c.length ≤ maxLen) (hk0 : ∀ y ∈ c, okI .u8 y) : sh14 c = some true := by
  unfold sh14
  have hm : maxLen = 9223372036854775807 := rfl
  have hc := srcB_of hk0
  rw [f6big_eq c (by omega), bindS]
  cases hbig : decide (4096 < c.length)
  · rw [cond_false]
    have hfrom : sh109 c = some ⟨c, 0, 0⟩ := rfl
    obtain ⟨d1, e1, l1, r1, a1, c1⟩ := bent19_ok ⟨c, 0, 0⟩ hc (Int.le_refl 0) (by simp only; omega)
    simp only at c1
    have hA : sh61 c = some d1.1 := by unfold sh61; simp only [hfrom, bindS, e1]
    have hB : sh67 c = some d1.1 := by unfold sh67; simp only [hfrom, bindS, e1]
    have hC : sh76 c = some d1.1 := by unfold sh76; simp only [hfrom, bindS, e1]
    obtain ⟨y1, f1, _, g1, g2⟩ := pick_ok ⟨c, d1.2.1, d1.2.2⟩ 12 hc a1 (by simp only; omega)
    simp only at g2
    obtain ⟨y2, f2, g3, g4⟩ := one_ok ⟨c, y1.2.1, y1.2.2⟩ 10 hc g1 (by simp only; omega)
    simp only at g4
    obtain ⟨y3, f3, _, _⟩ := among_ok ⟨c, y2.2.1, y2.2.2⟩ [(-1), 0, 2000, 2001] hc g3 (by simp only; omega) (by simp)
    have hD : ∃ s, sh64 c = some (d1.1, s) := by
      unfold sh64
      simp only [hfrom, bindS, e1, f1, f2, f3]
      cases y2.1 <;> exact ⟨_, rfl⟩
    obtain ⟨st, hD⟩ := hD
    obtain ⟨y4, f4, _, _⟩ := scale_ok ⟨c, d1.2.1, d1.2.2⟩ hc a1 (by simp only; omega)
    have hE : sh73 c = some (d1.1, y4.1) := by unfold sh73; simp only [hfrom, bindS, e1, f4]
    obtain ⟨d2, e2, l2, a2, c2⟩ := bent02_ok ⟨c, 0, 0⟩ hc (Int.le_refl 0) (by simp only; omega)
    simp only at c2
    obtain ⟨z1, k1, _, m1, n1⟩ := pick_ok ⟨c, d2.2.1, d2.2.2⟩ 150 hc a2 (by simp only; omega)
    simp only at n1
    obtain ⟨z2, k2, _, m2, n2⟩ := pick_ok ⟨c, z1.2.1, z1.2.2⟩ 150 hc m1 (by simp only; omega)
    simp only at n2
    obtain ⟨z3, k3, m3, n3⟩ := one_ok ⟨c, z2.2.1, z2.2.2⟩ 16 hc m2 (by simp only; omega)
    simp only at n3
    obtain ⟨z4, k4, _, m4, n4⟩ := among_ok ⟨c, z3.2.1, z3.2.2⟩ [(-1), 2000, 2001] hc m3 (by simp only; omega) (by simp)
    simp only at n4
    obtain ⟨z5, k5, _, _⟩ := scale_ok ⟨c, z4.2.1, z4.2.2⟩ hc m4 (by simp only; omega)
    obtain ⟨z6, k6, _, _⟩ := scale_ok ⟨c, z3.2.1, z3.2.2⟩ hc m3 (by simp only; omega)
    have hF : ∃ pl s, sh70 c = some (d2.1, pl, s) := by
      unfold sh70
      simp only [hfrom, bindS, e2, k1, k2, k3, k4]
      cases z3.1
      · simp only [cond_false, bindS, k6]; exact ⟨_, _, rfl⟩
      · simp only [cond_true, bindS, k5]; exact ⟨_, _, rfl⟩
    obtain ⟨pl, sc, hF⟩ := hF
    obtain ⟨rn, hn1, hn2, hn3⟩ := nearest_total d2.1 pl sc (by omega)
    obtain ⟨rk, hk1, hk2⟩ := kind_total d1.1 y4.1 (by omega)
    have vs : sh79 d1.1 = some (strokeB d1.1) := by unfold sh79; rw [l19Ok_eq _ (by omega), bindS]
    rw [hA, hB, hC, hD, hE, hF]
    simp only [bindS, strokeBox_impl d1.1 (by omega), strokeBox_spec d1.1 (by omega), thin_impl d1.1 st (by omega), thin_spec d1.1 st (by omega), smooth_impl d1.1 (by omega), smooth_spec d1.1 (by omega), hn1, hn2, hk1, hk2, validStroke_eq d1.1 (by omega), vs, bne_self_eq_false, beq_self_eq_true, Bool.and_self, Bool.not_true, Bool.or_self, cond_false, Bool.false_or]
    have hP : (bif rn.2 == 0 then (Option.bind (sh80 d2.1 rn.1) fun x88 => some !x88) else (some false)) = some false := by
      by_cases h : rn.2 = 0
      · rw [beq_iff_eq.2 h, cond_true, hn3 h]; rfl
      · rw [beq_eq_false_iff_ne.2 h]; rfl
    cases hs : strokeB d1.1
    · simp only [Bool.false_eq_true, if_false, f6points_eq [] [] (by simp), decide_true, bindS, Bool.not_true, cond_false]
      have h1 : ((1 : Int) == 0) = false := rfl
      have h2 : ((1 : Int) != 0) = true := rfl
      simp only [h1, h2, cond_false, cond_true, hP, bindS]
      rfl
    · have hne : d1.1 ≠ [] := by
        obtain ⟨a, t, h, _, _⟩ := stroke_facts hs
        rw [h]; simp
      have hsm := smoothL_ok hs
      have hsl : (smoothL d1.1).length = d1.1.length := by simp [smoothL]
      obtain ⟨a, t, hat, hl60, hpt⟩ := stroke_facts hs
      have hbx := boxL_mem (q := d1.1)
      have hb0 := boxL_in (lx := 0) (ly := 0) (hx := 2000) (hy := 2000) hne hpt
      have hin := smooth_in (q := d1.1) (lx := (boxL d1.1).1.X) (ly := (boxL d1.1).1.Y) (hx := (boxL d1.1).2.X) (hy := (boxL d1.1).2.Y) ⟨hb0.1, hb0.2.1⟩ ⟨hb0.2.2.1, hb0.2.2.2⟩ hbx
      have hsne : smoothL d1.1 ≠ [] := fun h => by
        have h5 := hsl
        rw [h, hat] at h5
        simp at h5
      have hbb := boxL_in hsne hin
      have hloop := box_loop d1.1 ((boxL d1.1).1, (boxL d1.1).2, 0) (by omega) hbx
      have b1 : decide ((boxL (smoothL d1.1)).1.X < (boxL d1.1).1.X) = false := decide_eq_false (by omega)
      have b2 : decide ((boxL (smoothL d1.1)).1.Y < (boxL d1.1).1.Y) = false := decide_eq_false (by omega)
      have b3 : decide ((boxL d1.1).2.X < (boxL (smoothL d1.1)).2.X) = false := decide_eq_false (by omega)
      have b4 : decide ((boxL d1.1).2.Y < (boxL (smoothL d1.1)).2.Y) = false := decide_eq_false (by omega)
      simp only [if_true, f6points_eq (smoothL d1.1) (smoothL d1.1) (by omega), decide_true, bindS, Bool.not_true, cond_false, bne_self_eq_false, beq_self_eq_true, cond_true, Bool.false_or, strokeBox_impl (smoothL d1.1) (by omega), hsm, b1, b2, b3, b4, Bool.or_self, hP, box_loop3, hloop]
      by_cases h2 : 0 ≤ st ∧ st ≤ 2000
      · have htl := thinL_ok st hs
        have htlen : (thinL st d1.1).length ≤ 60 := strokeB_len htl
        simp only [if_pos h2, f6points_eq (thinL st d1.1) (thinL st d1.1) (by omega), decide_true, bindS, Bool.not_true, cond_false, beq_self_eq_true, cond_true, thin_impl (thinL st d1.1) st (by omega), htl, if_true, bne_self_eq_false, (thinL_thinL st hne).1]
        simp only [elimS]
        rfl
      · have h3 : ((2 : Int) == 0) = false := rfl
        simp only [if_neg h2, f6points_eq [] [] (by simp), decide_true, bindS, Bool.not_true, cond_false, h3]
        simp only [elimS]
        rfl
  · rfl
end Go.Sh
