/- Plain laws: what the shallow functions come to. -/
import Derived.Test.YtnifcedmpilldaaF4W3
set_option linter.unusedVariables false
set_option linter.unusedSimpArgs false
namespace Go.Sh
open Go Go.RowKit

/-! iters -/
theorem w64_lo (x : Int) : -9223372036854775808 ≤ w64 x := by
  have := IntKind.wrap_i64 x
  show _ ≤ IntKind.i64.wrap x
  omega
theorem w64_hi (x : Int) : w64 x ≤ 9223372036854775807 := by
  have := IntKind.wrap_i64 x
  show IntKind.i64.wrap x ≤ _
  omega
theorem getI_toNat {T : Type} {xs : List T} {i : Int} (h0 : 0 ≤ i) (h : i.toNat < xs.length) : getI xs i = some xs[i.toNat] := by
  unfold getI; rw [if_pos h0]; exact List.getElem?_eq_getElem h
theorem nzI_ok {a : Int} (h : a ≠ 0) : nzI a = some a := by simp [nzI, h]

/-- The loop that looks for the first element that passes. -/
theorem iter_find {T : Type} {sb : Int → Option (Int ⊕ (Unit ⊕ Int))} {xs : List T} {p : T → Bool} (hl : xs.length < 1099511627776)
    (hsb : ∀ (k : Nat) (h : k < xs.length), sb (k : Int) = if p xs[k] = true then some (.inr (.inr (k : Int))) else some (.inl ((k : Int) + 1))) (he : sb (xs.length : Int) = some (.inr (.inl ()))) :
    iter sb 0 = some (if xs.any p = true then .inr (xs.findIdx p : Int) else .inl ()) := by
  have h := iter_res (sb := sb) (fun k => (k : Int)) (fun k => if (xs.drop k).any p = true then (.inr (k + (xs.drop k).findIdx p : Nat) : Unit ⊕ Int) else .inl ()) xs.length (by omega) (fun k hk => ?_) (by
    rw [he, List.drop_of_length_le (Nat.le_refl _)]; simp)
  · simpa using h
  · rw [hsb k hk, List.drop_eq_getElem_cons hk]
    by_cases hx : p xs[k] = true
    · right
      rw [if_pos hx]
      simp only [List.any_cons, hx, Bool.true_or, if_true, List.findIdx_cons, cond_true, Nat.add_zero]
    · left
      rw [if_neg hx]
      refine ⟨by simp, ?_⟩
      have hx' : p xs[k] = false := by simpa using hx
      simp only [List.any_cons, hx', Bool.false_or, List.findIdx_cons, cond_false]
      split <;> simp
      omega

theorem iterN_congr {σ ρ : Type} {sb1 sb2 : σ → Option (σ ⊕ ρ)} (I : σ → Prop) (hs : ∀ s, I s → sb1 s = sb2 s ∧ ∀ s', sb2 s = some (.inl s') → I s') : ∀ (n : Nat) (s : σ), I s → iterN sb1 n s = iterN sb2 n s
  | 0, _, _ => rfl
  | n + 1, s, h => by
    obtain ⟨h1, h2⟩ := hs s h
    simp only [iterN, h1]
    cases hb : sb2 s with
    | none => rfl
    | some o =>
      cases o with
      | inl s' => exact iterN_congr I hs n s' (h2 s' hb)
      | inr x => rfl
/-- Two loops whose bodies agree where the invariant holds. -/
theorem iter_congr {σ ρ : Type} {sb1 sb2 : σ → Option (σ ⊕ ρ)} (I : σ → Prop) {s0 : σ} (h0 : I s0) (hs : ∀ s, I s → sb1 s = sb2 s ∧ ∀ s', sb2 s = some (.inl s') → I s') : iter sb1 s0 = iter sb2 s0 :=
  iterN_congr I hs FUEL s0 h0

/-- A loop over a list, as a fold. -/
theorem iter_fold {T σ S ρ : Type} {sb : S → Option (S ⊕ ρ)} (xs : List T) (st : Nat → σ → S) (g : σ → T → σ) (h : σ → ρ) (I : Nat → σ → Prop) (s0 : σ) (h0 : I 0 s0) (hl : xs.length < 1099511627776)
    (hsb : ∀ (k : Nat) (hk : k < xs.length) s, I k s → sb (st k s) = some (.inl (st (k + 1) (g s xs[k]))) ∧ I (k + 1) (g s xs[k])) (he : ∀ s, I xs.length s → sb (st xs.length s) = some (.inr (h s))) :
    iter sb (st 0 s0) = some (h (xs.foldl g s0)) ∧ I xs.length (xs.foldl g s0) := by
  have hI : ∀ k, k ≤ xs.length → I k ((xs.take k).foldl g s0) := by
    intro k
    induction k with
    | zero => intro _; simpa using h0
    | succ k ih =>
      intro hk
      rw [List.take_succ_eq_append_getElem (by omega), List.foldl_append]
      exact (hsb k (by omega) _ (ih (by omega))).2
  have hlast := hI xs.length (Nat.le_refl _)
  rw [List.take_length] at hlast
  refine ⟨?_, hlast⟩
  refine iter_steps (fun k => st k ((xs.take k).foldl g s0)) xs.length (by omega) (fun k hk => ?_) (by rw [List.take_length]; exact he _ hlast)
  rw [(hsb k hk _ (hI k (by omega))).1, List.take_succ_eq_append_getElem hk, List.foldl_append]
  rfl

/-- The greater one. -/
def mx (a b : Int) : Int := if a < b then b else a
def mn (a b : Int) : Int := if b < a then b else a
theorem mx_comm' (a b : Int) : (if b < a then a else b) = mx a b := by unfold mx; split <;> split <;> omega
theorem foldl_snoc {α β : Type} (f : α → β) : ∀ (xs : List α) (a : List β), xs.foldl (fun acc m => acc ++ [f m]) a = a ++ xs.map f
  | [], a => by simp
  | x :: xs, a => by rw [List.foldl_cons, foldl_snoc f xs]; simp

/-! points -/

/-! polygon -/
def cornerB (p : SPoint) : Bool := (decide (-100000 ≤ p.X) && decide (p.X ≤ 100000)) && (decide (-100000 ≤ p.Y) && decide (p.Y ≤ 100000))
def polyB (q : List SPoint) : Bool := (decide (3 ≤ q.length) && decide (q.length ≤ 300)) && q.all cornerB

theorem l20Ok_eq (q : List SPoint) (h : q.length ≤ 1048576) : sh110 q = some (polyB q) := by
  unfold sh110 polyB
  rw [iter_all (xs := q) (p := cornerB) (r := false) (by omega) (fun k hk => ?_) (by simp [sh110_1]), bindS]
  · cases ha : q.all cornerB
    · simp [elimS]
    · simp only [elimS, if_true, sh100, bindS, Bool.and_true]
      congr 2
      · simp only [decide_eq_decide]; omega
      · simp only [decide_eq_decide]; omega
  · have h2 : (k : Int) < q.length := by omega
    simp only [sh110_1, sh100, h2, decide_true, cond_true, getI_lt hk, bindS]
    rw [w64_id (x := (k : Int) + 1) (by omega) (by omega)]
    unfold cornerB
    cases h0 : decide (-100000 ≤ q[k].X) && decide (q[k].X ≤ 100000) <;> cases h1 : decide (-100000 ≤ q[k].Y) && decide (q[k].Y ≤ 100000) <;> rfl

theorem isCorner_eq (p : SPoint) : sh106 p = some (cornerB p) := by
  unfold sh106 sh107 cornerB
  simp only [bindS]
  cases decide (-100000 ≤ p.X) && decide (p.X ≤ 100000) <;> rfl

theorem isPolygon_eq (q : List SPoint) (h : q.length ≤ 1048576) : sh102 q = some (polyB q) := by
  unfold sh102 sh136f179 sh200f179 sh107
  rw [iter_find (xs := q) (p := fun x => !cornerB x) (by omega) (fun k hk => ?_) (by simp [sh200f179_1])]
  · simp only [bindS]
    unfold polyB
    have e1 : decide ((3 : Int) ≤ (q.length : Int)) = decide (3 ≤ q.length) := by simp only [decide_eq_decide]; omega
    have e2 : decide ((q.length : Int) ≤ 300) = decide (q.length ≤ 300) := by simp only [decide_eq_decide]; omega
    rw [e1, e2]
    cases hc : decide (3 ≤ q.length) && decide (q.length ≤ 300)
    · rfl
    · have ha : q.any (fun x => !cornerB x) = !q.all cornerB := by rw [List.all_eq_not_any_not]; simp
      rw [ha]
      cases q.all cornerB
      · simp [elimS]
      · simp [elimS]
  · have h2 : (k : Int) < q.length := by omega
    simp only [sh200f179_1, sh179, isCorner_eq, h2, decide_true, cond_true, getI_lt hk, bindS]
    rw [w64_id (x := (k : Int) + 1) (by omega) (by omega)]
    cases cornerB q[k] <;> rfl

theorem polyB_len {q : List SPoint} (h : polyB q = true) : 3 ≤ q.length ∧ q.length ≤ 300 := by
  unfold polyB at h
  simp only [Bool.and_eq_true, decide_eq_true_eq] at h
  exact h.1

/-! area -/
theorem area_same (q : List SPoint) : sh115 q = sh103 q := rfl

theorem wrapix {n k : Nat} (h : k < n) : ((k : Int) + 1).tmod (n : Int) = ((if k + 1 = n then 0 else k + 1 : Nat) : Int) := by
  rw [Int.tmod_eq_emod_of_nonneg (by omega)]
  split
  · rename_i he
    rw [show (k : Int) + 1 = (n : Int) by omega, Int.emod_self]; rfl
  · rw [Int.emod_eq_of_lt (by omega) (by omega)]; omega

theorem area_total (q : List SPoint) (h : 3 ≤ q.length) (hl : q.length ≤ 300) : ∃ a, sh103 q = some a ∧ -9223372036854775808 ≤ a ∧ a ≤ 9223372036854775807 := by
  unfold sh103
  obtain ⟨a, h1, h2⟩ := iter_inv (sb := sh103_1 q) (fun (s : Int × Int) => 0 ≤ s.2 ∧ s.2 ≤ q.length ∧ -9223372036854775808 ≤ s.1 ∧ s.1 ≤ 9223372036854775807) (fun s => (q.length - s.2).toNat) (fun (a : Int) => -9223372036854775808 ≤ a ∧ a ≤ 9223372036854775807) (s0 := (0, 0)) (by simp) (by simp; omega) (by
    rintro ⟨s, i⟩ ⟨h2, h3, h4, h5⟩
    simp only at h2 h3 h4 h5
    by_cases hi : i < q.length
    · left
      obtain ⟨k, rfl⟩ : ∃ k : Nat, i = k := ⟨i.toNat, by omega⟩
      have hk : k < q.length := by omega
      have hj : (if k + 1 = q.length then 0 else k + 1 : Nat) < q.length := by split <;> omega
      simp only [sh103_1, hi, decide_true, cond_true, getI_lt hk, bindS]
      rw [w64_id (x := (k : Int) + 1) (by omega) (by omega), nzI_ok (by omega), bindS, wrapix hk, getI_lt hj, bindS]
      exact ⟨_, rfl, ⟨by simp only; omega, by simp only; omega, w64_lo _, w64_hi _⟩, by simp only; omega⟩
    · right
      have hd : decide (i < (q.length : Int)) = false := decide_eq_false hi
      simp only [sh103_1, hd, cond_false]
      exact ⟨_, rfl, h4, h5⟩)
  exact ⟨a, by rw [h1]; rfl, h2⟩

/-! turn -/
theorem sign_same (a : Int) : sh104 a 0 = sh116 a := by
  unfold sh104 sh116
  by_cases h1 : a < 0
  · have h2 : ¬ (0 < a) := by omega
    simp [h1, h2]
  · by_cases h2 : 0 < a <;> simp [h1, h2]
def signOf (a : Int) : Int := if 0 < a then 1 else if a < 0 then -1 else 0
theorem l20Sign_eq (a : Int) : sh116 a = some (signOf a) := by
  unfold sh116 signOf
  by_cases h2 : 0 < a
  · simp [h2]
  · by_cases h1 : a < 0 <;> simp [h1, h2]

/-! isconvex -/
/-- Which side of a line a place lies at. -/
def sideP (a b c : SPoint) : Int := w64 ((w64 ((w64 (b.X - a.X)) * (w64 (c.Y - a.Y)))) - (w64 ((w64 (b.Y - a.Y)) * (w64 (c.X - a.X)))))
theorem side_eq (a b c : SPoint) : sh105 a b c = some (sideP a b c) := rfl
theorem cross_eq (a b c : SPoint) : sh117 a b c = some (sideP a b c) := rfl
theorem corner_bd {p : SPoint} (h : cornerB p = true) : -100000 ≤ p.X ∧ p.X ≤ 100000 ∧ -100000 ≤ p.Y ∧ p.Y ≤ 100000 := by
  unfold cornerB at h
  simp only [Bool.and_eq_true, decide_eq_true_eq] at h
  omega
theorem mul_bd {x y : Int} (h1 : -200000 ≤ x) (h2 : x ≤ 200000) (h3 : -200000 ≤ y) (h4 : y ≤ 200000) : -40000000000 ≤ x * y ∧ x * y ≤ 40000000000 := by
  constructor
  · have : (x + 200000) * (y + 200000) ≥ 0 := Int.mul_nonneg (by omega) (by omega)
    have h5 : (200000 - x) * (200000 - y) ≥ 0 := Int.mul_nonneg (by omega) (by omega)
    rw [Int.add_mul, Int.mul_add, Int.mul_add] at this
    rw [Int.sub_mul, Int.mul_sub, Int.mul_sub] at h5
    omega
  · have : (200000 - x) * (y + 200000) ≥ 0 := Int.mul_nonneg (by omega) (by omega)
    have h5 : (x + 200000) * (200000 - y) ≥ 0 := Int.mul_nonneg (by omega) (by omega)
    rw [Int.sub_mul, Int.mul_add, Int.mul_add] at this
    rw [Int.add_mul, Int.mul_sub, Int.mul_sub] at h5
    omega
theorem side_bd {a b c : SPoint} (ha : cornerB a = true) (hb : cornerB b = true) (hc : cornerB c = true) : -80000000000 ≤ sideP a b c ∧ sideP a b c ≤ 80000000000 := by
  have h1 := corner_bd ha
  have h2 := corner_bd hb
  have h3 := corner_bd hc
  unfold sideP
  rw [w64_id (x := b.X - a.X) (by omega) (by omega), w64_id (x := c.Y - a.Y) (by omega) (by omega), w64_id (x := b.Y - a.Y) (by omega) (by omega), w64_id (x := c.X - a.X) (by omega) (by omega)]
  have m1 := mul_bd (x := b.X - a.X) (y := c.Y - a.Y) (by omega) (by omega) (by omega) (by omega)
  have m2 := mul_bd (x := b.Y - a.Y) (y := c.X - a.X) (by omega) (by omega) (by omega) (by omega)
  rw [w64_id (x := (b.X - a.X) * (c.Y - a.Y)) (by omega) (by omega), w64_id (x := (b.Y - a.Y) * (c.X - a.X)) (by omega) (by omega), w64_id (by omega) (by omega)]
  omega
theorem sign_mul {t x : Int} (ht : t = -1 ∨ t = 0 ∨ t = 1) (h1 : -80000000000 ≤ x) (h2 : x ≤ 80000000000) : decide (w64 (signOf x * t) < 0) = decide (t * x < 0) ∧ decide (w64 (t * x) < 0) = decide (t * x < 0) := by
  unfold signOf
  rcases ht with rfl | rfl | rfl
  · rw [w64_id (by split <;> (try split) <;> omega) (by split <;> (try split) <;> omega), w64_id (by omega) (by omega)]
    refine ⟨?_, rfl⟩
    simp only [decide_eq_decide]
    split <;> (try split) <;> omega
  · rw [Int.mul_zero, Int.zero_mul, w64_id (x := 0) (by omega) (by omega)]; exact ⟨rfl, rfl⟩
  · rw [w64_id (by split <;> (try split) <;> omega) (by split <;> (try split) <;> omega), w64_id (by omega) (by omega)]
    refine ⟨?_, rfl⟩
    simp only [decide_eq_decide]
    split <;> (try split) <;> omega
theorem signOf_cases (a : Int) : signOf a = -1 ∨ signOf a = 0 ∨ signOf a = 1 := by
  unfold signOf
  split
  · exact .inr (.inr rfl)
  · split
    · exact .inl rfl
    · exact .inr (.inl rfl)
def nextP (q : List SPoint) (k : Nat) : SPoint := q.getD (if k + 1 = q.length then 0 else k + 1) ⟨0, 0⟩
def convK (q : List SPoint) (t : Int) (k : Nat) : Bool := q.all fun c => !decide (t * sideP (q.getD k ⟨0, 0⟩) (nextP q k) c < 0)
theorem getD_lt {T : Type} {q : List T} {k : Nat} {z : T} (h : k < q.length) : q.getD k z = q[k] := by rw [List.getD_eq_getElem?_getD, List.getElem?_eq_getElem h]; rfl
theorem next_eq {q : List SPoint} {k : Nat} (hk : k < q.length) (hq : q.length ≤ 300) : getI q ((w64 ((k : Int) + 1)).tmod (q.length : Int)) = some (nextP q k) ∧ nextP q k ∈ q := by
  have hj : (if k + 1 = q.length then 0 else k + 1 : Nat) < q.length := by split <;> omega
  rw [w64_id (by omega) (by omega), wrapix hk, getI_lt hj, nextP, getD_lt hj]
  exact ⟨rfl, List.getElem_mem hj⟩
theorem poly_corner {q : List SPoint} (h : polyB q = true) : ∀ p ∈ q, cornerB p = true := by
  unfold polyB at h
  simp only [Bool.and_eq_true, List.all_eq_true] at h
  exact h.2

theorem inner_spec (q : List SPoint) (t : Int) (ht : t = -1 ∨ t = 0 ∨ t = 1) (hp : polyB q = true) (k : Nat) (hk : k < q.length) : iter (sh35_2 q t (k : Int)) 0 = some (if convK q t k = true then .inl () else .inr false) := by
  obtain ⟨h3, hl⟩ := polyB_len hp
  have hc := poly_corner hp
  obtain ⟨hn, hm⟩ := next_eq hk hl
  unfold convK
  refine iter_all (xs := q) (p := fun c => !decide (t * sideP (q.getD k ⟨0, 0⟩) (nextP q k) c < 0)) (r := false) (by omega) (fun j hj => ?_) (by simp [sh35_2])
  have h2 : (j : Int) < q.length := by omega
  have hb := side_bd (hc _ (List.getElem_mem hk)) (hc _ hm) (hc _ (List.getElem_mem hj))
  have hs := (sign_mul ht hb.1 hb.2).1
  simp only [sh35_2, h2, decide_true, cond_true, getI_lt hk, getI_lt hj, bindS, nzI_ok (show (q.length : Int) ≠ 0 by omega), hn, cross_eq, l20Sign_eq, hs, getD_lt hk]
  rw [w64_id (x := (j : Int) + 1) (by omega) (by omega)]
  cases decide (t * sideP q[k] (nextP q k) q[j] < 0) <;> rfl
theorem inner_impl (q : List SPoint) (t : Int) (ht : t = -1 ∨ t = 0 ∨ t = 1) (hp : polyB q = true) (k : Nat) (hk : k < q.length) : iter (sh19_2 q t q[k] (nextP q k)) 0 = some (if convK q t k = true then .inl () else .inr false) := by
  obtain ⟨h3, hl⟩ := polyB_len hp
  have hc := poly_corner hp
  obtain ⟨hn, hm⟩ := next_eq hk hl
  unfold convK
  refine iter_all (xs := q) (p := fun c => !decide (t * sideP (q.getD k ⟨0, 0⟩) (nextP q k) c < 0)) (r := false) (by omega) (fun j hj => ?_) (by simp [sh19_2])
  have h2 : (j : Int) < q.length := by omega
  have hb := side_bd (hc _ (List.getElem_mem hk)) (hc _ hm) (hc _ (List.getElem_mem hj))
  have hs := (sign_mul ht hb.1 hb.2).2
  simp only [sh19_2, h2, decide_true, cond_true, getI_lt hj, bindS, side_eq, hs, getD_lt hk]
  rw [w64_id (x := (j : Int) + 1) (by omega) (by omega)]
  cases decide (t * sideP q[k] (nextP q k) q[j] < 0) <;> rfl

theorem outer_spec (q : List SPoint) (t : Int) (ht : t = -1 ∨ t = 0 ∨ t = 1) (hp : polyB q = true) : iter (sh35_1 q t) 0 = some (if (List.range q.length).all (convK q t) = true then .inl () else .inr false) := by
  obtain ⟨h3, hl⟩ := polyB_len hp
  refine iter_all (xs := List.range q.length) (p := convK q t) (r := false) (by rw [List.length_range]; omega) (fun k hk => ?_) (by simp [sh35_1])
  rw [List.length_range] at hk
  have h2 : (k : Int) < q.length := by omega
  simp only [sh35_1, h2, decide_true, cond_true, inner_spec q t ht hp k hk, bindS, List.getElem_range]
  rw [w64_id (x := (k : Int) + 1) (by omega) (by omega)]
  cases convK q t k <;> rfl
theorem outer_impl (q : List SPoint) (t : Int) (ht : t = -1 ∨ t = 0 ∨ t = 1) (hp : polyB q = true) : iter (sh19_1 q t) 0 = some (if (List.range q.length).all (convK q t) = true then .inl () else .inr false) := by
  obtain ⟨h3, hl⟩ := polyB_len hp
  refine iter_all (xs := List.range q.length) (p := convK q t) (r := false) (by rw [List.length_range]; omega) (fun k hk => ?_) (by simp [sh19_1])
  rw [List.length_range] at hk
  have h2 : (k : Int) < q.length := by omega
  obtain ⟨hn, hm⟩ := next_eq hk hl
  simp only [sh19_1, h2, decide_true, cond_true, getI_lt hk, nzI_ok (show (q.length : Int) ≠ 0 by omega), hn, inner_impl q t ht hp k hk, bindS, List.getElem_range]
  rw [w64_id (x := (k : Int) + 1) (by omega) (by omega)]
  cases convK q t k <;> rfl

theorem isConvex_total (q : List SPoint) (h : q.length ≤ 1048576) : ∃ r, sh19 q = some r ∧ sh35 q = some r := by
  unfold sh19 sh35
  rw [isPolygon_eq q h, l20Ok_eq q h]
  simp only [bindS]
  cases hp : polyB q
  · exact ⟨_, rfl, rfl⟩
  · obtain ⟨h3, hl⟩ := polyB_len hp
    obtain ⟨a, ha, h1, h2⟩ := area_total q h3 hl
    simp only [Bool.not_true, cond_false, area_same, ha, bindS, sign_same, l20Sign_eq, outer_spec q _ (signOf_cases a) hp, outer_impl q _ (signOf_cases a) hp]
    by_cases ht : signOf a = 0
    · rw [ht]
      cases (List.range q.length).all (convK q 0) <;> exact ⟨_, rfl, rfl⟩
    · rw [beq_eq_false_iff_ne.2 ht, bne_iff_ne.2 ht]
      cases (List.range q.length).all (convK q (signOf a)) <;> exact ⟨_, rfl, rfl⟩

/-! polyarea -/
/-! ### exact areas, and a place on an edge -/
def crossP (a b : SPoint) : Int := a.X * b.Y - a.Y * b.X
def sumR (f : Nat → Int) : Nat → Int
  | 0 => 0
  | n + 1 => sumR f n + f n
def areaZ (q : List SPoint) : Int := sumR (fun k => crossP (q.getD k ⟨0, 0⟩) (nextP q k)) q.length
theorem sumR_bd {f : Nat → Int} {B : Int} (hB : 0 ≤ B) : ∀ n : Nat, (∀ k, k < n → -B ≤ f k ∧ f k ≤ B) → -((n : Int) * B) ≤ sumR f n ∧ sumR f n ≤ (n : Int) * B
  | 0, _ => by simp [sumR]
  | n + 1, h => by
    have h1 := sumR_bd hB n (fun k hk => h k (by omega))
    have h2 := h n (by omega)
    unfold sumR
    rw [Int.natCast_add, Int.add_mul]
    simp only [Int.natCast_one, Int.one_mul]
    omega
theorem cross_bd {a b : SPoint} (ha : cornerB a = true) (hb : cornerB b = true) : (-10000000000 ≤ a.X * b.Y ∧ a.X * b.Y ≤ 10000000000) ∧ (-10000000000 ≤ a.Y * b.X ∧ a.Y * b.X ≤ 10000000000) := by
  have h1 := corner_bd ha
  have h2 := corner_bd hb
  have key : ∀ x y : Int, -100000 ≤ x → x ≤ 100000 → -100000 ≤ y → y ≤ 100000 → -10000000000 ≤ x * y ∧ x * y ≤ 10000000000 := by
    intro x y h1 h2 h3 h4
    constructor
    · have : (x + 100000) * (y + 100000) ≥ 0 := Int.mul_nonneg (by omega) (by omega)
      have h5 : (100000 - x) * (100000 - y) ≥ 0 := Int.mul_nonneg (by omega) (by omega)
      rw [Int.add_mul, Int.mul_add, Int.mul_add] at this
      rw [Int.sub_mul, Int.mul_sub, Int.mul_sub] at h5
      omega
    · have : (100000 - x) * (y + 100000) ≥ 0 := Int.mul_nonneg (by omega) (by omega)
      have h5 : (x + 100000) * (100000 - y) ≥ 0 := Int.mul_nonneg (by omega) (by omega)
      rw [Int.sub_mul, Int.mul_add, Int.mul_add] at this
      rw [Int.add_mul, Int.mul_sub, Int.mul_sub] at h5
      omega
  exact ⟨key _ _ (by omega) (by omega) (by omega) (by omega), key _ _ (by omega) (by omega) (by omega) (by omega)⟩
theorem side_val {a b c : SPoint} (ha : cornerB a = true) (hb : cornerB b = true) (hc : cornerB c = true) : sideP a b c = (b.X - a.X) * (c.Y - a.Y) - (b.Y - a.Y) * (c.X - a.X) := by
  have h1 := corner_bd ha
  have h2 := corner_bd hb
  have h3 := corner_bd hc
  unfold sideP
  rw [w64_id (x := b.X - a.X) (by omega) (by omega), w64_id (x := c.Y - a.Y) (by omega) (by omega), w64_id (x := b.Y - a.Y) (by omega) (by omega), w64_id (x := c.X - a.X) (by omega) (by omega)]
  have m1 := mul_bd (x := b.X - a.X) (y := c.Y - a.Y) (by omega) (by omega) (by omega) (by omega)
  have m2 := mul_bd (x := b.Y - a.Y) (y := c.X - a.X) (by omega) (by omega) (by omega) (by omega)
  rw [w64_id (x := (b.X - a.X) * (c.Y - a.Y)) (by omega) (by omega), w64_id (x := (b.Y - a.Y) * (c.X - a.X)) (by omega) (by omega), w64_id (by omega) (by omega)]
theorem area_bd {q : List SPoint} (hp : polyB q = true) : ∀ n, n ≤ q.length → -((n : Int) * 20000000000) ≤ sumR (fun k => crossP (q.getD k ⟨0, 0⟩) (nextP q k)) n ∧ sumR (fun k => crossP (q.getD k ⟨0, 0⟩) (nextP q k)) n ≤ (n : Int) * 20000000000 := by
  intro n hn
  obtain ⟨h3, hl⟩ := polyB_len hp
  have hc := poly_corner hp
  refine sumR_bd (by decide) n (fun k hk => ?_)
  have hkq : k < q.length := by omega
  have hb := cross_bd (hc _ (List.getElem_mem hkq)) (hc _ (next_eq hkq hl).2)
  simp only [getD_lt hkq, crossP]
  omega
theorem area_val (q : List SPoint) (hp : polyB q = true) : sh103 q = some (areaZ q) := by
  obtain ⟨h3, hl⟩ := polyB_len hp
  have hc := poly_corner hp
  unfold sh103
  have hi := iter_steps (sb := sh103_1 q) (fun k => (sumR (fun k => crossP (q.getD k ⟨0, 0⟩) (nextP q k)) k, (k : Int))) q.length (x := areaZ q) (by omega) (fun k hk => ?_) ?_
  · have e0 : sumR (fun k => crossP (q.getD k ⟨0, 0⟩) (nextP q k)) 0 = 0 := rfl
    simp only [Int.natCast_zero, e0] at hi
    rw [hi]; rfl
  · have h2 : (k : Int) < q.length := by omega
    obtain ⟨hn, hm⟩ := next_eq hk hl
    have hb := cross_bd (hc _ (List.getElem_mem hk)) (hc _ hm)
    have hs := area_bd hp k (by omega)
    simp only [sh103_1, h2, decide_true, cond_true, getI_lt hk, bindS, nzI_ok (show (q.length : Int) ≠ 0 by omega), hn]
    rw [w64_id (x := q[k].X * (nextP q k).Y) (by omega) (by omega), w64_id (x := q[k].Y * (nextP q k).X) (by omega) (by omega), w64_id (x := q[k].X * (nextP q k).Y - q[k].Y * (nextP q k).X) (by omega) (by omega), w64_id (x := (k : Int) + 1) (by omega) (by omega), w64_id (by omega) (by omega)]
    simp only [sumR, crossP, getD_lt hk]
    rfl
  · have hd : decide ((q.length : Int) < (q.length : Int)) = false := by simp
    simp only [sh103_1, hd, cond_false]
    rfl
theorem doubleArea_val (q : List SPoint) (hp : polyB q = true) : sh18 q = some (if areaZ q < 0 then -areaZ q else areaZ q, 0) := by
  obtain ⟨h3, hl⟩ := polyB_len hp
  have hb : -((q.length : Int) * 20000000000) ≤ areaZ q ∧ areaZ q ≤ (q.length : Int) * 20000000000 := area_bd hp q.length (Nat.le_refl _)
  unfold sh18
  rw [isPolygon_eq q (by omega), hp, bindS, area_val q hp, bindS, w64_id (by omega) (by omega)]
  simp only [Bool.not_true, cond_false]
  congr 2
  split <;> split <;> omega
theorem compare_eq (a : Int) : sh104 a 0 = some (signOf a) := by
  unfold sh104 signOf
  by_cases h1 : a < 0
  · have h2 : ¬ (0 < a) := by omega
    simp [h1, h2]
  · by_cases h2 : 0 < a <;> simp [h1, h2]
theorem convex_val (q : List SPoint) (hp : polyB q = true) (h0 : signOf (areaZ q) ≠ 0) (hc : (List.range q.length).all (convK q (signOf (areaZ q))) = true) : sh19 q = some true := by
  obtain ⟨h3, hl⟩ := polyB_len hp
  unfold sh19
  rw [isPolygon_eq q (by omega), hp, bindS, area_val q hp, bindS, compare_eq, bindS, outer_impl q _ (signOf_cases _) hp, hc, beq_eq_false_iff_ne.2 h0]
  rfl
def onI (a b p : SPoint) : Bool := (sideP a b p == 0) && ((decide ((if b.X < a.X then b.X else a.X) ≤ p.X) && decide (p.X ≤ (if a.X < b.X then b.X else a.X))) && (decide ((if b.Y < a.Y then b.Y else a.Y) ≤ p.Y) && decide (p.Y ≤ (if a.Y < b.Y then b.Y else a.Y))))
def upI (a b p : SPoint) : Bool := (decide (a.Y ≤ p.Y) && decide (p.Y < b.Y)) && decide (0 < sideP a b p)
def flipI (a b p : SPoint) : Bool := if b.Y < a.Y then upI b a p else upI a b p
theorem inP_step {q : List SPoint} (p : SPoint) (hl : q.length ≤ 300) (s : Int) (k : Nat) (hk : k < q.length) : sh20_1 q p (s, (k : Int)) = some (if onI q[k] (nextP q k) p then .inr (.inr (1, 0)) else .inl (if flipI q[k] (nextP q k) p then w64 (2 - s) else s, ((k + 1 : Nat) : Int))) := by
  have h2 : (k : Int) < q.length := by omega
  have hw : w64 ((k : Int) + 1) = ((k + 1 : Nat) : Int) := by rw [w64_id (by omega) (by omega)]; rfl
  obtain ⟨hn, hm⟩ := next_eq hk hl
  rw [hw] at hn
  simp only [sh20_1, h2, decide_true, cond_true, getI_lt hk, bindS, hn, nzI_ok (show (q.length : Int) ≠ 0 by omega), side_eq, sh107, hw]
  unfold onI flipI upI
  cases (sideP q[k] (nextP q k) p == 0)
  · simp only [Bool.false_and, cond_false, bindS]
    by_cases hY : (nextP q k).Y < q[k].Y
    · simp only [hY, decide_true, cond_true, bindS, if_true]
      cases (decide ((nextP q k).Y ≤ p.Y) && decide (p.Y < q[k].Y))
      · rfl
      · cases decide (0 < sideP (nextP q k) q[k] p) <;> rfl
    · simp only [hY, decide_false, cond_false, bindS, if_false]
      cases (decide (q[k].Y ≤ p.Y) && decide (p.Y < (nextP q k).Y))
      · rfl
      · cases decide (0 < sideP q[k] (nextP q k) p) <;> rfl
  · simp only [cond_true, bindS, Bool.true_and]
    cases (decide ((if (nextP q k).X < q[k].X then (nextP q k).X else q[k].X) ≤ p.X) && decide (p.X ≤ (if q[k].X < (nextP q k).X then (nextP q k).X else q[k].X)))
    · simp only [Bool.false_and, cond_false, bindS]
      by_cases hY : (nextP q k).Y < q[k].Y
      · simp only [hY, decide_true, cond_true, bindS, if_true]
        cases (decide ((nextP q k).Y ≤ p.Y) && decide (p.Y < q[k].Y))
        · rfl
        · cases decide (0 < sideP (nextP q k) q[k] p) <;> rfl
      · simp only [hY, decide_false, cond_false, bindS, if_false]
        cases (decide (q[k].Y ≤ p.Y) && decide (p.Y < (nextP q k).Y))
        · rfl
        · cases decide (0 < sideP q[k] (nextP q k) p) <;> rfl
    · simp only [Bool.true_and, cond_true, bindS]
      cases (decide ((if (nextP q k).Y < q[k].Y then (nextP q k).Y else q[k].Y) ≤ p.Y) && decide (p.Y ≤ (if q[k].Y < (nextP q k).Y then (nextP q k).Y else q[k].Y)))
      · simp only [cond_false, bindS]
        by_cases hY : (nextP q k).Y < q[k].Y
        · simp only [hY, decide_true, cond_true, bindS, if_true]
          cases (decide ((nextP q k).Y ≤ p.Y) && decide (p.Y < q[k].Y))
          · rfl
          · cases decide (0 < sideP (nextP q k) q[k] p) <;> rfl
        · simp only [hY, decide_false, cond_false, bindS, if_false]
          cases (decide (q[k].Y ≤ p.Y) && decide (p.Y < (nextP q k).Y))
          · rfl
          · cases decide (0 < sideP q[k] (nextP q k) p) <;> rfl
      · rfl
theorem inP_done {q : List SPoint} (p : SPoint) (s : Int) : sh20_1 q p (s, (q.length : Int)) = some (.inr (.inl s)) := by
  have hd : decide ((q.length : Int) < (q.length : Int)) = false := by simp
  simp only [sh20_1, hd, cond_false]
/-- A place on an edge is on the border. -/
theorem inP_on {q : List SPoint} {p : SPoint} (hp : polyB q = true) (hc : cornerB p = true) (j : Nat) (hj : j < q.length) (ho : onI q[j] (nextP q j) p = true) : sh20 q p = some (1, 0) := by
  obtain ⟨h3, hl⟩ := polyB_len hp
  unfold sh20
  obtain ⟨y, h1, h2⟩ := iter_inv (sb := sh20_1 q p) (fun (s : Int × Int) => 0 ≤ s.2 ∧ s.2 ≤ j) (fun s => (j - s.2).toNat) (fun (y : Int ⊕ (Int × Int)) => y = .inr (1, 0)) (s0 := (0, 0)) ⟨by simp, by simp⟩ (by simp only; omega) (by
    rintro ⟨x, i⟩ ⟨g1, g2⟩
    simp only at g1 g2
    obtain ⟨k, rfl⟩ : ∃ k : Nat, i = k := ⟨i.toNat, by omega⟩
    have hk : k < q.length := by omega
    rw [inP_step p hl x k hk]
    by_cases hkj : k = j
    · subst hkj
      rw [if_pos ho]
      exact .inr ⟨_, rfl, rfl⟩
    · cases onI q[k] (nextP q k) p
      · left
        exact ⟨_, rfl, ⟨by simp only; omega, by simp only; omega⟩, by simp only; omega⟩
      · right
        exact ⟨_, rfl, rfl⟩)
  rw [isPolygon_eq q (by omega), hp, isCorner_eq, hc]
  simp only [bindS, Bool.not_true, cond_false, h1, h2]
  rfl

/-! max -/
theorem l00Max_eq (a b : Int) : sh182 a b = some (mx a b) := by
  unfold sh182
  rw [← mx_comm']
  by_cases h : b < a <;> simp [h]

/-! min -/
theorem l00Min_eq (a b : Int) : sh181 a b = some (mn a b) := by
  unfold sh181 mn
  by_cases h : a < b
  · have : ¬ b < a := by omega
    simp [h, this]
  · by_cases h2 : b < a <;> simp [h, h2] <;> omega

/-! boxof -/
def boxS (s : SPoint × SPoint) (p : SPoint) : SPoint × SPoint := (⟨mn s.1.X p.X, mn s.1.Y p.Y⟩, ⟨mx s.2.X p.X, mx s.2.Y p.Y⟩)
theorem boxS_same (p : SPoint) : boxS (p, p) p = (p, p) := by
  unfold boxS mn mx
  simp

theorem boxOf_eq (p : SPoint) (t : List SPoint) (h : t.length ≤ 1048576) : sh112 (p :: t) = some (t.foldl boxS (p, p)) := by
  unfold sh112
  have hg : getI (p :: t) 0 = some p := rfl
  rw [hg, bindS, bindS]
  have hi := iter_fold (sb := sh112_1 (p :: t)) (p :: t) (fun k s => ((k : Int), s.1, s.2)) boxS (fun s => (s.1, s.2)) (fun _ _ => True) (p, p) trivial (by simp; omega) (fun k hk s _ => ⟨by
      have h2 : (k : Int) < (p :: t).length := by omega
      simp only [sh112_1, h2, decide_true, cond_true, getI_lt hk, bindS]
      simp only [List.length_cons] at hk
      rw [w64_id (by omega) (by omega)]
      rfl, trivial⟩) (fun s _ => by
      have hd : decide (((p :: t).length : Int) < ((p :: t).length : Int)) = false := by simp
      simp only [sh112_1, hd, cond_false])
  have h1 := hi.1
  simp only [Int.natCast_zero] at h1
  rw [h1, bindS, List.foldl_cons, boxS_same]

theorem l19Box_eq (p : SPoint) (t : List SPoint) (h : t.length ≤ 1048576) : sh113 (p :: t) = some (t.foldl boxS (p, p)) := by
  unfold sh113
  have hg : getI (p :: t) 0 = some p := rfl
  rw [hg, bindS, bindS]
  have hi := iter_fold (sb := sh113_1 (p :: t)) t (fun k s => ((k : Int) + 1, s.1, s.2)) boxS (fun s => (s.1, s.2)) (fun _ _ => True) (p, p) trivial (by omega) (fun k hk s _ => ⟨by
      have hk1 : k + 1 < (p :: t).length := by simp; omega
      have h2 : (k : Int) + 1 < (p :: t).length := by omega
      have hgk : getI (p :: t) ((k : Int) + 1) = some t[k] := by have := getI_lt hk1; simpa using this
      simp only [sh113_1, h2, decide_true, cond_true, hgk, bindS, l00Min_eq, l00Max_eq]
      rw [w64_id (by omega) (by omega)]
      rfl, trivial⟩) (fun s _ => by
      have hd : decide ((t.length : Int) + 1 < ((p :: t).length : Int)) = false := by simp
      simp only [sh113_1, hd, cond_false])
  have h1 := hi.1
  simp only [Int.natCast_zero, Int.zero_add] at h1
  rw [h1, bindS]

theorem polygonBox_total (q : List SPoint) (h : q.length ≤ 1048576) : ∃ r, sh27 q = some r ∧ sh28 q = some r := by
  unfold sh27 sh28
  rw [isPolygon_eq q h, l20Ok_eq q h]
  simp only [bindS]
  cases hp : polyB q
  · exact ⟨_, rfl, rfl⟩
  · obtain ⟨h3, hl⟩ := polyB_len hp
    cases q with
    | nil => simp at h3
    | cons p t =>
      simp only [List.length_cons] at h
      simp only [Bool.not_true, cond_false, boxOf_eq p t (by omega), l19Box_eq p t (by omega), bindS]
      exact ⟨_, rfl, rfl⟩

/-! boxl -/
theorem box_le : ∀ (t : List SPoint) (z : SPoint × SPoint), ((t.foldl boxS z).1.X ≤ z.1.X ∧ (t.foldl boxS z).1.Y ≤ z.1.Y ∧ z.2.X ≤ (t.foldl boxS z).2.X ∧ z.2.Y ≤ (t.foldl boxS z).2.Y) ∧
    ∀ a ∈ t, ((t.foldl boxS z).1.X ≤ a.X ∧ a.X ≤ (t.foldl boxS z).2.X) ∧ ((t.foldl boxS z).1.Y ≤ a.Y ∧ a.Y ≤ (t.foldl boxS z).2.Y)
  | [], z => ⟨⟨Int.le_refl _, Int.le_refl _, Int.le_refl _, Int.le_refl _⟩, by simp⟩
  | a :: t, z => by
    obtain ⟨⟨h1, h2, h3, h4⟩, h5⟩ := box_le t (boxS z a)
    have e1 : (boxS z a).1.X ≤ z.1.X ∧ (boxS z a).1.X ≤ a.X := by unfold boxS mn; simp only; split <;> omega
    have e2 : (boxS z a).1.Y ≤ z.1.Y ∧ (boxS z a).1.Y ≤ a.Y := by unfold boxS mn; simp only; split <;> omega
    have e3 : z.2.X ≤ (boxS z a).2.X ∧ a.X ≤ (boxS z a).2.X := by unfold boxS mx; simp only; split <;> omega
    have e4 : z.2.Y ≤ (boxS z a).2.Y ∧ a.Y ≤ (boxS z a).2.Y := by unfold boxS mx; simp only; split <;> omega
    rw [List.foldl_cons]
    refine ⟨⟨by omega, by omega, by omega, by omega⟩, fun b hb => ?_⟩
    rcases List.mem_cons.1 hb with h | h
    · subst h; omega
    · exact h5 b h
def boxL (q : List SPoint) : SPoint × SPoint := q.tail.foldl boxS (q.getD 0 ⟨0, 0⟩, q.getD 0 ⟨0, 0⟩)
theorem boxL_mem {q : List SPoint} : ∀ a ∈ q, ((boxL q).1.X ≤ a.X ∧ a.X ≤ (boxL q).2.X) ∧ ((boxL q).1.Y ≤ a.Y ∧ a.Y ≤ (boxL q).2.Y) := by
  intro a ha
  cases q with
  | nil => cases ha
  | cons p t =>
    obtain ⟨⟨h1, h2, h3, h4⟩, h5⟩ := box_le t (p, p)
    have e : boxL (p :: t) = t.foldl boxS (p, p) := rfl
    rw [e]
    simp only at h1 h2 h3 h4
    rcases List.mem_cons.1 ha with h | h
    · subst h; omega
    · exact h5 a h

/-! movepolygon -/
def mvP (p a : SPoint) : SPoint := ⟨w64 (a.X + p.X), w64 (a.Y + p.Y)⟩
theorem moved_spec (q : List SPoint) (p : SPoint) (h : q.length ≤ 300) : iter (sh23_1 q p) (0, []) = some (q.map (mvP p)) := by
  have hi := iter_fold (sb := sh23_1 q p) q (fun k (l : List SPoint) => ((k : Int), l)) (fun acc a => acc ++ [mvP p a]) (fun l => l) (fun k l => l.length = k) [] rfl (by omega) (fun k hk l hI => ?_) (fun l _ => by
      have hd : decide ((q.length : Int) < (q.length : Int)) = false := by simp
      simp only [sh23_1, hd, cond_false])
  · have h1 := hi.1
    simp only [Int.natCast_zero] at h1
    rw [h1, foldl_snoc, List.nil_append]
  · have h2 : (k : Int) < q.length := by omega
    refine ⟨?_, by simp [hI]⟩
    simp only [sh23_1, h2, decide_true, cond_true, getI_lt hk, bindS]
    rw [appL_ok (by simp only [List.length_cons, List.length_nil]; omega), bindS, w64_id (by omega) (by omega)]
    rfl
theorem moved_impl (q : List SPoint) (p : SPoint) : sh22_1 q p = sh23_1 q p := by
  funext ⟨i, l⟩
  simp only [sh23_1, sh22_1]
  cases decide (i < (q.length : Int)) <;> simp only [cond_false, cond_true]
  cases getI q i <;> simp only [Option.bind_none, bindS]
theorem movePolygon_total (q : List SPoint) (p : SPoint) (h : q.length ≤ 1048576) : ∃ r, sh23 q p = some r ∧ sh22 q p = some r ∧ r.1.length ≤ 300 := by
  unfold sh23 sh22
  rw [l20Ok_eq q h, isPolygon_eq q h, moved_impl]
  simp only [bindS, isCorner_eq, sh100]
  cases hp : polyB q
  · exact ⟨_, rfl, rfl, by simp⟩
  · have hl := (polyB_len hp).2
    have ec : Option.bind (bif !(decide (-100000 ≤ p.X) && decide (p.X ≤ 100000)) then (some true) else some !(decide (-100000 ≤ p.Y) && decide (p.Y ≤ 100000))) (fun c6 => (some c6 : Option Bool)) = some (!cornerB p) := by
      unfold cornerB
      cases decide (-100000 ≤ p.X) && decide (p.X ≤ 100000) <;> rfl
    have ec2 : (bif !(decide (-100000 ≤ p.X) && decide (p.X ≤ 100000)) then (some true) else some !(decide (-100000 ≤ p.Y) && decide (p.Y ≤ 100000))) = some (!cornerB p) := by
      unfold cornerB
      cases decide (-100000 ≤ p.X) && decide (p.X ≤ 100000) <;> rfl
    simp only [Bool.not_true, cond_false, ec2, bindS]
    cases cornerB p
    · exact ⟨_, rfl, rfl, by simp⟩
    · have hm := moved_spec q p hl
      have hml : (q.map (mvP p)).length ≤ 1048576 := by rw [List.length_map]; exact h
      simp only [Bool.not_true, cond_false, hm, bindS, l20Ok_eq _ hml, isPolygon_eq _ hml]
      cases polyB (q.map (mvP p))
      · exact ⟨_, rfl, rfl, by simp⟩
      · exact ⟨_, rfl, rfl, by simp only [List.length_map]; exact hl⟩

/-! src -/
/-- Bytes from which is drawn. -/
def srcB (c : List Int) : Prop := ∀ x ∈ c, 0 ≤ x ∧ x ≤ 255
theorem okI_u8 {x : Int} (h : okI .u8 x) : 0 ≤ x ∧ x ≤ 255 := by
  unfold okI Lit.wf at h
  simp only [Bool.and_eq_true, decide_eq_true_eq] at h
  have h1 : IntKind.u8.min = 0 := by decide
  have h2 : IntKind.u8.max = 255 := by decide
  rw [h1, h2] at h
  exact h
theorem srcB_of {c : List Int} (h : ∀ y ∈ c, okI .u8 y) : srcB c := fun x hx => okI_u8 (h x hx)
theorem andI_255 (a : Int) : 0 ≤ andI .u64 a 255 ∧ andI .u64 a 255 ≤ 255 := by
  unfold andI
  have hle : (BitVec.ofInt IntKind.u64.bits a &&& BitVec.ofInt IntKind.u64.bits 255).toNat ≤ 255 := by
    rw [BitVec.toNat_and]
    refine Nat.le_trans Nat.and_le_right ?_
    decide
  rw [IntKind.wrap_u64]
  omega
theorem next_ok (q : Sl00Src) (hc : srcB q.code) (h0 : 0 ≤ q.at_) (h1 : q.at_ ≤ 4611686018427387904) :
    ∃ r, sh173 q = some r ∧ (0 ≤ r.1 ∧ r.1 ≤ 255) ∧ 0 ≤ r.2.1 ∧ r.2.1 ≤ q.at_ + 1 := by
  unfold sh173
  have hw : w64 (q.at_ + 1) = q.at_ + 1 := w64_id (by omega) (by omega)
  have hfin : ∀ b : Int, 0 ≤ b ∧ b ≤ 255 → ∀ s t : Int, ∃ r, (bif decide (w64 (q.at_ + 1) ≤ (q.code.length : Int)) then some (b, w64 (q.at_ + 1), s) else some (w64 (andI .u64 t 255), w64 (q.at_ + 1), s)) = some r ∧ (0 ≤ r.1 ∧ r.1 ≤ 255) ∧ 0 ≤ r.2.1 ∧ r.2.1 ≤ q.at_ + 1 := by
    intro b hb s t
    have ha := andI_255 t
    have hwa : w64 (andI .u64 t 255) = andI .u64 t 255 := w64_id (by omega) (by omega)
    rw [hw, hwa]
    cases decide (q.at_ + 1 ≤ (q.code.length : Int))
    · exact ⟨_, rfl, ha, by simp only; omega, by simp only; omega⟩
    · exact ⟨_, rfl, hb, by simp only; omega, by simp only; omega⟩
  by_cases hl : q.at_ < (q.code.length : Int)
  · have hn : q.at_.toNat < q.code.length := by omega
    have hb := hc _ (List.getElem_mem hn)
    rw [decide_eq_true hl, cond_true, getI_toNat h0 hn, bindS, w64_id (by omega) (by omega), bindS]
    exact hfin _ hb _ _
  · rw [decide_eq_false hl, cond_false, bindS]
    exact hfin 0 (by omega) _ _
theorem pick_ok (q : Sl00Src) (n : Int) (hc : srcB q.code) (h0 : 0 ≤ q.at_) (h1 : q.at_ ≤ 2305843009213693952) :
    ∃ r, sh92 q n = some r ∧ (0 ≤ r.1 ∧ (r.1 < n ∨ r.1 = 0)) ∧ 0 ≤ r.2.1 ∧ r.2.1 ≤ q.at_ + 2 := by
  unfold sh92
  by_cases hn : n ≤ 1
  · rw [decide_eq_true hn, cond_true]
    exact ⟨_, rfl, by simp, h0, by simp only; omega⟩
  · rw [decide_eq_false hn, cond_false]
    obtain ⟨x, e, b, a0, a1⟩ := next_ok q hc h0 (by omega)
    rw [e, bindS]
    have hmod : ∀ z : Int, 0 ≤ z → 0 ≤ z.tmod n ∧ z.tmod n < n := fun z hz => by
      rw [Int.tmod_eq_emod_of_nonneg hz]
      exact ⟨Int.emod_nonneg _ (by omega), Int.emod_lt_of_pos _ (by omega)⟩
    by_cases hb : 200 < n
    · obtain ⟨y, e2, b2, c0, c1⟩ := next_ok ⟨q.code, x.2.1, x.2.2⟩ hc a0 (by simp only; omega)
      rw [decide_eq_true hb, cond_true, e2, bindS, bindS, nzI_ok (by omega), bindS]
      simp only at c1
      rw [w64_id (x := x.1 * 256) (by omega) (by omega), w64_id (by omega) (by omega)]
      have := hmod (x.1 * 256 + y.1) (by omega)
      exact ⟨_, rfl, ⟨this.1, .inl this.2⟩, c0, by simp only; omega⟩
    · rw [decide_eq_false hb, cond_false, bindS, nzI_ok (by omega), bindS]
      have := hmod x.1 b.1
      exact ⟨_, rfl, ⟨this.1, .inl this.2⟩, a0, by simp only; omega⟩
theorem one_ok (q : Sl00Src) (n : Int) (hc : srcB q.code) (h0 : 0 ≤ q.at_) (h1 : q.at_ ≤ 2305843009213693952) :
    ∃ r, sh93 q n = some r ∧ 0 ≤ r.2.1 ∧ r.2.1 ≤ q.at_ + 2 := by
  unfold sh93
  obtain ⟨x, e, _, a0, a1⟩ := pick_ok q n hc h0 h1
  rw [e, bindS]
  exact ⟨_, rfl, a0, a1⟩
theorem among_ok (q : Sl00Src) (l : List Int) (hc : srcB q.code) (h0 : 0 ≤ q.at_) (h1 : q.at_ ≤ 2305843009213693952) (hl : 0 < l.length) :
    ∃ r, sh94 q l = some r ∧ r.1 ∈ l ∧ 0 ≤ r.2.1 ∧ r.2.1 ≤ q.at_ + 2 := by
  unfold sh94
  obtain ⟨x, e, b, a0, a1⟩ := pick_ok q l.length hc h0 h1
  have hx : x.1.toNat < l.length := by omega
  rw [e, bindS, getI_toNat b.1 hx, bindS]
  exact ⟨_, rfl, List.getElem_mem hx, a0, a1⟩
theorem f6big_eq (c : List Int) (h : c.length ≤ 9223372036854775807) : sh9 c = some (decide (4096 < c.length)) := by
  unfold sh9
  congr 1
  simp only [decide_eq_decide]; omega

/-! to_i64s -/

/-! eq_i64s -/

/-! mark_i64s -/
/-- The numbers that are laid into a result to see whether it is of one's own. -/
def marksFrom (m : Int) (n : Nat) : List Int := (List.range n).map fun (i : Nat) => m + (i : Int)
theorem marksFrom_length (m : Int) (n : Nat) : (marksFrom m n).length = n := by simp [marksFrom]
theorem marksFrom_get (m : Int) (n k : Nat) (h : k < n) : (marksFrom m n)[k]'(by rw [marksFrom_length]; exact h) = m + k := by simp [marksFrom]
theorem marksFrom_succ (m : Int) (k : Nat) : marksFrom m (k + 1) = marksFrom m k ++ [m + k] := by simp [marksFrom, List.range_succ]


/-! panel -/
def brkB (k : Int) : Bool := decide (0 ≤ k) && decide (k ≤ 2)
def sideB (n : Int) : Bool := decide (1 ≤ n) && decide (n ≤ 8)
def innerN (w h : Int) : Int := w64 (w64 (w * w64 (h - 1)) + w64 (h * w64 (w - 1)))
def panelB (p : SPanel) : Bool := (sideB p.W && sideB p.H) && (((p.Breaks.length : Int) == innerN p.W p.H) && p.Breaks.all brkB)
theorem l02Ok_eq (p : SPanel) (h : p.Breaks.length ≤ 1048576) : sh139 p = some (panelB p) := by
  unfold sh139 panelB
  have hi : iter (sh139_1 p) 0 = some (if p.Breaks.all brkB = true then .inl () else .inr false) := iter_all (xs := p.Breaks) (by omega) (fun k hk => by
    have h2 : (k : Int) < p.Breaks.length := by omega
    simp only [sh139_1, sh100, h2, decide_true, cond_true, getI_lt hk, bindS]
    rw [w64_id (x := (k : Int) + 1) (by omega) (by omega)]
    unfold brkB
    cases decide (0 ≤ p.Breaks[k]) && decide (p.Breaks[k] ≤ 2) <;> rfl) (by simp [sh139_1])
  simp only [sh201, sh202, sh100, bindS, hi]
  show Option.bind (bif !(sideB p.W) then some true else some !(sideB p.H)) _ = _
  cases sideB p.W
  · rfl
  · cases sideB p.H
    · rfl
    · show (bif ((p.Breaks.length : Int) != innerN p.W p.H) then _ else _) = _
      simp only [bne]
      cases ((p.Breaks.length : Int) == innerN p.W p.H)
      · rfl
      · cases p.Breaks.all brkB <;> rfl
theorem panelB_facts {p : SPanel} (h : panelB p = true) : (1 ≤ p.W ∧ p.W ≤ 8) ∧ (1 ≤ p.H ∧ p.H ≤ 8) ∧ (p.Breaks.length : Int) = p.W * (p.H - 1) + p.H * (p.W - 1) ∧ (∀ k ∈ p.Breaks, 0 ≤ k ∧ k ≤ 2) ∧ p.Breaks.length ≤ 112 := by
  unfold panelB sideB brkB innerN at h
  simp only [Bool.and_eq_true, decide_eq_true_eq, List.all_eq_true, beq_iff_eq] at h
  obtain ⟨⟨⟨hw, hw2⟩, hh, hh2⟩, hl, ha⟩ := h
  have key : ∀ w : Int, 1 ≤ w → w ≤ 8 → ∀ k : Int, 1 ≤ k → k ≤ 8 → 0 ≤ w * (k - 1) ∧ w * (k - 1) ≤ 56 := by
    intro w h1 h2 k h3 h4
    have : 0 ≤ w * (k - 1) := Int.mul_nonneg (by omega) (by omega)
    have h5 : w * (k - 1) ≤ 8 * (k - 1) := Int.mul_le_mul_of_nonneg_right h2 (by omega)
    omega
  have k1 := key p.W hw hw2 p.H hh hh2
  have k2 := key p.H hh hh2 p.W hw hw2
  rw [w64_id (x := p.H - 1) (by omega) (by omega), w64_id (x := p.W - 1) (by omega) (by omega), w64_id (x := p.W * (p.H - 1)) (by omega) (by omega), w64_id (x := p.H * (p.W - 1)) (by omega) (by omega), w64_id (by omega) (by omega)] at hl
  exact ⟨⟨hw, hw2⟩, ⟨hh, hh2⟩, hl, ha, by omega⟩
def hasB (p : SPanel) (a : SPoint) : Bool := ((decide (0 ≤ a.X) && decide (a.X ≤ w64 (2 * p.W))) && (decide (0 ≤ a.Y) && decide (a.Y ≤ w64 (2 * p.H)))) && ((w64 (a.X + a.Y)).tmod 2 == 1)
def edgeB (p : SPanel) (a : SPoint) : Bool := (((a.X == 0) || (a.Y == 0)) || (a.X == w64 (2 * p.W))) || (a.Y == w64 (2 * p.H))
theorem l02Edge_eq (p : SPanel) (a : SPoint) : sh188 p a = some (edgeB p a) := rfl
def codeOf (p : SPanel) (a : SPoint) : Int := bif !panelB p then 1 else bif !hasB p a then 2 else bif edgeB p a then 6 else 0
theorem codeOf_cases (p : SPanel) (a : SPoint) : codeOf p a = 1 ∨ codeOf p a = 2 ∨ codeOf p a = 6 ∨ codeOf p a = 0 := by
  unfold codeOf
  cases panelB p <;> cases hasB p a <;> cases edgeB p a <;> simp

/-! walkers -/
/-- A walker that fits into a panel. -/
def okW (p : SPanel) (w : SWalker) : Prop := (w.DX = 1 ∨ w.DX = -1) ∧ (w.DY = 1 ∨ w.DY = -1) ∧ (0 ≤ w.At.X ∧ w.At.X ≤ 2 * p.W) ∧ (0 ≤ w.At.Y ∧ w.At.Y ≤ 2 * p.H) ∧ (w.At.X + w.At.Y) % 2 = 1 ∧ (0 ≤ w.At.X + w.DX ∧ w.At.X + w.DX ≤ 2 * p.W) ∧ (0 ≤ w.At.Y + w.DY ∧ w.At.Y + w.DY ≤ 2 * p.H)
structure Dim (p : SPanel) : Prop where
  w1 : 1 ≤ p.W
  w2 : p.W ≤ 8
  h1 : 1 ≤ p.H
  h2 : p.H ≤ 8
  bl : (p.Breaks.length : Int) = p.W * (p.H - 1) + p.H * (p.W - 1)
theorem dim_of {p : SPanel} (h : panelB p = true) : Dim p := let ⟨h1, h2, h3, _⟩ := panelB_facts h; ⟨h1.1, h1.2, h2.1, h2.2, h3⟩
theorem eight {n : Int} (h1 : 1 ≤ n) (h2 : n ≤ 8) : n = 1 ∨ n = 2 ∨ n = 3 ∨ n = 4 ∨ n = 5 ∨ n = 6 ∨ n = 7 ∨ n = 8 := by omega
def numF (p : SPanel) (x y : Int) : Int := (y - 1) * p.W - y / 2 + (x - 1) / 2
def brkF (p : SPanel) (x y : Int) : Int := if x = 0 ∨ x = 2 * p.W ∨ y = 0 ∨ y = 2 * p.H then 0 else p.Breaks.getD (numF p x y).toNat 0
def stp (p : SPanel) (w : SWalker) : SWalker := ⟨⟨w.At.X + w.DX, w.At.Y + w.DY⟩, if w.At.X + w.DX = 0 ∨ w.At.X + w.DX = 2 * p.W ∨ brkF p (w.At.X + w.DX) (w.At.Y + w.DY) = 1 then 0 - w.DX else w.DX, if w.At.Y + w.DY = 0 ∨ w.At.Y + w.DY = 2 * p.H ∨ brkF p (w.At.X + w.DX) (w.At.Y + w.DY) = 2 then 0 - w.DY else w.DY⟩
def bck (w : SWalker) : SWalker := ⟨⟨w.At.X + w.DX, w.At.Y + w.DY⟩, 0 - w.DX, 0 - w.DY⟩
def sgF (p : SPanel) (w : SWalker) : Int := (if w.DX = 1 then w.At.X else w.At.X - 1) * (2 * p.H) + (if w.DY = 1 then w.At.Y else w.At.Y - 1)
theorem brk_edge {p : SPanel} {x y : Int} (h : x = 0 ∨ x = 2 * p.W ∨ y = 0 ∨ y = 2 * p.H) : brkF p x y = 0 := if_pos h
theorem stp_ok {p : SPanel} {w : SWalker} (hd : Dim p) (h : okW p w) : okW p (stp p w) := by
  obtain ⟨w1, w2, h1, h2, bl⟩ := hd
  clear bl
  obtain ⟨⟨X, Y⟩, DX, DY⟩ := w
  obtain ⟨a1, a2, ⟨a3, a4⟩, ⟨a5, a6⟩, a7, ⟨a8, a9⟩, a10, a11⟩ := h
  simp only at a1 a2 a3 a4 a5 a6 a7 a8 a9 a10 a11
  unfold okW stp
  simp only
  generalize brkF p (X + DX) (Y + DY) = k
  rcases a1 with rfl | rfl <;> rcases a2 with rfl | rfl <;> (refine ⟨?_, ?_, ⟨?_, ?_⟩, ⟨?_, ?_⟩, ?_, ⟨?_, ?_⟩, ⟨?_, ?_⟩⟩ <;> (try split) <;> omega)
theorem bck_ok {p : SPanel} {w : SWalker} (h : okW p w) : okW p (bck w) := by
  obtain ⟨⟨X, Y⟩, DX, DY⟩ := w
  obtain ⟨a1, a2, ⟨a3, a4⟩, ⟨a5, a6⟩, a7, ⟨a8, a9⟩, a10, a11⟩ := h
  simp only at a1 a2 a3 a4 a5 a6 a7 a8 a9 a10 a11
  unfold okW bck
  simp only
  rcases a1 with rfl | rfl <;> rcases a2 with rfl | rfl <;> (refine ⟨?_, ?_, ⟨?_, ?_⟩, ⟨?_, ?_⟩, ?_, ⟨?_, ?_⟩, ⟨?_, ?_⟩⟩ <;> omega)
theorem walker_ext {a b : SWalker} (h1 : a.At.X = b.At.X) (h2 : a.At.Y = b.At.Y) (h3 : a.DX = b.DX) (h4 : a.DY = b.DY) : a = b := by
  obtain ⟨⟨ax, ay⟩, ad, ae⟩ := a
  obtain ⟨⟨bx, by'⟩, bd, be⟩ := b
  simp only at h1 h2 h3 h4
  subst h1; subst h2; subst h3; subst h4
  rfl
theorem bck_bck (w : SWalker) : bck (bck w) = w := by
  apply walker_ext <;> simp only [bck] <;> omega
theorem stp_back (p : SPanel) (w : SWalker) : stp p (bck (stp p w)) = bck w := by
  have e : ∀ a d : Int, a + d + (0 - d) = a := fun a d => by omega
  have hx : (bck (stp p w)).At.X + (bck (stp p w)).DX = w.At.X + w.DX := by simp only [bck, stp]; omega
  have hy : (bck (stp p w)).At.Y + (bck (stp p w)).DY = w.At.Y + w.DY := by simp only [bck, stp]; omega
  apply walker_ext
  · exact hx
  · exact hy
  · show (if (bck (stp p w)).At.X + (bck (stp p w)).DX = 0 ∨ (bck (stp p w)).At.X + (bck (stp p w)).DX = 2 * p.W ∨ brkF p ((bck (stp p w)).At.X + (bck (stp p w)).DX) ((bck (stp p w)).At.Y + (bck (stp p w)).DY) = 1 then 0 - (bck (stp p w)).DX else (bck (stp p w)).DX) = 0 - w.DX
    rw [hx, hy]
    simp only [bck, stp]
    split <;> omega
  · show (if (bck (stp p w)).At.Y + (bck (stp p w)).DY = 0 ∨ (bck (stp p w)).At.Y + (bck (stp p w)).DY = 2 * p.H ∨ brkF p ((bck (stp p w)).At.X + (bck (stp p w)).DX) ((bck (stp p w)).At.Y + (bck (stp p w)).DY) = 2 then 0 - (bck (stp p w)).DY else (bck (stp p w)).DY) = 0 - w.DY
    rw [hx, hy]
    simp only [bck, stp]
    split <;> omega
theorem stp_inj {p : SPanel} {a b : SWalker} (h : stp p a = stp p b) : a = b := by
  have h1 := stp_back p a
  rw [h, stp_back p b] at h1
  rw [← bck_bck a, ← h1, bck_bck]
theorem bck_ne {p : SPanel} {w : SWalker} (h : okW p w) : bck w ≠ w := by
  intro e
  have := congrArg (fun w : SWalker => w.At.X) e
  simp only [bck] at this
  rcases h.1 with a | a <;> omega
theorem stp_ne_bck {p : SPanel} {w : SWalker} (h : okW p w) : stp p w ≠ bck w := by
  intro e
  have e1 := congrArg (fun w : SWalker => w.DX) e
  have e2 := congrArg (fun w : SWalker => w.DY) e
  obtain ⟨⟨X, Y⟩, DX, DY⟩ := w
  obtain ⟨a1, a2, ⟨a3, a4⟩, ⟨a5, a6⟩, a7, ⟨a8, a9⟩, a10, a11⟩ := h
  simp only [bck, stp] at e1 e2 a1 a2 a3 a4 a5 a6 a7 a8 a9 a10 a11
  have hk : X + DX = 0 ∨ X + DX = 2 * p.W ∨ Y + DY = 0 ∨ Y + DY = 2 * p.H → brkF p (X + DX) (Y + DY) = 0 := brk_edge
  generalize brkF p (X + DX) (Y + DY) = k at e1 e2 hk
  rcases a1 with rfl | rfl <;> rcases a2 with rfl | rfl <;> split at e1 <;> split at e2 <;> omega
theorem sg_bck {p : SPanel} {w : SWalker} (h : okW p w) : sgF p (bck w) = sgF p w := by
  obtain ⟨⟨X, Y⟩, DX, DY⟩ := w
  obtain ⟨a1, a2, _⟩ := h
  simp only at a1 a2
  have ex : (if (0 : Int) - DX = 1 then X + DX else X + DX - 1) = (if DX = 1 then X else X - 1) := by rcases a1 with rfl | rfl <;> split <;> (try split) <;> omega
  have ey : (if (0 : Int) - DY = 1 then Y + DY else Y + DY - 1) = (if DY = 1 then Y else Y - 1) := by rcases a2 with rfl | rfl <;> split <;> (try split) <;> omega
  unfold sgF bck
  simp only
  rw [ex, ey]
theorem sg_bd {p : SPanel} {w : SWalker} (hd : Dim p) (h : okW p w) : 0 ≤ sgF p w ∧ sgF p w < 4 * p.W * p.H := by
  obtain ⟨w1, w2, h1, h2, bl⟩ := hd
  clear bl
  obtain ⟨a1, a2, ⟨a3, a4⟩, ⟨a5, a6⟩, a7, ⟨a8, a9⟩, a10, a11⟩ := h
  unfold sgF
  have key : ∀ a b : Int, 0 ≤ a → a + 1 ≤ 2 * p.W → 0 ≤ b → b + 1 ≤ 2 * p.H → 0 ≤ a * (2 * p.H) + b ∧ a * (2 * p.H) + b < 4 * p.W * p.H := by
    intro a b ha hb hc hd
    clear a1 a2 a3 a4 a5 a6 a7 a8 a9 a10 a11
    generalize p.H = H at *
    generalize p.W = W at *
    rcases eight h1 h2 with e | e | e | e | e | e | e | e <;> subst e <;> omega
  refine key _ _ ?_ ?_ ?_ ?_ <;> split <;> omega
theorem sg_same {p : SPanel} {v w : SWalker} (hd : Dim p) (hv : okW p v) (hw : okW p w) (h : sgF p v = sgF p w) : v = w ∨ v = bck w := by
  obtain ⟨w1, w2, h1, h2, bl⟩ := hd
  clear bl
  obtain ⟨a1, a2, ⟨a3, a4⟩, ⟨a5, a6⟩, a7, ⟨a8, a9⟩, a10, a11⟩ := hv
  obtain ⟨b1, b2, ⟨b3, b4⟩, ⟨b5, b6⟩, b7, ⟨b8, b9⟩, b10, b11⟩ := hw
  have key : ∀ a b c d : Int, 0 ≤ b → b + 1 ≤ 2 * p.H → 0 ≤ d → d + 1 ≤ 2 * p.H → a * (2 * p.H) + b = c * (2 * p.H) + d → a = c ∧ b = d := by
    intro a b c d hb hb2 hd hd2 he
    clear a1 a2 a3 a4 a5 a6 a7 a8 a9 a10 a11 b1 b2 b3 b4 b5 b6 b7 b8 b9 b10 b11 h
    generalize p.H = H at *
    rcases eight h1 h2 with e | e | e | e | e | e | e | e <;> subst e <;> omega
  unfold sgF at h
  obtain ⟨e1, e2⟩ := key _ _ _ _ (by split <;> omega) (by split <;> omega) (by split <;> omega) (by split <;> omega) h
  obtain ⟨⟨VX, VY⟩, VD, VE⟩ := v
  obtain ⟨⟨X, Y⟩, DX, DY⟩ := w
  simp only at a1 a2 a3 a4 a5 a6 a7 a8 a9 a10 a11 b1 b2 b3 b4 b5 b6 b7 b8 b9 b10 b11 e1 e2
  clear h h1 h2 w1 w2 key a3 a4 a5 a6 a8 a9 a10 a11 b3 b4 b5 b6 b8 b9 b10 b11
  rcases a1 with rfl | rfl <;> rcases b1 with rfl | rfl <;> rcases a2 with rfl | rfl <;> rcases b2 with rfl | rfl <;> simp only [show ¬ ((-1 : Int) = 1) by omega, if_true, if_false] at e1 e2 <;>
    first
    | (exfalso; omega)
    | (left; apply walker_ext <;> simp only <;> omega)
    | (right; apply walker_ext <;> simp only [bck] <;> omega)
/-- The walker of a segment. -/
def wlk (p : SPanel) (k : Int) : SWalker := if (k / (2 * p.H) + k % (2 * p.H)) % 2 = 1 then ⟨⟨k / (2 * p.H), k % (2 * p.H)⟩, 1, 1⟩ else ⟨⟨k / (2 * p.H), k % (2 * p.H) + 1⟩, 1, -1⟩
theorem wlk_ok {p : SPanel} (hd : Dim p) {k : Int} (h0 : 0 ≤ k) (h1 : k < 4 * p.W * p.H) : okW p (wlk p k) ∧ sgF p (wlk p k) = k := by
  obtain ⟨w1, w2, g1, g2, bl⟩ := hd
  clear bl
  have e1 : 0 ≤ k / (2 * p.H) ∧ k / (2 * p.H) + 1 ≤ 2 * p.W ∧ 0 ≤ k % (2 * p.H) ∧ k % (2 * p.H) + 1 ≤ 2 * p.H ∧ k / (2 * p.H) * (2 * p.H) + k % (2 * p.H) = k := by
    generalize p.H = H at *
    generalize p.W = W at *
    rcases eight g1 g2 with e | e | e | e | e | e | e | e <;> subst e <;> omega
  obtain ⟨e1, e2, e3, e4, e5⟩ := e1
  unfold wlk
  generalize k / (2 * p.H) = a at *
  generalize k % (2 * p.H) = b at *
  split
  · refine ⟨⟨.inl rfl, .inl rfl, ⟨?_, ?_⟩, ⟨?_, ?_⟩, ?_, ⟨?_, ?_⟩, ⟨?_, ?_⟩⟩, ?_⟩ <;> simp only [sgF, if_true] <;> omega
  · refine ⟨⟨.inl rfl, .inr rfl, ⟨?_, ?_⟩, ⟨?_, ?_⟩, ?_, ⟨?_, ?_⟩, ⟨?_, ?_⟩⟩, ?_⟩ <;> simp only [sgF, if_true, show ¬ ((-1 : Int) = 1) by omega, if_false] <;> omega

/-! draw02 -/
theorem l02New_ok (w h : Int) (hw : 1 ≤ w ∧ w ≤ 8) (hh : 1 ≤ h ∧ h ≤ 8) : ∃ r, sh184 w h = some r ∧ r.W = w ∧ r.H = h ∧ (∀ x ∈ r.Breaks, x = 0) ∧ panelB r = true := by
  unfold sh184 sh202
  have hb1 : 0 ≤ w * (h - 1) ∧ w * (h - 1) ≤ 56 := by
    have h1 : 0 ≤ w * (h - 1) := Int.mul_nonneg (by omega) (by omega)
    have h2 : w * (h - 1) ≤ 8 * (h - 1) := Int.mul_le_mul_of_nonneg_right (by omega) (by omega)
    omega
  have hb2 : 0 ≤ h * (w - 1) ∧ h * (w - 1) ≤ 56 := by
    have h1 : 0 ≤ h * (w - 1) := Int.mul_nonneg (by omega) (by omega)
    have h2 : h * (w - 1) ≤ 8 * (w - 1) := Int.mul_le_mul_of_nonneg_right (by omega) (by omega)
    omega
  have e : w64 (w64 (w * w64 (h - 1)) + w64 (h * w64 (w - 1))) = ((w * (h - 1) + h * (w - 1)).toNat : Int) := by
    rw [w64_id (x := h - 1) (by omega) (by omega), w64_id (x := w - 1) (by omega) (by omega), w64_id (x := w * (h - 1)) (by omega) (by omega), w64_id (x := h * (w - 1)) (by omega) (by omega), w64_id (by omega) (by omega)]
    omega
  simp only [bindS]
  rw [e, mkL_ok (by omega), bindS]
  refine ⟨_, rfl, rfl, rfl, fun x hx => List.eq_of_mem_replicate hx, ?_⟩
  unfold panelB
  simp only [List.length_replicate, Bool.and_eq_true, beq_iff_eq, List.all_eq_true]
  refine ⟨⟨?_, ?_⟩, ?_, fun x hx => ?_⟩
  · unfold sideB; simp [hw.1, hw.2]
  · unfold sideB; simp [hh.1, hh.2]
  · unfold innerN; rw [e]
  · rw [List.eq_of_mem_replicate hx]; rfl
theorem panelB_of {w h : Int} {b b' : List Int} (hp : panelB ⟨w, h, b⟩ = true) (hl : b'.length = b.length) (hx : ∀ x ∈ b', 0 ≤ x ∧ x ≤ 2) : panelB ⟨w, h, b'⟩ = true := by
  unfold panelB at hp ⊢
  simp only [Bool.and_eq_true, List.all_eq_true, hl] at hp ⊢
  refine ⟨hp.1, hp.2.1, fun x hm => ?_⟩
  unfold brkB; simp [(hx x hm).1, (hx x hm).2]
theorem draw02_ok (q : Sl00Src) (n : Int) (hn : 1 ≤ n ∧ n ≤ 8) (hc : srcB q.code) (h0 : 0 ≤ q.at_) (h1 : q.at_ ≤ 1099511627776) :
    ∃ r, sh183 q n = some r ∧ panelB r.1 = true ∧ (r.1.W ≤ n ∧ r.1.H ≤ n) ∧ 0 ≤ r.2.1 ∧ r.2.1 ≤ q.at_ + 1000 := by
  unfold sh183
  obtain ⟨x3, e3, b3, a3, c3⟩ := pick_ok q n hc h0 (by omega)
  rw [e3, bindS]
  obtain ⟨x4, e4, b4, a4, c4⟩ := pick_ok ⟨q.code, x3.2.1, x3.2.2⟩ n hc a3 (by simp only; omega)
  rw [e4, bindS, w64_id (x := 1 + x3.1) (by omega) (by omega), w64_id (x := 1 + x4.1) (by omega) (by omega)]
  simp only at c4
  obtain ⟨x5, e5, w5, h5, z5, p5⟩ := l02New_ok (1 + x3.1) (1 + x4.1) ⟨by omega, by omega⟩ ⟨by omega, by omega⟩
  rw [e5, bindS]
  obtain ⟨x11, e11, b11, a11, c11⟩ := pick_ok ⟨q.code, x4.2.1, x4.2.2⟩ 4 hc a4 (by simp only; omega)
  rw [e11, bindS]
  simp only at c11
  have hbl : x5.Breaks.length ≤ 112 := (panelB_facts p5).2.2.2.2
  have hi := iter_inv (sb := sh183_1 q x5 x11) (s0 := (0, (x11.2.1, x11.2.2), x5.Breaks)) (fun s => 0 ≤ s.1 ∧ s.1 ≤ x5.Breaks.length ∧ s.2.2.length = x5.Breaks.length ∧ (∀ x ∈ s.2.2, 0 ≤ x ∧ x ≤ 2) ∧ 0 ≤ s.2.1.1 ∧ s.2.1.1 ≤ q.at_ + 6 + 4 * s.1) (fun s => ((x5.Breaks.length : Int) - s.1).toNat)
    (fun s => s.2.length = x5.Breaks.length ∧ (∀ x ∈ s.2, 0 ≤ x ∧ x ≤ 2) ∧ 0 ≤ s.1.1 ∧ s.1.1 ≤ q.at_ + 600) ⟨by simp, by simp, rfl, fun x hx => by rw [z5 x hx]; omega, a11, by simp only; omega⟩ (by simp only; omega) (by
    rintro ⟨k, ⟨a, sd⟩, l⟩ ⟨i1, i2, i3, i4, i5, i6⟩
    simp only at i1 i2 i3 i4 i5 i6
    by_cases hk : k < x5.Breaks.length
    · left
      have hkd : k < ((x5.Breaks.length : Nat) : Int) := hk
      simp only [sh183_1, hkd, decide_true, cond_true]
      obtain ⟨y, g, n1, m, n2⟩ := pick_ok ⟨q.code, a, sd⟩ 4 hc i5 (by simp only; omega)
      simp only at n2
      rw [g, bindS]
      by_cases hlt : y.1 < x11.1
      · obtain ⟨y2, g2, n3, m2, n4⟩ := pick_ok ⟨q.code, y.2.1, y.2.2⟩ 2 hc m (by simp only; omega)
        simp only at n4
        rw [decide_eq_true hlt, cond_true, g2, bindS, getI_toNat i1 (by omega), bindS, bindS, w64_id (x := k + 1) (by omega) (by omega), w64_id (x := 1 + y2.1) (by omega) (by omega)]
        refine ⟨_, rfl, ⟨by simp only; omega, by simp only; omega, by simp only [List.length_set]; omega, fun x hx => ?_, m2, by simp only; omega⟩, by simp only; omega⟩
        rcases List.mem_or_eq_of_mem_set hx with h | h
        · exact i4 x h
        · rw [h]; omega
      · rw [decide_eq_false hlt, cond_false, bindS, w64_id (x := k + 1) (by omega) (by omega)]
        exact ⟨_, rfl, ⟨by simp only; omega, by simp only; omega, i3, i4, m, by simp only; omega⟩, by simp only; omega⟩
    · right
      have hkd : ¬ k < ((x5.Breaks.length : Nat) : Int) := hk
      simp only [sh183_1, hkd, decide_false, cond_false]
      exact ⟨_, rfl, i3, i4, i5, by simp only; omega⟩)
  obtain ⟨b, hb, d1, d2, d3, d4⟩ := hi
  rw [hb, bindS]
  refine ⟨_, rfl, panelB_of (b := x5.Breaks) (by exact p5) d1 d2, ⟨by simp only [w5]; omega, by simp only [h5]; omega⟩, d3, by simp only; omega⟩

/-! decimal -/
theorem u64_id {x : Int} (h1 : 0 ≤ x) (h2 : x < 18446744073709551616) : IntKind.u64.wrap x = x := by
  unfold IntKind.wrap
  have hs : IntKind.u64.signed = false := rfl
  have hb : IntKind.u64.bits = 64 := rfl
  simp only [hs, hb, Bool.false_and]
  show x % 2 ^ 64 = x
  omega
theorem u64_neg {x : Int} (h1 : -9223372036854775808 ≤ x) (h2 : x < 0) : IntKind.u64.wrap (0 - IntKind.u64.wrap x) = -x := by
  unfold IntKind.wrap
  have hs : IntKind.u64.signed = false := rfl
  have hb : IntKind.u64.bits = 64 := rfl
  simp only [hs, hb, Bool.false_and]
  show (0 - x % 2 ^ 64) % 2 ^ 64 = -x
  omega
theorem u8_id {x : Int} (h1 : 0 ≤ x) (h2 : x < 256) : IntKind.u8.wrap x = x := by
  unfold IntKind.wrap
  have hs : IntKind.u8.signed = false := rfl
  have hb : IntKind.u8.bits = 8 := rfl
  simp only [hs, hb, Bool.false_and]
  show x % 2 ^ 8 = x
  omega

/-- The digits of a number, the first one first. -/
def digs (n : Nat) : List Int := if h : n = 0 then [] else digs (n / 10) ++ [48 + ((n % 10 : Nat) : Int)]
decreasing_by omega
theorem digs_zero : digs 0 = [] := by unfold digs; simp
theorem digs_pos {n : Nat} (h : 0 < n) : digs n = digs (n / 10) ++ [48 + ((n % 10 : Nat) : Int)] := by
  rw [digs]; simp [show n ≠ 0 by omega]
theorem digs_len : ∀ (k n : Nat), n < 10 ^ k → (digs n).length ≤ k
  | 0, n, h => by
    have : n = 0 := by simpa using h
    subst this; simp [digs_zero]
  | k + 1, n, h => by
    by_cases h0 : n = 0
    · subst h0; simp [digs_zero]
    · rw [digs_pos (by omega), List.length_append]
      have := digs_len k (n / 10) (by rw [Nat.pow_succ] at h; omega)
      simp; omega
theorem digs_byte (n : Nat) : ∀ x ∈ digs n, 48 ≤ x ∧ x ≤ 57 := by
  induction n using Nat.strongRecOn with
  | ind n ih =>
    intro x hx
    by_cases h0 : n = 0
    · subst h0; rw [digs_zero] at hx; simp at hx
    · rw [digs_pos (by omega)] at hx
      rcases List.mem_append.1 hx with h | h
      · exact ih (n / 10) (by omega) x h
      · simp at h; omega
theorem digs_ne {n : Nat} (h : 0 < n) : digs n ≠ [] := by rw [digs_pos h]; simp

/-- The bytes of a number in decimal. -/
def decL (n : Int) : List Int := if n = 0 then [48] else (if n < 0 then [45] else []) ++ digs n.natAbs
theorem decL_len {n : Int} (h1 : -9223372036854775808 ≤ n) (h2 : n ≤ 9223372036854775807) : (decL n).length ≤ 20 := by
  unfold decL
  have := digs_len 19 n.natAbs (by omega)
  split
  · simp
  · split <;> simp <;> omega
theorem decL_byte (n : Int) : ∀ x ∈ decL n, 0 ≤ x ∧ x < 256 := by
  intro x hx
  unfold decL at hx
  split at hx
  · simp at hx; omega
  · rcases List.mem_append.1 hx with h | h
    · split at h <;> simp at h; omega
    · have := digs_byte _ x h; omega

/-! bytes as a string -/
theorem bytesS_foldl : ∀ (xs : List Int) (s : ByteArray), xs.foldl (fun r n => r.push (UInt8.ofNat n.toNat)) s = ⟨s.data ++ (xs.map fun n => UInt8.ofNat n.toNat).toArray⟩
  | [], s => by simp
  | n :: ns, s => by
    rw [List.foldl_cons, bytesS_foldl ns]
    simp [ByteArray.push]
theorem bytesS_data (xs : List Int) : bytesS xs = ⟨(xs.map fun n => UInt8.ofNat n.toNat).toArray⟩ := by
  unfold bytesS
  rw [bytesS_foldl]
  congr 1
  apply Array.ext'
  simp [ByteArray.empty, ByteArray.emptyWithCapacity]
  rfl
theorem bytesS_size (xs : List Int) : (bytesS xs).size = xs.length := by
  rw [bytesS_data]
  show (List.toArray _).size = _
  simp
theorem bytesS_append (xs ys : List Int) : bytesS xs ++ bytesS ys = bytesS (xs ++ ys) := by
  apply ByteArray.ext
  rw [ByteArray.data_append, bytesS_data, bytesS_data, bytesS_data]
  apply Array.ext'
  simp
theorem strI_bytesS {xs : List Int} (h : ∀ x ∈ xs, 0 ≤ x ∧ x < 256) : strI (bytesS xs) = xs := by
  rw [bytesS_data, strI]
  simp only [List.map_map]
  conv => rhs; rw [← List.map_id xs]
  refine List.map_congr_left fun x hx => ?_
  obtain ⟨h1, h2⟩ := h x hx
  show ((UInt8.ofNat x.toNat).toNat : Int) = x
  rw [UInt8.toNat_ofNat']
  omega
theorem catS_ok {xs ys : List Int} (h : xs.length + ys.length ≤ 1099511627776) : catS (bytesS xs) (bytesS ys) = some (bytesS (xs ++ ys)) := by
  have : LIM = 1099511627776 := rfl
  unfold catS
  rw [bytesS_size, bytesS_size, if_pos (by omega), bytesS_append]
theorem lit_nil : (ByteArray.mk #[] : ByteArray) = bytesS [] := rfl
theorem lit_minus : (ByteArray.mk #[45] : ByteArray) = bytesS [45] := rfl
theorem lit_zero : (ByteArray.mk #[48] : ByteArray) = bytesS [48] := rfl
theorem lit_blank : (ByteArray.mk #[32] : ByteArray) = bytesS [32] := rfl

theorem tmod_abs (n : Int) : (if n.tmod 10 < 0 then 0 - n.tmod 10 else n.tmod 10) = ((n.natAbs % 10 : Nat) : Int) := by
  by_cases h : 0 ≤ n
  · rw [Int.tmod_eq_emod_of_nonneg h]; split <;> omega
  · have := Int.neg_tmod (-n) 10
    rw [Int.neg_neg] at this
    rw [this, Int.tmod_eq_emod_of_nonneg (by omega)]
    split <;> omega
theorem tdiv_abs (n : Int) : (n.tdiv 10).natAbs = n.natAbs / 10 := by
  rw [Int.natAbs_tdiv]; rfl


/-! strs -/
def isByte (x : Int) : Prop := 0 ≤ x ∧ x < 256
theorem strI_byte (s : ByteArray) : ∀ x ∈ strI s, isByte x := by
  intro x hx
  unfold strI at hx
  obtain ⟨b, _, rfl⟩ := List.mem_map.1 hx
  have := UInt8.toNat_lt b
  unfold isByte
  omega
theorem bytesS_strI (s : ByteArray) : bytesS (strI s) = s := by
  rw [bytesS_data, strI, List.map_map]
  apply ByteArray.ext
  apply Array.ext'
  simp only [List.map_map]
  conv => rhs; rw [← List.map_id s.data.toList]
  refine List.map_congr_left fun b _ => ?_
  show UInt8.ofNat ((b.toNat : Int)).toNat = b
  rw [Int.toNat_natCast]
  exact UInt8.ofNat_toNat
theorem strI_inj {a b : ByteArray} (h : strI a = strI b) : a = b := by rw [← bytesS_strI a, h, bytesS_strI]
theorem bytesS_inj {A B : List Int} (hA : ∀ x ∈ A, isByte x) (hB : ∀ x ∈ B, isByte x) (h : bytesS A = bytesS B) : A = B := by
  rw [← strI_bytesS hA, h, strI_bytesS hB]
theorem toList_loop (s : ByteArray) : ∀ (k i : Nat) (r : List UInt8), s.size - i = k → ByteArray.toList.loop s i r = r.reverse ++ s.data.toList.drop i
  | 0, i, r, h => by
    rw [ByteArray.toList.loop, if_neg (by omega), List.drop_of_length_le (by show s.data.size ≤ i; have : s.data.size = s.size := rfl; omega), List.append_nil]
  | k + 1, i, r, h => by
    have hi : i < s.size := by omega
    have hi2 : i < s.data.toList.length := hi
    rw [ByteArray.toList.loop, if_pos hi, toList_loop s k (i + 1) _ (by omega), List.drop_eq_getElem_cons hi2, List.reverse_cons, List.append_assoc]
    have : s.get! i = s.data.toList[i] := by
      show s.data[i]! = _
      rw [getElem!_pos s.data i hi]
      simp
    rw [this]
    rfl
theorem toList_data (s : ByteArray) : s.toList = s.data.toList := by
  unfold ByteArray.toList
  rw [toList_loop s s.size 0 [] (by omega)]
  simp
theorem toList_inj {a b : ByteArray} (h : a.toList = b.toList) : a = b := by
  rw [toList_data, toList_data] at h
  exact ByteArray.ext (Array.toList_inj.1 h)
theorem eqS {A B : List Int} (hA : ∀ x ∈ A, isByte x) (hB : ∀ x ∈ B, isByte x) : ((bytesS A).toList == (bytesS B).toList) = decide (A = B) := by
  by_cases h : A = B
  · subst h; simp
  · have : (bytesS A).toList ≠ (bytesS B).toList := fun he => h (bytesS_inj hA hB (toList_inj he))
    simp [h, this]
theorem getS_strI (s : ByteArray) (k : Nat) : getS s (k : Int) = (strI s)[k]? := by
  unfold getS strI
  rw [if_pos (by omega), Int.toNat_natCast, List.getElem?_map]
  congr 1
  by_cases h : k < s.size
  · rw [getElem?_pos s k h, List.getElem?_eq_getElem (show k < s.data.toList.length from h)]
    rfl
  · rw [getElem?_neg s k h, List.getElem?_eq_none (show s.data.toList.length ≤ k from Nat.le_of_not_lt h)]
theorem getS_ok {L : List Int} (hb : ∀ x ∈ L, isByte x) {k : Nat} (h : k < L.length) : getS (bytesS L) (k : Int) = some L[k] := by
  rw [getS_strI, strI_bytesS hb, List.getElem?_eq_getElem h]
theorem subS_ok {L : List Int} (hb : ∀ x ∈ L, isByte x) {i j : Nat} (hij : i ≤ j) (h : j ≤ L.length) : subS (bytesS L) (i : Int) (j : Int) = some (bytesS ((L.drop i).take (j - i))) := by
  unfold subS
  rw [if_pos (by rw [bytesS_size]; omega), Int.toNat_natCast, Int.toNat_natCast]
  congr 1
  apply strI_inj
  rw [strI_bytesS (fun x hx => hb x (List.mem_of_mem_drop (List.mem_of_mem_take hx)))]
  unfold strI
  rw [ByteArray.data_extract, Array.toList_extract, List.extract_eq_take_drop, List.map_take, List.map_drop]
  have := strI_bytesS hb
  unfold strI at this
  rw [this]
theorem mem_drop_take {L : List Int} (hb : ∀ x ∈ L, isByte x) (i j : Nat) : ∀ x ∈ (L.drop i).take j, isByte x := fun x hx => hb x (List.mem_of_mem_drop (List.mem_of_mem_take hx))

/-! parts of a text -/
def consHead (x : Int) : List (List Int) → List (List Int)
  | [] => [[x]]
  | h :: t => (x :: h) :: t
def splitL (b : Int) : List Int → List (List Int)
  | [] => [[]]
  | x :: xs => if x = b then [] :: splitL b xs else consHead x (splitL b xs)
theorem splitL_ne (b : Int) (L : List Int) : splitL b L ≠ [] := by
  cases L with
  | nil => simp [splitL]
  | cons x xs =>
    unfold splitL
    split
    · simp
    · cases splitL b xs <;> simp [consHead]
theorem splitL_none {b : Int} : ∀ {a : List Int}, b ∉ a → splitL b a = [a]
  | [], _ => rfl
  | x :: xs, h => by
    have h1 : x ≠ b := fun e => h (by simp [e])
    have h2 : b ∉ xs := fun e => h (by simp [e])
    rw [splitL, if_neg h1, splitL_none h2]
    rfl
theorem splitL_app {b : Int} : ∀ {a : List Int} (c : List Int), b ∉ a → splitL b (a ++ b :: c) = a :: splitL b c
  | [], c, _ => by simp [splitL]
  | x :: xs, c, h => by
    have h1 : x ≠ b := fun e => h (by simp [e])
    have h2 : b ∉ xs := fun e => h (by simp [e])
    rw [List.cons_append, splitL, if_neg h1, splitL_app c h2]
    rfl
theorem splitL_mem {b : Int} {p : Int → Prop} : ∀ {L : List Int}, (∀ x ∈ L, p x) → ∀ w ∈ splitL b L, ∀ x ∈ w, p x
  | [], _, w, hw, x, hx => by simp [splitL] at hw; subst hw; cases hx
  | y :: ys, h, w, hw, x, hx => by
    have ih := splitL_mem (b := b) (fun z hz => h z (List.mem_cons_of_mem _ hz)) (L := ys)
    rw [splitL] at hw
    split at hw
    · rcases List.mem_cons.1 hw with rfl | hw
      · cases hx
      · exact ih w hw x hx
    · cases hs : splitL b ys with
      | nil => exact absurd hs (splitL_ne b ys)
      | cons u t =>
        rw [hs, consHead] at hw
        rw [hs] at ih
        rcases List.mem_cons.1 hw with rfl | hw
        · rcases List.mem_cons.1 hx with rfl | hx
          · exact h _ (List.mem_cons_self ..)
          · exact ih u (List.mem_cons_self ..) x hx
        · exact ih w (List.mem_cons_of_mem _ hw) x hx
theorem splitL_bound {b : Int} : ∀ (L : List Int), (splitL b L).length ≤ L.length + 1 ∧ ∀ w ∈ splitL b L, w.length ≤ L.length
  | [] => by simp [splitL]
  | y :: ys => by
    obtain ⟨h1, h2⟩ := splitL_bound (b := b) ys
    rw [splitL]
    split
    · refine ⟨by simp only [List.length_cons]; omega, fun w hw => ?_⟩
      rcases List.mem_cons.1 hw with rfl | hw
      · simp
      · have := h2 w hw; simp only [List.length_cons]; omega
    · cases hs : splitL b ys with
      | nil => exact absurd hs (splitL_ne b ys)
      | cons u t =>
        rw [hs] at h1 h2
        refine ⟨by simp only [consHead, List.length_cons] at h1 ⊢; omega, fun w hw => ?_⟩
        rw [consHead] at hw
        rcases List.mem_cons.1 hw with rfl | hw
        · have := h2 u (List.mem_cons_self ..); simp only [List.length_cons]; omega
        · have := h2 w (List.mem_cons_of_mem _ hw); simp only [List.length_cons]; omega
theorem drop_split {L : List Int} {f i : Nat} (hf : f ≤ i) (hi : i < L.length) : L.drop f = (L.drop f).take (i - f) ++ L[i] :: L.drop (i + 1) := by
  conv => lhs; rw [← List.take_append_drop (i - f) (L.drop f)]
  rw [List.drop_drop, show f + (i - f) = i by omega, List.drop_eq_getElem_cons hi]
theorem take_snoc {L : List Int} {f i : Nat} (hf : f ≤ i) (hi : i < L.length) : (L.drop f).take (i + 1 - f) = (L.drop f).take (i - f) ++ [L[i]] := by
  rw [show i + 1 - f = (i - f) + 1 by omega, List.take_succ_eq_append_getElem (by rw [List.length_drop]; omega), List.getElem_drop]
  congr 2
  simp only [show f + (i - f) = i by omega]


/-! draw19 -/
def i64R (x : Int) : Prop := -9223372036854775808 ≤ x ∧ x ≤ 9223372036854775807
def ptR (p : SPoint) : Prop := i64R p.X ∧ i64R p.Y
theorem i64R_w64 (x : Int) : i64R (w64 x) := ⟨w64_lo x, w64_hi x⟩
theorem i64R_mx {a b : Int} (ha : i64R a) (hb : i64R b) : i64R (mx a b) := by
  unfold mx
  split
  · exact hb
  · exact ha
theorem i64R_small {x : Int} (h1 : -1000000 ≤ x) (h2 : x ≤ 1000000) : i64R x := ⟨by omega, by omega⟩
theorem ptR_set {l : List SPoint} {k : Nat} {p : SPoint} (hl : ∀ x ∈ l, ptR x) (hp : ptR p) : ∀ x ∈ l.set k p, ptR x := fun x hx => by
  rcases List.mem_or_eq_of_mem_set hx with h | h
  · exact hl x h
  · rw [h]; exact hp

/-! steps -/
theorem ok_small {p : SPanel} {w : SWalker} (hd : Dim p) (h : okW p w) : (0 ≤ w.At.X ∧ w.At.X ≤ 16) ∧ (0 ≤ w.At.Y ∧ w.At.Y ≤ 16) ∧ (0 ≤ w.At.X + w.DX ∧ w.At.X + w.DX ≤ 16) ∧ (0 ≤ w.At.Y + w.DY ∧ w.At.Y + w.DY ≤ 16) := by
  obtain ⟨w1, w2, h1, h2, bl⟩ := hd
  clear bl
  obtain ⟨a1, a2, ⟨a3, a4⟩, ⟨a5, a6⟩, a7, ⟨a8, a9⟩, a10, a11⟩ := h
  omega
theorem l03Next_eq {p : SPanel} {w : SWalker} (hd : Dim p) (h : okW p w) : sh216 w = some ⟨w.At.X + w.DX, w.At.Y + w.DY⟩ := by
  obtain ⟨b1, b2, b3, b4⟩ := ok_small hd h
  unfold sh216
  rw [w64_id (by omega) (by omega), w64_id (by omega) (by omega)]
theorem mul_small {a H : Int} (h1 : 1 ≤ H) (h2 : H ≤ 8) (ha : 0 ≤ a) (ha2 : a ≤ 40) : 0 ≤ a * H ∧ a * H ≤ 320 := by
  rcases eight h1 h2 with e | e | e | e | e | e | e | e <;> subst e <;> omega
theorem seg_spec {p : SPanel} {w : SWalker} (hd : Dim p) (h : okW p w) : sh214 p w = some (sgF p w) := by
  obtain ⟨b1, b2, b3, b4⟩ := ok_small hd h
  have hn := l03Next_eq hd h
  unfold sh214 sh217
  rw [hn, bindS]
  unfold sgF
  rcases h.1 with a | a <;> rcases h.2.1 with b | b
  · rw [a, b]
    simp only [beq_self_eq_true, cond_true, bindS, if_true]
    have hm := mul_small (a := w.At.X * 2) hd.h1 hd.h2 (by omega) (by omega)
    rw [decide_eq_true (by omega), cond_true, bindS, w64_id (x := w.At.X * 2) (by omega) (by omega), w64_id (x := w.At.X * 2 * p.H) (by omega) (by omega), w64_id (x := w.At.X * 2 * p.H + w.At.Y) (by omega) (by omega), w64_id (x := w.At.X * 2 * p.H + w.At.Y - 1) (by omega) (by omega), w64_id (by omega) (by omega), Int.mul_assoc]
    congr 1; omega
  · rw [b] at b4
    rw [a, b]
    simp only [beq_self_eq_true, cond_true, bindS, if_true, show ¬ ((-1 : Int) = 1) by omega, if_false]
    have hm := mul_small (a := w.At.X * 2) hd.h1 hd.h2 (by omega) (by omega)
    rw [decide_eq_false (by omega), cond_false, bindS, w64_id (x := w.At.X * 2) (by omega) (by omega), w64_id (x := w.At.X * 2 * p.H) (by omega) (by omega), w64_id (x := w.At.X * 2 * p.H + w.At.Y) (by omega) (by omega), w64_id (by omega) (by omega), Int.mul_assoc]
    congr 1; omega
  · rw [a] at b3
    rw [a, b]
    simp only [show ((-1 : Int) == 1) = false from rfl, cond_false, bindS, if_true, show ¬ ((-1 : Int) = 1) by omega, if_false]
    have hm := mul_small (a := (w.At.X + -1) * 2) hd.h1 hd.h2 (by omega) (by omega)
    rw [decide_eq_false (by omega), cond_false, bindS, w64_id (x := (w.At.X + -1) * 2) (by omega) (by omega), w64_id (x := (w.At.X + -1) * 2 * p.H) (by omega) (by omega), w64_id (x := (w.At.X + -1) * 2 * p.H + (w.At.Y + 1)) (by omega) (by omega), w64_id (by omega) (by omega), Int.mul_assoc, show w.At.X + -1 = w.At.X - 1 by omega]
    congr 1; omega
  · rw [a] at b3
    rw [b] at b4
    rw [a, b]
    simp only [show ((-1 : Int) == 1) = false from rfl, cond_false, bindS, show ¬ ((-1 : Int) = 1) by omega, if_false]
    have hm := mul_small (a := (w.At.X + -1) * 2) hd.h1 hd.h2 (by omega) (by omega)
    rw [decide_eq_true (by omega), cond_true, bindS, w64_id (x := (w.At.X + -1) * 2) (by omega) (by omega), w64_id (x := (w.At.X + -1) * 2 * p.H) (by omega) (by omega), w64_id (x := (w.At.X + -1) * 2 * p.H + (w.At.Y + -1)) (by omega) (by omega), w64_id (x := (w.At.X + -1) * 2 * p.H + (w.At.Y + -1) - 1) (by omega) (by omega), w64_id (by omega) (by omega), Int.mul_assoc, show w.At.X + -1 = w.At.X - 1 by omega]
    congr 1; omega
/-- An inner point. -/
def inr (p : SPanel) (x y : Int) : Prop := (1 ≤ x ∧ x ≤ 2 * p.W - 1) ∧ (1 ≤ y ∧ y ≤ 2 * p.H - 1) ∧ (x + y) % 2 = 1
theorem num_bd {p : SPanel} (hd : Dim p) {x y : Int} (h : inr p x y) : 0 ≤ numF p x y ∧ numF p x y < p.Breaks.length := by
  obtain ⟨w1, w2, h1, h2, bl⟩ := hd
  obtain ⟨⟨a1, a2⟩, ⟨a3, a4⟩, a5⟩ := h
  rw [bl]
  unfold numF
  clear bl
  generalize p.W = W at *
  generalize p.H = H at *
  rcases eight w1 w2 with e | e | e | e | e | e | e | e <;> subst e <;> constructor <;> omega
theorem row_spec {p : SPanel} (hd : Dim p) {y : Int} (h0 : 1 ≤ y) (h1 : y ≤ 16) : sh203 p y = some ((y - 1) * p.W - y / 2) := by
  obtain ⟨w1, w2, _, _, bl⟩ := hd
  clear bl
  unfold sh203
  obtain ⟨n, hn⟩ : ∃ n : Nat, y = n + 1 := ⟨(y - 1).toNat, by omega⟩
  have hi := iter_steps (sb := sh203_1 p y) (fun k => ((k : Int) * p.W - ((k : Int) + 1) / 2, (k : Int) + 1)) n (x := (y - 1) * p.W - y / 2) (by omega) (fun k hk => ?_) ?_
  · simp only [Int.natCast_zero, Int.zero_mul] at hi
    rw [show (0 : Int) - (0 + 1) / 2 = 0 by omega, show (0 : Int) + 1 = 1 by omega] at hi
    rw [hi, bindS]
  · have h2 : (k : Int) + 1 < y := by omega
    have hm : 0 ≤ (k : Int) * p.W ∧ (k : Int) * p.W ≤ 320 := by have := mul_small (a := (k : Int)) w1 w2 (by omega) (by omega); exact this
    have e6 : ((k : Int) + 1).tmod 2 = ((k : Int) + 1) % 2 := Int.tmod_eq_emod_of_nonneg (by omega)
    have hms : ((k + 1 : Nat) : Int) * p.W = (k : Int) * p.W + p.W := by rw [Int.natCast_add, Int.add_mul]; simp
    simp only [sh203_1, h2, decide_true, cond_true, e6]
    rw [hms]
    generalize (k : Int) * p.W = m at *
    rw [w64_id (x := m - ((k : Int) + 1) / 2 + p.W) (by omega) (by omega), w64_id (x := (k : Int) + 1 + 1) (by omega) (by omega), w64_id (x := m - ((k : Int) + 1) / 2 + p.W - 1) (by omega) (by omega)]
    by_cases hy : ((k : Int) + 1) % 2 = 1
    · rw [beq_iff_eq.2 hy, cond_true, bindS]
      simp only [Option.some.injEq, Sum.inl.injEq, Prod.mk.injEq]
      refine ⟨by omega, by omega⟩
    · rw [beq_eq_false_iff_ne.2 hy, cond_false, bindS]
      simp only [Option.some.injEq, Sum.inl.injEq, Prod.mk.injEq]
      refine ⟨by omega, by omega⟩
  · have hd : decide ((n : Int) + 1 < y) = false := decide_eq_false (by omega)
    simp only [sh203_1, hd, cond_false]
    rw [hn, show (n : Int) + 1 - 1 = (n : Int) by omega]
theorem number_spec {p : SPanel} (hd : Dim p) {x y : Int} (h : inr p x y) : sh141 p ⟨x, y⟩ = some (numF p x y) := by
  have hb := num_bd hd h
  have hd' := hd
  obtain ⟨w1, w2, h1, h2, bl⟩ := hd
  obtain ⟨⟨a1, a2⟩, ⟨a3, a4⟩, a5⟩ := h
  unfold sh141
  rw [show (SPoint.mk x y).Y = y from rfl, show (SPoint.mk x y).X = x from rfl, row_spec hd' (by omega) (by omega), bindS, w64_id (x := x - 1) (by omega) (by omega), Int.tdiv_eq_ediv_of_nonneg (by omega), w64_id (x := (x - 1) / 2) (by omega) (by omega)]
  have hm := mul_small (a := y - 1) w1 w2 (by omega) (by omega)
  unfold numF
  rw [w64_id (by omega) (by omega)]
theorem inner_of {p : SPanel} {w : SWalker} (h : okW p w) (he : ¬ (w.At.X + w.DX = 0 ∨ w.At.X + w.DX = 2 * p.W ∨ w.At.Y + w.DY = 0 ∨ w.At.Y + w.DY = 2 * p.H)) : inr p (w.At.X + w.DX) (w.At.Y + w.DY) := by
  obtain ⟨a1, a2, ⟨a3, a4⟩, ⟨a5, a6⟩, a7, ⟨a8, a9⟩, a10, a11⟩ := h
  refine ⟨⟨by omega, by omega⟩, ⟨by omega, by omega⟩, ?_⟩
  rcases a1 with a1 | a1 <;> rcases a2 with a2 | a2 <;> omega
theorem beq_dec (a b : Int) : (a == b) = decide (a = b) := by
  by_cases h : a = b
  · subst h; simp
  · rw [beq_eq_false_iff_ne.2 h, decide_eq_false h]
theorem ite_flip {c : Prop} [Decidable c] {α : Type} {a b : α} : (bif decide c then some a else some b) = some (if c then a else b) := by
  by_cases h : c <;> simp [h]
theorem step_spec {p : SPanel} {w : SWalker} (hd : Dim p) (h : okW p w) : sh213 p w = some (stp p w) := by
  obtain ⟨b1, b2, b3, b4⟩ := ok_small hd h
  have hwW : w64 (2 * p.W) = 2 * p.W := by have := hd.w1; have := hd.w2; exact w64_id (by omega) (by omega)
  have hwH : w64 (2 * p.H) = 2 * p.H := by have := hd.h1; have := hd.h2; exact w64_id (by omega) (by omega)
  have hdx : w64 (0 - w.DX) = 0 - w.DX := by rcases h.1 with a | a <;> rw [a] <;> exact w64_id (by omega) (by omega)
  have hdy : w64 (0 - w.DY) = 0 - w.DY := by rcases h.2.1 with a | a <;> rw [a] <;> exact w64_id (by omega) (by omega)
  unfold sh213 sh188
  rw [l03Next_eq hd h, bindS]
  simp only [hwW, hwH, bindS, beq_dec, hdx]
  by_cases he : w.At.X + w.DX = 0 ∨ w.At.X + w.DX = 2 * p.W ∨ w.At.Y + w.DY = 0 ∨ w.At.Y + w.DY = 2 * p.H
  · have e0 : (((decide (w.At.X + w.DX = 0) || decide (w.At.Y + w.DY = 0)) || decide (w.At.X + w.DX = 2 * p.W)) || decide (w.At.Y + w.DY = 2 * p.H)) = true := by
      simp only [Bool.or_eq_true, decide_eq_true_eq]; rcases he with h | h | h | h <;> simp [h]
    have hk := brk_edge he
    simp only [e0, Bool.not_true, cond_false, bindS, stp, hk]
    have c1 : (decide (w.At.X + w.DX = 0) || decide (w.At.X + w.DX = 2 * p.W)) = decide (w.At.X + w.DX = 0 ∨ w.At.X + w.DX = 2 * p.W ∨ (0 : Int) = 1) := by simp
    have c2 : (decide (w.At.Y + w.DY = 0) || decide (w.At.Y + w.DY = 2 * p.H)) = decide (w.At.Y + w.DY = 0 ∨ w.At.Y + w.DY = 2 * p.H ∨ (0 : Int) = 2) := by simp
    rw [c1, c2]
    by_cases d1 : w.At.X + w.DX = 0 ∨ w.At.X + w.DX = 2 * p.W ∨ (0 : Int) = 1 <;> by_cases d2 : w.At.Y + w.DY = 0 ∨ w.At.Y + w.DY = 2 * p.H ∨ (0 : Int) = 2
    · rw [decide_eq_true d1, decide_eq_true d2, if_pos d1, if_pos d2, cond_true, bindS, cond_true, bindS]
      simp only [hdy]
    · rw [decide_eq_true d1, decide_eq_false d2, if_pos d1, if_neg d2, cond_true, bindS, cond_false, bindS]
    · rw [decide_eq_false d1, decide_eq_true d2, if_neg d1, if_pos d2, cond_false, bindS, cond_true, bindS]
      simp only [hdy]
    · rw [decide_eq_false d1, decide_eq_false d2, if_neg d1, if_neg d2, cond_false, bindS, cond_false, bindS]
  · have hin := inner_of h he
    have hb := num_bd hd hin
    have hl : (numF p (w.At.X + w.DX) (w.At.Y + w.DY)).toNat < p.Breaks.length := by omega
    have hg : getI p.Breaks (numF p (w.At.X + w.DX) (w.At.Y + w.DY)) = some (brkF p (w.At.X + w.DX) (w.At.Y + w.DY)) := by
      rw [getI_toNat hb.1 hl]
      unfold brkF
      rw [if_neg he, List.getD_eq_getElem?_getD, List.getElem?_eq_getElem hl]
      rfl
    simp only [not_or] at he
    simp only [he.1, he.2.1, he.2.2.1, he.2.2.2, decide_false, Bool.or_self, Bool.not_false, cond_false, cond_true, bindS, number_spec hd hin, hg, stp, false_or]
    generalize brkF p (w.At.X + w.DX) (w.At.Y + w.DY) = k
    by_cases d1 : k = 1
    · subst d1
      simp only [decide_true, cond_true, bindS, if_true, hdx, show ¬ ((1 : Int) = 2) by omega, if_false]
    · by_cases d2 : k = 2
      · subst d2
        simp only [show ¬ ((2 : Int) = 1) by omega, decide_false, decide_true, cond_true, cond_false, bindS, if_true, hdy, if_false]
      · simp only [d1, d2, decide_false, cond_false, bindS, if_false]
theorem walker_spec {p : SPanel} (hd : Dim p) {k : Int} (h0 : 0 ≤ k) (h1 : k < 4 * p.W * p.H) : sh206 p k = some (wlk p k) := by
  have hwH : w64 (2 * p.H) = 2 * p.H := by have := hd.h1; have := hd.h2; exact w64_id (by omega) (by omega)
  have hb : 0 ≤ k / (2 * p.H) ∧ k / (2 * p.H) ≤ 16 ∧ 0 ≤ k % (2 * p.H) ∧ k % (2 * p.H) ≤ 16 := by
    obtain ⟨w1, w2, g1, g2, bl⟩ := hd
    clear bl
    generalize p.H = H at *
    generalize p.W = W at *
    rcases eight g1 g2 with e | e | e | e | e | e | e | e <;> subst e <;> omega
  have e1 : k.tdiv (2 * p.H) = k / (2 * p.H) := Int.tdiv_eq_ediv_of_nonneg h0
  have e2 : k.tmod (2 * p.H) = k % (2 * p.H) := Int.tmod_eq_emod_of_nonneg h0
  unfold sh206 wlk
  rw [hwH, nzI_ok (by have := hd.h1; omega), bindS, bindS, e1, e2, w64_id (x := k / (2 * p.H)) (by omega) (by omega)]
  generalize k / (2 * p.H) = a at *
  generalize k % (2 * p.H) = b at *
  have t1 : a.tmod 2 = a % 2 := Int.tmod_eq_emod_of_nonneg (by omega)
  have t2 : b.tdiv 2 = b / 2 := Int.tdiv_eq_ediv_of_nonneg (by omega)
  have t3 : b.tmod 2 = b % 2 := Int.tmod_eq_emod_of_nonneg (by omega)
  have t4 : w64 (b + 1) = b + 1 := w64_id (by omega) (by omega)
  have t5 : (b + 1).tdiv 2 = (b + 1) / 2 := Int.tdiv_eq_ediv_of_nonneg (by omega)
  rw [t1, t2, t3, t4, t5, w64_id (x := b / 2) (by omega) (by omega), w64_id (x := b / 2 * 2) (by omega) (by omega), w64_id (x := b / 2 * 2 + 1) (by omega) (by omega), w64_id (x := 2 * (b % 2)) (by omega) (by omega), w64_id (x := 2 * (b % 2) - 1) (by omega) (by omega), w64_id (x := (b + 1) / 2) (by omega) (by omega), w64_id (x := (b + 1) / 2 * 2) (by omega) (by omega)]
  by_cases ha : a % 2 = 0
  · rw [beq_iff_eq.2 ha, cond_true]
    split
    · rw [show b / 2 * 2 + 1 = b by omega, show 2 * (b % 2) - 1 = 1 by omega]
    · rw [show b / 2 * 2 + 1 = b + 1 by omega, show 2 * (b % 2) - 1 = -1 by omega]
  · rw [beq_eq_false_iff_ne.2 ha, cond_false]
    by_cases hbb : b % 2 = 1
    · rw [beq_iff_eq.2 hbb, cond_true, bindS, if_neg (by omega), show (b + 1) / 2 * 2 = b + 1 by omega]
    · rw [beq_eq_false_iff_ne.2 hbb, cond_false, bindS, if_pos (by omega), show (b + 1) / 2 * 2 = b by omega]

/-! trace -/
def orb (p : SPanel) (w0 : SWalker) : Nat → SWalker
  | 0 => w0
  | i + 1 => stp p (orb p w0 i)
theorem orb_ok {p : SPanel} {w0 : SWalker} (hd : Dim p) (h : okW p w0) : ∀ i, okW p (orb p w0 i)
  | 0 => h
  | i + 1 => stp_ok hd (orb_ok hd h i)
theorem no_back {p : SPanel} {w0 : SWalker} (hd : Dim p) (h : okW p w0) : ∀ d i, orb p w0 (i + d) ≠ bck (orb p w0 i)
  | 0, i => fun e => bck_ne (orb_ok hd h i) e.symm
  | 1, i => fun e => stp_ne_bck (orb_ok hd h i) e
  | d + 2, i => fun e => by
    have h1 : stp p (orb p w0 (i + d + 1)) = stp p (bck (stp p (orb p w0 i))) := by rw [stp_back]; exact e
    have h2 := stp_inj h1
    exact no_back hd h d (i + 1) (by rw [show i + 1 + d = i + d + 1 by omega]; exact h2)
def ofN (p : SPanel) (w0 : SWalker) (c : Int) (of : List Int) : Nat → List Int
  | 0 => of
  | i + 1 => (ofN p w0 c of i).set (sgF p (orb p w0 i)).toNat c
theorem ofN_length (p : SPanel) (w0 : SWalker) (c : Int) (of : List Int) : ∀ i, (ofN p w0 c of i).length = of.length
  | 0 => rfl
  | i + 1 => by rw [ofN, List.length_set, ofN_length]
theorem getD_set (l : List Int) (i j : Nat) (c d : Int) (h : i < l.length) : (l.set i c).getD j d = if i = j then c else l.getD j d := by
  rw [List.getD_eq_getElem?_getD, List.getD_eq_getElem?_getD, List.getElem?_set]
  by_cases hij : i = j
  · subst hij; simp [h]
  · simp [hij]
def NS (p : SPanel) : Nat := (4 * p.W * p.H).toNat
theorem NS_eq {p : SPanel} (hd : Dim p) : ((NS p : Nat) : Int) = 4 * p.W * p.H ∧ NS p ≤ 256 ∧ 1 ≤ NS p := by
  obtain ⟨w1, w2, h1, h2, bl⟩ := hd
  clear bl
  unfold NS
  generalize p.W = W at *
  generalize p.H = H at *
  rcases eight h1 h2 with e | e | e | e | e | e | e | e <;> subst e <;> omega
theorem sg_lt {p : SPanel} {w : SWalker} (hd : Dim p) (h : okW p w) : (sgF p w).toNat < NS p ∧ 0 ≤ sgF p w := by
  have h1 := sg_bd hd h
  have h2 := NS_eq hd
  omega
theorem ofN_hit {p : SPanel} {w0 : SWalker} {c : Int} {of : List Int} (hd : Dim p) (h : okW p w0) (hl : of.length = NS p) : ∀ (i m : Nat), m < i → (ofN p w0 c of i).getD (sgF p (orb p w0 m)).toNat 0 = c
  | i + 1, m, hm => by
    have hi := sg_lt hd (orb_ok hd h i)
    rw [ofN, getD_set _ _ _ _ _ (by rw [ofN_length, hl]; exact hi.1)]
    split
    · rfl
    · rename_i hne
      have : m ≠ i := fun e => hne (by rw [e])
      exact ofN_hit hd h hl i m (by omega)
theorem ofN_old {p : SPanel} {w0 : SWalker} {c : Int} {of : List Int} (hd : Dim p) (h : okW p w0) (hl : of.length = NS p) : ∀ (i j : Nat), (∀ m, m < i → (sgF p (orb p w0 m)).toNat ≠ j) → (ofN p w0 c of i).getD j 0 = of.getD j 0
  | 0, _, _ => rfl
  | i + 1, j, hn => by
    have hi := sg_lt hd (orb_ok hd h i)
    rw [ofN, getD_set _ _ _ _ _ (by rw [ofN_length, hl]; exact hi.1), if_neg (hn i (by omega))]
    exact ofN_old hd h hl i j (fun m hm => hn m (by omega))
/-- The runs of a curve: each segment is free when it comes up. -/
def Run (p : SPanel) (w0 : SWalker) (c : Int) (of : List Int) (n : Nat) : Prop := ∀ j, j < n → (ofN p w0 c of j).getD (sgF p (orb p w0 j)).toNat 0 < 0
/-- What is owned is owned as a whole. -/
def Clo (p : SPanel) (of : List Int) : Prop := ∀ w, okW p w → 0 ≤ of.getD (sgF p w).toNat 0 → 0 ≤ of.getD (sgF p (stp p w)).toNat 0
theorem sg_eq_of {p : SPanel} {v w : SWalker} (hd : Dim p) (hv : okW p v) (hw : okW p w) (h : (sgF p v).toNat = (sgF p w).toNat) : sgF p v = sgF p w := by
  have := sg_lt hd hv
  have := sg_lt hd hw
  omega
theorem free_old {p : SPanel} {w0 : SWalker} {c : Int} {of : List Int} (hd : Dim p) (h : okW p w0) (hl : of.length = NS p) (hc : 0 ≤ c) {k : Nat} (hk : (ofN p w0 c of k).getD (sgF p (orb p w0 k)).toNat 0 < 0) :
    of.getD (sgF p (orb p w0 k)).toNat 0 < 0 ∧ ∀ m, m < k → sgF p (orb p w0 m) ≠ sgF p (orb p w0 k) := by
  have hno : ∀ m, m < k → (sgF p (orb p w0 m)).toNat ≠ (sgF p (orb p w0 k)).toNat := fun m hm e => by
    have := ofN_hit (c := c) hd h hl k m hm
    rw [e] at this
    omega
  rw [ofN_old hd h hl k _ hno] at hk
  exact ⟨hk, fun m hm e => hno m hm (by rw [e])⟩
theorem period {p : SPanel} {w0 : SWalker} {c : Int} {of : List Int} (hd : Dim p) (h : okW p w0) (hl : of.length = NS p) (hc : 0 ≤ c) (hcl : Clo p of) {n : Nat} (hn : 1 ≤ n) (hr : Run p w0 c of n) (hs : 0 ≤ (ofN p w0 c of n).getD (sgF p (orb p w0 n)).toNat 0) :
    orb p w0 n = w0 ∧ ∀ i, 0 < i → i < n → orb p w0 i ≠ w0 := by
  constructor
  · by_cases hit : ∃ m, m < n ∧ (sgF p (orb p w0 m)).toNat = (sgF p (orb p w0 n)).toNat
    · obtain ⟨m, hm, he⟩ := hit
      rcases sg_same hd (orb_ok hd h n) (orb_ok hd h m) (sg_eq_of hd (orb_ok hd h m) (orb_ok hd h n) he).symm with e | e
      · cases m with
        | zero => exact e
        | succ m =>
          obtain ⟨k, rfl⟩ : ∃ k, n = k + 1 := ⟨n - 1, by omega⟩
          have e2 : orb p w0 k = orb p w0 m := stp_inj e
          have := (free_old hd h hl hc (hr k (by omega))).2 m (by omega)
          rw [e2] at this
          exact absurd rfl this
      · exact absurd (by rw [show m + (n - m) = n by omega]; exact e) (no_back hd h (n - m) m)
    · exfalso
      rw [ofN_old hd h hl n _ (fun m hm e => hit ⟨m, hm, e⟩)] at hs
      obtain ⟨k, rfl⟩ : ∃ k, n = k + 1 := ⟨n - 1, by omega⟩
      have h1 := hcl (bck (orb p w0 (k + 1))) (bck_ok (orb_ok hd h (k + 1))) (by rw [sg_bck (orb_ok hd h (k + 1))]; exact hs)
      rw [show stp p (bck (orb p w0 (k + 1))) = bck (orb p w0 k) from stp_back p (orb p w0 k), sg_bck (orb_ok hd h k)] at h1
      have := (free_old hd h hl hc (hr k (by omega))).1
      omega
  · intro i h0 hi e
    have := (free_old hd h hl hc (hr i hi)).2 0 h0
    rw [e] at this
    exact absurd rfl this
theorem ofN_mono {p : SPanel} {w0 : SWalker} {c : Int} {of : List Int} (hd : Dim p) (h : okW p w0) (hl : of.length = NS p) (hc : 0 ≤ c) (n j : Nat) (hj : 0 ≤ of.getD j 0) : 0 ≤ (ofN p w0 c of n).getD j 0 := by
  by_cases hit : ∃ m, m < n ∧ (sgF p (orb p w0 m)).toNat = j
  · obtain ⟨m, hm, he⟩ := hit
    rw [← he, ofN_hit hd h hl n m hm]; exact hc
  · rw [ofN_old hd h hl n j (fun m hm e => hit ⟨m, hm, e⟩)]; exact hj
theorem clo_next {p : SPanel} {w0 : SWalker} {c : Int} {of : List Int} (hd : Dim p) (h : okW p w0) (hl : of.length = NS p) (hc : 0 ≤ c) (hcl : Clo p of) {n : Nat} (hn : 1 ≤ n) (hp : orb p w0 n = w0) : Clo p (ofN p w0 c of n) := by
  intro w hw hg
  have hit : ∀ m, m < n → ∀ v, sgF p v = sgF p (orb p w0 m) → 0 ≤ (ofN p w0 c of n).getD (sgF p v).toNat 0 := fun m hm v he => by
    rw [he, ofN_hit hd h hl n m hm]; exact hc
  by_cases hh : ∃ m, m < n ∧ (sgF p (orb p w0 m)).toNat = (sgF p w).toNat
  · obtain ⟨m, hm, he⟩ := hh
    rcases sg_same hd hw (orb_ok hd h m) (sg_eq_of hd (orb_ok hd h m) hw he).symm with e | e
    · subst e
      by_cases hm2 : m + 1 < n
      · exact hit (m + 1) hm2 _ rfl
      · have : m + 1 = n := by omega
        exact hit 0 (by omega) _ (by show sgF p (orb p w0 (m + 1)) = _; rw [this, hp]; rfl)
    · subst e
      cases m with
      | zero =>
        obtain ⟨k, rfl⟩ : ∃ k, n = k + 1 := ⟨n - 1, by omega⟩
        refine hit k (by omega) _ ?_
        rw [show bck (orb p w0 0) = bck (stp p (orb p w0 k)) from (show bck w0 = bck (orb p w0 (k + 1)) by rw [hp]), stp_back, sg_bck (orb_ok hd h k)]
      | succ m =>
        refine hit m (by omega) _ ?_
        rw [show stp p (bck (orb p w0 (m + 1))) = bck (orb p w0 m) from stp_back p (orb p w0 m), sg_bck (orb_ok hd h m)]
  · rw [ofN_old hd h hl n _ (fun m hm e => hh ⟨m, hm, e⟩)] at hg
    exact ofN_mono hd h hl hc n _ (hcl w hw hg)

def negs (l : List Int) : Nat := l.countP fun x => decide (x < 0)
theorem negs_set {l : List Int} {i : Nat} {c : Int} (h : i < l.length) (hf : l.getD i 0 < 0) (hc : 0 ≤ c) : negs (l.set i c) + 1 = negs l := by
  unfold negs
  induction l generalizing i with
  | nil => simp at h
  | cons x xs ih =>
    cases i with
    | zero =>
      have hx : x < 0 := by simpa using hf
      rw [List.set_cons_zero, List.countP_cons, List.countP_cons, decide_eq_true hx, decide_eq_false (show ¬ c < 0 by omega)]
      simp
    | succ i =>
      have := ih (i := i) (by simpa using h) (by simpa using hf)
      rw [List.set_cons_succ, List.countP_cons, List.countP_cons]
      omega
theorem negs_le (l : List Int) : negs l ≤ l.length := List.countP_le_length
theorem getI_sg {p : SPanel} {w : SWalker} {of : List Int} (hd : Dim p) (h : okW p w) (hl : of.length = NS p) : getI of (sgF p w) = some (of.getD (sgF p w).toNat 0) := by
  have h1 := sg_lt hd h
  rw [List.getD_eq_getElem?_getD, List.getElem?_eq_getElem (by omega)]
  exact getI_toNat h1.2 (by omega)
theorem range_snoc {T : Type} (f : Nat → T) (i : Nat) : (List.range (i + 1)).map f = (List.range i).map f ++ [f i] := by simp [List.range_succ]
instance decW : DecidableEq SWalker := fun a b => if h : a.At.X = b.At.X ∧ a.At.Y = b.At.Y ∧ a.DX = b.DX ∧ a.DY = b.DY then isTrue (walker_ext h.1 h.2.1 h.2.2.1 h.2.2.2) else isFalse (fun e => h (by subst e; simp))
theorem eqW (a b : SWalker) : (((a.At.X == b.At.X) && ((a.At.Y == b.At.Y) && true)) && ((a.DX == b.DX) && ((a.DY == b.DY) && true))) = decide (a = b) := by
  by_cases h : a = b
  · subst h; simp
  · rw [decide_eq_false h]
    simp only [Bool.and_true]
    cases h1 : (a.At.X == b.At.X) <;> cases h2 : (a.At.Y == b.At.Y) <;> cases h3 : (a.DX == b.DX) <;> cases h4 : (a.DY == b.DY) <;> (try rfl)
    simp only [beq_iff_eq] at h1 h2 h3 h4
    exact absurd (walker_ext h1 h2 h3 h4) h
theorem curve_spec {p : SPanel} {w0 : SWalker} (hd : Dim p) (h : okW p w0) {n : Nat} (hn : 1 ≤ n) (hn2 : n ≤ 256) (hp : orb p w0 n = w0) (ha : ∀ i, 0 < i → i < n → orb p w0 i ≠ w0) :
    sh205 p w0 = some ((List.range n).map (fun i => (orb p w0 i).At), (List.range n).map (fun i => sgF p (orb p w0 i))) := by
  unfold sh205
  have hi := iter_steps (sb := sh205_1 p w0) (fun i => ((List.range i).map (fun i => (orb p w0 i).At), (List.range i).map (fun i => sgF p (orb p w0 i)), orb p w0 i)) n (x := ((List.range n).map (fun i => (orb p w0 i).At), (List.range n).map (fun i => sgF p (orb p w0 i)))) (by omega) (fun i hi => ?_) ?_
  · simp only [List.range_zero, List.map_nil] at hi
    rw [show orb p w0 0 = w0 from rfl] at hi
    rw [hi, bindS]
  · have hok := orb_ok hd h i
    have hc : (((((List.range i).map (fun i => (orb p w0 i).At)).length : Int) == 0) || (!decide (orb p w0 i = w0))) = true := by
      rcases Nat.eq_zero_or_pos i with h0 | h0
      · subst h0; rfl
      · rw [decide_eq_false (ha i h0 hi)]; simp
    simp only [sh205_1, eqW, hc, cond_true]
    rw [appL_ok (by simp only [List.length_map, List.length_range, List.length_cons, List.length_nil]; omega), bindS, seg_spec hd hok, bindS, appL_ok (by simp only [List.length_map, List.length_range, List.length_cons, List.length_nil]; omega), bindS, step_spec hd hok, bindS, range_snoc, range_snoc]
    rfl
  · have hc : (((((List.range n).map (fun i => (orb p w0 i).At)).length : Int) == 0) || (!decide (orb p w0 n = w0))) = false := by
      rw [decide_eq_true hp]
      simp
      omega
    simp only [sh205_1, eqW, hc, cond_false]
theorem set_spec {p : SPanel} {w0 : SWalker} {of : List Int} (hd : Dim p) (h : okW p w0) (hl : of.length = NS p) (out : List (List SPoint)) (pts : List SPoint) (n : Nat) (hn : n ≤ 256) :
    iter (sh147_3 out (pts, (List.range n).map (fun i => sgF p (orb p w0 i)))) (0, of) = some (ofN p w0 (out.length : Int) of n) := by
  refine iter_steps (sb := sh147_3 out (pts, (List.range n).map (fun i => sgF p (orb p w0 i)))) (fun i => ((i : Int), ofN p w0 (out.length : Int) of i)) n (by omega) (fun i hi => ?_) ?_
  · have hok := orb_ok hd h i
    have hli : (ofN p w0 (out.length : Int) of i).length = NS p := by rw [ofN_length, hl]
    have hlt : i < ((List.range n).map (fun i => sgF p (orb p w0 i))).length := by simpa using hi
    have hd1 : decide ((i : Int) < (((List.range n).map (fun i => sgF p (orb p w0 i))).length : Int)) = true := decide_eq_true (by omega)
    simp only [sh147_3, hd1, cond_true, getI_lt hlt, List.getElem_map, List.getElem_range, bindS, getI_sg hd hok hli]
    rw [w64_id (by omega) (by omega)]
    rfl
  · have hd1 : decide ((n : Int) < (((List.range n).map (fun i => sgF p (orb p w0 i))).length : Int)) = false := decide_eq_false (by simp)
    simp only [sh147_3, hd1, cond_false]

/-- Two loops side by side. -/
theorem iter_rel {σ1 σ2 ρ1 ρ2 : Type} {sb1 : σ1 → Option (σ1 ⊕ ρ1)} {sb2 : σ2 → Option (σ2 ⊕ ρ2)} (R : σ1 → σ2 → Prop) (μ : σ1 → Nat) (Q : ρ1 → ρ2 → Prop) {s1 : σ1} {s2 : σ2} (h0 : R s1 s2) (hμ : μ s1 < 4611686018427387904)
    (hs : ∀ a b, R a b → (∃ a' b', sb1 a = some (.inl a') ∧ sb2 b = some (.inl b') ∧ R a' b' ∧ μ a' < μ a) ∨ (∃ x y, sb1 a = some (.inr x) ∧ sb2 b = some (.inr y) ∧ Q x y)) : ∃ x y, iter sb1 s1 = some x ∧ iter sb2 s2 = some y ∧ Q x y := by
  have key : ∀ k a b, μ a ≤ k → R a b → ∃ x y, iterN sb1 (k + 1) a = some x ∧ iterN sb2 (k + 1) b = some y ∧ Q x y := by
    intro k
    induction k with
    | zero =>
      intro a b hk hR
      rcases hs a b hR with ⟨a', b', _, _, _, h4⟩ | ⟨x, y, h1, h2, h3⟩
      · omega
      · exact ⟨x, y, by simp [iterN, h1], by simp [iterN, h2], h3⟩
    | succ k ih =>
      intro a b hk hR
      rcases hs a b hR with ⟨a', b', h1, h2, h3, h4⟩ | ⟨x, y, h1, h2, h3⟩
      · obtain ⟨x, y, g1, g2, g3⟩ := ih a' b' (by omega) h3
        exact ⟨x, y, by rw [iterN, h1]; exact g1, by rw [iterN, h2]; exact g2, g3⟩
      · exact ⟨x, y, by simp [iterN, h1], by simp [iterN, h2], h3⟩
  obtain ⟨x, y, h1, h2, h3⟩ := key (μ s1) s1 s2 (Nat.le_refl _) h0
  exact ⟨x, y, iterN_mono _ FUEL _ _ (by rw [FUEL_eq]; omega) h1, iterN_mono _ FUEL _ _ (by rw [FUEL_eq]; omega) h2, h3⟩
theorem fill_step {a b : Int} {k n : Nat} (h : k < n) : (List.replicate k a ++ List.replicate (n - k) b).set k a = List.replicate (k + 1) a ++ List.replicate (n - (k + 1)) b := by
  obtain ⟨m, hm⟩ : ∃ m, n - k = m + 1 := ⟨n - k - 1, by omega⟩
  rw [List.set_append, if_neg (by simp), List.length_replicate, Nat.sub_self, hm, List.replicate_succ, List.set_cons_zero, show n - (k + 1) = m by omega, List.replicate_succ', List.append_assoc]
  rfl
/-- A closed curve. -/
def Cyc (p : SPanel) (c : List SWalker) : Prop := ∃ w0 n, okW p w0 ∧ 1 ≤ n ∧ n ≤ 256 ∧ orb p w0 n = w0 ∧ c = (List.range n).map (orb p w0)
def ptsOf (c : List SWalker) : List SPoint := c.map (·.At)
structure Tr (p : SPanel) (cs : List (List SWalker)) (of : List Int) (k : Nat) : Prop where
  len : of.length = NS p
  clo : Clo p of
  own : ∀ j, j < k → 0 ≤ of.getD j 0
  val : ∀ j, of.getD j 0 < (cs.length : Int) ∨ (of.getD j 0 = 0 ∧ NS p ≤ j)
  few : cs.length ≤ k
  cyc : ∀ c ∈ cs, Cyc p c
theorem seg_n {p : SPanel} (hd : Dim p) : w64 (w64 (4 * p.W) * p.H) = (NS p : Int) := by
  have h1 := NS_eq hd
  have := hd.w1; have := hd.w2
  rw [w64_id (x := 4 * p.W) (by omega) (by omega), w64_id (by omega) (by omega), h1.1]

/-! mark_points -/
/-- The numbers that are laid into a result of places. -/
def marksP (m : Int) (n : Nat) : List SPoint := (List.range n).map fun (i : Nat) => ⟨m + 2 * (i : Int), m + 2 * (i : Int) + 1⟩
theorem marksP_length (m : Int) (n : Nat) : (marksP m n).length = n := by simp [marksP]
theorem marksP_get (m : Int) (n k : Nat) (h : k < n) : (marksP m n)[k]'(by rw [marksP_length]; exact h) = ⟨m + 2 * k, m + 2 * k + 1⟩ := by simp [marksP]
theorem marksP_succ (m : Int) (k : Nat) : marksP m (k + 1) = marksP m k ++ [⟨m + 2 * k, m + 2 * k + 1⟩] := by simp [marksP, List.range_succ]


/-! curves -/
theorem inB_dec (k n : Int) : (decide (0 ≤ k) && decide (k ≤ n - 1)) = decide (0 ≤ k ∧ k < n) := by
  by_cases h : 0 ≤ k ∧ k < n
  · rw [decide_eq_true h, decide_eq_true h.1, decide_eq_true (by omega)]; rfl
  · rw [decide_eq_false h]
    by_cases h1 : 0 ≤ k
    · rw [decide_eq_true h1, decide_eq_false (by omega)]; rfl
    · rw [decide_eq_false h1]; rfl
def unitB (u : Int) : Bool := decide (1 ≤ u) && decide (u ≤ 1000)
theorem l20Code_eq {p : SPanel} {ps : List (List SPoint)} {of : List Int} (hb : p.Breaks.length ≤ 1048576) (hp : panelB p = true) (ht : sh147 p = some (ps, of)) (hc : ps.length ≤ 256) (k u : Int) : sh99 p k u = some (if (0 ≤ k ∧ k < (ps.length : Int)) ∧ unitB u = true then (ps.getD k.toNat [], 0) else ([], 2)) := by
  unfold sh99 sh100
  rw [l02Ok_eq p hb, hp, bindS, ht]
  simp only [Bool.not_true, cond_false, bindS]
  rw [w64_id (x := ((ps.length : Nat) : Int) - 1) (by omega) (by omega), inB_dec]
  by_cases h : 0 ≤ k ∧ k < (ps.length : Int)
  · rw [decide_eq_true h]
    show Option.bind (bif !true then some true else some !(unitB u)) _ = _
    cases hu : unitB u
    · simp [bindS]
    · have hl : k.toNat < ps.length := by omega
      simp only [Bool.not_true, cond_false, bindS, getI_toNat h.1 hl]
      rw [if_pos ⟨h, by first | rfl | trivial⟩, List.getD_eq_getElem?_getD, List.getElem?_eq_getElem hl]
      rfl
  · rw [decide_eq_false h, if_neg (fun hh => h hh.1)]; rfl
theorem l20Code_bad {p : SPanel} (hb : p.Breaks.length ≤ 1048576) (hp : panelB p = false) (k u : Int) : sh99 p k u = some ([], 1) := by
  unfold sh99
  rw [l02Ok_eq p hb, hp, bindS]; rfl
def upt (u : Int) (a : SPoint) : SPoint := ⟨w64 (a.X * u), w64 (a.Y * u)⟩
theorem path_spec (u : Int) (x : List SPoint × Int) (h : x.1.length ≤ 256) : iter (sh15_1 u x) (0, []) = some (x.1.map (upt u)) := by
  have hi := iter_fold (sb := sh15_1 u x) x.1 (fun k (l : List SPoint) => ((k : Int), l)) (fun acc a => acc ++ [upt u a]) (fun l => l) (fun k l => l.length = k) [] rfl (by omega) (fun k hk l hI => ?_) (fun l _ => by
      have hd : decide ((x.1.length : Int) < (x.1.length : Int)) = false := by simp
      simp only [sh15_1, hd, cond_false])
  · have h1 := hi.1
    simp only [Int.natCast_zero] at h1
    rw [h1, foldl_snoc, List.nil_append]
  · have h2 : (k : Int) < x.1.length := by omega
    refine ⟨?_, by simp [hI]⟩
    simp only [sh15_1, h2, decide_true, cond_true, getI_lt hk, bindS]
    rw [appL_ok (by simp only [List.length_cons, List.length_nil]; omega), bindS, w64_id (by omega) (by omega)]
    rfl
theorem cyc_len {p : SPanel} {c : List SWalker} (h : Cyc p c) : 1 ≤ c.length ∧ c.length ≤ 256 := by
  obtain ⟨w0, n, _, h1, h2, _, rfl⟩ := h
  simp; omega
theorem getD_map_pts (cs : List (List SWalker)) (k : Nat) : (cs.map ptsOf).getD k [] = ptsOf (cs.getD k []) := by
  rw [List.getD_eq_getElem?_getD, List.getD_eq_getElem?_getD, List.getElem?_map]
  cases cs[k]? <;> rfl
theorem getD_mem3 {cs : List (List SWalker)} {k : Nat} (h : k < cs.length) : cs.getD k [] ∈ cs ∧ getI cs (k : Int) = some (cs.getD k []) := by
  rw [List.getD_eq_getElem?_getD, List.getElem?_eq_getElem h]
  exact ⟨List.getElem_mem h, getI_lt h⟩

/-! mark_pointss -/
theorem iter_done' {σ ρ : Type} {sb : σ → Option (σ ⊕ ρ)} {s : σ} {x : ρ} (h : sb s = some (.inr x)) : iter sb s = some x := iter_steps (fun _ => s) 0 (by omega) (fun k hk => by omega) h
def totP : List (List SPoint) → Nat
  | [] => 0
  | r :: rs => r.length + totP rs
theorem totP_snoc : ∀ (rs : List (List SPoint)) (r : List SPoint), totP (rs ++ [r]) = totP rs + r.length
  | [], r => by simp [totP]
  | x :: xs, r => by rw [List.cons_append, totP, totP, totP_snoc xs r]; omega
theorem totP_bound {B : Nat} : ∀ {rs : List (List SPoint)}, (∀ r ∈ rs, r.length ≤ B) → totP rs ≤ B * rs.length
  | [], _ => by simp [totP]
  | x :: xs, h => by
    have h1 := h x (List.mem_cons_self ..)
    have h2 := totP_bound (fun r hr => h r (List.mem_cons_of_mem _ hr))
    rw [totP, List.length_cons, Nat.mul_succ]; omega
theorem totP_take : ∀ (rs : List (List SPoint)) (k : Nat), totP (rs.take k) ≤ totP rs
  | [], k => by simp [totP]
  | x :: xs, 0 => by simp [totP]
  | x :: xs, k + 1 => by have := totP_take xs k; rw [List.take_succ_cons, totP, totP]; omega
def markSSP : Int → List (List SPoint) → List (List SPoint)
  | _, [] => []
  | m, r :: rs => marksP m r.length :: markSSP (m + 2 * r.length) rs
theorem markSSP_snoc : ∀ (m : Int) (rs : List (List SPoint)) (r : List SPoint), markSSP m (rs ++ [r]) = markSSP m rs ++ [marksP (m + 2 * totP rs) r.length]
  | m, [], r => by simp [markSSP, totP]
  | m, x :: xs, r => by
    rw [List.cons_append, markSSP, markSSP, markSSP_snoc _ xs r, List.cons_append, totP, show m + 2 * (x.length : Int) + 2 * (totP xs : Int) = m + 2 * ((x.length + totP xs : Nat) : Int) by omega]
theorem markSSP_length : ∀ (m : Int) (rs : List (List SPoint)), (markSSP m rs).length = rs.length
  | m, [] => rfl
  | m, x :: xs => by rw [markSSP, List.length_cons, List.length_cons, markSSP_length]
theorem markSSP_get : ∀ (m : Int) (rs : List (List SPoint)) (k : Nat) (h : k < rs.length), (markSSP m rs)[k]'(by rw [markSSP_length]; exact h) = marksP (m + 2 * totP (rs.take k)) rs[k].length
  | m, x :: xs, 0, h => by simp [markSSP, totP]
  | m, x :: xs, k + 1, h => by
    simp only [markSSP, List.getElem_cons_succ]
    rw [markSSP_get _ xs k (by simpa using h), List.take_succ_cons, totP]
    congr 1
    omega

/-! bandof -/
/-- The piece of a band at a segment. -/
def bandP (u h : Int) (a b : SPoint) : List SPoint :=
  [⟨w64 (w64 (a.X * u) + w64 (w64 (0 - h) * w64 (b.Y - a.Y))), w64 (w64 (a.Y * u) + w64 (h * w64 (b.X - a.X)))⟩,
   ⟨w64 (w64 (b.X * u) + w64 (w64 (0 - h) * w64 (b.Y - a.Y))), w64 (w64 (b.Y * u) + w64 (h * w64 (b.X - a.X)))⟩,
   ⟨w64 (w64 (b.X * u) - w64 (w64 (0 - h) * w64 (b.Y - a.Y))), w64 (w64 (b.Y * u) - w64 (h * w64 (b.X - a.X)))⟩,
   ⟨w64 (w64 (a.X * u) - w64 (w64 (0 - h) * w64 (b.Y - a.Y))), w64 (w64 (a.Y * u) - w64 (h * w64 (b.X - a.X)))⟩]
def bandF (u h : Int) (ps : List SPoint) : List (List SPoint) := (List.range ps.length).map fun i => bandP u h (ps.getD i ⟨0, 0⟩) (ps.getD ((i + 1) % ps.length) ⟨0, 0⟩)
theorem bandF_len (u h : Int) (ps : List SPoint) : (bandF u h ps).length = ps.length := by simp [bandF]
theorem bandF_get (u h : Int) (ps : List SPoint) (k : Nat) (hk : k < (bandF u h ps).length) : (bandF u h ps)[k] = bandP u h (ps.getD k ⟨0, 0⟩) (ps.getD ((k + 1) % ps.length) ⟨0, 0⟩) := by simp [bandF]
theorem getI_getD {xs : List SPoint} {k : Nat} (h : k < xs.length) : getI xs (k : Int) = some (xs.getD k ⟨0, 0⟩) := by
  rw [getI_lt h, List.getD_eq_getElem?_getD, List.getElem?_eq_getElem h]; rfl
theorem band_spec (u h : Int) (x : List SPoint × Int) (h1 : 1 ≤ x.1.length) (h2 : x.1.length ≤ 256) : iter (sh12_1 u h x) (0, []) = some (bandF u h x.1) := by
  have hi := iter_steps (sb := sh12_1 u h x) (fun k => ((k : Int), (bandF u h x.1).take k)) x.1.length (x := bandF u h x.1) (by omega) (fun k hk => ?_) ?_
  · simpa using hi
  · have hk2 : (k : Int) < x.1.length := by omega
    have hkb : k < (bandF u h x.1).length := by rw [bandF_len]; exact hk
    have hm : (w64 ((k : Int) + 1)).tmod (x.1.length : Int) = (((k + 1) % x.1.length : Nat) : Int) := by
      rw [w64_id (by omega) (by omega), Int.tmod_eq_emod_of_nonneg (by omega), Int.natCast_emod]; rfl
    simp only [sh12_1, hk2, decide_true, cond_true, getI_getD hk, bindS, nzI_ok (show (x.1.length : Int) ≠ 0 by omega), hm, getI_getD (Nat.mod_lt (k + 1) (show 0 < x.1.length by omega))]
    rw [appL_ok (by simp only [List.length_take, List.length_cons, List.length_nil]; omega), bindS, w64_id (x := (k : Int) + 1) (by omega) (by omega), List.take_succ_eq_append_getElem hkb, bandF_get]
    rfl
  · have hd : decide ((x.1.length : Int) < (x.1.length : Int)) = false := by simp
    simp only [sh12_1, hd, cond_false]
    rw [List.take_of_length_le (by rw [bandF_len]; exact Nat.le_refl _)]
theorem cyc_next {p : SPanel} (hd : Dim p) {c : List SWalker} (hc : Cyc p c) (k : Nat) (hk : k < c.length) : okW p c[k] ∧ (ptsOf c).getD k ⟨0, 0⟩ = c[k].At ∧ (ptsOf c).getD ((k + 1) % c.length) ⟨0, 0⟩ = ⟨c[k].At.X + c[k].DX, c[k].At.Y + c[k].DY⟩ := by
  obtain ⟨w0, n, h0, h1, h2, h3, rfl⟩ := hc
  have hkn : k < n := by simpa using hk
  have hg : ((List.range n).map (orb p w0))[k] = orb p w0 k := by simp
  have hp : ∀ j, j < n → (ptsOf ((List.range n).map (orb p w0))).getD j ⟨0, 0⟩ = (orb p w0 j).At := fun j hj => by
    simp [ptsOf, List.getD_eq_getElem?_getD, hj]
  have hl : ((List.range n).map (orb p w0)).length = n := by simp
  rw [hg, hl, hp k hkn, hp _ (Nat.mod_lt _ (by omega))]
  refine ⟨orb_ok hd h0 k, rfl, ?_⟩
  by_cases hk1 : k + 1 = n
  · rw [hk1, Nat.mod_self]
    have e : orb p w0 0 = orb p w0 (k + 1) := by rw [hk1, h3]; rfl
    rw [e]; rfl
  · rw [Nat.mod_eq_of_lt (by omega)]; rfl
theorem band_rows (u h : Int) (ps : List SPoint) : ∀ r ∈ bandF u h ps, r.length ≤ 4 := by
  intro r hr
  simp only [bandF, List.mem_map] at hr
  obtain ⟨i, _, rfl⟩ := hr
  exact Nat.le_refl _

/-! trace_spec -/
/-- A run of segments that are free comes to an end. -/
theorem curve_run {p : SPanel} {w0 : SWalker} {of : List Int} (hd : Dim p) (h : okW p w0) (hl : of.length = NS p) (c : Int) (hc : 0 ≤ c) (hf : of.getD (sgF p w0).toNat 0 < 0) :
    ∃ n, 1 ≤ n ∧ n ≤ 256 ∧ Run p w0 c of n ∧ 0 ≤ (ofN p w0 c of n).getD (sgF p (orb p w0 n)).toNat 0 := by
  have hN := NS_eq hd
  have hng := negs_le of
  have key : ∀ m i, negs (ofN p w0 c of i) ≤ m → Run p w0 c of i → i + negs (ofN p w0 c of i) = negs of → ∃ n, i ≤ n ∧ n ≤ 256 ∧ Run p w0 c of n ∧ 0 ≤ (ofN p w0 c of n).getD (sgF p (orb p w0 n)).toNat 0 := by
    intro m
    induction m with
    | zero =>
      intro i hm hr hn
      refine ⟨i, Nat.le_refl _, by omega, hr, ?_⟩
      by_cases hneg : (ofN p w0 c of i).getD (sgF p (orb p w0 i)).toNat 0 < 0
      · have hok := orb_ok hd h i
        have hset := negs_set (c := c) (by rw [ofN_length, hl]; exact (sg_lt hd hok).1) hneg hc
        omega
      · omega
    | succ m ih =>
      intro i hm hr hn
      by_cases hneg : (ofN p w0 c of i).getD (sgF p (orb p w0 i)).toNat 0 < 0
      · have hok := orb_ok hd h i
        have hset := negs_set (c := c) (by rw [ofN_length, hl]; exact (sg_lt hd hok).1) hneg hc
        obtain ⟨n, h1, h2, h3, h4⟩ := ih (i + 1) (by rw [ofN]; omega) (fun j hj => by
          by_cases hji : j = i
          · subst hji; exact hneg
          · exact hr j (by omega)) (by rw [ofN]; omega)
        exact ⟨n, by omega, h2, h3, h4⟩
      · exact ⟨i, Nat.le_refl _, by omega, hr, by omega⟩
  obtain ⟨n, _, h2, h3, h4⟩ := key (negs of) 0 (by simp [ofN]) (fun j hj => by omega) (by simp [ofN])
  refine ⟨n, ?_, h2, h3, h4⟩
  rcases Nat.eq_zero_or_pos n with h0 | h0
  · subst h0
    exfalso
    have : 0 ≤ of.getD (sgF p w0).toNat 0 := h4
    omega
  · exact h0
theorem trace_body_spec {p : SPanel} (hd : Dim p) (cs : List (List SWalker)) (of : List Int) (k : Nat) (hk : k < NS p) (ht : Tr p cs of k) : ∃ cs' of', Tr p cs' of' (k + 1) ∧
    sh147_2 p ((k : Int), of, cs.map ptsOf) = some (.inl (((k + 1 : Nat) : Int), of', cs'.map ptsOf)) := by
  obtain ⟨tl, tc, to, tv, tf, ty⟩ := ht
  have hN := NS_eq hd
  have hkl : k < of.length := by omega
  have hw : w64 ((k : Int) + 1) = ((k + 1 : Nat) : Int) := by rw [w64_id (by omega) (by omega)]; omega
  have hkd : decide ((k : Int) < (NS p : Int)) = true := decide_eq_true (by omega)
  have hgd : of.getD k 0 = of[k] := by rw [List.getD_eq_getElem?_getD, List.getElem?_eq_getElem hkl]; rfl
  simp only [sh147_2, seg_n hd, hkd, cond_true, getI_lt hkl, bindS, hw]
  by_cases hneg : 0 ≤ of[k]
  · rw [decide_eq_true hneg]
    refine ⟨cs, of, ⟨tl, tc, fun j hj => ?_, tv, by omega, ty⟩, rfl⟩
    by_cases hjk : j = k
    · subst hjk; rw [hgd]; exact hneg
    · exact to j (by omega)
  · rw [decide_eq_false hneg]
    obtain ⟨wok, wsg⟩ := wlk_ok hd (k := (k : Int)) (by omega) (by omega)
    obtain ⟨n, n1, n2, nr, ns⟩ := curve_run hd wok tl (cs.length : Int) (by omega) (by rw [wsg, Int.toNat_natCast, hgd]; omega)
    obtain ⟨np, na⟩ := period hd wok tl (by omega) tc n1 nr ns
    simp only [cond_false]
    rw [walker_spec hd (by omega) (by omega), bindS, curve_spec hd wok n1 n2 np na, bindS]
    have hss := set_spec hd wok tl (cs.map ptsOf) ((List.range n).map (fun i => (orb p (wlk p k) i).At)) n n2
    rw [List.length_map] at hss
    rw [hss, bindS, appL_ok (by simp only [List.length_map, List.length_cons, List.length_nil]; omega), bindS]
    refine ⟨cs ++ [(List.range n).map (orb p (wlk p k))], ofN p (wlk p k) (cs.length : Int) of n, ⟨by rw [ofN_length, tl], clo_next hd wok tl (by omega) tc n1 np, fun j hj => ?_, fun j => ?_, by simp only [List.length_append, List.length_cons, List.length_nil]; omega, fun c hc => ?_⟩, ?_⟩
    · by_cases hjk : j = k
      · subst hjk
        have := ofN_hit (c := (cs.length : Int)) hd wok tl n 0 (by omega)
        rw [show orb p (wlk p j) 0 = wlk p j from rfl, wsg, Int.toNat_natCast] at this
        omega
      · exact ofN_mono hd wok tl (by omega) n j (to j (by omega))
    · simp only [List.length_append, List.length_cons, List.length_nil]
      by_cases hit : ∃ m, m < n ∧ (sgF p (orb p (wlk p k) m)).toNat = j
      · obtain ⟨m, hm, he⟩ := hit
        have := ofN_hit (c := (cs.length : Int)) hd wok tl n m hm
        rw [he] at this
        left; omega
      · rw [ofN_old hd wok tl n j (fun m hm e => hit ⟨m, hm, e⟩)]
        rcases tv j with h | h
        · left; omega
        · right; exact h
    · rcases List.mem_append.1 hc with hc | hc
      · exact ty c hc
      · simp only [List.mem_cons, List.not_mem_nil, or_false] at hc
        exact ⟨wlk p k, n, wok, n1, n2, np, hc⟩
    · simp only [List.map_append, List.map_cons, List.map_nil, ptsOf, List.map_map]
      rfl
theorem trace_spec_eq (p : SPanel) (hd : Dim p) : ∃ (cs : List (List SWalker)) (of : List Int), sh147 p = some (cs.map ptsOf, of) ∧ Tr p cs of (NS p) := by
  have hN := NS_eq hd
  have hmk : mkL (NS p : Int) (0 : Int) = some (List.replicate (NS p) 0) := mkL_ok (by omega)
  have e2 : iter (sh147_1 p) (0, List.replicate (NS p) 0) = some (List.replicate (NS p) (-1)) := by
    have := iter_steps (sb := sh147_1 p) (fun k => ((k : Int), List.replicate k (-1) ++ List.replicate (NS p - k) 0)) (NS p) (x := List.replicate (NS p) (-1)) (by omega) (fun k hk => ?_) ?_
    · simpa using this
    · have hl : k < (List.replicate k (-1 : Int) ++ List.replicate (NS p - k) 0).length := by simp; omega
      have hd1 : decide ((k : Int) < (NS p : Int)) = true := decide_eq_true (by omega)
      simp only [sh147_1, seg_n hd, hd1, cond_true, getI_lt hl, bindS, Int.toNat_natCast]
      rw [w64_id (by omega) (by omega), fill_step hk]
      rfl
    · have hd1 : decide (((NS p : Nat) : Int) < (NS p : Int)) = false := decide_eq_false (by omega)
      simp only [sh147_1, seg_n hd, hd1, cond_false]
      simp
  have hneg : ∀ j, (List.replicate (NS p) (-1 : Int)).getD j 0 = if j < NS p then -1 else 0 := by
    intro j
    rw [List.getD_eq_getElem?_getD, List.getElem?_replicate]
    split <;> rfl
  have h0 : Tr p [] (List.replicate (NS p) (-1)) 0 := ⟨by simp, fun w hw hg => by rw [hneg, if_pos (sg_lt hd hw).1] at hg; omega, fun j hj => by omega, fun j => by rw [hneg]; split <;> simp; omega, by simp, by simp⟩
  obtain ⟨y, hy, cs, of, rfl, ht⟩ := iter_inv (sb := sh147_2 p) (fun b => ∃ (k : Nat) (cs : List (List SWalker)) (of : List Int), b = ((k : Int), of, cs.map ptsOf) ∧ k ≤ NS p ∧ Tr p cs of k)
    (fun a => NS p - a.1.toNat) (fun y => ∃ (cs : List (List SWalker)) (of : List Int), y = (of, cs.map ptsOf) ∧ Tr p cs of (NS p)) (s0 := (0, List.replicate (NS p) (-1), [])) ⟨0, [], _, rfl, by omega, h0⟩ (by simp only; omega) (by
    rintro b ⟨k, cs, of, rfl, hk, ht⟩
    by_cases hk2 : k < NS p
    · left
      obtain ⟨cs', of', h1, h3⟩ := trace_body_spec hd cs of k hk2 ht
      exact ⟨_, h3, ⟨k + 1, cs', of', rfl, by omega, h1⟩, by simp only [Int.toNat_natCast]; omega⟩
    · right
      have hkn : k = NS p := by omega
      subst hkn
      have hd1 : decide (((NS p : Nat) : Int) < (NS p : Int)) = false := decide_eq_false (by omega)
      simp only [sh147_2, seg_n hd, hd1, cond_false]
      exact ⟨_, rfl, cs, of, rfl, ht⟩)
  refine ⟨cs, of, ?_, ht⟩
  unfold sh147
  rw [seg_n hd, hmk, bindS, e2, bindS, hy, bindS]

/-! draw20 -/
theorem one_ok' (q : Sl00Src) (n : Int) (hc : srcB q.code) (h0 : 0 ≤ q.at_) (h1 : q.at_ ≤ 2305843009213693952) :
    ∃ b a s, sh93 q n = some (b, a, s) ∧ 0 ≤ a ∧ a ≤ q.at_ + 2 := by
  obtain ⟨x, e, a0, a1⟩ := one_ok q n hc h0 h1
  exact ⟨x.1, x.2.1, x.2.2, e, a0, a1⟩
theorem bandP_len (u h : Int) (a b : SPoint) : (bandP u h a b).length = 4 := rfl
theorem ptR_upt (u : Int) (a : SPoint) : ptR (upt u a) := ⟨i64R_w64 _, i64R_w64 _⟩
/-- A curve of a valid panel, for a drawn number. -/
theorem curve_ok (p : SPanel) (hp : panelB p = true) : ∃ (cs : List (List SWalker)) (of : List Int), sh147 p = some (cs.map ptsOf, of) ∧ 1 ≤ cs.length ∧ cs.length ≤ 256 ∧ ∀ c ∈ cs, Cyc p c := by
  have hd := dim_of hp
  obtain ⟨cs, of, h2, h3⟩ := trace_spec_eq p hd
  have hN := NS_eq hd
  have hf := h3.few
  have h0 := h3.own 0 (by omega)
  refine ⟨cs, of, h2, ?_, by omega, h3.cyc⟩
  rcases h3.val 0 with h | h
  · omega
  · omega
theorem curvePath_val (p : SPanel) (hp : panelB p = true) {cs : List (List SWalker)} {of : List Int} (ht : sh147 p = some (cs.map ptsOf, of)) (hl : cs.length ≤ 256) (hcy : ∀ c ∈ cs, Cyc p c) (k u : Int) (hk : 0 ≤ k ∧ k < (cs.length : Int)) (hu : unitB u = true) :
    sh15 p k u = some ((ptsOf (cs.getD k.toNat [])).map (upt u), 0) := by
  have hb := (panelB_facts hp).2.2.2.2
  unfold sh15
  rw [l20Code_eq (by omega) hp ht (by rw [List.length_map]; exact hl), bindS, List.length_map, if_pos ⟨hk, hu⟩]
  have hm := getD_mem3 (cs := cs) (k := k.toNat) (by omega)
  have hcl := cyc_len (hcy _ hm.1)
  have hpl : (ptsOf (cs.getD k.toNat [])).length ≤ 256 := by unfold ptsOf; rw [List.length_map]; exact hcl.2
  rw [getD_map_pts]
  show Option.bind (iter (sh15_1 u (ptsOf (cs.getD k.toNat []), 0)) (0, [])) _ = _
  rw [path_spec u (ptsOf (cs.getD k.toNat []), 0) hpl]
  rfl
theorem bandOf_val (p : SPanel) (hp : panelB p = true) {cs : List (List SWalker)} {of : List Int} (ht : sh147 p = some (cs.map ptsOf, of)) (hl : cs.length ≤ 256) (hcy : ∀ c ∈ cs, Cyc p c) (k u h : Int) (hk : 0 ≤ k ∧ k < (cs.length : Int)) (hu : unitB u = true) (hh : unitB h = true) (hw : decide (u < w64 (2 * h)) = false) :
    sh12 p k u h = some (bandF u h (ptsOf (cs.getD k.toNat [])), 0) := by
  have hb := (panelB_facts hp).2.2.2.2
  unfold sh12
  rw [l20Code_eq (by omega) hp ht (by rw [List.length_map]; exact hl), bindS, List.length_map, if_pos ⟨hk, hu⟩]
  have hm := getD_mem3 (cs := cs) (k := k.toNat) (by omega)
  have hcl := cyc_len (hcy _ hm.1)
  have el : sh100 h 1 1000 = some (unitB h) := rfl
  rw [el, hh, getD_map_pts]
  simp only [beq_self_eq_true, cond_true, Bool.not_true, cond_false, bindS, Bool.true_and, hw, bne_self_eq_false]
  rw [band_spec u h _ (by simp only [ptsOf, List.length_map]; exact hcl.1) (by simp only [ptsOf, List.length_map]; exact hcl.2)]
  rfl
theorem cyc_two {p : SPanel} {c : List SWalker} (h : Cyc p c) : 2 ≤ c.length := by
  obtain ⟨w0, n, h1, h2, h3, h4, rfl⟩ := h
  rw [List.length_map, List.length_range]
  rcases Nat.lt_or_ge n 2 with h | h
  · exfalso
    have : n = 1 := by omega
    subst this
    have e : (stp p w0).At.X = w0.At.X := by
      have h5 : stp p w0 = w0 := h4
      rw [h5]
    have e2 : (stp p w0).At.X = w0.At.X + w0.DX := rfl
    have := h1.1
    omega
  · exact h
theorem upt_ok {p : SPanel} (hp : panelB p = true) {c : List SWalker} (hc : Cyc p c) : 2 ≤ (ptsOf c).length ∧ (ptsOf c).length ≤ 256 := by
  have h1 := cyc_len hc
  have h2 := cyc_two hc
  unfold ptsOf
  rw [List.length_map]; omega
theorem bandF_pt (u h : Int) (ps : List SPoint) : ∀ r ∈ bandF u h ps, r.length = 4 ∧ ∀ x ∈ r, ptR x := by
  intro r hr
  unfold bandF at hr
  rw [List.mem_map] at hr
  obtain ⟨i, _, rfl⟩ := hr
  refine ⟨rfl, fun x hx => ?_⟩
  unfold bandP at hx
  simp only [List.mem_cons, List.not_mem_nil, or_false] at hx
  rcases hx with h | h | h | h <;> rw [h] <;> exact ⟨i64R_w64 _, i64R_w64 _⟩
/-- A drawn polygon. -/
theorem draw20_ok (q : Sl00Src) (hc : srcB q.code) (h0 : 0 ≤ q.at_) (h1 : q.at_ ≤ 549755813888) :
    ∃ r, sh172 q = some r ∧ (2 ≤ r.1.length ∧ r.1.length ≤ 256) ∧ (∀ p ∈ r.1, ptR p) ∧ 0 ≤ r.2.1 ∧ r.2.1 ≤ q.at_ + 1100 := by
  unfold sh172
  obtain ⟨b1, a, s, e1, a1, c1⟩ := one_ok' q 2 hc h0 (by omega)
  rw [e1, bindS]
  cases b1
  · simp only [cond_false]
    obtain ⟨x, e, b, a2, c2⟩ := pick_ok ⟨q.code, a, s⟩ 5 hc a1 (by simp only; omega)
    simp only at c2
    rw [e, bindS, w64_id (by omega) (by omega)]
    have hi := iter_inv (sb := sh172_1 q) (s0 := (3 + x.1, (x.2.1, x.2.2), [])) (fun s => 0 ≤ s.1 ∧ s.1 + (s.2.2.length : Int) = 3 + x.1 ∧ (∀ p ∈ s.2.2, ptR p) ∧ 0 ≤ s.2.1.1 ∧ s.2.1.1 ≤ q.at_ + 4 + 4 * (8 - s.1)) (fun s => s.1.toNat)
      (fun s => (s.2.length : Int) = 3 + x.1 ∧ (∀ p ∈ s.2, ptR p) ∧ 0 ≤ s.1.1 ∧ s.1.1 ≤ q.at_ + 40) ⟨by simp only; omega, by simp, by simp, a2, by simp only; omega⟩ (by simp only; omega) (by
      rintro ⟨k, ⟨a3, s3⟩, l⟩ ⟨i1, i2, i3, i4, i5⟩
      simp only at i1 i2 i3 i4 i5
      by_cases hk : 0 < k
      · left
        simp only [sh172_1, hk, decide_true, cond_true]
        obtain ⟨y, g, n1, m, n⟩ := pick_ok ⟨q.code, a3, s3⟩ 21 hc i4 (by simp only; omega)
        simp only at n
        obtain ⟨z, g2, n3, m2, n4⟩ := pick_ok ⟨q.code, y.2.1, y.2.2⟩ 21 hc m (by simp only; omega)
        simp only at n4
        rw [g, bindS, g2, bindS, appL_ok (by simp only [List.length_cons, List.length_nil]; omega), bindS, w64_id (x := k - 1) (by omega) (by omega)]
        refine ⟨_, rfl, ⟨by simp only; omega, by simp only [List.length_append, List.length_cons, List.length_nil]; omega, fun p hp => ?_, m2, by simp only; omega⟩, by simp only; omega⟩
        rcases List.mem_append.1 hp with h | h
        · exact i3 p h
        · simp at h
          rw [h]; exact ⟨i64R_w64 _, i64R_w64 _⟩
      · right
        simp only [sh172_1, hk, decide_false, cond_false]
        exact ⟨_, rfl, by simp only; omega, i3, i4, by simp only; omega⟩)
    obtain ⟨r, hr, d1, d2, d3, d4⟩ := hi
    rw [hr, bindS]
    exact ⟨_, rfl, ⟨by simp only; omega, by simp only; omega⟩, d2, d3, by simp only; omega⟩
  · simp only [cond_true]
    obtain ⟨x2, e2, p2, _, a2, c2⟩ := draw02_ok ⟨q.code, a, s⟩ 3 (by omega) hc a1 (by simp only; omega)
    simp only at c2
    obtain ⟨cs, of, ht, l1, l2, hcy⟩ := curve_ok x2.1 p2
    rw [e2, bindS, ht, bindS]
    obtain ⟨x18, e18, b18, a18, c18⟩ := pick_ok ⟨q.code, x2.2.1, x2.2.2⟩ (((cs.map ptsOf).length : Nat) : Int) hc a2 (by simp only; omega)
    simp only at c18
    rw [List.length_map] at b18 e18
    simp only [List.length_map]
    rw [e18, bindS]
    have hk : 0 ≤ x18.1 ∧ x18.1 < (cs.length : Int) := ⟨b18.1, by omega⟩
    obtain ⟨b19, a19, s19, e19, f19, c19⟩ := one_ok' ⟨q.code, x18.2.1, x18.2.2⟩ 2 hc a18 (by simp only; omega)
    simp only at c19
    have hm := getD_mem3 (cs := cs) (k := x18.1.toNat) (by omega)
    have hcl := upt_ok p2 (hcy _ hm.1)
    rw [e19, bindS]
    cases b19
    · simp only [cond_false]
      rw [curvePath_val x2.1 p2 ht l2 hcy x18.1 4 hk rfl, bindS]
      refine ⟨_, rfl, ⟨by simp only [List.length_map]; omega, by simp only [List.length_map]; omega⟩, fun p hp => ?_, f19, by simp only; omega⟩
      simp only [List.mem_map] at hp
      obtain ⟨z, _, rfl⟩ := hp
      exact ptR_upt _ _
    · simp only [cond_true]
      rw [bandOf_val x2.1 p2 ht l2 hcy x18.1 10 3 hk rfl rfl rfl, bindS]
      have hbl : (bandF 10 3 (ptsOf (cs.getD x18.1.toNat []))).length = (ptsOf (cs.getD x18.1.toNat [])).length := bandF_len _ _ _
      obtain ⟨y, g, n1, m, n⟩ := pick_ok ⟨q.code, a19, s19⟩ (((bandF 10 3 (ptsOf (cs.getD x18.1.toNat []))).length : Nat) : Int) hc f19 (by simp only; omega)
      simp only at n
      have hy : y.1.toNat < (bandF 10 3 (ptsOf (cs.getD x18.1.toNat []))).length := by
        rcases n1.2 with h | h
        · omega
        · omega
      rw [g, bindS, getI_toNat n1.1 hy, bindS]
      have hf := bandF_pt 10 3 (ptsOf (cs.getD x18.1.toNat [])) _ (List.getElem_mem (show y.1.toNat < (bandF 10 3 (ptsOf (cs.getD x18.1.toNat []))).length by omega))
      have h4 := hf.1
      generalize (bandF 10 3 (ptsOf (cs.getD x18.1.toNat [])))[y.1.toNat] = z at hf h4
      exact ⟨_, rfl, ⟨by simp only [h4]; decide, by simp only [h4]; decide⟩, hf.2, m, by simp only; omega⟩
theorem bent20_ok (q : Sl00Src) (hc : srcB q.code) (h0 : 0 ≤ q.at_) (h1 : q.at_ ≤ 274877906944) :
    ∃ r, sh108 q = some r ∧ r.1.length ≤ 301 ∧ (∀ p ∈ r.1, ptR p) ∧ 0 ≤ r.2.1 ∧ r.2.1 ≤ q.at_ + 1200 := by
  unfold sh108
  obtain ⟨x1, e1, b1, d1, a1, c1⟩ := draw20_ok q hc h0 (by omega)
  rw [e1, bindS]
  obtain ⟨x5, e5, b5, a5, c5⟩ := pick_ok ⟨q.code, x1.2.1, x1.2.2⟩ 20 hc a1 (by simp only; omega)
  rw [e5, bindS]
  simp only at c5
  have hg : getI x1.1 (0 : Int) = some x1.1[0] := getI_lt (k := 0) (by omega)
  have hp0 := d1 _ (List.getElem_mem (show 0 < x1.1.length by omega))
  cases x5.1 == 0
  · rw [cond_false]
    cases x5.1 == 1
    · rw [cond_false]
      cases x5.1 == 2
      · rw [cond_false]
        exact ⟨_, rfl, by simp only; omega, d1, a5, by simp only; omega⟩
      · rw [cond_true]
        obtain ⟨y, g, n1, m, n⟩ := pick_ok ⟨q.code, x5.2.1, x5.2.2⟩ 2 hc a5 (by simp only; omega)
        simp only at n
        have hw : w64 (300 + y.1) = ((300 + y.1.toNat : Nat) : Int) := by rw [w64_id (by omega) (by omega)]; omega
        rw [g, bindS, hw, mkL_ok (by omega), bindS]
        refine ⟨_, rfl, by simp only [List.length_replicate]; omega, fun p hp => ?_, m, by simp only; omega⟩
        rw [List.eq_of_mem_replicate hp]
        exact ⟨i64R_small (by decide) (by decide), i64R_small (by decide) (by decide)⟩
    · rw [cond_true]
      have ht : takeL x1.1 2 = some (x1.1.take 2) := by unfold takeL; rw [if_pos (by omega)]; rfl
      rw [ht, bindS]
      exact ⟨_, rfl, by simp only [List.length_take]; omega, fun p hp => d1 p (List.mem_of_mem_take hp), a5, by simp only; omega⟩
  · rw [cond_true]
    obtain ⟨y, g, n1, m, n⟩ := among_ok ⟨q.code, x5.2.1, x5.2.2⟩ [(-100001), (-100000), 100000, 100001, (-9223372036854775808)] hc a5 (by simp only; omega) (by simp)
    simp only at n
    rw [g, bindS, hg, bindS]
    refine ⟨_, rfl, by simp only [List.length_set]; omega, ptR_set d1 ⟨show i64R y.1 from ?_, hp0.2⟩, m, by simp only; omega⟩
    simp only [List.mem_cons, List.not_mem_nil, or_false] at n1
    unfold i64R
    rcases n1 with h | h | h | h | h <;> rw [h] <;> decide

/-! inpolygon -/
/-- Two loops of which one says the other's result in other words. -/
theorem iterN_mapR {σ ρ ρ' : Type} {sb1 : σ → Option (σ ⊕ ρ)} {sb2 : σ → Option (σ ⊕ ρ')} (φ : ρ → ρ') (hs : ∀ s, sb2 s = (sb1 s).map (Sum.map id φ)) : ∀ (n : Nat) (s : σ), iterN sb2 n s = (iterN sb1 n s).map φ
  | 0, _ => rfl
  | n + 1, s => by
    simp only [iterN, hs s]
    cases hb : sb1 s with
    | none => rfl
    | some o =>
      cases o with
      | inl s' => exact iterN_mapR φ hs n s'
      | inr x => rfl
theorem iter_mapR {σ ρ ρ' : Type} {sb1 : σ → Option (σ ⊕ ρ)} {sb2 : σ → Option (σ ⊕ ρ')} (φ : ρ → ρ') (hs : ∀ s, sb2 s = (sb1 s).map (Sum.map id φ)) (s : σ) : iter sb2 s = (iter sb1 s).map φ := iterN_mapR φ hs FUEL s
def inPh : Int ⊕ Int → Int ⊕ (Int × Int)
  | .inl x => .inl x
  | .inr x => .inr (x, 0)
def onB (a b p : SPoint) : Bool := (sideP a b p == 0) && ((decide (mn a.X b.X ≤ p.X) && decide (p.X ≤ mx a.X b.X)) && (decide (mn a.Y b.Y ≤ p.Y) && decide (p.Y ≤ mx a.Y b.Y)))
theorem l20On_eq (a b p : SPoint) : sh180 a b p = some (onB a b p) := by
  unfold sh180 onB sh100
  simp only [cross_eq, l00Min_eq, l00Max_eq, bindS]
  cases (sideP a b p == 0)
  · rfl
  · cases (decide (mn a.X b.X ≤ p.X) && decide (p.X ≤ mx a.X b.X)) <;> rfl
theorem mn_alt (a b : Int) : (if b < a then b else a) = mn a b := by unfold mn; split <;> (try split) <;> omega
theorem mx_alt (a b : Int) : (if a < b then b else a) = mx a b := by unfold mx; split <;> (try split) <;> omega
theorem inPoly_round (q : List SPoint) (p : SPoint) (s : Int × Int) : sh20_1 q p s = (sh111_1 q p s).map (Sum.map id inPh) := by
  obtain ⟨x, i⟩ := s
  simp only [sh20_1, sh111_1, side_eq, cross_eq, l20On_eq, sh107, mn_alt, mx_alt]
  cases decide (i < (q.length : Int))
  · rfl
  · simp only [cond_true]
    cases getI q i with
    | none => rfl
    | some a =>
      simp only [bindS]
      cases nzI (q.length : Int) with
      | none => rfl
      | some _ =>
        simp only [bindS]
        cases getI q ((w64 (i + 1)).tmod (q.length : Int)) with
        | none => rfl
        | some b =>
          simp only [bindS]
          unfold onB
          cases (sideP a b p == 0)
          · simp only [Bool.false_and, cond_false, bindS]
            cases decide (b.Y < a.Y) <;> simp only [cond_false, cond_true, bindS]
            · cases (decide (a.Y ≤ p.Y) && decide (p.Y < b.Y)) <;> simp only [cond_false, cond_true, bindS]
              · rfl
              · cases decide (0 < sideP a b p) <;> rfl
            · cases (decide (b.Y ≤ p.Y) && decide (p.Y < a.Y)) <;> simp only [cond_false, cond_true, bindS]
              · rfl
              · cases decide (0 < sideP b a p) <;> rfl
          · cases (decide (mn a.X b.X ≤ p.X) && decide (p.X ≤ mx a.X b.X))
            · simp only [Bool.false_and, Bool.and_false, cond_false, cond_true, bindS]
              cases decide (b.Y < a.Y) <;> simp only [cond_false, cond_true, bindS]
              · cases (decide (a.Y ≤ p.Y) && decide (p.Y < b.Y)) <;> simp only [cond_false, cond_true, bindS]
                · rfl
                · cases decide (0 < sideP a b p) <;> rfl
              · cases (decide (b.Y ≤ p.Y) && decide (p.Y < a.Y)) <;> simp only [cond_false, cond_true, bindS]
                · rfl
                · cases decide (0 < sideP b a p) <;> rfl
            · cases (decide (mn a.Y b.Y ≤ p.Y) && decide (p.Y ≤ mx a.Y b.Y))
              · simp only [Bool.and_self, Bool.and_false, cond_false, cond_true, bindS]
                cases decide (b.Y < a.Y) <;> simp only [cond_false, cond_true, bindS]
                · cases (decide (a.Y ≤ p.Y) && decide (p.Y < b.Y)) <;> simp only [cond_false, cond_true, bindS]
                  · rfl
                  · cases decide (0 < sideP a b p) <;> rfl
                · cases (decide (b.Y ≤ p.Y) && decide (p.Y < a.Y)) <;> simp only [cond_false, cond_true, bindS]
                  · rfl
                  · cases decide (0 < sideP b a p) <;> rfl
              · rfl
theorem inPoly_loop (q : List SPoint) (p : SPoint) (h : 3 ≤ q.length) (hl : q.length ≤ 300) : ∃ y, iter (sh111_1 q p) (0, 0) = some y := by
  obtain ⟨y, h1, _⟩ := iter_inv (sb := sh111_1 q p) (fun (s : Int × Int) => 0 ≤ s.2 ∧ s.2 ≤ q.length) (fun s => (q.length - s.2).toNat) (fun (_ : Int ⊕ Int) => True) (s0 := (0, 0)) (by simp) (by simp only; omega) (by
    rintro ⟨x, i⟩ ⟨h2, h3⟩
    simp only at h2 h3
    by_cases hi : i < q.length
    · obtain ⟨k, rfl⟩ : ∃ k : Nat, i = k := ⟨i.toNat, by omega⟩
      have hk : k < q.length := by omega
      simp only [sh111_1, hi, decide_true, cond_true, getI_lt hk, bindS, (next_eq hk hl).1, nzI_ok (show (q.length : Int) ≠ 0 by omega), l20On_eq, cross_eq]
      cases onB q[k] (nextP q k) p
      · left
        simp only [cond_false]
        cases decide ((nextP q k).Y < q[k].Y) <;> simp only [cond_false, cond_true, bindS]
        · cases (decide (q[k].Y ≤ p.Y) && decide (p.Y < (nextP q k).Y)) <;> simp only [cond_false, cond_true, bindS]
          · rw [w64_id (x := (k : Int) + 1) (by omega) (by omega)]
            exact ⟨_, rfl, ⟨by simp only; omega, by simp only; omega⟩, by simp only; omega⟩
          · cases decide (0 < sideP q[k] (nextP q k) p) <;> simp only [cond_false, cond_true, bindS] <;> rw [w64_id (x := (k : Int) + 1) (by omega) (by omega)] <;> exact ⟨_, rfl, ⟨by simp only; omega, by simp only; omega⟩, by simp only; omega⟩
        · cases (decide ((nextP q k).Y ≤ p.Y) && decide (p.Y < q[k].Y)) <;> simp only [cond_false, cond_true, bindS]
          · rw [w64_id (x := (k : Int) + 1) (by omega) (by omega)]
            exact ⟨_, rfl, ⟨by simp only; omega, by simp only; omega⟩, by simp only; omega⟩
          · cases decide (0 < sideP (nextP q k) q[k] p) <;> simp only [cond_false, cond_true, bindS] <;> rw [w64_id (x := (k : Int) + 1) (by omega) (by omega)] <;> exact ⟨_, rfl, ⟨by simp only; omega, by simp only; omega⟩, by simp only; omega⟩
      · right
        exact ⟨_, rfl, trivial⟩
    · right
      have hd : decide (i < (q.length : Int)) = false := decide_eq_false hi
      simp only [sh111_1, hd, cond_false]
      exact ⟨_, rfl, trivial⟩)
  exact ⟨y, h1⟩
theorem inPolygon_total (q : List SPoint) (p : SPoint) (h : q.length ≤ 1048576) : ∃ r, sh25 q p = some r ∧ sh20 q p = some r := by
  unfold sh25 sh20
  rw [l20Ok_eq q h, isPolygon_eq q h]
  simp only [bindS, isCorner_eq, sh100]
  cases hp : polyB q
  · exact ⟨_, rfl, rfl⟩
  · have hl := polyB_len hp
    have ec2 : (bif !(decide (-100000 ≤ p.X) && decide (p.X ≤ 100000)) then (some true) else some !(decide (-100000 ≤ p.Y) && decide (p.Y ≤ 100000))) = some (!cornerB p) := by
      unfold cornerB
      cases decide (-100000 ≤ p.X) && decide (p.X ≤ 100000) <;> rfl
    simp only [Bool.not_true, cond_false, ec2, bindS]
    cases cornerB p
    · exact ⟨_, rfl, rfl⟩
    · obtain ⟨y, hy⟩ := inPoly_loop q p hl.1 hl.2
      have hy2 := iter_mapR inPh (inPoly_round q p) (0, 0)
      rw [hy] at hy2
      simp only [Option.map_some] at hy2
      simp only [Bool.not_true, cond_false, sh111, hy, hy2, bindS]
      cases y with
      | inl x => exact ⟨_, rfl, rfl⟩
      | inr x => exact ⟨_, rfl, rfl⟩

/-! turnof -/
theorem turnOf_total (q : List SPoint) (h : q.length ≤ 1048576) : ∃ r, sh32 q = some r ∧ sh33 q = some r := by
  unfold sh32 sh33
  rw [isPolygon_eq q h, l20Ok_eq q h]
  simp only [bindS]
  cases hp : polyB q
  · exact ⟨_, rfl, rfl⟩
  · obtain ⟨h3, hl⟩ := polyB_len hp
    obtain ⟨a, ha, h1, h2⟩ := area_total q h3 hl
    simp only [Bool.not_true, cond_false, area_same, ha, bindS, sign_same, l20Sign_eq]
    exact ⟨_, rfl, rfl⟩

/-! doublearea -/
theorem doubleArea_total (q : List SPoint) (h : q.length ≤ 1048576) : ∃ r, sh18 q = some r ∧ sh30 q = some r := by
  unfold sh18 sh30
  rw [isPolygon_eq q h, l20Ok_eq q h]
  simp only [bindS]
  cases hp : polyB q
  · exact ⟨_, rfl, rfl⟩
  · obtain ⟨h3, hl⟩ := polyB_len hp
    obtain ⟨a, ha, h1, h2⟩ := area_total q h3 hl
    simp only [Bool.not_true, cond_false, area_same, ha, bindS, sh114, sh182]
    rw [Int.sub_zero, w64_id h1 h2]
    refine ⟨_, rfl, ?_⟩
    by_cases hlt : a < w64 (0 - a)
    · have hd : decide (w64 (0 - a) < a) = false := decide_eq_false (by omega)
      simp only [hd, cond_false, bindS, if_pos hlt]
    · rw [if_neg hlt]
      by_cases heq : w64 (0 - a) < a
      · simp only [heq, decide_true, cond_true, bindS]
      · have hd : decide (w64 (0 - a) < a) = false := decide_eq_false heq
        simp only [hd, cond_false, bindS]
        rw [show w64 (0 - a) = a by omega]

/-! stroketexts_f6 -/
theorem eqPt (p q : SPoint) : ((p.X == q.X) && ((p.Y == q.Y) && true)) = decide (p = q) := by
  cases p with
  | mk a b =>
    cases q with
    | mk c d =>
      by_cases h1 : a = c
      · by_cases h2 : b = d
        · subst h1 h2; simp
        · have : ¬ ((SPoint.mk a b) = (SPoint.mk c d)) := fun h => h2 (congrArg SPoint.Y h)
          rw [decide_eq_false this]; simp [h2]
      · have : ¬ ((SPoint.mk a b) = (SPoint.mk c d)) := fun h => h1 (congrArg SPoint.X h)
        rw [decide_eq_false this]; simp [h1]
theorem f6points_eq (xs ys : List SPoint) (h : xs.length ≤ 1048576) : sh17 xs ys = some (decide (xs = ys)) := by
  unfold sh17
  by_cases hl : xs.length = ys.length
  · have h1 : ((xs.length : Int) != (ys.length : Int)) = false := by simp; omega
    rw [h1, cond_false, iter_eq (xs := xs) (ys := ys) (by omega) hl (fun k hk => ?_) (by simp [sh17_1]), bindS]
    · by_cases he : xs = ys <;> simp [he, elimS]
    · have h2 : (k : Int) < xs.length := by omega
      have h3 : k < ys.length := by omega
      simp only [sh17_1, h2, decide_true, cond_true, getI_lt hk, getI_lt h3, bindS, eqPt]
      rw [w64_id (by omega) (by omega)]
      by_cases he : xs[k] = ys[k]
      · simp [he]
      · rw [if_neg he, decide_eq_false he]
        rfl
  · have h1 : ((xs.length : Int) != (ys.length : Int)) = true := by simp; omega
    rw [h1, cond_true]
    have : xs ≠ ys := fun h => hl (by rw [h])
    simp [this]

/-! fnpolygons -/
/-! ### moved polygons; a place outside the box is not inside -/
theorem cyc_sum (g : SPoint → Int) (q : List SPoint) : ∀ n, n + 1 ≤ q.length → sumR (fun k => g (nextP q k) - g (q.getD k ⟨0, 0⟩)) n = g (q.getD n ⟨0, 0⟩) - g (q.getD 0 ⟨0, 0⟩)
  | 0, _ => by simp [sumR]
  | n + 1, h => by
    have h1 := cyc_sum g q n (by omega)
    have h2 : nextP q n = q.getD (n + 1) ⟨0, 0⟩ := by unfold nextP; rw [if_neg (by omega)]
    unfold sumR
    rw [h1, h2]; omega
theorem cyc_zero (g : SPoint → Int) (q : List SPoint) : sumR (fun k => g (nextP q k) - g (q.getD k ⟨0, 0⟩)) q.length = 0 := by
  cases hn : q.length with
  | zero => rfl
  | succ n =>
    have h1 := cyc_sum g q n (by omega)
    have h2 : nextP q n = q.getD 0 ⟨0, 0⟩ := by unfold nextP; rw [if_pos (by omega)]
    unfold sumR
    rw [h1, h2]; omega
theorem sumR_lin (f g h : Nat → Int) (x y : Int) : ∀ n, (∀ k, k < n → f k = g k + x * h k) → sumR f n = sumR g n + x * sumR h n
  | 0, _ => by simp [sumR]
  | n + 1, H => by
    have h1 := sumR_lin f g h x y n (fun k hk => H k (by omega))
    unfold sumR
    rw [h1, H n (by omega), Int.mul_add]; omega
theorem area_moved {q : List SPoint} {d : SPoint} (hp : polyB q = true) (hd : cornerB d = true) : areaZ (q.map (mvP d)) = areaZ q := by
  obtain ⟨h3, hl⟩ := polyB_len hp
  have hc := poly_corner hp
  have hm : ∀ a ∈ q, mvP d a = ⟨a.X + d.X, a.Y + d.Y⟩ := by
    intro a ha
    have h1 := corner_bd (hc a ha)
    have h2 := corner_bd hd
    unfold mvP
    rw [w64_id (by omega) (by omega), w64_id (by omega) (by omega)]
  have hg : ∀ k, k < q.length → (q.map (mvP d)).getD k ⟨0, 0⟩ = mvP d (q.getD k ⟨0, 0⟩) := by
    intro k hk
    rw [getD_lt hk, getD_lt (by rw [List.length_map]; exact hk), List.getElem_map]
  have hn : ∀ k, k < q.length → nextP (q.map (mvP d)) k = mvP d (nextP q k) := by
    intro k hk
    unfold nextP
    rw [List.length_map]
    exact hg _ (by split <;> omega)
  unfold areaZ
  rw [List.length_map]
  have e1 : sumR (fun k => crossP ((q.map (mvP d)).getD k ⟨0, 0⟩) (nextP (q.map (mvP d)) k)) q.length = sumR (fun k => crossP (q.getD k ⟨0, 0⟩) (nextP q k) + d.X * ((nextP q k).Y - (q.getD k ⟨0, 0⟩).Y)) q.length + -d.Y * sumR (fun k => (nextP q k).X - (q.getD k ⟨0, 0⟩).X) q.length := by
    refine sumR_lin _ _ _ _ 0 q.length (fun k hk => ?_)
    rw [hg k hk, hn k hk, getD_lt hk, hm _ (List.getElem_mem hk), hm _ (next_eq hk hl).2]
    simp only [crossP]
    grind
  have e2 : sumR (fun k => crossP (q.getD k ⟨0, 0⟩) (nextP q k) + d.X * ((nextP q k).Y - (q.getD k ⟨0, 0⟩).Y)) q.length = sumR (fun k => crossP (q.getD k ⟨0, 0⟩) (nextP q k)) q.length + d.X * sumR (fun k => (nextP q k).Y - (q.getD k ⟨0, 0⟩).Y) q.length :=
    sumR_lin _ _ _ _ 0 q.length (fun k hk => rfl)
  rw [e1, e2, cyc_zero (fun a => a.X) q, cyc_zero (fun a => a.Y) q]
  simp
theorem on_of {a b p : SPoint} (hs : sideP a b p = 0) (hx : (a.X ≤ p.X ∧ p.X ≤ b.X) ∨ (b.X ≤ p.X ∧ p.X ≤ a.X)) (hy : (a.Y ≤ p.Y ∧ p.Y ≤ b.Y) ∨ (b.Y ≤ p.Y ∧ p.Y ≤ a.Y)) : onI a b p = true := by
  unfold onI
  rw [hs]
  simp only [Bool.and_eq_true, beq_self_eq_true, decide_eq_true_eq, true_and]
  refine ⟨⟨?_, ?_⟩, ?_, ?_⟩ <;> split <;> omega
theorem side_swap {a b p : SPoint} (ha : cornerB a = true) (hb : cornerB b = true) (hc : cornerB p = true) : sideP b a p = -sideP a b p := by
  rw [side_val ha hb hc, side_val hb ha hc]; grind
theorem up_left {a b p : SPoint} (ha : cornerB a = true) (hb : cornerB b = true) (hc : cornerB p = true) (h1 : p.X ≤ a.X) (h2 : p.X ≤ b.X) (y1 : a.Y ≤ p.Y) (y2 : p.Y < b.Y) : 0 ≤ sideP a b p ∧ (sideP a b p = 0 → p.X = a.X) := by
  rw [side_val ha hb hc]
  have e : (b.X - a.X) * (p.Y - a.Y) - (b.Y - a.Y) * (p.X - a.X) = (b.X - p.X) * (p.Y - a.Y) + (a.X - p.X) * (b.Y - p.Y) := by grind
  rw [e]
  have m1 := Int.mul_nonneg (show 0 ≤ b.X - p.X by omega) (show 0 ≤ p.Y - a.Y by omega)
  have m2 := Int.mul_nonneg (show 0 ≤ a.X - p.X by omega) (show 0 ≤ b.Y - p.Y by omega)
  refine ⟨by omega, fun h => ?_⟩
  have h0 : (a.X - p.X) * (b.Y - p.Y) = 0 := by omega
  rcases Int.mul_eq_zero.1 h0 with h | h <;> omega
theorem up_right {a b p : SPoint} (ha : cornerB a = true) (hb : cornerB b = true) (hc : cornerB p = true) (h1 : a.X ≤ p.X) (h2 : b.X ≤ p.X) (y1 : a.Y ≤ p.Y) (y2 : p.Y < b.Y) : sideP a b p ≤ 0 := by
  rw [side_val ha hb hc]
  have e : (b.X - a.X) * (p.Y - a.Y) - (b.Y - a.Y) * (p.X - a.X) = -((p.X - b.X) * (p.Y - a.Y)) + -((p.X - a.X) * (b.Y - p.Y)) := by grind
  rw [e]
  have m1 := Int.mul_nonneg (show 0 ≤ p.X - b.X by omega) (show 0 ≤ p.Y - a.Y by omega)
  have m2 := Int.mul_nonneg (show 0 ≤ p.X - a.X by omega) (show 0 ≤ b.Y - p.Y by omega)
  omega
theorem flip_left {a b p : SPoint} (ha : cornerB a = true) (hb : cornerB b = true) (hc : cornerB p = true) (h1 : p.X ≤ a.X) (h2 : p.X ≤ b.X) (ho : onI a b p = false) : flipI a b p = (decide (a.Y ≤ p.Y) != decide (b.Y ≤ p.Y)) := by
  unfold flipI upI
  by_cases hY : b.Y < a.Y
  · rw [if_pos hY]
    by_cases g1 : b.Y ≤ p.Y
    · by_cases g2 : p.Y < a.Y
      · have hu := up_left hb ha hc h2 h1 g1 g2
        have hs := side_swap ha hb hc
        have hne : sideP b a p ≠ 0 := by
          intro h0
          have hx := hu.2 h0
          have : onI a b p = true := on_of (by omega) (by omega) (by omega)
          rw [ho] at this; cases this
        have g3 : ¬ a.Y ≤ p.Y := by omega
        have g4 : 0 < sideP b a p := by omega
        simp [g1, g2, g3, g4]
      · have g3 : a.Y ≤ p.Y := by omega
        simp [g1, g2, g3]
    · have g3 : ¬ a.Y ≤ p.Y := by omega
      simp [g1, g3]
  · rw [if_neg hY]
    by_cases g1 : a.Y ≤ p.Y
    · by_cases g2 : p.Y < b.Y
      · have hu := up_left ha hb hc h1 h2 g1 g2
        have hne : sideP a b p ≠ 0 := by
          intro h0
          have hx := hu.2 h0
          have : onI a b p = true := on_of h0 (by omega) (by omega)
          rw [ho] at this; cases this
        have g3 : ¬ b.Y ≤ p.Y := by omega
        have g4 : 0 < sideP a b p := by omega
        simp [g1, g2, g3, g4]
      · have g3 : b.Y ≤ p.Y := by omega
        simp [g1, g2, g3]
    · have g3 : ¬ b.Y ≤ p.Y := by omega
      simp [g1, g3]
theorem flip_right {a b p : SPoint} (ha : cornerB a = true) (hb : cornerB b = true) (hc : cornerB p = true) (h1 : a.X ≤ p.X) (h2 : b.X ≤ p.X) : flipI a b p = false := by
  unfold flipI upI
  split
  · by_cases g1 : b.Y ≤ p.Y
    · by_cases g2 : p.Y < a.Y
      · have hu := up_right hb ha hc h2 h1 g1 g2
        have g4 : ¬ 0 < sideP b a p := by omega
        simp [g4]
      · simp [g2]
    · simp [g1]
  · by_cases g1 : a.Y ≤ p.Y
    · by_cases g2 : p.Y < b.Y
      · have hu := up_right ha hb hc h1 h2 g1 g2
        have g4 : ¬ 0 < sideP a b p := by omega
        simp [g4]
      · simp [g2]
    · simp [g1]
theorem flip_over {a b p : SPoint} (h1 : a.Y ≤ p.Y) (h2 : b.Y ≤ p.Y) : flipI a b p = false := by
  unfold flipI upI
  have g1 : ¬ p.Y < a.Y := by omega
  have g2 : ¬ p.Y < b.Y := by omega
  simp [g1, g2]
theorem up_low {a b p : SPoint} (ha : cornerB a = true) (hb : cornerB b = true) (hc : cornerB p = true) (h1 : a.Y = p.Y) (h2 : p.Y < b.Y) : decide (0 < sideP a b p) = decide (p.X < a.X) := by
  rw [side_val ha hb hc, decide_eq_decide, h1]
  have e : (b.X - a.X) * (p.Y - p.Y) - (b.Y - p.Y) * (p.X - a.X) = (b.Y - p.Y) * (a.X - p.X) := by grind
  rw [e]
  constructor
  · intro h
    rcases Int.lt_or_le p.X a.X with g | g
    · exact g
    · have := Int.mul_nonneg (show 0 ≤ b.Y - p.Y by omega) (show 0 ≤ p.X - a.X by omega)
      have e2 : (b.Y - p.Y) * (p.X - a.X) = -((b.Y - p.Y) * (a.X - p.X)) := by grind
      omega
  · intro h
    exact Int.mul_pos (by omega) (by omega)
theorem flip_low {a b p : SPoint} (ha : cornerB a = true) (hb : cornerB b = true) (hc : cornerB p = true) (h1 : p.Y ≤ a.Y) (h2 : p.Y ≤ b.Y) (ho : onI a b p = false) : flipI a b p = ((decide (a.Y = p.Y) && decide (p.X < a.X)) != (decide (b.Y = p.Y) && decide (p.X < b.X))) := by
  unfold flipI upI
  by_cases hY : b.Y < a.Y
  · rw [if_pos hY]
    have ga : ¬ a.Y = p.Y := by omega
    by_cases gb : b.Y = p.Y
    · have g2 : p.Y < a.Y := by omega
      have g1 : b.Y ≤ p.Y := by omega
      rw [up_low hb ha hc gb g2]
      simp [ga, gb, g2]
    · have g1 : ¬ b.Y ≤ p.Y := by omega
      simp [ga, gb, g1]
  · rw [if_neg hY]
    by_cases ga : a.Y = p.Y
    · by_cases gb : b.Y = p.Y
      · have g2 : ¬ p.Y < b.Y := by omega
        have hs : sideP a b p = 0 := by
          rw [side_val ha hb hc, ga, gb]; grind
        have hx : decide (p.X < a.X) = decide (p.X < b.X) := by
          rw [decide_eq_decide]
          constructor
          · intro h
            rcases Int.lt_or_le p.X b.X with g | g
            · exact g
            · have : onI a b p = true := on_of hs (by omega) (by omega)
              rw [ho] at this; cases this
          · intro h
            rcases Int.lt_or_le p.X a.X with g | g
            · exact g
            · have : onI a b p = true := on_of hs (by omega) (by omega)
              rw [ho] at this; cases this
        rw [hx]
        simp [ga, gb]
      · have g2 : p.Y < b.Y := by omega
        have g1 : a.Y ≤ p.Y := by omega
        rw [up_low ha hb hc ga g2]
        simp [ga, gb, g2]
    · have g1 : ¬ a.Y ≤ p.Y := by omega
      have gb : ¬ b.Y = p.Y := by omega
      simp [ga, gb, g1]
theorem inP_par {q : List SPoint} {p : SPoint} (hp : polyB q = true) (hc : cornerB p = true) (g : SPoint → Bool) (hg : ∀ a ∈ q, ∀ b ∈ q, onI a b p = false → flipI a b p = (g a != g b)) : ∃ v, sh20 q p = some (v, 0) ∧ v ≠ 2 := by
  obtain ⟨h3, hl⟩ := polyB_len hp
  unfold sh20
  obtain ⟨y, h1, h2⟩ := iter_inv (sb := sh20_1 q p) (fun (s : Int × Int) => ∃ k : Nat, s.2 = (k : Int) ∧ k ≤ q.length ∧ s.1 = if (g (q.getD (if k = q.length then 0 else k) ⟨0, 0⟩) != g (q.getD 0 ⟨0, 0⟩)) = true then 2 else 0) (fun s => (q.length - s.2).toNat) (fun (y : Int ⊕ (Int × Int)) => y = .inr (1, 0) ∨ y = .inl 0) (s0 := (0, 0)) ⟨0, rfl, by omega, by rw [if_neg (show ¬ 0 = q.length by omega)]; simp⟩ (by simp only; omega) (by
    rintro ⟨x, i⟩ ⟨k, g1, g2, g3⟩
    simp only at g1 g3
    subst g1
    by_cases hk : k < q.length
    · rw [inP_step p hl x k hk]
      obtain ⟨hn, hm⟩ := next_eq hk hl
      cases ho : onI q[k] (nextP q k) p
      · left
        refine ⟨_, rfl, ⟨k + 1, rfl, hk, ?_⟩, by simp only; omega⟩
        have hf := hg _ (List.getElem_mem hk) _ hm ho
        simp only
        have en : q.getD (if k + 1 = q.length then 0 else k + 1) ⟨0, 0⟩ = nextP q k := rfl
        rw [if_neg (show ¬ k = q.length by omega), getD_lt hk] at g3
        rw [hf, en, g3]
        cases g q[k] <;> cases g (nextP q k) <;> cases g (q.getD 0 ⟨0, 0⟩) <;> rfl
      · right
        exact ⟨_, rfl, .inl rfl⟩
    · have hkn : k = q.length := by omega
      subst hkn
      rw [inP_done]
      right
      refine ⟨_, rfl, .inr ?_⟩
      rw [g3, if_pos rfl]
      simp)
  rw [isPolygon_eq q (by omega), hp, isCorner_eq, hc]
  simp only [bindS, Bool.not_true, cond_false, h1]
  rcases h2 with h2 | h2 <;> subst h2
  · exact ⟨1, rfl, by decide⟩
  · exact ⟨0, rfl, by decide⟩
theorem inP_inv {q : List SPoint} {p : SPoint} (h : q.length ≤ 1048576) {r : Int × Int} (hr : sh20 q p = some r) (h0 : r.2 = 0) : polyB q = true ∧ cornerB p = true := by
  unfold sh20 at hr
  rw [isPolygon_eq q h, bindS, isCorner_eq, bindS] at hr
  cases hp : polyB q
  · rw [hp] at hr
    have := Option.some.inj hr
    rw [← this] at h0; cases h0
  · cases hc : cornerB p
    · rw [hp, hc] at hr
      have := Option.some.inj hr
      rw [← this] at h0; cases h0
    · exact ⟨rfl, rfl⟩
theorem box_val {q : List SPoint} (hp : polyB q = true) : sh27 q = some ((boxL q).1, (boxL q).2, 0) := by
  obtain ⟨h3, hl⟩ := polyB_len hp
  unfold sh27
  rw [isPolygon_eq q (by omega), hp, bindS]
  cases q with
  | nil => simp at h3
  | cons p t =>
    simp only [List.length_cons] at hl
    simp only [Bool.not_true, cond_false, boxOf_eq p t (by omega), bindS]
    rfl
theorem out_box {q : List SPoint} {p : SPoint} {r : Int × Int} (h : q.length ≤ 1048576) (hr : sh20 q p = some r) (h0 : r.2 = 0) : ((r.1 == 2) && ((((decide (p.X ≤ (boxL q).1.X)) || (decide (p.Y ≤ (boxL q).1.Y))) || (decide ((boxL q).2.X ≤ p.X))) || (decide ((boxL q).2.Y ≤ p.Y)))) = false := by
  obtain ⟨hp, hc⟩ := inP_inv h hr h0
  have hq := poly_corner hp
  have hb := boxL_mem (q := q)
  cases ho : ((((decide (p.X ≤ (boxL q).1.X)) || (decide (p.Y ≤ (boxL q).1.Y))) || (decide ((boxL q).2.X ≤ p.X))) || (decide ((boxL q).2.Y ≤ p.Y)))
  · exact Bool.and_false _
  · simp only [Bool.or_eq_true, decide_eq_true_eq] at ho
    have key : ∃ v, sh20 q p = some (v, 0) ∧ v ≠ 2 := by
      rcases ho with ((ho | ho) | ho) | ho
      · refine inP_par hp hc (fun v => decide (v.Y ≤ p.Y)) (fun a ha b hb2 h => flip_left (hq a ha) (hq b hb2) hc ?_ ?_ h)
        · have := hb a ha; omega
        · have := hb b hb2; omega
      · refine inP_par hp hc (fun v => decide (v.Y = p.Y) && decide (p.X < v.X)) (fun a ha b hb2 h => flip_low (hq a ha) (hq b hb2) hc ?_ ?_ h)
        · have := hb a ha; omega
        · have := hb b hb2; omega
      · refine inP_par hp hc (fun _ => false) (fun a ha b hb2 h => flip_right (hq a ha) (hq b hb2) hc ?_ ?_)
        · have := hb a ha; omega
        · have := hb b hb2; omega
      · refine inP_par hp hc (fun _ => false) (fun a ha b hb2 h => flip_over ?_ ?_)
        · have := hb a ha; omega
        · have := hb b hb2; omega
    obtain ⟨v, k1, k2⟩ := key
    rw [k1] at hr
    have := Option.some.inj hr
    rw [← this]
    simp [k2]
theorem move_inv {q : List SPoint} {p : SPoint} (h : q.length ≤ 1048576) {r : List SPoint × Int} (hr : sh22 q p = some r) (h0 : r.2 = 0) : polyB q = true ∧ cornerB p = true ∧ r.1 = q.map (mvP p) ∧ polyB (q.map (mvP p)) = true := by
  unfold sh22 at hr
  rw [isPolygon_eq q h, bindS, isCorner_eq, bindS] at hr
  cases hp : polyB q
  · rw [hp] at hr
    have := Option.some.inj hr
    rw [← this] at h0; cases h0
  · cases hc : cornerB p
    · rw [hp, hc] at hr
      have := Option.some.inj hr
      rw [← this] at h0; cases h0
    · have hl := (polyB_len hp).2
      have hml : (q.map (mvP p)).length ≤ 1048576 := by rw [List.length_map]; exact h
      rw [hp, hc, moved_impl, moved_spec q p hl, bindS, isPolygon_eq _ hml, bindS] at hr
      cases hm : polyB (q.map (mvP p))
      · rw [hm] at hr
        have := Option.some.inj hr
        rw [← this] at h0; cases h0
      · rw [hm] at hr
        have := Option.some.inj hr
        exact ⟨rfl, rfl, by rw [← this], rfl⟩
theorem corner_on {q : List SPoint} (hp : polyB q = true) (k : Nat) (hk : k < q.length) : sh20 q q[k] = some (1, 0) := by
  obtain ⟨h3, hl⟩ := polyB_len hp
  have hc := poly_corner hp
  have ha := hc _ (List.getElem_mem hk)
  have hb := hc _ (next_eq hk hl).2
  refine inP_on hp ha k hk (on_of ?_ ?_ ?_)
  · rw [side_val ha hb ha]; grind
  · omega
  · omega
theorem place_ok (q : Sl00Src) (hc : srcB q.code) (h0 : 0 ≤ q.at_) (h1 : q.at_ ≤ 549755813888) : ∃ r, sh109 q = some r := by
  unfold sh109
  obtain ⟨b, a, s, e, f, c⟩ := one_ok' q 12 hc h0 (by omega)
  rw [e, bindS]
  cases b
  · simp only [cond_false]
    obtain ⟨x7, e7, b7, a7, c7⟩ := pick_ok ⟨q.code, a, s⟩ 25 hc f (by simp only; omega)
    simp only at c7
    rw [e7, bindS]
    obtain ⟨x8, e8, b8, a8, c8⟩ := pick_ok ⟨q.code, x7.2.1, x7.2.2⟩ 25 hc a7 (by simp only; omega)
    rw [e8, bindS]
    exact ⟨_, rfl⟩
  · simp only [cond_true]
    obtain ⟨y, g, n1, m, n⟩ := among_ok ⟨q.code, a, s⟩ [(-100001), (-100000), 100000, 100001] hc f (by simp only; omega) (by simp)
    rw [g, bindS]
    exact ⟨_, rfl⟩
theorem drawMove_ok (c : List Int) (hc : srcB c) : ∃ r, sh21 c = some r ∧ r.1.length ≤ 301 := by
  unfold sh21
  have hfrom : sh90 c = some ⟨c, 0, 0⟩ := rfl
  obtain ⟨x, e, l, _, a, b⟩ := bent20_ok ⟨c, 0, 0⟩ hc (Int.le_refl 0) (by simp only; omega)
  simp only at b
  obtain ⟨y, g⟩ := place_ok ⟨c, x.2.1, x.2.2⟩ hc a (by simp only; omega)
  rw [hfrom, bindS, e, bindS, g, bindS]
  exact ⟨_, rfl, l⟩
theorem drawIn_ok (c : List Int) (hc : srcB c) : ∃ r, sh24 c = some r ∧ r.1.length ≤ 301 := by
  unfold sh24
  have hfrom : sh90 c = some ⟨c, 0, 0⟩ := rfl
  obtain ⟨x, e, l, _, a, b⟩ := bent20_ok ⟨c, 0, 0⟩ hc (Int.le_refl 0) (by simp only; omega)
  simp only at b
  obtain ⟨b2, a2, s2, e2, f2, c2⟩ := one_ok' ⟨c, x.2.1, x.2.2⟩ 4 hc a (by simp only; omega)
  simp only at c2
  rw [hfrom, bindS, e, bindS, e2, bindS]
  simp only
  obtain ⟨y, g⟩ := place_ok ⟨c, a2, s2⟩ hc f2 (by simp only; omega)
  cases hb : b2 && decide (1 < (x.1.length : Int))
  · rw [cond_false, g, bindS]
    exact ⟨_, rfl, l⟩
  · simp only [Bool.and_eq_true, decide_eq_true_eq] at hb
    have g0 : getI x.1 (0 : Int) = some x.1[0] := getI_lt (k := 0) (by omega)
    have g1 : getI x.1 (1 : Int) = some x.1[1] := getI_lt (k := 1) (by omega)
    rw [cond_true, g0, bindS, g1, bindS, l20Ok_eq _ (by simp), bindS]
    cases polyB [x.1[0], x.1[1], x.1[0]]
    · rw [cond_false, g, bindS]
      exact ⟨_, rfl, l⟩
    · exact ⟨_, rfl, l⟩
theorem drawPoly_ok (c : List Int) (hc : srcB c) : ∃ r, (sh26 c = some r ∧ sh29 c = some r ∧ sh31 c = some r ∧ sh34 c = some r) ∧ r.length ≤ 301 := by
  unfold sh26 sh29 sh31 sh34
  have hfrom : sh90 c = some ⟨c, 0, 0⟩ := rfl
  obtain ⟨x, e, l, _, a, b⟩ := bent20_ok ⟨c, 0, 0⟩ hc (Int.le_refl 0) (by simp only; omega)
  rw [hfrom, bindS, e, bindS]
  exact ⟨_, ⟨rfl, rfl, rfl, rfl⟩, l⟩
theorem loop_corner (sb : Int → Option (Int ⊕ (Unit ⊕ Bool))) (q : List SPoint) (hp : polyB q = true) (hs : ∀ k : Int, sb k = bif decide (k < (q.length : Int)) then (Option.bind (getI q k) fun x67 => Option.bind (sh20 q x67) fun x68 => bif (x68.2 != 0) || (x68.1 != 1) then (some (.inr (.inr false))) else (some (.inl (w64 (k + 1))))) else (some (.inr (.inl ())))) : iter sb 0 = some (.inl ()) := by
  obtain ⟨h3, hl⟩ := polyB_len hp
  have hi := iter_steps (sb := sb) (fun k => (k : Int)) q.length (x := .inl ()) (by omega) (fun k hk => ?_) ?_
  · simpa using hi
  · have h2 : (k : Int) < q.length := by omega
    rw [hs, decide_eq_true h2, cond_true, getI_lt hk, bindS, corner_on hp k hk, bindS, w64_id (by omega) (by omega)]
    rfl
  · have hd : decide ((q.length : Int) < (q.length : Int)) = false := by simp
    rw [hs, hd, cond_false]

/-! FnPolygons -/
theorem law4 (c : List Int) (hl0 : c.length ≤ maxLen) (hk0 : ∀ y ∈ c, okI .u8 y) : sh4 c = some true := by
  unfold sh4
  have hm : maxLen = 9223372036854775807 := rfl
  have hc := srcB_of hk0
  rw [f6big_eq c (by omega), bindS]
  cases hbig : decide (4096 < c.length)
  · rw [cond_false]
    obtain ⟨m, em, lm⟩ := drawMove_ok c hc
    obtain ⟨n, en, ln⟩ := drawIn_ok c hc
    obtain ⟨b, ⟨e1, e2, e3, e4⟩, lb⟩ := drawPoly_ok c hc
    obtain ⟨r, r1, r2, r3⟩ := movePolygon_total m.1 m.2 (by omega)
    obtain ⟨i, i1, i2⟩ := inPolygon_total n.1 n.2 (by omega)
    obtain ⟨x, x1, x2⟩ := polygonBox_total b (by omega)
    obtain ⟨a, a1, a2⟩ := doubleArea_total b (by omega)
    obtain ⟨t, t1, t2⟩ := turnOf_total b (by omega)
    obtain ⟨v, v1, v2⟩ := isConvex_total b (by omega)
    simp only [em, en, e1, e2, e3, e4, r1, r2, i1, i2, x1, x2, a1, a2, t1, t2, v1, v2, bindS, bne_self_eq_false, beq_self_eq_true, cond_false, f6points_eq r.1 r.1 (by omega), decide_true, Bool.not_true, Bool.or_self, Bool.and_self]
    have tail : ∀ sb : Int → Option (Int ⊕ (Unit ⊕ Bool)), (∀ k : Int, sb k = bif decide (k < (m.1.length : Int)) then (Option.bind (getI m.1 k) fun x67 => Option.bind (sh20 m.1 x67) fun x68 => bif (x68.2 != 0) || (x68.1 != 1) then (some (.inr (.inr false))) else (some (.inl (w64 (k + 1))))) else (some (.inr (.inl ())))) →
        (bif r.2 != 0 then (some true) else (Option.bind (sh18 m.1) fun x64 => Option.bind (sh18 r.1) fun x65 => bif ((x64.2 != 0) || (x65.2 != 0)) || (x64.1 != x65.1) then (some false) else (Option.bind (iter sb 0) fun y1 => elimS y1 (fun r => some r) fun b1 => (some true)))) = some true := by
      intro sb hsb
      cases h0 : (r.2 != 0)
      · have hr0 : r.2 = 0 := by simpa using h0
        obtain ⟨p1, p2, p3, p4⟩ := move_inv (by omega) r2 hr0
        rw [cond_false, doubleArea_val _ p1, bindS, p3, doubleArea_val _ p4, bindS, area_moved p1 p2, loop_corner sb m.1 p1 hsb]
        simp [elimS, bindS]
      · rfl
    cases h0 : (i.2 == 0)
    · rw [cond_false]
      exact tail _ (fun k => rfl)
    · have hi0 : i.2 = 0 := by simpa using h0
      have hp := (inP_inv (by omega) i2 hi0).1
      rw [cond_true, box_val hp, bindS]
      simp only
      rw [out_box (by omega) i2 hi0]
      simp only [bne_self_eq_false, Bool.or_self, cond_false]
      exact tail _ (fun k => rfl)
  · rfl
end Go.Sh
