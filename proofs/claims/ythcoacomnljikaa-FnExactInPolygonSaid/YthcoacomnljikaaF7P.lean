/- Plain laws: what the shallow functions come to. -/
import Derived.Test.YthcoacomnljikaaF7W0
set_option linter.unusedVariables false
set_option linter.unusedSimpArgs false
namespace Go.Sh
open Go Go.RowKit

/-! iters -/
theorem w64_lo (x : Int) : -9223372036854775808 ≤ w64 x := by
  have := IntKind.wrap_i64 x
  show _ ≤ IntKind.i64.wrap x
  omega
theorem w64_hi (x : Int) : w64 x ≤ 9223372036854775807 := by
  have := IntKind.wrap_i64 x
  show IntKind.i64.wrap x ≤ _
  omega
theorem getI_toNat {T : Type} {xs : List T} {i : Int} (h0 : 0 ≤ i) (h : i.toNat < xs.length) : getI xs i = some xs[i.toNat] := by
  unfold getI; rw [if_pos h0]; exact List.getElem?_eq_getElem h
theorem nzI_ok {a : Int} (h : a ≠ 0) : nzI a = some a := by simp [nzI, h]

/-- The loop that looks for the first element that passes. -/
theorem iter_find {T : Type} {sb : Int → Option (Int ⊕ (Unit ⊕ Int))} {xs : List T} {p : T → Bool} (hl : xs.length < 1099511627776)
    (hsb : ∀ (k : Nat) (h : k < xs.length), sb (k : Int) = if p xs[k] = true then some (.inr (.inr (k : Int))) else some (.inl ((k : Int) + 1))) (he : sb (xs.length : Int) = some (.inr (.inl ()))) :
    iter sb 0 = some (if xs.any p = true then .inr (xs.findIdx p : Int) else .inl ()) := by
  have h := iter_res (sb := sb) (fun k => (k : Int)) (fun k => if (xs.drop k).any p = true then (.inr (k + (xs.drop k).findIdx p : Nat) : Unit ⊕ Int) else .inl ()) xs.length (by omega) (fun k hk => ?_) (by
    rw [he, List.drop_of_length_le (Nat.le_refl _)]; simp)
  · simpa using h
  · rw [hsb k hk, List.drop_eq_getElem_cons hk]
    by_cases hx : p xs[k] = true
    · right
      rw [if_pos hx]
      simp only [List.any_cons, hx, Bool.true_or, if_true, List.findIdx_cons, cond_true, Nat.add_zero]
    · left
      rw [if_neg hx]
      refine ⟨by simp, ?_⟩
      have hx' : p xs[k] = false := by simpa using hx
      simp only [List.any_cons, hx', Bool.false_or, List.findIdx_cons, cond_false]
      split <;> simp
      omega

theorem iterN_congr {σ ρ : Type} {sb1 sb2 : σ → Option (σ ⊕ ρ)} (I : σ → Prop) (hs : ∀ s, I s → sb1 s = sb2 s ∧ ∀ s', sb2 s = some (.inl s') → I s') : ∀ (n : Nat) (s : σ), I s → iterN sb1 n s = iterN sb2 n s
  | 0, _, _ => rfl
  | n + 1, s, h => by
    obtain ⟨h1, h2⟩ := hs s h
    simp only [iterN, h1]
    cases hb : sb2 s with
    | none => rfl
    | some o =>
      cases o with
      | inl s' => exact iterN_congr I hs n s' (h2 s' hb)
      | inr x => rfl
/-- Two loops whose bodies agree where the invariant holds. -/
theorem iter_congr {σ ρ : Type} {sb1 sb2 : σ → Option (σ ⊕ ρ)} (I : σ → Prop) {s0 : σ} (h0 : I s0) (hs : ∀ s, I s → sb1 s = sb2 s ∧ ∀ s', sb2 s = some (.inl s') → I s') : iter sb1 s0 = iter sb2 s0 :=
  iterN_congr I hs FUEL s0 h0

/-- A loop over a list, as a fold. -/
theorem iter_fold {T σ S ρ : Type} {sb : S → Option (S ⊕ ρ)} (xs : List T) (st : Nat → σ → S) (g : σ → T → σ) (h : σ → ρ) (I : Nat → σ → Prop) (s0 : σ) (h0 : I 0 s0) (hl : xs.length < 1099511627776)
    (hsb : ∀ (k : Nat) (hk : k < xs.length) s, I k s → sb (st k s) = some (.inl (st (k + 1) (g s xs[k]))) ∧ I (k + 1) (g s xs[k])) (he : ∀ s, I xs.length s → sb (st xs.length s) = some (.inr (h s))) :
    iter sb (st 0 s0) = some (h (xs.foldl g s0)) ∧ I xs.length (xs.foldl g s0) := by
  have hI : ∀ k, k ≤ xs.length → I k ((xs.take k).foldl g s0) := by
    intro k
    induction k with
    | zero => intro _; simpa using h0
    | succ k ih =>
      intro hk
      rw [List.take_succ_eq_append_getElem (by omega), List.foldl_append]
      exact (hsb k (by omega) _ (ih (by omega))).2
  have hlast := hI xs.length (Nat.le_refl _)
  rw [List.take_length] at hlast
  refine ⟨?_, hlast⟩
  refine iter_steps (fun k => st k ((xs.take k).foldl g s0)) xs.length (by omega) (fun k hk => ?_) (by rw [List.take_length]; exact he _ hlast)
  rw [(hsb k hk _ (hI k (by omega))).1, List.take_succ_eq_append_getElem hk, List.foldl_append]
  rfl

/-- The greater one. -/
def mx (a b : Int) : Int := if a < b then b else a
def mn (a b : Int) : Int := if b < a then b else a
theorem mx_comm' (a b : Int) : (if b < a then a else b) = mx a b := by unfold mx; split <;> split <;> omega
theorem foldl_snoc {α β : Type} (f : α → β) : ∀ (xs : List α) (a : List β), xs.foldl (fun acc m => acc ++ [f m]) a = a ++ xs.map f
  | [], a => by simp
  | x :: xs, a => by rw [List.foldl_cons, foldl_snoc f xs]; simp

/-! points -/
theorem szPointS_eq (xs : List SPoint) (h : xs.length ≤ 9223372036854775807) : sh15 xs 1048576 = some (if xs.length ≤ 1048576 then (1048576 - xs.length : Int) else -1) := by
  unfold sh15
  rw [w64_id (by omega) (by omega)]
  by_cases hl : xs.length ≤ 1048576
  · rw [if_pos hl, show decide ((1048576 : Int) - (xs.length : Int) < 0) = false from decide_eq_false (by omega)]; rfl
  · rw [if_neg hl, show decide ((1048576 : Int) - (xs.length : Int) < 0) = true from decide_eq_true (by omega)]; rfl

theorem toPointS_eq (xs : List SPoint) (h : xs.length ≤ 1048576) : sh17 xs = some xs := by
  unfold sh17
  rw [mkL_ok (by omega), bindS, iter_copy (xs := xs) (by omega) (fun i ys => by simp only [sh17_1, sh18, bindS]), bindS]

theorem eqPoint_eq (p q : SPoint) : sh68 p q = some (decide (p = q)) := by
  unfold sh68
  cases p with
  | mk a b =>
    cases q with
    | mk c d =>
      show (bif a != c then some false else (bif b != d then some false else some true)) = _
      by_cases h1 : a = c
      · subst h1
        rw [bne_self_eq_false, cond_false]
        by_cases h2 : b = d
        · subst h2; rw [bne_self_eq_false]; simp
        · rw [bne_iff_ne.2 h2]; simp [h2]
      · rw [bne_iff_ne.2 h1]; simp [h1]

theorem eqPointS_eq (xs ys : List SPoint) (h : xs.length ≤ 1048576) : sh20 xs ys = some (decide (xs = ys)) := by
  unfold sh20
  by_cases hl : xs.length = ys.length
  · have h1 : ((xs.length : Int) != (ys.length : Int)) = false := by simp; omega
    rw [h1, cond_false, iter_eq (xs := xs) (ys := ys) (by omega) hl (fun k hk => ?_) (by simp [sh20_1]), bindS]
    · by_cases he : xs = ys <;> simp [he, elimS]
    · have h2 : (k : Int) < xs.length := by omega
      have h3 : k < ys.length := by omega
      simp only [sh20_1, h2, decide_true, cond_true, getI_lt hk, getI_lt h3, bindS, eqPoint_eq]
      rw [w64_id (by omega) (by omega)]
      by_cases he : xs[k] = ys[k]
      · simp [he]
      · rw [if_neg he, decide_eq_false he]
        rfl
  · have h1 : ((xs.length : Int) != (ys.length : Int)) = true := by simp; omega
    rw [h1, cond_true]
    have : xs ≠ ys := fun h => hl (by rw [h])
    simp [this]

/-! polygon -/
def cornerB (p : SPoint) : Bool := (decide (-100000 ≤ p.X) && decide (p.X ≤ 100000)) && (decide (-100000 ≤ p.Y) && decide (p.Y ≤ 100000))
def polyB (q : List SPoint) : Bool := (decide (3 ≤ q.length) && decide (q.length ≤ 300)) && q.all cornerB

theorem l20Ok_eq (q : List SPoint) (h : q.length ≤ 1048576) : sh64 q = some (polyB q) := by
  unfold sh64 polyB
  rw [iter_all (xs := q) (p := cornerB) (r := false) (by omega) (fun k hk => ?_) (by simp [sh64_1]), bindS]
  · cases ha : q.all cornerB
    · simp [elimS]
    · simp only [elimS, if_true, sh65, bindS, Bool.and_true]
      congr 2
      · simp only [decide_eq_decide]; omega
      · simp only [decide_eq_decide]; omega
  · have h2 : (k : Int) < q.length := by omega
    simp only [sh64_1, sh65, h2, decide_true, cond_true, getI_lt hk, bindS]
    rw [w64_id (x := (k : Int) + 1) (by omega) (by omega)]
    unfold cornerB
    cases h0 : decide (-100000 ≤ q[k].X) && decide (q[k].X ≤ 100000) <;> cases h1 : decide (-100000 ≤ q[k].Y) && decide (q[k].Y ≤ 100000) <;> rfl

theorem isCorner_eq (p : SPoint) : sh67 p = some (cornerB p) := by
  unfold sh67 sh79 cornerB
  simp only [bindS]
  cases decide (-100000 ≤ p.X) && decide (p.X ≤ 100000) <;> rfl

theorem isPolygon_eq (q : List SPoint) (h : q.length ≤ 1048576) : sh66 q = some (polyB q) := by
  unfold sh66 sh109f110 sh124f110 sh79
  rw [iter_find (xs := q) (p := fun x => !cornerB x) (by omega) (fun k hk => ?_) (by simp [sh124f110_1])]
  · simp only [bindS]
    unfold polyB
    have e1 : decide ((3 : Int) ≤ (q.length : Int)) = decide (3 ≤ q.length) := by simp only [decide_eq_decide]; omega
    have e2 : decide ((q.length : Int) ≤ 300) = decide (q.length ≤ 300) := by simp only [decide_eq_decide]; omega
    rw [e1, e2]
    cases hc : decide (3 ≤ q.length) && decide (q.length ≤ 300)
    · rfl
    · have ha : q.any (fun x => !cornerB x) = !q.all cornerB := by rw [List.all_eq_not_any_not]; simp
      rw [ha]
      cases q.all cornerB
      · simp [elimS]
      · simp [elimS]
  · have h2 : (k : Int) < q.length := by omega
    simp only [sh124f110_1, sh110, isCorner_eq, h2, decide_true, cond_true, getI_lt hk, bindS]
    rw [w64_id (x := (k : Int) + 1) (by omega) (by omega)]
    cases cornerB q[k] <;> rfl

theorem polyB_len {q : List SPoint} (h : polyB q = true) : 3 ≤ q.length ∧ q.length ≤ 300 := by
  unfold polyB at h
  simp only [Bool.and_eq_true, decide_eq_true_eq] at h
  exact h.1

/-! area -/
theorem wrapix {n k : Nat} (h : k < n) : ((k : Int) + 1).tmod (n : Int) = ((if k + 1 = n then 0 else k + 1 : Nat) : Int) := by
  rw [Int.tmod_eq_emod_of_nonneg (by omega)]
  split
  · rename_i he
    rw [show (k : Int) + 1 = (n : Int) by omega, Int.emod_self]; rfl
  · rw [Int.emod_eq_of_lt (by omega) (by omega)]; omega


/-! turn -/
def signOf (a : Int) : Int := if 0 < a then 1 else if a < 0 then -1 else 0

/-! isconvex -/
/-- Which side of a line a place lies at. -/
def sideP (a b c : SPoint) : Int := w64 ((w64 ((w64 (b.X - a.X)) * (w64 (c.Y - a.Y)))) - (w64 ((w64 (b.Y - a.Y)) * (w64 (c.X - a.X)))))
theorem side_eq (a b c : SPoint) : sh84 a b c = some (sideP a b c) := rfl
theorem cross_eq (a b c : SPoint) : sh92 a b c = some (sideP a b c) := rfl
theorem corner_bd {p : SPoint} (h : cornerB p = true) : -100000 ≤ p.X ∧ p.X ≤ 100000 ∧ -100000 ≤ p.Y ∧ p.Y ≤ 100000 := by
  unfold cornerB at h
  simp only [Bool.and_eq_true, decide_eq_true_eq] at h
  omega
theorem mul_bd {x y : Int} (h1 : -200000 ≤ x) (h2 : x ≤ 200000) (h3 : -200000 ≤ y) (h4 : y ≤ 200000) : -40000000000 ≤ x * y ∧ x * y ≤ 40000000000 := by
  constructor
  · have : (x + 200000) * (y + 200000) ≥ 0 := Int.mul_nonneg (by omega) (by omega)
    have h5 : (200000 - x) * (200000 - y) ≥ 0 := Int.mul_nonneg (by omega) (by omega)
    rw [Int.add_mul, Int.mul_add, Int.mul_add] at this
    rw [Int.sub_mul, Int.mul_sub, Int.mul_sub] at h5
    omega
  · have : (200000 - x) * (y + 200000) ≥ 0 := Int.mul_nonneg (by omega) (by omega)
    have h5 : (x + 200000) * (200000 - y) ≥ 0 := Int.mul_nonneg (by omega) (by omega)
    rw [Int.sub_mul, Int.mul_add, Int.mul_add] at this
    rw [Int.add_mul, Int.mul_sub, Int.mul_sub] at h5
    omega
theorem side_bd {a b c : SPoint} (ha : cornerB a = true) (hb : cornerB b = true) (hc : cornerB c = true) : -80000000000 ≤ sideP a b c ∧ sideP a b c ≤ 80000000000 := by
  have h1 := corner_bd ha
  have h2 := corner_bd hb
  have h3 := corner_bd hc
  unfold sideP
  rw [w64_id (x := b.X - a.X) (by omega) (by omega), w64_id (x := c.Y - a.Y) (by omega) (by omega), w64_id (x := b.Y - a.Y) (by omega) (by omega), w64_id (x := c.X - a.X) (by omega) (by omega)]
  have m1 := mul_bd (x := b.X - a.X) (y := c.Y - a.Y) (by omega) (by omega) (by omega) (by omega)
  have m2 := mul_bd (x := b.Y - a.Y) (y := c.X - a.X) (by omega) (by omega) (by omega) (by omega)
  rw [w64_id (x := (b.X - a.X) * (c.Y - a.Y)) (by omega) (by omega), w64_id (x := (b.Y - a.Y) * (c.X - a.X)) (by omega) (by omega), w64_id (by omega) (by omega)]
  omega
theorem sign_mul {t x : Int} (ht : t = -1 ∨ t = 0 ∨ t = 1) (h1 : -80000000000 ≤ x) (h2 : x ≤ 80000000000) : decide (w64 (signOf x * t) < 0) = decide (t * x < 0) ∧ decide (w64 (t * x) < 0) = decide (t * x < 0) := by
  unfold signOf
  rcases ht with rfl | rfl | rfl
  · rw [w64_id (by split <;> (try split) <;> omega) (by split <;> (try split) <;> omega), w64_id (by omega) (by omega)]
    refine ⟨?_, rfl⟩
    simp only [decide_eq_decide]
    split <;> (try split) <;> omega
  · rw [Int.mul_zero, Int.zero_mul, w64_id (x := 0) (by omega) (by omega)]; exact ⟨rfl, rfl⟩
  · rw [w64_id (by split <;> (try split) <;> omega) (by split <;> (try split) <;> omega), w64_id (by omega) (by omega)]
    refine ⟨?_, rfl⟩
    simp only [decide_eq_decide]
    split <;> (try split) <;> omega
theorem signOf_cases (a : Int) : signOf a = -1 ∨ signOf a = 0 ∨ signOf a = 1 := by
  unfold signOf
  split
  · exact .inr (.inr rfl)
  · split
    · exact .inl rfl
    · exact .inr (.inl rfl)
def nextP (q : List SPoint) (k : Nat) : SPoint := q.getD (if k + 1 = q.length then 0 else k + 1) ⟨0, 0⟩
def convK (q : List SPoint) (t : Int) (k : Nat) : Bool := q.all fun c => !decide (t * sideP (q.getD k ⟨0, 0⟩) (nextP q k) c < 0)
theorem getD_lt {T : Type} {q : List T} {k : Nat} {z : T} (h : k < q.length) : q.getD k z = q[k] := by rw [List.getD_eq_getElem?_getD, List.getElem?_eq_getElem h]; rfl
theorem next_eq {q : List SPoint} {k : Nat} (hk : k < q.length) (hq : q.length ≤ 300) : getI q ((w64 ((k : Int) + 1)).tmod (q.length : Int)) = some (nextP q k) ∧ nextP q k ∈ q := by
  have hj : (if k + 1 = q.length then 0 else k + 1 : Nat) < q.length := by split <;> omega
  rw [w64_id (by omega) (by omega), wrapix hk, getI_lt hj, nextP, getD_lt hj]
  exact ⟨rfl, List.getElem_mem hj⟩
theorem poly_corner {q : List SPoint} (h : polyB q = true) : ∀ p ∈ q, cornerB p = true := by
  unfold polyB at h
  simp only [Bool.and_eq_true, List.all_eq_true] at h
  exact h.2


/-! max -/
theorem l00Max_eq (a b : Int) : sh71 a b = some (mx a b) := by
  unfold sh71
  rw [← mx_comm']
  by_cases h : b < a <;> simp [h]

/-! min -/
theorem l00Min_eq (a b : Int) : sh125 a b = some (mn a b) := by
  unfold sh125 mn
  by_cases h : a < b
  · have : ¬ b < a := by omega
    simp [h, this]
  · by_cases h2 : b < a <;> simp [h, h2] <;> omega

/-! inpolygon -/
/-- Two loops of which one says the other's result in other words. -/
theorem iterN_mapR {σ ρ ρ' : Type} {sb1 : σ → Option (σ ⊕ ρ)} {sb2 : σ → Option (σ ⊕ ρ')} (φ : ρ → ρ') (hs : ∀ s, sb2 s = (sb1 s).map (Sum.map id φ)) : ∀ (n : Nat) (s : σ), iterN sb2 n s = (iterN sb1 n s).map φ
  | 0, _ => rfl
  | n + 1, s => by
    simp only [iterN, hs s]
    cases hb : sb1 s with
    | none => rfl
    | some o =>
      cases o with
      | inl s' => exact iterN_mapR φ hs n s'
      | inr x => rfl
theorem iter_mapR {σ ρ ρ' : Type} {sb1 : σ → Option (σ ⊕ ρ)} {sb2 : σ → Option (σ ⊕ ρ')} (φ : ρ → ρ') (hs : ∀ s, sb2 s = (sb1 s).map (Sum.map id φ)) (s : σ) : iter sb2 s = (iter sb1 s).map φ := iterN_mapR φ hs FUEL s
def inPh : Int ⊕ Int → Int ⊕ (Int × Int)
  | .inl x => .inl x
  | .inr x => .inr (x, 0)
def onB (a b p : SPoint) : Bool := (sideP a b p == 0) && ((decide (mn a.X b.X ≤ p.X) && decide (p.X ≤ mx a.X b.X)) && (decide (mn a.Y b.Y ≤ p.Y) && decide (p.Y ≤ mx a.Y b.Y)))
theorem l20On_eq (a b p : SPoint) : sh112 a b p = some (onB a b p) := by
  unfold sh112 onB sh65
  simp only [cross_eq, l00Min_eq, l00Max_eq, bindS]
  cases (sideP a b p == 0)
  · rfl
  · cases (decide (mn a.X b.X ≤ p.X) && decide (p.X ≤ mx a.X b.X)) <;> rfl
theorem mn_alt (a b : Int) : (if b < a then b else a) = mn a b := by unfold mn; split <;> (try split) <;> omega
theorem mx_alt (a b : Int) : (if a < b then b else a) = mx a b := by unfold mx; split <;> (try split) <;> omega
theorem inPoly_round (q : List SPoint) (p : SPoint) (s : Int × Int) : sh37_1 q p s = (sh83_1 q p s).map (Sum.map id inPh) := by
  obtain ⟨x, i⟩ := s
  simp only [sh37_1, sh83_1, side_eq, cross_eq, l20On_eq, sh79, mn_alt, mx_alt]
  cases decide (i < (q.length : Int))
  · rfl
  · simp only [cond_true]
    cases getI q i with
    | none => rfl
    | some a =>
      simp only [bindS]
      cases nzI (q.length : Int) with
      | none => rfl
      | some _ =>
        simp only [bindS]
        cases getI q ((w64 (i + 1)).tmod (q.length : Int)) with
        | none => rfl
        | some b =>
          simp only [bindS]
          unfold onB
          cases (sideP a b p == 0)
          · simp only [Bool.false_and, cond_false, bindS]
            cases decide (b.Y < a.Y) <;> simp only [cond_false, cond_true, bindS]
            · cases (decide (a.Y ≤ p.Y) && decide (p.Y < b.Y)) <;> simp only [cond_false, cond_true, bindS]
              · rfl
              · cases decide (0 < sideP a b p) <;> rfl
            · cases (decide (b.Y ≤ p.Y) && decide (p.Y < a.Y)) <;> simp only [cond_false, cond_true, bindS]
              · rfl
              · cases decide (0 < sideP b a p) <;> rfl
          · cases (decide (mn a.X b.X ≤ p.X) && decide (p.X ≤ mx a.X b.X))
            · simp only [Bool.false_and, Bool.and_false, cond_false, cond_true, bindS]
              cases decide (b.Y < a.Y) <;> simp only [cond_false, cond_true, bindS]
              · cases (decide (a.Y ≤ p.Y) && decide (p.Y < b.Y)) <;> simp only [cond_false, cond_true, bindS]
                · rfl
                · cases decide (0 < sideP a b p) <;> rfl
              · cases (decide (b.Y ≤ p.Y) && decide (p.Y < a.Y)) <;> simp only [cond_false, cond_true, bindS]
                · rfl
                · cases decide (0 < sideP b a p) <;> rfl
            · cases (decide (mn a.Y b.Y ≤ p.Y) && decide (p.Y ≤ mx a.Y b.Y))
              · simp only [Bool.and_self, Bool.and_false, cond_false, cond_true, bindS]
                cases decide (b.Y < a.Y) <;> simp only [cond_false, cond_true, bindS]
                · cases (decide (a.Y ≤ p.Y) && decide (p.Y < b.Y)) <;> simp only [cond_false, cond_true, bindS]
                  · rfl
                  · cases decide (0 < sideP a b p) <;> rfl
                · cases (decide (b.Y ≤ p.Y) && decide (p.Y < a.Y)) <;> simp only [cond_false, cond_true, bindS]
                  · rfl
                  · cases decide (0 < sideP b a p) <;> rfl
              · rfl
theorem inPoly_loop (q : List SPoint) (p : SPoint) (h : 3 ≤ q.length) (hl : q.length ≤ 300) : ∃ y, iter (sh83_1 q p) (0, 0) = some y := by
  obtain ⟨y, h1, _⟩ := iter_inv (sb := sh83_1 q p) (fun (s : Int × Int) => 0 ≤ s.2 ∧ s.2 ≤ q.length) (fun s => (q.length - s.2).toNat) (fun (_ : Int ⊕ Int) => True) (s0 := (0, 0)) (by simp) (by simp only; omega) (by
    rintro ⟨x, i⟩ ⟨h2, h3⟩
    simp only at h2 h3
    by_cases hi : i < q.length
    · obtain ⟨k, rfl⟩ : ∃ k : Nat, i = k := ⟨i.toNat, by omega⟩
      have hk : k < q.length := by omega
      simp only [sh83_1, hi, decide_true, cond_true, getI_lt hk, bindS, (next_eq hk hl).1, nzI_ok (show (q.length : Int) ≠ 0 by omega), l20On_eq, cross_eq]
      cases onB q[k] (nextP q k) p
      · left
        simp only [cond_false]
        cases decide ((nextP q k).Y < q[k].Y) <;> simp only [cond_false, cond_true, bindS]
        · cases (decide (q[k].Y ≤ p.Y) && decide (p.Y < (nextP q k).Y)) <;> simp only [cond_false, cond_true, bindS]
          · rw [w64_id (x := (k : Int) + 1) (by omega) (by omega)]
            exact ⟨_, rfl, ⟨by simp only; omega, by simp only; omega⟩, by simp only; omega⟩
          · cases decide (0 < sideP q[k] (nextP q k) p) <;> simp only [cond_false, cond_true, bindS] <;> rw [w64_id (x := (k : Int) + 1) (by omega) (by omega)] <;> exact ⟨_, rfl, ⟨by simp only; omega, by simp only; omega⟩, by simp only; omega⟩
        · cases (decide ((nextP q k).Y ≤ p.Y) && decide (p.Y < q[k].Y)) <;> simp only [cond_false, cond_true, bindS]
          · rw [w64_id (x := (k : Int) + 1) (by omega) (by omega)]
            exact ⟨_, rfl, ⟨by simp only; omega, by simp only; omega⟩, by simp only; omega⟩
          · cases decide (0 < sideP (nextP q k) q[k] p) <;> simp only [cond_false, cond_true, bindS] <;> rw [w64_id (x := (k : Int) + 1) (by omega) (by omega)] <;> exact ⟨_, rfl, ⟨by simp only; omega, by simp only; omega⟩, by simp only; omega⟩
      · right
        exact ⟨_, rfl, trivial⟩
    · right
      have hd : decide (i < (q.length : Int)) = false := decide_eq_false hi
      simp only [sh83_1, hd, cond_false]
      exact ⟨_, rfl, trivial⟩)
  exact ⟨y, h1⟩
theorem inPolygon_total (q : List SPoint) (p : SPoint) (h : q.length ≤ 1048576) : ∃ r, sh36 q p = some r ∧ sh37 q p = some r := by
  unfold sh36 sh37
  rw [l20Ok_eq q h, isPolygon_eq q h]
  simp only [bindS, isCorner_eq, sh65]
  cases hp : polyB q
  · exact ⟨_, rfl, rfl⟩
  · have hl := polyB_len hp
    have ec2 : (bif !(decide (-100000 ≤ p.X) && decide (p.X ≤ 100000)) then (some true) else some !(decide (-100000 ≤ p.Y) && decide (p.Y ≤ 100000))) = some (!cornerB p) := by
      unfold cornerB
      cases decide (-100000 ≤ p.X) && decide (p.X ≤ 100000) <;> rfl
    simp only [Bool.not_true, cond_false, ec2, bindS]
    cases cornerB p
    · exact ⟨_, rfl, rfl⟩
    · obtain ⟨y, hy⟩ := inPoly_loop q p hl.1 hl.2
      have hy2 := iter_mapR inPh (inPoly_round q p) (0, 0)
      rw [hy] at hy2
      simp only [Option.map_some] at hy2
      simp only [Bool.not_true, cond_false, sh83, hy, hy2, bindS]
      cases y with
      | inl x => exact ⟨_, rfl, rfl⟩
      | inr x => exact ⟨_, rfl, rfl⟩

/-! FnExactInPolygon -/
theorem law7 (q : List SPoint) (p : SPoint) (hl0 : q.length ≤ maxLen) : sh7 q p = some true := by
  unfold sh7
  have hm : maxLen = 9223372036854775807 := rfl
  rw [szPointS_eq q (by omega), bindS]
  by_cases h : q.length ≤ 1048576
  · obtain ⟨r, h1, h2⟩ := inPolygon_total q p h
    have hd : decide ((1048576 : Int) - (q.length : Int) < 0) = false := decide_eq_false (by omega)
    simp only [if_pos h, hd, cond_false, toPointS_eq q h, bindS, sh18, h1, h2, bne_self_eq_false, Bool.or_self, eqPointS_eq q q h, decide_true, Bool.not_true]
  · rw [if_neg h]; rfl
end Go.Sh
