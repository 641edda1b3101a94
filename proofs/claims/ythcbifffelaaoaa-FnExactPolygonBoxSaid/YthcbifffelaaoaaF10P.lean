/- Plain laws: what the shallow functions come to. -/
import Derived.Test.YthcbifffelaaoaaF10W0
namespace Go.Sh
open Go Go.RowKit

/-! iters -/
theorem w64_lo (x : Int) : -9223372036854775808 ≤ w64 x := by
  have := IntKind.wrap_i64 x
  show _ ≤ IntKind.i64.wrap x
  omega
theorem w64_hi (x : Int) : w64 x ≤ 9223372036854775807 := by
  have := IntKind.wrap_i64 x
  show IntKind.i64.wrap x ≤ _
  omega
theorem nzI_ok {a : Int} (h : a ≠ 0) : nzI a = some a := by simp [nzI, h]

/-- The loop that looks for the first element that passes. -/
theorem iter_find {T : Type} {sb : Int → Option (Int ⊕ (Unit ⊕ Int))} {xs : List T} {p : T → Bool} (hl : xs.length < 1099511627776)
    (hsb : ∀ (k : Nat) (h : k < xs.length), sb (k : Int) = if p xs[k] = true then some (.inr (.inr (k : Int))) else some (.inl ((k : Int) + 1))) (he : sb (xs.length : Int) = some (.inr (.inl ()))) :
    iter sb 0 = some (if xs.any p = true then .inr (xs.findIdx p : Int) else .inl ()) := by
  have h := iter_res (sb := sb) (fun k => (k : Int)) (fun k => if (xs.drop k).any p = true then (.inr (k + (xs.drop k).findIdx p : Nat) : Unit ⊕ Int) else .inl ()) xs.length (by omega) (fun k hk => ?_) (by
    rw [he, List.drop_of_length_le (Nat.le_refl _)]; simp)
  · simpa using h
  · rw [hsb k hk, List.drop_eq_getElem_cons hk]
    by_cases hx : p xs[k] = true
    · right
      rw [if_pos hx]
      simp only [List.any_cons, hx, Bool.true_or, if_true, List.findIdx_cons, cond_true, Nat.add_zero]
    · left
      rw [if_neg hx]
      refine ⟨by simp, ?_⟩
      have hx' : p xs[k] = false := by simpa using hx
      simp only [List.any_cons, hx', Bool.false_or, List.findIdx_cons, cond_false]
      split <;> simp
      omega

theorem iterN_congr {σ ρ : Type} {sb1 sb2 : σ → Option (σ ⊕ ρ)} (I : σ → Prop) (hs : ∀ s, I s → sb1 s = sb2 s ∧ ∀ s', sb2 s = some (.inl s') → I s') : ∀ (n : Nat) (s : σ), I s → iterN sb1 n s = iterN sb2 n s
  | 0, _, _ => rfl
  | n + 1, s, h => by
    obtain ⟨h1, h2⟩ := hs s h
    simp only [iterN, h1]
    cases hb : sb2 s with
    | none => rfl
    | some o =>
      cases o with
      | inl s' => exact iterN_congr I hs n s' (h2 s' hb)
      | inr x => rfl
/-- Two loops whose bodies agree where the invariant holds. -/
theorem iter_congr {σ ρ : Type} {sb1 sb2 : σ → Option (σ ⊕ ρ)} (I : σ → Prop) {s0 : σ} (h0 : I s0) (hs : ∀ s, I s → sb1 s = sb2 s ∧ ∀ s', sb2 s = some (.inl s') → I s') : iter sb1 s0 = iter sb2 s0 :=
  iterN_congr I hs FUEL s0 h0

/-- A loop over a list, as a fold. -/
theorem iter_fold {T σ S ρ : Type} {sb : S → Option (S ⊕ ρ)} (xs : List T) (st : Nat → σ → S) (g : σ → T → σ) (h : σ → ρ) (I : Nat → σ → Prop) (s0 : σ) (h0 : I 0 s0) (hl : xs.length < 1099511627776)
    (hsb : ∀ (k : Nat) (hk : k < xs.length) s, I k s → sb (st k s) = some (.inl (st (k + 1) (g s xs[k]))) ∧ I (k + 1) (g s xs[k])) (he : ∀ s, I xs.length s → sb (st xs.length s) = some (.inr (h s))) :
    iter sb (st 0 s0) = some (h (xs.foldl g s0)) ∧ I xs.length (xs.foldl g s0) := by
  have hI : ∀ k, k ≤ xs.length → I k ((xs.take k).foldl g s0) := by
    intro k
    induction k with
    | zero => intro _; simpa using h0
    | succ k ih =>
      intro hk
      rw [List.take_succ_eq_append_getElem (by omega), List.foldl_append]
      exact (hsb k (by omega) _ (ih (by omega))).2
  have hlast := hI xs.length (Nat.le_refl _)
  rw [List.take_length] at hlast
  refine ⟨?_, hlast⟩
  refine iter_steps (fun k => st k ((xs.take k).foldl g s0)) xs.length (by omega) (fun k hk => ?_) (by rw [List.take_length]; exact he _ hlast)
  rw [(hsb k hk _ (hI k (by omega))).1, List.take_succ_eq_append_getElem hk, List.foldl_append]
  rfl

/-- The greater one. -/
def mx (a b : Int) : Int := if a < b then b else a
def mn (a b : Int) : Int := if b < a then b else a
theorem mx_comm' (a b : Int) : (if b < a then a else b) = mx a b := by unfold mx; split <;> split <;> omega

/-! points -/
theorem szPointS_eq (xs : List SPoint) (h : xs.length ≤ 9223372036854775807) : sh27 xs 1048576 = some (if xs.length ≤ 1048576 then (1048576 - xs.length : Int) else -1) := by
  unfold sh27
  rw [w64_id (by omega) (by omega)]
  by_cases hl : xs.length ≤ 1048576
  · rw [if_pos hl, show decide ((1048576 : Int) - (xs.length : Int) < 0) = false from decide_eq_false (by omega)]; rfl
  · rw [if_neg hl, show decide ((1048576 : Int) - (xs.length : Int) < 0) = true from decide_eq_true (by omega)]; rfl

theorem toPointS_eq (xs : List SPoint) (h : xs.length ≤ 1048576) : sh29 xs = some xs := by
  unfold sh29
  rw [mkL_ok (by omega), bindS, iter_copy (xs := xs) (by omega) (fun i ys => by simp only [sh29_1, sh56, bindS]), bindS]

theorem eqPoint_eq (p q : SPoint) : sh41 p q = some (decide (p = q)) := by
  unfold sh41
  cases p with
  | mk a b =>
    cases q with
    | mk c d =>
      show (bif a != c then some false else (bif b != d then some false else some true)) = _
      by_cases h1 : a = c
      · subst h1
        rw [bne_self_eq_false, cond_false]
        by_cases h2 : b = d
        · subst h2; rw [bne_self_eq_false]; simp
        · rw [bne_iff_ne.2 h2]; simp [h2]
      · rw [bne_iff_ne.2 h1]; simp [h1]

theorem eqPointS_eq (xs ys : List SPoint) (h : xs.length ≤ 1048576) : sh31 xs ys = some (decide (xs = ys)) := by
  unfold sh31
  by_cases hl : xs.length = ys.length
  · have h1 : ((xs.length : Int) != (ys.length : Int)) = false := by simp; omega
    rw [h1, cond_false, iter_eq (xs := xs) (ys := ys) (by omega) hl (fun k hk => ?_) (by simp [sh31_1]), bindS]
    · by_cases he : xs = ys <;> simp [he, elimS]
    · have h2 : (k : Int) < xs.length := by omega
      have h3 : k < ys.length := by omega
      simp only [sh31_1, h2, decide_true, cond_true, getI_lt hk, getI_lt h3, bindS, eqPoint_eq]
      rw [w64_id (by omega) (by omega)]
      by_cases he : xs[k] = ys[k]
      · simp [he]
      · rw [if_neg he, decide_eq_false he]
        rfl
  · have h1 : ((xs.length : Int) != (ys.length : Int)) = true := by simp; omega
    rw [h1, cond_true]
    have : xs ≠ ys := fun h => hl (by rw [h])
    simp [this]

/-! polygon -/
def cornerB (p : SPoint) : Bool := (decide (-100000 ≤ p.X) && decide (p.X ≤ 100000)) && (decide (-100000 ≤ p.Y) && decide (p.Y ≤ 100000))
def polyB (q : List SPoint) : Bool := (decide (3 ≤ q.length) && decide (q.length ≤ 300)) && q.all cornerB

theorem l20Ok_eq (q : List SPoint) (h : q.length ≤ 1048576) : sh53 q = some (polyB q) := by
  unfold sh53 polyB
  rw [iter_all (xs := q) (p := cornerB) (r := false) (by omega) (fun k hk => ?_) (by simp [sh53_1]), bindS]
  · cases ha : q.all cornerB
    · simp [elimS]
    · simp only [elimS, if_true, sh52, bindS, Bool.and_true]
      congr 2
      · simp only [decide_eq_decide]; omega
      · simp only [decide_eq_decide]; omega
  · have h2 : (k : Int) < q.length := by omega
    simp only [sh53_1, sh52, h2, decide_true, cond_true, getI_lt hk, bindS]
    rw [w64_id (x := (k : Int) + 1) (by omega) (by omega)]
    unfold cornerB
    cases h0 : decide (-100000 ≤ q[k].X) && decide (q[k].X ≤ 100000) <;> cases h1 : decide (-100000 ≤ q[k].Y) && decide (q[k].Y ≤ 100000) <;> rfl

theorem isCorner_eq (p : SPoint) : sh80 p = some (cornerB p) := by
  unfold sh80 sh51 cornerB
  simp only [bindS]
  cases decide (-100000 ≤ p.X) && decide (p.X ≤ 100000) <;> rfl

theorem isPolygon_eq (q : List SPoint) (h : q.length ≤ 1048576) : sh57 q = some (polyB q) := by
  unfold sh57 sh78f79 sh88f79 sh51
  rw [iter_find (xs := q) (p := fun x => !cornerB x) (by omega) (fun k hk => ?_) (by simp [sh88f79_1])]
  · simp only [bindS]
    unfold polyB
    have e1 : decide ((3 : Int) ≤ (q.length : Int)) = decide (3 ≤ q.length) := by simp only [decide_eq_decide]; omega
    have e2 : decide ((q.length : Int) ≤ 300) = decide (q.length ≤ 300) := by simp only [decide_eq_decide]; omega
    rw [e1, e2]
    cases hc : decide (3 ≤ q.length) && decide (q.length ≤ 300)
    · rfl
    · have ha : q.any (fun x => !cornerB x) = !q.all cornerB := by rw [List.all_eq_not_any_not]; simp
      rw [ha]
      cases q.all cornerB
      · simp [elimS]
      · simp [elimS]
  · have h2 : (k : Int) < q.length := by omega
    simp only [sh88f79_1, sh79, isCorner_eq, h2, decide_true, cond_true, getI_lt hk, bindS]
    rw [w64_id (x := (k : Int) + 1) (by omega) (by omega)]
    cases cornerB q[k] <;> rfl

theorem polyB_len {q : List SPoint} (h : polyB q = true) : 3 ≤ q.length ∧ q.length ≤ 300 := by
  unfold polyB at h
  simp only [Bool.and_eq_true, decide_eq_true_eq] at h
  exact h.1

/-! max -/
theorem l00Max_eq (a b : Int) : sh77 a b = some (mx a b) := by
  unfold sh77
  rw [← mx_comm']
  by_cases h : b < a <;> simp [h]

/-! min -/
theorem l00Min_eq (a b : Int) : sh84 a b = some (mn a b) := by
  unfold sh84 mn
  by_cases h : a < b
  · have : ¬ b < a := by omega
    simp [h, this]
  · by_cases h2 : b < a <;> simp [h, h2] <;> omega

/-! boxof -/
def boxS (s : SPoint × SPoint) (p : SPoint) : SPoint × SPoint := (⟨mn s.1.X p.X, mn s.1.Y p.Y⟩, ⟨mx s.2.X p.X, mx s.2.Y p.Y⟩)
theorem boxS_same (p : SPoint) : boxS (p, p) p = (p, p) := by
  unfold boxS mn mx
  simp

theorem boxOf_eq (p : SPoint) (t : List SPoint) (h : t.length ≤ 1048576) : sh65 (p :: t) = some (t.foldl boxS (p, p)) := by
  unfold sh65
  have hg : getI (p :: t) 0 = some p := rfl
  rw [hg, bindS, bindS]
  have hi := iter_fold (sb := sh65_1 (p :: t)) (p :: t) (fun k s => ((k : Int), s.1, s.2)) boxS (fun s => (s.1, s.2)) (fun _ _ => True) (p, p) trivial (by simp; omega) (fun k hk s _ => ⟨by
      have h2 : (k : Int) < (p :: t).length := by omega
      simp only [sh65_1, h2, decide_true, cond_true, getI_lt hk, bindS]
      simp only [List.length_cons] at hk
      rw [w64_id (by omega) (by omega)]
      rfl, trivial⟩) (fun s _ => by
      have hd : decide (((p :: t).length : Int) < ((p :: t).length : Int)) = false := by simp
      simp only [sh65_1, hd, cond_false])
  have h1 := hi.1
  simp only [Int.natCast_zero] at h1
  rw [h1, bindS, List.foldl_cons, boxS_same]

theorem l19Box_eq (p : SPoint) (t : List SPoint) (h : t.length ≤ 1048576) : sh64 (p :: t) = some (t.foldl boxS (p, p)) := by
  unfold sh64
  have hg : getI (p :: t) 0 = some p := rfl
  rw [hg, bindS, bindS]
  have hi := iter_fold (sb := sh64_1 (p :: t)) t (fun k s => ((k : Int) + 1, s.1, s.2)) boxS (fun s => (s.1, s.2)) (fun _ _ => True) (p, p) trivial (by omega) (fun k hk s _ => ⟨by
      have hk1 : k + 1 < (p :: t).length := by simp; omega
      have h2 : (k : Int) + 1 < (p :: t).length := by omega
      have hgk : getI (p :: t) ((k : Int) + 1) = some t[k] := by have := getI_lt hk1; simpa using this
      simp only [sh64_1, h2, decide_true, cond_true, hgk, bindS, l00Min_eq, l00Max_eq]
      rw [w64_id (by omega) (by omega)]
      rfl, trivial⟩) (fun s _ => by
      have hd : decide ((t.length : Int) + 1 < ((p :: t).length : Int)) = false := by simp
      simp only [sh64_1, hd, cond_false])
  have h1 := hi.1
  simp only [Int.natCast_zero, Int.zero_add] at h1
  rw [h1, bindS]

theorem polygonBox_total (q : List SPoint) (h : q.length ≤ 1048576) : ∃ r, sh40 q = some r ∧ sh39 q = some r := by
  unfold sh40 sh39
  rw [isPolygon_eq q h, l20Ok_eq q h]
  simp only [bindS]
  cases hp : polyB q
  · exact ⟨_, rfl, rfl⟩
  · obtain ⟨h3, hl⟩ := polyB_len hp
    cases q with
    | nil => simp at h3
    | cons p t =>
      simp only [List.length_cons] at h
      simp only [Bool.not_true, cond_false, boxOf_eq p t (by omega), l19Box_eq p t (by omega), bindS]
      exact ⟨_, rfl, rfl⟩

/-! FnExactPolygonBox -/
theorem law10 (q : List SPoint) (hl0 : q.length ≤ maxLen) : sh10 q = some true := by
  unfold sh10
  have hm : maxLen = 9223372036854775807 := rfl
  rw [szPointS_eq q (by omega), bindS]
  by_cases h : q.length ≤ 1048576
  · obtain ⟨r, h1, h2⟩ := polygonBox_total q h
    have hd : decide ((1048576 : Int) - (q.length : Int) < 0) = false := decide_eq_false (by omega)
    simp only [if_pos h, hd, cond_false, toPointS_eq q h, bindS, h1, h2, eqPoint_eq, bne_self_eq_false, Bool.or_self, eqPointS_eq q q h, decide_true, Bool.not_true]
  · rw [if_neg h]; rfl
end Go.Sh
