/- Plain laws: what the shallow functions come to. -/
import Derived.Test.YthcoacomnljikaaF12W0
set_option linter.unusedVariables false
set_option linter.unusedSimpArgs false
namespace Go.Sh
open Go Go.RowKit

/-! iters -/
theorem w64_lo (x : Int) : -9223372036854775808 ≤ w64 x := by
  have := IntKind.wrap_i64 x
  show _ ≤ IntKind.i64.wrap x
  omega
theorem w64_hi (x : Int) : w64 x ≤ 9223372036854775807 := by
  have := IntKind.wrap_i64 x
  show IntKind.i64.wrap x ≤ _
  omega
theorem getI_toNat {T : Type} {xs : List T} {i : Int} (h0 : 0 ≤ i) (h : i.toNat < xs.length) : getI xs i = some xs[i.toNat] := by
  unfold getI; rw [if_pos h0]; exact List.getElem?_eq_getElem h
theorem nzI_ok {a : Int} (h : a ≠ 0) : nzI a = some a := by simp [nzI, h]

/-- The loop that looks for the first element that passes. -/
theorem iter_find {T : Type} {sb : Int → Option (Int ⊕ (Unit ⊕ Int))} {xs : List T} {p : T → Bool} (hl : xs.length < 1099511627776)
    (hsb : ∀ (k : Nat) (h : k < xs.length), sb (k : Int) = if p xs[k] = true then some (.inr (.inr (k : Int))) else some (.inl ((k : Int) + 1))) (he : sb (xs.length : Int) = some (.inr (.inl ()))) :
    iter sb 0 = some (if xs.any p = true then .inr (xs.findIdx p : Int) else .inl ()) := by
  have h := iter_res (sb := sb) (fun k => (k : Int)) (fun k => if (xs.drop k).any p = true then (.inr (k + (xs.drop k).findIdx p : Nat) : Unit ⊕ Int) else .inl ()) xs.length (by omega) (fun k hk => ?_) (by
    rw [he, List.drop_of_length_le (Nat.le_refl _)]; simp)
  · simpa using h
  · rw [hsb k hk, List.drop_eq_getElem_cons hk]
    by_cases hx : p xs[k] = true
    · right
      rw [if_pos hx]
      simp only [List.any_cons, hx, Bool.true_or, if_true, List.findIdx_cons, cond_true, Nat.add_zero]
    · left
      rw [if_neg hx]
      refine ⟨by simp, ?_⟩
      have hx' : p xs[k] = false := by simpa using hx
      simp only [List.any_cons, hx', Bool.false_or, List.findIdx_cons, cond_false]
      split <;> simp
      omega

theorem iterN_congr {σ ρ : Type} {sb1 sb2 : σ → Option (σ ⊕ ρ)} (I : σ → Prop) (hs : ∀ s, I s → sb1 s = sb2 s ∧ ∀ s', sb2 s = some (.inl s') → I s') : ∀ (n : Nat) (s : σ), I s → iterN sb1 n s = iterN sb2 n s
  | 0, _, _ => rfl
  | n + 1, s, h => by
    obtain ⟨h1, h2⟩ := hs s h
    simp only [iterN, h1]
    cases hb : sb2 s with
    | none => rfl
    | some o =>
      cases o with
      | inl s' => exact iterN_congr I hs n s' (h2 s' hb)
      | inr x => rfl
/-- Two loops whose bodies agree where the invariant holds. -/
theorem iter_congr {σ ρ : Type} {sb1 sb2 : σ → Option (σ ⊕ ρ)} (I : σ → Prop) {s0 : σ} (h0 : I s0) (hs : ∀ s, I s → sb1 s = sb2 s ∧ ∀ s', sb2 s = some (.inl s') → I s') : iter sb1 s0 = iter sb2 s0 :=
  iterN_congr I hs FUEL s0 h0

/-- A loop over a list, as a fold. -/
theorem iter_fold {T σ S ρ : Type} {sb : S → Option (S ⊕ ρ)} (xs : List T) (st : Nat → σ → S) (g : σ → T → σ) (h : σ → ρ) (I : Nat → σ → Prop) (s0 : σ) (h0 : I 0 s0) (hl : xs.length < 1099511627776)
    (hsb : ∀ (k : Nat) (hk : k < xs.length) s, I k s → sb (st k s) = some (.inl (st (k + 1) (g s xs[k]))) ∧ I (k + 1) (g s xs[k])) (he : ∀ s, I xs.length s → sb (st xs.length s) = some (.inr (h s))) :
    iter sb (st 0 s0) = some (h (xs.foldl g s0)) ∧ I xs.length (xs.foldl g s0) := by
  have hI : ∀ k, k ≤ xs.length → I k ((xs.take k).foldl g s0) := by
    intro k
    induction k with
    | zero => intro _; simpa using h0
    | succ k ih =>
      intro hk
      rw [List.take_succ_eq_append_getElem (by omega), List.foldl_append]
      exact (hsb k (by omega) _ (ih (by omega))).2
  have hlast := hI xs.length (Nat.le_refl _)
  rw [List.take_length] at hlast
  refine ⟨?_, hlast⟩
  refine iter_steps (fun k => st k ((xs.take k).foldl g s0)) xs.length (by omega) (fun k hk => ?_) (by rw [List.take_length]; exact he _ hlast)
  rw [(hsb k hk _ (hI k (by omega))).1, List.take_succ_eq_append_getElem hk, List.foldl_append]
  rfl

/-- The greater one. -/
def mx (a b : Int) : Int := if a < b then b else a
def mn (a b : Int) : Int := if b < a then b else a
theorem mx_comm' (a b : Int) : (if b < a then a else b) = mx a b := by unfold mx; split <;> split <;> omega
theorem foldl_snoc {α β : Type} (f : α → β) : ∀ (xs : List α) (a : List β), xs.foldl (fun acc m => acc ++ [f m]) a = a ++ xs.map f
  | [], a => by simp
  | x :: xs, a => by rw [List.foldl_cons, foldl_snoc f xs]; simp

/-! max -/
theorem l00Max_eq (a b : Int) : sh71 a b = some (mx a b) := by
  unfold sh71
  rw [← mx_comm']
  by_cases h : b < a <;> simp [h]

/-! validword -/
/-- A move fits. -/
def okM (s m : Int) : Bool := !(m == 0) && (decide (w64 (1 - s) ≤ m) && decide (m ≤ w64 (s - 1)))
def validW (s : Int) (w : List Int) : Bool := (decide (2 ≤ s) && decide (s ≤ 12)) && (decide (w.length ≤ 200) && w.all (okM s))

theorem l23Ok_eq (s : Int) (w : List Int) (h : w.length ≤ 1048576) : sh69 s w = some (validW s w) := by
  unfold sh69 sh65
  rw [bindS]
  unfold validW
  cases hs : (decide (2 ≤ s) && decide (s ≤ 12))
  · simp
  · by_cases hl : w.length ≤ 200
    · have hd : decide (200 < (w.length : Int)) = false := by simp; omega
      simp only [hd, Bool.not_true, Bool.or_self, cond_false]
      rw [iter_all (xs := w) (p := okM s) (r := false) (by omega) (fun k hk => ?_) (by simp [sh69_1]), bindS]
      · cases ha : w.all (okM s) <;> simp [elimS, hl]
      · have h2 : (k : Int) < w.length := by omega
        simp only [sh69_1, sh65, h2, decide_true, cond_true, getI_lt hk, bindS]
        rw [w64_id (x := (k : Int) + 1) (by omega) (by omega)]
        unfold okM
        cases h0 : w[k] == 0 <;> simp [bindS]
        cases h1 : decide (w64 (1 - s) ≤ w[k]) <;> cases h3 : decide (w[k] ≤ w64 (s - 1)) <;> simp_all
    · have hd : decide (200 < (w.length : Int)) = true := by simp; omega
      simp [hd, hl]

theorem implValidWord_eq (s : Int) (w : List Int) (h : w.length ≤ 1048576) : sh72 s w = some (validW s w) := by
  unfold sh72
  rw [iter_all (xs := w) (p := okM s) (r := false) (by omega) (fun k hk => ?_) (by simp [sh72_1]), bindS]
  · unfold validW
    cases ha : w.all (okM s)
    · simp [elimS]
    · simp only [elimS, if_true, sh79, bindS, Bool.and_true]
      congr 2
      simp only [decide_eq_decide]
      omega
  · have h2 : (k : Int) < w.length := by omega
    simp only [sh72_1, sh79, h2, decide_true, cond_true, getI_lt hk, bindS]
    rw [w64_id (x := (k : Int) + 1) (by omega) (by omega)]
    unfold okM
    cases h0 : w[k] == 0 <;> simp [bindS]
    cases h1 : decide (w64 (1 - s) ≤ w[k]) <;> cases h3 : decide (w[k] ≤ w64 (s - 1)) <;> simp_all

theorem validW_len {s : Int} {w : List Int} (h : validW s w = true) : w.length ≤ 200 := by
  unfold validW at h
  simp only [Bool.and_eq_true, decide_eq_true_eq] at h
  exact h.2.1

/-! order -/
/-- The greater place of a move. -/
def rgt (m : Int) : Int := mx m (w64 (0 - m))
theorem l15Size_eq (m : Int) : sh70 m = some (rgt m) := by
  unfold sh70; rw [l00Max_eq]; rfl
theorem rightOf_eq (m : Int) : sh73 m = some (rgt m) := rfl
theorem rgt_bounds {s m : Int} (hs : 2 ≤ s) (hs2 : s ≤ 12) (h : okM s m = true) : 1 ≤ rgt m ∧ rgt m ≤ s - 1 := by
  unfold okM at h
  simp only [Bool.and_eq_true, Bool.not_eq_true', beq_eq_false_iff_ne, decide_eq_true_eq] at h
  rw [w64_id (by omega) (by omega), w64_id (by omega) (by omega)] at h
  unfold rgt mx
  rw [w64_id (by omega) (by omega)]
  split <;> omega
def swapL (xs : List Int) (k : Nat) : List Int := (xs.set (k - 1) (xs.getD k 0)).set k (xs.getD (k - 1) 0)
theorem swapL_length (xs : List Int) (k : Nat) : (swapL xs k).length = xs.length := by simp [swapL]

theorem first_eq (s : Int) (h0 : 0 ≤ s) (h1 : s ≤ 12) : ∃ l, sh76 s = some l ∧ l.length = s.toNat ∧ ∀ x ∈ l, 0 ≤ x ∧ x < s := by
  unfold sh76
  obtain ⟨x, hx, hr⟩ := iter_inv (sb := sh76_1 s) (fun (p : Int × List Int) => 0 ≤ p.1 ∧ p.1 ≤ s ∧ (p.2.length : Int) = p.1 ∧ ∀ x ∈ p.2, 0 ≤ x ∧ x < s) (fun p => (s - p.1).toNat) (fun (l : List Int) => l.length = s.toNat ∧ ∀ x ∈ l, 0 ≤ x ∧ x < s) (s0 := (0, [])) (by simp; omega) (by simp only; omega) (by
    rintro ⟨k, ys⟩ ⟨h2, h3, h4, h5⟩
    simp only at h2 h3 h4 h5
    by_cases hk : k < s
    · left
      simp only [sh76_1, hk, decide_true, cond_true]
      rw [appL_ok (by simp only [List.length_cons, List.length_nil]; omega), bindS, w64_id (x := k + 1) (by omega) (by omega)]
      refine ⟨_, rfl, ⟨by simp only; omega, by simp only; omega, by simp only [List.length_append, List.length_cons, List.length_nil]; omega, ?_⟩, by simp only; omega⟩
      intro x hx
      rcases List.mem_append.1 hx with h | h
      · exact h5 x h
      · simp at h; omega
    · right
      have hd : decide (k < s) = false := decide_eq_false hk
      simp only [sh76_1, hd, cond_false]
      exact ⟨_, rfl, by omega, h5⟩)
  exact ⟨x, by rw [hx]; rfl, hr⟩

theorem l23Swap_eq (xs : List Int) (m : Int) (h1 : 1 ≤ rgt m) (h2 : rgt m < xs.length) (h3 : xs.length ≤ 12) : sh77 xs m = some (swapL xs (rgt m).toNat) := by
  unfold sh77
  rw [l15Size_eq, bindS]
  obtain ⟨k, hk⟩ : ∃ k : Nat, rgt m = k := ⟨(rgt m).toNat, by omega⟩
  rw [hk] at h1 h2 ⊢
  have hw : w64 ((k : Int) - 1) = ((k - 1 : Nat) : Int) := by rw [w64_id (by omega) (by omega)]; omega
  have ha : k < xs.length := by omega
  have hb : k - 1 < xs.length := by omega
  rw [hw, getI_lt hb, getI_lt ha]
  simp only [bindS, Int.toNat_natCast]
  rw [getI_lt (by rw [List.length_set]; exact ha), bindS]
  simp [swapL, List.getD, List.getElem?_eq_getElem ha, List.getElem?_eq_getElem hb]

/-! pathofstrand -/
theorem index_same (o : List Int) (x : Int) : sh82 o x = sh78 o x := by
  unfold sh82 sh78
  have e : sh82_1 o x = sh78_1 o x := by
    funext i
    simp only [sh82_1, sh78_1]
    cases decide (i < (o.length : Int))
    · rfl
    · simp only [cond_true]
      cases getI o i with
      | none => rfl
      | some y =>
        simp only [bindS]
        by_cases h : x = y
        · subst h; rfl
        · rw [beq_eq_false_iff_ne.2 h, beq_eq_false_iff_ne.2 (Ne.symm h)]
  rw [e]
def plc (o : List Int) (x : Int) : Int := (sh78 o x).getD 0
theorem place_eq (o : List Int) (x : Int) (h : o.length ≤ 1048576) : sh78 o x = some (plc o x) := by
  have key : ∃ r, sh78 o x = some r := by
    unfold sh78
    rw [iter_find (xs := o) (p := fun y => y == x) (by omega) (fun k hk => ?_) (by simp [sh78_1]), bindS]
    · cases o.any fun y => y == x
      · exact ⟨_, rfl⟩
      · exact ⟨_, rfl⟩
    · have h2 : (k : Int) < o.length := by omega
      simp only [sh78_1, h2, decide_true, cond_true, getI_lt hk, bindS]
      rw [w64_id (by omega) (by omega)]
      cases o[k] == x <;> rfl
  obtain ⟨r, hr⟩ := key
  unfold plc
  rw [hr]; rfl
def pstep (t : Int) (s : List Int × List Int) (m : Int) : List Int × List Int := (swapL s.1 (rgt m).toNat, s.2 ++ [plc (swapL s.1 (rgt m).toNat) t])

/-! eq_i64s -/
theorem eqI64_eq (xs ys : List Int) (h : xs.length ≤ 1048576) : sh27 xs ys = some (decide (xs = ys)) := by
  unfold sh27
  by_cases hl : xs.length = ys.length
  · have h1 : ((xs.length : Int) != (ys.length : Int)) = false := by simp; omega
    rw [h1, cond_false, iter_eq (xs := xs) (ys := ys) (by omega) hl (fun k hk => ?_) (by simp [sh27_1]), bindS]
    · by_cases he : xs = ys <;> simp [he, elimS]
    · have h2 : (k : Int) < xs.length := by omega
      have h3 : k < ys.length := by omega
      simp only [sh27_1, h2, decide_true, cond_true, getI_lt hk, getI_lt h3, bindS]
      rw [w64_id (by omega) (by omega)]
      by_cases he : xs[k] = ys[k]
      · simp [he]
      · rw [if_neg he, show (xs[k] != ys[k]) = true from bne_iff_ne.2 he]
        rfl
  · have h1 : ((xs.length : Int) != (ys.length : Int)) = true := by simp; omega
    rw [h1, cond_true]
    have : xs ≠ ys := fun h => hl (by rw [h])
    simp [this]

/-! mark_i64s -/
/-- The numbers that are laid into a result to see whether it is of one's own. -/
def marksFrom (m : Int) (n : Nat) : List Int := (List.range n).map fun (i : Nat) => m + (i : Int)
theorem marksFrom_length (m : Int) (n : Nat) : (marksFrom m n).length = n := by simp [marksFrom]
theorem marksFrom_get (m : Int) (n k : Nat) (h : k < n) : (marksFrom m n)[k]'(by rw [marksFrom_length]; exact h) = m + k := by simp [marksFrom]
theorem marksFrom_succ (m : Int) (k : Nat) : marksFrom m (k + 1) = marksFrom m k ++ [m + k] := by simp [marksFrom, List.range_succ]

theorem markI64_eq (xs : List Int) (m : Int) (h0 : 0 ≤ m) (h1 : m ≤ 1099511627776) (h : xs.length ≤ 1099511627776) : sh28 xs m = some (m + xs.length, marksFrom m xs.length) := by
  unfold sh28
  have hi := iter_steps (sb := sh28_1 xs) (fun k => (m + (k : Int), (k : Int), marksFrom m k ++ xs.drop k)) xs.length (x := (m + xs.length, marksFrom m xs.length)) (by omega) (fun k hk => ?_) ?_
  · simp only [List.drop_zero] at hi
    rw [show marksFrom m 0 ++ xs = xs from rfl] at hi
    simp only [Int.natCast_zero, Int.add_zero] at hi
    rw [hi, bindS]
  · have h2 : (k : Int) < xs.length := by omega
    have hl : k < (marksFrom m k ++ xs.drop k).length := by rw [List.length_append, marksFrom_length, List.length_drop]; omega
    simp only [sh28_1, h2, decide_true, cond_true, getI_lt hl, bindS, Int.toNat_natCast]
    rw [w64_id (by omega) (by omega), w64_id (by omega) (by omega), List.set_append, if_neg (by rw [marksFrom_length]; omega), marksFrom_length, Nat.sub_self, List.drop_eq_getElem_cons hk, List.set_cons_zero, marksFrom_succ, List.append_assoc]
    simp only [Option.some.injEq, Sum.inl.injEq, Prod.mk.injEq]
    refine ⟨by omega, by omega, rfl⟩
  · have hd : decide ((xs.length : Int) < (xs.length : Int)) = false := by simp
    simp only [sh28_1, hd, cond_false, List.drop_length, List.append_nil]

theorem heldI64_eq (m : Int) (n : Nat) (h0 : 0 ≤ m) (h1 : m ≤ 1099511627776) (h : n ≤ 1099511627776) : sh35 (marksFrom m n) m = some (m + n) := by
  unfold sh35
  have hi := iter_steps (sb := sh35_1 (marksFrom m n)) (fun k => (m + (k : Int), (k : Int))) n (x := .inl (m + n)) (by omega) (fun k hk => ?_) ?_
  · simp only [Int.natCast_zero, Int.add_zero] at hi
    rw [hi, bindS]
    rfl
  · have h2 : (k : Int) < (marksFrom m n).length := by rw [marksFrom_length]; omega
    have hl : k < (marksFrom m n).length := by rw [marksFrom_length]; exact hk
    simp only [sh35_1, h2, decide_true, cond_true, getI_lt hl, bindS, marksFrom_get m n k hk, bne_self_eq_false, cond_false]
    rw [w64_id (by omega) (by omega), w64_id (by omega) (by omega)]
    simp only [Option.some.injEq, Sum.inl.injEq, Prod.mk.injEq]
    refine ⟨by omega, by omega⟩
  · have hd : decide ((n : Int) < ((marksFrom m n).length : Int)) = false := by rw [marksFrom_length]; simp
    simp only [sh35_1, hd, cond_false]

/-! mark_i64ss -/
theorem iter_done {σ ρ : Type} {sb : σ → Option (σ ⊕ ρ)} {s : σ} {x : ρ} (h : sb s = some (.inr x)) : iter sb s = some x := iter_steps (fun _ => s) 0 (by omega) (fun k hk => by omega) h
def totL : List (List Int) → Nat
  | [] => 0
  | r :: rs => r.length + totL rs
theorem totL_snoc : ∀ (rs : List (List Int)) (r : List Int), totL (rs ++ [r]) = totL rs + r.length
  | [], r => by simp [totL]
  | x :: xs, r => by rw [List.cons_append, totL, totL, totL_snoc xs r]; omega
theorem totL_bound {B : Nat} : ∀ {rs : List (List Int)}, (∀ r ∈ rs, r.length ≤ B) → totL rs ≤ B * rs.length
  | [], _ => by simp [totL]
  | x :: xs, h => by
    have h1 := h x (List.mem_cons_self ..)
    have h2 := totL_bound (fun r hr => h r (List.mem_cons_of_mem _ hr))
    rw [totL, List.length_cons, Nat.mul_succ]; omega
theorem totL_take : ∀ (rs : List (List Int)) (k : Nat), totL (rs.take k) ≤ totL rs
  | [], k => by simp [totL]
  | x :: xs, 0 => by simp [totL]
  | x :: xs, k + 1 => by have := totL_take xs k; rw [List.take_succ_cons, totL, totL]; omega
def markSS : Int → List (List Int) → List (List Int)
  | _, [] => []
  | m, r :: rs => marksFrom m r.length :: markSS (m + r.length) rs
theorem markSS_snoc : ∀ (m : Int) (rs : List (List Int)) (r : List Int), markSS m (rs ++ [r]) = markSS m rs ++ [marksFrom (m + totL rs) r.length]
  | m, [], r => by simp [markSS, totL]
  | m, x :: xs, r => by
    rw [List.cons_append, markSS, markSS, markSS_snoc _ xs r, List.cons_append, totL, show m + (x.length : Int) + (totL xs : Int) = m + ((x.length + totL xs : Nat) : Int) by omega]
theorem markSS_length : ∀ (m : Int) (rs : List (List Int)), (markSS m rs).length = rs.length
  | m, [] => rfl
  | m, x :: xs => by rw [markSS, List.length_cons, List.length_cons, markSS_length]
theorem markSS_get : ∀ (m : Int) (rs : List (List Int)) (k : Nat) (h : k < rs.length), (markSS m rs)[k]'(by rw [markSS_length]; exact h) = marksFrom (m + totL (rs.take k)) rs[k].length
  | m, x :: xs, 0, h => by simp [markSS, totL]
  | m, x :: xs, k + 1, h => by
    simp only [markSS, List.getElem_cons_succ]
    rw [markSS_get _ xs k (by simpa using h), List.take_succ_cons, totL]
    congr 1
    omega
theorem markI64SS_eq (xs : List (List Int)) (m : Int) (h0 : 0 ≤ m) (h1 : m ≤ 1048576) (hl : xs.length ≤ 1048576) (ht : totL xs ≤ 1048576) : sh29 xs m = some (m + totL xs, markSS m xs) := by
  unfold sh29
  have hi := iter_steps (sb := sh29_1 xs) (fun k => (m + (totL (xs.take k) : Int), (k : Int), markSS m (xs.take k) ++ xs.drop k)) xs.length (x := (m + totL xs, markSS m xs)) (by omega) (fun k hk => ?_) ?_
  · simp only [List.take_zero, List.drop_zero] at hi
    rw [show markSS m [] ++ xs = xs from rfl, show (totL [] : Nat) = 0 from rfl] at hi
    simp only [Int.natCast_zero, Int.add_zero] at hi
    rw [hi, bindS]
  · have h2 : (k : Int) < xs.length := by omega
    have hml : (markSS m (xs.take k)).length = k := by rw [markSS_length, List.length_take]; omega
    have hlk : k < (markSS m (xs.take k) ++ xs.drop k).length := by rw [List.length_append, hml, List.length_drop]; omega
    have hg : (markSS m (xs.take k) ++ xs.drop k)[k] = xs[k] := by
      rw [List.getElem_append_right (by omega)]
      simp [hml]
    have htk := totL_take xs k
    have htk2 : totL (xs.take (k + 1)) = totL (xs.take k) + xs[k].length := by rw [List.take_succ_eq_append_getElem hk, totL_snoc]
    have htk3 := totL_take xs (k + 1)
    simp only [sh29_1, h2, decide_true, cond_true, getI_lt hlk, hg, bindS, markI64_eq xs[k] (m + (totL (xs.take k) : Int)) (by omega) (by omega) (by omega), Int.toNat_natCast]
    rw [w64_id (by omega) (by omega), List.set_append, if_neg (by omega), hml, Nat.sub_self, List.drop_eq_getElem_cons hk, List.set_cons_zero, htk2]
    rw [List.take_succ_eq_append_getElem hk, markSS_snoc, List.append_assoc]
    simp only [Option.some.injEq, Sum.inl.injEq, Prod.mk.injEq]
    refine ⟨by omega, by omega, rfl⟩
  · have hd : decide ((xs.length : Int) < (xs.length : Int)) = false := by simp
    simp only [sh29_1, hd, cond_false, List.drop_length, List.append_nil, List.take_length]
theorem heldI64SS_eq (xs : List (List Int)) (m : Int) (h0 : 0 ≤ m) (h1 : m ≤ 1048576) (hl : xs.length ≤ 1048576) (ht : totL xs ≤ 1048576) : sh30 (markSS m xs) m = some (m + totL xs) := by
  unfold sh30
  have hi := iter_steps (sb := sh30_1 (markSS m xs)) (fun k => (m + (totL (xs.take k) : Int), (k : Int))) xs.length (x := .inl (m + totL xs)) (by omega) (fun k hk => ?_) ?_
  · simp only [List.take_zero] at hi
    rw [show (totL [] : Nat) = 0 from rfl] at hi
    simp only [Int.natCast_zero, Int.add_zero] at hi
    rw [hi, bindS]
    rfl
  · have hlk : k < (markSS m xs).length := by rw [markSS_length]; exact hk
    have h2 : (k : Int) < (markSS m xs).length := by omega
    have htk := totL_take xs k
    have htk2 : totL (xs.take (k + 1)) = totL (xs.take k) + xs[k].length := by rw [List.take_succ_eq_append_getElem hk, totL_snoc]
    have htk3 := totL_take xs (k + 1)
    simp only [sh30_1, h2, decide_true, cond_true, getI_lt hlk, markSS_get m xs k hk, bindS, heldI64_eq (m + (totL (xs.take k) : Int)) xs[k].length (by omega) (by omega) (by omega)]
    rw [decide_eq_false (by omega), cond_false, w64_id (by omega) (by omega), htk2]
    simp only [Option.some.injEq, Sum.inl.injEq, Prod.mk.injEq]
    refine ⟨by omega, by omega⟩
  · have hd : decide ((xs.length : Int) < ((markSS m xs).length : Int)) = false := by rw [markSS_length]; simp
    simp only [sh30_1, hd, cond_false, List.take_length]
theorem eqI64SS_refl (xs : List (List Int)) (hl : xs.length ≤ 1048576) (hx : ∀ r ∈ xs, r.length ≤ 1048576) : sh26 xs xs = some true := by
  unfold sh26
  rw [bne_self_eq_false, cond_false, iter_all (xs := xs) (p := fun _ => true) (r := false) (by omega) (fun k hk => ?_) (by simp [sh26_1]), bindS]
  · simp [elimS]
  · have h2 : (k : Int) < xs.length := by omega
    simp only [sh26_1, h2, decide_true, cond_true, getI_lt hk, bindS, eqI64_eq xs[k] xs[k] (hx _ (List.getElem_mem hk)), Bool.not_true, cond_false, if_true]
    rw [w64_id (by omega) (by omega)]

/-! to_i64s -/
theorem toI64_eq (xs : List Int) (h : xs.length ≤ 1048576) : sh24 xs = some xs := by
  unfold sh24
  rw [mkL_ok (by omega), bindS, iter_copy (xs := xs) (by omega) (fun i ys => rfl), bindS]

/-! order23 -/
theorem l23Order_eq (s : Int) (w : List Int) (hv : validW s w = true) : ∃ l, sh97 s w = some l ∧ l.length = s.toNat := by
  have hlen := validW_len hv
  unfold validW at hv
  simp only [Bool.and_eq_true, decide_eq_true_eq, List.all_eq_true] at hv
  obtain ⟨⟨hs, hs2⟩, _, hall⟩ := hv
  unfold sh97
  obtain ⟨l0, h0, hl0, _⟩ := first_eq s (by omega) (by omega)
  rw [h0, bindS]
  have hi := iter_fold (sb := sh97_1 w) w (fun k (o : List Int) => ((k : Int), o)) (fun o m => swapL o (rgt m).toNat) (fun o => o) (fun _ o => o.length = s.toNat) l0 hl0 (by omega) (fun k hk o ho => ⟨by
      have h2 : (k : Int) < w.length := by omega
      obtain ⟨b1, b2⟩ := rgt_bounds hs hs2 (hall _ (List.getElem_mem hk))
      simp only [sh97_1, h2, decide_true, cond_true, getI_lt hk, bindS]
      rw [l23Swap_eq o _ b1 (by omega) (by omega), bindS, w64_id (by omega) (by omega)]
      rfl, by rw [swapL_length]; exact ho⟩) (fun o _ => by
      have hd : decide ((w.length : Int) < (w.length : Int)) = false := by simp
      simp only [sh97_1, hd, cond_false])
  have h1 := hi.1
  simp only [Int.natCast_zero] at h1
  rw [h1, bindS]
  exact ⟨_, rfl, hi.2⟩

/-! orderafter -/
theorem plait_body (w : List Int) : sh80f114_2 w = sh97_1 w := by
  funext ⟨i, o⟩
  simp only [sh80f114_2, sh97_1, sh114, sh77, rightOf_eq, l15Size_eq, bindS]
  cases decide (i < (w.length : Int)) <;> simp only [cond_false, cond_true]
  cases getI w i <;> simp only [Option.bind_none, bindS]
  rename_i m
  cases getI o (w64 (rgt m - 1)) <;> simp only [Option.bind_none, bindS]
  cases hb : getI o (rgt m) <;> simp only [Option.bind_none, bindS]
  · cases decide (m < 0) <;> simp
  · rename_i a b
    cases decide (m < 0) <;> simp <;> cases getI (o.set (w64 (rgt m - 1)).toNat b) (rgt m) <;> rfl

/-! closedstrands -/
theorem swapL_mem2 {xs : List Int} {k : Nat} (h1 : 1 ≤ k) (hk : k < xs.length) {x : Int} (h : x ∈ xs) : x ∈ swapL xs k := by
  obtain ⟨i, hi, rfl⟩ := List.getElem_of_mem h
  have hl : (swapL xs k).length = xs.length := swapL_length _ _
  have e1 : xs.getD k 0 = xs[k] := by rw [List.getD_eq_getElem?_getD, List.getElem?_eq_getElem hk]; rfl
  have e2 : xs.getD (k - 1) 0 = xs[k - 1] := by rw [List.getD_eq_getElem?_getD, List.getElem?_eq_getElem (by omega)]; rfl
  by_cases hik : i = k
  · subst hik
    have : (swapL xs i)[i - 1]'(by omega) = xs[i] := by
      unfold swapL
      rw [List.getElem_set_ne (by omega), List.getElem_set_self, e1]
    rw [← this]; exact List.getElem_mem _
  · by_cases hik2 : i = k - 1
    · subst hik2
      have : (swapL xs k)[k]'(by omega) = xs[k - 1] := by
        unfold swapL
        rw [List.getElem_set_self, e2]
      rw [← this]; exact List.getElem_mem _
    · have : (swapL xs k)[i]'(by omega) = xs[i] := by
        unfold swapL
        rw [List.getElem_set_ne (by omega), List.getElem_set_ne (by omega)]
      rw [← this]; exact List.getElem_mem _
theorem first_all (s : Int) (h0 : 0 ≤ s) (h1 : s ≤ 12) : ∃ l, sh76 s = some l ∧ ∀ x, 0 ≤ x → x < s → x ∈ l := by
  unfold sh76
  obtain ⟨x, hx, hr⟩ := iter_inv (sb := sh76_1 s) (fun (p : Int × List Int) => 0 ≤ p.1 ∧ p.1 ≤ s ∧ (p.2.length : Int) = p.1 ∧ ∀ x, 0 ≤ x → x < p.1 → x ∈ p.2) (fun p => (s - p.1).toNat) (fun (l : List Int) => ∀ x, 0 ≤ x → x < s → x ∈ l) (s0 := (0, [])) ⟨by simp, by simp only; omega, by simp, fun x h1 h2 => by simp only at h2; omega⟩ (by simp only; omega) (by
    rintro ⟨k, ys⟩ ⟨h2, h3, h4, h5⟩
    simp only at h2 h3 h4 h5
    by_cases hk : k < s
    · left
      simp only [sh76_1, hk, decide_true, cond_true]
      rw [appL_ok (by simp only [List.length_cons, List.length_nil]; omega), bindS, w64_id (x := k + 1) (by omega) (by omega)]
      refine ⟨_, rfl, ⟨by simp only; omega, by simp only; omega, by simp only [List.length_append, List.length_cons, List.length_nil]; omega, fun x hx0 hx1 => ?_⟩, by simp only; omega⟩
      simp only at hx1 ⊢
      by_cases he : x = k
      · subst he; simp
      · exact List.mem_append_left _ (h5 x hx0 (by omega))
    · right
      have hd : decide (k < s) = false := decide_eq_false hk
      simp only [sh76_1, hd, cond_false]
      exact ⟨_, rfl, fun x hx0 hx1 => h5 x hx0 (by omega)⟩)
  exact ⟨x, by rw [hx]; rfl, hr⟩
/-- The order after valid moves has all strands. -/
theorem order_all (s : Int) (w : List Int) (hv : validW s w = true) : ∃ l, sh97 s w = some l ∧ l.length = s.toNat ∧ ∀ x, 0 ≤ x → x < s → x ∈ l := by
  have hlen := validW_len hv
  unfold validW at hv
  simp only [Bool.and_eq_true, decide_eq_true_eq, List.all_eq_true] at hv
  obtain ⟨⟨hs, hs2⟩, _, hall⟩ := hv
  unfold sh97
  obtain ⟨l0, h0, hl0, _⟩ := first_eq s (by omega) (by omega)
  obtain ⟨l1, h01, hm1⟩ := first_all s (by omega) (by omega)
  have : l1 = l0 := Option.some.inj (h01.symm.trans h0)
  subst this
  rw [h0, bindS]
  have hi := iter_fold (sb := sh97_1 w) w (fun k (o : List Int) => ((k : Int), o)) (fun o m => swapL o (rgt m).toNat) (fun o => o) (fun _ o => o.length = s.toNat ∧ ∀ x, 0 ≤ x → x < s → x ∈ o) l1 ⟨hl0, hm1⟩ (by omega) (fun k hk o ho => by
      obtain ⟨b1, b2⟩ := rgt_bounds hs hs2 (hall _ (List.getElem_mem hk))
      refine ⟨?_, by rw [swapL_length]; exact ho.1, fun x hx0 hx1 => swapL_mem2 (by omega) (by have := ho.1; omega) (ho.2 x hx0 hx1)⟩
      have h2 : (k : Int) < w.length := by omega
      simp only [sh97_1, h2, decide_true, cond_true, getI_lt hk, bindS]
      rw [l23Swap_eq o _ b1 (by have := ho.1; omega) (by have := ho.1; omega), bindS, w64_id (by omega) (by omega)]
      rfl) (fun o _ => by
      have hd : decide ((w.length : Int) < (w.length : Int)) = false := by simp
      simp only [sh97_1, hd, cond_false])
  have h1 := hi.1
  simp only [Int.natCast_zero] at h1
  rw [h1, bindS]
  exact ⟨_, rfl, hi.2.1, hi.2.2⟩
theorem place_bd {o : List Int} {x : Int} (h : x ∈ o) (hl : o.length ≤ 1048576) : ∃ j, sh78 o x = some j ∧ 0 ≤ j ∧ j < o.length := by
  have ha : (o.any fun y => y == x) = true := by rw [List.any_eq_true]; exact ⟨x, h, by simp⟩
  refine ⟨(o.findIdx (fun y => y == x) : Int), ?_, by omega, ?_⟩
  · unfold sh78
    rw [iter_find (xs := o) (p := fun y => y == x) (by omega) (fun k hk => ?_) (by simp [sh78_1]), bindS, ha]
    · rfl
    · have h2 : (k : Int) < o.length := by omega
      simp only [sh78_1, h2, decide_true, cond_true, getI_lt hk, bindS]
      rw [w64_id (by omega) (by omega)]
      cases o[k] == x <;> rfl
  · have := List.findIdx_lt_length_of_exists (p := fun y => y == x) (xs := o) ⟨x, h, by simp⟩
    omega
theorem closed_same (o : List Int) (c : Int) : sh55_2 (o, c) = sh54_2 o := by
  funext ⟨a, b, l⟩
  simp only [sh55_2, sh54_2, index_same]
theorem count_set_true {l : List Bool} {i : Nat} (h : i < l.length) (hf : l[i] = false) : (l.set i true).count false + 1 = l.count false := by
  induction l generalizing i with
  | nil => simp at h
  | cons x xs ih =>
    cases i with
    | zero =>
      simp only [List.getElem_cons_zero] at hf
      subst hf
      simp
    | succ i =>
      simp only [List.getElem_cons_succ] at hf
      have := ih (by simpa using h) hf
      rw [List.set_cons_succ, List.count_cons, List.count_cons]
      omega
theorem closed_inner (o : List Int) (s : Nat) (hs : s ≤ 12) (ho : o.length = s) (hall : ∀ x, 0 ≤ x → x < (s : Int) → x ∈ o) (a : Int) (ha : 0 ≤ a) (ha2 : a < (s : Int)) (seen : List Bool) (hse : seen.length = s) (hun : seen.getD a.toNat true = false) :
    ∃ b, iter (sh54_2 o) (a, seen, ([] : List Int)) = some b ∧ b.1.length = s ∧ 0 < b.2.length ∧ b.2.length ≤ 12 := by
  have hc0 : seen.count false ≤ s := by rw [← hse]; exact List.count_le_length
  refine iter_inv (sb := sh54_2 o) (fun (p : Int × List Bool × List Int) => 0 ≤ p.1 ∧ p.1 < (s : Int) ∧ p.2.1.length = s ∧ (p.2.2 = [] → p.2.1.getD p.1.toNat true = false) ∧ p.2.2.length + p.2.1.count false ≤ s) (fun p => p.2.1.count false) (fun (b : List Bool × List Int) => b.1.length = s ∧ 0 < b.2.length ∧ b.2.length ≤ 12) (s0 := (a, seen, [])) ⟨ha, ha2, hse, fun _ => hun, by simpa using hc0⟩ (by simp only; omega) ?_
  rintro ⟨x, sn, l⟩ ⟨h1, h2, h3, h4, h5⟩
  simp only at h1 h2 h3 h4 h5
  have hx : x.toNat < sn.length := by omega
  have hg : getI sn x = some sn[x.toNat] := getI_toNat h1 hx
  have hgd : sn.getD x.toNat true = sn[x.toNat] := by rw [List.getD_eq_getElem?_getD, List.getElem?_eq_getElem hx]; rfl
  rw [hgd] at h4
  simp only [sh54_2, hg, bindS]
  cases hv : sn[x.toNat]
  · left
    obtain ⟨j, hj, hj0, hj1⟩ := place_bd (hall x h1 h2) (by omega)
    have hcs := count_set_true hx hv
    simp only [Bool.not_false, cond_true]
    rw [appL_ok (by simp only [List.length_cons, List.length_nil]; omega), bindS, hj, bindS]
    refine ⟨_, rfl, ⟨hj0, by simp only; omega, by simp only [List.length_set]; exact h3, by simp, by simp only [List.length_append, List.length_cons, List.length_nil]; omega⟩, by simp only; omega⟩
  · right
    refine ⟨_, rfl, h3, ?_, by simp only; omega⟩
    rcases List.eq_nil_or_concat l with h | ⟨_, _, h⟩
    · have := h4 h
      rw [hv] at this
      cases this
    · subst h; simp
def swp {A B C : Type} (p : A × B × C) : A × C × B := (p.1, p.2.2, p.2.1)
theorem closed_outer (s : Int) (o : List Int) (c : Int) (hs : 2 ≤ s) (hs2 : s ≤ 12) (ho : o.length = s.toNat) (hall : ∀ x, 0 ≤ x → x < s → x ∈ o) :
    ∃ r, iter (sh54_1 s o) (0, List.replicate s.toNat false, []) = some r ∧ iter (sh55_1 s (o, c)) (0, [], List.replicate s.toNat false) = some r ∧ r.length ≤ 12 ∧ ∀ x ∈ r, x.length ≤ 12 := by
  have body : ∀ (k : Nat) (sn : List Bool) (out : List (List Int)), k < s.toNat → sn.length = s.toNat → out.length ≤ k → (∀ x ∈ out, x.length ≤ 12) → ∃ sn' out', sh54_1 s o ((k : Int), sn, out) = some (.inl (((k + 1 : Nat) : Int), sn', out')) ∧
      sh55_1 s (o, c) ((k : Int), out, sn) = some (.inl (((k + 1 : Nat) : Int), out', sn')) ∧ sn'.length = s.toNat ∧ out'.length ≤ k + 1 ∧ ∀ x ∈ out', x.length ≤ 12 := by
    intro k sn out hk hsn hout hx
    have hks : (k : Int) < s := by omega
    have hkl : k < sn.length := by omega
    have hw : w64 ((k : Int) + 1) = ((k + 1 : Nat) : Int) := by rw [w64_id (by omega) (by omega)]; omega
    simp only [sh54_1, sh55_1, hks, decide_true, cond_true, getI_lt hkl, bindS, hw, closed_same]
    cases hv : sn[k]
    · obtain ⟨b, h1, h2, h3, h4⟩ := closed_inner o s.toNat (by omega) ho (fun x hx0 hx1 => hall x hx0 (by omega)) (k : Int) (by omega) (by omega) sn hsn (by rw [Int.toNat_natCast, List.getD_eq_getElem?_getD, List.getElem?_eq_getElem hkl, hv]; rfl)
      rw [h1, bindS, bindS, decide_eq_true (by omega), cond_true, appL_ok (by simp only [List.length_cons, List.length_nil]; omega), bindS, bindS]
      refine ⟨_, _, rfl, rfl, h2, by simp only [List.length_append, List.length_cons, List.length_nil]; omega, fun x hm => ?_⟩
      rcases List.mem_append.1 hm with hm | hm
      · exact hx x hm
      · simp at hm; subst hm; exact h4
    · have h1 : iter (sh54_2 o) ((k : Int), sn, ([] : List Int)) = some (sn, []) := iter_done (by simp only [sh54_2, getI_lt hkl, bindS, hv]; rfl)
      rw [h1, bindS]
      exact ⟨_, _, rfl, rfl, hsn, by omega, hx⟩
  have e : iter (sh55_1 s (o, c)) (0, [], List.replicate s.toNat false) = iter (sh54_1 s o) (0, List.replicate s.toNat false, []) := by
    have key : ∀ (n : Nat) (k : Nat) (sn : List Bool) (out : List (List Int)), k ≤ s.toNat → sn.length = s.toNat → out.length ≤ k → (∀ x ∈ out, x.length ≤ 12) → iterN (sh55_1 s (o, c)) n ((k : Int), out, sn) = iterN (sh54_1 s o) n ((k : Int), sn, out) := by
      intro n
      induction n with
      | zero => intros; rfl
      | succ n ih =>
        intro k sn out hk hsn hout hx
        by_cases hk2 : k < s.toNat
        · obtain ⟨sn', out', h1, h2, h3, h4, h5⟩ := body k sn out hk2 hsn hout hx
          simp only [iterN, h1, h2]
          exact ih (k + 1) sn' out' (by omega) h3 h4 h5
        · have hd : decide ((k : Int) < s) = false := decide_eq_false (by omega)
          simp only [iterN, sh54_1, sh55_1, hd, cond_false]
    exact key FUEL 0 _ _ (by omega) (by simp) (by simp) (by simp)
  obtain ⟨r, hr, h1, h2⟩ := iter_inv (sb := sh54_1 s o) (fun (p : Int × List Bool × List (List Int)) => ∃ k : Nat, p.1 = (k : Int) ∧ k ≤ s.toNat ∧ p.2.1.length = s.toNat ∧ p.2.2.length ≤ k ∧ ∀ x ∈ p.2.2, x.length ≤ 12) (fun p => s.toNat - p.1.toNat) (fun (r : List (List Int)) => r.length ≤ 12 ∧ ∀ x ∈ r, x.length ≤ 12) (s0 := (0, List.replicate s.toNat false, [])) ⟨0, rfl, by omega, by simp, by simp, by simp⟩ (by simp only; omega) (by
    rintro ⟨i, sn, out⟩ ⟨k, rfl, hk, hsn, hout, hx⟩
    simp only at hsn hout hx
    by_cases hk2 : k < s.toNat
    · obtain ⟨sn', out', h1, h2, h3, h4, h5⟩ := body k sn out hk2 hsn hout hx
      left
      exact ⟨_, h1, ⟨k + 1, rfl, by omega, h3, h4, h5⟩, by simp only [Int.toNat_natCast]; omega⟩
    · right
      have hd : decide ((k : Int) < s) = false := decide_eq_false (by omega)
      simp only [sh54_1, hd, cond_false]
      exact ⟨_, rfl, by omega, hx⟩)
  exact ⟨r, hr, by rw [e, hr], h1, h2⟩
theorem implOrder_eq (s : Int) (w : List Int) (h : w.length ≤ 1048576) : sh98 s w = (if validW s w = true then (sh97 s w).map fun l => (l, 0) else some ([], 1)) := by
  unfold sh98
  rw [implValidWord_eq s w h]
  simp only [bindS]
  cases hv : validW s w
  · rfl
  · obtain ⟨l, hl, hn⟩ := l23Order_eq s w hv
    have h2 : sh80f114 s w = some l := by
      rw [← hl]
      unfold sh80f114 sh97 sh76
      rw [plait_body]
      show Option.bind (iter (sh76_1 s) _) _ = _
      cases iter (sh76_1 s) (0, []) <;> rfl
    simp only [Bool.not_true, cond_false, h2, bindS, hl, if_true, Option.map_some]
theorem closedStrands_total (s : Int) (w : List Int) (h : w.length ≤ 1048576) : ∃ r, sh54 s w = some r ∧ sh55 s w = some r ∧ r.1.length ≤ 200 ∧ ∀ x ∈ r.1, x.length ≤ 200 := by
  unfold sh54 sh55
  rw [l23Ok_eq s w h, implOrder_eq s w h]
  simp only [bindS]
  cases hv : validW s w
  · exact ⟨_, rfl, rfl, by simp, by simp⟩
  · obtain ⟨l, hl, hlen, hmem⟩ := order_all s w hv
    unfold validW at hv
    simp only [Bool.and_eq_true, decide_eq_true_eq, List.all_eq_true] at hv
    obtain ⟨⟨hs, hs2⟩, _, hall⟩ := hv
    have emk : mkL s false = some (List.replicate s.toNat false) := by
      have := mkL_ok (n := s.toNat) (z := false) (by omega)
      rwa [Int.toNat_of_nonneg (by omega)] at this
    obtain ⟨r, h1, h2, h3, h4⟩ := closed_outer s l 0 hs hs2 hlen hmem
    simp only [Bool.not_true, cond_false, hl, emk, bindS, h1, h2, bne_self_eq_false, if_true, Option.map_some]
    exact ⟨_, rfl, rfl, by simp only; omega, fun x hx => by have := h4 x hx; omega⟩

/-! FnExactClosedStrands -/
theorem law12 (s : Int) (w : List Int) : sh12 s w = some true := by
  unfold sh12
  by_cases h : w.length ≤ 1048576
  · obtain ⟨r, h1, h2, h3, h4⟩ := closedStrands_total s w h
    have hd : decide (1048576 < (w.length : Int)) = false := by simp; omega
    have hb := totL_bound h4
    have ht : totL r.1 ≤ 1048576 := by have : 200 * r.1.length ≤ 200 * 200 := Nat.mul_le_mul_left _ h3; omega
    have m1 := markI64_eq w 1 (by omega) (by omega) (by omega)
    have m2 := markI64SS_eq r.1 1 (by omega) (by omega) (by omega) ht
    have m3 := heldI64SS_eq r.1 1 (by omega) (by omega) (by omega) ht
    have n1 : decide ((1 : Int) + (w.length : Int) < 0) = false := decide_eq_false (by omega)
    have n2 : decide ((1 : Int) + (totL r.1 : Int) < 0) = false := decide_eq_false (by omega)
    simp only [hd, cond_false, toI64_eq w h, bindS, h1, h2, eqI64SS_refl r.1 (by omega) (fun x hx => by have := h4 x hx; omega), bne_self_eq_false, Bool.or_self, eqI64_eq w w h, decide_true, Bool.not_true, m1, m2, m3, n1, n2]
  · have hd : decide (1048576 < (w.length : Int)) = true := by simp; omega
    simp [hd]
end Go.Sh
