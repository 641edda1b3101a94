/- Plain laws: what the shallow functions come to. -/
import Derived.Test.YthcoacomnljikaaF6W0
set_option linter.unusedVariables false
set_option linter.unusedSimpArgs false
namespace Go.Sh
open Go Go.RowKit

/-! to_i64s -/
theorem toI64_eq (xs : List Int) (h : xs.length ≤ 1048576) : sh24 xs = some xs := by
  unfold sh24
  rw [mkL_ok (by omega), bindS, iter_copy (xs := xs) (by omega) (fun i ys => rfl), bindS]

/-! eq_i64s -/
theorem eqI64_eq (xs ys : List Int) (h : xs.length ≤ 1048576) : sh27 xs ys = some (decide (xs = ys)) := by
  unfold sh27
  by_cases hl : xs.length = ys.length
  · have h1 : ((xs.length : Int) != (ys.length : Int)) = false := by simp; omega
    rw [h1, cond_false, iter_eq (xs := xs) (ys := ys) (by omega) hl (fun k hk => ?_) (by simp [sh27_1]), bindS]
    · by_cases he : xs = ys <;> simp [he, elimS]
    · have h2 : (k : Int) < xs.length := by omega
      have h3 : k < ys.length := by omega
      simp only [sh27_1, h2, decide_true, cond_true, getI_lt hk, getI_lt h3, bindS]
      rw [w64_id (by omega) (by omega)]
      by_cases he : xs[k] = ys[k]
      · simp [he]
      · rw [if_neg he, show (xs[k] != ys[k]) = true from bne_iff_ne.2 he]
        rfl
  · have h1 : ((xs.length : Int) != (ys.length : Int)) = true := by simp; omega
    rw [h1, cond_true]
    have : xs ≠ ys := fun h => hl (by rw [h])
    simp [this]

/-! mark_i64s -/
/-- The numbers that are laid into a result to see whether it is of one's own. -/
def marksFrom (m : Int) (n : Nat) : List Int := (List.range n).map fun (i : Nat) => m + (i : Int)
theorem marksFrom_length (m : Int) (n : Nat) : (marksFrom m n).length = n := by simp [marksFrom]
theorem marksFrom_get (m : Int) (n k : Nat) (h : k < n) : (marksFrom m n)[k]'(by rw [marksFrom_length]; exact h) = m + k := by simp [marksFrom]
theorem marksFrom_succ (m : Int) (k : Nat) : marksFrom m (k + 1) = marksFrom m k ++ [m + k] := by simp [marksFrom, List.range_succ]

theorem markI64_eq (xs : List Int) (m : Int) (h0 : 0 ≤ m) (h1 : m ≤ 1099511627776) (h : xs.length ≤ 1099511627776) : sh28 xs m = some (m + xs.length, marksFrom m xs.length) := by
  unfold sh28
  have hi := iter_steps (sb := sh28_1 xs) (fun k => (m + (k : Int), (k : Int), marksFrom m k ++ xs.drop k)) xs.length (x := (m + xs.length, marksFrom m xs.length)) (by omega) (fun k hk => ?_) ?_
  · simp only [List.drop_zero] at hi
    rw [show marksFrom m 0 ++ xs = xs from rfl] at hi
    simp only [Int.natCast_zero, Int.add_zero] at hi
    rw [hi, bindS]
  · have h2 : (k : Int) < xs.length := by omega
    have hl : k < (marksFrom m k ++ xs.drop k).length := by rw [List.length_append, marksFrom_length, List.length_drop]; omega
    simp only [sh28_1, h2, decide_true, cond_true, getI_lt hl, bindS, Int.toNat_natCast]
    rw [w64_id (by omega) (by omega), w64_id (by omega) (by omega), List.set_append, if_neg (by rw [marksFrom_length]; omega), marksFrom_length, Nat.sub_self, List.drop_eq_getElem_cons hk, List.set_cons_zero, marksFrom_succ, List.append_assoc]
    simp only [Option.some.injEq, Sum.inl.injEq, Prod.mk.injEq]
    refine ⟨by omega, by omega, rfl⟩
  · have hd : decide ((xs.length : Int) < (xs.length : Int)) = false := by simp
    simp only [sh28_1, hd, cond_false, List.drop_length, List.append_nil]

theorem heldI64_eq (m : Int) (n : Nat) (h0 : 0 ≤ m) (h1 : m ≤ 1099511627776) (h : n ≤ 1099511627776) : sh35 (marksFrom m n) m = some (m + n) := by
  unfold sh35
  have hi := iter_steps (sb := sh35_1 (marksFrom m n)) (fun k => (m + (k : Int), (k : Int))) n (x := .inl (m + n)) (by omega) (fun k hk => ?_) ?_
  · simp only [Int.natCast_zero, Int.add_zero] at hi
    rw [hi, bindS]
    rfl
  · have h2 : (k : Int) < (marksFrom m n).length := by rw [marksFrom_length]; omega
    have hl : k < (marksFrom m n).length := by rw [marksFrom_length]; exact hk
    simp only [sh35_1, h2, decide_true, cond_true, getI_lt hl, bindS, marksFrom_get m n k hk, bne_self_eq_false, cond_false]
    rw [w64_id (by omega) (by omega), w64_id (by omega) (by omega)]
    simp only [Option.some.injEq, Sum.inl.injEq, Prod.mk.injEq]
    refine ⟨by omega, by omega⟩
  · have hd : decide ((n : Int) < ((marksFrom m n).length : Int)) = false := by rw [marksFrom_length]; simp
    simp only [sh35_1, hd, cond_false]

/-! iters -/
theorem w64_lo (x : Int) : -9223372036854775808 ≤ w64 x := by
  have := IntKind.wrap_i64 x
  show _ ≤ IntKind.i64.wrap x
  omega
theorem w64_hi (x : Int) : w64 x ≤ 9223372036854775807 := by
  have := IntKind.wrap_i64 x
  show IntKind.i64.wrap x ≤ _
  omega
theorem getI_toNat {T : Type} {xs : List T} {i : Int} (h0 : 0 ≤ i) (h : i.toNat < xs.length) : getI xs i = some xs[i.toNat] := by
  unfold getI; rw [if_pos h0]; exact List.getElem?_eq_getElem h
theorem nzI_ok {a : Int} (h : a ≠ 0) : nzI a = some a := by simp [nzI, h]

/-- The loop that looks for the first element that passes. -/
theorem iter_find {T : Type} {sb : Int → Option (Int ⊕ (Unit ⊕ Int))} {xs : List T} {p : T → Bool} (hl : xs.length < 1099511627776)
    (hsb : ∀ (k : Nat) (h : k < xs.length), sb (k : Int) = if p xs[k] = true then some (.inr (.inr (k : Int))) else some (.inl ((k : Int) + 1))) (he : sb (xs.length : Int) = some (.inr (.inl ()))) :
    iter sb 0 = some (if xs.any p = true then .inr (xs.findIdx p : Int) else .inl ()) := by
  have h := iter_res (sb := sb) (fun k => (k : Int)) (fun k => if (xs.drop k).any p = true then (.inr (k + (xs.drop k).findIdx p : Nat) : Unit ⊕ Int) else .inl ()) xs.length (by omega) (fun k hk => ?_) (by
    rw [he, List.drop_of_length_le (Nat.le_refl _)]; simp)
  · simpa using h
  · rw [hsb k hk, List.drop_eq_getElem_cons hk]
    by_cases hx : p xs[k] = true
    · right
      rw [if_pos hx]
      simp only [List.any_cons, hx, Bool.true_or, if_true, List.findIdx_cons, cond_true, Nat.add_zero]
    · left
      rw [if_neg hx]
      refine ⟨by simp, ?_⟩
      have hx' : p xs[k] = false := by simpa using hx
      simp only [List.any_cons, hx', Bool.false_or, List.findIdx_cons, cond_false]
      split <;> simp
      omega

theorem iterN_congr {σ ρ : Type} {sb1 sb2 : σ → Option (σ ⊕ ρ)} (I : σ → Prop) (hs : ∀ s, I s → sb1 s = sb2 s ∧ ∀ s', sb2 s = some (.inl s') → I s') : ∀ (n : Nat) (s : σ), I s → iterN sb1 n s = iterN sb2 n s
  | 0, _, _ => rfl
  | n + 1, s, h => by
    obtain ⟨h1, h2⟩ := hs s h
    simp only [iterN, h1]
    cases hb : sb2 s with
    | none => rfl
    | some o =>
      cases o with
      | inl s' => exact iterN_congr I hs n s' (h2 s' hb)
      | inr x => rfl
/-- Two loops whose bodies agree where the invariant holds. -/
theorem iter_congr {σ ρ : Type} {sb1 sb2 : σ → Option (σ ⊕ ρ)} (I : σ → Prop) {s0 : σ} (h0 : I s0) (hs : ∀ s, I s → sb1 s = sb2 s ∧ ∀ s', sb2 s = some (.inl s') → I s') : iter sb1 s0 = iter sb2 s0 :=
  iterN_congr I hs FUEL s0 h0

/-- A loop over a list, as a fold. -/
theorem iter_fold {T σ S ρ : Type} {sb : S → Option (S ⊕ ρ)} (xs : List T) (st : Nat → σ → S) (g : σ → T → σ) (h : σ → ρ) (I : Nat → σ → Prop) (s0 : σ) (h0 : I 0 s0) (hl : xs.length < 1099511627776)
    (hsb : ∀ (k : Nat) (hk : k < xs.length) s, I k s → sb (st k s) = some (.inl (st (k + 1) (g s xs[k]))) ∧ I (k + 1) (g s xs[k])) (he : ∀ s, I xs.length s → sb (st xs.length s) = some (.inr (h s))) :
    iter sb (st 0 s0) = some (h (xs.foldl g s0)) ∧ I xs.length (xs.foldl g s0) := by
  have hI : ∀ k, k ≤ xs.length → I k ((xs.take k).foldl g s0) := by
    intro k
    induction k with
    | zero => intro _; simpa using h0
    | succ k ih =>
      intro hk
      rw [List.take_succ_eq_append_getElem (by omega), List.foldl_append]
      exact (hsb k (by omega) _ (ih (by omega))).2
  have hlast := hI xs.length (Nat.le_refl _)
  rw [List.take_length] at hlast
  refine ⟨?_, hlast⟩
  refine iter_steps (fun k => st k ((xs.take k).foldl g s0)) xs.length (by omega) (fun k hk => ?_) (by rw [List.take_length]; exact he _ hlast)
  rw [(hsb k hk _ (hI k (by omega))).1, List.take_succ_eq_append_getElem hk, List.foldl_append]
  rfl

/-- The greater one. -/
def mx (a b : Int) : Int := if a < b then b else a
def mn (a b : Int) : Int := if b < a then b else a
theorem mx_comm' (a b : Int) : (if b < a then a else b) = mx a b := by unfold mx; split <;> split <;> omega
theorem foldl_snoc {α β : Type} (f : α → β) : ∀ (xs : List α) (a : List β), xs.foldl (fun acc m => acc ++ [f m]) a = a ++ xs.map f
  | [], a => by simp
  | x :: xs, a => by rw [List.foldl_cons, foldl_snoc f xs]; simp

/-! max -/
theorem l00Max_eq (a b : Int) : sh71 a b = some (mx a b) := by
  unfold sh71
  rw [← mx_comm']
  by_cases h : b < a <;> simp [h]

/-! validword -/
/-- A move fits. -/
def okM (s m : Int) : Bool := !(m == 0) && (decide (w64 (1 - s) ≤ m) && decide (m ≤ w64 (s - 1)))
def validW (s : Int) (w : List Int) : Bool := (decide (2 ≤ s) && decide (s ≤ 12)) && (decide (w.length ≤ 200) && w.all (okM s))

theorem l23Ok_eq (s : Int) (w : List Int) (h : w.length ≤ 1048576) : sh69 s w = some (validW s w) := by
  unfold sh69 sh65
  rw [bindS]
  unfold validW
  cases hs : (decide (2 ≤ s) && decide (s ≤ 12))
  · simp
  · by_cases hl : w.length ≤ 200
    · have hd : decide (200 < (w.length : Int)) = false := by simp; omega
      simp only [hd, Bool.not_true, Bool.or_self, cond_false]
      rw [iter_all (xs := w) (p := okM s) (r := false) (by omega) (fun k hk => ?_) (by simp [sh69_1]), bindS]
      · cases ha : w.all (okM s) <;> simp [elimS, hl]
      · have h2 : (k : Int) < w.length := by omega
        simp only [sh69_1, sh65, h2, decide_true, cond_true, getI_lt hk, bindS]
        rw [w64_id (x := (k : Int) + 1) (by omega) (by omega)]
        unfold okM
        cases h0 : w[k] == 0 <;> simp [bindS]
        cases h1 : decide (w64 (1 - s) ≤ w[k]) <;> cases h3 : decide (w[k] ≤ w64 (s - 1)) <;> simp_all
    · have hd : decide (200 < (w.length : Int)) = true := by simp; omega
      simp [hd, hl]

theorem implValidWord_eq (s : Int) (w : List Int) (h : w.length ≤ 1048576) : sh72 s w = some (validW s w) := by
  unfold sh72
  rw [iter_all (xs := w) (p := okM s) (r := false) (by omega) (fun k hk => ?_) (by simp [sh72_1]), bindS]
  · unfold validW
    cases ha : w.all (okM s)
    · simp [elimS]
    · simp only [elimS, if_true, sh79, bindS, Bool.and_true]
      congr 2
      simp only [decide_eq_decide]
      omega
  · have h2 : (k : Int) < w.length := by omega
    simp only [sh72_1, sh79, h2, decide_true, cond_true, getI_lt hk, bindS]
    rw [w64_id (x := (k : Int) + 1) (by omega) (by omega)]
    unfold okM
    cases h0 : w[k] == 0 <;> simp [bindS]
    cases h1 : decide (w64 (1 - s) ≤ w[k]) <;> cases h3 : decide (w[k] ≤ w64 (s - 1)) <;> simp_all

theorem validW_len {s : Int} {w : List Int} (h : validW s w = true) : w.length ≤ 200 := by
  unfold validW at h
  simp only [Bool.and_eq_true, decide_eq_true_eq] at h
  exact h.2.1

/-! order -/
/-- The greater place of a move. -/
def rgt (m : Int) : Int := mx m (w64 (0 - m))
theorem l15Size_eq (m : Int) : sh70 m = some (rgt m) := by
  unfold sh70; rw [l00Max_eq]; rfl
theorem rightOf_eq (m : Int) : sh73 m = some (rgt m) := rfl
theorem rgt_bounds {s m : Int} (hs : 2 ≤ s) (hs2 : s ≤ 12) (h : okM s m = true) : 1 ≤ rgt m ∧ rgt m ≤ s - 1 := by
  unfold okM at h
  simp only [Bool.and_eq_true, Bool.not_eq_true', beq_eq_false_iff_ne, decide_eq_true_eq] at h
  rw [w64_id (by omega) (by omega), w64_id (by omega) (by omega)] at h
  unfold rgt mx
  rw [w64_id (by omega) (by omega)]
  split <;> omega
def swapL (xs : List Int) (k : Nat) : List Int := (xs.set (k - 1) (xs.getD k 0)).set k (xs.getD (k - 1) 0)
theorem swapL_length (xs : List Int) (k : Nat) : (swapL xs k).length = xs.length := by simp [swapL]

theorem first_eq (s : Int) (h0 : 0 ≤ s) (h1 : s ≤ 12) : ∃ l, sh76 s = some l ∧ l.length = s.toNat ∧ ∀ x ∈ l, 0 ≤ x ∧ x < s := by
  unfold sh76
  obtain ⟨x, hx, hr⟩ := iter_inv (sb := sh76_1 s) (fun (p : Int × List Int) => 0 ≤ p.1 ∧ p.1 ≤ s ∧ (p.2.length : Int) = p.1 ∧ ∀ x ∈ p.2, 0 ≤ x ∧ x < s) (fun p => (s - p.1).toNat) (fun (l : List Int) => l.length = s.toNat ∧ ∀ x ∈ l, 0 ≤ x ∧ x < s) (s0 := (0, [])) (by simp; omega) (by simp only; omega) (by
    rintro ⟨k, ys⟩ ⟨h2, h3, h4, h5⟩
    simp only at h2 h3 h4 h5
    by_cases hk : k < s
    · left
      simp only [sh76_1, hk, decide_true, cond_true]
      rw [appL_ok (by simp only [List.length_cons, List.length_nil]; omega), bindS, w64_id (x := k + 1) (by omega) (by omega)]
      refine ⟨_, rfl, ⟨by simp only; omega, by simp only; omega, by simp only [List.length_append, List.length_cons, List.length_nil]; omega, ?_⟩, by simp only; omega⟩
      intro x hx
      rcases List.mem_append.1 hx with h | h
      · exact h5 x h
      · simp at h; omega
    · right
      have hd : decide (k < s) = false := decide_eq_false hk
      simp only [sh76_1, hd, cond_false]
      exact ⟨_, rfl, by omega, h5⟩)
  exact ⟨x, by rw [hx]; rfl, hr⟩

theorem l23Swap_eq (xs : List Int) (m : Int) (h1 : 1 ≤ rgt m) (h2 : rgt m < xs.length) (h3 : xs.length ≤ 12) : sh77 xs m = some (swapL xs (rgt m).toNat) := by
  unfold sh77
  rw [l15Size_eq, bindS]
  obtain ⟨k, hk⟩ : ∃ k : Nat, rgt m = k := ⟨(rgt m).toNat, by omega⟩
  rw [hk] at h1 h2 ⊢
  have hw : w64 ((k : Int) - 1) = ((k - 1 : Nat) : Int) := by rw [w64_id (by omega) (by omega)]; omega
  have ha : k < xs.length := by omega
  have hb : k - 1 < xs.length := by omega
  rw [hw, getI_lt hb, getI_lt ha]
  simp only [bindS, Int.toNat_natCast]
  rw [getI_lt (by rw [List.length_set]; exact ha), bindS]
  simp [swapL, List.getD, List.getElem?_eq_getElem ha, List.getElem?_eq_getElem hb]

/-! pathofstrand -/
theorem index_same (o : List Int) (x : Int) : sh82 o x = sh78 o x := by
  unfold sh82 sh78
  have e : sh82_1 o x = sh78_1 o x := by
    funext i
    simp only [sh82_1, sh78_1]
    cases decide (i < (o.length : Int))
    · rfl
    · simp only [cond_true]
      cases getI o i with
      | none => rfl
      | some y =>
        simp only [bindS]
        by_cases h : x = y
        · subst h; rfl
        · rw [beq_eq_false_iff_ne.2 h, beq_eq_false_iff_ne.2 (Ne.symm h)]
  rw [e]
def plc (o : List Int) (x : Int) : Int := (sh78 o x).getD 0
theorem place_eq (o : List Int) (x : Int) (h : o.length ≤ 1048576) : sh78 o x = some (plc o x) := by
  have key : ∃ r, sh78 o x = some r := by
    unfold sh78
    rw [iter_find (xs := o) (p := fun y => y == x) (by omega) (fun k hk => ?_) (by simp [sh78_1]), bindS]
    · cases o.any fun y => y == x
      · exact ⟨_, rfl⟩
      · exact ⟨_, rfl⟩
    · have h2 : (k : Int) < o.length := by omega
      simp only [sh78_1, h2, decide_true, cond_true, getI_lt hk, bindS]
      rw [w64_id (by omega) (by omega)]
      cases o[k] == x <;> rfl
  obtain ⟨r, hr⟩ := key
  unfold plc
  rw [hr]; rfl
def pstep (t : Int) (s : List Int × List Int) (m : Int) : List Int × List Int := (swapL s.1 (rgt m).toNat, s.2 ++ [plc (swapL s.1 (rgt m).toNat) t])
theorem path_body (s t : Int) (w : List Int) (hs : 2 ≤ s) (hs2 : s ≤ 12) (hw : w.length ≤ 200) (hall : ∀ x ∈ w, okM s x = true) (k : Nat) (hk : k < w.length) (p : List Int × List Int) (h1 : p.1.length = s.toNat) (h2 : p.2.length = k + 1) :
    sh33_1 w t ((k : Int), p.1, p.2) = some (.inl (((k + 1 : Nat) : Int), (pstep t p w[k]).1, (pstep t p w[k]).2)) ∧
    sh80f81_2 w ((k : Int), p.2, t, p.1) = some (.inl (((k + 1 : Nat) : Int), (pstep t p w[k]).2, t, (pstep t p w[k]).1)) := by
  obtain ⟨o, ov⟩ := p
  simp only at h1 h2
  have hm := hall _ (List.getElem_mem hk)
  obtain ⟨b1, b2⟩ := rgt_bounds hs hs2 hm
  have ha : (rgt w[k]).toNat < o.length := by omega
  have hb : (rgt w[k]).toNat - 1 < o.length := by omega
  have e2 : rgt w[k] - 1 = (((rgt w[k]).toNat - 1 : Nat) : Int) := by omega
  have g1 : getI o (rgt w[k]) = some (o.getD (rgt w[k]).toNat 0) := by
    rw [List.getD_eq_getElem?_getD, List.getElem?_eq_getElem ha]
    exact getI_toNat (by omega) ha
  have g2 : getI o (rgt w[k] - 1) = some (o.getD ((rgt w[k]).toNat - 1) 0) := by
    rw [List.getD_eq_getElem?_getD, List.getElem?_eq_getElem hb, e2]
    exact getI_lt hb
  have hkk : (k : Int) < w.length := by omega
  have hw1 : w64 (rgt w[k] - 1) = rgt w[k] - 1 := w64_id (by omega) (by omega)
  have hn : (rgt w[k] - 1).toNat = (rgt w[k]).toNat - 1 := by omega
  have ec2 : ∃ z, (bif decide (w[k] < 0) then some (o.getD (rgt w[k]).toNat 0) else some (o.getD ((rgt w[k]).toNat - 1) 0)) = some z := by
    cases decide (w[k] < 0) <;> exact ⟨_, rfl⟩
  obtain ⟨z, ec2⟩ := ec2
  have g5 : getI (o.set (rgt w[k] - 1).toNat (o.getD (rgt w[k]).toNat 0)) (rgt w[k]) = some ((o.set (rgt w[k] - 1).toNat (o.getD (rgt w[k]).toNat 0))[(rgt w[k]).toNat]'(by rw [List.length_set]; omega)) :=
    getI_toNat (by omega) (by rw [List.length_set]; omega)
  have hsl : (swapL o (rgt w[k]).toNat).length = o.length := swapL_length _ _
  have happ : appL ov [plc (swapL o (rgt w[k]).toNat) t] = some (ov ++ [plc (swapL o (rgt w[k]).toNat) t]) := appL_ok (by simp only [List.length_cons, List.length_nil]; omega)
  constructor
  · simp only [sh33_1, hkk, decide_true, cond_true, getI_lt hk, bindS, l23Swap_eq o _ b1 (by omega) (by omega), place_eq _ t (show (swapL o (rgt w[k]).toNat).length ≤ 1048576 by omega), happ]
    rw [w64_id (x := (k : Int) + 1) (by omega) (by omega)]
    rfl
  · have hidx := index_same (swapL o (rgt w[k]).toNat) t
    rw [place_eq _ t (show (swapL o (rgt w[k]).toNat).length ≤ 1048576 by omega)] at hidx
    have hsw : (o.set (rgt w[k] - 1).toNat (o.getD (rgt w[k]).toNat 0)).set (rgt w[k]).toNat (o.getD ((rgt w[k]).toNat - 1) 0) = swapL o (rgt w[k]).toNat := by rw [hn]; rfl
    simp only [sh80f81_2, hkk, decide_true, cond_true, getI_lt hk, bindS, rightOf_eq, hw1, g2, g1, ec2, g5, hsw, sh81, hidx, happ]
    rw [w64_id (x := (k : Int) + 1) (by omega) (by omega)]
    rfl
theorem pathOfStrand_total (s : Int) (w : List Int) (t : Int) (h : w.length ≤ 1048576) : ∃ r, sh33 s w t = some r ∧ sh34 s w t = some r ∧ r.1.length ≤ 201 := by
  unfold sh33 sh34
  rw [l23Ok_eq s w h, implValidWord_eq s w h]
  simp only [bindS, sh65, sh79]
  cases hv : validW s w
  · exact ⟨_, rfl, rfl, by simp⟩
  · cases hr : decide (0 ≤ t) && decide (t ≤ w64 (s - 1))
    · exact ⟨_, rfl, rfl, by simp⟩
    · have hlen := validW_len hv
      unfold validW at hv
      simp only [Bool.and_eq_true, decide_eq_true_eq, List.all_eq_true] at hv
      obtain ⟨⟨hs, hs2⟩, _, hall⟩ := hv
      obtain ⟨l0, e0, hl0, hm0⟩ := first_eq s (by omega) (by omega)
      have i1 := iter_fold (sb := sh33_1 w t) w (fun k (p : List Int × List Int) => ((k : Int), p.1, p.2)) (pstep t) (fun p => p.2) (fun k p => p.1.length = s.toNat ∧ p.2.length = k + 1) (l0, [t]) ⟨hl0, rfl⟩ (by omega) (fun k hk p hp => ⟨(path_body s t w hs hs2 hlen hall k hk p hp.1 hp.2).1, by rw [pstep, swapL_length]; exact hp.1, by simp [pstep, hp.2]⟩) (fun p _ => by
        have hd : decide ((w.length : Int) < (w.length : Int)) = false := by simp
        simp only [sh33_1, hd, cond_false])
      have i2 := iter_fold (sb := sh80f81_2 w) w (fun k (p : List Int × List Int) => ((k : Int), p.2, t, p.1)) (pstep t) (fun p => (p.2, t, p.1)) (fun k p => p.1.length = s.toNat ∧ p.2.length = k + 1) (l0, [t]) ⟨hl0, rfl⟩ (by omega) (fun k hk p hp => ⟨(path_body s t w hs hs2 hlen hall k hk p hp.1 hp.2).2, by rw [pstep, swapL_length]; exact hp.1, by simp [pstep, hp.2]⟩) (fun p _ => by
        have hd : decide ((w.length : Int) < (w.length : Int)) = false := by simp
        simp only [sh80f81_2, hd, cond_false])
      have h1 := i1.1
      have h2 := i2.1
      simp only [Int.natCast_zero] at h1 h2
      have e1 : iter (sh80f81_1 s) (0, []) = some l0 := by
        have := e0
        unfold sh76 at this
        have e : iter (sh80f81_1 s) (0, []) = iter (sh76_1 s) (0, []) := rfl
        rw [e]
        cases hh : iter (sh76_1 s) (0, []) with
        | none => rw [hh] at this; cases this
        | some z => rw [hh] at this; exact this
      simp only [Bool.not_true, cond_false, e0, bindS, h1, sh80f81, e1, h2]
      refine ⟨_, rfl, rfl, ?_⟩
      have := i1.2.2
      show (List.foldl (pstep t) _ w).2.length ≤ 201
      omega

/-! FnExactPathOfStrand -/
theorem law6 (s : Int) (w : List Int) (t : Int) : sh6 s w t = some true := by
  unfold sh6
  by_cases h : w.length ≤ 1048576
  · have hd : decide (1048576 < (w.length : Int)) = false := by simp; omega
    obtain ⟨r, hr, hr2, hl⟩ := pathOfStrand_total s w t h
    have hm := markI64_eq r.1 1 (by omega) (by omega) (by omega)
    have hm2 := markI64_eq w 1 (by omega) (by omega) (by omega)
    have hh := heldI64_eq 1 r.1.length (by omega) (by omega) (by omega)
    have hn : decide ((1 : Int) + (r.1.length : Int) < 0) = false := by simp; omega
    have hn2 : decide ((1 : Int) + (w.length : Int) < 0) = false := by simp; omega
    simp only [hd, cond_false, toI64_eq w h, bindS, hr2, hr, eqI64_eq r.1 r.1 (by omega), eqI64_eq w w h, decide_true, Bool.not_true, bne_self_eq_false, Bool.or_self, hm, hm2, hh, hn, hn2]
  · have hd : decide (1048576 < (w.length : Int)) = true := by simp; omega
    simp [hd]
end Go.Sh
