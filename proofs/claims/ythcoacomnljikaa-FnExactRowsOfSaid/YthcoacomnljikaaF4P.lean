/- Plain laws: what the shallow functions come to. -/
import Derived.Test.YthcoacomnljikaaF4W0
set_option linter.unusedVariables false
set_option linter.unusedSimpArgs false
namespace Go.Sh
open Go Go.RowKit

/-! iters -/
theorem w64_lo (x : Int) : -9223372036854775808 ≤ w64 x := by
  have := IntKind.wrap_i64 x
  show _ ≤ IntKind.i64.wrap x
  omega
theorem w64_hi (x : Int) : w64 x ≤ 9223372036854775807 := by
  have := IntKind.wrap_i64 x
  show IntKind.i64.wrap x ≤ _
  omega
theorem getI_toNat {T : Type} {xs : List T} {i : Int} (h0 : 0 ≤ i) (h : i.toNat < xs.length) : getI xs i = some xs[i.toNat] := by
  unfold getI; rw [if_pos h0]; exact List.getElem?_eq_getElem h
theorem nzI_ok {a : Int} (h : a ≠ 0) : nzI a = some a := by simp [nzI, h]

/-- The loop that looks for the first element that passes. -/
theorem iter_find {T : Type} {sb : Int → Option (Int ⊕ (Unit ⊕ Int))} {xs : List T} {p : T → Bool} (hl : xs.length < 1099511627776)
    (hsb : ∀ (k : Nat) (h : k < xs.length), sb (k : Int) = if p xs[k] = true then some (.inr (.inr (k : Int))) else some (.inl ((k : Int) + 1))) (he : sb (xs.length : Int) = some (.inr (.inl ()))) :
    iter sb 0 = some (if xs.any p = true then .inr (xs.findIdx p : Int) else .inl ()) := by
  have h := iter_res (sb := sb) (fun k => (k : Int)) (fun k => if (xs.drop k).any p = true then (.inr (k + (xs.drop k).findIdx p : Nat) : Unit ⊕ Int) else .inl ()) xs.length (by omega) (fun k hk => ?_) (by
    rw [he, List.drop_of_length_le (Nat.le_refl _)]; simp)
  · simpa using h
  · rw [hsb k hk, List.drop_eq_getElem_cons hk]
    by_cases hx : p xs[k] = true
    · right
      rw [if_pos hx]
      simp only [List.any_cons, hx, Bool.true_or, if_true, List.findIdx_cons, cond_true, Nat.add_zero]
    · left
      rw [if_neg hx]
      refine ⟨by simp, ?_⟩
      have hx' : p xs[k] = false := by simpa using hx
      simp only [List.any_cons, hx', Bool.false_or, List.findIdx_cons, cond_false]
      split <;> simp
      omega

theorem iterN_congr {σ ρ : Type} {sb1 sb2 : σ → Option (σ ⊕ ρ)} (I : σ → Prop) (hs : ∀ s, I s → sb1 s = sb2 s ∧ ∀ s', sb2 s = some (.inl s') → I s') : ∀ (n : Nat) (s : σ), I s → iterN sb1 n s = iterN sb2 n s
  | 0, _, _ => rfl
  | n + 1, s, h => by
    obtain ⟨h1, h2⟩ := hs s h
    simp only [iterN, h1]
    cases hb : sb2 s with
    | none => rfl
    | some o =>
      cases o with
      | inl s' => exact iterN_congr I hs n s' (h2 s' hb)
      | inr x => rfl
/-- Two loops whose bodies agree where the invariant holds. -/
theorem iter_congr {σ ρ : Type} {sb1 sb2 : σ → Option (σ ⊕ ρ)} (I : σ → Prop) {s0 : σ} (h0 : I s0) (hs : ∀ s, I s → sb1 s = sb2 s ∧ ∀ s', sb2 s = some (.inl s') → I s') : iter sb1 s0 = iter sb2 s0 :=
  iterN_congr I hs FUEL s0 h0

/-- A loop over a list, as a fold. -/
theorem iter_fold {T σ S ρ : Type} {sb : S → Option (S ⊕ ρ)} (xs : List T) (st : Nat → σ → S) (g : σ → T → σ) (h : σ → ρ) (I : Nat → σ → Prop) (s0 : σ) (h0 : I 0 s0) (hl : xs.length < 1099511627776)
    (hsb : ∀ (k : Nat) (hk : k < xs.length) s, I k s → sb (st k s) = some (.inl (st (k + 1) (g s xs[k]))) ∧ I (k + 1) (g s xs[k])) (he : ∀ s, I xs.length s → sb (st xs.length s) = some (.inr (h s))) :
    iter sb (st 0 s0) = some (h (xs.foldl g s0)) ∧ I xs.length (xs.foldl g s0) := by
  have hI : ∀ k, k ≤ xs.length → I k ((xs.take k).foldl g s0) := by
    intro k
    induction k with
    | zero => intro _; simpa using h0
    | succ k ih =>
      intro hk
      rw [List.take_succ_eq_append_getElem (by omega), List.foldl_append]
      exact (hsb k (by omega) _ (ih (by omega))).2
  have hlast := hI xs.length (Nat.le_refl _)
  rw [List.take_length] at hlast
  refine ⟨?_, hlast⟩
  refine iter_steps (fun k => st k ((xs.take k).foldl g s0)) xs.length (by omega) (fun k hk => ?_) (by rw [List.take_length]; exact he _ hlast)
  rw [(hsb k hk _ (hI k (by omega))).1, List.take_succ_eq_append_getElem hk, List.foldl_append]
  rfl

/-- The greater one. -/
def mx (a b : Int) : Int := if a < b then b else a
def mn (a b : Int) : Int := if b < a then b else a
theorem mx_comm' (a b : Int) : (if b < a then a else b) = mx a b := by unfold mx; split <;> split <;> omega
theorem foldl_snoc {α β : Type} (f : α → β) : ∀ (xs : List α) (a : List β), xs.foldl (fun acc m => acc ++ [f m]) a = a ++ xs.map f
  | [], a => by simp
  | x :: xs, a => by rw [List.foldl_cons, foldl_snoc f xs]; simp

/-! max -/
theorem l00Max_eq (a b : Int) : sh71 a b = some (mx a b) := by
  unfold sh71
  rw [← mx_comm']
  by_cases h : b < a <;> simp [h]

/-! validword -/
/-- A move fits. -/
def okM (s m : Int) : Bool := !(m == 0) && (decide (w64 (1 - s) ≤ m) && decide (m ≤ w64 (s - 1)))
def validW (s : Int) (w : List Int) : Bool := (decide (2 ≤ s) && decide (s ≤ 12)) && (decide (w.length ≤ 200) && w.all (okM s))

theorem l23Ok_eq (s : Int) (w : List Int) (h : w.length ≤ 1048576) : sh69 s w = some (validW s w) := by
  unfold sh69 sh65
  rw [bindS]
  unfold validW
  cases hs : (decide (2 ≤ s) && decide (s ≤ 12))
  · simp
  · by_cases hl : w.length ≤ 200
    · have hd : decide (200 < (w.length : Int)) = false := by simp; omega
      simp only [hd, Bool.not_true, Bool.or_self, cond_false]
      rw [iter_all (xs := w) (p := okM s) (r := false) (by omega) (fun k hk => ?_) (by simp [sh69_1]), bindS]
      · cases ha : w.all (okM s) <;> simp [elimS, hl]
      · have h2 : (k : Int) < w.length := by omega
        simp only [sh69_1, sh65, h2, decide_true, cond_true, getI_lt hk, bindS]
        rw [w64_id (x := (k : Int) + 1) (by omega) (by omega)]
        unfold okM
        cases h0 : w[k] == 0 <;> simp [bindS]
        cases h1 : decide (w64 (1 - s) ≤ w[k]) <;> cases h3 : decide (w[k] ≤ w64 (s - 1)) <;> simp_all
    · have hd : decide (200 < (w.length : Int)) = true := by simp; omega
      simp [hd, hl]

theorem implValidWord_eq (s : Int) (w : List Int) (h : w.length ≤ 1048576) : sh72 s w = some (validW s w) := by
  unfold sh72
  rw [iter_all (xs := w) (p := okM s) (r := false) (by omega) (fun k hk => ?_) (by simp [sh72_1]), bindS]
  · unfold validW
    cases ha : w.all (okM s)
    · simp [elimS]
    · simp only [elimS, if_true, sh79, bindS, Bool.and_true]
      congr 2
      simp only [decide_eq_decide]
      omega
  · have h2 : (k : Int) < w.length := by omega
    simp only [sh72_1, sh79, h2, decide_true, cond_true, getI_lt hk, bindS]
    rw [w64_id (x := (k : Int) + 1) (by omega) (by omega)]
    unfold okM
    cases h0 : w[k] == 0 <;> simp [bindS]
    cases h1 : decide (w64 (1 - s) ≤ w[k]) <;> cases h3 : decide (w[k] ≤ w64 (s - 1)) <;> simp_all

theorem validW_len {s : Int} {w : List Int} (h : validW s w = true) : w.length ≤ 200 := by
  unfold validW at h
  simp only [Bool.and_eq_true, decide_eq_true_eq] at h
  exact h.2.1

/-! order -/
/-- The greater place of a move. -/
def rgt (m : Int) : Int := mx m (w64 (0 - m))
theorem l15Size_eq (m : Int) : sh70 m = some (rgt m) := by
  unfold sh70; rw [l00Max_eq]; rfl
theorem rightOf_eq (m : Int) : sh73 m = some (rgt m) := rfl
theorem rgt_bounds {s m : Int} (hs : 2 ≤ s) (hs2 : s ≤ 12) (h : okM s m = true) : 1 ≤ rgt m ∧ rgt m ≤ s - 1 := by
  unfold okM at h
  simp only [Bool.and_eq_true, Bool.not_eq_true', beq_eq_false_iff_ne, decide_eq_true_eq] at h
  rw [w64_id (by omega) (by omega), w64_id (by omega) (by omega)] at h
  unfold rgt mx
  rw [w64_id (by omega) (by omega)]
  split <;> omega
def swapL (xs : List Int) (k : Nat) : List Int := (xs.set (k - 1) (xs.getD k 0)).set k (xs.getD (k - 1) 0)
theorem swapL_length (xs : List Int) (k : Nat) : (swapL xs k).length = xs.length := by simp [swapL]


/-! eq_i64s -/
theorem eqI64_eq (xs ys : List Int) (h : xs.length ≤ 1048576) : sh27 xs ys = some (decide (xs = ys)) := by
  unfold sh27
  by_cases hl : xs.length = ys.length
  · have h1 : ((xs.length : Int) != (ys.length : Int)) = false := by simp; omega
    rw [h1, cond_false, iter_eq (xs := xs) (ys := ys) (by omega) hl (fun k hk => ?_) (by simp [sh27_1]), bindS]
    · by_cases he : xs = ys <;> simp [he, elimS]
    · have h2 : (k : Int) < xs.length := by omega
      have h3 : k < ys.length := by omega
      simp only [sh27_1, h2, decide_true, cond_true, getI_lt hk, getI_lt h3, bindS]
      rw [w64_id (by omega) (by omega)]
      by_cases he : xs[k] = ys[k]
      · simp [he]
      · rw [if_neg he, show (xs[k] != ys[k]) = true from bne_iff_ne.2 he]
        rfl
  · have h1 : ((xs.length : Int) != (ys.length : Int)) = true := by simp; omega
    rw [h1, cond_true]
    have : xs ≠ ys := fun h => hl (by rw [h])
    simp [this]

/-! mark_i64s -/
/-- The numbers that are laid into a result to see whether it is of one's own. -/
def marksFrom (m : Int) (n : Nat) : List Int := (List.range n).map fun (i : Nat) => m + (i : Int)
theorem marksFrom_length (m : Int) (n : Nat) : (marksFrom m n).length = n := by simp [marksFrom]
theorem marksFrom_get (m : Int) (n k : Nat) (h : k < n) : (marksFrom m n)[k]'(by rw [marksFrom_length]; exact h) = m + k := by simp [marksFrom]
theorem marksFrom_succ (m : Int) (k : Nat) : marksFrom m (k + 1) = marksFrom m k ++ [m + k] := by simp [marksFrom, List.range_succ]

theorem markI64_eq (xs : List Int) (m : Int) (h0 : 0 ≤ m) (h1 : m ≤ 1099511627776) (h : xs.length ≤ 1099511627776) : sh28 xs m = some (m + xs.length, marksFrom m xs.length) := by
  unfold sh28
  have hi := iter_steps (sb := sh28_1 xs) (fun k => (m + (k : Int), (k : Int), marksFrom m k ++ xs.drop k)) xs.length (x := (m + xs.length, marksFrom m xs.length)) (by omega) (fun k hk => ?_) ?_
  · simp only [List.drop_zero] at hi
    rw [show marksFrom m 0 ++ xs = xs from rfl] at hi
    simp only [Int.natCast_zero, Int.add_zero] at hi
    rw [hi, bindS]
  · have h2 : (k : Int) < xs.length := by omega
    have hl : k < (marksFrom m k ++ xs.drop k).length := by rw [List.length_append, marksFrom_length, List.length_drop]; omega
    simp only [sh28_1, h2, decide_true, cond_true, getI_lt hl, bindS, Int.toNat_natCast]
    rw [w64_id (by omega) (by omega), w64_id (by omega) (by omega), List.set_append, if_neg (by rw [marksFrom_length]; omega), marksFrom_length, Nat.sub_self, List.drop_eq_getElem_cons hk, List.set_cons_zero, marksFrom_succ, List.append_assoc]
    simp only [Option.some.injEq, Sum.inl.injEq, Prod.mk.injEq]
    refine ⟨by omega, by omega, rfl⟩
  · have hd : decide ((xs.length : Int) < (xs.length : Int)) = false := by simp
    simp only [sh28_1, hd, cond_false, List.drop_length, List.append_nil]

theorem heldI64_eq (m : Int) (n : Nat) (h0 : 0 ≤ m) (h1 : m ≤ 1099511627776) (h : n ≤ 1099511627776) : sh35 (marksFrom m n) m = some (m + n) := by
  unfold sh35
  have hi := iter_steps (sb := sh35_1 (marksFrom m n)) (fun k => (m + (k : Int), (k : Int))) n (x := .inl (m + n)) (by omega) (fun k hk => ?_) ?_
  · simp only [Int.natCast_zero, Int.add_zero] at hi
    rw [hi, bindS]
    rfl
  · have h2 : (k : Int) < (marksFrom m n).length := by rw [marksFrom_length]; omega
    have hl : k < (marksFrom m n).length := by rw [marksFrom_length]; exact hk
    simp only [sh35_1, h2, decide_true, cond_true, getI_lt hl, bindS, marksFrom_get m n k hk, bne_self_eq_false, cond_false]
    rw [w64_id (by omega) (by omega), w64_id (by omega) (by omega)]
    simp only [Option.some.injEq, Sum.inl.injEq, Prod.mk.injEq]
    refine ⟨by omega, by omega⟩
  · have hd : decide ((n : Int) < ((marksFrom m n).length : Int)) = false := by rw [marksFrom_length]; simp
    simp only [sh35_1, hd, cond_false]

/-! mark_i64ss -/
theorem iter_done {σ ρ : Type} {sb : σ → Option (σ ⊕ ρ)} {s : σ} {x : ρ} (h : sb s = some (.inr x)) : iter sb s = some x := iter_steps (fun _ => s) 0 (by omega) (fun k hk => by omega) h
def totL : List (List Int) → Nat
  | [] => 0
  | r :: rs => r.length + totL rs
theorem totL_snoc : ∀ (rs : List (List Int)) (r : List Int), totL (rs ++ [r]) = totL rs + r.length
  | [], r => by simp [totL]
  | x :: xs, r => by rw [List.cons_append, totL, totL, totL_snoc xs r]; omega
theorem totL_bound {B : Nat} : ∀ {rs : List (List Int)}, (∀ r ∈ rs, r.length ≤ B) → totL rs ≤ B * rs.length
  | [], _ => by simp [totL]
  | x :: xs, h => by
    have h1 := h x (List.mem_cons_self ..)
    have h2 := totL_bound (fun r hr => h r (List.mem_cons_of_mem _ hr))
    rw [totL, List.length_cons, Nat.mul_succ]; omega
theorem totL_take : ∀ (rs : List (List Int)) (k : Nat), totL (rs.take k) ≤ totL rs
  | [], k => by simp [totL]
  | x :: xs, 0 => by simp [totL]
  | x :: xs, k + 1 => by have := totL_take xs k; rw [List.take_succ_cons, totL, totL]; omega
def markSS : Int → List (List Int) → List (List Int)
  | _, [] => []
  | m, r :: rs => marksFrom m r.length :: markSS (m + r.length) rs
theorem markSS_snoc : ∀ (m : Int) (rs : List (List Int)) (r : List Int), markSS m (rs ++ [r]) = markSS m rs ++ [marksFrom (m + totL rs) r.length]
  | m, [], r => by simp [markSS, totL]
  | m, x :: xs, r => by
    rw [List.cons_append, markSS, markSS, markSS_snoc _ xs r, List.cons_append, totL, show m + (x.length : Int) + (totL xs : Int) = m + ((x.length + totL xs : Nat) : Int) by omega]
theorem markSS_length : ∀ (m : Int) (rs : List (List Int)), (markSS m rs).length = rs.length
  | m, [] => rfl
  | m, x :: xs => by rw [markSS, List.length_cons, List.length_cons, markSS_length]
theorem markSS_get : ∀ (m : Int) (rs : List (List Int)) (k : Nat) (h : k < rs.length), (markSS m rs)[k]'(by rw [markSS_length]; exact h) = marksFrom (m + totL (rs.take k)) rs[k].length
  | m, x :: xs, 0, h => by simp [markSS, totL]
  | m, x :: xs, k + 1, h => by
    simp only [markSS, List.getElem_cons_succ]
    rw [markSS_get _ xs k (by simpa using h), List.take_succ_cons, totL]
    congr 1
    omega
theorem markI64SS_eq (xs : List (List Int)) (m : Int) (h0 : 0 ≤ m) (h1 : m ≤ 1048576) (hl : xs.length ≤ 1048576) (ht : totL xs ≤ 1048576) : sh29 xs m = some (m + totL xs, markSS m xs) := by
  unfold sh29
  have hi := iter_steps (sb := sh29_1 xs) (fun k => (m + (totL (xs.take k) : Int), (k : Int), markSS m (xs.take k) ++ xs.drop k)) xs.length (x := (m + totL xs, markSS m xs)) (by omega) (fun k hk => ?_) ?_
  · simp only [List.take_zero, List.drop_zero] at hi
    rw [show markSS m [] ++ xs = xs from rfl, show (totL [] : Nat) = 0 from rfl] at hi
    simp only [Int.natCast_zero, Int.add_zero] at hi
    rw [hi, bindS]
  · have h2 : (k : Int) < xs.length := by omega
    have hml : (markSS m (xs.take k)).length = k := by rw [markSS_length, List.length_take]; omega
    have hlk : k < (markSS m (xs.take k) ++ xs.drop k).length := by rw [List.length_append, hml, List.length_drop]; omega
    have hg : (markSS m (xs.take k) ++ xs.drop k)[k] = xs[k] := by
      rw [List.getElem_append_right (by omega)]
      simp [hml]
    have htk := totL_take xs k
    have htk2 : totL (xs.take (k + 1)) = totL (xs.take k) + xs[k].length := by rw [List.take_succ_eq_append_getElem hk, totL_snoc]
    have htk3 := totL_take xs (k + 1)
    simp only [sh29_1, h2, decide_true, cond_true, getI_lt hlk, hg, bindS, markI64_eq xs[k] (m + (totL (xs.take k) : Int)) (by omega) (by omega) (by omega), Int.toNat_natCast]
    rw [w64_id (by omega) (by omega), List.set_append, if_neg (by omega), hml, Nat.sub_self, List.drop_eq_getElem_cons hk, List.set_cons_zero, htk2]
    rw [List.take_succ_eq_append_getElem hk, markSS_snoc, List.append_assoc]
    simp only [Option.some.injEq, Sum.inl.injEq, Prod.mk.injEq]
    refine ⟨by omega, by omega, rfl⟩
  · have hd : decide ((xs.length : Int) < (xs.length : Int)) = false := by simp
    simp only [sh29_1, hd, cond_false, List.drop_length, List.append_nil, List.take_length]
theorem heldI64SS_eq (xs : List (List Int)) (m : Int) (h0 : 0 ≤ m) (h1 : m ≤ 1048576) (hl : xs.length ≤ 1048576) (ht : totL xs ≤ 1048576) : sh30 (markSS m xs) m = some (m + totL xs) := by
  unfold sh30
  have hi := iter_steps (sb := sh30_1 (markSS m xs)) (fun k => (m + (totL (xs.take k) : Int), (k : Int))) xs.length (x := .inl (m + totL xs)) (by omega) (fun k hk => ?_) ?_
  · simp only [List.take_zero] at hi
    rw [show (totL [] : Nat) = 0 from rfl] at hi
    simp only [Int.natCast_zero, Int.add_zero] at hi
    rw [hi, bindS]
    rfl
  · have hlk : k < (markSS m xs).length := by rw [markSS_length]; exact hk
    have h2 : (k : Int) < (markSS m xs).length := by omega
    have htk := totL_take xs k
    have htk2 : totL (xs.take (k + 1)) = totL (xs.take k) + xs[k].length := by rw [List.take_succ_eq_append_getElem hk, totL_snoc]
    have htk3 := totL_take xs (k + 1)
    simp only [sh30_1, h2, decide_true, cond_true, getI_lt hlk, markSS_get m xs k hk, bindS, heldI64_eq (m + (totL (xs.take k) : Int)) xs[k].length (by omega) (by omega) (by omega)]
    rw [decide_eq_false (by omega), cond_false, w64_id (by omega) (by omega), htk2]
    simp only [Option.some.injEq, Sum.inl.injEq, Prod.mk.injEq]
    refine ⟨by omega, by omega⟩
  · have hd : decide ((xs.length : Int) < ((markSS m xs).length : Int)) = false := by rw [markSS_length]; simp
    simp only [sh30_1, hd, cond_false, List.take_length]
theorem eqI64SS_refl (xs : List (List Int)) (hl : xs.length ≤ 1048576) (hx : ∀ r ∈ xs, r.length ≤ 1048576) : sh26 xs xs = some true := by
  unfold sh26
  rw [bne_self_eq_false, cond_false, iter_all (xs := xs) (p := fun _ => true) (r := false) (by omega) (fun k hk => ?_) (by simp [sh26_1]), bindS]
  · simp [elimS]
  · have h2 : (k : Int) < xs.length := by omega
    simp only [sh26_1, h2, decide_true, cond_true, getI_lt hk, bindS, eqI64_eq xs[k] xs[k] (hx _ (List.getElem_mem hk)), Bool.not_true, cond_false, if_true]
    rw [w64_id (by omega) (by omega)]

/-! to_i64s -/
theorem toI64_eq (xs : List Int) (h : xs.length ≤ 1048576) : sh24 xs = some xs := by
  unfold sh24
  rw [mkL_ok (by omega), bindS, iter_copy (xs := xs) (by omega) (fun i ys => rfl), bindS]

/-! rowsof -/
def rowN (f : List Int) (m : Int) : Int := mx (f.getD ((rgt m).toNat - 1) 0) (f.getD (rgt m).toNat 0)
def rgrow (o : List (List Int)) (r : Int) : List (List Int) := if r = (o.length : Int) then o ++ [[]] else o
def rstep (p : List Int × List (List Int)) (m : Int) : List Int × List (List Int) :=
  ((p.1.set ((rgt m).toNat - 1) (rowN p.1 m + 1)).set (rgt m).toNat (rowN p.1 m + 1), (rgrow p.2 (rowN p.1 m)).set (rowN p.1 m).toNat ((rgrow p.2 (rowN p.1 m)).getD (rowN p.1 m).toNat [] ++ [m]))
def okR (s : Int) (k : Nat) (p : List Int × List (List Int)) : Prop := p.1.length = s.toNat ∧ (∀ f ∈ p.1, 0 ≤ f ∧ f ≤ p.2.length) ∧ p.2.length ≤ k ∧ ∀ r ∈ p.2, r.length ≤ k
theorem mx_cases (a b : Int) : mx a b = a ∨ mx a b = b := by unfold mx; split <;> simp
theorem getD_mem' {f : List Int} {k : Nat} (h : k < f.length) : f.getD k 0 ∈ f := by
  rw [List.getD_eq_getElem?_getD, List.getElem?_eq_getElem h]; exact List.getElem_mem h
theorem rowN_bd {s m : Int} {k : Nat} {p : List Int × List (List Int)} (hs : 2 ≤ s) (hs2 : s ≤ 12) (hm : okM s m = true) (h : okR s k p) : 0 ≤ rowN p.1 m ∧ rowN p.1 m ≤ p.2.length := by
  obtain ⟨b1, b2⟩ := rgt_bounds hs hs2 hm
  have h1 := h.2.1 _ (getD_mem' (f := p.1) (k := (rgt m).toNat - 1) (by have := h.1; omega))
  have h2 := h.2.1 _ (getD_mem' (f := p.1) (k := (rgt m).toNat) (by have := h.1; omega))
  unfold rowN
  rcases mx_cases (p.1.getD ((rgt m).toNat - 1) 0) (p.1.getD (rgt m).toNat 0) with e | e <;> rw [e] <;> assumption
theorem rgrow_facts {o : List (List Int)} {r : Int} (h0 : 0 ≤ r) (h1 : r ≤ o.length) : r.toNat < (rgrow o r).length ∧ o.length ≤ (rgrow o r).length ∧ (rgrow o r).length ≤ o.length + 1 ∧ (r = (o.length : Int) → (rgrow o r).length = o.length + 1) ∧ (r ≠ (o.length : Int) → rgrow o r = o) := by
  unfold rgrow
  split
  · rename_i h; refine ⟨?_, ?_, ?_, ?_, ?_⟩ <;> simp <;> omega
  · rename_i h; refine ⟨?_, ?_, ?_, ?_, ?_⟩ <;> (try omega); simp
theorem rgrow_mem {o : List (List Int)} {r : Int} {x : List Int} (h : x ∈ rgrow o r) : x ∈ o ∨ x = [] := by
  unfold rgrow at h
  split at h
  · simpa using h
  · exact .inl h
theorem rstep_ok {s m : Int} {k : Nat} {p : List Int × List (List Int)} (hs : 2 ≤ s) (hs2 : s ≤ 12) (hm : okM s m = true) (h : okR s k p) : okR s (k + 1) (rstep p m) := by
  obtain ⟨r0, r1⟩ := rowN_bd hs hs2 hm h
  obtain ⟨g1, g2, g3, g4, g5⟩ := rgrow_facts r0 r1
  obtain ⟨h1, h2, h3, h4⟩ := h
  refine ⟨by simp [rstep, h1], fun f hf => ?_, by simp only [rstep, List.length_set]; omega, fun r hr => ?_⟩
  · simp only [rstep, List.length_set]
    rcases List.mem_or_eq_of_mem_set hf with hf | hf
    · rcases List.mem_or_eq_of_mem_set hf with hf | hf
      · have := h2 f hf; omega
      · omega
    · omega
  · rcases List.mem_or_eq_of_mem_set hr with hr | hr
    · rcases rgrow_mem hr with h | h
      · have := h4 r h; omega
      · subst h; simp
    · subst hr
      rw [List.length_append, List.getD_eq_getElem?_getD, List.getElem?_eq_getElem g1]
      simp only [Option.getD_some, List.length_cons, List.length_nil]
      rcases rgrow_mem (List.getElem_mem g1) with h | h
      · have := h4 _ h; omega
      · rw [h]; simp
theorem rows_body (s : Int) (w : List Int) (hs : 2 ≤ s) (hs2 : s ≤ 12) (hw : w.length ≤ 200) (hall : ∀ x ∈ w, okM s x = true) (k : Nat) (hk : k < w.length) (p : List Int × List (List Int)) (h : okR s k p) :
    sh23_1 w ((k : Int), p.1, p.2) = some (.inl (((k + 1 : Nat) : Int), (rstep p w[k]).1, (rstep p w[k]).2)) ∧ sh25_1 w ((k : Int), p.2, p.1) = some (.inl (((k + 1 : Nat) : Int), (rstep p w[k]).2, (rstep p w[k]).1)) := by
  have hm := hall _ (List.getElem_mem hk)
  obtain ⟨b1, b2⟩ := rgt_bounds hs hs2 hm
  obtain ⟨r0, r1⟩ := rowN_bd hs hs2 hm h
  obtain ⟨q1, q2, q3, q4, q5⟩ := rgrow_facts r0 r1
  obtain ⟨h1, h2, h3, h4⟩ := h
  obtain ⟨fr, o⟩ := p
  simp only at h1 h2 h3 h4 r0 r1 q1 q2 q3 q4 q5
  have hkk : (k : Int) < w.length := by omega
  have ha : (rgt w[k]).toNat < fr.length := by omega
  have hb : (rgt w[k]).toNat - 1 < fr.length := by omega
  have hw1 : w64 (rgt w[k] - 1) = (((rgt w[k]).toNat - 1 : Nat) : Int) := by rw [w64_id (by omega) (by omega)]; omega
  have g1 : getI fr (rgt w[k]) = some (fr.getD (rgt w[k]).toNat 0) := by
    rw [List.getD_eq_getElem?_getD, List.getElem?_eq_getElem ha]
    exact getI_toNat (by omega) ha
  have g2 : getI fr (((rgt w[k]).toNat - 1 : Nat) : Int) = some (fr.getD ((rgt w[k]).toNat - 1) 0) := by
    rw [List.getD_eq_getElem?_getD, List.getElem?_eq_getElem hb]
    exact getI_lt hb
  have hrow : mx (fr.getD ((rgt w[k]).toNat - 1) 0) (fr.getD (rgt w[k]).toNat 0) = rowN fr w[k] := rfl
  have hw2 : w64 (rowN fr w[k] + 1) = rowN fr w[k] + 1 := w64_id (by omega) (by omega)
  have g3 : getI (fr.set ((rgt w[k]).toNat - 1) (rowN fr w[k] + 1)) (rgt w[k]) = some ((fr.set ((rgt w[k]).toNat - 1) (rowN fr w[k] + 1))[(rgt w[k]).toNat]'(by rw [List.length_set]; exact ha)) := getI_toNat (by omega) (by rw [List.length_set]; exact ha)
  have hj : (bif rowN fr w[k] == ((o.length : Nat) : Int) then (Option.bind (appL o [([] : List Int)]) fun x55 => some x55) else (some o)) = some (rgrow o (rowN fr w[k])) := by
    unfold rgrow
    by_cases he : rowN fr w[k] = (o.length : Int)
    · rw [beq_iff_eq.2 he, cond_true, appL_ok (by simp only [List.length_cons, List.length_nil]; omega), bindS, if_pos he]
    · rw [beq_eq_false_iff_ne.2 he, cond_false, if_neg he]
  have g4 : getI (rgrow o (rowN fr w[k])) (rowN fr w[k]) = some ((rgrow o (rowN fr w[k])).getD (rowN fr w[k]).toNat []) := by
    rw [List.getD_eq_getElem?_getD, List.getElem?_eq_getElem q1]
    exact getI_toNat r0 q1
  have hlen : ((rgrow o (rowN fr w[k])).getD (rowN fr w[k]).toNat []).length ≤ k := by
    rw [List.getD_eq_getElem?_getD, List.getElem?_eq_getElem q1]
    simp only [Option.getD_some]
    rcases rgrow_mem (List.getElem_mem q1) with hh | hh
    · exact h4 _ hh
    · rw [hh]; simp
  have g5 : appL ((rgrow o (rowN fr w[k])).getD (rowN fr w[k]).toNat []) [w[k]] = some ((rgrow o (rowN fr w[k])).getD (rowN fr w[k]).toNat [] ++ [w[k]]) := appL_ok (by simp only [List.length_cons, List.length_nil]; omega)
  have emx : (if fr.getD ((rgt w[k]).toNat - 1) 0 < fr.getD (rgt w[k]).toNat 0 then fr.getD (rgt w[k]).toNat 0 else fr.getD ((rgt w[k]).toNat - 1) 0) = rowN fr w[k] := by
    rw [← hrow]; unfold mx; split <;> (try split) <;> omega
  constructor
  · simp only [sh23_1, hkk, decide_true, cond_true, getI_lt hk, bindS, l15Size_eq, hw1, g2, g1, l00Max_eq, hrow, hw2, Int.toNat_natCast, g3, hj, g4, g5]
    rw [w64_id (x := (k : Int) + 1) (by omega) (by omega)]
    rfl
  · simp only [sh25_1, hkk, decide_true, cond_true, getI_lt hk, bindS, rightOf_eq, hw1, g2, g1, emx, hw2, Int.toNat_natCast, g3, hj, g4, g5]
    rw [w64_id (x := (k : Int) + 1) (by omega) (by omega)]
    rfl
theorem rowsOf_total (s : Int) (w : List Int) (h : w.length ≤ 1048576) : ∃ r, sh23 s w = some r ∧ sh25 s w = some r ∧ r.1.length ≤ 200 ∧ ∀ x ∈ r.1, x.length ≤ 200 := by
  unfold sh23 sh25
  rw [l23Ok_eq s w h, implValidWord_eq s w h]
  simp only [bindS]
  cases hv : validW s w
  · exact ⟨_, rfl, rfl, by simp, by simp⟩
  · have hlen := validW_len hv
    unfold validW at hv
    simp only [Bool.and_eq_true, decide_eq_true_eq, List.all_eq_true] at hv
    obtain ⟨⟨hs, hs2⟩, _, hall⟩ := hv
    have emk : mkL s (0 : Int) = some (List.replicate s.toNat 0) := by
      have := mkL_ok (n := s.toNat) (z := (0 : Int)) (by omega)
      rwa [Int.toNat_of_nonneg (by omega)] at this
    have hO : okR s 0 (List.replicate s.toNat 0, []) := ⟨by simp, fun f hf => by have := List.eq_of_mem_replicate hf; subst this; simp, by simp, by simp⟩
    have i1 := iter_fold (sb := sh23_1 w) w (fun k (p : List Int × List (List Int)) => ((k : Int), p.1, p.2)) rstep (fun p => p.2) (fun k p => okR s k p) _ hO (by omega) (fun k hk p hp => ⟨(rows_body s w hs hs2 hlen hall k hk p hp).1, rstep_ok hs hs2 (hall _ (List.getElem_mem hk)) hp⟩) (fun p _ => by
      have hd : decide ((w.length : Int) < (w.length : Int)) = false := by simp
      simp only [sh23_1, hd, cond_false])
    have i2 := iter_fold (sb := sh25_1 w) w (fun k (p : List Int × List (List Int)) => ((k : Int), p.2, p.1)) rstep (fun p => p.2) (fun k p => okR s k p) _ hO (by omega) (fun k hk p hp => ⟨(rows_body s w hs hs2 hlen hall k hk p hp).2, rstep_ok hs hs2 (hall _ (List.getElem_mem hk)) hp⟩) (fun p _ => by
      have hd : decide ((w.length : Int) < (w.length : Int)) = false := by simp
      simp only [sh25_1, hd, cond_false])
    have h1 := i1.1
    have h2 := i2.1
    simp only [Int.natCast_zero] at h1 h2
    simp only [Bool.not_true, cond_false, emk, bindS, h1, h2]
    refine ⟨_, rfl, rfl, ?_, fun x hx => ?_⟩
    · have := i1.2.2.2.1
      show (List.foldl rstep _ w).2.length ≤ 200
      omega
    · have := i1.2.2.2.2 x hx
      omega

/-! FnExactRowsOf -/
theorem law4 (s : Int) (w : List Int) : sh4 s w = some true := by
  unfold sh4
  by_cases h : w.length ≤ 1048576
  · obtain ⟨r, h1, h2, h3, h4⟩ := rowsOf_total s w h
    have hd : decide (1048576 < (w.length : Int)) = false := by simp; omega
    have hb := totL_bound h4
    have ht : totL r.1 ≤ 1048576 := by have : 200 * r.1.length ≤ 200 * 200 := Nat.mul_le_mul_left _ h3; omega
    have m1 := markI64_eq w 1 (by omega) (by omega) (by omega)
    have m2 := markI64SS_eq r.1 1 (by omega) (by omega) (by omega) ht
    have m3 := heldI64SS_eq r.1 1 (by omega) (by omega) (by omega) ht
    have n1 : decide ((1 : Int) + (w.length : Int) < 0) = false := decide_eq_false (by omega)
    have n2 : decide ((1 : Int) + (totL r.1 : Int) < 0) = false := decide_eq_false (by omega)
    simp only [hd, cond_false, toI64_eq w h, bindS, h1, h2, eqI64SS_refl r.1 (by omega) (fun x hx => by have := h4 x hx; omega), bne_self_eq_false, Bool.or_self, eqI64_eq w w h, decide_true, Bool.not_true, m1, m2, m3, n1, n2]
  · have hd : decide (1048576 < (w.length : Int)) = true := by simp; omega
    simp [hd]
end Go.Sh
