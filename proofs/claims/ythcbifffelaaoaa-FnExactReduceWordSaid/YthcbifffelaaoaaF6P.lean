/- Plain laws: what the shallow functions come to. -/
import Derived.Test.YthcbifffelaaoaaF6W0
namespace Go.Sh
open Go Go.RowKit

/-! to_i64s -/
theorem toI64_eq (xs : List Int) (h : xs.length ≤ 1048576) : sh16 xs = some xs := by
  unfold sh16
  rw [mkL_ok (by omega), bindS, iter_copy (xs := xs) (by omega) (fun i ys => rfl), bindS]

/-! eq_i64s -/
theorem eqI64_eq (xs ys : List Int) (h : xs.length ≤ 1048576) : sh18 xs ys = some (decide (xs = ys)) := by
  unfold sh18
  by_cases hl : xs.length = ys.length
  · have h1 : ((xs.length : Int) != (ys.length : Int)) = false := by simp; omega
    rw [h1, cond_false, iter_eq (xs := xs) (ys := ys) (by omega) hl (fun k hk => ?_) (by simp [sh18_1]), bindS]
    · by_cases he : xs = ys <;> simp [he, elimS]
    · have h2 : (k : Int) < xs.length := by omega
      have h3 : k < ys.length := by omega
      simp only [sh18_1, h2, decide_true, cond_true, getI_lt hk, getI_lt h3, bindS]
      rw [w64_id (by omega) (by omega)]
      by_cases he : xs[k] = ys[k]
      · simp [he]
      · rw [if_neg he, show (xs[k] != ys[k]) = true from bne_iff_ne.2 he]
        rfl
  · have h1 : ((xs.length : Int) != (ys.length : Int)) = true := by simp; omega
    rw [h1, cond_true]
    have : xs ≠ ys := fun h => hl (by rw [h])
    simp [this]

/-! mark_i64s -/
/-- The numbers that are laid into a result to see whether it is of one's own. -/
def marksFrom (m : Int) (n : Nat) : List Int := (List.range n).map fun (i : Nat) => m + (i : Int)
theorem marksFrom_length (m : Int) (n : Nat) : (marksFrom m n).length = n := by simp [marksFrom]
theorem marksFrom_get (m : Int) (n k : Nat) (h : k < n) : (marksFrom m n)[k]'(by rw [marksFrom_length]; exact h) = m + k := by simp [marksFrom]
theorem marksFrom_succ (m : Int) (k : Nat) : marksFrom m (k + 1) = marksFrom m k ++ [m + k] := by simp [marksFrom, List.range_succ]

theorem markI64_eq (xs : List Int) (m : Int) (h0 : 0 ≤ m) (h1 : m ≤ 1099511627776) (h : xs.length ≤ 1099511627776) : sh21 xs m = some (m + xs.length, marksFrom m xs.length) := by
  unfold sh21
  have hi := iter_steps (sb := sh21_1 xs) (fun k => (m + (k : Int), (k : Int), marksFrom m k ++ xs.drop k)) xs.length (x := (m + xs.length, marksFrom m xs.length)) (by omega) (fun k hk => ?_) ?_
  · simp only [List.drop_zero] at hi
    rw [show marksFrom m 0 ++ xs = xs from rfl] at hi
    simp only [Int.natCast_zero, Int.add_zero] at hi
    rw [hi, bindS]
  · have h2 : (k : Int) < xs.length := by omega
    have hl : k < (marksFrom m k ++ xs.drop k).length := by rw [List.length_append, marksFrom_length, List.length_drop]; omega
    simp only [sh21_1, h2, decide_true, cond_true, getI_lt hl, bindS, Int.toNat_natCast]
    rw [w64_id (by omega) (by omega), w64_id (by omega) (by omega), List.set_append, if_neg (by rw [marksFrom_length]; omega), marksFrom_length, Nat.sub_self, List.drop_eq_getElem_cons hk, List.set_cons_zero, marksFrom_succ, List.append_assoc]
    simp only [Option.some.injEq, Sum.inl.injEq, Prod.mk.injEq]
    refine ⟨by omega, by omega, rfl⟩
  · have hd : decide ((xs.length : Int) < (xs.length : Int)) = false := by simp
    simp only [sh21_1, hd, cond_false, List.drop_length, List.append_nil]

theorem heldI64_eq (m : Int) (n : Nat) (h0 : 0 ≤ m) (h1 : m ≤ 1099511627776) (h : n ≤ 1099511627776) : sh22 (marksFrom m n) m = some (m + n) := by
  unfold sh22
  have hi := iter_steps (sb := sh22_1 (marksFrom m n)) (fun k => (m + (k : Int), (k : Int))) n (x := .inl (m + n)) (by omega) (fun k hk => ?_) ?_
  · simp only [Int.natCast_zero, Int.add_zero] at hi
    rw [hi, bindS]
    rfl
  · have h2 : (k : Int) < (marksFrom m n).length := by rw [marksFrom_length]; omega
    have hl : k < (marksFrom m n).length := by rw [marksFrom_length]; exact hk
    simp only [sh22_1, h2, decide_true, cond_true, getI_lt hl, bindS, marksFrom_get m n k hk, bne_self_eq_false, cond_false]
    rw [w64_id (by omega) (by omega), w64_id (by omega) (by omega)]
    simp only [Option.some.injEq, Sum.inl.injEq, Prod.mk.injEq]
    refine ⟨by omega, by omega⟩
  · have hd : decide ((n : Int) < ((marksFrom m n).length : Int)) = false := by rw [marksFrom_length]; simp
    simp only [sh22_1, hd, cond_false]

/-! validword -/
/-- A move fits. -/
def okM (s m : Int) : Bool := !(m == 0) && (decide (w64 (1 - s) ≤ m) && decide (m ≤ w64 (s - 1)))
def validW (s : Int) (w : List Int) : Bool := (decide (2 ≤ s) && decide (s ≤ 12)) && (decide (w.length ≤ 200) && w.all (okM s))

theorem l23Ok_eq (s : Int) (w : List Int) (h : w.length ≤ 1048576) : sh50 s w = some (validW s w) := by
  unfold sh50 sh52
  rw [bindS]
  unfold validW
  cases hs : (decide (2 ≤ s) && decide (s ≤ 12))
  · simp
  · by_cases hl : w.length ≤ 200
    · have hd : decide (200 < (w.length : Int)) = false := by simp; omega
      simp only [hd, Bool.not_true, Bool.or_self, cond_false]
      rw [iter_all (xs := w) (p := okM s) (r := false) (by omega) (fun k hk => ?_) (by simp [sh50_1]), bindS]
      · cases ha : w.all (okM s) <;> simp [elimS, hl]
      · have h2 : (k : Int) < w.length := by omega
        simp only [sh50_1, sh52, h2, decide_true, cond_true, getI_lt hk, bindS]
        rw [w64_id (x := (k : Int) + 1) (by omega) (by omega)]
        unfold okM
        cases h0 : w[k] == 0 <;> simp [bindS]
        cases h1 : decide (w64 (1 - s) ≤ w[k]) <;> cases h3 : decide (w[k] ≤ w64 (s - 1)) <;> simp_all
    · have hd : decide (200 < (w.length : Int)) = true := by simp; omega
      simp [hd, hl]

theorem implValidWord_eq (s : Int) (w : List Int) (h : w.length ≤ 1048576) : sh17 s w = some (validW s w) := by
  unfold sh17
  rw [iter_all (xs := w) (p := okM s) (r := false) (by omega) (fun k hk => ?_) (by simp [sh17_1]), bindS]
  · unfold validW
    cases ha : w.all (okM s)
    · simp [elimS]
    · simp only [elimS, if_true, sh51, bindS, Bool.and_true]
      congr 2
      simp only [decide_eq_decide]
      omega
  · have h2 : (k : Int) < w.length := by omega
    simp only [sh17_1, sh51, h2, decide_true, cond_true, getI_lt hk, bindS]
    rw [w64_id (x := (k : Int) + 1) (by omega) (by omega)]
    unfold okM
    cases h0 : w[k] == 0 <;> simp [bindS]
    cases h1 : decide (w64 (1 - s) ≤ w[k]) <;> cases h3 : decide (w[k] ≤ w64 (s - 1)) <;> simp_all

theorem validW_len {s : Int} {w : List Int} (h : validW s w = true) : w.length ≤ 200 := by
  unfold validW at h
  simp only [Bool.and_eq_true, decide_eq_true_eq] at h
  exact h.2.1

/-! reduceword -/
theorem takeL_ok {T : Type} {xs : List T} {n : Nat} (h : n ≤ xs.length) : takeL xs (n : Int) = some (xs.take n) := by
  simp [takeL]; omega
theorem ok_iter_red (q : List Int) (hq : q.length ≤ 200) (sb : (Int × List Int) → Option ((Int × List Int) ⊕ List Int))
    (hsb : ∀ i ys, sb (i, ys) = bif decide (i < (q.length : Int)) then (Option.bind (getI q i) fun x11 => Option.bind (bif decide (0 < (ys.length : Int)) then (Option.bind (getI ys (w64 ((ys.length : Int) - 1))) fun x13 => some (x13 == (w64 (0 - x11)))) else (some false)) fun c12 => (Option.bind (bif c12 then (Option.bind (takeL ys (w64 ((ys.length : Int) - 1))) fun x17 => some x17) else (Option.bind (appL ys [x11]) fun x20 => some x20)) fun j14 => (some (.inl (w64 (i + 1), j14))))) else (some (.inr ys))) :
    ∃ r, iter sb (0, []) = some r ∧ r.length ≤ 200 := by
  refine iter_inv (fun (s : Int × List Int) => 0 ≤ s.1 ∧ s.1 ≤ q.length ∧ (s.2.length : Int) ≤ s.1) (fun s => (q.length - s.1).toNat) (fun (l : List Int) => l.length ≤ 200) (by simp) (by simp <;> omega) ?_
  rintro ⟨i, ys⟩ ⟨h1, h2, h3⟩
  simp only at h1 h2 h3
  rw [hsb]
  by_cases hi : i < q.length
  · left
    obtain ⟨k, rfl⟩ : ∃ k : Nat, i = k := ⟨i.toNat, by omega⟩
    simp only [hi, decide_true, cond_true, getI_lt (show k < q.length by omega), bindS]
    rw [w64_id (x := (k : Int) + 1) (by omega) (by omega)]
    by_cases hy : 0 < ys.length
    · have hd : decide ((0 : Int) < (ys.length : Int)) = true := by simp <;> omega
      have hw : w64 ((ys.length : Int) - 1) = ((ys.length - 1 : Nat) : Int) := by rw [w64_id (by omega) (by omega)]; omega
      simp only [hd, cond_true, hw, getI_lt (show ys.length - 1 < ys.length by omega), bindS]
      cases ys[ys.length - 1] == w64 (0 - q[k])
      · simp only [cond_false]
        rw [appL_ok (by simp <;> omega)]
        simp only [bindS]
        exact ⟨_, rfl, ⟨by simp <;> omega, by simp <;> omega, by simp <;> omega⟩, by simp <;> omega⟩
      · simp only [cond_true]
        rw [takeL_ok (by omega)]
        simp only [bindS]
        have ht : (ys.take (ys.length - 1)).length ≤ ys.length := by rw [List.length_take]; omega
        exact ⟨_, rfl, ⟨by simp only; omega, by simp only; omega, by simp only; omega⟩, by simp only; omega⟩
    · have hd : decide ((0 : Int) < (ys.length : Int)) = false := decide_eq_false (by omega)
      simp only [hd, cond_false, bindS]
      rw [appL_ok (by simp <;> omega)]
      simp only [bindS]
      exact ⟨_, rfl, ⟨by simp <;> omega, by simp <;> omega, by simp <;> omega⟩, by simp <;> omega⟩
  · right
    have hd : decide (i < (q.length : Int)) = false := by simp <;> omega
    simp only [hd, cond_false]
    exact ⟨_, rfl, by omega⟩

theorem reduceWord_total (s : Int) (w : List Int) (h : w.length ≤ 1048576) : ∃ r, sh26 s w = some r ∧ r.1.length ≤ 200 := by
  unfold sh26
  rw [implValidWord_eq s w h, bindS]
  cases hv : validW s w
  · exact ⟨_, rfl, by simp⟩
  · obtain ⟨r, hr, hl⟩ := ok_iter_red w (validW_len hv) (sh26_1 w) (fun i ys => rfl)
    simp only [Bool.not_true, cond_false, hr, bindS]
    exact ⟨_, rfl, hl⟩

theorem reduceWord_loop (w : List Int) : sh25_1 w = sh26_1 w := by
  funext ⟨i, ys⟩
  unfold sh25_1 sh26_1
  simp only
  cases decide (i < (w.length : Int)) <;> simp only [cond_false, cond_true]
  cases getI w i <;> simp only [Option.bind_none, bindS]
  · cases decide (0 < (ys.length : Int)) <;> simp

theorem reduceWord_same (s : Int) (w : List Int) (h : w.length ≤ 1048576) : sh25 s w = sh26 s w := by
  unfold sh26 sh25
  rw [l23Ok_eq s w h, implValidWord_eq s w h, reduceWord_loop]

/-! FnExactReduceWord -/
theorem law6 (s : Int) (w : List Int) : sh6 s w = some true := by
  unfold sh6
  by_cases h : w.length ≤ 1048576
  · have hd : decide (1048576 < (w.length : Int)) = false := by simp; omega
    obtain ⟨r, hr, hl⟩ := reduceWord_total s w h
    have hm := markI64_eq r.1 1 (by omega) (by omega) (by omega)
    have hm2 := markI64_eq w 1 (by omega) (by omega) (by omega)
    have hh := heldI64_eq 1 r.1.length (by omega) (by omega) (by omega)
    have hn : decide ((1 : Int) + (r.1.length : Int) < 0) = false := by simp; omega
    have hn2 : decide ((1 : Int) + (w.length : Int) < 0) = false := by simp; omega
    simp only [hd, cond_false, toI64_eq w h, bindS, reduceWord_same s w h, hr, eqI64_eq r.1 r.1 (by omega), eqI64_eq w w h, decide_true, Bool.not_true, bne_self_eq_false, Bool.or_self, hm, hm2, hh, hn, hn2]
  · have hd : decide (1048576 < (w.length : Int)) = true := by simp; omega
    simp [hd]
end Go.Sh
