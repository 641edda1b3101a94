/- Plain laws: what the shallow functions come to. -/
import Derived.Test.YthcbifffelaaoaaF4W0
namespace Go.Sh
open Go Go.RowKit

/-! eq_i64s -/
theorem eqI64_eq (xs ys : List Int) (h : xs.length ≤ 1048576) : sh18 xs ys = some (decide (xs = ys)) := by
  unfold sh18
  by_cases hl : xs.length = ys.length
  · have h1 : ((xs.length : Int) != (ys.length : Int)) = false := by simp; omega
    rw [h1, cond_false, iter_eq (xs := xs) (ys := ys) (by omega) hl (fun k hk => ?_) (by simp [sh18_1]), bindS]
    · by_cases he : xs = ys <;> simp [he, elimS]
    · have h2 : (k : Int) < xs.length := by omega
      have h3 : k < ys.length := by omega
      simp only [sh18_1, h2, decide_true, cond_true, getI_lt hk, getI_lt h3, bindS]
      rw [w64_id (by omega) (by omega)]
      by_cases he : xs[k] = ys[k]
      · simp [he]
      · rw [if_neg he, show (xs[k] != ys[k]) = true from bne_iff_ne.2 he]
        rfl
  · have h1 : ((xs.length : Int) != (ys.length : Int)) = true := by simp; omega
    rw [h1, cond_true]
    have : xs ≠ ys := fun h => hl (by rw [h])
    simp [this]

/-! mark_i64s -/
/-- The numbers that are laid into a result to see whether it is of one's own. -/
def marksFrom (m : Int) (n : Nat) : List Int := (List.range n).map fun (i : Nat) => m + (i : Int)
theorem marksFrom_length (m : Int) (n : Nat) : (marksFrom m n).length = n := by simp [marksFrom]
theorem marksFrom_get (m : Int) (n k : Nat) (h : k < n) : (marksFrom m n)[k]'(by rw [marksFrom_length]; exact h) = m + k := by simp [marksFrom]
theorem marksFrom_succ (m : Int) (k : Nat) : marksFrom m (k + 1) = marksFrom m k ++ [m + k] := by simp [marksFrom, List.range_succ]

theorem markI64_eq (xs : List Int) (m : Int) (h0 : 0 ≤ m) (h1 : m ≤ 1099511627776) (h : xs.length ≤ 1099511627776) : sh21 xs m = some (m + xs.length, marksFrom m xs.length) := by
  unfold sh21
  have hi := iter_steps (sb := sh21_1 xs) (fun k => (m + (k : Int), (k : Int), marksFrom m k ++ xs.drop k)) xs.length (x := (m + xs.length, marksFrom m xs.length)) (by omega) (fun k hk => ?_) ?_
  · simp only [List.drop_zero] at hi
    rw [show marksFrom m 0 ++ xs = xs from rfl] at hi
    simp only [Int.natCast_zero, Int.add_zero] at hi
    rw [hi, bindS]
  · have h2 : (k : Int) < xs.length := by omega
    have hl : k < (marksFrom m k ++ xs.drop k).length := by rw [List.length_append, marksFrom_length, List.length_drop]; omega
    simp only [sh21_1, h2, decide_true, cond_true, getI_lt hl, bindS, Int.toNat_natCast]
    rw [w64_id (by omega) (by omega), w64_id (by omega) (by omega), List.set_append, if_neg (by rw [marksFrom_length]; omega), marksFrom_length, Nat.sub_self, List.drop_eq_getElem_cons hk, List.set_cons_zero, marksFrom_succ, List.append_assoc]
    simp only [Option.some.injEq, Sum.inl.injEq, Prod.mk.injEq]
    refine ⟨by omega, by omega, rfl⟩
  · have hd : decide ((xs.length : Int) < (xs.length : Int)) = false := by simp
    simp only [sh21_1, hd, cond_false, List.drop_length, List.append_nil]

theorem heldI64_eq (m : Int) (n : Nat) (h0 : 0 ≤ m) (h1 : m ≤ 1099511627776) (h : n ≤ 1099511627776) : sh22 (marksFrom m n) m = some (m + n) := by
  unfold sh22
  have hi := iter_steps (sb := sh22_1 (marksFrom m n)) (fun k => (m + (k : Int), (k : Int))) n (x := .inl (m + n)) (by omega) (fun k hk => ?_) ?_
  · simp only [Int.natCast_zero, Int.add_zero] at hi
    rw [hi, bindS]
    rfl
  · have h2 : (k : Int) < (marksFrom m n).length := by rw [marksFrom_length]; omega
    have hl : k < (marksFrom m n).length := by rw [marksFrom_length]; exact hk
    simp only [sh22_1, h2, decide_true, cond_true, getI_lt hl, bindS, marksFrom_get m n k hk, bne_self_eq_false, cond_false]
    rw [w64_id (by omega) (by omega), w64_id (by omega) (by omega)]
    simp only [Option.some.injEq, Sum.inl.injEq, Prod.mk.injEq]
    refine ⟨by omega, by omega⟩
  · have hd : decide ((n : Int) < ((marksFrom m n).length : Int)) = false := by rw [marksFrom_length]; simp
    simp only [sh22_1, hd, cond_false]

/-! plainplait -/
theorem l19_inner (q0 x9 : Int) (hq : q0 ≤ 12) (x0 : Int) (hx : 1 ≤ x0) (hx2 : x0 ≤ 2) (l : List Int) (m : Nat) (hl : l.length ≤ 12 * m) (hm : m ≤ 200) :
    ∃ l', iter (sh19_2 q0 x9) (x0, l) = some l' ∧ l'.length ≤ 12 * (m + 1) := by
  refine iter_inv (fun (s : Int × List Int) => 1 ≤ s.1 ∧ s.1 ≤ 14 ∧ (s.2.length : Int) ≤ 12 * m + s.1 ∧ (s.1 < q0 ∨ (s.2.length : Int) ≤ 12 * m + 12)) (fun s => (14 - s.1).toNat) (fun (l' : List Int) => l'.length ≤ 12 * (m + 1)) (by simp; omega) (by simp; omega) ?_
  rintro ⟨k, ys⟩ ⟨h1, h2, h3, h4⟩
  simp only at h1 h2 h3 h4
  by_cases hk : k < q0
  · left
    have hw : w64 (k + 2) = k + 2 := w64_id (by omega) (by omega)
    simp only [sh19_2, hk, decide_true, cond_true]
    cases (x9.tmod 2) == 0
    · simp only [cond_false]
      rw [appL_ok (by simp; omega)]
      simp only [bindS, hw]
      exact ⟨_, rfl, ⟨by simp; omega, by simp; omega, by simp; omega, by simp; omega⟩, by simp; omega⟩
    · simp only [cond_true]
      rw [appL_ok (by simp; omega)]
      simp only [bindS, hw]
      exact ⟨_, rfl, ⟨by simp; omega, by simp; omega, by simp; omega, by simp; omega⟩, by simp; omega⟩
  · right
    have hd : decide (k < q0) = false := by simp; omega
    simp only [sh19_2, hd, cond_false]
    refine ⟨_, rfl, ?_⟩
    rcases h4 with h4 | h4 <;> omega

theorem plainPlait_total (q0 q1 : Int) : ∃ r, sh19 q0 q1 = some r ∧ r.1.length ≤ 2412 := by
  unfold sh19 sh52
  simp only [bindS]
  cases h0 : (decide (2 ≤ q0) && decide (q0 ≤ 12))
  · exact ⟨_, rfl, by simp⟩
  · simp only [Bool.and_eq_true, decide_eq_true_eq] at h0
    cases h1 : (decide (0 ≤ q1) && decide (q1 ≤ 200))
    · exact ⟨_, rfl, by simp⟩
    · simp only [Bool.and_eq_true, decide_eq_true_eq] at h1
      simp only [Bool.not_true, cond_false, bindS]
      obtain ⟨l, hl, hb⟩ := iter_inv (sb := sh19_1 q0 q1) (fun (s : Int × List Int) => 0 ≤ s.1 ∧ s.1 ≤ q1 ∧ s.2.length ≤ 12 * s.1.toNat) (fun s => (q1 - s.1).toNat) (fun (l : List Int) => l.length ≤ 12 * 200) (s0 := (0, [])) (by simp; omega) (by simp; omega) (by
        rintro ⟨k, ys⟩ ⟨h2, h3, h4⟩
        simp only at h2 h3 h4
        by_cases hk : k < q1
        · left
          have hw : w64 (k + 1) = k + 1 := w64_id (by omega) (by omega)
          have hm : 0 ≤ k.tmod 2 ∧ k.tmod 2 ≤ 1 := by rw [Int.tmod_eq_emod_of_nonneg h2]; omega
          have hw2 : w64 (1 + k.tmod 2) = 1 + k.tmod 2 := w64_id (by omega) (by omega)
          simp only [sh19_1, hk, decide_true, cond_true, hw2]
          obtain ⟨l', hl', hb'⟩ := l19_inner q0 k h0.2 (1 + k.tmod 2) (by omega) (by omega) ys k.toNat h4 (by omega)
          rw [hl', bindS, hw]
          exact ⟨_, rfl, ⟨by simp; omega, by simp; omega, by simp; omega⟩, by simp; omega⟩
        · right
          have hd : decide (k < q1) = false := by simp; omega
          simp only [sh19_1, hd, cond_false]
          exact ⟨_, rfl, by omega⟩)
      rw [hl, bindS]
      cases decide (200 < (l.length : Int))
      · exact ⟨_, rfl, by simp; omega⟩
      · exact ⟨_, rfl, by simp⟩

theorem plainPlait_same (q0 q1 : Int) : sh20 q0 q1 = sh19 q0 q1 := rfl

/-! FnExactPlainPlait -/
theorem law4 (q0 q1 : Int) : sh4 q0 q1 = some true := by
  unfold sh4
  obtain ⟨r, hr, hl⟩ := plainPlait_total q0 q1
  have hm := markI64_eq r.1 1 (by omega) (by omega) (by omega)
  have hh := heldI64_eq 1 r.1.length (by omega) (by omega) (by omega)
  have hn : decide ((1 : Int) + (r.1.length : Int) < 0) = false := by simp; omega
  simp only [plainPlait_same, hr, bindS, eqI64_eq r.1 r.1 (by omega), decide_true, Bool.not_true, bne_self_eq_false, Bool.or_self, cond_false, hm, hh, hn]
end Go.Sh
