/- Plain laws: what the shallow functions come to. -/
import Derived.Test.YthcbifffelaaoaaF14W0
namespace Go.Sh
open Go Go.RowKit

/-! to_i64s -/
theorem toI64_eq (xs : List Int) (h : xs.length ≤ 1048576) : sh16 xs = some xs := by
  unfold sh16
  rw [mkL_ok (by omega), bindS, iter_copy (xs := xs) (by omega) (fun i ys => rfl), bindS]

/-! eq_i64s -/
theorem eqI64_eq (xs ys : List Int) (h : xs.length ≤ 1048576) : sh18 xs ys = some (decide (xs = ys)) := by
  unfold sh18
  by_cases hl : xs.length = ys.length
  · have h1 : ((xs.length : Int) != (ys.length : Int)) = false := by simp; omega
    rw [h1, cond_false, iter_eq (xs := xs) (ys := ys) (by omega) hl (fun k hk => ?_) (by simp [sh18_1]), bindS]
    · by_cases he : xs = ys <;> simp [he, elimS]
    · have h2 : (k : Int) < xs.length := by omega
      have h3 : k < ys.length := by omega
      simp only [sh18_1, h2, decide_true, cond_true, getI_lt hk, getI_lt h3, bindS]
      rw [w64_id (by omega) (by omega)]
      by_cases he : xs[k] = ys[k]
      · simp [he]
      · rw [if_neg he, show (xs[k] != ys[k]) = true from bne_iff_ne.2 he]
        rfl
  · have h1 : ((xs.length : Int) != (ys.length : Int)) = true := by simp; omega
    rw [h1, cond_true]
    have : xs ≠ ys := fun h => hl (by rw [h])
    simp [this]

/-! mark_i64s -/
/-- The numbers that are laid into a result to see whether it is of one's own. -/
def marksFrom (m : Int) (n : Nat) : List Int := (List.range n).map fun (i : Nat) => m + (i : Int)
theorem marksFrom_length (m : Int) (n : Nat) : (marksFrom m n).length = n := by simp [marksFrom]
theorem marksFrom_get (m : Int) (n k : Nat) (h : k < n) : (marksFrom m n)[k]'(by rw [marksFrom_length]; exact h) = m + k := by simp [marksFrom]
theorem marksFrom_succ (m : Int) (k : Nat) : marksFrom m (k + 1) = marksFrom m k ++ [m + k] := by simp [marksFrom, List.range_succ]

theorem markI64_eq (xs : List Int) (m : Int) (h0 : 0 ≤ m) (h1 : m ≤ 1099511627776) (h : xs.length ≤ 1099511627776) : sh21 xs m = some (m + xs.length, marksFrom m xs.length) := by
  unfold sh21
  have hi := iter_steps (sb := sh21_1 xs) (fun k => (m + (k : Int), (k : Int), marksFrom m k ++ xs.drop k)) xs.length (x := (m + xs.length, marksFrom m xs.length)) (by omega) (fun k hk => ?_) ?_
  · simp only [List.drop_zero] at hi
    rw [show marksFrom m 0 ++ xs = xs from rfl] at hi
    simp only [Int.natCast_zero, Int.add_zero] at hi
    rw [hi, bindS]
  · have h2 : (k : Int) < xs.length := by omega
    have hl : k < (marksFrom m k ++ xs.drop k).length := by rw [List.length_append, marksFrom_length, List.length_drop]; omega
    simp only [sh21_1, h2, decide_true, cond_true, getI_lt hl, bindS, Int.toNat_natCast]
    rw [w64_id (by omega) (by omega), w64_id (by omega) (by omega), List.set_append, if_neg (by rw [marksFrom_length]; omega), marksFrom_length, Nat.sub_self, List.drop_eq_getElem_cons hk, List.set_cons_zero, marksFrom_succ, List.append_assoc]
    simp only [Option.some.injEq, Sum.inl.injEq, Prod.mk.injEq]
    refine ⟨by omega, by omega, rfl⟩
  · have hd : decide ((xs.length : Int) < (xs.length : Int)) = false := by simp
    simp only [sh21_1, hd, cond_false, List.drop_length, List.append_nil]

theorem heldI64_eq (m : Int) (n : Nat) (h0 : 0 ≤ m) (h1 : m ≤ 1099511627776) (h : n ≤ 1099511627776) : sh22 (marksFrom m n) m = some (m + n) := by
  unfold sh22
  have hi := iter_steps (sb := sh22_1 (marksFrom m n)) (fun k => (m + (k : Int), (k : Int))) n (x := .inl (m + n)) (by omega) (fun k hk => ?_) ?_
  · simp only [Int.natCast_zero, Int.add_zero] at hi
    rw [hi, bindS]
    rfl
  · have h2 : (k : Int) < (marksFrom m n).length := by rw [marksFrom_length]; omega
    have hl : k < (marksFrom m n).length := by rw [marksFrom_length]; exact hk
    simp only [sh22_1, h2, decide_true, cond_true, getI_lt hl, bindS, marksFrom_get m n k hk, bne_self_eq_false, cond_false]
    rw [w64_id (by omega) (by omega), w64_id (by omega) (by omega)]
    simp only [Option.some.injEq, Sum.inl.injEq, Prod.mk.injEq]
    refine ⟨by omega, by omega⟩
  · have hd : decide ((n : Int) < ((marksFrom m n).length : Int)) = false := by rw [marksFrom_length]; simp
    simp only [sh22_1, hd, cond_false]

/-! iters -/
theorem w64_lo (x : Int) : -9223372036854775808 ≤ w64 x := by
  have := IntKind.wrap_i64 x
  show _ ≤ IntKind.i64.wrap x
  omega
theorem w64_hi (x : Int) : w64 x ≤ 9223372036854775807 := by
  have := IntKind.wrap_i64 x
  show IntKind.i64.wrap x ≤ _
  omega
theorem getI_toNat {T : Type} {xs : List T} {i : Int} (h0 : 0 ≤ i) (h : i.toNat < xs.length) : getI xs i = some xs[i.toNat] := by
  unfold getI; rw [if_pos h0]; exact List.getElem?_eq_getElem h
theorem nzI_ok {a : Int} (h : a ≠ 0) : nzI a = some a := by simp [nzI, h]

/-- The loop that looks for the first element that passes. -/
theorem iter_find {T : Type} {sb : Int → Option (Int ⊕ (Unit ⊕ Int))} {xs : List T} {p : T → Bool} (hl : xs.length < 1099511627776)
    (hsb : ∀ (k : Nat) (h : k < xs.length), sb (k : Int) = if p xs[k] = true then some (.inr (.inr (k : Int))) else some (.inl ((k : Int) + 1))) (he : sb (xs.length : Int) = some (.inr (.inl ()))) :
    iter sb 0 = some (if xs.any p = true then .inr (xs.findIdx p : Int) else .inl ()) := by
  have h := iter_res (sb := sb) (fun k => (k : Int)) (fun k => if (xs.drop k).any p = true then (.inr (k + (xs.drop k).findIdx p : Nat) : Unit ⊕ Int) else .inl ()) xs.length (by omega) (fun k hk => ?_) (by
    rw [he, List.drop_of_length_le (Nat.le_refl _)]; simp)
  · simpa using h
  · rw [hsb k hk, List.drop_eq_getElem_cons hk]
    by_cases hx : p xs[k] = true
    · right
      rw [if_pos hx]
      simp only [List.any_cons, hx, Bool.true_or, if_true, List.findIdx_cons, cond_true, Nat.add_zero]
    · left
      rw [if_neg hx]
      refine ⟨by simp, ?_⟩
      have hx' : p xs[k] = false := by simpa using hx
      simp only [List.any_cons, hx', Bool.false_or, List.findIdx_cons, cond_false]
      split <;> simp
      omega

theorem iterN_congr {σ ρ : Type} {sb1 sb2 : σ → Option (σ ⊕ ρ)} (I : σ → Prop) (hs : ∀ s, I s → sb1 s = sb2 s ∧ ∀ s', sb2 s = some (.inl s') → I s') : ∀ (n : Nat) (s : σ), I s → iterN sb1 n s = iterN sb2 n s
  | 0, _, _ => rfl
  | n + 1, s, h => by
    obtain ⟨h1, h2⟩ := hs s h
    simp only [iterN, h1]
    cases hb : sb2 s with
    | none => rfl
    | some o =>
      cases o with
      | inl s' => exact iterN_congr I hs n s' (h2 s' hb)
      | inr x => rfl
/-- Two loops whose bodies agree where the invariant holds. -/
theorem iter_congr {σ ρ : Type} {sb1 sb2 : σ → Option (σ ⊕ ρ)} (I : σ → Prop) {s0 : σ} (h0 : I s0) (hs : ∀ s, I s → sb1 s = sb2 s ∧ ∀ s', sb2 s = some (.inl s') → I s') : iter sb1 s0 = iter sb2 s0 :=
  iterN_congr I hs FUEL s0 h0

/-- A loop over a list, as a fold. -/
theorem iter_fold {T σ S ρ : Type} {sb : S → Option (S ⊕ ρ)} (xs : List T) (st : Nat → σ → S) (g : σ → T → σ) (h : σ → ρ) (I : Nat → σ → Prop) (s0 : σ) (h0 : I 0 s0) (hl : xs.length < 1099511627776)
    (hsb : ∀ (k : Nat) (hk : k < xs.length) s, I k s → sb (st k s) = some (.inl (st (k + 1) (g s xs[k]))) ∧ I (k + 1) (g s xs[k])) (he : ∀ s, I xs.length s → sb (st xs.length s) = some (.inr (h s))) :
    iter sb (st 0 s0) = some (h (xs.foldl g s0)) ∧ I xs.length (xs.foldl g s0) := by
  have hI : ∀ k, k ≤ xs.length → I k ((xs.take k).foldl g s0) := by
    intro k
    induction k with
    | zero => intro _; simpa using h0
    | succ k ih =>
      intro hk
      rw [List.take_succ_eq_append_getElem (by omega), List.foldl_append]
      exact (hsb k (by omega) _ (ih (by omega))).2
  have hlast := hI xs.length (Nat.le_refl _)
  rw [List.take_length] at hlast
  refine ⟨?_, hlast⟩
  refine iter_steps (fun k => st k ((xs.take k).foldl g s0)) xs.length (by omega) (fun k hk => ?_) (by rw [List.take_length]; exact he _ hlast)
  rw [(hsb k hk _ (hI k (by omega))).1, List.take_succ_eq_append_getElem hk, List.foldl_append]
  rfl

/-- The greater one. -/
def mx (a b : Int) : Int := if a < b then b else a
def mn (a b : Int) : Int := if b < a then b else a
theorem mx_comm' (a b : Int) : (if b < a then a else b) = mx a b := by unfold mx; split <;> split <;> omega

/-! max -/
theorem l00Max_eq (a b : Int) : sh77 a b = some (mx a b) := by
  unfold sh77
  rw [← mx_comm']
  by_cases h : b < a <;> simp [h]

/-! validword -/
/-- A move fits. -/
def okM (s m : Int) : Bool := !(m == 0) && (decide (w64 (1 - s) ≤ m) && decide (m ≤ w64 (s - 1)))
def validW (s : Int) (w : List Int) : Bool := (decide (2 ≤ s) && decide (s ≤ 12)) && (decide (w.length ≤ 200) && w.all (okM s))

theorem l23Ok_eq (s : Int) (w : List Int) (h : w.length ≤ 1048576) : sh50 s w = some (validW s w) := by
  unfold sh50 sh52
  rw [bindS]
  unfold validW
  cases hs : (decide (2 ≤ s) && decide (s ≤ 12))
  · simp
  · by_cases hl : w.length ≤ 200
    · have hd : decide (200 < (w.length : Int)) = false := by simp; omega
      simp only [hd, Bool.not_true, Bool.or_self, cond_false]
      rw [iter_all (xs := w) (p := okM s) (r := false) (by omega) (fun k hk => ?_) (by simp [sh50_1]), bindS]
      · cases ha : w.all (okM s) <;> simp [elimS, hl]
      · have h2 : (k : Int) < w.length := by omega
        simp only [sh50_1, sh52, h2, decide_true, cond_true, getI_lt hk, bindS]
        rw [w64_id (x := (k : Int) + 1) (by omega) (by omega)]
        unfold okM
        cases h0 : w[k] == 0 <;> simp [bindS]
        cases h1 : decide (w64 (1 - s) ≤ w[k]) <;> cases h3 : decide (w[k] ≤ w64 (s - 1)) <;> simp_all
    · have hd : decide (200 < (w.length : Int)) = true := by simp; omega
      simp [hd, hl]

theorem implValidWord_eq (s : Int) (w : List Int) (h : w.length ≤ 1048576) : sh17 s w = some (validW s w) := by
  unfold sh17
  rw [iter_all (xs := w) (p := okM s) (r := false) (by omega) (fun k hk => ?_) (by simp [sh17_1]), bindS]
  · unfold validW
    cases ha : w.all (okM s)
    · simp [elimS]
    · simp only [elimS, if_true, sh51, bindS, Bool.and_true]
      congr 2
      simp only [decide_eq_decide]
      omega
  · have h2 : (k : Int) < w.length := by omega
    simp only [sh17_1, sh51, h2, decide_true, cond_true, getI_lt hk, bindS]
    rw [w64_id (x := (k : Int) + 1) (by omega) (by omega)]
    unfold okM
    cases h0 : w[k] == 0 <;> simp [bindS]
    cases h1 : decide (w64 (1 - s) ≤ w[k]) <;> cases h3 : decide (w[k] ≤ w64 (s - 1)) <;> simp_all

theorem validW_len {s : Int} {w : List Int} (h : validW s w = true) : w.length ≤ 200 := by
  unfold validW at h
  simp only [Bool.and_eq_true, decide_eq_true_eq] at h
  exact h.2.1

/-! order -/
/-- The greater place of a move. -/
def rgt (m : Int) : Int := mx m (w64 (0 - m))
theorem l15Size_eq (m : Int) : sh74 m = some (rgt m) := by
  unfold sh74; rw [l00Max_eq]; rfl
theorem rightOf_eq (m : Int) : sh87 m = some (rgt m) := rfl
theorem rgt_bounds {s m : Int} (hs : 2 ≤ s) (hs2 : s ≤ 12) (h : okM s m = true) : 1 ≤ rgt m ∧ rgt m ≤ s - 1 := by
  unfold okM at h
  simp only [Bool.and_eq_true, Bool.not_eq_true', beq_eq_false_iff_ne, decide_eq_true_eq] at h
  rw [w64_id (by omega) (by omega), w64_id (by omega) (by omega)] at h
  unfold rgt mx
  rw [w64_id (by omega) (by omega)]
  split <;> omega
def swapL (xs : List Int) (k : Nat) : List Int := (xs.set (k - 1) (xs.getD k 0)).set k (xs.getD (k - 1) 0)
theorem swapL_length (xs : List Int) (k : Nat) : (swapL xs k).length = xs.length := by simp [swapL]

theorem first_eq (s : Int) (h0 : 0 ≤ s) (h1 : s ≤ 12) : ∃ l, sh73 s = some l ∧ l.length = s.toNat ∧ ∀ x ∈ l, 0 ≤ x ∧ x < s := by
  unfold sh73
  obtain ⟨x, hx, hr⟩ := iter_inv (sb := sh73_1 s) (fun (p : Int × List Int) => 0 ≤ p.1 ∧ p.1 ≤ s ∧ (p.2.length : Int) = p.1 ∧ ∀ x ∈ p.2, 0 ≤ x ∧ x < s) (fun p => (s - p.1).toNat) (fun (l : List Int) => l.length = s.toNat ∧ ∀ x ∈ l, 0 ≤ x ∧ x < s) (s0 := (0, [])) (by simp; omega) (by simp only; omega) (by
    rintro ⟨k, ys⟩ ⟨h2, h3, h4, h5⟩
    simp only at h2 h3 h4 h5
    by_cases hk : k < s
    · left
      simp only [sh73_1, hk, decide_true, cond_true]
      rw [appL_ok (by simp only [List.length_cons, List.length_nil]; omega), bindS, w64_id (x := k + 1) (by omega) (by omega)]
      refine ⟨_, rfl, ⟨by simp only; omega, by simp only; omega, by simp only [List.length_append, List.length_cons, List.length_nil]; omega, ?_⟩, by simp only; omega⟩
      intro x hx
      rcases List.mem_append.1 hx with h | h
      · exact h5 x h
      · simp at h; omega
    · right
      have hd : decide (k < s) = false := decide_eq_false hk
      simp only [sh73_1, hd, cond_false]
      exact ⟨_, rfl, by omega, h5⟩)
  exact ⟨x, by rw [hx]; rfl, hr⟩

theorem l23Swap_eq (xs : List Int) (m : Int) (h1 : 1 ≤ rgt m) (h2 : rgt m < xs.length) (h3 : xs.length ≤ 12) : sh75 xs m = some (swapL xs (rgt m).toNat) := by
  unfold sh75
  rw [l15Size_eq, bindS]
  obtain ⟨k, hk⟩ : ∃ k : Nat, rgt m = k := ⟨(rgt m).toNat, by omega⟩
  rw [hk] at h1 h2 ⊢
  have hw : w64 ((k : Int) - 1) = ((k - 1 : Nat) : Int) := by rw [w64_id (by omega) (by omega)]; omega
  have ha : k < xs.length := by omega
  have hb : k - 1 < xs.length := by omega
  rw [hw, getI_lt hb, getI_lt ha]
  simp only [bindS, Int.toNat_natCast]
  rw [getI_lt (by rw [List.length_set]; exact ha), bindS]
  simp [swapL, List.getD, List.getElem?_eq_getElem ha, List.getElem?_eq_getElem hb]

/-! oversof -/
theorem swapL_mem {xs : List Int} {k : Nat} (hk : k < xs.length) {x : Int} (h : x ∈ swapL xs k) : x ∈ xs := by
  unfold swapL at h
  rcases List.mem_or_eq_of_mem_set h with h | h
  · rcases List.mem_or_eq_of_mem_set h with h | h
    · exact h
    · rw [h, List.getD_eq_getElem?_getD, List.getElem?_eq_getElem hk]; exact List.getElem_mem hk
  · rw [h, List.getD_eq_getElem?_getD, List.getElem?_eq_getElem (by omega)]; exact List.getElem_mem (by omega)
def overOf (o : List Int) (m : Int) : Int := if m < 0 then o.getD (rgt m).toNat 0 else o.getD ((rgt m).toNat - 1) 0
def ostep (s : List Int × List Int) (m : Int) : List Int × List Int := (swapL s.1 (rgt m).toNat, s.2.set (overOf s.1 m).toNat (w64 (s.2.getD (overOf s.1 m).toNat 0 + 1)))
def okO (s : Int) (p : List Int × List Int) : Prop := p.1.length = s.toNat ∧ p.2.length = s.toNat ∧ ∀ x ∈ p.1, 0 ≤ x ∧ x < s
theorem overOf_eq {o : List Int} {m : Int} (h1 : 1 ≤ rgt m) (h2 : rgt m < o.length) :
    getI o (rgt m) = some (o.getD (rgt m).toNat 0) ∧ getI o (rgt m - 1) = some (o.getD ((rgt m).toNat - 1) 0) ∧ overOf o m ∈ o := by
  have ha : (rgt m).toNat < o.length := by omega
  have hb : (rgt m).toNat - 1 < o.length := by omega
  have e2 : rgt m - 1 = (((rgt m).toNat - 1 : Nat) : Int) := by omega
  refine ⟨?_, ?_, ?_⟩
  · rw [List.getD_eq_getElem?_getD, List.getElem?_eq_getElem ha]
    exact getI_toNat (by omega) ha
  · rw [List.getD_eq_getElem?_getD, List.getElem?_eq_getElem hb, e2]
    exact getI_lt hb
  · unfold overOf
    split
    · rw [List.getD_eq_getElem?_getD, List.getElem?_eq_getElem ha]; exact List.getElem_mem ha
    · rw [List.getD_eq_getElem?_getD, List.getElem?_eq_getElem hb]; exact List.getElem_mem hb
theorem ostep_ok {s m : Int} (hs : 2 ≤ s) (hs2 : s ≤ 12) (hm : okM s m = true) {p : List Int × List Int} (h : okO s p) : okO s (ostep p m) := by
  obtain ⟨b1, b2⟩ := rgt_bounds hs hs2 hm
  obtain ⟨h1, h2, h3⟩ := h
  refine ⟨by rw [ostep, swapL_length]; exact h1, by rw [ostep, List.length_set]; exact h2, fun x hx => h3 x (swapL_mem (by omega) hx)⟩

theorem overs_body (s : Int) (w : List Int) (hs : 2 ≤ s) (hs2 : s ≤ 12) (hw : w.length ≤ 200) (hall : ∀ x ∈ w, okM s x = true) (k : Nat) (hk : k < w.length) (p : List Int × List Int) (h : okO s p) :
    sh48_1 w ((k : Int), p.1, p.2) = some (.inl (((k + 1 : Nat) : Int), (ostep p w[k]).1, (ostep p w[k]).2)) ∧
    sh69f76_2 w ((k : Int), p.2, p.1) = some (.inl (((k + 1 : Nat) : Int), (ostep p w[k]).2, (ostep p w[k]).1)) := by
  obtain ⟨o, ov⟩ := p
  obtain ⟨h1, h2, h3⟩ := h
  simp only at h1 h2 h3
  have hm := hall _ (List.getElem_mem hk)
  obtain ⟨b1, b2⟩ := rgt_bounds hs hs2 hm
  obtain ⟨g1, g2, g3⟩ := overOf_eq (o := o) b1 (by omega)
  obtain ⟨c1, c2⟩ := h3 _ g3
  have hkk : (k : Int) < w.length := by omega
  have hov : (overOf o w[k]).toNat < ov.length := by omega
  have g4 : getI ov (overOf o w[k]) = some (ov.getD (overOf o w[k]).toNat 0) := by
    rw [List.getD_eq_getElem?_getD, List.getElem?_eq_getElem hov]
    exact getI_toNat c1 hov
  have hw1 : w64 (rgt w[k] - 1) = rgt w[k] - 1 := w64_id (by omega) (by omega)
  have ec : (bif decide (w[k] < 0) then (Option.bind (getI o (rgt w[k])) fun x27 => some x27) else (some (o.getD ((rgt w[k]).toNat - 1) 0))) = some (overOf o w[k]) := by
    unfold overOf
    by_cases hneg : w[k] < 0 <;> simp [hneg, g1]
  have ec2 : (bif decide (w[k] < 0) then some (o.getD (rgt w[k]).toNat 0) else some (o.getD ((rgt w[k]).toNat - 1) 0)) = some (overOf o w[k]) := by
    unfold overOf
    by_cases hneg : w[k] < 0 <;> simp [hneg]
  have hn : (rgt w[k] - 1).toNat = (rgt w[k]).toNat - 1 := by omega
  have g5 : getI (o.set (rgt w[k] - 1).toNat (o.getD (rgt w[k]).toNat 0)) (rgt w[k]) = some ((o.set (rgt w[k] - 1).toNat (o.getD (rgt w[k]).toNat 0))[(rgt w[k]).toNat]'(by rw [List.length_set]; omega)) :=
    getI_toNat (by omega) (by rw [List.length_set]; omega)
  constructor
  · simp only [sh48_1, hkk, decide_true, cond_true, getI_lt hk, bindS, l15Size_eq, hw1, g2, ec, g4, l23Swap_eq o _ b1 (by omega) (by omega)]
    rw [w64_id (x := (k : Int) + 1) (by omega) (by omega)]
    rfl
  · simp only [sh69f76_2, hkk, decide_true, cond_true, getI_lt hk, bindS, rightOf_eq, hw1, g2, ec2, g1, g5, sh76, g4]
    rw [w64_id (x := (k : Int) + 1) (by omega) (by omega), hn]
    rfl

theorem oversOf_total (s : Int) (w : List Int) (h : w.length ≤ 1048576) : ∃ r, sh48 s w = some r ∧ sh49 s w = some r ∧ r.1.length ≤ 200 := by
  unfold sh48 sh49
  rw [l23Ok_eq s w h, implValidWord_eq s w h]
  simp only [bindS]
  cases hv : validW s w
  · exact ⟨_, rfl, rfl, by simp⟩
  · have hlen := validW_len hv
    unfold validW at hv
    simp only [Bool.and_eq_true, decide_eq_true_eq, List.all_eq_true] at hv
    obtain ⟨⟨hs, hs2⟩, _, hall⟩ := hv
    obtain ⟨l0, e0, hl0, hm0⟩ := first_eq s (by omega) (by omega)
    have emk : mkL s (0 : Int) = some (List.replicate s.toNat 0) := by
      have := mkL_ok (n := s.toNat) (z := (0 : Int)) (by omega)
      rwa [Int.toNat_of_nonneg (by omega)] at this
    have hO : okO s (l0, List.replicate s.toNat 0) := ⟨hl0, by simp, hm0⟩
    have i1 := iter_fold (sb := sh48_1 w) w (fun k (p : List Int × List Int) => ((k : Int), p.1, p.2)) ostep (fun p => p.2) (fun _ p => okO s p) _ hO (by omega) (fun k hk p hp => ⟨(overs_body s w hs hs2 hlen hall k hk p hp).1, ostep_ok hs hs2 (hall _ (List.getElem_mem hk)) hp⟩) (fun p _ => by
      have hd : decide ((w.length : Int) < (w.length : Int)) = false := by simp
      simp only [sh48_1, hd, cond_false])
    have i2 := iter_fold (sb := sh69f76_2 w) w (fun k (p : List Int × List Int) => ((k : Int), p.2, p.1)) ostep (fun p => (p.2, p.1)) (fun _ p => okO s p) _ hO (by omega) (fun k hk p hp => ⟨(overs_body s w hs hs2 hlen hall k hk p hp).2, ostep_ok hs hs2 (hall _ (List.getElem_mem hk)) hp⟩) (fun p _ => by
      have hd : decide ((w.length : Int) < (w.length : Int)) = false := by simp
      simp only [sh69f76_2, hd, cond_false])
    have h1 := i1.1
    have h2 := i2.1
    simp only [Int.natCast_zero] at h1 h2
    have e1 : iter (sh69f76_1 s) (0, []) = some l0 := by
      have := e0
      unfold sh73 at this
      have e : iter (sh69f76_1 s) (0, []) = iter (sh73_1 s) (0, []) := rfl
      rw [e]
      cases hh : iter (sh73_1 s) (0, []) with
      | none => rw [hh] at this; cases this
      | some z => rw [hh] at this; exact this
    simp only [Bool.not_true, cond_false, e0, emk, bindS, h1, sh69f76, e1, h2]
    refine ⟨_, rfl, rfl, ?_⟩
    have := i1.2.2.1
    show (List.foldl ostep _ w).2.length ≤ 200
    omega

/-! FnExactOversOf -/
theorem law14 (s : Int) (w : List Int) : sh14 s w = some true := by
  unfold sh14
  by_cases h : w.length ≤ 1048576
  · have hd : decide (1048576 < (w.length : Int)) = false := by simp; omega
    obtain ⟨r, hr, hr2, hl⟩ := oversOf_total s w h
    have hm := markI64_eq r.1 1 (by omega) (by omega) (by omega)
    have hm2 := markI64_eq w 1 (by omega) (by omega) (by omega)
    have hh := heldI64_eq 1 r.1.length (by omega) (by omega) (by omega)
    have hn : decide ((1 : Int) + (r.1.length : Int) < 0) = false := by simp; omega
    have hn2 : decide ((1 : Int) + (w.length : Int) < 0) = false := by simp; omega
    simp only [hd, cond_false, toI64_eq w h, bindS, hr2, hr, eqI64_eq r.1 r.1 (by omega), eqI64_eq w w h, decide_true, Bool.not_true, bne_self_eq_false, Bool.or_self, hm, hm2, hh, hn, hn2]
  · have hd : decide (1048576 < (w.length : Int)) = true := by simp; omega
    simp [hd]
end Go.Sh
