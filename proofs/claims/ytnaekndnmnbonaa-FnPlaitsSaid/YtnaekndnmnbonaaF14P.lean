/- Plain laws: what the shallow functions come to. -/
import Derived.Test.YtnaekndnmnbonaaF14W1
set_option linter.unusedVariables false
set_option linter.unusedSimpArgs false
namespace Go.Sh
open Go Go.RowKit

/-! iters -/
theorem w64_lo (x : Int) : -9223372036854775808 ≤ w64 x := by
  have := IntKind.wrap_i64 x
  show _ ≤ IntKind.i64.wrap x
  omega
theorem w64_hi (x : Int) : w64 x ≤ 9223372036854775807 := by
  have := IntKind.wrap_i64 x
  show IntKind.i64.wrap x ≤ _
  omega
theorem getI_toNat {T : Type} {xs : List T} {i : Int} (h0 : 0 ≤ i) (h : i.toNat < xs.length) : getI xs i = some xs[i.toNat] := by
  unfold getI; rw [if_pos h0]; exact List.getElem?_eq_getElem h
theorem nzI_ok {a : Int} (h : a ≠ 0) : nzI a = some a := by simp [nzI, h]

/-- The loop that looks for the first element that passes. -/
theorem iter_find {T : Type} {sb : Int → Option (Int ⊕ (Unit ⊕ Int))} {xs : List T} {p : T → Bool} (hl : xs.length < 1099511627776)
    (hsb : ∀ (k : Nat) (h : k < xs.length), sb (k : Int) = if p xs[k] = true then some (.inr (.inr (k : Int))) else some (.inl ((k : Int) + 1))) (he : sb (xs.length : Int) = some (.inr (.inl ()))) :
    iter sb 0 = some (if xs.any p = true then .inr (xs.findIdx p : Int) else .inl ()) := by
  have h := iter_res (sb := sb) (fun k => (k : Int)) (fun k => if (xs.drop k).any p = true then (.inr (k + (xs.drop k).findIdx p : Nat) : Unit ⊕ Int) else .inl ()) xs.length (by omega) (fun k hk => ?_) (by
    rw [he, List.drop_of_length_le (Nat.le_refl _)]; simp)
  · simpa using h
  · rw [hsb k hk, List.drop_eq_getElem_cons hk]
    by_cases hx : p xs[k] = true
    · right
      rw [if_pos hx]
      simp only [List.any_cons, hx, Bool.true_or, if_true, List.findIdx_cons, cond_true, Nat.add_zero]
    · left
      rw [if_neg hx]
      refine ⟨by simp, ?_⟩
      have hx' : p xs[k] = false := by simpa using hx
      simp only [List.any_cons, hx', Bool.false_or, List.findIdx_cons, cond_false]
      split <;> simp
      omega

theorem iterN_congr {σ ρ : Type} {sb1 sb2 : σ → Option (σ ⊕ ρ)} (I : σ → Prop) (hs : ∀ s, I s → sb1 s = sb2 s ∧ ∀ s', sb2 s = some (.inl s') → I s') : ∀ (n : Nat) (s : σ), I s → iterN sb1 n s = iterN sb2 n s
  | 0, _, _ => rfl
  | n + 1, s, h => by
    obtain ⟨h1, h2⟩ := hs s h
    simp only [iterN, h1]
    cases hb : sb2 s with
    | none => rfl
    | some o =>
      cases o with
      | inl s' => exact iterN_congr I hs n s' (h2 s' hb)
      | inr x => rfl
/-- Two loops whose bodies agree where the invariant holds. -/
theorem iter_congr {σ ρ : Type} {sb1 sb2 : σ → Option (σ ⊕ ρ)} (I : σ → Prop) {s0 : σ} (h0 : I s0) (hs : ∀ s, I s → sb1 s = sb2 s ∧ ∀ s', sb2 s = some (.inl s') → I s') : iter sb1 s0 = iter sb2 s0 :=
  iterN_congr I hs FUEL s0 h0

/-- A loop over a list, as a fold. -/
theorem iter_fold {T σ S ρ : Type} {sb : S → Option (S ⊕ ρ)} (xs : List T) (st : Nat → σ → S) (g : σ → T → σ) (h : σ → ρ) (I : Nat → σ → Prop) (s0 : σ) (h0 : I 0 s0) (hl : xs.length < 1099511627776)
    (hsb : ∀ (k : Nat) (hk : k < xs.length) s, I k s → sb (st k s) = some (.inl (st (k + 1) (g s xs[k]))) ∧ I (k + 1) (g s xs[k])) (he : ∀ s, I xs.length s → sb (st xs.length s) = some (.inr (h s))) :
    iter sb (st 0 s0) = some (h (xs.foldl g s0)) ∧ I xs.length (xs.foldl g s0) := by
  have hI : ∀ k, k ≤ xs.length → I k ((xs.take k).foldl g s0) := by
    intro k
    induction k with
    | zero => intro _; simpa using h0
    | succ k ih =>
      intro hk
      rw [List.take_succ_eq_append_getElem (by omega), List.foldl_append]
      exact (hsb k (by omega) _ (ih (by omega))).2
  have hlast := hI xs.length (Nat.le_refl _)
  rw [List.take_length] at hlast
  refine ⟨?_, hlast⟩
  refine iter_steps (fun k => st k ((xs.take k).foldl g s0)) xs.length (by omega) (fun k hk => ?_) (by rw [List.take_length]; exact he _ hlast)
  rw [(hsb k hk _ (hI k (by omega))).1, List.take_succ_eq_append_getElem hk, List.foldl_append]
  rfl

/-- The greater one. -/
def mx (a b : Int) : Int := if a < b then b else a
def mn (a b : Int) : Int := if b < a then b else a
theorem mx_comm' (a b : Int) : (if b < a then a else b) = mx a b := by unfold mx; split <;> split <;> omega
theorem foldl_snoc {α β : Type} (f : α → β) : ∀ (xs : List α) (a : List β), xs.foldl (fun acc m => acc ++ [f m]) a = a ++ xs.map f
  | [], a => by simp
  | x :: xs, a => by rw [List.foldl_cons, foldl_snoc f xs]; simp

/-! max -/
theorem l00Max_eq (a b : Int) : sh177 a b = some (mx a b) := by
  unfold sh177
  rw [← mx_comm']
  by_cases h : b < a <;> simp [h]

/-! validword -/
/-- A move fits. -/
def okM (s m : Int) : Bool := !(m == 0) && (decide (w64 (1 - s) ≤ m) && decide (m ≤ w64 (s - 1)))
def validW (s : Int) (w : List Int) : Bool := (decide (2 ≤ s) && decide (s ≤ 12)) && (decide (w.length ≤ 200) && w.all (okM s))

theorem l23Ok_eq (s : Int) (w : List Int) (h : w.length ≤ 1048576) : sh127 s w = some (validW s w) := by
  unfold sh127 sh115
  rw [bindS]
  unfold validW
  cases hs : (decide (2 ≤ s) && decide (s ≤ 12))
  · simp
  · by_cases hl : w.length ≤ 200
    · have hd : decide (200 < (w.length : Int)) = false := by simp; omega
      simp only [hd, Bool.not_true, Bool.or_self, cond_false]
      rw [iter_all (xs := w) (p := okM s) (r := false) (by omega) (fun k hk => ?_) (by simp [sh127_1]), bindS]
      · cases ha : w.all (okM s) <;> simp [elimS, hl]
      · have h2 : (k : Int) < w.length := by omega
        simp only [sh127_1, sh115, h2, decide_true, cond_true, getI_lt hk, bindS]
        rw [w64_id (x := (k : Int) + 1) (by omega) (by omega)]
        unfold okM
        cases h0 : w[k] == 0 <;> simp [bindS]
        cases h1 : decide (w64 (1 - s) ≤ w[k]) <;> cases h3 : decide (w[k] ≤ w64 (s - 1)) <;> simp_all
    · have hd : decide (200 < (w.length : Int)) = true := by simp; omega
      simp [hd, hl]

theorem implValidWord_eq (s : Int) (w : List Int) (h : w.length ≤ 1048576) : sh76 s w = some (validW s w) := by
  unfold sh76
  rw [iter_all (xs := w) (p := okM s) (r := false) (by omega) (fun k hk => ?_) (by simp [sh76_1]), bindS]
  · unfold validW
    cases ha : w.all (okM s)
    · simp [elimS]
    · simp only [elimS, if_true, sh136, bindS, Bool.and_true]
      congr 2
      simp only [decide_eq_decide]
      omega
  · have h2 : (k : Int) < w.length := by omega
    simp only [sh76_1, sh136, h2, decide_true, cond_true, getI_lt hk, bindS]
    rw [w64_id (x := (k : Int) + 1) (by omega) (by omega)]
    unfold okM
    cases h0 : w[k] == 0 <;> simp [bindS]
    cases h1 : decide (w64 (1 - s) ≤ w[k]) <;> cases h3 : decide (w[k] ≤ w64 (s - 1)) <;> simp_all

theorem validW_len {s : Int} {w : List Int} (h : validW s w = true) : w.length ≤ 200 := by
  unfold validW at h
  simp only [Bool.and_eq_true, decide_eq_true_eq] at h
  exact h.2.1

/-! order -/
/-- The greater place of a move. -/
def rgt (m : Int) : Int := mx m (w64 (0 - m))
theorem l15Size_eq (m : Int) : sh131 m = some (rgt m) := by
  unfold sh131; rw [l00Max_eq]; rfl
theorem rightOf_eq (m : Int) : sh176 m = some (rgt m) := rfl
theorem rgt_bounds {s m : Int} (hs : 2 ≤ s) (hs2 : s ≤ 12) (h : okM s m = true) : 1 ≤ rgt m ∧ rgt m ≤ s - 1 := by
  unfold okM at h
  simp only [Bool.and_eq_true, Bool.not_eq_true', beq_eq_false_iff_ne, decide_eq_true_eq] at h
  rw [w64_id (by omega) (by omega), w64_id (by omega) (by omega)] at h
  unfold rgt mx
  rw [w64_id (by omega) (by omega)]
  split <;> omega
def swapL (xs : List Int) (k : Nat) : List Int := (xs.set (k - 1) (xs.getD k 0)).set k (xs.getD (k - 1) 0)
theorem swapL_length (xs : List Int) (k : Nat) : (swapL xs k).length = xs.length := by simp [swapL]

theorem first_eq (s : Int) (h0 : 0 ≤ s) (h1 : s ≤ 12) : ∃ l, sh130 s = some l ∧ l.length = s.toNat ∧ ∀ x ∈ l, 0 ≤ x ∧ x < s := by
  unfold sh130
  obtain ⟨x, hx, hr⟩ := iter_inv (sb := sh130_1 s) (fun (p : Int × List Int) => 0 ≤ p.1 ∧ p.1 ≤ s ∧ (p.2.length : Int) = p.1 ∧ ∀ x ∈ p.2, 0 ≤ x ∧ x < s) (fun p => (s - p.1).toNat) (fun (l : List Int) => l.length = s.toNat ∧ ∀ x ∈ l, 0 ≤ x ∧ x < s) (s0 := (0, [])) (by simp; omega) (by simp only; omega) (by
    rintro ⟨k, ys⟩ ⟨h2, h3, h4, h5⟩
    simp only at h2 h3 h4 h5
    by_cases hk : k < s
    · left
      simp only [sh130_1, hk, decide_true, cond_true]
      rw [appL_ok (by simp only [List.length_cons, List.length_nil]; omega), bindS, w64_id (x := k + 1) (by omega) (by omega)]
      refine ⟨_, rfl, ⟨by simp only; omega, by simp only; omega, by simp only [List.length_append, List.length_cons, List.length_nil]; omega, ?_⟩, by simp only; omega⟩
      intro x hx
      rcases List.mem_append.1 hx with h | h
      · exact h5 x h
      · simp at h; omega
    · right
      have hd : decide (k < s) = false := decide_eq_false hk
      simp only [sh130_1, hd, cond_false]
      exact ⟨_, rfl, by omega, h5⟩)
  exact ⟨x, by rw [hx]; rfl, hr⟩

theorem l23Swap_eq (xs : List Int) (m : Int) (h1 : 1 ≤ rgt m) (h2 : rgt m < xs.length) (h3 : xs.length ≤ 12) : sh132 xs m = some (swapL xs (rgt m).toNat) := by
  unfold sh132
  rw [l15Size_eq, bindS]
  obtain ⟨k, hk⟩ : ∃ k : Nat, rgt m = k := ⟨(rgt m).toNat, by omega⟩
  rw [hk] at h1 h2 ⊢
  have hw : w64 ((k : Int) - 1) = ((k - 1 : Nat) : Int) := by rw [w64_id (by omega) (by omega)]; omega
  have ha : k < xs.length := by omega
  have hb : k - 1 < xs.length := by omega
  rw [hw, getI_lt hb, getI_lt ha]
  simp only [bindS, Int.toNat_natCast]
  rw [getI_lt (by rw [List.length_set]; exact ha), bindS]
  simp [swapL, List.getD, List.getElem?_eq_getElem ha, List.getElem?_eq_getElem hb]

/-! order23 -/
theorem l23Order_eq (s : Int) (w : List Int) (hv : validW s w = true) : ∃ l, sh128 s w = some l ∧ l.length = s.toNat := by
  have hlen := validW_len hv
  unfold validW at hv
  simp only [Bool.and_eq_true, decide_eq_true_eq, List.all_eq_true] at hv
  obtain ⟨⟨hs, hs2⟩, _, hall⟩ := hv
  unfold sh128
  obtain ⟨l0, h0, hl0, _⟩ := first_eq s (by omega) (by omega)
  rw [h0, bindS]
  have hi := iter_fold (sb := sh128_1 w) w (fun k (o : List Int) => ((k : Int), o)) (fun o m => swapL o (rgt m).toNat) (fun o => o) (fun _ o => o.length = s.toNat) l0 hl0 (by omega) (fun k hk o ho => ⟨by
      have h2 : (k : Int) < w.length := by omega
      obtain ⟨b1, b2⟩ := rgt_bounds hs hs2 (hall _ (List.getElem_mem hk))
      simp only [sh128_1, h2, decide_true, cond_true, getI_lt hk, bindS]
      rw [l23Swap_eq o _ b1 (by omega) (by omega), bindS, w64_id (by omega) (by omega)]
      rfl, by rw [swapL_length]; exact ho⟩) (fun o _ => by
      have hd : decide ((w.length : Int) < (w.length : Int)) = false := by simp
      simp only [sh128_1, hd, cond_false])
  have h1 := hi.1
  simp only [Int.natCast_zero] at h1
  rw [h1, bindS]
  exact ⟨_, rfl, hi.2⟩

/-! orderafter -/
theorem plait_body (w : List Int) : sh125f126_2 w = sh128_1 w := by
  funext ⟨i, o⟩
  simp only [sh125f126_2, sh128_1, sh126, sh132, rightOf_eq, l15Size_eq, bindS]
  cases decide (i < (w.length : Int)) <;> simp only [cond_false, cond_true]
  cases getI w i <;> simp only [Option.bind_none, bindS]
  rename_i m
  cases getI o (w64 (rgt m - 1)) <;> simp only [Option.bind_none, bindS]
  cases hb : getI o (rgt m) <;> simp only [Option.bind_none, bindS]
  · cases decide (m < 0) <;> simp
  · rename_i a b
    cases decide (m < 0) <;> simp <;> cases getI (o.set (w64 (rgt m - 1)).toNat b) (rgt m) <;> rfl
theorem orderAfter_total (s : Int) (w : List Int) (h : w.length ≤ 1048576) : ∃ r, sh65 s w = some r ∧ sh64 s w = some r ∧ r.1.length ≤ 200 := by
  unfold sh65 sh64
  rw [l23Ok_eq s w h, implValidWord_eq s w h]
  simp only [bindS]
  cases hv : validW s w
  · exact ⟨_, rfl, rfl, by simp⟩
  · obtain ⟨l, hl, hn⟩ := l23Order_eq s w hv
    have h2 : sh125f126 s w = some l := by
      rw [← hl]
      unfold sh125f126 sh128 sh130
      rw [plait_body]
      show Option.bind (iter (sh130_1 s) _) _ = _
      cases iter (sh130_1 s) (0, []) <;> rfl
    simp only [Bool.not_true, cond_false, hl, h2, bindS]
    refine ⟨_, rfl, rfl, ?_⟩
    unfold validW at hv
    simp only [Bool.and_eq_true, decide_eq_true_eq] at hv
    show l.length ≤ 200
    omega

/-! oversof -/
theorem swapL_mem {xs : List Int} {k : Nat} (hk : k < xs.length) {x : Int} (h : x ∈ swapL xs k) : x ∈ xs := by
  unfold swapL at h
  rcases List.mem_or_eq_of_mem_set h with h | h
  · rcases List.mem_or_eq_of_mem_set h with h | h
    · exact h
    · rw [h, List.getD_eq_getElem?_getD, List.getElem?_eq_getElem hk]; exact List.getElem_mem hk
  · rw [h, List.getD_eq_getElem?_getD, List.getElem?_eq_getElem (by omega)]; exact List.getElem_mem (by omega)
def overOf (o : List Int) (m : Int) : Int := if m < 0 then o.getD (rgt m).toNat 0 else o.getD ((rgt m).toNat - 1) 0
def ostep (s : List Int × List Int) (m : Int) : List Int × List Int := (swapL s.1 (rgt m).toNat, s.2.set (overOf s.1 m).toNat (w64 (s.2.getD (overOf s.1 m).toNat 0 + 1)))
def okO (s : Int) (p : List Int × List Int) : Prop := p.1.length = s.toNat ∧ p.2.length = s.toNat ∧ ∀ x ∈ p.1, 0 ≤ x ∧ x < s
theorem overOf_eq {o : List Int} {m : Int} (h1 : 1 ≤ rgt m) (h2 : rgt m < o.length) :
    getI o (rgt m) = some (o.getD (rgt m).toNat 0) ∧ getI o (rgt m - 1) = some (o.getD ((rgt m).toNat - 1) 0) ∧ overOf o m ∈ o := by
  have ha : (rgt m).toNat < o.length := by omega
  have hb : (rgt m).toNat - 1 < o.length := by omega
  have e2 : rgt m - 1 = (((rgt m).toNat - 1 : Nat) : Int) := by omega
  refine ⟨?_, ?_, ?_⟩
  · rw [List.getD_eq_getElem?_getD, List.getElem?_eq_getElem ha]
    exact getI_toNat (by omega) ha
  · rw [List.getD_eq_getElem?_getD, List.getElem?_eq_getElem hb, e2]
    exact getI_lt hb
  · unfold overOf
    split
    · rw [List.getD_eq_getElem?_getD, List.getElem?_eq_getElem ha]; exact List.getElem_mem ha
    · rw [List.getD_eq_getElem?_getD, List.getElem?_eq_getElem hb]; exact List.getElem_mem hb
theorem ostep_ok {s m : Int} (hs : 2 ≤ s) (hs2 : s ≤ 12) (hm : okM s m = true) {p : List Int × List Int} (h : okO s p) : okO s (ostep p m) := by
  obtain ⟨b1, b2⟩ := rgt_bounds hs hs2 hm
  obtain ⟨h1, h2, h3⟩ := h
  refine ⟨by rw [ostep, swapL_length]; exact h1, by rw [ostep, List.length_set]; exact h2, fun x hx => h3 x (swapL_mem (by omega) hx)⟩

theorem overs_body (s : Int) (w : List Int) (hs : 2 ≤ s) (hs2 : s ≤ 12) (hw : w.length ≤ 200) (hall : ∀ x ∈ w, okM s x = true) (k : Nat) (hk : k < w.length) (p : List Int × List Int) (h : okO s p) :
    sh67_1 w ((k : Int), p.1, p.2) = some (.inl (((k + 1 : Nat) : Int), (ostep p w[k]).1, (ostep p w[k]).2)) ∧
    sh125f129_2 w ((k : Int), p.2, p.1) = some (.inl (((k + 1 : Nat) : Int), (ostep p w[k]).2, (ostep p w[k]).1)) := by
  obtain ⟨o, ov⟩ := p
  obtain ⟨h1, h2, h3⟩ := h
  simp only at h1 h2 h3
  have hm := hall _ (List.getElem_mem hk)
  obtain ⟨b1, b2⟩ := rgt_bounds hs hs2 hm
  obtain ⟨g1, g2, g3⟩ := overOf_eq (o := o) b1 (by omega)
  obtain ⟨c1, c2⟩ := h3 _ g3
  have hkk : (k : Int) < w.length := by omega
  have hov : (overOf o w[k]).toNat < ov.length := by omega
  have g4 : getI ov (overOf o w[k]) = some (ov.getD (overOf o w[k]).toNat 0) := by
    rw [List.getD_eq_getElem?_getD, List.getElem?_eq_getElem hov]
    exact getI_toNat c1 hov
  have hw1 : w64 (rgt w[k] - 1) = rgt w[k] - 1 := w64_id (by omega) (by omega)
  have ec : (bif decide (w[k] < 0) then (Option.bind (getI o (rgt w[k])) fun x27 => some x27) else (some (o.getD ((rgt w[k]).toNat - 1) 0))) = some (overOf o w[k]) := by
    unfold overOf
    by_cases hneg : w[k] < 0 <;> simp [hneg, g1]
  have ec2 : (bif decide (w[k] < 0) then some (o.getD (rgt w[k]).toNat 0) else some (o.getD ((rgt w[k]).toNat - 1) 0)) = some (overOf o w[k]) := by
    unfold overOf
    by_cases hneg : w[k] < 0 <;> simp [hneg]
  have hn : (rgt w[k] - 1).toNat = (rgt w[k]).toNat - 1 := by omega
  have g5 : getI (o.set (rgt w[k] - 1).toNat (o.getD (rgt w[k]).toNat 0)) (rgt w[k]) = some ((o.set (rgt w[k] - 1).toNat (o.getD (rgt w[k]).toNat 0))[(rgt w[k]).toNat]'(by rw [List.length_set]; omega)) :=
    getI_toNat (by omega) (by rw [List.length_set]; omega)
  constructor
  · simp only [sh67_1, hkk, decide_true, cond_true, getI_lt hk, bindS, l15Size_eq, hw1, g2, ec, g4, l23Swap_eq o _ b1 (by omega) (by omega)]
    rw [w64_id (x := (k : Int) + 1) (by omega) (by omega)]
    rfl
  · simp only [sh125f129_2, hkk, decide_true, cond_true, getI_lt hk, bindS, rightOf_eq, hw1, g2, ec2, g1, g5, sh129, g4]
    rw [w64_id (x := (k : Int) + 1) (by omega) (by omega), hn]
    rfl

theorem oversOf_total (s : Int) (w : List Int) (h : w.length ≤ 1048576) : ∃ r, sh67 s w = some r ∧ sh66 s w = some r ∧ r.1.length ≤ 200 := by
  unfold sh67 sh66
  rw [l23Ok_eq s w h, implValidWord_eq s w h]
  simp only [bindS]
  cases hv : validW s w
  · exact ⟨_, rfl, rfl, by simp⟩
  · have hlen := validW_len hv
    unfold validW at hv
    simp only [Bool.and_eq_true, decide_eq_true_eq, List.all_eq_true] at hv
    obtain ⟨⟨hs, hs2⟩, _, hall⟩ := hv
    obtain ⟨l0, e0, hl0, hm0⟩ := first_eq s (by omega) (by omega)
    have emk : mkL s (0 : Int) = some (List.replicate s.toNat 0) := by
      have := mkL_ok (n := s.toNat) (z := (0 : Int)) (by omega)
      rwa [Int.toNat_of_nonneg (by omega)] at this
    have hO : okO s (l0, List.replicate s.toNat 0) := ⟨hl0, by simp, hm0⟩
    have i1 := iter_fold (sb := sh67_1 w) w (fun k (p : List Int × List Int) => ((k : Int), p.1, p.2)) ostep (fun p => p.2) (fun _ p => okO s p) _ hO (by omega) (fun k hk p hp => ⟨(overs_body s w hs hs2 hlen hall k hk p hp).1, ostep_ok hs hs2 (hall _ (List.getElem_mem hk)) hp⟩) (fun p _ => by
      have hd : decide ((w.length : Int) < (w.length : Int)) = false := by simp
      simp only [sh67_1, hd, cond_false])
    have i2 := iter_fold (sb := sh125f129_2 w) w (fun k (p : List Int × List Int) => ((k : Int), p.2, p.1)) ostep (fun p => (p.2, p.1)) (fun _ p => okO s p) _ hO (by omega) (fun k hk p hp => ⟨(overs_body s w hs hs2 hlen hall k hk p hp).2, ostep_ok hs hs2 (hall _ (List.getElem_mem hk)) hp⟩) (fun p _ => by
      have hd : decide ((w.length : Int) < (w.length : Int)) = false := by simp
      simp only [sh125f129_2, hd, cond_false])
    have h1 := i1.1
    have h2 := i2.1
    simp only [Int.natCast_zero] at h1 h2
    have e1 : iter (sh125f129_1 s) (0, []) = some l0 := by
      have := e0
      unfold sh130 at this
      have e : iter (sh125f129_1 s) (0, []) = iter (sh130_1 s) (0, []) := rfl
      rw [e]
      cases hh : iter (sh130_1 s) (0, []) with
      | none => rw [hh] at this; cases this
      | some z => rw [hh] at this; exact this
    simp only [Bool.not_true, cond_false, e0, emk, bindS, h1, sh125f129, e1, h2]
    refine ⟨_, rfl, rfl, ?_⟩
    have := i1.2.2.1
    show (List.foldl ostep _ w).2.length ≤ 200
    omega

/-! to_i64s -/

/-! eq_i64s -/

/-! mark_i64s -/
/-- The numbers that are laid into a result to see whether it is of one's own. -/
def marksFrom (m : Int) (n : Nat) : List Int := (List.range n).map fun (i : Nat) => m + (i : Int)
theorem marksFrom_length (m : Int) (n : Nat) : (marksFrom m n).length = n := by simp [marksFrom]
theorem marksFrom_get (m : Int) (n k : Nat) (h : k < n) : (marksFrom m n)[k]'(by rw [marksFrom_length]; exact h) = m + k := by simp [marksFrom]
theorem marksFrom_succ (m : Int) (k : Nat) : marksFrom m (k + 1) = marksFrom m k ++ [m + k] := by simp [marksFrom, List.range_succ]


/-! inverseword -/
theorem ok_iter_inv (q : List Int) (hq : q.length ≤ 200) (sb : (Int × List Int) → Option ((Int × List Int) ⊕ List Int))
    (hsb : ∀ i ys, sb (i, ys) = bif decide (0 ≤ i) then (Option.bind (getI q i) fun x11 => Option.bind (appL ys [w64 (0 - x11)]) fun x14 => some (.inl (w64 (i - 1), x14))) else (some (.inr ys))) :
    ∃ r, iter sb (w64 ((q.length : Int) - 1), []) = some r ∧ r.length ≤ 200 := by
  rw [w64_id (by omega) (by omega)]
  refine iter_inv (fun (s : Int × List Int) => -1 ≤ s.1 ∧ s.1 < q.length ∧ (s.2.length : Int) + s.1 + 1 ≤ q.length) (fun s => (s.1 + 1).toNat) (fun (l : List Int) => l.length ≤ 200) (by simp <;> omega) (by simp <;> omega) ?_
  rintro ⟨i, ys⟩ ⟨h1, h2, h3⟩
  simp only at h1 h2 h3
  rw [hsb]
  by_cases hi : 0 ≤ i
  · left
    obtain ⟨k, rfl⟩ : ∃ k : Nat, i = k := ⟨i.toNat, by omega⟩
    simp only [hi, decide_true, cond_true, getI_lt (show k < q.length by omega), bindS]
    rw [appL_ok (by simp <;> omega), bindS, w64_id (x := (k : Int) - 1) (by omega) (by omega)]
    exact ⟨_, rfl, ⟨by simp <;> omega, by simp <;> omega, by simp <;> omega⟩, by simp <;> omega⟩
  · right
    have hd : decide (0 ≤ i) = false := by simp <;> omega
    simp only [hd, cond_false]
    exact ⟨_, rfl, by omega⟩

theorem inverseWord_total (s : Int) (w : List Int) (h : w.length ≤ 1048576) : ∃ r, sh69 s w = some r ∧ r.1.length ≤ 200 := by
  unfold sh69
  rw [l23Ok_eq s w h, bindS]
  cases hv : validW s w
  · exact ⟨_, rfl, by simp⟩
  · obtain ⟨r, hr, hl⟩ := ok_iter_inv w (validW_len hv) (sh69_1 w) (fun i ys => rfl)
    simp only [Bool.not_true, cond_false, hr, bindS]
    exact ⟨_, rfl, hl⟩

theorem inverseWord_same (s : Int) (w : List Int) (h : w.length ≤ 1048576) : sh68 s w = sh69 s w := by
  unfold sh68 sh69
  rw [l23Ok_eq s w h, implValidWord_eq s w h]
  rfl

/-! reduceword -/
theorem takeL_ok {T : Type} {xs : List T} {n : Nat} (h : n ≤ xs.length) : takeL xs (n : Int) = some (xs.take n) := by
  simp [takeL]; omega
theorem ok_iter_red (q : List Int) (hq : q.length ≤ 200) (sb : (Int × List Int) → Option ((Int × List Int) ⊕ List Int))
    (hsb : ∀ i ys, sb (i, ys) = bif decide (i < (q.length : Int)) then (Option.bind (getI q i) fun x11 => Option.bind (bif decide (0 < (ys.length : Int)) then (Option.bind (getI ys (w64 ((ys.length : Int) - 1))) fun x13 => some (x13 == (w64 (0 - x11)))) else (some false)) fun c12 => (Option.bind (bif c12 then (Option.bind (takeL ys (w64 ((ys.length : Int) - 1))) fun x17 => some x17) else (Option.bind (appL ys [x11]) fun x20 => some x20)) fun j14 => (some (.inl (w64 (i + 1), j14))))) else (some (.inr ys))) :
    ∃ r, iter sb (0, []) = some r ∧ r.length ≤ 200 := by
  refine iter_inv (fun (s : Int × List Int) => 0 ≤ s.1 ∧ s.1 ≤ q.length ∧ (s.2.length : Int) ≤ s.1) (fun s => (q.length - s.1).toNat) (fun (l : List Int) => l.length ≤ 200) (by simp) (by simp <;> omega) ?_
  rintro ⟨i, ys⟩ ⟨h1, h2, h3⟩
  simp only at h1 h2 h3
  rw [hsb]
  by_cases hi : i < q.length
  · left
    obtain ⟨k, rfl⟩ : ∃ k : Nat, i = k := ⟨i.toNat, by omega⟩
    simp only [hi, decide_true, cond_true, getI_lt (show k < q.length by omega), bindS]
    rw [w64_id (x := (k : Int) + 1) (by omega) (by omega)]
    by_cases hy : 0 < ys.length
    · have hd : decide ((0 : Int) < (ys.length : Int)) = true := by simp <;> omega
      have hw : w64 ((ys.length : Int) - 1) = ((ys.length - 1 : Nat) : Int) := by rw [w64_id (by omega) (by omega)]; omega
      simp only [hd, cond_true, hw, getI_lt (show ys.length - 1 < ys.length by omega), bindS]
      cases ys[ys.length - 1] == w64 (0 - q[k])
      · simp only [cond_false]
        rw [appL_ok (by simp <;> omega)]
        simp only [bindS]
        exact ⟨_, rfl, ⟨by simp <;> omega, by simp <;> omega, by simp <;> omega⟩, by simp <;> omega⟩
      · simp only [cond_true]
        rw [takeL_ok (by omega)]
        simp only [bindS]
        have ht : (ys.take (ys.length - 1)).length ≤ ys.length := by rw [List.length_take]; omega
        exact ⟨_, rfl, ⟨by simp only; omega, by simp only; omega, by simp only; omega⟩, by simp only; omega⟩
    · have hd : decide ((0 : Int) < (ys.length : Int)) = false := decide_eq_false (by omega)
      simp only [hd, cond_false, bindS]
      rw [appL_ok (by simp <;> omega)]
      simp only [bindS]
      exact ⟨_, rfl, ⟨by simp <;> omega, by simp <;> omega, by simp <;> omega⟩, by simp <;> omega⟩
  · right
    have hd : decide (i < (q.length : Int)) = false := by simp <;> omega
    simp only [hd, cond_false]
    exact ⟨_, rfl, by omega⟩

theorem reduceWord_total (s : Int) (w : List Int) (h : w.length ≤ 1048576) : ∃ r, sh70 s w = some r ∧ r.1.length ≤ 200 := by
  unfold sh70
  rw [implValidWord_eq s w h, bindS]
  cases hv : validW s w
  · exact ⟨_, rfl, by simp⟩
  · obtain ⟨r, hr, hl⟩ := ok_iter_red w (validW_len hv) (sh70_1 w) (fun i ys => rfl)
    simp only [Bool.not_true, cond_false, hr, bindS]
    exact ⟨_, rfl, hl⟩

theorem reduceWord_loop (w : List Int) : sh71_1 w = sh70_1 w := by
  funext ⟨i, ys⟩
  unfold sh71_1 sh70_1
  simp only
  cases decide (i < (w.length : Int)) <;> simp only [cond_false, cond_true]
  cases getI w i <;> simp only [Option.bind_none, bindS]
  · cases decide (0 < (ys.length : Int)) <;> simp

theorem reduceWord_same (s : Int) (w : List Int) (h : w.length ≤ 1048576) : sh71 s w = sh70 s w := by
  unfold sh70 sh71
  rw [l23Ok_eq s w h, implValidWord_eq s w h, reduceWord_loop]

/-! pathofstrand -/
theorem index_same (o : List Int) (x : Int) : sh138 o x = sh139 o x := by
  unfold sh138 sh139
  have e : sh138_1 o x = sh139_1 o x := by
    funext i
    simp only [sh138_1, sh139_1]
    cases decide (i < (o.length : Int))
    · rfl
    · simp only [cond_true]
      cases getI o i with
      | none => rfl
      | some y =>
        simp only [bindS]
        by_cases h : x = y
        · subst h; rfl
        · rw [beq_eq_false_iff_ne.2 h, beq_eq_false_iff_ne.2 (Ne.symm h)]
  rw [e]
def plc (o : List Int) (x : Int) : Int := (sh139 o x).getD 0
theorem place_eq (o : List Int) (x : Int) (h : o.length ≤ 1048576) : sh139 o x = some (plc o x) := by
  have key : ∃ r, sh139 o x = some r := by
    unfold sh139
    rw [iter_find (xs := o) (p := fun y => y == x) (by omega) (fun k hk => ?_) (by simp [sh139_1]), bindS]
    · cases o.any fun y => y == x
      · exact ⟨_, rfl⟩
      · exact ⟨_, rfl⟩
    · have h2 : (k : Int) < o.length := by omega
      simp only [sh139_1, h2, decide_true, cond_true, getI_lt hk, bindS]
      rw [w64_id (by omega) (by omega)]
      cases o[k] == x <;> rfl
  obtain ⟨r, hr⟩ := key
  unfold plc
  rw [hr]; rfl
def pstep (t : Int) (s : List Int × List Int) (m : Int) : List Int × List Int := (swapL s.1 (rgt m).toNat, s.2 ++ [plc (swapL s.1 (rgt m).toNat) t])
theorem path_body (s t : Int) (w : List Int) (hs : 2 ≤ s) (hs2 : s ≤ 12) (hw : w.length ≤ 200) (hall : ∀ x ∈ w, okM s x = true) (k : Nat) (hk : k < w.length) (p : List Int × List Int) (h1 : p.1.length = s.toNat) (h2 : p.2.length = k + 1) :
    sh74_1 w t ((k : Int), p.1, p.2) = some (.inl (((k + 1 : Nat) : Int), (pstep t p w[k]).1, (pstep t p w[k]).2)) ∧
    sh125f137_2 w ((k : Int), p.2, t, p.1) = some (.inl (((k + 1 : Nat) : Int), (pstep t p w[k]).2, t, (pstep t p w[k]).1)) := by
  obtain ⟨o, ov⟩ := p
  simp only at h1 h2
  have hm := hall _ (List.getElem_mem hk)
  obtain ⟨b1, b2⟩ := rgt_bounds hs hs2 hm
  have ha : (rgt w[k]).toNat < o.length := by omega
  have hb : (rgt w[k]).toNat - 1 < o.length := by omega
  have e2 : rgt w[k] - 1 = (((rgt w[k]).toNat - 1 : Nat) : Int) := by omega
  have g1 : getI o (rgt w[k]) = some (o.getD (rgt w[k]).toNat 0) := by
    rw [List.getD_eq_getElem?_getD, List.getElem?_eq_getElem ha]
    exact getI_toNat (by omega) ha
  have g2 : getI o (rgt w[k] - 1) = some (o.getD ((rgt w[k]).toNat - 1) 0) := by
    rw [List.getD_eq_getElem?_getD, List.getElem?_eq_getElem hb, e2]
    exact getI_lt hb
  have hkk : (k : Int) < w.length := by omega
  have hw1 : w64 (rgt w[k] - 1) = rgt w[k] - 1 := w64_id (by omega) (by omega)
  have hn : (rgt w[k] - 1).toNat = (rgt w[k]).toNat - 1 := by omega
  have ec2 : ∃ z, (bif decide (w[k] < 0) then some (o.getD (rgt w[k]).toNat 0) else some (o.getD ((rgt w[k]).toNat - 1) 0)) = some z := by
    cases decide (w[k] < 0) <;> exact ⟨_, rfl⟩
  obtain ⟨z, ec2⟩ := ec2
  have g5 : getI (o.set (rgt w[k] - 1).toNat (o.getD (rgt w[k]).toNat 0)) (rgt w[k]) = some ((o.set (rgt w[k] - 1).toNat (o.getD (rgt w[k]).toNat 0))[(rgt w[k]).toNat]'(by rw [List.length_set]; omega)) :=
    getI_toNat (by omega) (by rw [List.length_set]; omega)
  have hsl : (swapL o (rgt w[k]).toNat).length = o.length := swapL_length _ _
  have happ : appL ov [plc (swapL o (rgt w[k]).toNat) t] = some (ov ++ [plc (swapL o (rgt w[k]).toNat) t]) := appL_ok (by simp only [List.length_cons, List.length_nil]; omega)
  constructor
  · simp only [sh74_1, hkk, decide_true, cond_true, getI_lt hk, bindS, l23Swap_eq o _ b1 (by omega) (by omega), place_eq _ t (show (swapL o (rgt w[k]).toNat).length ≤ 1048576 by omega), happ]
    rw [w64_id (x := (k : Int) + 1) (by omega) (by omega)]
    rfl
  · have hidx := index_same (swapL o (rgt w[k]).toNat) t
    rw [place_eq _ t (show (swapL o (rgt w[k]).toNat).length ≤ 1048576 by omega)] at hidx
    have hsw : (o.set (rgt w[k] - 1).toNat (o.getD (rgt w[k]).toNat 0)).set (rgt w[k]).toNat (o.getD ((rgt w[k]).toNat - 1) 0) = swapL o (rgt w[k]).toNat := by rw [hn]; rfl
    simp only [sh125f137_2, hkk, decide_true, cond_true, getI_lt hk, bindS, rightOf_eq, hw1, g2, g1, ec2, g5, hsw, sh137, hidx, happ]
    rw [w64_id (x := (k : Int) + 1) (by omega) (by omega)]
    rfl
theorem pathOfStrand_total (s : Int) (w : List Int) (t : Int) (h : w.length ≤ 1048576) : ∃ r, sh74 s w t = some r ∧ sh73 s w t = some r ∧ r.1.length ≤ 201 := by
  unfold sh74 sh73
  rw [l23Ok_eq s w h, implValidWord_eq s w h]
  simp only [bindS, sh115, sh136]
  cases hv : validW s w
  · exact ⟨_, rfl, rfl, by simp⟩
  · cases hr : decide (0 ≤ t) && decide (t ≤ w64 (s - 1))
    · exact ⟨_, rfl, rfl, by simp⟩
    · have hlen := validW_len hv
      unfold validW at hv
      simp only [Bool.and_eq_true, decide_eq_true_eq, List.all_eq_true] at hv
      obtain ⟨⟨hs, hs2⟩, _, hall⟩ := hv
      obtain ⟨l0, e0, hl0, hm0⟩ := first_eq s (by omega) (by omega)
      have i1 := iter_fold (sb := sh74_1 w t) w (fun k (p : List Int × List Int) => ((k : Int), p.1, p.2)) (pstep t) (fun p => p.2) (fun k p => p.1.length = s.toNat ∧ p.2.length = k + 1) (l0, [t]) ⟨hl0, rfl⟩ (by omega) (fun k hk p hp => ⟨(path_body s t w hs hs2 hlen hall k hk p hp.1 hp.2).1, by rw [pstep, swapL_length]; exact hp.1, by simp [pstep, hp.2]⟩) (fun p _ => by
        have hd : decide ((w.length : Int) < (w.length : Int)) = false := by simp
        simp only [sh74_1, hd, cond_false])
      have i2 := iter_fold (sb := sh125f137_2 w) w (fun k (p : List Int × List Int) => ((k : Int), p.2, t, p.1)) (pstep t) (fun p => (p.2, t, p.1)) (fun k p => p.1.length = s.toNat ∧ p.2.length = k + 1) (l0, [t]) ⟨hl0, rfl⟩ (by omega) (fun k hk p hp => ⟨(path_body s t w hs hs2 hlen hall k hk p hp.1 hp.2).2, by rw [pstep, swapL_length]; exact hp.1, by simp [pstep, hp.2]⟩) (fun p _ => by
        have hd : decide ((w.length : Int) < (w.length : Int)) = false := by simp
        simp only [sh125f137_2, hd, cond_false])
      have h1 := i1.1
      have h2 := i2.1
      simp only [Int.natCast_zero] at h1 h2
      have e1 : iter (sh125f137_1 s) (0, []) = some l0 := by
        have := e0
        unfold sh130 at this
        have e : iter (sh125f137_1 s) (0, []) = iter (sh130_1 s) (0, []) := rfl
        rw [e]
        cases hh : iter (sh130_1 s) (0, []) with
        | none => rw [hh] at this; cases this
        | some z => rw [hh] at this; exact this
      simp only [Bool.not_true, cond_false, e0, bindS, h1, sh125f137, e1, h2]
      refine ⟨_, rfl, rfl, ?_⟩
      have := i1.2.2
      show (List.foldl (pstep t) _ w).2.length ≤ 201
      omega

/-! plaits -/
def okW (s : Int) (w : List Int) : Prop := ∀ m ∈ w, okM s m = true
theorem okM_of {s m : Int} (hs : 2 ≤ s) (hs2 : s ≤ 12) : okM s m = true ↔ m ≠ 0 ∧ 1 - s ≤ m ∧ m ≤ s - 1 := by
  unfold okM
  simp only [Bool.and_eq_true, Bool.not_eq_true', beq_eq_false_iff_ne, decide_eq_true_eq]
  rw [w64_id (by omega) (by omega), w64_id (by omega) (by omega)]
theorem validW_iff {s : Int} {w : List Int} : validW s w = true ↔ (2 ≤ s ∧ s ≤ 12) ∧ w.length ≤ 200 ∧ ∀ m ∈ w, okM s m = true := by
  unfold validW
  simp only [Bool.and_eq_true, decide_eq_true_eq, List.all_eq_true]
theorem rgt_neg {s m : Int} (hs : 2 ≤ s) (hs2 : s ≤ 12) (h : okM s m = true) : rgt (-m) = rgt m := by
  rw [okM_of hs hs2] at h
  unfold rgt mx
  rw [w64_id (by omega) (by omega), w64_id (by omega) (by omega)]
  split <;> split <;> omega
theorem swapL_swapL {xs : List Int} {k : Nat} (h1 : 1 ≤ k) (h2 : k < xs.length) : swapL (swapL xs k) k = xs := by
  apply List.ext_getElem
  · rw [swapL_length, swapL_length]
  · intro i hi1 hi2
    simp only [swapL, List.getElem_set, List.getD_eq_getElem?_getD, List.getElem?_set, List.length_set]
    by_cases hk : k = i
    · subst hk
      simp only [if_true]
      rw [if_neg (by omega)]
      simp [List.getElem?_eq_getElem hi2, show k - 1 < xs.length by omega]
    · rw [if_neg hk]
      by_cases hk1 : k - 1 = i
      · rw [if_pos hk1]
        subst hk1
        simp [List.getElem?_eq_getElem hi2, h2]
      · rw [if_neg hk1, if_neg hk, if_neg hk1]
/-- The order after a word. -/
def ordW (l0 : List Int) (w : List Int) : List Int := w.foldl (fun o m => swapL o (rgt m).toNat) l0
theorem ordW_snoc (l0 w : List Int) (m : Int) : ordW l0 (w ++ [m]) = swapL (ordW l0 w) (rgt m).toNat := by simp [ordW]
theorem ordW_length (l0 w : List Int) : (ordW l0 w).length = l0.length := by
  unfold ordW
  induction w generalizing l0 with
  | nil => rfl
  | cons a t ih => rw [List.foldl_cons, ih, swapL_length]
/-- A move is put behind moves that are reduced. -/
def red (ys : List Int) (m : Int) : List Int := if ys ≠ [] ∧ ys.getLast? = some (-m) then ys.dropLast else ys ++ [m]
def redW (w : List Int) : List Int := w.foldl red []
theorem redW_snoc (w : List Int) (m : Int) : redW (w ++ [m]) = red (redW w) m := by simp [redW]
theorem list_snoc {T : Type} {xs : List T} (h : xs ≠ []) : ∃ i y, xs = i ++ [y] := ⟨xs.dropLast, xs.getLast h, (List.dropLast_concat_getLast h).symm⟩
theorem red_length (ys : List Int) (m : Int) : (red ys m).length ≤ ys.length + 1 := by
  unfold red
  split
  · rw [List.length_dropLast]; omega
  · simp
theorem snoc_ind {P : List Int → Prop} (h0 : P []) (hs : ∀ w m, P w → P (w ++ [m])) (w : List Int) : P w := by
  have : ∀ n, ∀ w : List Int, w.length = n → P w := by
    intro n
    induction n with
    | zero => intro w hw; rw [List.eq_nil_of_length_eq_zero hw]; exact h0
    | succ n ih =>
      intro w hw
      obtain ⟨i, y, rfl⟩ := list_snoc (xs := w) (by intro h; subst h; simp at hw)
      exact hs i y (ih i (by simpa using hw))
  exact this _ w rfl
theorem redW_length (w : List Int) : (redW w).length ≤ w.length := by
  refine snoc_ind (P := fun w => (redW w).length ≤ w.length) (by simp [redW]) (fun w m ih => ?_) w
  have := red_length (redW w) m
  rw [redW_snoc]; simp; omega
theorem redW_mem (w : List Int) : ∀ x ∈ redW w, x ∈ w := by
  refine snoc_ind (P := fun w => ∀ x ∈ redW w, x ∈ w) (by simp [redW]) (fun w m ih x hx => ?_) w
  rw [redW_snoc] at hx
  unfold red at hx
  split at hx
  · exact List.mem_append_left _ (ih x (List.dropLast_subset _ hx))
  · rcases List.mem_append.1 hx with h | h
    · exact List.mem_append_left _ (ih x h)
    · exact List.mem_append_right _ h
def Irr (ys : List Int) : Prop := redW ys = ys
theorem Irr.init {i : List Int} {y : Int} (h : Irr (i ++ [y])) : Irr i := by
  unfold Irr at h ⊢
  rw [redW_snoc] at h
  unfold red at h
  split at h
  · have h1 := redW_length i
    have h2 := congrArg List.length h
    rw [List.length_dropLast, List.length_append] at h2
    simp at h2; omega
  · exact (List.append_inj' h rfl).1
theorem Irr.red {ys : List Int} (h : Irr ys) (m : Int) : Irr (red ys m) := by
  by_cases hc : ys ≠ [] ∧ ys.getLast? = some (-m)
  · have he : Sh.red ys m = ys.dropLast := by unfold Sh.red; rw [if_pos hc]
    rw [he]
    obtain ⟨i, y, rfl⟩ := list_snoc hc.1
    rw [List.dropLast_concat]
    exact h.init
  · have he : Sh.red ys m = ys ++ [m] := by unfold Sh.red; rw [if_neg hc]
    rw [he]
    unfold Irr at h ⊢
    rw [redW_snoc, h, he]
theorem redW_irr (w : List Int) : Irr (redW w) := by
  refine snoc_ind (P := fun w => Irr (redW w)) rfl (fun w m ih => ?_) w
  rw [redW_snoc]
  exact ih.red m
theorem red_red {ys : List Int} (h : Irr ys) (m : Int) : red (red ys m) (-m) = ys := by
  by_cases hc : ys ≠ [] ∧ ys.getLast? = some (-m)
  · have he : red ys m = ys.dropLast := by unfold red; rw [if_pos hc]
    rw [he]
    obtain ⟨i, y, rfl⟩ := list_snoc hc.1
    have hy : y = -m := by have := hc.2; simpa using this
    subst hy
    rw [List.dropLast_concat]
    have hi := h.init
    unfold Irr at h hi
    rw [redW_snoc, hi] at h
    exact h
  · have he : red ys m = ys ++ [m] := by unfold red; rw [if_neg hc]
    rw [he]
    unfold red
    rw [if_pos ⟨by simp, by simp⟩, List.dropLast_concat]
def invW (w : List Int) : List Int := w.reverse.map (fun m => -m)
theorem invW_snoc (w : List Int) (m : Int) : invW (w ++ [m]) = -m :: invW w := by simp [invW]
theorem red_inv (w : List Int) : (invW w).foldl red (redW w) = [] := by
  refine snoc_ind (P := fun w => (invW w).foldl red (redW w) = []) rfl (fun w m ih => ?_) w
  rw [invW_snoc, redW_snoc, List.foldl_cons, red_red (redW_irr w)]
  exact ih
theorem redW_both (w : List Int) : redW (w ++ invW w) = [] := by
  unfold redW
  rw [List.foldl_append]
  exact red_inv w
theorem ordW_red {s : Int} (hs : 2 ≤ s) (hs2 : s ≤ 12) (l0 : List Int) (hl : l0.length = s.toNat) (w : List Int) (hw : okW s w) : ordW l0 (redW w) = ordW l0 w := by
  revert hw
  refine snoc_ind (P := fun w => okW s w → ordW l0 (redW w) = ordW l0 w) (fun _ => rfl) (fun w m ih hw => ?_) w
  have hw1 : okW s w := fun x hx => hw x (List.mem_append_left _ hx)
  have hm : okM s m = true := hw m (List.mem_append_right _ (List.mem_singleton.2 rfl))
  have hih := ih hw1
  rw [redW_snoc, ordW_snoc, ← hih]
  by_cases hc : redW w ≠ [] ∧ (redW w).getLast? = some (-m)
  · have he : red (redW w) m = (redW w).dropLast := by unfold red; rw [if_pos hc]
    rw [he]
    obtain ⟨i, y, hi⟩ := list_snoc hc.1
    have hy : y = -m := by have := hc.2; rw [hi] at this; simpa using this
    rw [hi, List.dropLast_concat, ordW_snoc, hy, rgt_neg hs hs2 hm, swapL_swapL]
    · have := rgt_bounds hs hs2 hm; omega
    · have := rgt_bounds hs hs2 hm; rw [ordW_length, hl]; omega
  · have he : red (redW w) m = redW w ++ [m] := by unfold red; rw [if_neg hc]
    rw [he, ordW_snoc]
theorem orderAfter_val (s : Int) (w : List Int) (hv : validW s w = true) : ∃ l0, l0.length = s.toNat ∧ (∀ x ∈ l0, 0 ≤ x ∧ x < s) ∧ sh130 s = some l0 ∧ sh64 s w = some (ordW l0 w, 0) := by
  have hlen := validW_len hv
  have hv' := hv
  rw [validW_iff] at hv'
  obtain ⟨⟨hs, hs2⟩, _, hall⟩ := hv'
  obtain ⟨l0, h0, hl0, hm0⟩ := first_eq s (by omega) (by omega)
  refine ⟨l0, hl0, hm0, h0, ?_⟩
  have h23 : sh128 s w = some (ordW l0 w) := by
    unfold sh128
    rw [h0, bindS]
    have hi := iter_fold (sb := sh128_1 w) w (fun k (o : List Int) => ((k : Int), o)) (fun o m => swapL o (rgt m).toNat) (fun o => o) (fun _ o => o.length = s.toNat) l0 hl0 (by omega) (fun k hk o ho => ⟨by
        have h2 : (k : Int) < w.length := by omega
        obtain ⟨b1, b2⟩ := rgt_bounds hs hs2 (hall _ (List.getElem_mem hk))
        simp only [sh128_1, h2, decide_true, cond_true, getI_lt hk, bindS]
        rw [l23Swap_eq o _ b1 (by omega) (by omega), bindS, w64_id (by omega) (by omega)]
        rfl, by rw [swapL_length]; exact ho⟩) (fun o _ => by
        have hd : decide ((w.length : Int) < (w.length : Int)) = false := by simp
        simp only [sh128_1, hd, cond_false])
    have h1 := hi.1
    simp only [Int.natCast_zero] at h1
    rw [h1, bindS]
    rfl
  unfold sh64
  rw [implValidWord_eq s w (by omega), hv]
  simp only [bindS]
  have h2 : sh125f126 s w = some (ordW l0 w) := by
    rw [← h23]
    unfold sh125f126 sh128 sh130
    rw [plait_body]
    show Option.bind (iter (sh130_1 s) _) _ = _
    cases iter (sh130_1 s) (0, []) <;> rfl
  rw [h2]
  rfl
def sumI (l : List Int) : Int := l.foldl (fun a x => a + x) 0
theorem sumI_cons (a : Int) (l : List Int) : sumI (a :: l) = a + sumI l := by
  have key : ∀ (l : List Int) (z : Int), l.foldl (fun a x => a + x) z = z + l.foldl (fun a x => a + x) 0 := by
    intro l
    induction l with
    | nil => intro z; simp
    | cons b t ih => intro z; rw [List.foldl_cons, List.foldl_cons, ih (z + b), ih (0 + b)]; omega
  unfold sumI
  rw [List.foldl_cons, key]
  omega
theorem sumI_set : ∀ (l : List Int) (i : Nat) (x : Int), i < l.length → sumI (l.set i x) = sumI l - l.getD i 0 + x
  | a :: t, 0, x, _ => by rw [List.set_cons_zero, sumI_cons, sumI_cons, List.getD_cons_zero]; omega
  | a :: t, i + 1, x, h => by
    rw [List.set_cons_succ, sumI_cons, sumI_cons, List.getD_cons_succ, sumI_set t i x (by simpa using h)]; omega
theorem sumI_snoc : ∀ (l : List Int) (x : Int), sumI (l ++ [x]) = sumI l + x
  | [], x => by simp [sumI]
  | a :: t, x => by rw [List.cons_append, sumI_cons, sumI_cons, sumI_snoc t x]; omega
theorem sumI_rep : ∀ n : Nat, sumI (List.replicate n 0) = 0
  | 0 => rfl
  | n + 1 => by rw [List.replicate_succ, sumI_cons, sumI_rep n]; rfl
theorem getD_mem {l : List Int} {i : Nat} (h : i < l.length) : l.getD i 0 ∈ l := by rw [List.getD_eq_getElem?_getD, List.getElem?_eq_getElem h]; exact List.getElem_mem h
theorem overs_val (s : Int) (w : List Int) (hv : validW s w = true) : ∃ r, sh66 s w = some (r, 0) ∧ r.length = s.toNat ∧ sumI r = w.length ∧ ∀ x ∈ r, 0 ≤ x ∧ x ≤ 200 := by
  unfold sh66
  have hlen := validW_len hv
  rw [implValidWord_eq s w (by omega), hv]
  rw [validW_iff] at hv
  obtain ⟨⟨hs, hs2⟩, _, hall⟩ := hv
  obtain ⟨l0, e0, hl0, hm0⟩ := first_eq s (by omega) (by omega)
  have emk : mkL s (0 : Int) = some (List.replicate s.toNat 0) := by
    have := mkL_ok (n := s.toNat) (z := (0 : Int)) (by omega)
    rwa [Int.toNat_of_nonneg (by omega)] at this
  have hO : okO s (l0, List.replicate s.toNat 0) ∧ sumI (List.replicate s.toNat 0) = ((0 : Nat) : Int) ∧ ∀ x ∈ List.replicate s.toNat (0 : Int), 0 ≤ x ∧ x ≤ ((0 : Nat) : Int) := ⟨⟨hl0, by simp, hm0⟩, sumI_rep _, fun x hx => by rw [List.eq_of_mem_replicate hx]; simp⟩
  have i2 := iter_fold (sb := sh125f129_2 w) w (fun k (p : List Int × List Int) => ((k : Int), p.2, p.1)) ostep (fun p => (p.2, p.1)) (fun k p => okO s p ∧ sumI p.2 = (k : Int) ∧ ∀ x ∈ p.2, 0 ≤ x ∧ x ≤ (k : Int)) _ hO (by omega) (fun k hk p hp => by
    obtain ⟨hp, hsum, hbd⟩ := hp
    have hm := hall _ (List.getElem_mem hk)
    refine ⟨(overs_body s w hs hs2 hlen hall k hk p hp).2, ostep_ok hs hs2 hm hp, ?_, ?_⟩
    · obtain ⟨b1, b2⟩ := rgt_bounds hs hs2 hm
      obtain ⟨h1, h2, h3⟩ := hp
      have hi := h3 _ (overOf_eq (o := p.1) b1 (by omega)).2.2
      have hlt : (overOf p.1 w[k]).toNat < p.2.length := by omega
      have := hbd _ (getD_mem hlt)
      show sumI (p.2.set (overOf p.1 w[k]).toNat (w64 (p.2.getD (overOf p.1 w[k]).toNat 0 + 1))) = _
      rw [sumI_set _ _ _ hlt, w64_id (by omega) (by omega)]
      omega
    · intro x hx
      obtain ⟨b1, b2⟩ := rgt_bounds hs hs2 hm
      obtain ⟨h1, h2, h3⟩ := hp
      have hi := h3 _ (overOf_eq (o := p.1) b1 (by omega)).2.2
      have hlt : (overOf p.1 w[k]).toNat < p.2.length := by omega
      have h4 := hbd _ (getD_mem hlt)
      have hx' : x ∈ p.2.set (overOf p.1 w[k]).toNat (w64 (p.2.getD (overOf p.1 w[k]).toNat 0 + 1)) := hx
      rcases List.mem_or_eq_of_mem_set hx' with h | h
      · have := hbd x h; omega
      · rw [w64_id (by omega) (by omega)] at h; omega) (fun p _ => by
    have hd : decide ((w.length : Int) < (w.length : Int)) = false := by simp
    simp only [sh125f129_2, hd, cond_false])
  have h2 := i2.1
  simp only [Int.natCast_zero] at h2
  have e1 : iter (sh125f129_1 s) (0, []) = some l0 := by
    have := e0
    unfold sh130 at this
    have e : iter (sh125f129_1 s) (0, []) = iter (sh130_1 s) (0, []) := rfl
    rw [e]
    cases hh : iter (sh130_1 s) (0, []) with
    | none => rw [hh] at this; cases this
    | some z => rw [hh] at this; exact this
  simp only [Bool.not_true, cond_false, emk, bindS, sh125f129, e1, h2]
  exact ⟨_, rfl, i2.2.1.2.1, i2.2.2.1, fun x hx => by have := i2.2.2.2 x hx; omega⟩
theorem inverse_val (s : Int) (w : List Int) (hv : validW s w = true) : sh69 s w = some (invW w, 0) := by
  have hlen := validW_len hv
  unfold sh69
  rw [l23Ok_eq s w (by omega), bindS, hv]
  rw [validW_iff] at hv
  obtain ⟨⟨hs, hs2⟩, _, hall⟩ := hv
  simp only [Bool.not_true, cond_false]
  have hi := iter_steps (sb := sh69_1 w) (fun k => ((w.length : Int) - 1 - k, (w.reverse.take k).map (fun m => -m))) w.length (x := invW w) (by omega) (fun k hk => ?_) ?_
  · simp only [List.take_zero, List.map_nil] at hi
    rw [show ((0 : Nat) : Int) = 0 from rfl, Int.sub_zero] at hi
    rw [w64_id (by omega) (by omega), hi, bindS]
  · have h0 : (0 : Int) ≤ (w.length : Int) - 1 - k := by omega
    have hn : ((w.length : Int) - 1 - k).toNat < w.length := by omega
    have hk' : k < w.reverse.length := by rw [List.length_reverse]; exact hk
    have hg : w[((w.length : Int) - 1 - k).toNat] = w.reverse[k] := by
      rw [List.getElem_reverse]
      congr 1
      omega
    have hm := (okM_of hs hs2).1 (hall _ (List.getElem_mem hn))
    simp only [sh69_1, h0, decide_true, cond_true, getI_toNat h0 hn, bindS]
    rw [appL_ok (by simp only [List.length_map, List.length_take, List.length_cons, List.length_nil]; omega), bindS, w64_id (by omega) (by omega), w64_id (by omega) (by omega), hg, List.take_succ_eq_append_getElem hk', List.map_append]
    simp only [Option.some.injEq, Sum.inl.injEq, Prod.mk.injEq, List.map_cons, List.map_nil]
    refine ⟨by omega, ?_⟩
    rw [Int.zero_sub]
  · have hd : decide ((0 : Int) ≤ (w.length : Int) - 1 - (w.length : Int)) = false := decide_eq_false (by omega)
    simp only [sh69_1, hd, cond_false]
    rw [List.take_of_length_le (by rw [List.length_reverse]; omega)]
    rfl
theorem reduce_val (s : Int) (w : List Int) (hv : validW s w = true) : sh70 s w = some (redW w, 0) := by
  have hlen := validW_len hv
  unfold sh70
  rw [implValidWord_eq s w (by omega), bindS, hv]
  rw [validW_iff] at hv
  obtain ⟨⟨hs, hs2⟩, _, hall⟩ := hv
  simp only [Bool.not_true, cond_false]
  have hi := iter_steps (sb := sh70_1 w) (fun k => ((k : Int), redW (w.take k))) w.length (x := redW w) (by omega) (fun k hk => ?_) ?_
  · simp only [List.take_zero] at hi
    rw [show ((0 : Nat) : Int) = 0 from rfl, show redW [] = [] from rfl] at hi
    rw [hi, bindS]
  · have h2 : (k : Int) < w.length := by omega
    have hm := (okM_of hs hs2).1 (hall _ (List.getElem_mem hk))
    have hrl := redW_length (w.take k)
    rw [List.length_take] at hrl
    rw [List.take_succ_eq_append_getElem hk, redW_snoc]
    generalize redW (w.take k) = ys at *
    simp only [sh70_1, h2, decide_true, cond_true, getI_lt hk, bindS]
    rw [w64_id (x := (k : Int) + 1) (by omega) (by omega), w64_id (x := 0 - w[k]) (by omega) (by omega)]
    by_cases hy : ys = []
    · subst hy
      simp only [List.length_nil]
      rw [show decide ((0 : Int) < ((0 : Nat) : Int)) = false from rfl, cond_false, bindS, cond_false, appL_ok (by simp), bindS, bindS]
      rfl
    · obtain ⟨i, y, rfl⟩ := list_snoc hy
      have hd : decide ((0 : Int) < ((i ++ [y]).length : Int)) = true := decide_eq_true (by simp only [List.length_append, List.length_cons, List.length_nil]; omega)
      have hw : w64 (((i ++ [y]).length : Int) - 1) = (i.length : Int) := by rw [w64_id (by simp only [List.length_append, List.length_cons, List.length_nil]; omega) (by simp only [List.length_append, List.length_cons, List.length_nil] at hrl ⊢; omega)]; simp only [List.length_append, List.length_cons, List.length_nil]; omega
      have hgl : getI (i ++ [y]) (i.length : Int) = some y := by rw [getI_lt (by simp)]; simp
      have htk : takeL (i ++ [y]) (i.length : Int) = some i := by rw [takeL_ok (by simp)]; simp
      rw [hd, cond_true, hw, hgl, bindS, bindS, htk, bindS, appL_ok (by simp only [List.length_append, List.length_cons, List.length_nil] at hrl ⊢; omega), bindS]
      unfold red
      by_cases hc : y = 0 - w[k]
      · rw [beq_iff_eq.2 hc, cond_true, bindS, if_pos ⟨by simp, by simp; omega⟩, List.dropLast_concat]
        rfl
      · rw [beq_eq_false_iff_ne.2 hc, cond_false, bindS, if_neg (by simp; omega)]
        rfl
  · have hd : decide ((w.length : Int) < (w.length : Int)) = false := by simp
    simp only [sh70_1, hd, cond_false, List.take_length]
theorem validW_red {s : Int} {w : List Int} (hv : validW s w = true) : validW s (redW w) = true := by
  rw [validW_iff] at hv ⊢
  exact ⟨hv.1, Nat.le_trans (redW_length w) hv.2.1, fun m hm => hv.2.2 m (redW_mem w m hm)⟩
theorem validW_both {s : Int} {w : List Int} (hv : validW s w = true) (hl : 2 * w.length ≤ 200) : validW s (w ++ invW w) = true := by
  rw [validW_iff] at hv ⊢
  refine ⟨hv.1, by simp [invW]; omega, fun m hm => ?_⟩
  rcases List.mem_append.1 hm with h | h
  · exact hv.2.2 m h
  · unfold invW at h
    rw [List.mem_map] at h
    obtain ⟨x, hx, rfl⟩ := h
    have := (okM_of hv.1.1 hv.1.2).1 (hv.2.2 x (List.mem_reverse.1 hx))
    rw [okM_of hv.1.1 hv.1.2]
    omega
theorem f6ints_eq (xs ys : List Int) (h : xs.length ≤ 1048576) : sh75 xs ys = some (decide (xs = ys)) := by
  unfold sh75
  by_cases hl : xs.length = ys.length
  · have h1 : ((xs.length : Int) != (ys.length : Int)) = false := by simp; omega
    rw [h1, cond_false, iter_eq (xs := xs) (ys := ys) (by omega) hl (fun k hk => ?_) (by simp [sh75_1]), bindS]
    · by_cases he : xs = ys <;> simp [he, elimS]
    · have h2 : (k : Int) < xs.length := by omega
      have h3 : k < ys.length := by omega
      simp only [sh75_1, h2, decide_true, cond_true, getI_lt hk, getI_lt h3, bindS]
      rw [w64_id (by omega) (by omega)]
      by_cases he : xs[k] = ys[k]
      · simp [he]
      · rw [if_neg he, bne_iff_ne.2 he]
        rfl
  · have h1 : ((xs.length : Int) != (ys.length : Int)) = true := by simp; omega
    rw [h1, cond_true]
    have : xs ≠ ys := fun h => hl (by rw [h])
    simp [this]

/-! src -/
/-- Bytes from which is drawn. -/
def srcB (c : List Int) : Prop := ∀ x ∈ c, 0 ≤ x ∧ x ≤ 255
theorem okI_u8 {x : Int} (h : okI .u8 x) : 0 ≤ x ∧ x ≤ 255 := by
  unfold okI Lit.wf at h
  simp only [Bool.and_eq_true, decide_eq_true_eq] at h
  have h1 : IntKind.u8.min = 0 := by decide
  have h2 : IntKind.u8.max = 255 := by decide
  rw [h1, h2] at h
  exact h
theorem srcB_of {c : List Int} (h : ∀ y ∈ c, okI .u8 y) : srcB c := fun x hx => okI_u8 (h x hx)
theorem andI_255 (a : Int) : 0 ≤ andI .u64 a 255 ∧ andI .u64 a 255 ≤ 255 := by
  unfold andI
  have hle : (BitVec.ofInt IntKind.u64.bits a &&& BitVec.ofInt IntKind.u64.bits 255).toNat ≤ 255 := by
    rw [BitVec.toNat_and]
    refine Nat.le_trans Nat.and_le_right ?_
    decide
  rw [IntKind.wrap_u64]
  omega
theorem next_ok (q : Sl00Src) (hc : srcB q.code) (h0 : 0 ≤ q.at_) (h1 : q.at_ ≤ 4611686018427387904) :
    ∃ r, sh180 q = some r ∧ (0 ≤ r.1 ∧ r.1 ≤ 255) ∧ 0 ≤ r.2.1 ∧ r.2.1 ≤ q.at_ + 1 := by
  unfold sh180
  have hw : w64 (q.at_ + 1) = q.at_ + 1 := w64_id (by omega) (by omega)
  have hfin : ∀ b : Int, 0 ≤ b ∧ b ≤ 255 → ∀ s t : Int, ∃ r, (bif decide (w64 (q.at_ + 1) ≤ (q.code.length : Int)) then some (b, w64 (q.at_ + 1), s) else some (w64 (andI .u64 t 255), w64 (q.at_ + 1), s)) = some r ∧ (0 ≤ r.1 ∧ r.1 ≤ 255) ∧ 0 ≤ r.2.1 ∧ r.2.1 ≤ q.at_ + 1 := by
    intro b hb s t
    have ha := andI_255 t
    have hwa : w64 (andI .u64 t 255) = andI .u64 t 255 := w64_id (by omega) (by omega)
    rw [hw, hwa]
    cases decide (q.at_ + 1 ≤ (q.code.length : Int))
    · exact ⟨_, rfl, ha, by simp only; omega, by simp only; omega⟩
    · exact ⟨_, rfl, hb, by simp only; omega, by simp only; omega⟩
  by_cases hl : q.at_ < (q.code.length : Int)
  · have hn : q.at_.toNat < q.code.length := by omega
    have hb := hc _ (List.getElem_mem hn)
    rw [decide_eq_true hl, cond_true, getI_toNat h0 hn, bindS, w64_id (by omega) (by omega), bindS]
    exact hfin _ hb _ _
  · rw [decide_eq_false hl, cond_false, bindS]
    exact hfin 0 (by omega) _ _
theorem pick_ok (q : Sl00Src) (n : Int) (hc : srcB q.code) (h0 : 0 ≤ q.at_) (h1 : q.at_ ≤ 2305843009213693952) :
    ∃ r, sh135 q n = some r ∧ (0 ≤ r.1 ∧ (r.1 < n ∨ r.1 = 0)) ∧ 0 ≤ r.2.1 ∧ r.2.1 ≤ q.at_ + 2 := by
  unfold sh135
  by_cases hn : n ≤ 1
  · rw [decide_eq_true hn, cond_true]
    exact ⟨_, rfl, by simp, h0, by simp only; omega⟩
  · rw [decide_eq_false hn, cond_false]
    obtain ⟨x, e, b, a0, a1⟩ := next_ok q hc h0 (by omega)
    rw [e, bindS]
    have hmod : ∀ z : Int, 0 ≤ z → 0 ≤ z.tmod n ∧ z.tmod n < n := fun z hz => by
      rw [Int.tmod_eq_emod_of_nonneg hz]
      exact ⟨Int.emod_nonneg _ (by omega), Int.emod_lt_of_pos _ (by omega)⟩
    by_cases hb : 200 < n
    · obtain ⟨y, e2, b2, c0, c1⟩ := next_ok ⟨q.code, x.2.1, x.2.2⟩ hc a0 (by simp only; omega)
      rw [decide_eq_true hb, cond_true, e2, bindS, bindS, nzI_ok (by omega), bindS]
      simp only at c1
      rw [w64_id (x := x.1 * 256) (by omega) (by omega), w64_id (by omega) (by omega)]
      have := hmod (x.1 * 256 + y.1) (by omega)
      exact ⟨_, rfl, ⟨this.1, .inl this.2⟩, c0, by simp only; omega⟩
    · rw [decide_eq_false hb, cond_false, bindS, nzI_ok (by omega), bindS]
      have := hmod x.1 b.1
      exact ⟨_, rfl, ⟨this.1, .inl this.2⟩, a0, by simp only; omega⟩
theorem one_ok (q : Sl00Src) (n : Int) (hc : srcB q.code) (h0 : 0 ≤ q.at_) (h1 : q.at_ ≤ 2305843009213693952) :
    ∃ r, sh178 q n = some r ∧ 0 ≤ r.2.1 ∧ r.2.1 ≤ q.at_ + 2 := by
  unfold sh178
  obtain ⟨x, e, _, a0, a1⟩ := pick_ok q n hc h0 h1
  rw [e, bindS]
  exact ⟨_, rfl, a0, a1⟩
theorem among_ok (q : Sl00Src) (l : List Int) (hc : srcB q.code) (h0 : 0 ≤ q.at_) (h1 : q.at_ ≤ 2305843009213693952) (hl : 0 < l.length) :
    ∃ r, sh179 q l = some r ∧ r.1 ∈ l ∧ 0 ≤ r.2.1 ∧ r.2.1 ≤ q.at_ + 2 := by
  unfold sh179
  obtain ⟨x, e, b, a0, a1⟩ := pick_ok q l.length hc h0 h1
  have hx : x.1.toNat < l.length := by omega
  rw [e, bindS, getI_toNat b.1 hx, bindS]
  exact ⟨_, rfl, List.getElem_mem hx, a0, a1⟩
theorem f6big_eq (c : List Int) (h : c.length ≤ 9223372036854775807) : sh62 c = some (decide (4096 < c.length)) := by
  unfold sh62
  congr 1
  simp only [decide_eq_decide]; omega

/-! draw23 -/
theorem draw23_ok (q : Sl00Src) (hc : srcB q.code) (h0 : 0 ≤ q.at_) (h1 : q.at_ ≤ 1099511627776) :
    ∃ r, sh134 q = some r ∧ r.2.1.length ≤ 1000 ∧ 0 ≤ r.2.2.1 ∧ r.2.2.1 ≤ q.at_ + 1000 := by
  unfold sh134
  obtain ⟨x1, e1, b1, a1, c1⟩ := pick_ok q 5 hc h0 (by omega)
  rw [e1, bindS]
  obtain ⟨x4, e4, b4, a4, c4⟩ := pick_ok ⟨q.code, x1.2.1, x1.2.2⟩ 14 hc a1 (by simp only; omega)
  rw [e4, bindS]
  simp only at c4
  have hi := iter_inv (sb := sh134_1 q x1) (s0 := (x4.1, (x4.2.1, x4.2.2), [])) (fun s => 0 ≤ s.1 ∧ s.1 ≤ 13 ∧ 0 ≤ s.2.1.1 ∧ s.2.1.1 ≤ q.at_ + 4 + 10 * (13 - s.1) ∧ (s.2.2.length : Int) ≤ 13 - s.1) (fun s => s.1.toNat)
    (fun s => 0 ≤ s.1.1 ∧ s.1.1 ≤ q.at_ + 134 ∧ s.2.length ≤ 13) ⟨by simp only; omega, by simp only; omega, a4, by simp only; omega, by simp only [List.length_nil]; omega⟩ (by simp only; omega) (by
    rintro ⟨k, ⟨a, sd⟩, w⟩ ⟨i1, i2, i3, i4, i5⟩
    simp only at i1 i2 i3 i4 i5
    by_cases hk : 0 < k
    · left
      simp only [sh134_1, hk, decide_true, cond_true]
      obtain ⟨y1, g1, _, m1, n1⟩ := pick_ok ⟨q.code, a, sd⟩ (w64 (w64 (2 + x1.1) - 1)) hc i3 (by simp only; omega)
      rw [g1, bindS]
      simp only at n1
      obtain ⟨y2, g2, m2, n2⟩ := one_ok ⟨q.code, y1.2.1, y1.2.2⟩ 2 hc m1 (by simp only; omega)
      rw [g2, bindS]
      simp only at n2
      have hj : ∃ z, (bif y2.1 then (some (w64 (0 - (w64 (1 + y1.1))))) else (some (w64 (1 + y1.1)))) = some z := by cases y2.1 <;> exact ⟨_, rfl⟩
      obtain ⟨z, hz⟩ := hj
      rw [hz, bindS]
      have hj2 : ∃ u : Bool × Int × Int, (bif decide (0 < (w.length : Int)) then (Option.bind (sh178 (Sl00Src.mk q.code y2.2.1 y2.2.2) 4) fun x23 => some (x23.1, (x23.2.1, x23.2.2))) else (some (false, (y2.2.1, y2.2.2)))) = some u ∧ (u.1 = true → 0 < w.length) ∧ 0 ≤ u.2.1 ∧ u.2.1 ≤ a + 6 := by
        by_cases hl : 0 < (w.length : Int)
        · obtain ⟨y3, g3, m3, n3⟩ := one_ok ⟨q.code, y2.2.1, y2.2.2⟩ 4 hc m2 (by simp only; omega)
          simp only at n3
          rw [decide_eq_true hl, cond_true, g3, bindS]
          exact ⟨_, rfl, fun _ => by omega, m3, by simp only; omega⟩
        · rw [decide_eq_false hl, cond_false]
          exact ⟨_, rfl, (fun h => by cases h), m2, by simp only; omega⟩
      obtain ⟨u, hu, hu1, hu2, hu3⟩ := hj2
      rw [hu, bindS]
      have hj3 : ∃ v, (bif u.1 then (Option.bind (getI w (w64 ((w.length : Int) - 1))) fun x22 => some (w64 (0 - x22))) else (some z)) = some v := by
        cases hub : u.1
        · exact ⟨_, rfl⟩
        · have := hu1 hub
          rw [cond_true, w64_id (by omega) (by omega), getI_toNat (by omega) (by omega), bindS]
          exact ⟨_, rfl⟩
      obtain ⟨v, hv⟩ := hj3
      rw [hv, bindS, appL_ok (by simp only [List.length_cons, List.length_nil]; omega), bindS, w64_id (by omega) (by omega)]
      refine ⟨_, rfl, ⟨?_, ?_, ?_, ?_, ?_⟩, ?_⟩ <;> simp only [List.length_append, List.length_cons, List.length_nil] <;> omega
    · right
      simp only [sh134_1, hk, decide_false, cond_false]
      refine ⟨_, rfl, ?_, ?_, ?_⟩ <;> simp only <;> omega)
  obtain ⟨b, hb, d1, d2, d3⟩ := hi
  rw [hb, bindS]
  obtain ⟨x26, e26, b26, a26, c26⟩ := pick_ok ⟨q.code, b.1.1, b.1.2⟩ 20 hc d1 (by simp only; omega)
  rw [e26, bindS]
  simp only at c26
  cases h26 : x26.1 == 0
  · rw [cond_false]
    cases h27 : x26.1 == 1
    · rw [cond_false]
      cases h28 : x26.1 == 2
      · rw [cond_false]
        exact ⟨_, rfl, by simp only; omega, a26, by simp only; omega⟩
      · rw [cond_true]
        obtain ⟨x38, e38, b38, a38, c38⟩ := pick_ok ⟨q.code, x26.2.1, x26.2.2⟩ 2 hc a26 (by simp only; omega)
        simp only at c38
        rw [e38, bindS, w64_id (by omega) (by omega)]
        obtain ⟨l, hl, hl2⟩ := iter_inv (sb := sh134_2) (s0 := (200 + x38.1, [])) (fun s => 0 ≤ s.1 ∧ s.1 ≤ 202 ∧ (s.2.length : Int) ≤ 202 - s.1) (fun s => s.1.toNat) (fun l => l.length ≤ 202) ⟨by simp only; omega, by simp only; omega, by simp only [List.length_nil]; omega⟩ (by simp only; omega) (by
          rintro ⟨k, w⟩ ⟨i1, i2, i3⟩
          simp only at i1 i2 i3
          by_cases hk : 0 < k
          · left
            simp only [sh134_2, hk, decide_true, cond_true]
            rw [appL_ok (by simp only [List.length_cons, List.length_nil]; omega), bindS, w64_id (by omega) (by omega)]
            refine ⟨_, rfl, ⟨?_, ?_, ?_⟩, ?_⟩ <;> simp only [List.length_append, List.length_cons, List.length_nil] <;> omega
          · right
            simp only [sh134_2, hk, decide_false, cond_false]
            exact ⟨_, rfl, by omega⟩)
        rw [hl, bindS]
        exact ⟨_, rfl, by simp only; omega, a38, by simp only; omega⟩
    · rw [cond_true]
      by_cases hl : 0 < (b.2.length : Int)
      · obtain ⟨x34, e34, _, a34, c34⟩ := among_ok ⟨q.code, x26.2.1, x26.2.2⟩ [0, w64 (2 + x1.1), w64 (0 - (w64 (2 + x1.1))), (-9223372036854775808)] hc a26 (by simp only; omega) (by simp)
        simp only at c34
        rw [decide_eq_true hl, cond_true, e34, bindS, getI_toNat (by omega) (by simp only [Int.toNat_zero]; omega), bindS, bindS]
        exact ⟨_, rfl, by simp only [List.length_set]; omega, a34, by simp only; omega⟩
      · rw [decide_eq_false hl, cond_false, bindS]
        exact ⟨_, rfl, by simp only; omega, a26, by simp only; omega⟩
  · rw [cond_true]
    obtain ⟨x29, e29, _, a29, c29⟩ := among_ok ⟨q.code, x26.2.1, x26.2.2⟩ [0, 1, 12, 13] hc a26 (by simp only; omega) (by simp)
    simp only at c29
    rw [e29, bindS]
    exact ⟨_, rfl, by simp only; omega, a29, by simp only; omega⟩

/-! FnPlaits -/
theorem law14 (c : List Int) (hl0 : c.length ≤ maxLen) (hk0 : ∀ y ∈ c, okI .u8 y) : sh14 c = some true := by
  unfold sh14
  have hm : maxLen = 9223372036854775807 := rfl
  have hc := srcB_of hk0
  rw [f6big_eq c (by omega), bindS]
  cases hbig : decide (4096 < c.length)
  · rw [cond_false]
    obtain ⟨d, e1, d1, d2, d3⟩ := draw23_ok ⟨c, 0, 0⟩ hc (Int.le_refl 0) (by simp only; omega)
    simp only at d3
    have hdraw : sh63 c = some (d.1, d.2.1) := by
      unfold sh63 sh124 sh133
      simp only [bindS, e1]
    obtain ⟨y1, f1, _, g1, g2⟩ := pick_ok ⟨c, d.2.2.1, d.2.2.2⟩ 8 hc d2 (by simp only; omega)
    obtain ⟨y2, f2, _, _, _⟩ := pick_ok ⟨c, y1.2.1, y1.2.2⟩ 12 hc g1 (by simp only at g2 ⊢; omega)
    have hdraw2 : ∃ t, sh72 c = some (d.1, d.2.1, t) := by
      unfold sh72 sh133
      simp only [bindS, e1, f1, f2]
      exact ⟨_, rfl⟩
    obtain ⟨t, hdraw2⟩ := hdraw2
    rw [hdraw, bindS, hdraw2]
    simp only
    generalize d.1 = n at *
    generalize d.2.1 = w at *
    obtain ⟨r1, a1, a2, a3⟩ := orderAfter_total n w (by omega)
    obtain ⟨r2, b1, b2, b3⟩ := oversOf_total n w (by omega)
    obtain ⟨r3, c1, c3⟩ := inverseWord_total n w (by omega)
    have c2 := inverseWord_same n w (by omega)
    rw [c1] at c2
    obtain ⟨r4, k1, k3⟩ := reduceWord_total n w (by omega)
    have k2 := reduceWord_same n w (by omega)
    rw [k1] at k2
    obtain ⟨r5, m1, m2, m3⟩ := pathOfStrand_total n w t (by omega)
    have v2 : sh77 n w = some (validW n w) := by unfold sh77; rw [l23Ok_eq n w (by omega), bindS]
    simp only [a1, a2, b1, b2, c1, c2, k1, k2, m1, m2, bindS, bne_self_eq_false, Bool.or_self, cond_false, Bool.false_or, f6ints_eq r1.1 r1.1 (by omega), f6ints_eq r2.1 r2.1 (by omega), f6ints_eq r3.1 r3.1 (by omega), f6ints_eq r4.1 r4.1 (by omega), f6ints_eq r5.1 r5.1 (by omega), decide_true, Bool.not_true, implValidWord_eq n w (by omega), v2]
    cases hv : validW n w
    · have e2 : r1.2 = 1 := by
        have := a2
        unfold sh64 at this
        rw [implValidWord_eq n w (by omega), bindS, hv] at this
        have := Option.some.inj this
        rw [← this]
      rw [e2]
      rfl
    · obtain ⟨l0, hl, hlm, hfi, hoa⟩ := orderAfter_val n w hv
      have hlen := validW_len hv
      have hv' := validW_iff.1 hv
      rw [hoa] at a2
      have e2 := Option.some.inj a2
      obtain ⟨ro, ho, hol, hos, hob⟩ := overs_val n w hv
      rw [ho] at b2
      have e3 := Option.some.inj b2
      rw [inverse_val n w hv] at c1
      have e4 := Option.some.inj c1
      rw [reduce_val n w hv] at k1
      have e5 := Option.some.inj k1
      subst e2 e3 e4 e5
      obtain ⟨l1, hl1, _, hfi1, hoa1⟩ := orderAfter_val n (redW w) (validW_red hv)
      rw [hfi] at hfi1
      have e6 := Option.some.inj hfi1
      subst e6
      have hsum : iter (sh14_1 (ro, 0)) (0, 0) = some (w.length : Int) := by
        have hle : ∀ k, k ≤ ro.length → 0 ≤ sumI (ro.take k) ∧ sumI (ro.take k) ≤ 200 * k := by
          intro k
          induction k with
          | zero => intro _; simp [sumI]
          | succ k ih =>
            intro hk
            have h1 := ih (by omega)
            have h2 := hob _ (List.getElem_mem (show k < ro.length by omega))
            rw [List.take_succ_eq_append_getElem (by omega), sumI_snoc]
            omega
        have hi := iter_steps (sb := sh14_1 (ro, 0)) (fun k => (sumI (ro.take k), (k : Int))) ro.length (x := (w.length : Int)) (by omega) (fun k hk => ?_) ?_
        · simpa [sumI] using hi
        · have h2 : (k : Int) < ro.length := by omega
          have h3 := hle k (by omega)
          have h4 := hob _ (List.getElem_mem hk)
          simp only [sh14_1, h2, decide_true, cond_true, getI_lt hk, bindS]
          rw [w64_id (by omega) (by omega), w64_id (by omega) (by omega), List.take_succ_eq_append_getElem hk, sumI_snoc]
          rfl
        · have hd : decide ((ro.length : Int) < (ro.length : Int)) = false := by simp
          simp only [sh14_1, hd, cond_false, List.take_length, hos]
      have hrl := redW_length w
      have hol2 : (ordW l0 w).length ≤ 1048576 := by rw [ordW_length, hl]; omega
      have hor := ordW_red hv'.1.1 hv'.1.2 l0 hl w hv'.2.2
      have hrr : redW (redW w) = redW w := redW_irr w
      simp only [bne_self_eq_false, cond_false, hsum, bindS, hoa1, reduce_val n (redW w) (validW_red hv), hor, hrr, Bool.or_self, Bool.false_or, f6ints_eq _ _ hol2, f6ints_eq (redW w) (redW w) (by omega), decide_true, Bool.not_true]
      by_cases h2 : 2 * w.length ≤ 200
      · have hd : decide (200 < w64 (2 * (w.length : Int))) = false := by rw [w64_id (by omega) (by omega)]; exact decide_eq_false (by omega)
        have hil : (invW w).length = w.length := by simp [invW]
        rw [hd, cond_false, appL_ok (by simp only [List.length_nil]; omega), bindS, List.nil_append, appL_ok (by omega), bindS, reduce_val n _ (validW_both hv h2), redW_both]
        rfl
      · have hd : decide (200 < w64 (2 * (w.length : Int))) = true := by rw [w64_id (by omega) (by omega)]; exact decide_eq_true (by omega)
        rw [hd]; rfl
  · rfl
end Go.Sh
