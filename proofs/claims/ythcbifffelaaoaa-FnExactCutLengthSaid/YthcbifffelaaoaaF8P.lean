/- Plain laws: what the shallow functions come to. -/
import Derived.Test.YthcbifffelaaoaaF8W0
namespace Go.Sh
open Go Go.RowKit

/-! iters -/
theorem w64_lo (x : Int) : -9223372036854775808 ≤ w64 x := by
  have := IntKind.wrap_i64 x
  show _ ≤ IntKind.i64.wrap x
  omega
theorem w64_hi (x : Int) : w64 x ≤ 9223372036854775807 := by
  have := IntKind.wrap_i64 x
  show IntKind.i64.wrap x ≤ _
  omega
theorem nzI_ok {a : Int} (h : a ≠ 0) : nzI a = some a := by simp [nzI, h]

/-- The loop that looks for the first element that passes. -/
theorem iter_find {T : Type} {sb : Int → Option (Int ⊕ (Unit ⊕ Int))} {xs : List T} {p : T → Bool} (hl : xs.length < 1099511627776)
    (hsb : ∀ (k : Nat) (h : k < xs.length), sb (k : Int) = if p xs[k] = true then some (.inr (.inr (k : Int))) else some (.inl ((k : Int) + 1))) (he : sb (xs.length : Int) = some (.inr (.inl ()))) :
    iter sb 0 = some (if xs.any p = true then .inr (xs.findIdx p : Int) else .inl ()) := by
  have h := iter_res (sb := sb) (fun k => (k : Int)) (fun k => if (xs.drop k).any p = true then (.inr (k + (xs.drop k).findIdx p : Nat) : Unit ⊕ Int) else .inl ()) xs.length (by omega) (fun k hk => ?_) (by
    rw [he, List.drop_of_length_le (Nat.le_refl _)]; simp)
  · simpa using h
  · rw [hsb k hk, List.drop_eq_getElem_cons hk]
    by_cases hx : p xs[k] = true
    · right
      rw [if_pos hx]
      simp only [List.any_cons, hx, Bool.true_or, if_true, List.findIdx_cons, cond_true, Nat.add_zero]
    · left
      rw [if_neg hx]
      refine ⟨by simp, ?_⟩
      have hx' : p xs[k] = false := by simpa using hx
      simp only [List.any_cons, hx', Bool.false_or, List.findIdx_cons, cond_false]
      split <;> simp
      omega

theorem iterN_congr {σ ρ : Type} {sb1 sb2 : σ → Option (σ ⊕ ρ)} (I : σ → Prop) (hs : ∀ s, I s → sb1 s = sb2 s ∧ ∀ s', sb2 s = some (.inl s') → I s') : ∀ (n : Nat) (s : σ), I s → iterN sb1 n s = iterN sb2 n s
  | 0, _, _ => rfl
  | n + 1, s, h => by
    obtain ⟨h1, h2⟩ := hs s h
    simp only [iterN, h1]
    cases hb : sb2 s with
    | none => rfl
    | some o =>
      cases o with
      | inl s' => exact iterN_congr I hs n s' (h2 s' hb)
      | inr x => rfl
/-- Two loops whose bodies agree where the invariant holds. -/
theorem iter_congr {σ ρ : Type} {sb1 sb2 : σ → Option (σ ⊕ ρ)} (I : σ → Prop) {s0 : σ} (h0 : I s0) (hs : ∀ s, I s → sb1 s = sb2 s ∧ ∀ s', sb2 s = some (.inl s') → I s') : iter sb1 s0 = iter sb2 s0 :=
  iterN_congr I hs FUEL s0 h0

/-- A loop over a list, as a fold. -/
theorem iter_fold {T σ S ρ : Type} {sb : S → Option (S ⊕ ρ)} (xs : List T) (st : Nat → σ → S) (g : σ → T → σ) (h : σ → ρ) (I : Nat → σ → Prop) (s0 : σ) (h0 : I 0 s0) (hl : xs.length < 1099511627776)
    (hsb : ∀ (k : Nat) (hk : k < xs.length) s, I k s → sb (st k s) = some (.inl (st (k + 1) (g s xs[k]))) ∧ I (k + 1) (g s xs[k])) (he : ∀ s, I xs.length s → sb (st xs.length s) = some (.inr (h s))) :
    iter sb (st 0 s0) = some (h (xs.foldl g s0)) ∧ I xs.length (xs.foldl g s0) := by
  have hI : ∀ k, k ≤ xs.length → I k ((xs.take k).foldl g s0) := by
    intro k
    induction k with
    | zero => intro _; simpa using h0
    | succ k ih =>
      intro hk
      rw [List.take_succ_eq_append_getElem (by omega), List.foldl_append]
      exact (hsb k (by omega) _ (ih (by omega))).2
  have hlast := hI xs.length (Nat.le_refl _)
  rw [List.take_length] at hlast
  refine ⟨?_, hlast⟩
  refine iter_steps (fun k => st k ((xs.take k).foldl g s0)) xs.length (by omega) (fun k hk => ?_) (by rw [List.take_length]; exact he _ hlast)
  rw [(hsb k hk _ (hI k (by omega))).1, List.take_succ_eq_append_getElem hk, List.foldl_append]
  rfl

/-- The greater one. -/
def mx (a b : Int) : Int := if a < b then b else a
def mn (a b : Int) : Int := if b < a then b else a
theorem mx_comm' (a b : Int) : (if b < a then a else b) = mx a b := by unfold mx; split <;> split <;> omega

/-! toolmoves -/
theorem szToolMoveS_eq (xs : List SToolMove) (h : xs.length ≤ 9223372036854775807) : sh32 xs 1048576 = some (if xs.length ≤ 1048576 then (1048576 - xs.length : Int) else -1) := by
  unfold sh32
  rw [w64_id (by omega) (by omega)]
  by_cases hl : xs.length ≤ 1048576
  · rw [if_pos hl, show decide ((1048576 : Int) - (xs.length : Int) < 0) = false from decide_eq_false (by omega)]; rfl
  · rw [if_neg hl, show decide ((1048576 : Int) - (xs.length : Int) < 0) = true from decide_eq_true (by omega)]; rfl

theorem toToolMoveS_eq (xs : List SToolMove) (h : xs.length ≤ 1048576) : sh34 xs = some xs := by
  unfold sh34
  rw [mkL_ok (by omega), bindS, iter_copy (xs := xs) (by omega) (fun i ys => by simp only [sh34_1, sh61, bindS]), bindS]

theorem eqToolMove_eq (p q : SToolMove) : sh63 p q = some (decide (p = q)) := by
  unfold sh63
  cases p with
  | mk a b e =>
    cases q with
    | mk c d f =>
      show (bif a != c then some false else (bif b != d then some false else (bif e != f then some false else some true))) = _
      by_cases h1 : a = c
      · subst h1
        rw [bne_self_eq_false, cond_false]
        by_cases h2 : b = d
        · subst h2
          rw [bne_self_eq_false, cond_false]
          by_cases h3 : e = f
          · subst h3; rw [bne_self_eq_false]; simp
          · rw [bne_iff_ne.2 h3]; simp [h3]
        · rw [bne_iff_ne.2 h2]; simp [h2]
      · rw [bne_iff_ne.2 h1]; simp [h1]

theorem eqToolMoveS_eq (xs ys : List SToolMove) (h : xs.length ≤ 1048576) : sh36 xs ys = some (decide (xs = ys)) := by
  unfold sh36
  by_cases hl : xs.length = ys.length
  · have h1 : ((xs.length : Int) != (ys.length : Int)) = false := by simp; omega
    rw [h1, cond_false, iter_eq (xs := xs) (ys := ys) (by omega) hl (fun k hk => ?_) (by simp [sh36_1]), bindS]
    · by_cases he : xs = ys <;> simp [he, elimS]
    · have h2 : (k : Int) < xs.length := by omega
      have h3 : k < ys.length := by omega
      simp only [sh36_1, h2, decide_true, cond_true, getI_lt hk, getI_lt h3, bindS, eqToolMove_eq]
      rw [w64_id (by omega) (by omega)]
      by_cases he : xs[k] = ys[k]
      · simp [he]
      · rw [if_neg he, decide_eq_false he]
        rfl
  · have h1 : ((xs.length : Int) != (ys.length : Int)) = true := by simp; omega
    rw [h1, cond_true]
    have : xs ≠ ys := fun h => hl (by rw [h])
    simp [this]

/-! max -/
theorem l00Max_eq (a b : Int) : sh77 a b = some (mx a b) := by
  unfold sh77
  rw [← mx_comm']
  by_cases h : b < a <;> simp [h]

/-! lengths -/
def coB (x : Int) : Bool := decide (-100000 ≤ x) && decide (x ≤ 100000)
def moveB (m : SToolMove) : Bool := (coB m.X && coB m.Y) && (decide (-500 ≤ m.Z) && decide (m.Z ≤ 500))
def movesB (q : List SToolMove) : Bool := q.all moveB && decide (q.length ≤ 700)

theorem l22Ok_eq (q : List SToolMove) (h : q.length ≤ 1048576) : sh59 q = some (movesB q) := by
  unfold sh59 movesB
  rw [iter_all (xs := q) (p := moveB) (r := false) (by omega) (fun k hk => ?_) (by simp [sh59_1]), bindS]
  · cases ha : q.all moveB
    · simp [elimS]
    · simp only [elimS, if_true, Bool.true_and]
      congr 1
      simp only [decide_eq_decide]; omega
  · have h2 : (k : Int) < q.length := by omega
    simp only [sh59_1, sh52, h2, decide_true, cond_true, getI_lt hk, bindS]
    rw [w64_id (x := (k : Int) + 1) (by omega) (by omega)]
    unfold moveB coB
    cases h0 : decide (-100000 ≤ q[k].X) && decide (q[k].X ≤ 100000) <;> cases h1 : decide (-100000 ≤ q[k].Y) && decide (q[k].Y ≤ 100000) <;> cases h3 : decide (-500 ≤ q[k].Z) && decide (q[k].Z ≤ 500) <;> rfl

theorem validMoves_eq (q : List SToolMove) (h : q.length ≤ 1048576) : sh82 q = some (movesB q) := by
  unfold sh82 movesB
  rw [iter_all (xs := q) (p := moveB) (r := false) (by omega) (fun k hk => ?_) (by simp [sh82_1]), bindS]
  · cases ha : q.all moveB
    · simp [elimS]
    · simp only [elimS, if_true, Bool.true_and]
      congr 1
      simp only [decide_eq_decide]; omega
  · have h2 : (k : Int) < q.length := by omega
    simp only [sh82_1, sh80, sh51, h2, decide_true, cond_true, getI_lt hk, bindS]
    rw [w64_id (x := (k : Int) + 1) (by omega) (by omega)]
    unfold moveB coB
    cases h0 : decide (-100000 ≤ q[k].X) && decide (q[k].X ≤ 100000) <;> cases h1 : decide (-100000 ≤ q[k].Y) && decide (q[k].Y ≤ 100000) <;> cases h3 : decide (-500 ≤ q[k].Z) && decide (q[k].Z ≤ 500) <;> rfl

theorem movesB_len {q : List SToolMove} (h : movesB q = true) : q.length ≤ 700 := by
  unfold movesB at h
  simp only [Bool.and_eq_true, decide_eq_true_eq] at h
  exact h.2

def dst (a b : Int) : Int := mx (w64 (a - b)) (w64 (b - a))
theorem l10Away_eq (a b : Int) : sh54 a b = some (dst a b) := by
  unfold sh54
  rw [l00Max_eq]; rfl
theorem distance_eq (a b : Int) : sh83 a b = some (dst a b) := rfl
def away (p q : SToolMove) : Int := mx (mx (dst p.X q.X) (dst p.Y q.Y)) (dst p.Z q.Z)
theorem l22Away_eq (p q : SToolMove) : sh81 p q = some (away p q) := by
  unfold sh81 away
  simp only [l10Away_eq, bindS, l00Max_eq]
  congr 1
  unfold mx
  repeat' split
  all_goals omega

theorem length_loop (q : List SToolMove) (b : Bool) (s i : Int) (h1 : 1 ≤ i) (h2 : i ≤ q.length) (hq : q.length ≤ 700) :
    sh60_1 q b (s, i) = sh62_1 q b (s, i) ∧ ((i < q.length ∧ ∃ s', sh62_1 q b (s, i) = some (.inl (s', i + 1))) ∨ (∃ x, sh62_1 q b (s, i) = some (.inr x))) := by
  by_cases hi : i < q.length
  · obtain ⟨k, rfl⟩ : ∃ k : Nat, i = k := ⟨i.toNat, by omega⟩
    have hk : k < q.length := by omega
    have hk1 : k - 1 < q.length := by omega
    have hw : w64 ((k : Int) - 1) = ((k - 1 : Nat) : Int) := by rw [w64_id (by omega) (by omega)]; omega
    simp only [sh60_1, sh62_1, hi, decide_true, cond_true, hw, getI_lt hk, getI_lt hk1, bindS, l22Away_eq, distance_eq]
    rw [w64_id (x := (k : Int) + 1) (by omega) (by omega)]
    cases decide (q[k - 1].Z < 0) <;> cases decide (q[k].Z < 0) <;> cases b <;> exact ⟨rfl, .inl ⟨trivial, _, rfl⟩⟩
  · have hd : decide (i < (q.length : Int)) = false := decide_eq_false hi
    simp only [sh60_1, sh62_1, hd, cond_false]
    exact ⟨trivial, .inr ⟨_, rfl⟩⟩

theorem lengthOf_total (q : List SToolMove) (b : Bool) (h : q.length ≤ 1048576) : ∃ r, sh62 q b = some r ∧ (Option.bind (sh59 q) fun x1 => bif !x1 then (some (0, 1)) else (Option.bind (sh60 q b) fun x2 => some (x2, 0))) = some r := by
  unfold sh62 sh60
  rw [l22Ok_eq q h, validMoves_eq q h]
  simp only [bindS]
  cases hp : movesB q
  · exact ⟨_, rfl, rfl⟩
  · have hl := movesB_len hp
    by_cases h1 : 1 ≤ q.length
    · have hc := iter_congr (sb1 := sh60_1 q b) (sb2 := sh62_1 q b) (fun (s : Int × Int) => 1 ≤ s.2 ∧ s.2 ≤ q.length) (s0 := (0, 1)) (by simp only; omega) (by
        rintro ⟨s, i⟩ ⟨h1, h2⟩
        obtain ⟨h3, h4⟩ := length_loop q b s i h1 h2 hl
        refine ⟨h3, fun s' hs => ?_⟩
        rcases h4 with ⟨h4, t, ht⟩ | ⟨x, hx⟩
        · rw [ht] at hs; cases hs; exact ⟨by simp only; omega, by simp only; omega⟩
        · rw [hx] at hs; cases hs)
      obtain ⟨x, hx, _⟩ := iter_inv (sb := sh62_1 q b) (fun (s : Int × Int) => 1 ≤ s.2 ∧ s.2 ≤ q.length) (fun s => (q.length - s.2).toNat) (fun _ => True) (s0 := (0, 1)) (by simp only; omega) (by simp only; omega) (by
        rintro ⟨s, i⟩ ⟨h1, h2⟩
        rcases (length_loop q b s i h1 h2 hl).2 with ⟨h4, t, ht⟩ | ⟨x, hx⟩
        · exact .inl ⟨_, ht, ⟨by simp only; omega, by simp only; omega⟩, by simp only; omega⟩
        · exact .inr ⟨_, hx, trivial⟩)
      simp only [Bool.not_true, cond_false, hc, hx, bindS]
      exact ⟨_, rfl, rfl⟩
    · have h0 : q = [] := List.eq_nil_of_length_eq_zero (by omega)
      subst h0
      have e1 : iter (sh60_1 [] b) (0, 1) = some 0 := iter_steps (fun _ => (0, 1)) 0 (by omega) (fun k hk => by omega) rfl
      have e2 : iter (sh62_1 [] b) (0, 1) = some 0 := iter_steps (fun _ => (0, 1)) 0 (by omega) (fun k hk => by omega) rfl
      simp only [Bool.not_true, cond_false, e1, e2, bindS]
      exact ⟨_, rfl, rfl⟩

/-! FnExactCutLength -/
theorem law8 (q : List SToolMove) (hl0 : q.length ≤ maxLen) : sh8 q = some true := by
  unfold sh8
  have hm : maxLen = 9223372036854775807 := rfl
  rw [szToolMoveS_eq q (by omega), bindS]
  by_cases h : q.length ≤ 1048576
  · obtain ⟨r, h1, h2⟩ := lengthOf_total q true h
    have h3 : sh33 q = some r := h2
    have h4 : sh35 q = some r := by unfold sh35; rw [h1]; rfl
    have hd : decide ((1048576 : Int) - (q.length : Int) < 0) = false := decide_eq_false (by omega)
    simp only [if_pos h, hd, cond_false, toToolMoveS_eq q h, bindS, h3, h4, bne_self_eq_false, Bool.or_self, eqToolMoveS_eq q q h, decide_true, Bool.not_true]
  · rw [if_neg h]; rfl
end Go.Sh
