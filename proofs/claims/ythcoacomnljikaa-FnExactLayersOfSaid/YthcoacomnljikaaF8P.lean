/- Plain laws: what the shallow functions come to. -/
import Derived.Test.YthcoacomnljikaaF8W0
set_option linter.unusedVariables false
set_option linter.unusedSimpArgs false
namespace Go.Sh
open Go Go.RowKit

/-! iters -/
theorem w64_lo (x : Int) : -9223372036854775808 ≤ w64 x := by
  have := IntKind.wrap_i64 x
  show _ ≤ IntKind.i64.wrap x
  omega
theorem w64_hi (x : Int) : w64 x ≤ 9223372036854775807 := by
  have := IntKind.wrap_i64 x
  show IntKind.i64.wrap x ≤ _
  omega
theorem getI_toNat {T : Type} {xs : List T} {i : Int} (h0 : 0 ≤ i) (h : i.toNat < xs.length) : getI xs i = some xs[i.toNat] := by
  unfold getI; rw [if_pos h0]; exact List.getElem?_eq_getElem h
theorem nzI_ok {a : Int} (h : a ≠ 0) : nzI a = some a := by simp [nzI, h]

/-- The loop that looks for the first element that passes. -/
theorem iter_find {T : Type} {sb : Int → Option (Int ⊕ (Unit ⊕ Int))} {xs : List T} {p : T → Bool} (hl : xs.length < 1099511627776)
    (hsb : ∀ (k : Nat) (h : k < xs.length), sb (k : Int) = if p xs[k] = true then some (.inr (.inr (k : Int))) else some (.inl ((k : Int) + 1))) (he : sb (xs.length : Int) = some (.inr (.inl ()))) :
    iter sb 0 = some (if xs.any p = true then .inr (xs.findIdx p : Int) else .inl ()) := by
  have h := iter_res (sb := sb) (fun k => (k : Int)) (fun k => if (xs.drop k).any p = true then (.inr (k + (xs.drop k).findIdx p : Nat) : Unit ⊕ Int) else .inl ()) xs.length (by omega) (fun k hk => ?_) (by
    rw [he, List.drop_of_length_le (Nat.le_refl _)]; simp)
  · simpa using h
  · rw [hsb k hk, List.drop_eq_getElem_cons hk]
    by_cases hx : p xs[k] = true
    · right
      rw [if_pos hx]
      simp only [List.any_cons, hx, Bool.true_or, if_true, List.findIdx_cons, cond_true, Nat.add_zero]
    · left
      rw [if_neg hx]
      refine ⟨by simp, ?_⟩
      have hx' : p xs[k] = false := by simpa using hx
      simp only [List.any_cons, hx', Bool.false_or, List.findIdx_cons, cond_false]
      split <;> simp
      omega

theorem iterN_congr {σ ρ : Type} {sb1 sb2 : σ → Option (σ ⊕ ρ)} (I : σ → Prop) (hs : ∀ s, I s → sb1 s = sb2 s ∧ ∀ s', sb2 s = some (.inl s') → I s') : ∀ (n : Nat) (s : σ), I s → iterN sb1 n s = iterN sb2 n s
  | 0, _, _ => rfl
  | n + 1, s, h => by
    obtain ⟨h1, h2⟩ := hs s h
    simp only [iterN, h1]
    cases hb : sb2 s with
    | none => rfl
    | some o =>
      cases o with
      | inl s' => exact iterN_congr I hs n s' (h2 s' hb)
      | inr x => rfl
/-- Two loops whose bodies agree where the invariant holds. -/
theorem iter_congr {σ ρ : Type} {sb1 sb2 : σ → Option (σ ⊕ ρ)} (I : σ → Prop) {s0 : σ} (h0 : I s0) (hs : ∀ s, I s → sb1 s = sb2 s ∧ ∀ s', sb2 s = some (.inl s') → I s') : iter sb1 s0 = iter sb2 s0 :=
  iterN_congr I hs FUEL s0 h0

/-- A loop over a list, as a fold. -/
theorem iter_fold {T σ S ρ : Type} {sb : S → Option (S ⊕ ρ)} (xs : List T) (st : Nat → σ → S) (g : σ → T → σ) (h : σ → ρ) (I : Nat → σ → Prop) (s0 : σ) (h0 : I 0 s0) (hl : xs.length < 1099511627776)
    (hsb : ∀ (k : Nat) (hk : k < xs.length) s, I k s → sb (st k s) = some (.inl (st (k + 1) (g s xs[k]))) ∧ I (k + 1) (g s xs[k])) (he : ∀ s, I xs.length s → sb (st xs.length s) = some (.inr (h s))) :
    iter sb (st 0 s0) = some (h (xs.foldl g s0)) ∧ I xs.length (xs.foldl g s0) := by
  have hI : ∀ k, k ≤ xs.length → I k ((xs.take k).foldl g s0) := by
    intro k
    induction k with
    | zero => intro _; simpa using h0
    | succ k ih =>
      intro hk
      rw [List.take_succ_eq_append_getElem (by omega), List.foldl_append]
      exact (hsb k (by omega) _ (ih (by omega))).2
  have hlast := hI xs.length (Nat.le_refl _)
  rw [List.take_length] at hlast
  refine ⟨?_, hlast⟩
  refine iter_steps (fun k => st k ((xs.take k).foldl g s0)) xs.length (by omega) (fun k hk => ?_) (by rw [List.take_length]; exact he _ hlast)
  rw [(hsb k hk _ (hI k (by omega))).1, List.take_succ_eq_append_getElem hk, List.foldl_append]
  rfl

/-- The greater one. -/
def mx (a b : Int) : Int := if a < b then b else a
def mn (a b : Int) : Int := if b < a then b else a
theorem mx_comm' (a b : Int) : (if b < a then a else b) = mx a b := by unfold mx; split <;> split <;> omega
theorem foldl_snoc {α β : Type} (f : α → β) : ∀ (xs : List α) (a : List β), xs.foldl (fun acc m => acc ++ [f m]) a = a ++ xs.map f
  | [], a => by simp
  | x :: xs, a => by rw [List.foldl_cons, foldl_snoc f xs]; simp

/-! toolmoves -/
theorem szToolMoveS_eq (xs : List SToolMove) (h : xs.length ≤ 9223372036854775807) : sh38 xs 1048576 = some (if xs.length ≤ 1048576 then (1048576 - xs.length : Int) else -1) := by
  unfold sh38
  rw [w64_id (by omega) (by omega)]
  by_cases hl : xs.length ≤ 1048576
  · rw [if_pos hl, show decide ((1048576 : Int) - (xs.length : Int) < 0) = false from decide_eq_false (by omega)]; rfl
  · rw [if_neg hl, show decide ((1048576 : Int) - (xs.length : Int) < 0) = true from decide_eq_true (by omega)]; rfl

theorem toToolMoveS_eq (xs : List SToolMove) (h : xs.length ≤ 1048576) : sh40 xs = some xs := by
  unfold sh40
  rw [mkL_ok (by omega), bindS, iter_copy (xs := xs) (by omega) (fun i ys => by simp only [sh40_1, sh86, bindS]), bindS]

theorem eqToolMove_eq (p q : SToolMove) : sh88 p q = some (decide (p = q)) := by
  unfold sh88
  cases p with
  | mk a b e =>
    cases q with
    | mk c d f =>
      show (bif a != c then some false else (bif b != d then some false else (bif e != f then some false else some true))) = _
      by_cases h1 : a = c
      · subst h1
        rw [bne_self_eq_false, cond_false]
        by_cases h2 : b = d
        · subst h2
          rw [bne_self_eq_false, cond_false]
          by_cases h3 : e = f
          · subst h3; rw [bne_self_eq_false]; simp
          · rw [bne_iff_ne.2 h3]; simp [h3]
        · rw [bne_iff_ne.2 h2]; simp [h2]
      · rw [bne_iff_ne.2 h1]; simp [h1]

theorem eqToolMoveS_eq (xs ys : List SToolMove) (h : xs.length ≤ 1048576) : sh42 xs ys = some (decide (xs = ys)) := by
  unfold sh42
  by_cases hl : xs.length = ys.length
  · have h1 : ((xs.length : Int) != (ys.length : Int)) = false := by simp; omega
    rw [h1, cond_false, iter_eq (xs := xs) (ys := ys) (by omega) hl (fun k hk => ?_) (by simp [sh42_1]), bindS]
    · by_cases he : xs = ys <;> simp [he, elimS]
    · have h2 : (k : Int) < xs.length := by omega
      have h3 : k < ys.length := by omega
      simp only [sh42_1, h2, decide_true, cond_true, getI_lt hk, getI_lt h3, bindS, eqToolMove_eq]
      rw [w64_id (by omega) (by omega)]
      by_cases he : xs[k] = ys[k]
      · simp [he]
      · rw [if_neg he, decide_eq_false he]
        rfl
  · have h1 : ((xs.length : Int) != (ys.length : Int)) = true := by simp; omega
    rw [h1, cond_true]
    have : xs ≠ ys := fun h => hl (by rw [h])
    simp [this]

/-! mark_moves -/
/-- The numbers that are laid into a result of moves of a tool. -/
def marksM (m : Int) (n : Nat) : List SToolMove := (List.range n).map fun (i : Nat) => ⟨m + 3 * (i : Int), m + 3 * (i : Int) + 1, m + 3 * (i : Int) + 2⟩
theorem marksM_length (m : Int) (n : Nat) : (marksM m n).length = n := by simp [marksM]
theorem marksM_get (m : Int) (n k : Nat) (h : k < n) : (marksM m n)[k]'(by rw [marksM_length]; exact h) = ⟨m + 3 * k, m + 3 * k + 1, m + 3 * k + 2⟩ := by simp [marksM]
theorem marksM_succ (m : Int) (k : Nat) : marksM m (k + 1) = marksM m k ++ [⟨m + 3 * k, m + 3 * k + 1, m + 3 * k + 2⟩] := by simp [marksM, List.range_succ]

theorem markMoves_eq (xs : List SToolMove) (m : Int) (h0 : 0 ≤ m) (h1 : m ≤ 1099511627776) (h : xs.length ≤ 1099511627776) : sh43 xs m = some (m + 3 * xs.length, marksM m xs.length) := by
  unfold sh43
  have hi := iter_steps (sb := sh43_1 xs) (fun k => (m + 3 * (k : Int), (k : Int), marksM m k ++ xs.drop k)) xs.length (x := (m + 3 * xs.length, marksM m xs.length)) (by omega) (fun k hk => ?_) ?_
  · simp only [List.drop_zero] at hi
    rw [show marksM m 0 ++ xs = xs from rfl] at hi
    simp only [Int.natCast_zero, Int.mul_zero, Int.add_zero] at hi
    rw [hi, bindS]
  · have h2 : (k : Int) < xs.length := by omega
    have hl : k < (marksM m k ++ xs.drop k).length := by rw [List.length_append, marksM_length, List.length_drop]; omega
    have hl2 : ∀ y, k < ((marksM m k ++ xs.drop k).set k y).length := fun y => by rw [List.length_set]; exact hl
    simp only [sh43_1, h2, decide_true, cond_true, getI_lt hl, getI_lt (hl2 _), bindS, Int.toNat_natCast, List.getElem_set_self, List.set_set]
    rw [w64_id (x := m + 3 * (k : Int) + 1) (by omega) (by omega), w64_id (x := m + 3 * (k : Int) + 1 + 1) (by omega) (by omega), w64_id (x := m + 3 * (k : Int) + 1 + 1 + 1) (by omega) (by omega), w64_id (x := (k : Int) + 1) (by omega) (by omega), List.set_append, if_neg (by rw [marksM_length]; omega), marksM_length, Nat.sub_self, List.drop_eq_getElem_cons hk, List.set_cons_zero, marksM_succ, List.append_assoc]
    rw [show m + 3 * (k : Int) + 1 + 1 = m + 3 * (k : Int) + 2 by omega]
    simp only [Option.some.injEq, Sum.inl.injEq, Prod.mk.injEq]
    refine ⟨by omega, by omega, rfl⟩
  · have hd : decide ((xs.length : Int) < (xs.length : Int)) = false := by simp
    simp only [sh43_1, hd, cond_false, List.drop_length, List.append_nil]

theorem heldMoves_eq (m : Int) (n : Nat) (h0 : 0 ≤ m) (h1 : m ≤ 1099511627776) (h : n ≤ 1099511627776) : sh44 (marksM m n) m = some (m + 3 * n) := by
  unfold sh44
  have hi := iter_steps (sb := sh44_1 (marksM m n)) (fun k => (m + 3 * (k : Int), (k : Int))) n (x := .inl (m + 3 * n)) (by omega) (fun k hk => ?_) ?_
  · simp only [Int.natCast_zero, Int.mul_zero, Int.add_zero] at hi
    rw [hi, bindS]
    rfl
  · have h2 : (k : Int) < (marksM m n).length := by rw [marksM_length]; omega
    have hl : k < (marksM m n).length := by rw [marksM_length]; exact hk
    simp only [sh44_1, h2, decide_true, cond_true, getI_lt hl, bindS, marksM_get m n k hk, bne_self_eq_false, cond_false]
    rw [w64_id (x := m + 3 * (k : Int) + 1) (by omega) (by omega), bne_self_eq_false, cond_false, w64_id (x := m + 3 * (k : Int) + 1 + 1) (by omega) (by omega)]
    rw [show m + 3 * (k : Int) + 1 + 1 = m + 3 * (k : Int) + 2 by omega, bne_self_eq_false, cond_false, w64_id (x := m + 3 * (k : Int) + 2 + 1) (by omega) (by omega), w64_id (x := (k : Int) + 1) (by omega) (by omega)]
    simp only [Option.some.injEq, Sum.inl.injEq, Prod.mk.injEq]
    refine ⟨by omega, by omega⟩
  · have hd : decide ((n : Int) < ((marksM m n).length : Int)) = false := by rw [marksM_length]; simp
    simp only [sh44_1, hd, cond_false]

/-! moves -/
def coB (x : Int) : Bool := decide (-100000 ≤ x) && decide (x ≤ 100000)
def moveB (m : SToolMove) : Bool := (coB m.X && coB m.Y) && (decide (-500 ≤ m.Z) && decide (m.Z ≤ 500))
def movesB (q : List SToolMove) : Bool := q.all moveB && decide (q.length ≤ 700)

theorem l22Ok_eq (q : List SToolMove) (h : q.length ≤ 1048576) : sh85 q = some (movesB q) := by
  unfold sh85 movesB
  rw [iter_all (xs := q) (p := moveB) (r := false) (by omega) (fun k hk => ?_) (by simp [sh85_1]), bindS]
  · cases ha : q.all moveB
    · simp [elimS]
    · simp only [elimS, if_true, Bool.true_and]
      congr 1
      simp only [decide_eq_decide]; omega
  · have h2 : (k : Int) < q.length := by omega
    simp only [sh85_1, sh65, h2, decide_true, cond_true, getI_lt hk, bindS]
    rw [w64_id (x := (k : Int) + 1) (by omega) (by omega)]
    unfold moveB coB
    cases h0 : decide (-100000 ≤ q[k].X) && decide (q[k].X ≤ 100000) <;> cases h1 : decide (-100000 ≤ q[k].Y) && decide (q[k].Y ≤ 100000) <;> cases h3 : decide (-500 ≤ q[k].Z) && decide (q[k].Z ≤ 500) <;> rfl

theorem validMoves_eq (q : List SToolMove) (h : q.length ≤ 1048576) : sh87 q = some (movesB q) := by
  unfold sh87 movesB
  rw [iter_all (xs := q) (p := moveB) (r := false) (by omega) (fun k hk => ?_) (by simp [sh87_1]), bindS]
  · cases ha : q.all moveB
    · simp [elimS]
    · simp only [elimS, if_true, Bool.true_and]
      congr 1
      simp only [decide_eq_decide]; omega
  · have h2 : (k : Int) < q.length := by omega
    simp only [sh87_1, sh67, sh79, h2, decide_true, cond_true, getI_lt hk, bindS]
    rw [w64_id (x := (k : Int) + 1) (by omega) (by omega)]
    unfold moveB coB
    cases h0 : decide (-100000 ≤ q[k].X) && decide (q[k].X ≤ 100000) <;> cases h1 : decide (-100000 ≤ q[k].Y) && decide (q[k].Y ≤ 100000) <;> cases h3 : decide (-500 ≤ q[k].Z) && decide (q[k].Z ≤ 500) <;> rfl

theorem movesB_len {q : List SToolMove} (h : movesB q = true) : q.length ≤ 700 := by
  unfold movesB at h
  simp only [Bool.and_eq_true, decide_eq_true_eq] at h
  exact h.2

/-! layersof -/
def layerM (n k : Int) (m : SToolMove) : SToolMove := if m.Z < 0 then ⟨m.X, m.Y, w64 ((w64 (m.Z * k)).tdiv n)⟩ else m
theorem layer_inner (q : List SToolMove) (n k : Int) (hn : n ≠ 0) (hq : q.length ≤ 700) (l : List SToolMove) (hl : l.length ≤ 100000) : iter (sh39_2 q n k) (0, l) = some (l ++ q.map (layerM n k)) := by
  have hi := iter_fold (sb := sh39_2 q n k) q (fun j (l : List SToolMove) => ((j : Int), l)) (fun acc a => acc ++ [layerM n k a]) (fun l => l) (fun j x => x.length = l.length + j) l (by simp) (by omega) (fun j hj x hI => ?_) (fun x _ => by
      have hd : decide ((q.length : Int) < (q.length : Int)) = false := by simp
      simp only [sh39_2, hd, cond_false])
  · have h1 := hi.1
    simp only [Int.natCast_zero] at h1
    rw [h1, foldl_snoc]
  · have h2 : (j : Int) < q.length := by omega
    refine ⟨?_, by simp [hI]; omega⟩
    have e : (bif decide (q[j].Z < 0) then (Option.bind (nzI n) fun x30 => some (SToolMove.mk q[j].X q[j].Y (w64 ((w64 (q[j].Z * k)).tdiv n)))) else (some q[j])) = some (layerM n k q[j]) := by
      unfold layerM
      rw [nzI_ok hn]
      by_cases hz : q[j].Z < 0 <;> simp [hz]
    simp only [sh39_2, h2, decide_true, cond_true, getI_lt hj, bindS, e]
    rw [appL_ok (by simp only [List.length_cons, List.length_nil]; omega), bindS, w64_id (by omega) (by omega)]
    rfl
theorem layer_total (q : List SToolMove) (n : Int) (hn : 1 ≤ n) (hn2 : n ≤ 20) (hq : q.length ≤ 700) : ∃ l, iter (sh39_1 q n) (1, []) = some l ∧ l.length ≤ 14000 := by
  refine iter_inv (fun (s : Int × List SToolMove) => 1 ≤ s.1 ∧ s.1 ≤ n + 1 ∧ (s.2.length : Int) ≤ 700 * (s.1 - 1)) (fun s => (n + 1 - s.1).toNat) (fun (l : List SToolMove) => l.length ≤ 14000) ⟨by simp, by simp only; omega, by simp⟩ (by simp only; omega) ?_
  rintro ⟨k, l⟩ ⟨h1, h2, h3⟩
  simp only at h1 h2 h3
  by_cases hk : k ≤ n
  · left
    simp only [sh39_1, hk, decide_true, cond_true]
    rw [layer_inner q n k (by omega) hq l (by omega), bindS, w64_id (x := k + 1) (by omega) (by omega)]
    exact ⟨_, rfl, ⟨by simp only; omega, by simp only; omega, by simp only [List.length_append, List.length_map]; omega⟩, by simp only; omega⟩
  · right
    have hd : decide (k ≤ n) = false := decide_eq_false hk
    simp only [sh39_1, hd, cond_false]
    exact ⟨_, rfl, by omega⟩
theorem layersOf_total (q : List SToolMove) (n : Int) (h : q.length ≤ 1048576) : ∃ r, sh39 q n = some r ∧ sh41 q n = some r ∧ r.1.length ≤ 14000 := by
  unfold sh39 sh41
  rw [l22Ok_eq q h, validMoves_eq q h]
  have es : sh41_1 q n = sh39_1 q n := rfl
  simp only [bindS, sh65, sh79, es]
  cases hp : movesB q
  · exact ⟨_, rfl, rfl, by simp⟩
  · have hl := movesB_len hp
    cases hr : decide (1 ≤ n) && decide (n ≤ 20)
    · exact ⟨_, rfl, rfl, by simp⟩
    · simp only [Bool.and_eq_true, decide_eq_true_eq] at hr
      obtain ⟨l, h1, h2⟩ := layer_total q n hr.1 hr.2 hl
      simp only [Bool.not_true, cond_false]
      cases decide (700 < w64 (n * (q.length : Int)))
      · simp only [cond_false, h1, bindS]
        exact ⟨_, rfl, rfl, h2⟩
      · exact ⟨_, rfl, rfl, by simp⟩

/-! FnExactLayersOf -/
theorem law8 (q : List SToolMove) (n : Int) (hl0 : q.length ≤ maxLen) : sh8 q n = some true := by
  unfold sh8
  have hm : maxLen = 9223372036854775807 := rfl
  rw [szToolMoveS_eq q (by omega), bindS]
  by_cases h : q.length ≤ 1048576
  · obtain ⟨r, h1, h2, h3⟩ := layersOf_total q n h
    have hd : decide ((1048576 : Int) - (q.length : Int) < 0) = false := decide_eq_false (by omega)
    have m1 := markMoves_eq q 1 (by omega) (by omega) (by omega)
    have m2 := markMoves_eq r.1 1 (by omega) (by omega) (by omega)
    have m3 := heldMoves_eq 1 r.1.length (by omega) (by omega) (by omega)
    have n1 : decide ((1 : Int) + 3 * (q.length : Int) < 0) = false := decide_eq_false (by omega)
    have n2 : decide ((1 : Int) + 3 * (r.1.length : Int) < 0) = false := decide_eq_false (by omega)
    simp only [if_pos h, hd, cond_false, toToolMoveS_eq q h, bindS, h1, h2, bne_self_eq_false, Bool.or_self, eqToolMoveS_eq q q h, eqToolMoveS_eq r.1 r.1 (by omega), decide_true, Bool.not_true, m1, m2, m3, n1, n2]
  · rw [if_neg h]; rfl
end Go.Sh
