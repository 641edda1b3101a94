/- Plain laws: what the shallow functions come to. -/
import Derived.Test.YthcoacomnljikaaF3W0
namespace Go.Sh
open Go Go.RowKit

/-! iters -/
theorem w64_lo (x : Int) : -9223372036854775808 ≤ w64 x := by
  have := IntKind.wrap_i64 x
  show _ ≤ IntKind.i64.wrap x
  omega
theorem w64_hi (x : Int) : w64 x ≤ 9223372036854775807 := by
  have := IntKind.wrap_i64 x
  show IntKind.i64.wrap x ≤ _
  omega
theorem getI_toNat {T : Type} {xs : List T} {i : Int} (h0 : 0 ≤ i) (h : i.toNat < xs.length) : getI xs i = some xs[i.toNat] := by
  unfold getI; rw [if_pos h0]; exact List.getElem?_eq_getElem h
theorem nzI_ok {a : Int} (h : a ≠ 0) : nzI a = some a := by simp [nzI, h]

/-- The loop that looks for the first element that passes. -/
theorem iter_find {T : Type} {sb : Int → Option (Int ⊕ (Unit ⊕ Int))} {xs : List T} {p : T → Bool} (hl : xs.length < 1099511627776)
    (hsb : ∀ (k : Nat) (h : k < xs.length), sb (k : Int) = if p xs[k] = true then some (.inr (.inr (k : Int))) else some (.inl ((k : Int) + 1))) (he : sb (xs.length : Int) = some (.inr (.inl ()))) :
    iter sb 0 = some (if xs.any p = true then .inr (xs.findIdx p : Int) else .inl ()) := by
  have h := iter_res (sb := sb) (fun k => (k : Int)) (fun k => if (xs.drop k).any p = true then (.inr (k + (xs.drop k).findIdx p : Nat) : Unit ⊕ Int) else .inl ()) xs.length (by omega) (fun k hk => ?_) (by
    rw [he, List.drop_of_length_le (Nat.le_refl _)]; simp)
  · simpa using h
  · rw [hsb k hk, List.drop_eq_getElem_cons hk]
    by_cases hx : p xs[k] = true
    · right
      rw [if_pos hx]
      simp only [List.any_cons, hx, Bool.true_or, if_true, List.findIdx_cons, cond_true, Nat.add_zero]
    · left
      rw [if_neg hx]
      refine ⟨by simp, ?_⟩
      have hx' : p xs[k] = false := by simpa using hx
      simp only [List.any_cons, hx', Bool.false_or, List.findIdx_cons, cond_false]
      split <;> simp
      omega

theorem iterN_congr {σ ρ : Type} {sb1 sb2 : σ → Option (σ ⊕ ρ)} (I : σ → Prop) (hs : ∀ s, I s → sb1 s = sb2 s ∧ ∀ s', sb2 s = some (.inl s') → I s') : ∀ (n : Nat) (s : σ), I s → iterN sb1 n s = iterN sb2 n s
  | 0, _, _ => rfl
  | n + 1, s, h => by
    obtain ⟨h1, h2⟩ := hs s h
    simp only [iterN, h1]
    cases hb : sb2 s with
    | none => rfl
    | some o =>
      cases o with
      | inl s' => exact iterN_congr I hs n s' (h2 s' hb)
      | inr x => rfl
/-- Two loops whose bodies agree where the invariant holds. -/
theorem iter_congr {σ ρ : Type} {sb1 sb2 : σ → Option (σ ⊕ ρ)} (I : σ → Prop) {s0 : σ} (h0 : I s0) (hs : ∀ s, I s → sb1 s = sb2 s ∧ ∀ s', sb2 s = some (.inl s') → I s') : iter sb1 s0 = iter sb2 s0 :=
  iterN_congr I hs FUEL s0 h0

/-- A loop over a list, as a fold. -/
theorem iter_fold {T σ S ρ : Type} {sb : S → Option (S ⊕ ρ)} (xs : List T) (st : Nat → σ → S) (g : σ → T → σ) (h : σ → ρ) (I : Nat → σ → Prop) (s0 : σ) (h0 : I 0 s0) (hl : xs.length < 1099511627776)
    (hsb : ∀ (k : Nat) (hk : k < xs.length) s, I k s → sb (st k s) = some (.inl (st (k + 1) (g s xs[k]))) ∧ I (k + 1) (g s xs[k])) (he : ∀ s, I xs.length s → sb (st xs.length s) = some (.inr (h s))) :
    iter sb (st 0 s0) = some (h (xs.foldl g s0)) ∧ I xs.length (xs.foldl g s0) := by
  have hI : ∀ k, k ≤ xs.length → I k ((xs.take k).foldl g s0) := by
    intro k
    induction k with
    | zero => intro _; simpa using h0
    | succ k ih =>
      intro hk
      rw [List.take_succ_eq_append_getElem (by omega), List.foldl_append]
      exact (hsb k (by omega) _ (ih (by omega))).2
  have hlast := hI xs.length (Nat.le_refl _)
  rw [List.take_length] at hlast
  refine ⟨?_, hlast⟩
  refine iter_steps (fun k => st k ((xs.take k).foldl g s0)) xs.length (by omega) (fun k hk => ?_) (by rw [List.take_length]; exact he _ hlast)
  rw [(hsb k hk _ (hI k (by omega))).1, List.take_succ_eq_append_getElem hk, List.foldl_append]
  rfl

/-- The greater one. -/
def mx (a b : Int) : Int := if a < b then b else a
def mn (a b : Int) : Int := if b < a then b else a
theorem mx_comm' (a b : Int) : (if b < a then a else b) = mx a b := by unfold mx; split <;> split <;> omega
theorem foldl_snoc {α β : Type} (f : α → β) : ∀ (xs : List α) (a : List β), xs.foldl (fun acc m => acc ++ [f m]) a = a ++ xs.map f
  | [], a => by simp
  | x :: xs, a => by rw [List.foldl_cons, foldl_snoc f xs]; simp

/-! points -/
theorem szPointS_eq (xs : List SPoint) (h : xs.length ≤ 9223372036854775807) : sh15 xs 1048576 = some (if xs.length ≤ 1048576 then (1048576 - xs.length : Int) else -1) := by
  unfold sh15
  rw [w64_id (by omega) (by omega)]
  by_cases hl : xs.length ≤ 1048576
  · rw [if_pos hl, show decide ((1048576 : Int) - (xs.length : Int) < 0) = false from decide_eq_false (by omega)]; rfl
  · rw [if_neg hl, show decide ((1048576 : Int) - (xs.length : Int) < 0) = true from decide_eq_true (by omega)]; rfl

theorem toPointS_eq (xs : List SPoint) (h : xs.length ≤ 1048576) : sh17 xs = some xs := by
  unfold sh17
  rw [mkL_ok (by omega), bindS, iter_copy (xs := xs) (by omega) (fun i ys => by simp only [sh17_1, sh18, bindS]), bindS]

theorem eqPoint_eq (p q : SPoint) : sh68 p q = some (decide (p = q)) := by
  unfold sh68
  cases p with
  | mk a b =>
    cases q with
    | mk c d =>
      show (bif a != c then some false else (bif b != d then some false else some true)) = _
      by_cases h1 : a = c
      · subst h1
        rw [bne_self_eq_false, cond_false]
        by_cases h2 : b = d
        · subst h2; rw [bne_self_eq_false]; simp
        · rw [bne_iff_ne.2 h2]; simp [h2]
      · rw [bne_iff_ne.2 h1]; simp [h1]

theorem eqPointS_eq (xs ys : List SPoint) (h : xs.length ≤ 1048576) : sh20 xs ys = some (decide (xs = ys)) := by
  unfold sh20
  by_cases hl : xs.length = ys.length
  · have h1 : ((xs.length : Int) != (ys.length : Int)) = false := by simp; omega
    rw [h1, cond_false, iter_eq (xs := xs) (ys := ys) (by omega) hl (fun k hk => ?_) (by simp [sh20_1]), bindS]
    · by_cases he : xs = ys <;> simp [he, elimS]
    · have h2 : (k : Int) < xs.length := by omega
      have h3 : k < ys.length := by omega
      simp only [sh20_1, h2, decide_true, cond_true, getI_lt hk, getI_lt h3, bindS, eqPoint_eq]
      rw [w64_id (by omega) (by omega)]
      by_cases he : xs[k] = ys[k]
      · simp [he]
      · rw [if_neg he, decide_eq_false he]
        rfl
  · have h1 : ((xs.length : Int) != (ys.length : Int)) = true := by simp; omega
    rw [h1, cond_true]
    have : xs ≠ ys := fun h => hl (by rw [h])
    simp [this]

/-! mark_points -/
/-- The numbers that are laid into a result of places. -/
def marksP (m : Int) (n : Nat) : List SPoint := (List.range n).map fun (i : Nat) => ⟨m + 2 * (i : Int), m + 2 * (i : Int) + 1⟩
theorem marksP_length (m : Int) (n : Nat) : (marksP m n).length = n := by simp [marksP]
theorem marksP_get (m : Int) (n k : Nat) (h : k < n) : (marksP m n)[k]'(by rw [marksP_length]; exact h) = ⟨m + 2 * k, m + 2 * k + 1⟩ := by simp [marksP]
theorem marksP_succ (m : Int) (k : Nat) : marksP m (k + 1) = marksP m k ++ [⟨m + 2 * k, m + 2 * k + 1⟩] := by simp [marksP, List.range_succ]

theorem markPointS_eq (xs : List SPoint) (m : Int) (h0 : 0 ≤ m) (h1 : m ≤ 1099511627776) (h : xs.length ≤ 1099511627776) : sh21 xs m = some (m + 2 * xs.length, marksP m xs.length) := by
  unfold sh21
  have hi := iter_steps (sb := sh21_1 xs) (fun k => (m + 2 * (k : Int), (k : Int), marksP m k ++ xs.drop k)) xs.length (x := (m + 2 * xs.length, marksP m xs.length)) (by omega) (fun k hk => ?_) ?_
  · simp only [List.drop_zero] at hi
    rw [show marksP m 0 ++ xs = xs from rfl] at hi
    simp only [Int.natCast_zero, Int.mul_zero, Int.add_zero] at hi
    rw [hi, bindS]
  · have h2 : (k : Int) < xs.length := by omega
    have hl : k < (marksP m k ++ xs.drop k).length := by rw [List.length_append, marksP_length, List.length_drop]; omega
    have hl2 : ∀ y, k < ((marksP m k ++ xs.drop k).set k y).length := fun y => by rw [List.length_set]; exact hl
    simp only [sh21_1, h2, decide_true, cond_true, getI_lt hl, getI_lt (hl2 _), bindS, Int.toNat_natCast, List.getElem_set_self, List.set_set]
    rw [w64_id (x := m + 2 * (k : Int) + 1) (by omega) (by omega), w64_id (x := m + 2 * (k : Int) + 1 + 1) (by omega) (by omega), w64_id (x := (k : Int) + 1) (by omega) (by omega), List.set_append, if_neg (by rw [marksP_length]; omega), marksP_length, Nat.sub_self, List.drop_eq_getElem_cons hk, List.set_cons_zero, marksP_succ, List.append_assoc]
    simp only [Option.some.injEq, Sum.inl.injEq, Prod.mk.injEq]
    refine ⟨by omega, by omega, rfl⟩
  · have hd : decide ((xs.length : Int) < (xs.length : Int)) = false := by simp
    simp only [sh21_1, hd, cond_false, List.drop_length, List.append_nil]

theorem heldPointS_eq (m : Int) (n : Nat) (h0 : 0 ≤ m) (h1 : m ≤ 1099511627776) (h : n ≤ 1099511627776) : sh22 (marksP m n) m = some (m + 2 * n) := by
  unfold sh22
  have hi := iter_steps (sb := sh22_1 (marksP m n)) (fun k => (m + 2 * (k : Int), (k : Int))) n (x := .inl (m + 2 * n)) (by omega) (fun k hk => ?_) ?_
  · simp only [Int.natCast_zero, Int.mul_zero, Int.add_zero] at hi
    rw [hi, bindS]
    rfl
  · have h2 : (k : Int) < (marksP m n).length := by rw [marksP_length]; omega
    have hl : k < (marksP m n).length := by rw [marksP_length]; exact hk
    simp only [sh22_1, h2, decide_true, cond_true, getI_lt hl, bindS, marksP_get m n k hk, bne_self_eq_false, cond_false]
    rw [w64_id (x := m + 2 * (k : Int) + 1) (by omega) (by omega), bne_self_eq_false, cond_false, w64_id (x := m + 2 * (k : Int) + 1 + 1) (by omega) (by omega), w64_id (x := (k : Int) + 1) (by omega) (by omega)]
    simp only [Option.some.injEq, Sum.inl.injEq, Prod.mk.injEq]
    refine ⟨by omega, by omega⟩
  · have hd : decide ((n : Int) < ((marksP m n).length : Int)) = false := by rw [marksP_length]; simp
    simp only [sh22_1, hd, cond_false]

/-! polygon -/
def cornerB (p : SPoint) : Bool := (decide (-100000 ≤ p.X) && decide (p.X ≤ 100000)) && (decide (-100000 ≤ p.Y) && decide (p.Y ≤ 100000))
def polyB (q : List SPoint) : Bool := (decide (3 ≤ q.length) && decide (q.length ≤ 300)) && q.all cornerB

theorem l20Ok_eq (q : List SPoint) (h : q.length ≤ 1048576) : sh64 q = some (polyB q) := by
  unfold sh64 polyB
  rw [iter_all (xs := q) (p := cornerB) (r := false) (by omega) (fun k hk => ?_) (by simp [sh64_1]), bindS]
  · cases ha : q.all cornerB
    · simp [elimS]
    · simp only [elimS, if_true, sh65, bindS, Bool.and_true]
      congr 2
      · simp only [decide_eq_decide]; omega
      · simp only [decide_eq_decide]; omega
  · have h2 : (k : Int) < q.length := by omega
    simp only [sh64_1, sh65, h2, decide_true, cond_true, getI_lt hk, bindS]
    rw [w64_id (x := (k : Int) + 1) (by omega) (by omega)]
    unfold cornerB
    cases h0 : decide (-100000 ≤ q[k].X) && decide (q[k].X ≤ 100000) <;> cases h1 : decide (-100000 ≤ q[k].Y) && decide (q[k].Y ≤ 100000) <;> rfl

theorem isCorner_eq (p : SPoint) : sh67 p = some (cornerB p) := by
  unfold sh67 sh79 cornerB
  simp only [bindS]
  cases decide (-100000 ≤ p.X) && decide (p.X ≤ 100000) <;> rfl

theorem isPolygon_eq (q : List SPoint) (h : q.length ≤ 1048576) : sh66 q = some (polyB q) := by
  unfold sh66 sh109f110 sh124f110 sh79
  rw [iter_find (xs := q) (p := fun x => !cornerB x) (by omega) (fun k hk => ?_) (by simp [sh124f110_1])]
  · simp only [bindS]
    unfold polyB
    have e1 : decide ((3 : Int) ≤ (q.length : Int)) = decide (3 ≤ q.length) := by simp only [decide_eq_decide]; omega
    have e2 : decide ((q.length : Int) ≤ 300) = decide (q.length ≤ 300) := by simp only [decide_eq_decide]; omega
    rw [e1, e2]
    cases hc : decide (3 ≤ q.length) && decide (q.length ≤ 300)
    · rfl
    · have ha : q.any (fun x => !cornerB x) = !q.all cornerB := by rw [List.all_eq_not_any_not]; simp
      rw [ha]
      cases q.all cornerB
      · simp [elimS]
      · simp [elimS]
  · have h2 : (k : Int) < q.length := by omega
    simp only [sh124f110_1, sh110, isCorner_eq, h2, decide_true, cond_true, getI_lt hk, bindS]
    rw [w64_id (x := (k : Int) + 1) (by omega) (by omega)]
    cases cornerB q[k] <;> rfl

theorem polyB_len {q : List SPoint} (h : polyB q = true) : 3 ≤ q.length ∧ q.length ≤ 300 := by
  unfold polyB at h
  simp only [Bool.and_eq_true, decide_eq_true_eq] at h
  exact h.1

/-! movepolygon -/
def mvP (p a : SPoint) : SPoint := ⟨w64 (a.X + p.X), w64 (a.Y + p.Y)⟩
theorem moved_spec (q : List SPoint) (p : SPoint) (h : q.length ≤ 300) : iter (sh16_1 q p) (0, []) = some (q.map (mvP p)) := by
  have hi := iter_fold (sb := sh16_1 q p) q (fun k (l : List SPoint) => ((k : Int), l)) (fun acc a => acc ++ [mvP p a]) (fun l => l) (fun k l => l.length = k) [] rfl (by omega) (fun k hk l hI => ?_) (fun l _ => by
      have hd : decide ((q.length : Int) < (q.length : Int)) = false := by simp
      simp only [sh16_1, hd, cond_false])
  · have h1 := hi.1
    simp only [Int.natCast_zero] at h1
    rw [h1, foldl_snoc, List.nil_append]
  · have h2 : (k : Int) < q.length := by omega
    refine ⟨?_, by simp [hI]⟩
    simp only [sh16_1, h2, decide_true, cond_true, getI_lt hk, bindS]
    rw [appL_ok (by simp only [List.length_cons, List.length_nil]; omega), bindS, w64_id (by omega) (by omega)]
    rfl
theorem moved_impl (q : List SPoint) (p : SPoint) : sh19_1 q p = sh16_1 q p := by
  funext ⟨i, l⟩
  simp only [sh16_1, sh19_1]
  cases decide (i < (q.length : Int)) <;> simp only [cond_false, cond_true]
  cases getI q i <;> simp only [Option.bind_none, bindS]
theorem movePolygon_total (q : List SPoint) (p : SPoint) (h : q.length ≤ 1048576) : ∃ r, sh16 q p = some r ∧ sh19 q p = some r ∧ r.1.length ≤ 300 := by
  unfold sh16 sh19
  rw [l20Ok_eq q h, isPolygon_eq q h, moved_impl]
  simp only [bindS, isCorner_eq, sh65]
  cases hp : polyB q
  · exact ⟨_, rfl, rfl, by simp⟩
  · have hl := (polyB_len hp).2
    have ec : Option.bind (bif !(decide (-100000 ≤ p.X) && decide (p.X ≤ 100000)) then (some true) else some !(decide (-100000 ≤ p.Y) && decide (p.Y ≤ 100000))) (fun c6 => (some c6 : Option Bool)) = some (!cornerB p) := by
      unfold cornerB
      cases decide (-100000 ≤ p.X) && decide (p.X ≤ 100000) <;> rfl
    have ec2 : (bif !(decide (-100000 ≤ p.X) && decide (p.X ≤ 100000)) then (some true) else some !(decide (-100000 ≤ p.Y) && decide (p.Y ≤ 100000))) = some (!cornerB p) := by
      unfold cornerB
      cases decide (-100000 ≤ p.X) && decide (p.X ≤ 100000) <;> rfl
    simp only [Bool.not_true, cond_false, ec2, bindS]
    cases cornerB p
    · exact ⟨_, rfl, rfl, by simp⟩
    · have hm := moved_spec q p hl
      have hml : (q.map (mvP p)).length ≤ 1048576 := by rw [List.length_map]; exact h
      simp only [Bool.not_true, cond_false, hm, bindS, l20Ok_eq _ hml, isPolygon_eq _ hml]
      cases polyB (q.map (mvP p))
      · exact ⟨_, rfl, rfl, by simp⟩
      · exact ⟨_, rfl, rfl, by simp only [List.length_map]; exact hl⟩

/-! FnExactMovePolygon -/
theorem law3 (q : List SPoint) (p : SPoint) (hl0 : q.length ≤ maxLen) : sh3 q p = some true := by
  unfold sh3
  have hm : maxLen = 9223372036854775807 := rfl
  rw [szPointS_eq q (by omega), bindS]
  by_cases h : q.length ≤ 1048576
  · obtain ⟨r, h1, h2, h3⟩ := movePolygon_total q p h
    have hd : decide ((1048576 : Int) - (q.length : Int) < 0) = false := decide_eq_false (by omega)
    have m1 := markPointS_eq q 1 (by omega) (by omega) (by omega)
    have m2 := markPointS_eq r.1 1 (by omega) (by omega) (by omega)
    have m3 := heldPointS_eq 1 r.1.length (by omega) (by omega) (by omega)
    have n1 : decide ((1 : Int) + 2 * (q.length : Int) < 0) = false := decide_eq_false (by omega)
    have n2 : decide ((1 : Int) + 2 * (r.1.length : Int) < 0) = false := decide_eq_false (by omega)
    simp only [if_pos h, hd, cond_false, toPointS_eq q h, bindS, sh18, h1, h2, bne_self_eq_false, Bool.or_self, eqPointS_eq q q h, eqPointS_eq r.1 r.1 (by omega), decide_true, Bool.not_true, m1, m2, m3, n1, n2]
  · rw [if_neg h]; rfl
end Go.Sh
