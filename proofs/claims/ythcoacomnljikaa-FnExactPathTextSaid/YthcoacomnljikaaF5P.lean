/- Plain laws: what the shallow functions come to. -/
import Derived.Test.YthcoacomnljikaaF5W0
set_option linter.unusedVariables false
set_option linter.unusedSimpArgs false
namespace Go.Sh
open Go Go.RowKit

/-! iters -/
theorem w64_lo (x : Int) : -9223372036854775808 ≤ w64 x := by
  have := IntKind.wrap_i64 x
  show _ ≤ IntKind.i64.wrap x
  omega
theorem w64_hi (x : Int) : w64 x ≤ 9223372036854775807 := by
  have := IntKind.wrap_i64 x
  show IntKind.i64.wrap x ≤ _
  omega
theorem getI_toNat {T : Type} {xs : List T} {i : Int} (h0 : 0 ≤ i) (h : i.toNat < xs.length) : getI xs i = some xs[i.toNat] := by
  unfold getI; rw [if_pos h0]; exact List.getElem?_eq_getElem h
theorem nzI_ok {a : Int} (h : a ≠ 0) : nzI a = some a := by simp [nzI, h]

/-- The loop that looks for the first element that passes. -/
theorem iter_find {T : Type} {sb : Int → Option (Int ⊕ (Unit ⊕ Int))} {xs : List T} {p : T → Bool} (hl : xs.length < 1099511627776)
    (hsb : ∀ (k : Nat) (h : k < xs.length), sb (k : Int) = if p xs[k] = true then some (.inr (.inr (k : Int))) else some (.inl ((k : Int) + 1))) (he : sb (xs.length : Int) = some (.inr (.inl ()))) :
    iter sb 0 = some (if xs.any p = true then .inr (xs.findIdx p : Int) else .inl ()) := by
  have h := iter_res (sb := sb) (fun k => (k : Int)) (fun k => if (xs.drop k).any p = true then (.inr (k + (xs.drop k).findIdx p : Nat) : Unit ⊕ Int) else .inl ()) xs.length (by omega) (fun k hk => ?_) (by
    rw [he, List.drop_of_length_le (Nat.le_refl _)]; simp)
  · simpa using h
  · rw [hsb k hk, List.drop_eq_getElem_cons hk]
    by_cases hx : p xs[k] = true
    · right
      rw [if_pos hx]
      simp only [List.any_cons, hx, Bool.true_or, if_true, List.findIdx_cons, cond_true, Nat.add_zero]
    · left
      rw [if_neg hx]
      refine ⟨by simp, ?_⟩
      have hx' : p xs[k] = false := by simpa using hx
      simp only [List.any_cons, hx', Bool.false_or, List.findIdx_cons, cond_false]
      split <;> simp
      omega

theorem iterN_congr {σ ρ : Type} {sb1 sb2 : σ → Option (σ ⊕ ρ)} (I : σ → Prop) (hs : ∀ s, I s → sb1 s = sb2 s ∧ ∀ s', sb2 s = some (.inl s') → I s') : ∀ (n : Nat) (s : σ), I s → iterN sb1 n s = iterN sb2 n s
  | 0, _, _ => rfl
  | n + 1, s, h => by
    obtain ⟨h1, h2⟩ := hs s h
    simp only [iterN, h1]
    cases hb : sb2 s with
    | none => rfl
    | some o =>
      cases o with
      | inl s' => exact iterN_congr I hs n s' (h2 s' hb)
      | inr x => rfl
/-- Two loops whose bodies agree where the invariant holds. -/
theorem iter_congr {σ ρ : Type} {sb1 sb2 : σ → Option (σ ⊕ ρ)} (I : σ → Prop) {s0 : σ} (h0 : I s0) (hs : ∀ s, I s → sb1 s = sb2 s ∧ ∀ s', sb2 s = some (.inl s') → I s') : iter sb1 s0 = iter sb2 s0 :=
  iterN_congr I hs FUEL s0 h0

/-- A loop over a list, as a fold. -/
theorem iter_fold {T σ S ρ : Type} {sb : S → Option (S ⊕ ρ)} (xs : List T) (st : Nat → σ → S) (g : σ → T → σ) (h : σ → ρ) (I : Nat → σ → Prop) (s0 : σ) (h0 : I 0 s0) (hl : xs.length < 1099511627776)
    (hsb : ∀ (k : Nat) (hk : k < xs.length) s, I k s → sb (st k s) = some (.inl (st (k + 1) (g s xs[k]))) ∧ I (k + 1) (g s xs[k])) (he : ∀ s, I xs.length s → sb (st xs.length s) = some (.inr (h s))) :
    iter sb (st 0 s0) = some (h (xs.foldl g s0)) ∧ I xs.length (xs.foldl g s0) := by
  have hI : ∀ k, k ≤ xs.length → I k ((xs.take k).foldl g s0) := by
    intro k
    induction k with
    | zero => intro _; simpa using h0
    | succ k ih =>
      intro hk
      rw [List.take_succ_eq_append_getElem (by omega), List.foldl_append]
      exact (hsb k (by omega) _ (ih (by omega))).2
  have hlast := hI xs.length (Nat.le_refl _)
  rw [List.take_length] at hlast
  refine ⟨?_, hlast⟩
  refine iter_steps (fun k => st k ((xs.take k).foldl g s0)) xs.length (by omega) (fun k hk => ?_) (by rw [List.take_length]; exact he _ hlast)
  rw [(hsb k hk _ (hI k (by omega))).1, List.take_succ_eq_append_getElem hk, List.foldl_append]
  rfl

/-- The greater one. -/
def mx (a b : Int) : Int := if a < b then b else a
def mn (a b : Int) : Int := if b < a then b else a
theorem mx_comm' (a b : Int) : (if b < a then a else b) = mx a b := by unfold mx; split <;> split <;> omega
theorem foldl_snoc {α β : Type} (f : α → β) : ∀ (xs : List α) (a : List β), xs.foldl (fun acc m => acc ++ [f m]) a = a ++ xs.map f
  | [], a => by simp
  | x :: xs, a => by rw [List.foldl_cons, foldl_snoc f xs]; simp

/-! points -/
theorem szPointS_eq (xs : List SPoint) (h : xs.length ≤ 9223372036854775807) : sh15 xs 1048576 = some (if xs.length ≤ 1048576 then (1048576 - xs.length : Int) else -1) := by
  unfold sh15
  rw [w64_id (by omega) (by omega)]
  by_cases hl : xs.length ≤ 1048576
  · rw [if_pos hl, show decide ((1048576 : Int) - (xs.length : Int) < 0) = false from decide_eq_false (by omega)]; rfl
  · rw [if_neg hl, show decide ((1048576 : Int) - (xs.length : Int) < 0) = true from decide_eq_true (by omega)]; rfl

theorem toPointS_eq (xs : List SPoint) (h : xs.length ≤ 1048576) : sh17 xs = some xs := by
  unfold sh17
  rw [mkL_ok (by omega), bindS, iter_copy (xs := xs) (by omega) (fun i ys => by simp only [sh17_1, sh18, bindS]), bindS]

theorem eqPoint_eq (p q : SPoint) : sh68 p q = some (decide (p = q)) := by
  unfold sh68
  cases p with
  | mk a b =>
    cases q with
    | mk c d =>
      show (bif a != c then some false else (bif b != d then some false else some true)) = _
      by_cases h1 : a = c
      · subst h1
        rw [bne_self_eq_false, cond_false]
        by_cases h2 : b = d
        · subst h2; rw [bne_self_eq_false]; simp
        · rw [bne_iff_ne.2 h2]; simp [h2]
      · rw [bne_iff_ne.2 h1]; simp [h1]

theorem eqPointS_eq (xs ys : List SPoint) (h : xs.length ≤ 1048576) : sh20 xs ys = some (decide (xs = ys)) := by
  unfold sh20
  by_cases hl : xs.length = ys.length
  · have h1 : ((xs.length : Int) != (ys.length : Int)) = false := by simp; omega
    rw [h1, cond_false, iter_eq (xs := xs) (ys := ys) (by omega) hl (fun k hk => ?_) (by simp [sh20_1]), bindS]
    · by_cases he : xs = ys <;> simp [he, elimS]
    · have h2 : (k : Int) < xs.length := by omega
      have h3 : k < ys.length := by omega
      simp only [sh20_1, h2, decide_true, cond_true, getI_lt hk, getI_lt h3, bindS, eqPoint_eq]
      rw [w64_id (by omega) (by omega)]
      by_cases he : xs[k] = ys[k]
      · simp [he]
      · rw [if_neg he, decide_eq_false he]
        rfl
  · have h1 : ((xs.length : Int) != (ys.length : Int)) = true := by simp; omega
    rw [h1, cond_true]
    have : xs ≠ ys := fun h => hl (by rw [h])
    simp [this]

/-! decimal -/
theorem u64_id {x : Int} (h1 : 0 ≤ x) (h2 : x < 18446744073709551616) : IntKind.u64.wrap x = x := by
  unfold IntKind.wrap
  have hs : IntKind.u64.signed = false := rfl
  have hb : IntKind.u64.bits = 64 := rfl
  simp only [hs, hb, Bool.false_and]
  show x % 2 ^ 64 = x
  omega
theorem u64_neg {x : Int} (h1 : -9223372036854775808 ≤ x) (h2 : x < 0) : IntKind.u64.wrap (0 - IntKind.u64.wrap x) = -x := by
  unfold IntKind.wrap
  have hs : IntKind.u64.signed = false := rfl
  have hb : IntKind.u64.bits = 64 := rfl
  simp only [hs, hb, Bool.false_and]
  show (0 - x % 2 ^ 64) % 2 ^ 64 = -x
  omega
theorem u8_id {x : Int} (h1 : 0 ≤ x) (h2 : x < 256) : IntKind.u8.wrap x = x := by
  unfold IntKind.wrap
  have hs : IntKind.u8.signed = false := rfl
  have hb : IntKind.u8.bits = 8 := rfl
  simp only [hs, hb, Bool.false_and]
  show x % 2 ^ 8 = x
  omega

/-- The digits of a number, the first one first. -/
def digs (n : Nat) : List Int := if h : n = 0 then [] else digs (n / 10) ++ [48 + ((n % 10 : Nat) : Int)]
decreasing_by omega
theorem digs_zero : digs 0 = [] := by unfold digs; simp
theorem digs_pos {n : Nat} (h : 0 < n) : digs n = digs (n / 10) ++ [48 + ((n % 10 : Nat) : Int)] := by
  rw [digs]; simp [show n ≠ 0 by omega]
theorem digs_len : ∀ (k n : Nat), n < 10 ^ k → (digs n).length ≤ k
  | 0, n, h => by
    have : n = 0 := by simpa using h
    subst this; simp [digs_zero]
  | k + 1, n, h => by
    by_cases h0 : n = 0
    · subst h0; simp [digs_zero]
    · rw [digs_pos (by omega), List.length_append]
      have := digs_len k (n / 10) (by rw [Nat.pow_succ] at h; omega)
      simp; omega
theorem digs_byte (n : Nat) : ∀ x ∈ digs n, 48 ≤ x ∧ x ≤ 57 := by
  induction n using Nat.strongRecOn with
  | ind n ih =>
    intro x hx
    by_cases h0 : n = 0
    · subst h0; rw [digs_zero] at hx; simp at hx
    · rw [digs_pos (by omega)] at hx
      rcases List.mem_append.1 hx with h | h
      · exact ih (n / 10) (by omega) x h
      · simp at h; omega
theorem digs_ne {n : Nat} (h : 0 < n) : digs n ≠ [] := by rw [digs_pos h]; simp

/-- The bytes of a number in decimal. -/
def decL (n : Int) : List Int := if n = 0 then [48] else (if n < 0 then [45] else []) ++ digs n.natAbs
theorem decL_len {n : Int} (h1 : -9223372036854775808 ≤ n) (h2 : n ≤ 9223372036854775807) : (decL n).length ≤ 20 := by
  unfold decL
  have := digs_len 19 n.natAbs (by omega)
  split
  · simp
  · split <;> simp <;> omega
theorem decL_byte (n : Int) : ∀ x ∈ decL n, 0 ≤ x ∧ x < 256 := by
  intro x hx
  unfold decL at hx
  split at hx
  · simp at hx; omega
  · rcases List.mem_append.1 hx with h | h
    · split at h <;> simp at h; omega
    · have := digs_byte _ x h; omega

/-! bytes as a string -/
theorem bytesS_foldl : ∀ (xs : List Int) (s : ByteArray), xs.foldl (fun r n => r.push (UInt8.ofNat n.toNat)) s = ⟨s.data ++ (xs.map fun n => UInt8.ofNat n.toNat).toArray⟩
  | [], s => by simp
  | n :: ns, s => by
    rw [List.foldl_cons, bytesS_foldl ns]
    simp [ByteArray.push]
theorem bytesS_data (xs : List Int) : bytesS xs = ⟨(xs.map fun n => UInt8.ofNat n.toNat).toArray⟩ := by
  unfold bytesS
  rw [bytesS_foldl]
  congr 1
  apply Array.ext'
  simp [ByteArray.empty, ByteArray.emptyWithCapacity]
  rfl
theorem bytesS_size (xs : List Int) : (bytesS xs).size = xs.length := by
  rw [bytesS_data]
  show (List.toArray _).size = _
  simp
theorem bytesS_append (xs ys : List Int) : bytesS xs ++ bytesS ys = bytesS (xs ++ ys) := by
  apply ByteArray.ext
  rw [ByteArray.data_append, bytesS_data, bytesS_data, bytesS_data]
  apply Array.ext'
  simp
theorem strI_bytesS {xs : List Int} (h : ∀ x ∈ xs, 0 ≤ x ∧ x < 256) : strI (bytesS xs) = xs := by
  rw [bytesS_data, strI]
  simp only [List.map_map]
  conv => rhs; rw [← List.map_id xs]
  refine List.map_congr_left fun x hx => ?_
  obtain ⟨h1, h2⟩ := h x hx
  show ((UInt8.ofNat x.toNat).toNat : Int) = x
  rw [UInt8.toNat_ofNat']
  omega
theorem catS_ok {xs ys : List Int} (h : xs.length + ys.length ≤ 1099511627776) : catS (bytesS xs) (bytesS ys) = some (bytesS (xs ++ ys)) := by
  have : LIM = 1099511627776 := rfl
  unfold catS
  rw [bytesS_size, bytesS_size, if_pos (by omega), bytesS_append]
theorem lit_nil : (ByteArray.mk #[] : ByteArray) = bytesS [] := rfl
theorem lit_minus : (ByteArray.mk #[45] : ByteArray) = bytesS [45] := rfl
theorem lit_zero : (ByteArray.mk #[48] : ByteArray) = bytesS [48] := rfl
theorem lit_blank : (ByteArray.mk #[32] : ByteArray) = bytesS [32] := rfl

theorem tmod_abs (n : Int) : (if n.tmod 10 < 0 then 0 - n.tmod 10 else n.tmod 10) = ((n.natAbs % 10 : Nat) : Int) := by
  by_cases h : 0 ≤ n
  · rw [Int.tmod_eq_emod_of_nonneg h]; split <;> omega
  · have := Int.neg_tmod (-n) 10
    rw [Int.neg_neg] at this
    rw [this, Int.tmod_eq_emod_of_nonneg (by omega)]
    split <;> omega
theorem tdiv_abs (n : Int) : (n.tdiv 10).natAbs = n.natAbs / 10 := by
  rw [Int.natAbs_tdiv]; rfl

theorem l01Dec_eq (n : Int) (h1 : -9223372036854775808 ≤ n) (h2 : n ≤ 9223372036854775807) : sh111 n = some (bytesS (decL n)) := by
  unfold sh111
  have hN : n.natAbs < 10 ^ 19 := by omega
  obtain ⟨b, hb, hr⟩ := iter_inv (sb := sh111_1) (fun (s : Int × List Int) => -9223372036854775808 ≤ s.1 ∧ s.1 ≤ 9223372036854775807 ∧ digs n.natAbs = digs s.1.natAbs ++ s.2) (fun s => (digs s.1.natAbs).length) (fun (b : List Int) => b = digs n.natAbs) (s0 := (n, [])) ⟨h1, h2, by simp⟩ (by have := digs_len 19 _ hN; simp only; omega) (by
    rintro ⟨x, l⟩ ⟨h3, h4, h5⟩
    simp only at h3 h4 h5
    by_cases hx : x = 0
    · right
      subst hx
      refine ⟨l, rfl, ?_⟩
      rw [h5]; simp [digs_zero]
    · left
      have hlen := digs_len 19 _ hN
      rw [h5, List.length_append] at hlen
      have hne : (x != 0) = true := bne_iff_ne.2 hx
      have hd := tmod_abs x
      simp only [sh111_1, hne, cond_true]
      have e1 : (bif decide ((x.tmod 10) < 0) then (some (w64 (0 - (x.tmod 10)))) else (some (x.tmod 10))) = some ((x.natAbs % 10 : Nat) : Int) := by
        rw [← hd]
        by_cases hneg : x.tmod 10 < 0
        · rw [if_pos hneg] at hd ⊢
          simp only [hneg, decide_true, cond_true]
          rw [w64_id (by omega) (by omega)]
        · rw [if_neg hneg]; simp [hneg]
      have hdiv := tdiv_abs x
      rw [e1, bindS, w64_id (x := 48 + _) (by omega) (by omega), u8_id (by omega) (by omega), appL_ok (by simp only [List.length_cons, List.length_nil]; omega), bindS, w64_id (x := x.tdiv 10) (by omega) (by omega)]
      have hp := digs_pos (n := x.natAbs) (by omega)
      refine ⟨_, rfl, ⟨?_, ?_, ?_⟩, ?_⟩
      · simp only; omega
      · simp only; omega
      · simp only
        rw [hdiv, h5, hp, List.append_assoc]
      · simp only; rw [hdiv, hp]; simp)
  rw [hb, bindS, hr]
  by_cases h0 : n = 0
  · subst h0; rw [Int.natAbs_zero, digs_zero]; rfl
  · have hne := digs_ne (n := n.natAbs) (by omega)
    have hl : ((digs n.natAbs).length : Int) ≠ 0 := by
      have := List.length_pos_iff.2 hne
      omega
    have hlen := digs_len 19 _ hN
    rw [beq_eq_false_iff_ne.2 hl, cond_false]
    unfold decL
    rw [if_neg h0]
    by_cases hneg : n < 0
    · simp only [hneg, decide_true, cond_true, if_true]
      rw [lit_minus, catS_ok (by simp only [List.length_cons, List.length_nil]; omega), bindS]
    · simp [hneg]

theorem Decimal_eq (n : Int) (h1 : -9223372036854775808 ≤ n) (h2 : n ≤ 9223372036854775807) : sh75 n = some (bytesS (decL n)) := by
  unfold sh75
  by_cases h0 : n = 0
  · subst h0; rfl
  · have hN : n.natAbs < 10 ^ 19 := by omega
    rw [beq_eq_false_iff_ne.2 h0, cond_false]
    have e1 : (bif decide (n < 0) then (some (IntKind.u64.wrap (0 - (IntKind.u64.wrap n)))) else (some (IntKind.u64.wrap n))) = some (n.natAbs : Int) := by
      by_cases hneg : n < 0
      · simp only [hneg, decide_true, cond_true]
        rw [u64_neg h1 hneg]; congr 1; omega
      · have hd : decide (n < 0) = false := decide_eq_false hneg
        simp only [hd, cond_false]
        rw [u64_id (by omega) (by omega)]; congr 1; omega
    rw [e1, bindS]
    obtain ⟨b, hb, hr1, hr2, hr3, hr4⟩ := iter_inv (sb := sh75_1) (fun (s : Int × Int × List Int) => ∃ a r : Nat, s.1 = (a : Int) ∧ s.2.1 = (r : Int) ∧ 1 ≤ a ∧ a ≤ 20 ∧ r < 10 ^ (a - 1) ∧ s.2.2.length = 20 ∧ digs n.natAbs = digs r ++ s.2.2.drop a) (fun s => s.1.toNat)
      (fun (b : Int × List Int) => 1 ≤ b.1 ∧ b.1 ≤ 20 ∧ b.2.length = 20 ∧ digs n.natAbs = b.2.drop b.1.toNat) (s0 := (20, (n.natAbs : Int), List.replicate 20 (0 : Int)))
      ⟨20, n.natAbs, rfl, rfl, by omega, by omega, hN, rfl, by simp⟩ (by simp only; omega) (by
      rintro ⟨x, y, l⟩ ⟨a, r, rfl, rfl, ha1, ha2, hr, hl, hd⟩
      simp only at hl hd ⊢
      by_cases hr0 : r = 0
      · right
        subst hr0
        refine ⟨((a : Int), l), rfl, by simp only; omega, by simp only; omega, hl, ?_⟩
        simp only [Int.toNat_natCast]
        rw [hd, digs_zero, List.nil_append]
      · left
        have ha : 2 ≤ a := by
          rcases Nat.lt_or_ge a 2 with h | h
          · have : a = 1 := by omega
            subst this
            simp at hr; omega
          · exact h
        have hp : 10 ^ (a - 1) ≤ 10 ^ 19 := Nat.pow_le_pow_right (by omega) (by omega)
        have hp2 : 10 ^ (a - 1) = 10 ^ (a - 1 - 1) * 10 := by rw [← Nat.pow_succ]; congr 1; omega
        have hpos : (0 : Int) < (r : Int) := by omega
        have hw : w64 ((a : Int) - 1) = ((a - 1 : Nat) : Int) := by rw [w64_id (by omega) (by omega)]; omega
        have hlt : a - 1 < l.length := by omega
        have et : ((r : Int)).tmod 10 = ((r % 10 : Nat) : Int) := by rw [Int.tmod_eq_emod_of_nonneg (by omega)]; omega
        have ed : ((r : Int)).tdiv 10 = ((r / 10 : Nat) : Int) := by rw [Int.tdiv_eq_ediv_of_nonneg (by omega)]; omega
        simp only [sh75_1, hpos, decide_true, cond_true, hw, getI_lt hlt, bindS, et, ed, Int.toNat_natCast]
        rw [u64_id (x := ((r / 10 : Nat) : Int)) (by omega) (by omega), u64_id (x := 48 + ((r % 10 : Nat) : Int)) (by omega) (by omega), u8_id (by omega) (by omega)]
        refine ⟨_, rfl, ⟨a - 1, r / 10, rfl, rfl, by omega, by omega, by omega, by simp only [List.length_set]; exact hl, ?_⟩, by simp only [Int.toNat_natCast]; omega⟩
        simp only
        rw [hd, digs_pos (n := r) (by omega), List.append_assoc]
        congr 1
        rw [List.drop_eq_getElem_cons (i := a - 1) (by rw [List.length_set]; exact hlt), List.getElem_set_self, List.drop_set_of_lt (by omega)]
        rw [show a - 1 + 1 = a by omega]
        rfl)
    rw [hb, bindS]
    obtain ⟨x, l⟩ := b
    simp only at hr1 hr2 hr3 hr4
    obtain ⟨a, rfl⟩ : ∃ a : Nat, x = a := ⟨x.toNat, by omega⟩
    simp only [Int.toNat_natCast] at hr4
    unfold decL
    rw [if_neg h0]
    by_cases hneg : n < 0
    · have hw : w64 ((a : Int) - 1) = ((a - 1 : Nat) : Int) := by rw [w64_id (by omega) (by omega)]; omega
      have hlt : a - 1 < l.length := by omega
      simp only [hneg, decide_true, cond_true, hw, getI_lt hlt, bindS, if_true, Int.toNat_natCast]
      have hdl : dropL (l.set (a - 1) 45) ((a - 1 : Nat) : Int) = some ((l.set (a - 1) 45).drop (a - 1)) := by
        simp [dropL]; omega
      rw [hdl, bindS, List.drop_eq_getElem_cons (i := a - 1) (by rw [List.length_set]; exact hlt), List.getElem_set_self, List.drop_set_of_lt (by omega), hr4]
      rw [show a - 1 + 1 = a by omega]
      rfl
    · have hd : decide (n < 0) = false := decide_eq_false hneg
      have hdl : dropL l (a : Int) = some (l.drop a) := by
        simp [dropL]; omega
      simp only [hd, cond_false, bindS, hdl]
      rw [if_neg hneg, List.nil_append, hr4]

/-! joined -/
def jstep (sep : List Int) (s : Nat × List Int) (p : List Int) : Nat × List Int := (s.1 + 1, (if 0 < s.1 then s.2 ++ sep else s.2) ++ p)
/-- Lists of bytes, joined. -/
def joinL (sep : List Int) (ps : List (List Int)) : List Int := (ps.foldl (jstep sep) (0, [])).2
theorem jstep_len {sep p : List Int} {s : Nat × List Int} {k B : Nat} (hs : sep.length ≤ 100) (hp : p.length ≤ B) (h : s.2.length ≤ (B + 100) * k) : (jstep sep s p).2.length ≤ (B + 100) * (k + 1) := by
  unfold jstep
  simp only [List.length_append]
  rw [Nat.mul_succ]
  split
  · rw [List.length_append]; omega
  · omega


/-! polygon -/
def cornerB (p : SPoint) : Bool := (decide (-100000 ≤ p.X) && decide (p.X ≤ 100000)) && (decide (-100000 ≤ p.Y) && decide (p.Y ≤ 100000))
def polyB (q : List SPoint) : Bool := (decide (3 ≤ q.length) && decide (q.length ≤ 300)) && q.all cornerB

theorem l20Ok_eq (q : List SPoint) (h : q.length ≤ 1048576) : sh64 q = some (polyB q) := by
  unfold sh64 polyB
  rw [iter_all (xs := q) (p := cornerB) (r := false) (by omega) (fun k hk => ?_) (by simp [sh64_1]), bindS]
  · cases ha : q.all cornerB
    · simp [elimS]
    · simp only [elimS, if_true, sh65, bindS, Bool.and_true]
      congr 2
      · simp only [decide_eq_decide]; omega
      · simp only [decide_eq_decide]; omega
  · have h2 : (k : Int) < q.length := by omega
    simp only [sh64_1, sh65, h2, decide_true, cond_true, getI_lt hk, bindS]
    rw [w64_id (x := (k : Int) + 1) (by omega) (by omega)]
    unfold cornerB
    cases h0 : decide (-100000 ≤ q[k].X) && decide (q[k].X ≤ 100000) <;> cases h1 : decide (-100000 ≤ q[k].Y) && decide (q[k].Y ≤ 100000) <;> rfl

theorem isCorner_eq (p : SPoint) : sh67 p = some (cornerB p) := by
  unfold sh67 sh79 cornerB
  simp only [bindS]
  cases decide (-100000 ≤ p.X) && decide (p.X ≤ 100000) <;> rfl

theorem isPolygon_eq (q : List SPoint) (h : q.length ≤ 1048576) : sh66 q = some (polyB q) := by
  unfold sh66 sh109f110 sh124f110 sh79
  rw [iter_find (xs := q) (p := fun x => !cornerB x) (by omega) (fun k hk => ?_) (by simp [sh124f110_1])]
  · simp only [bindS]
    unfold polyB
    have e1 : decide ((3 : Int) ≤ (q.length : Int)) = decide (3 ≤ q.length) := by simp only [decide_eq_decide]; omega
    have e2 : decide ((q.length : Int) ≤ 300) = decide (q.length ≤ 300) := by simp only [decide_eq_decide]; omega
    rw [e1, e2]
    cases hc : decide (3 ≤ q.length) && decide (q.length ≤ 300)
    · rfl
    · have ha : q.any (fun x => !cornerB x) = !q.all cornerB := by rw [List.all_eq_not_any_not]; simp
      rw [ha]
      cases q.all cornerB
      · simp [elimS]
      · simp [elimS]
  · have h2 : (k : Int) < q.length := by omega
    simp only [sh124f110_1, sh110, isCorner_eq, h2, decide_true, cond_true, getI_lt hk, bindS]
    rw [w64_id (x := (k : Int) + 1) (by omega) (by omega)]
    cases cornerB q[k] <;> rfl

theorem polyB_len {q : List SPoint} (h : polyB q = true) : 3 ≤ q.length ∧ q.length ≤ 300 := by
  unfold polyB at h
  simp only [Bool.and_eq_true, decide_eq_true_eq] at h
  exact h.1

/-! pathtext -/
theorem cornerB_rng {p : SPoint} (h : cornerB p = true) : (-100000 ≤ p.X ∧ p.X ≤ 100000) ∧ (-100000 ≤ p.Y ∧ p.Y ≤ 100000) := by
  unfold cornerB at h
  simp only [Bool.and_eq_true, decide_eq_true_eq] at h
  exact h
def ptL (p : SPoint) : List Int := decL p.X ++ [32] ++ decL p.Y
def stepI (s : Nat × List Int) (p : SPoint) : Nat × List Int := (s.1 + 1, (if 0 < s.1 then s.2 ++ [32, 76, 32] else s.2) ++ ptL p)
def stepP (s : Nat × List Int) (p : SPoint) : Nat × List Int := (s.1 + 1, s.2 ++ ((if s.1 = 0 then [77, 32] else [76, 32]) ++ ptL p ++ [32]))
theorem decL_small {x : Int} (h1 : -100000 ≤ x) (h2 : x ≤ 100000) : (decL x).length ≤ 20 := decL_len (by omega) (by omega)
theorem ptL_len {p : SPoint} (h : cornerB p = true) : (ptL p).length ≤ 41 := by
  obtain ⟨hx, hy⟩ := cornerB_rng h
  have h1 := decL_small hx.1 hx.2
  have h2 := decL_small hy.1 hy.2
  unfold ptL
  simp only [List.length_append, List.length_cons, List.length_nil]
  omega
theorem ptL_byte (p : SPoint) : ∀ x ∈ ptL p, 0 ≤ x ∧ x < 256 := by
  intro x hx
  unfold ptL at hx
  rcases List.mem_append.1 hx with h | h
  · rcases List.mem_append.1 h with h | h
    · exact decL_byte _ x h
    · simp at h; omega
  · exact decL_byte _ x h
theorem polyB_all {q : List SPoint} (h : polyB q = true) : ∀ p ∈ q, cornerB p = true := by
  unfold polyB at h
  simp only [Bool.and_eq_true, List.all_eq_true] at h
  exact h.2

theorem implPathText_eq (q : List SPoint) (h : q.length ≤ 1048576) : sh32 q = some (bytesS (if polyB q = true then (q.foldl stepI (0, [77, 32])).2 ++ [32, 90] else [])) := by
  unfold sh32
  rw [isPolygon_eq q h, bindS]
  cases hv : polyB q
  · rfl
  · have hl := polyB_len hv
    have hi := iter_fold (sb := sh32_1 q) q (fun k (s : Nat × List Int) => (bytesS s.2, (k : Int))) stepI (fun s => bytesS s.2) (fun k s => s.1 = k ∧ s.2.length ≤ 50 * k + 2) (0, [77, 32]) ⟨rfl, by simp⟩ (by omega) (fun k hk s hI => ?_) (fun s _ => by
      have hd : decide ((q.length : Int) < (q.length : Int)) = false := by simp
      simp only [sh32_1, hd, cond_false])
    · have h1 := hi.1
      have h2 := hi.2.2
      simp only [Int.natCast_zero] at h1
      simp only [Bool.not_true, cond_false, if_true]
      rw [show (ByteArray.mk #[77, 32] : ByteArray) = bytesS [77, 32] from rfl, h1, bindS, show (ByteArray.mk #[32, 90] : ByteArray) = bytesS [32, 90] from rfl, catS_ok (by simp only [List.length_cons, List.length_nil]; omega), bindS]
    · obtain ⟨n, l⟩ := s
      obtain ⟨h1, h2⟩ := hI
      simp only at h1 h2
      subst h1
      have hc := polyB_all hv _ (List.getElem_mem hk)
      obtain ⟨hx, hy⟩ := cornerB_rng hc
      have b1 := decL_small hx.1 hx.2
      have b2 := decL_small hy.1 hy.2
      have hp := ptL_len hc
      refine ⟨?_, rfl, ?_⟩
      · have h3 : (n : Int) < q.length := by omega
        simp only [sh32_1, h3, decide_true, cond_true, getI_lt hk, bindS, Decimal_eq _ (show -9223372036854775808 ≤ q[n].X by omega) (show q[n].X ≤ 9223372036854775807 by omega), Decimal_eq _ (show -9223372036854775808 ≤ q[n].Y by omega) (show q[n].Y ≤ 9223372036854775807 by omega)]
        rw [w64_id (by omega) (by omega), show (ByteArray.mk #[32, 76, 32] : ByteArray) = bytesS [32, 76, 32] from rfl, lit_blank]
        by_cases h0 : 0 < n
        · have h4 : decide ((0 : Int) < (n : Int)) = true := decide_eq_true (by omega)
          rw [h4, cond_true, catS_ok (by simp only [List.length_cons, List.length_nil]; omega), bindS, bindS, catS_ok (by simp only [List.length_cons, List.length_nil]; omega), bindS, catS_ok (by simp only [List.length_append, List.length_cons, List.length_nil]; omega), bindS, catS_ok (by simp only [List.length_append, List.length_cons, List.length_nil]; omega), bindS]
          simp [stepI, h0, ptL]
        · have h4 : decide ((0 : Int) < (n : Int)) = false := decide_eq_false (by omega)
          rw [h4, cond_false, bindS, catS_ok (by simp only [List.length_cons, List.length_nil]; omega), bindS, catS_ok (by simp only [List.length_append, List.length_cons, List.length_nil]; omega), bindS, catS_ok (by simp only [List.length_append, List.length_cons, List.length_nil]; omega), bindS]
          simp [stepI, h0, ptL]
      · unfold stepI
        simp only [List.length_append]
        split
        · simp only [List.length_append, List.length_cons, List.length_nil]; omega
        · omega

theorem l20Text_eq (q : List SPoint) (hv : ∀ p ∈ q, cornerB p = true) (hl : q.length ≤ 1048576) : sh74 q = some (bytesS ((q.foldl stepP (0, [])).2 ++ [90])) := by
  unfold sh74
  have hi := iter_fold (sb := sh74_1 q) q (fun k (s : Nat × List Int) => ((k : Int), s.2)) stepP (fun s => s.2) (fun k s => s.1 = k ∧ s.2.length ≤ 50 * k) (0, []) ⟨rfl, by simp⟩ (by omega) (fun k hk s hI => ?_) (fun s _ => by
      have hd : decide ((q.length : Int) < (q.length : Int)) = false := by simp
      simp only [sh74_1, hd, cond_false])
  · have h1 := hi.1
    have h2 := hi.2.2
    simp only [Int.natCast_zero] at h1
    rw [h1, bindS, appL_ok (by simp only [List.length_cons, List.length_nil]; omega), bindS]
  · obtain ⟨n, l⟩ := s
    obtain ⟨h1, h2⟩ := hI
    simp only at h1 h2
    subst h1
    have hc := hv _ (List.getElem_mem hk)
    obtain ⟨hx, hy⟩ := cornerB_rng hc
    have b1 := decL_small hx.1 hx.2
    have b2 := decL_small hy.1 hy.2
    have hp := ptL_len hc
    have hpb := ptL_byte q[n]
    refine ⟨?_, rfl, ?_⟩
    · have h3 : (n : Int) < q.length := by omega
      simp only [sh74_1, h3, decide_true, cond_true, getI_lt hk, bindS, l01Dec_eq _ (show -9223372036854775808 ≤ q[n].X by omega) (show q[n].X ≤ 9223372036854775807 by omega), l01Dec_eq _ (show -9223372036854775808 ≤ q[n].Y by omega) (show q[n].Y ≤ 9223372036854775807 by omega)]
      rw [w64_id (by omega) (by omega), show (ByteArray.mk #[77, 32] : ByteArray) = bytesS [77, 32] from rfl, show (ByteArray.mk #[76, 32] : ByteArray) = bytesS [76, 32] from rfl, lit_blank]
      have ej : (bif ((n : Int) == 0) then some (bytesS [77, 32]) else some (bytesS [76, 32])) = some (bytesS (if n = 0 then [77, 32] else [76, 32])) := by
        by_cases h0 : n = 0
        · subst h0; rfl
        · have : ((n : Int) == 0) = false := beq_eq_false_iff_ne.2 (by omega)
          rw [this, if_neg h0]; rfl
      have el : (if n = 0 then [77, 32] else [76, 32] : List Int).length = 2 := by split <;> rfl
      have eb : ∀ x ∈ (if n = 0 then [77, 32] else [76, 32] : List Int), 0 ≤ x ∧ x < 256 := by
        intro x hx
        split at hx <;> simp at hx <;> omega
      rw [ej, bindS, catS_ok (by omega), bindS, catS_ok (by simp only [List.length_append, List.length_cons, List.length_nil]; omega), bindS, catS_ok (by simp only [List.length_append, List.length_cons, List.length_nil]; omega), bindS, catS_ok (by simp only [List.length_append, List.length_cons, List.length_nil]; omega), bindS]
      have ek : (if n = 0 then [77, 32] else [76, 32] : List Int) ++ decL q[n].X ++ [32] ++ decL q[n].Y ++ [32] = (if n = 0 then [77, 32] else [76, 32]) ++ ptL q[n] ++ [32] := by simp [ptL]
      rw [ek, strI_bytesS (fun x hx => by
        rcases List.mem_append.1 hx with h | h
        · rcases List.mem_append.1 h with h | h
          · exact eb x h
          · exact hpb x h
        · simp at h; omega), appL_ok (by simp only [List.length_append, List.length_cons, List.length_nil]; omega), bindS]
      rfl
    · unfold stepP
      have el : (if n = 0 then [77, 32] else [76, 32] : List Int).length = 2 := by split <;> rfl
      simp only [List.length_append, List.length_cons, List.length_nil]
      omega

theorem steps_rel : ∀ (q : List SPoint) (k : Nat) (l : List Int), 0 < k → (q.foldl stepP (k, l ++ [32])).2 = (q.foldl stepI (k, l)).2 ++ [32]
  | [], k, l, _ => rfl
  | p :: q, k, l, hk => by
    have h := steps_rel q (k + 1) (l ++ [32, 76, 32] ++ ptL p) (by omega)
    simp only [List.foldl_cons]
    rw [show stepP (k, l ++ [32]) p = (k + 1, (l ++ [32, 76, 32] ++ ptL p) ++ [32]) by
      unfold stepP; simp only [show k ≠ 0 by omega, if_false]; simp, show stepI (k, l) p = (k + 1, l ++ [32, 76, 32] ++ ptL p) by
      unfold stepI; simp only [hk, if_true]]
    exact h
theorem steps_same (q : List SPoint) (h : q ≠ []) : (q.foldl stepP (0, [])).2 ++ [90] = (q.foldl stepI (0, [77, 32])).2 ++ [32, 90] := by
  cases q with
  | nil => exact absurd rfl h
  | cons p q =>
    simp only [List.foldl_cons]
    rw [show stepP (0, []) p = (1, ([77, 32] ++ ptL p) ++ [32]) by unfold stepP; simp, show stepI (0, [77, 32]) p = (1, [77, 32] ++ ptL p) by unfold stepI; simp, steps_rel q 1 _ (by omega)]
    simp
theorem pathText_same (q : List SPoint) (h : q.length ≤ 1048576) : sh31 q = sh32 q := by
  rw [implPathText_eq q h]
  unfold sh31
  rw [l20Ok_eq q h, bindS]
  cases hv : polyB q
  · rfl
  · have hl := polyB_len hv
    simp only [Bool.not_true, cond_false, if_true]
    rw [l20Text_eq q (polyB_all hv) h, bindS, steps_same q (fun h => by subst h; simp at hl)]

/-! FnExactPathText -/
theorem law5 (q : List SPoint) (hl0 : q.length ≤ maxLen) : sh5 q = some true := by
  unfold sh5
  have hm : maxLen = 9223372036854775807 := rfl
  rw [szPointS_eq q (by omega), bindS]
  by_cases h : q.length ≤ 1048576
  · have hd : decide ((1048576 : Int) - (q.length : Int) < 0) = false := decide_eq_false (by omega)
    simp only [if_pos h, hd, cond_false, toPointS_eq q h, bindS, pathText_same q h, implPathText_eq q h, beq_self_eq_true, Bool.not_true, eqPointS_eq q q h, decide_true]
  · rw [if_neg h]; rfl
end Go.Sh
