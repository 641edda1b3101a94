/- Plain laws: what the shallow functions come to. -/
import Derived.Test.YtnaekndnmnbonaaF5W1
set_option linter.unusedVariables false
set_option linter.unusedSimpArgs false
namespace Go.Sh
open Go Go.RowKit

/-! iters -/
theorem w64_lo (x : Int) : -9223372036854775808 ≤ w64 x := by
  have := IntKind.wrap_i64 x
  show _ ≤ IntKind.i64.wrap x
  omega
theorem w64_hi (x : Int) : w64 x ≤ 9223372036854775807 := by
  have := IntKind.wrap_i64 x
  show IntKind.i64.wrap x ≤ _
  omega
theorem getI_toNat {T : Type} {xs : List T} {i : Int} (h0 : 0 ≤ i) (h : i.toNat < xs.length) : getI xs i = some xs[i.toNat] := by
  unfold getI; rw [if_pos h0]; exact List.getElem?_eq_getElem h
theorem nzI_ok {a : Int} (h : a ≠ 0) : nzI a = some a := by simp [nzI, h]

/-- The loop that looks for the first element that passes. -/
theorem iter_find {T : Type} {sb : Int → Option (Int ⊕ (Unit ⊕ Int))} {xs : List T} {p : T → Bool} (hl : xs.length < 1099511627776)
    (hsb : ∀ (k : Nat) (h : k < xs.length), sb (k : Int) = if p xs[k] = true then some (.inr (.inr (k : Int))) else some (.inl ((k : Int) + 1))) (he : sb (xs.length : Int) = some (.inr (.inl ()))) :
    iter sb 0 = some (if xs.any p = true then .inr (xs.findIdx p : Int) else .inl ()) := by
  have h := iter_res (sb := sb) (fun k => (k : Int)) (fun k => if (xs.drop k).any p = true then (.inr (k + (xs.drop k).findIdx p : Nat) : Unit ⊕ Int) else .inl ()) xs.length (by omega) (fun k hk => ?_) (by
    rw [he, List.drop_of_length_le (Nat.le_refl _)]; simp)
  · simpa using h
  · rw [hsb k hk, List.drop_eq_getElem_cons hk]
    by_cases hx : p xs[k] = true
    · right
      rw [if_pos hx]
      simp only [List.any_cons, hx, Bool.true_or, if_true, List.findIdx_cons, cond_true, Nat.add_zero]
    · left
      rw [if_neg hx]
      refine ⟨by simp, ?_⟩
      have hx' : p xs[k] = false := by simpa using hx
      simp only [List.any_cons, hx', Bool.false_or, List.findIdx_cons, cond_false]
      split <;> simp
      omega

theorem iterN_congr {σ ρ : Type} {sb1 sb2 : σ → Option (σ ⊕ ρ)} (I : σ → Prop) (hs : ∀ s, I s → sb1 s = sb2 s ∧ ∀ s', sb2 s = some (.inl s') → I s') : ∀ (n : Nat) (s : σ), I s → iterN sb1 n s = iterN sb2 n s
  | 0, _, _ => rfl
  | n + 1, s, h => by
    obtain ⟨h1, h2⟩ := hs s h
    simp only [iterN, h1]
    cases hb : sb2 s with
    | none => rfl
    | some o =>
      cases o with
      | inl s' => exact iterN_congr I hs n s' (h2 s' hb)
      | inr x => rfl
/-- Two loops whose bodies agree where the invariant holds. -/
theorem iter_congr {σ ρ : Type} {sb1 sb2 : σ → Option (σ ⊕ ρ)} (I : σ → Prop) {s0 : σ} (h0 : I s0) (hs : ∀ s, I s → sb1 s = sb2 s ∧ ∀ s', sb2 s = some (.inl s') → I s') : iter sb1 s0 = iter sb2 s0 :=
  iterN_congr I hs FUEL s0 h0

/-- A loop over a list, as a fold. -/
theorem iter_fold {T σ S ρ : Type} {sb : S → Option (S ⊕ ρ)} (xs : List T) (st : Nat → σ → S) (g : σ → T → σ) (h : σ → ρ) (I : Nat → σ → Prop) (s0 : σ) (h0 : I 0 s0) (hl : xs.length < 1099511627776)
    (hsb : ∀ (k : Nat) (hk : k < xs.length) s, I k s → sb (st k s) = some (.inl (st (k + 1) (g s xs[k]))) ∧ I (k + 1) (g s xs[k])) (he : ∀ s, I xs.length s → sb (st xs.length s) = some (.inr (h s))) :
    iter sb (st 0 s0) = some (h (xs.foldl g s0)) ∧ I xs.length (xs.foldl g s0) := by
  have hI : ∀ k, k ≤ xs.length → I k ((xs.take k).foldl g s0) := by
    intro k
    induction k with
    | zero => intro _; simpa using h0
    | succ k ih =>
      intro hk
      rw [List.take_succ_eq_append_getElem (by omega), List.foldl_append]
      exact (hsb k (by omega) _ (ih (by omega))).2
  have hlast := hI xs.length (Nat.le_refl _)
  rw [List.take_length] at hlast
  refine ⟨?_, hlast⟩
  refine iter_steps (fun k => st k ((xs.take k).foldl g s0)) xs.length (by omega) (fun k hk => ?_) (by rw [List.take_length]; exact he _ hlast)
  rw [(hsb k hk _ (hI k (by omega))).1, List.take_succ_eq_append_getElem hk, List.foldl_append]
  rfl

/-- The greater one. -/
def mx (a b : Int) : Int := if a < b then b else a
def mn (a b : Int) : Int := if b < a then b else a
theorem mx_comm' (a b : Int) : (if b < a then a else b) = mx a b := by unfold mx; split <;> split <;> omega
theorem foldl_snoc {α β : Type} (f : α → β) : ∀ (xs : List α) (a : List β), xs.foldl (fun acc m => acc ++ [f m]) a = a ++ xs.map f
  | [], a => by simp
  | x :: xs, a => by rw [List.foldl_cons, foldl_snoc f xs]; simp

/-! decimal -/
theorem u64_id {x : Int} (h1 : 0 ≤ x) (h2 : x < 18446744073709551616) : IntKind.u64.wrap x = x := by
  unfold IntKind.wrap
  have hs : IntKind.u64.signed = false := rfl
  have hb : IntKind.u64.bits = 64 := rfl
  simp only [hs, hb, Bool.false_and]
  show x % 2 ^ 64 = x
  omega
theorem u64_neg {x : Int} (h1 : -9223372036854775808 ≤ x) (h2 : x < 0) : IntKind.u64.wrap (0 - IntKind.u64.wrap x) = -x := by
  unfold IntKind.wrap
  have hs : IntKind.u64.signed = false := rfl
  have hb : IntKind.u64.bits = 64 := rfl
  simp only [hs, hb, Bool.false_and]
  show (0 - x % 2 ^ 64) % 2 ^ 64 = -x
  omega
theorem u8_id {x : Int} (h1 : 0 ≤ x) (h2 : x < 256) : IntKind.u8.wrap x = x := by
  unfold IntKind.wrap
  have hs : IntKind.u8.signed = false := rfl
  have hb : IntKind.u8.bits = 8 := rfl
  simp only [hs, hb, Bool.false_and]
  show x % 2 ^ 8 = x
  omega

/-- The digits of a number, the first one first. -/
def digs (n : Nat) : List Int := if h : n = 0 then [] else digs (n / 10) ++ [48 + ((n % 10 : Nat) : Int)]
decreasing_by omega
theorem digs_zero : digs 0 = [] := by unfold digs; simp
theorem digs_pos {n : Nat} (h : 0 < n) : digs n = digs (n / 10) ++ [48 + ((n % 10 : Nat) : Int)] := by
  rw [digs]; simp [show n ≠ 0 by omega]
theorem digs_len : ∀ (k n : Nat), n < 10 ^ k → (digs n).length ≤ k
  | 0, n, h => by
    have : n = 0 := by simpa using h
    subst this; simp [digs_zero]
  | k + 1, n, h => by
    by_cases h0 : n = 0
    · subst h0; simp [digs_zero]
    · rw [digs_pos (by omega), List.length_append]
      have := digs_len k (n / 10) (by rw [Nat.pow_succ] at h; omega)
      simp; omega
theorem digs_byte (n : Nat) : ∀ x ∈ digs n, 48 ≤ x ∧ x ≤ 57 := by
  induction n using Nat.strongRecOn with
  | ind n ih =>
    intro x hx
    by_cases h0 : n = 0
    · subst h0; rw [digs_zero] at hx; simp at hx
    · rw [digs_pos (by omega)] at hx
      rcases List.mem_append.1 hx with h | h
      · exact ih (n / 10) (by omega) x h
      · simp at h; omega
theorem digs_ne {n : Nat} (h : 0 < n) : digs n ≠ [] := by rw [digs_pos h]; simp

/-- The bytes of a number in decimal. -/
def decL (n : Int) : List Int := if n = 0 then [48] else (if n < 0 then [45] else []) ++ digs n.natAbs
theorem decL_len {n : Int} (h1 : -9223372036854775808 ≤ n) (h2 : n ≤ 9223372036854775807) : (decL n).length ≤ 20 := by
  unfold decL
  have := digs_len 19 n.natAbs (by omega)
  split
  · simp
  · split <;> simp <;> omega
theorem decL_byte (n : Int) : ∀ x ∈ decL n, 0 ≤ x ∧ x < 256 := by
  intro x hx
  unfold decL at hx
  split at hx
  · simp at hx; omega
  · rcases List.mem_append.1 hx with h | h
    · split at h <;> simp at h; omega
    · have := digs_byte _ x h; omega

/-! bytes as a string -/
theorem bytesS_foldl : ∀ (xs : List Int) (s : ByteArray), xs.foldl (fun r n => r.push (UInt8.ofNat n.toNat)) s = ⟨s.data ++ (xs.map fun n => UInt8.ofNat n.toNat).toArray⟩
  | [], s => by simp
  | n :: ns, s => by
    rw [List.foldl_cons, bytesS_foldl ns]
    simp [ByteArray.push]
theorem bytesS_data (xs : List Int) : bytesS xs = ⟨(xs.map fun n => UInt8.ofNat n.toNat).toArray⟩ := by
  unfold bytesS
  rw [bytesS_foldl]
  congr 1
  apply Array.ext'
  simp [ByteArray.empty, ByteArray.emptyWithCapacity]
  rfl
theorem bytesS_size (xs : List Int) : (bytesS xs).size = xs.length := by
  rw [bytesS_data]
  show (List.toArray _).size = _
  simp
theorem bytesS_append (xs ys : List Int) : bytesS xs ++ bytesS ys = bytesS (xs ++ ys) := by
  apply ByteArray.ext
  rw [ByteArray.data_append, bytesS_data, bytesS_data, bytesS_data]
  apply Array.ext'
  simp
theorem strI_bytesS {xs : List Int} (h : ∀ x ∈ xs, 0 ≤ x ∧ x < 256) : strI (bytesS xs) = xs := by
  rw [bytesS_data, strI]
  simp only [List.map_map]
  conv => rhs; rw [← List.map_id xs]
  refine List.map_congr_left fun x hx => ?_
  obtain ⟨h1, h2⟩ := h x hx
  show ((UInt8.ofNat x.toNat).toNat : Int) = x
  rw [UInt8.toNat_ofNat']
  omega
theorem catS_ok {xs ys : List Int} (h : xs.length + ys.length ≤ 1099511627776) : catS (bytesS xs) (bytesS ys) = some (bytesS (xs ++ ys)) := by
  have : LIM = 1099511627776 := rfl
  unfold catS
  rw [bytesS_size, bytesS_size, if_pos (by omega), bytesS_append]
theorem lit_nil : (ByteArray.mk #[] : ByteArray) = bytesS [] := rfl
theorem lit_minus : (ByteArray.mk #[45] : ByteArray) = bytesS [45] := rfl
theorem lit_zero : (ByteArray.mk #[48] : ByteArray) = bytesS [48] := rfl
theorem lit_blank : (ByteArray.mk #[32] : ByteArray) = bytesS [32] := rfl

theorem tmod_abs (n : Int) : (if n.tmod 10 < 0 then 0 - n.tmod 10 else n.tmod 10) = ((n.natAbs % 10 : Nat) : Int) := by
  by_cases h : 0 ≤ n
  · rw [Int.tmod_eq_emod_of_nonneg h]; split <;> omega
  · have := Int.neg_tmod (-n) 10
    rw [Int.neg_neg] at this
    rw [this, Int.tmod_eq_emod_of_nonneg (by omega)]
    split <;> omega
theorem tdiv_abs (n : Int) : (n.tdiv 10).natAbs = n.natAbs / 10 := by
  rw [Int.natAbs_tdiv]; rfl

theorem l01Dec_eq (n : Int) (h1 : -9223372036854775808 ≤ n) (h2 : n ≤ 9223372036854775807) : sh144 n = some (bytesS (decL n)) := by
  unfold sh144
  have hN : n.natAbs < 10 ^ 19 := by omega
  obtain ⟨b, hb, hr⟩ := iter_inv (sb := sh144_1) (fun (s : Int × List Int) => -9223372036854775808 ≤ s.1 ∧ s.1 ≤ 9223372036854775807 ∧ digs n.natAbs = digs s.1.natAbs ++ s.2) (fun s => (digs s.1.natAbs).length) (fun (b : List Int) => b = digs n.natAbs) (s0 := (n, [])) ⟨h1, h2, by simp⟩ (by have := digs_len 19 _ hN; simp only; omega) (by
    rintro ⟨x, l⟩ ⟨h3, h4, h5⟩
    simp only at h3 h4 h5
    by_cases hx : x = 0
    · right
      subst hx
      refine ⟨l, rfl, ?_⟩
      rw [h5]; simp [digs_zero]
    · left
      have hlen := digs_len 19 _ hN
      rw [h5, List.length_append] at hlen
      have hne : (x != 0) = true := bne_iff_ne.2 hx
      have hd := tmod_abs x
      simp only [sh144_1, hne, cond_true]
      have e1 : (bif decide ((x.tmod 10) < 0) then (some (w64 (0 - (x.tmod 10)))) else (some (x.tmod 10))) = some ((x.natAbs % 10 : Nat) : Int) := by
        rw [← hd]
        by_cases hneg : x.tmod 10 < 0
        · rw [if_pos hneg] at hd ⊢
          simp only [hneg, decide_true, cond_true]
          rw [w64_id (by omega) (by omega)]
        · rw [if_neg hneg]; simp [hneg]
      have hdiv := tdiv_abs x
      rw [e1, bindS, w64_id (x := 48 + _) (by omega) (by omega), u8_id (by omega) (by omega), appL_ok (by simp only [List.length_cons, List.length_nil]; omega), bindS, w64_id (x := x.tdiv 10) (by omega) (by omega)]
      have hp := digs_pos (n := x.natAbs) (by omega)
      refine ⟨_, rfl, ⟨?_, ?_, ?_⟩, ?_⟩
      · simp only; omega
      · simp only; omega
      · simp only
        rw [hdiv, h5, hp, List.append_assoc]
      · simp only; rw [hdiv, hp]; simp)
  rw [hb, bindS, hr]
  by_cases h0 : n = 0
  · subst h0; rw [Int.natAbs_zero, digs_zero]; rfl
  · have hne := digs_ne (n := n.natAbs) (by omega)
    have hl : ((digs n.natAbs).length : Int) ≠ 0 := by
      have := List.length_pos_iff.2 hne
      omega
    have hlen := digs_len 19 _ hN
    rw [beq_eq_false_iff_ne.2 hl, cond_false]
    unfold decL
    rw [if_neg h0]
    by_cases hneg : n < 0
    · simp only [hneg, decide_true, cond_true, if_true]
      rw [lit_minus, catS_ok (by simp only [List.length_cons, List.length_nil]; omega), bindS]
    · simp [hneg]

theorem Decimal_eq (n : Int) (h1 : -9223372036854775808 ≤ n) (h2 : n ≤ 9223372036854775807) : sh109 n = some (bytesS (decL n)) := by
  unfold sh109
  by_cases h0 : n = 0
  · subst h0; rfl
  · have hN : n.natAbs < 10 ^ 19 := by omega
    rw [beq_eq_false_iff_ne.2 h0, cond_false]
    have e1 : (bif decide (n < 0) then (some (IntKind.u64.wrap (0 - (IntKind.u64.wrap n)))) else (some (IntKind.u64.wrap n))) = some (n.natAbs : Int) := by
      by_cases hneg : n < 0
      · simp only [hneg, decide_true, cond_true]
        rw [u64_neg h1 hneg]; congr 1; omega
      · have hd : decide (n < 0) = false := decide_eq_false hneg
        simp only [hd, cond_false]
        rw [u64_id (by omega) (by omega)]; congr 1; omega
    rw [e1, bindS]
    obtain ⟨b, hb, hr1, hr2, hr3, hr4⟩ := iter_inv (sb := sh109_1) (fun (s : Int × Int × List Int) => ∃ a r : Nat, s.1 = (a : Int) ∧ s.2.1 = (r : Int) ∧ 1 ≤ a ∧ a ≤ 20 ∧ r < 10 ^ (a - 1) ∧ s.2.2.length = 20 ∧ digs n.natAbs = digs r ++ s.2.2.drop a) (fun s => s.1.toNat)
      (fun (b : Int × List Int) => 1 ≤ b.1 ∧ b.1 ≤ 20 ∧ b.2.length = 20 ∧ digs n.natAbs = b.2.drop b.1.toNat) (s0 := (20, (n.natAbs : Int), List.replicate 20 (0 : Int)))
      ⟨20, n.natAbs, rfl, rfl, by omega, by omega, hN, rfl, by simp⟩ (by simp only; omega) (by
      rintro ⟨x, y, l⟩ ⟨a, r, rfl, rfl, ha1, ha2, hr, hl, hd⟩
      simp only at hl hd ⊢
      by_cases hr0 : r = 0
      · right
        subst hr0
        refine ⟨((a : Int), l), rfl, by simp only; omega, by simp only; omega, hl, ?_⟩
        simp only [Int.toNat_natCast]
        rw [hd, digs_zero, List.nil_append]
      · left
        have ha : 2 ≤ a := by
          rcases Nat.lt_or_ge a 2 with h | h
          · have : a = 1 := by omega
            subst this
            simp at hr; omega
          · exact h
        have hp : 10 ^ (a - 1) ≤ 10 ^ 19 := Nat.pow_le_pow_right (by omega) (by omega)
        have hp2 : 10 ^ (a - 1) = 10 ^ (a - 1 - 1) * 10 := by rw [← Nat.pow_succ]; congr 1; omega
        have hpos : (0 : Int) < (r : Int) := by omega
        have hw : w64 ((a : Int) - 1) = ((a - 1 : Nat) : Int) := by rw [w64_id (by omega) (by omega)]; omega
        have hlt : a - 1 < l.length := by omega
        have et : ((r : Int)).tmod 10 = ((r % 10 : Nat) : Int) := by rw [Int.tmod_eq_emod_of_nonneg (by omega)]; omega
        have ed : ((r : Int)).tdiv 10 = ((r / 10 : Nat) : Int) := by rw [Int.tdiv_eq_ediv_of_nonneg (by omega)]; omega
        simp only [sh109_1, hpos, decide_true, cond_true, hw, getI_lt hlt, bindS, et, ed, Int.toNat_natCast]
        rw [u64_id (x := ((r / 10 : Nat) : Int)) (by omega) (by omega), u64_id (x := 48 + ((r % 10 : Nat) : Int)) (by omega) (by omega), u8_id (by omega) (by omega)]
        refine ⟨_, rfl, ⟨a - 1, r / 10, rfl, rfl, by omega, by omega, by omega, by simp only [List.length_set]; exact hl, ?_⟩, by simp only [Int.toNat_natCast]; omega⟩
        simp only
        rw [hd, digs_pos (n := r) (by omega), List.append_assoc]
        congr 1
        rw [List.drop_eq_getElem_cons (i := a - 1) (by rw [List.length_set]; exact hlt), List.getElem_set_self, List.drop_set_of_lt (by omega)]
        rw [show a - 1 + 1 = a by omega]
        rfl)
    rw [hb, bindS]
    obtain ⟨x, l⟩ := b
    simp only at hr1 hr2 hr3 hr4
    obtain ⟨a, rfl⟩ : ∃ a : Nat, x = a := ⟨x.toNat, by omega⟩
    simp only [Int.toNat_natCast] at hr4
    unfold decL
    rw [if_neg h0]
    by_cases hneg : n < 0
    · have hw : w64 ((a : Int) - 1) = ((a - 1 : Nat) : Int) := by rw [w64_id (by omega) (by omega)]; omega
      have hlt : a - 1 < l.length := by omega
      simp only [hneg, decide_true, cond_true, hw, getI_lt hlt, bindS, if_true, Int.toNat_natCast]
      have hdl : dropL (l.set (a - 1) 45) ((a - 1 : Nat) : Int) = some ((l.set (a - 1) 45).drop (a - 1)) := by
        simp [dropL]; omega
      rw [hdl, bindS, List.drop_eq_getElem_cons (i := a - 1) (by rw [List.length_set]; exact hlt), List.getElem_set_self, List.drop_set_of_lt (by omega), hr4]
      rw [show a - 1 + 1 = a by omega]
      rfl
    · have hd : decide (n < 0) = false := decide_eq_false hneg
      have hdl : dropL l (a : Int) = some (l.drop a) := by
        simp [dropL]; omega
      simp only [hd, cond_false, bindS, hdl]
      rw [if_neg hneg, List.nil_append, hr4]

/-! strs -/
def isByte (x : Int) : Prop := 0 ≤ x ∧ x < 256
theorem strI_byte (s : ByteArray) : ∀ x ∈ strI s, isByte x := by
  intro x hx
  unfold strI at hx
  obtain ⟨b, _, rfl⟩ := List.mem_map.1 hx
  have := UInt8.toNat_lt b
  unfold isByte
  omega
theorem bytesS_strI (s : ByteArray) : bytesS (strI s) = s := by
  rw [bytesS_data, strI, List.map_map]
  apply ByteArray.ext
  apply Array.ext'
  simp only [List.map_map]
  conv => rhs; rw [← List.map_id s.data.toList]
  refine List.map_congr_left fun b _ => ?_
  show UInt8.ofNat ((b.toNat : Int)).toNat = b
  rw [Int.toNat_natCast]
  exact UInt8.ofNat_toNat
theorem strI_inj {a b : ByteArray} (h : strI a = strI b) : a = b := by rw [← bytesS_strI a, h, bytesS_strI]
theorem bytesS_inj {A B : List Int} (hA : ∀ x ∈ A, isByte x) (hB : ∀ x ∈ B, isByte x) (h : bytesS A = bytesS B) : A = B := by
  rw [← strI_bytesS hA, h, strI_bytesS hB]
theorem toList_loop (s : ByteArray) : ∀ (k i : Nat) (r : List UInt8), s.size - i = k → ByteArray.toList.loop s i r = r.reverse ++ s.data.toList.drop i
  | 0, i, r, h => by
    rw [ByteArray.toList.loop, if_neg (by omega), List.drop_of_length_le (by show s.data.size ≤ i; have : s.data.size = s.size := rfl; omega), List.append_nil]
  | k + 1, i, r, h => by
    have hi : i < s.size := by omega
    have hi2 : i < s.data.toList.length := hi
    rw [ByteArray.toList.loop, if_pos hi, toList_loop s k (i + 1) _ (by omega), List.drop_eq_getElem_cons hi2, List.reverse_cons, List.append_assoc]
    have : s.get! i = s.data.toList[i] := by
      show s.data[i]! = _
      rw [getElem!_pos s.data i hi]
      simp
    rw [this]
    rfl
theorem toList_data (s : ByteArray) : s.toList = s.data.toList := by
  unfold ByteArray.toList
  rw [toList_loop s s.size 0 [] (by omega)]
  simp
theorem toList_inj {a b : ByteArray} (h : a.toList = b.toList) : a = b := by
  rw [toList_data, toList_data] at h
  exact ByteArray.ext (Array.toList_inj.1 h)
theorem eqS {A B : List Int} (hA : ∀ x ∈ A, isByte x) (hB : ∀ x ∈ B, isByte x) : ((bytesS A).toList == (bytesS B).toList) = decide (A = B) := by
  by_cases h : A = B
  · subst h; simp
  · have : (bytesS A).toList ≠ (bytesS B).toList := fun he => h (bytesS_inj hA hB (toList_inj he))
    simp [h, this]
theorem getS_strI (s : ByteArray) (k : Nat) : getS s (k : Int) = (strI s)[k]? := by
  unfold getS strI
  rw [if_pos (by omega), Int.toNat_natCast, List.getElem?_map]
  congr 1
  by_cases h : k < s.size
  · rw [getElem?_pos s k h, List.getElem?_eq_getElem (show k < s.data.toList.length from h)]
    rfl
  · rw [getElem?_neg s k h, List.getElem?_eq_none (show s.data.toList.length ≤ k from Nat.le_of_not_lt h)]
theorem getS_ok {L : List Int} (hb : ∀ x ∈ L, isByte x) {k : Nat} (h : k < L.length) : getS (bytesS L) (k : Int) = some L[k] := by
  rw [getS_strI, strI_bytesS hb, List.getElem?_eq_getElem h]
theorem subS_ok {L : List Int} (hb : ∀ x ∈ L, isByte x) {i j : Nat} (hij : i ≤ j) (h : j ≤ L.length) : subS (bytesS L) (i : Int) (j : Int) = some (bytesS ((L.drop i).take (j - i))) := by
  unfold subS
  rw [if_pos (by rw [bytesS_size]; omega), Int.toNat_natCast, Int.toNat_natCast]
  congr 1
  apply strI_inj
  rw [strI_bytesS (fun x hx => hb x (List.mem_of_mem_drop (List.mem_of_mem_take hx)))]
  unfold strI
  rw [ByteArray.data_extract, Array.toList_extract, List.extract_eq_take_drop, List.map_take, List.map_drop]
  have := strI_bytesS hb
  unfold strI at this
  rw [this]
theorem mem_drop_take {L : List Int} (hb : ∀ x ∈ L, isByte x) (i j : Nat) : ∀ x ∈ (L.drop i).take j, isByte x := fun x hx => hb x (List.mem_of_mem_drop (List.mem_of_mem_take hx))

/-! parts of a text -/
def consHead (x : Int) : List (List Int) → List (List Int)
  | [] => [[x]]
  | h :: t => (x :: h) :: t
def splitL (b : Int) : List Int → List (List Int)
  | [] => [[]]
  | x :: xs => if x = b then [] :: splitL b xs else consHead x (splitL b xs)
theorem splitL_ne (b : Int) (L : List Int) : splitL b L ≠ [] := by
  cases L with
  | nil => simp [splitL]
  | cons x xs =>
    unfold splitL
    split
    · simp
    · cases splitL b xs <;> simp [consHead]
theorem splitL_none {b : Int} : ∀ {a : List Int}, b ∉ a → splitL b a = [a]
  | [], _ => rfl
  | x :: xs, h => by
    have h1 : x ≠ b := fun e => h (by simp [e])
    have h2 : b ∉ xs := fun e => h (by simp [e])
    rw [splitL, if_neg h1, splitL_none h2]
    rfl
theorem splitL_app {b : Int} : ∀ {a : List Int} (c : List Int), b ∉ a → splitL b (a ++ b :: c) = a :: splitL b c
  | [], c, _ => by simp [splitL]
  | x :: xs, c, h => by
    have h1 : x ≠ b := fun e => h (by simp [e])
    have h2 : b ∉ xs := fun e => h (by simp [e])
    rw [List.cons_append, splitL, if_neg h1, splitL_app c h2]
    rfl
theorem splitL_mem {b : Int} {p : Int → Prop} : ∀ {L : List Int}, (∀ x ∈ L, p x) → ∀ w ∈ splitL b L, ∀ x ∈ w, p x
  | [], _, w, hw, x, hx => by simp [splitL] at hw; subst hw; cases hx
  | y :: ys, h, w, hw, x, hx => by
    have ih := splitL_mem (b := b) (fun z hz => h z (List.mem_cons_of_mem _ hz)) (L := ys)
    rw [splitL] at hw
    split at hw
    · rcases List.mem_cons.1 hw with rfl | hw
      · cases hx
      · exact ih w hw x hx
    · cases hs : splitL b ys with
      | nil => exact absurd hs (splitL_ne b ys)
      | cons u t =>
        rw [hs, consHead] at hw
        rw [hs] at ih
        rcases List.mem_cons.1 hw with rfl | hw
        · rcases List.mem_cons.1 hx with rfl | hx
          · exact h _ (List.mem_cons_self ..)
          · exact ih u (List.mem_cons_self ..) x hx
        · exact ih w (List.mem_cons_of_mem _ hw) x hx
theorem splitL_bound {b : Int} : ∀ (L : List Int), (splitL b L).length ≤ L.length + 1 ∧ ∀ w ∈ splitL b L, w.length ≤ L.length
  | [] => by simp [splitL]
  | y :: ys => by
    obtain ⟨h1, h2⟩ := splitL_bound (b := b) ys
    rw [splitL]
    split
    · refine ⟨by simp only [List.length_cons]; omega, fun w hw => ?_⟩
      rcases List.mem_cons.1 hw with rfl | hw
      · simp
      · have := h2 w hw; simp only [List.length_cons]; omega
    · cases hs : splitL b ys with
      | nil => exact absurd hs (splitL_ne b ys)
      | cons u t =>
        rw [hs] at h1 h2
        refine ⟨by simp only [consHead, List.length_cons] at h1 ⊢; omega, fun w hw => ?_⟩
        rw [consHead] at hw
        rcases List.mem_cons.1 hw with rfl | hw
        · have := h2 u (List.mem_cons_self ..); simp only [List.length_cons]; omega
        · have := h2 w (List.mem_cons_of_mem _ hw); simp only [List.length_cons]; omega
theorem drop_split {L : List Int} {f i : Nat} (hf : f ≤ i) (hi : i < L.length) : L.drop f = (L.drop f).take (i - f) ++ L[i] :: L.drop (i + 1) := by
  conv => lhs; rw [← List.take_append_drop (i - f) (L.drop f)]
  rw [List.drop_drop, show f + (i - f) = i by omega, List.drop_eq_getElem_cons hi]
theorem take_snoc {L : List Int} {f i : Nat} (hf : f ≤ i) (hi : i < L.length) : (L.drop f).take (i + 1 - f) = (L.drop f).take (i - f) ++ [L[i]] := by
  rw [show i + 1 - f = (i - f) + 1 by omega, List.take_succ_eq_append_getElem (by rw [List.length_drop]; omega), List.getElem_drop]
  congr 2
  simp only [show f + (i - f) = i by omega]

theorem splitAt_eq (L : List Int) (b : Int) (hb : ∀ x ∈ L, isByte x) (hl : L.length ≤ 1048576) : sh80 (bytesS L) b = some ((splitL b L).map bytesS) := by
  unfold sh80
  obtain ⟨y, hy, f, acc, rfl, hf, hacc, hno, hal⟩ := iter_inv (sb := sh80_1 (bytesS L) b)
    (fun (s : Int × Int × List ByteArray) => ∃ (f i : Nat) (acc : List (List Int)), s = ((f : Int), (i : Int), acc.map bytesS) ∧ f ≤ i ∧ i ≤ L.length ∧ acc ++ splitL b (L.drop f) = splitL b L ∧ b ∉ (L.drop f).take (i - f) ∧ acc.length ≤ f)
    (fun s => L.length - s.2.1.toNat)
    (fun (y : Int × List ByteArray) => ∃ (f : Nat) (acc : List (List Int)), y = ((f : Int), acc.map bytesS) ∧ f ≤ L.length ∧ acc ++ splitL b (L.drop f) = splitL b L ∧ b ∉ L.drop f ∧ acc.length ≤ f) (s0 := (0, 0, []))
    ⟨0, 0, [], rfl, by omega, by omega, by simp, by simp, by simp⟩ (by simp only; omega) (by
    rintro s ⟨f, i, acc, rfl, h1, h2, h3, h4, h5⟩
    by_cases hi : i < L.length
    · left
      have hd : decide ((i : Int) < ((bytesS L).size : Int)) = true := by rw [bytesS_size]; exact decide_eq_true (by omega)
      simp only [sh80_1, hd, cond_true, getS_ok hb hi, bindS]
      by_cases he : L[i] = b
      · have hp := subS_ok hb h1 (Nat.le_of_lt hi)
        rw [show (L[i] == b) = true from beq_iff_eq.2 he, cond_true, hp, bindS, appL_ok (by simp only [List.length_map, List.length_cons, List.length_nil]; omega), bindS, bindS, w64_id (by omega) (by omega)]
        refine ⟨_, rfl, ⟨i + 1, i + 1, acc ++ [(L.drop f).take (i - f)], by simp, by omega, by omega, ?_, by simp, by simp; omega⟩, by simp only; omega⟩
        rw [← h3, drop_split h1 hi, he, splitL_app _ h4]
        simp only [List.append_assoc, List.cons_append, List.nil_append]
        rw [← he, ← drop_split h1 hi]
      · rw [show (L[i] == b) = false from beq_eq_false_iff_ne.2 he, cond_false, bindS, w64_id (by omega) (by omega)]
        refine ⟨_, rfl, ⟨f, i + 1, acc, by simp, by omega, by omega, h3, ?_, h5⟩, by simp only; omega⟩
        rw [take_snoc h1 hi]
        intro hm
        rcases List.mem_append.1 hm with hm | hm
        · exact h4 hm
        · simp at hm; exact he hm.symm
    · right
      have hd : decide ((i : Int) < ((bytesS L).size : Int)) = false := by rw [bytesS_size]; exact decide_eq_false (by omega)
      simp only [sh80_1, hd, cond_false]
      refine ⟨_, rfl, f, acc, rfl, by omega, h3, ?_, h5⟩
      rw [List.take_of_length_le (by rw [List.length_drop]; omega)] at h4
      exact h4)
  rw [hy, bindS]
  have hp := subS_ok hb hf (Nat.le_refl L.length)
  rw [bytesS_size]
  rw [List.take_of_length_le (by rw [List.length_drop]; omega)] at hp
  rw [hp, bindS, appL_ok (by simp only [List.length_map, List.length_cons, List.length_nil]; omega), bindS, ← hacc, splitL_none hno]
  simp
theorem l01Split_same (s : ByteArray) (b : Int) : sh85 s b = sh80 s b := rfl
theorem l01Split_eq (L : List Int) (b : Int) (hb : ∀ x ∈ L, isByte x) (hl : L.length ≤ 1048576) : sh85 (bytesS L) b = some ((splitL b L).map bytesS) := by
  rw [l01Split_same, splitAt_eq L b hb hl]

/-! numbers -/
def isDig (x : Int) : Bool := decide (48 ≤ x) && decide (x ≤ 57)
def valD (D : List Int) : Int := D.foldl (fun a d => 10 * a + (d - 48)) 0
theorem valD_snoc (D : List Int) (x : Int) : valD (D ++ [x]) = 10 * valD D + (x - 48) := by simp [valD]
theorem valD_digs (n : Nat) : valD (digs n) = n := by
  induction n using Nat.strongRecOn with
  | ind n ih =>
    by_cases h0 : n = 0
    · subst h0; rw [digs_zero]; rfl
    · rw [digs_pos (by omega), valD_snoc, ih (n / 10) (by omega)]; omega
theorem digs_isDig (n : Nat) : (digs n).all isDig = true := by
  rw [List.all_eq_true]
  intro x hx
  have := digs_byte n x hx
  unfold isDig
  simp only [Bool.and_eq_true, decide_eq_true_eq]
  exact this
theorem digLoop (D : List Int) (hb : ∀ x ∈ D, isByte x) (hl : D.length ≤ 18) : iter (sh82_1 (bytesS D)) (0, 0) = some (if D.all isDig = true then .inl (valD D) else .inr (0, false)) ∧
    (D.all isDig = true → 0 ≤ valD D ∧ valD D < 1000000000000000000) := by
  obtain ⟨y, hy, hr⟩ := iter_inv (sb := sh82_1 (bytesS D)) (fun (s : Int × Int) => ∃ k : Nat, s = (valD (D.take k), (k : Int)) ∧ k ≤ D.length ∧ (D.take k).all isDig = true ∧ 0 ≤ valD (D.take k) ∧ valD (D.take k) < ((10 ^ k : Nat) : Int))
    (fun s => D.length - s.2.toNat) (fun (y : Int ⊕ (Int × Bool)) => y = (if D.all isDig = true then .inl (valD D) else .inr (0, false)) ∧ (D.all isDig = true → 0 ≤ valD D ∧ valD D < 1000000000000000000)) (s0 := (0, 0))
    ⟨0, rfl, by omega, rfl, by simp [valD], by simp [valD]⟩ (by simp only; omega) (by
    rintro s ⟨k, rfl, h1, h2, h3, h4⟩
    by_cases hk : k < D.length
    · have hd : decide ((k : Int) < ((bytesS D).size : Int)) = true := by rw [bytesS_size]; exact decide_eq_true (by omega)
      have hbk := hb _ (List.getElem_mem hk)
      simp only [sh82_1, hd, cond_true, getS_ok hb hk, bindS]
      have ec : (bif decide (D[k] < 48) then (some true) else some (decide (57 < D[k]))) = some (!isDig D[k]) := by
        unfold isDig
        by_cases h5 : D[k] < 48
        · rw [decide_eq_true h5, decide_eq_false (show ¬ 48 ≤ D[k] by omega)]; rfl
        · rw [decide_eq_false h5, decide_eq_true (show 48 ≤ D[k] by omega)]
          by_cases h6 : 57 < D[k]
          · rw [decide_eq_true h6, decide_eq_false (show ¬ D[k] ≤ 57 by omega)]; rfl
          · rw [decide_eq_false h6, decide_eq_true (show D[k] ≤ 57 by omega)]; rfl
      rw [ec, bindS]
      cases hdg : isDig D[k]
      · right
        refine ⟨_, rfl, ?_, ?_⟩
        · rw [if_neg]
          rw [List.all_eq_true]
          intro h
          rw [h _ (List.getElem_mem hk)] at hdg
          cases hdg
        · intro h
          rw [List.all_eq_true] at h
          rw [h _ (List.getElem_mem hk)] at hdg
          cases hdg
      · left
        have hx := hdg
        unfold isDig at hx
        simp only [Bool.and_eq_true, decide_eq_true_eq] at hx
        have hp : 10 ^ k ≤ 10 ^ 17 := Nat.pow_le_pow_right (by omega) (by omega)
        have hps : 10 ^ (k + 1) = 10 ^ k * 10 := Nat.pow_succ ..
        simp only [Bool.not_true, cond_false]
        rw [w64_id (x := 10 * valD (D.take k)) (by omega) (by omega), u8_id (by omega) (by omega), w64_id (x := D[k] - 48) (by omega) (by omega), w64_id (x := 10 * valD (D.take k) + (D[k] - 48)) (by omega) (by omega), w64_id (x := (k : Int) + 1) (by omega) (by omega)]
        have hv : valD (D.take (k + 1)) = 10 * valD (D.take k) + (D[k] - 48) := by rw [List.take_succ_eq_append_getElem hk, valD_snoc]
        refine ⟨_, rfl, ⟨k + 1, by rw [hv]; rfl, by omega, by rw [List.take_succ_eq_append_getElem hk, List.all_append, h2]; simp [hdg], by omega, by omega⟩, by simp only; omega⟩
    · right
      have hd : decide ((k : Int) < ((bytesS D).size : Int)) = false := by rw [bytesS_size]; exact decide_eq_false (by omega)
      simp only [sh82_1, hd, cond_false]
      have hkl : k = D.length := by omega
      subst hkl
      rw [List.take_length] at h2 h3 h4 ⊢
      have hp : 10 ^ D.length ≤ 10 ^ 18 := Nat.pow_le_pow_right (by omega) (by omega)
      exact ⟨_, rfl, by rw [if_pos h2], fun _ => ⟨h3, by omega⟩⟩)
  exact ⟨by rw [hy, hr.1], hr.2⟩

/-- What both readers of a number come to. -/
def digPart (L : List Int) : List Int := if L.head? = some 45 then L.tail else L
def numV (L : List Int) : Int := if (digPart L).length < L.length then 0 - valD (digPart L) else valD (digPart L)
def readD (L : List Int) : Int × Bool :=
  if (digPart L).length < 1 ∨ 18 < (digPart L).length then (0, false)
  else if (digPart L).all isDig = true then
    (if decL (numV L) = L then (numV L, true) else (0, false))
  else (0, false)
theorem digPart_byte {L : List Int} (hb : ∀ x ∈ L, isByte x) : ∀ x ∈ digPart L, isByte x := by
  intro x hx
  unfold digPart at hx
  split at hx
  · exact hb x (List.mem_of_mem_tail hx)
  · exact hb x hx
theorem readDecimal_eq (L : List Int) (hb : ∀ x ∈ L, isByte x) (hl : L.length ≤ 1048576) : sh82 (bytesS L) = some (readD L) := by
  unfold sh82 readD
  have e1 : (bif decide (0 < ((bytesS L).size : Int)) then (Option.bind (getS (bytesS L) 0) fun x2 => some (x2 == 45)) else (some false)) = some (decide (L.head? = some 45)) := by
    rw [bytesS_size]
    cases L with
    | nil => rfl
    | cons x xs =>
      have h := getS_ok hb (k := 0) (by simp)
      simp only [Int.natCast_zero] at h
      rw [decide_eq_true (by simp only [List.length_cons]; omega), cond_true, h, bindS]
      simp only [List.getElem_cons_zero, List.head?_cons, Option.some.injEq]
      by_cases hx : x = 45
      · subst hx; rfl
      · rw [beq_eq_false_iff_ne.2 hx, decide_eq_false hx]
  have e2 : (bif decide (L.head? = some 45) then (Option.bind (subS (bytesS L) 1 ((bytesS L).size : Int)) fun x12 => some x12) else (some (bytesS L))) = some (bytesS (digPart L)) := by
    unfold digPart
    by_cases hh : L.head? = some 45
    · rw [decide_eq_true hh, cond_true, if_pos hh, bytesS_size]
      cases L with
      | nil => cases hh
      | cons x xs =>
        have h := subS_ok hb (i := 1) (j := (x :: xs).length) (by simp) (Nat.le_refl _)
        rw [show ((1 : Nat) : Int) = 1 from rfl] at h
        rw [h, bindS]
        simp
    · rw [decide_eq_false hh, cond_false, if_neg hh]
  rw [e1, bindS, e2, bindS, bytesS_size, bytesS_size]
  have hdb := digPart_byte hb
  by_cases hlen : (digPart L).length < 1 ∨ 18 < (digPart L).length
  · rw [if_pos hlen]
    have : (decide (((digPart L).length : Int) < 1) || decide (18 < ((digPart L).length : Int))) = true := by
      rw [Bool.or_eq_true, decide_eq_true_eq, decide_eq_true_eq]; omega
    rw [this]; rfl
  · rw [if_neg hlen]
    have : (decide (((digPart L).length : Int) < 1) || decide (18 < ((digPart L).length : Int))) = false := by
      rw [Bool.or_eq_false_iff, decide_eq_false_iff_not, decide_eq_false_iff_not]; omega
    obtain ⟨h1, h2⟩ := digLoop (digPart L) hdb (by omega)
    rw [this, cond_false, h1, bindS]
    by_cases ha : (digPart L).all isDig = true
    · obtain ⟨h3, h4⟩ := h2 ha
      rw [if_pos ha, if_pos ha]
      simp only [elimS]
      have e3 : (bif decide (((digPart L).length : Int) < (L.length : Int)) then (some (w64 (0 - valD (digPart L)))) else (some (valD (digPart L)))) = some (numV L) := by
        unfold numV
        by_cases hc : (digPart L).length < L.length
        · rw [decide_eq_true (by omega), cond_true, if_pos hc, w64_id (by omega) (by omega)]
        · rw [decide_eq_false (by omega), cond_false, if_neg hc]
      rw [e3, bindS]
      have hr : -9223372036854775808 ≤ numV L ∧ numV L ≤ 9223372036854775807 := by unfold numV; split <;> omega
      rw [Decimal_eq _ hr.1 hr.2, bindS, eqS (decL_byte _) hb]
      by_cases hd : decL (numV L) = L
      · rw [if_pos hd, decide_eq_true hd]; rfl
      · rw [if_neg hd, decide_eq_false hd]; rfl
    · rw [if_neg ha, if_neg ha]; rfl
theorem numLoop_same (s : ByteArray) : sh140_1 s = sh82_1 s := by
  funext ⟨a, i⟩
  simp only [sh140_1, sh82_1, sh181]
  cases decide (i < (s.size : Int))
  · rfl
  · simp only [cond_true]
    cases hg : getS s i with
    | none => rfl
    | some x =>
      simp only [bindS]
      by_cases h5 : x < 48
      · rw [decide_eq_true h5, decide_eq_false (show ¬ 48 ≤ x by omega)]; rfl
      · rw [decide_eq_false h5, decide_eq_true (show 48 ≤ x by omega)]
        by_cases h6 : 57 < x
        · rw [decide_eq_true h6, decide_eq_false (show ¬ x ≤ 57 by omega)]; rfl
        · rw [decide_eq_false h6, decide_eq_true (show x ≤ 57 by omega)]; rfl
theorem l01Number_eq (L : List Int) (hb : ∀ x ∈ L, isByte x) (hl : L.length ≤ 1048576) : sh140 (bytesS L) = some (readD L) := by
  unfold sh140 readD
  rw [lit_nil, eqS hb (by simp)]
  have e1 : (bif !(decide (L = [])) then (Option.bind (getS (bytesS L) 0) fun x2 => some (x2 == 45)) else (some false)) = some (decide (L.head? = some 45)) := by
    cases L with
    | nil => rfl
    | cons x xs =>
      have h := getS_ok hb (k := 0) (by simp)
      simp only [Int.natCast_zero] at h
      rw [decide_eq_false (by simp), Bool.not_false, cond_true, h, bindS]
      simp only [List.getElem_cons_zero, List.head?_cons, Option.some.injEq]
      by_cases hx : x = 45
      · subst hx; rfl
      · rw [beq_eq_false_iff_ne.2 hx, decide_eq_false hx]
  have e2 : (bif decide (L.head? = some 45) then (Option.bind (subS (bytesS L) 1 ((bytesS L).size : Int)) fun x12 => some x12) else (some (bytesS L))) = some (bytesS (digPart L)) := by
    unfold digPart
    by_cases hh : L.head? = some 45
    · rw [decide_eq_true hh, cond_true, if_pos hh, bytesS_size]
      cases L with
      | nil => cases hh
      | cons x xs =>
        have h := subS_ok hb (i := 1) (j := (x :: xs).length) (by simp) (Nat.le_refl _)
        rw [show ((1 : Nat) : Int) = 1 from rfl] at h
        rw [h, bindS]
        simp
    · rw [decide_eq_false hh, cond_false, if_neg hh]
  rw [e1, bindS, e2, bindS, bytesS_size, bytesS_size, numLoop_same]
  have hdb := digPart_byte hb
  by_cases hlen : (digPart L).length < 1 ∨ 18 < (digPart L).length
  · rw [if_pos hlen]
    have : (decide (((digPart L).length : Int) < 1) || decide (18 < ((digPart L).length : Int))) = true := by
      rw [Bool.or_eq_true, decide_eq_true_eq, decide_eq_true_eq]; omega
    rw [this]; rfl
  · rw [if_neg hlen]
    have : (decide (((digPart L).length : Int) < 1) || decide (18 < ((digPart L).length : Int))) = false := by
      rw [Bool.or_eq_false_iff, decide_eq_false_iff_not, decide_eq_false_iff_not]; omega
    obtain ⟨h1, h2⟩ := digLoop (digPart L) hdb (by omega)
    rw [this, cond_false, h1, bindS]
    by_cases ha : (digPart L).all isDig = true
    · obtain ⟨h3, h4⟩ := h2 ha
      rw [if_pos ha, if_pos ha]
      simp only [elimS]
      have e3 : (bif decide (((digPart L).length : Int) < (L.length : Int)) then (some (w64 (0 - valD (digPart L)))) else (some (valD (digPart L)))) = some (numV L) := by
        unfold numV
        by_cases hc : (digPart L).length < L.length
        · rw [decide_eq_true (by omega), cond_true, if_pos hc, w64_id (by omega) (by omega)]
        · rw [decide_eq_false (by omega), cond_false, if_neg hc]
      rw [e3, bindS]
      have hr : -9223372036854775808 ≤ numV L ∧ numV L ≤ 9223372036854775807 := by unfold numV; split <;> omega
      rw [l01Dec_eq _ hr.1 hr.2, bindS, eqS (decL_byte _) hb]
      by_cases hd : decL (numV L) = L
      · rw [if_pos hd, decide_eq_true hd]; rfl
      · rw [if_neg hd, decide_eq_false hd]; rfl
    · rw [if_neg ha, if_neg ha]; rfl
/-- The characters of a number. -/
theorem decL_chars (n : Int) : ∀ x ∈ decL n, x = 45 ∨ (48 ≤ x ∧ x ≤ 57) := by
  intro x hx
  unfold decL at hx
  split at hx
  · simp at hx; omega
  · rcases List.mem_append.1 hx with h | h
    · split at h <;> simp at h; omega
    · have := digs_byte _ x h; omega
theorem readD_true {L : List Int} (h : (readD L).2 = true) : decL (readD L).1 = L ∧ (∀ x ∈ L, x = 45 ∨ (48 ≤ x ∧ x ≤ 57)) := by
  unfold readD at h ⊢
  split at h
  · cases h
  · rename_i h1
    rw [if_neg h1]
    split at h
    · rename_i h2
      rw [if_pos h2]
      split at h
      · rename_i h3
        rw [if_pos h3]
        refine ⟨h3, fun x hx => ?_⟩
        rw [← h3] at hx
        exact decL_chars _ x hx
      · cases h
    · cases h
theorem readD_false {L : List Int} (h : (readD L).2 = false) : readD L = (0, false) := by
  unfold readD at h ⊢
  split at h
  · rename_i h1; rw [if_pos h1]
  · rename_i h1
    rw [if_neg h1]
    split at h
    · rename_i h2
      rw [if_pos h2]
      split at h
      · cases h
      · rename_i h3; rw [if_neg h3]
    · rename_i h2; rw [if_neg h2]
theorem readD_decL (n : Int) (h1 : -1000000000000000000 < n) (h2 : n < 1000000000000000000) : readD (decL n) = (n, true) := by
  by_cases h0 : n = 0
  · subst h0; rfl
  · have hN : n.natAbs < 10 ^ 18 := by omega
    have hl := digs_len 18 _ hN
    have hne := List.length_pos_iff.2 (digs_ne (n := n.natAbs) (by omega))
    have hall := digs_isDig n.natAbs
    have hv := valD_digs n.natAbs
    by_cases hneg : n < 0
    · have hL : decL n = 45 :: digs n.natAbs := by unfold decL; rw [if_neg h0, if_pos hneg]; rfl
      have hD : digPart (decL n) = digs n.natAbs := by unfold digPart; rw [hL]; rfl
      have hc : (digs n.natAbs).length < (decL n).length := by rw [hL]; simp
      have hv2 : numV (decL n) = n := by unfold numV; rw [hD, if_pos hc, hv]; omega
      unfold readD
      rw [hv2, hD, if_neg (by omega), if_pos hall, if_pos rfl]
    · have hL : decL n = digs n.natAbs := by unfold decL; rw [if_neg h0, if_neg hneg]; rfl
      have hD : digPart (decL n) = digs n.natAbs := by
        unfold digPart
        rw [hL, if_neg]
        cases hh : digs n.natAbs with
        | nil => simp
        | cons x xs =>
          have := digs_byte n.natAbs x (by rw [hh]; simp)
          simp; omega
      have hv2 : numV (decL n) = n := by unfold numV; rw [hD, if_neg (by rw [hL]; omega), hv]; omega
      unfold readD
      rw [hv2, hD, if_neg (by omega), if_pos hall, if_pos rfl]
theorem readD_range {L : List Int} (h : (readD L).2 = true) : -1000000000000000000 < (readD L).1 ∧ (readD L).1 < 1000000000000000000 := by
  have hL := (readD_true h).1
  have hl : (digPart L).length ≤ 18 := by
    unfold readD at h
    split at h
    · cases h
    · omega
  generalize (readD L).1 = n at hL
  have hd : digs n.natAbs = [] ∨ digs n.natAbs = digPart L := by
    by_cases h0 : n = 0
    · left; subst h0; rw [Int.natAbs_zero, digs_zero]
    · right
      rw [← hL]
      by_cases hneg : n < 0
      · have hL : decL n = 45 :: digs n.natAbs := by unfold decL; rw [if_neg h0, if_pos hneg]; rfl
        unfold digPart; rw [hL]; rfl
      · have hL : decL n = digs n.natAbs := by unfold decL; rw [if_neg h0, if_neg hneg]; rfl
        unfold digPart
        rw [hL, if_neg]
        cases hh : digs n.natAbs with
        | nil => simp
        | cons x xs =>
          have := digs_byte n.natAbs x (by rw [hh]; simp)
          simp; omega
  have hlt : ∀ (k m : Nat), (digs m).length ≤ k → m < 10 ^ k := by
    intro k
    induction k with
    | zero =>
      intro m hm
      rcases Nat.eq_zero_or_pos m with h | h
      · subst h; simp
      · rw [digs_pos h] at hm; simp at hm
    | succ k ih =>
      intro m hm
      rcases Nat.eq_zero_or_pos m with h | h
      · subst h; exact Nat.pow_pos (by omega)
      · rw [digs_pos h, List.length_append] at hm
        have := ih (m / 10) (by simp at hm; omega)
        rw [Nat.pow_succ]; omega
  have : n.natAbs < 10 ^ 18 := hlt 18 _ (by
    rcases hd with h | h
    · rw [h]; simp
    · rw [h]; exact hl)
  omega
theorem l20Number_eq (L : List Int) (hb : ∀ x ∈ L, isByte x) (hl : L.length ≤ 1048576) : ∃ r, sh86 (bytesS L) = some r ∧ r.2 = (readD L).2 ∧ (r.2 = true → r.1 = (readD L).1) := by
  unfold sh86
  rw [lit_nil, eqS hb (by simp)]
  have e1 : (bif !(decide (L = [])) then (Option.bind (getS (bytesS L) 0) fun x2 => some (x2 == 45)) else (some false)) = some (decide (L.head? = some 45)) := by
    cases L with
    | nil => rfl
    | cons x xs =>
      have h := getS_ok hb (k := 0) (by simp)
      simp only [Int.natCast_zero] at h
      rw [decide_eq_false (by simp), Bool.not_false, cond_true, h, bindS]
      simp only [List.getElem_cons_zero, List.head?_cons, Option.some.injEq]
      by_cases hx : x = 45
      · subst hx; rfl
      · rw [beq_eq_false_iff_ne.2 hx, decide_eq_false hx]
  rw [e1, bindS]
  by_cases hh : L.head? = some 45
  · rw [decide_eq_true hh, cond_true, bytesS_size]
    cases L with
    | nil => cases hh
    | cons x T =>
      simp only [List.head?_cons, Option.some.injEq] at hh
      subst hh
      have h := subS_ok hb (i := 1) (j := ((45 : Int) :: T).length) (by simp) (Nat.le_refl _)
      rw [show ((1 : Nat) : Int) = 1 from rfl] at h
      have hT : ∀ x ∈ T, isByte x := fun x hx => hb x (List.mem_cons_of_mem _ hx)
      have hd1 : (List.take (((45 : Int) :: T).length - 1) (List.drop 1 (45 :: T))) = T := by simp
      rw [h, bindS, hd1, l01Number_eq T hT (by simp only [List.length_cons] at hl; omega), bindS]
      cases hr : (readD T).2
      · have hr0 := readD_false hr
        refine ⟨_, rfl, ?_, fun h => by simp at h⟩
        simp only [Bool.false_and]
        cases hq : (readD (45 :: T)).2
        · rfl
        · exfalso
          have hL := (readD_true hq).1
          have hrg := readD_range hq
          generalize (readD (45 :: T)).1 = n at hL hrg
          have h0 : n ≠ 0 := fun h => by subst h; simp [decL] at hL
          by_cases hneg : n < 0
          · have hL2 : decL n = 45 :: digs n.natAbs := by unfold decL; rw [if_neg h0, if_pos hneg]; rfl
            rw [hL2] at hL
            have hT2 : digs n.natAbs = T := (List.cons.inj hL).2
            have h3 := readD_decL (n.natAbs : Int) (by omega) (by omega)
            have hL3 : decL (n.natAbs : Int) = digs n.natAbs := by unfold decL; rw [if_neg (by omega), if_neg (by omega), Int.natAbs_natCast]; rfl
            rw [hL3, hT2] at h3
            rw [h3] at hr
            cases hr
          · have hL2 : decL n = digs n.natAbs := by unfold decL; rw [if_neg h0, if_neg hneg]; rfl
            rw [hL2] at hL
            have := digs_byte n.natAbs 45 (by rw [hL]; simp)
            omega
      · have hrg := readD_range hr
        have hL := (readD_true hr).1
        simp only [Bool.true_and]
        rw [w64_id (by omega) (by omega)]
        generalize (readD T).1 = m at hL hrg
        by_cases hm : 0 < m
        · have hL2 : decL m = digs m.natAbs := by unfold decL; rw [if_neg (by omega), if_neg (by omega)]; rfl
          have hL3 : decL (0 - m) = 45 :: T := by
            unfold decL
            rw [if_neg (by omega), if_pos (by omega), ← hL, hL2, show (0 - m).natAbs = m.natAbs by omega]; rfl
          have h3 := readD_decL (0 - m) (by omega) (by omega)
          rw [hL3] at h3
          rw [h3]
          exact ⟨_, rfl, by simp [hm], fun _ => rfl⟩
        · refine ⟨_, rfl, ?_, fun h => by simp [hm] at h⟩
          simp only [decide_eq_false hm]
          cases hq : (readD (45 :: T)).2
          · rfl
          · exfalso
            have hL4 := (readD_true hq).1
            have hrg4 := readD_range hq
            generalize (readD (45 :: T)).1 = n at hL4 hrg4
            have h0 : n ≠ 0 := fun h => by subst h; simp [decL] at hL4
            by_cases hneg : n < 0
            · have hL2 : decL n = 45 :: digs n.natAbs := by unfold decL; rw [if_neg h0, if_pos hneg]; rfl
              rw [hL2] at hL4
              have hT2 : digs n.natAbs = T := (List.cons.inj hL4).2
              have h3 := readD_decL (n.natAbs : Int) (by omega) (by omega)
              have hL3 : decL (n.natAbs : Int) = digs n.natAbs := by unfold decL; rw [if_neg (by omega), if_neg (by omega), Int.natAbs_natCast]; rfl
              have h5 := readD_decL m (by omega) (by omega)
              rw [hL3, hT2] at h3
              rw [hL] at h5
              rw [h3] at h5
              have := congrArg Prod.fst h5
              simp only at this
              omega
            · have hL2 : decL n = digs n.natAbs := by unfold decL; rw [if_neg h0, if_neg hneg]; rfl
              rw [hL2] at hL4
              have := digs_byte n.natAbs 45 (by rw [hL4]; simp)
              omega
  · rw [decide_eq_false hh, cond_false, l01Number_eq L hb hl, bindS]
    exact ⟨_, rfl, rfl, fun _ => rfl⟩

/-! iter_map -/
/-- A list read element by element, as far as all of it can be read. -/
def mapO {α β : Type} (f : α → Option β) : List α → Option (List β)
  | [] => some []
  | x :: xs => match f x with
    | none => none
    | some y => match mapO f xs with
      | none => none
      | some ys => some (y :: ys)
theorem mapO_snoc {α β : Type} {f : α → Option β} : ∀ {xs : List α} {ys : List β} {x : α} {y : β}, mapO f xs = some ys → f x = some y → mapO f (xs ++ [x]) = some (ys ++ [y])
  | [], ys, x, y, h, hx => by simp [mapO] at h; subst h; simp [mapO, hx]
  | z :: zs, ys, x, y, h, hx => by
    simp only [mapO, List.cons_append] at h ⊢
    cases hz : f z with
    | none => simp [hz] at h
    | some u =>
      simp only [hz] at h ⊢
      cases hr : mapO f zs with
      | none => simp [hr] at h
      | some us =>
        simp only [hr, Option.some.injEq] at h
        subst h
        rw [mapO_snoc hr hx]
        rfl
theorem mapO_none {α β : Type} {f : α → Option β} : ∀ {xs : List α} {k : Nat} (h : k < xs.length), f xs[k] = none → mapO f xs = none
  | x :: xs, 0, h, hx => by
    simp only [List.getElem_cons_zero] at hx
    simp [mapO, hx]
  | x :: xs, k + 1, h, hx => by
    simp only [List.getElem_cons_succ] at hx
    have := mapO_none (xs := xs) (by simpa using h) hx
    simp only [mapO, this]
    cases f x <;> rfl
theorem mapO_length {α β : Type} {f : α → Option β} : ∀ {xs : List α} {ys : List β}, mapO f xs = some ys → ys.length = xs.length
  | [], ys, h => by simp [mapO] at h; subst h; rfl
  | z :: zs, ys, h => by
    simp only [mapO] at h
    cases hz : f z with
    | none => simp [hz] at h
    | some u =>
      simp only [hz] at h
      cases hr : mapO f zs with
      | none => simp [hr] at h
      | some us =>
        simp only [hr, Option.some.injEq] at h
        subst h
        simp [mapO_length hr]
theorem mapO_congr {α β : Type} {f g : α → Option β} : ∀ {xs : List α}, (∀ x ∈ xs, f x = g x) → mapO f xs = mapO g xs
  | [], _ => rfl
  | z :: zs, h => by
    simp only [mapO, h z (List.mem_cons_self ..), mapO_congr (fun x hx => h x (List.mem_cons_of_mem _ hx))]
/-- The loop that reads a list, element by element: it gives up at an element that cannot be read, and at the element with number c. -/
theorem iter_mapO {α T R : Type} {sb : Int × List T → Option ((Int × List T) ⊕ (List T ⊕ R))} (W : List α) (f : α → Option T) (bad : R) (c d : Nat) (hl : W.length ≤ 1099511627776)
    (hsb : ∀ (k : Nat) (h : k < W.length) (out : List T), out.length = k → mapO f (W.take k) = some out → sb (((d * k : Nat) : Int), out) = if k = c then some (.inr (.inr bad)) else match f W[k] with
      | some y => some (.inl (((d * (k + 1) : Nat) : Int), out ++ [y]))
      | none => some (.inr (.inr bad)))
    (he : ∀ out : List T, out.length = W.length → sb (((d * W.length : Nat) : Int), out) = some (.inr (.inl out))) :
    iter sb (0, []) = some (if W.length ≤ c then (match mapO f W with | some ys => .inl ys | none => .inr bad) else .inr bad) := by
  obtain ⟨y, hy, hr⟩ := iter_inv (sb := sb) (fun (s : Int × List T) => ∃ (k : Nat) (out : List T), s = (((d * k : Nat) : Int), out) ∧ k ≤ W.length ∧ k ≤ c ∧ out.length = k ∧ mapO f (W.take k) = some out)
    (fun s => W.length - s.2.length) (fun (y : List T ⊕ R) => y = if W.length ≤ c then (match mapO f W with | some ys => .inl ys | none => .inr bad) else .inr bad) (s0 := (0, []))
    ⟨0, [], by simp, by omega, by omega, rfl, rfl⟩ (by simp only [List.length_nil]; omega) (by
    rintro s ⟨k, out, rfl, h1, h2, h3, h4⟩
    by_cases hk : k < W.length
    · rw [hsb k hk out h3 h4]
      by_cases hc : k = c
      · right
        rw [if_pos hc]
        exact ⟨_, rfl, by rw [if_neg (by omega)]⟩
      · rw [if_neg hc]
        cases hf : f W[k] with
        | none =>
          right
          refine ⟨_, rfl, ?_⟩
          rw [mapO_none hk hf]
          simp
        | some y =>
          left
          refine ⟨_, rfl, ⟨k + 1, out ++ [y], rfl, by omega, by omega, by simp [h3], ?_⟩, by simp only [List.length_append, List.length_cons, List.length_nil]; omega⟩
          rw [List.take_succ_eq_append_getElem hk]
          exact mapO_snoc h4 hf
    · right
      have hkl : k = W.length := by omega
      subst hkl
      rw [he out h3]
      rw [List.take_length] at h4
      exact ⟨_, rfl, by rw [if_pos h2, h4]⟩)
  rw [hy, hr]

/-! toolmoves -/
theorem eqToolMove_eq (p q : SToolMove) : sh94 p q = some (decide (p = q)) := by
  unfold sh94
  cases p with
  | mk a b e =>
    cases q with
    | mk c d f =>
      show (bif a != c then some false else (bif b != d then some false else (bif e != f then some false else some true))) = _
      by_cases h1 : a = c
      · subst h1
        rw [bne_self_eq_false, cond_false]
        by_cases h2 : b = d
        · subst h2
          rw [bne_self_eq_false, cond_false]
          by_cases h3 : e = f
          · subst h3; rw [bne_self_eq_false]; simp
          · rw [bne_iff_ne.2 h3]; simp [h3]
        · rw [bne_iff_ne.2 h2]; simp [h2]
      · rw [bne_iff_ne.2 h1]; simp [h1]

theorem eqToolMoveS_eq (xs ys : List SToolMove) (h : xs.length ≤ 1048576) : sh24 xs ys = some (decide (xs = ys)) := by
  unfold sh24
  by_cases hl : xs.length = ys.length
  · have h1 : ((xs.length : Int) != (ys.length : Int)) = false := by simp; omega
    rw [h1, cond_false, iter_eq (xs := xs) (ys := ys) (by omega) hl (fun k hk => ?_) (by simp [sh24_1]), bindS]
    · by_cases he : xs = ys <;> simp [he, elimS]
    · have h2 : (k : Int) < xs.length := by omega
      have h3 : k < ys.length := by omega
      simp only [sh24_1, h2, decide_true, cond_true, getI_lt hk, getI_lt h3, bindS, eqToolMove_eq]
      rw [w64_id (by omega) (by omega)]
      by_cases he : xs[k] = ys[k]
      · simp [he]
      · rw [if_neg he, decide_eq_false he]
        rfl
  · have h1 : ((xs.length : Int) != (ys.length : Int)) = true := by simp; omega
    rw [h1, cond_true]
    have : xs ≠ ys := fun h => hl (by rw [h])
    simp [this]

/-! moves -/
def coB (x : Int) : Bool := decide (-100000 ≤ x) && decide (x ≤ 100000)
def moveB (m : SToolMove) : Bool := (coB m.X && coB m.Y) && (decide (-500 ≤ m.Z) && decide (m.Z ≤ 500))
def movesB (q : List SToolMove) : Bool := q.all moveB && decide (q.length ≤ 700)

theorem l22Ok_eq (q : List SToolMove) (h : q.length ≤ 1048576) : sh91 q = some (movesB q) := by
  unfold sh91 movesB
  rw [iter_all (xs := q) (p := moveB) (r := false) (by omega) (fun k hk => ?_) (by simp [sh91_1]), bindS]
  · cases ha : q.all moveB
    · simp [elimS]
    · simp only [elimS, if_true, Bool.true_and]
      congr 1
      simp only [decide_eq_decide]; omega
  · have h2 : (k : Int) < q.length := by omega
    simp only [sh91_1, sh115, h2, decide_true, cond_true, getI_lt hk, bindS]
    rw [w64_id (x := (k : Int) + 1) (by omega) (by omega)]
    unfold moveB coB
    cases h0 : decide (-100000 ≤ q[k].X) && decide (q[k].X ≤ 100000) <;> cases h1 : decide (-100000 ≤ q[k].Y) && decide (q[k].Y ≤ 100000) <;> cases h3 : decide (-500 ≤ q[k].Z) && decide (q[k].Z ≤ 500) <;> rfl

theorem validMoves_eq (q : List SToolMove) (h : q.length ≤ 1048576) : sh93 q = some (movesB q) := by
  unfold sh93 movesB
  rw [iter_all (xs := q) (p := moveB) (r := false) (by omega) (fun k hk => ?_) (by simp [sh93_1]), bindS]
  · cases ha : q.all moveB
    · simp [elimS]
    · simp only [elimS, if_true, Bool.true_and]
      congr 1
      simp only [decide_eq_decide]; omega
  · have h2 : (k : Int) < q.length := by omega
    simp only [sh93_1, sh146, sh136, h2, decide_true, cond_true, getI_lt hk, bindS]
    rw [w64_id (x := (k : Int) + 1) (by omega) (by omega)]
    unfold moveB coB
    cases h0 : decide (-100000 ≤ q[k].X) && decide (q[k].X ≤ 100000) <;> cases h1 : decide (-100000 ≤ q[k].Y) && decide (q[k].Y ≤ 100000) <;> cases h3 : decide (-500 ≤ q[k].Z) && decide (q[k].Z ≤ 500) <;> rfl

theorem movesB_len {q : List SToolMove} (h : movesB q = true) : q.length ≤ 700 := by
  unfold movesB at h
  simp only [Bool.and_eq_true, decide_eq_true_eq] at h
  exact h.2

/-! mark_moves -/
/-- The numbers that are laid into a result of moves of a tool. -/
def marksM (m : Int) (n : Nat) : List SToolMove := (List.range n).map fun (i : Nat) => ⟨m + 3 * (i : Int), m + 3 * (i : Int) + 1, m + 3 * (i : Int) + 2⟩
theorem marksM_length (m : Int) (n : Nat) : (marksM m n).length = n := by simp [marksM]
theorem marksM_get (m : Int) (n k : Nat) (h : k < n) : (marksM m n)[k]'(by rw [marksM_length]; exact h) = ⟨m + 3 * k, m + 3 * k + 1, m + 3 * k + 2⟩ := by simp [marksM]
theorem marksM_succ (m : Int) (k : Nat) : marksM m (k + 1) = marksM m k ++ [⟨m + 3 * k, m + 3 * k + 1, m + 3 * k + 2⟩] := by simp [marksM, List.range_succ]

theorem markMoves_eq (xs : List SToolMove) (m : Int) (h0 : 0 ≤ m) (h1 : m ≤ 1099511627776) (h : xs.length ≤ 1099511627776) : sh25 xs m = some (m + 3 * xs.length, marksM m xs.length) := by
  unfold sh25
  have hi := iter_steps (sb := sh25_1 xs) (fun k => (m + 3 * (k : Int), (k : Int), marksM m k ++ xs.drop k)) xs.length (x := (m + 3 * xs.length, marksM m xs.length)) (by omega) (fun k hk => ?_) ?_
  · simp only [List.drop_zero] at hi
    rw [show marksM m 0 ++ xs = xs from rfl] at hi
    simp only [Int.natCast_zero, Int.mul_zero, Int.add_zero] at hi
    rw [hi, bindS]
  · have h2 : (k : Int) < xs.length := by omega
    have hl : k < (marksM m k ++ xs.drop k).length := by rw [List.length_append, marksM_length, List.length_drop]; omega
    have hl2 : ∀ y, k < ((marksM m k ++ xs.drop k).set k y).length := fun y => by rw [List.length_set]; exact hl
    simp only [sh25_1, h2, decide_true, cond_true, getI_lt hl, getI_lt (hl2 _), bindS, Int.toNat_natCast, List.getElem_set_self, List.set_set]
    rw [w64_id (x := m + 3 * (k : Int) + 1) (by omega) (by omega), w64_id (x := m + 3 * (k : Int) + 1 + 1) (by omega) (by omega), w64_id (x := m + 3 * (k : Int) + 1 + 1 + 1) (by omega) (by omega), w64_id (x := (k : Int) + 1) (by omega) (by omega), List.set_append, if_neg (by rw [marksM_length]; omega), marksM_length, Nat.sub_self, List.drop_eq_getElem_cons hk, List.set_cons_zero, marksM_succ, List.append_assoc]
    rw [show m + 3 * (k : Int) + 1 + 1 = m + 3 * (k : Int) + 2 by omega]
    simp only [Option.some.injEq, Sum.inl.injEq, Prod.mk.injEq]
    refine ⟨by omega, by omega, rfl⟩
  · have hd : decide ((xs.length : Int) < (xs.length : Int)) = false := by simp
    simp only [sh25_1, hd, cond_false, List.drop_length, List.append_nil]

theorem heldMoves_eq (m : Int) (n : Nat) (h0 : 0 ≤ m) (h1 : m ≤ 1099511627776) (h : n ≤ 1099511627776) : sh26 (marksM m n) m = some (m + 3 * n) := by
  unfold sh26
  have hi := iter_steps (sb := sh26_1 (marksM m n)) (fun k => (m + 3 * (k : Int), (k : Int))) n (x := .inl (m + 3 * n)) (by omega) (fun k hk => ?_) ?_
  · simp only [Int.natCast_zero, Int.mul_zero, Int.add_zero] at hi
    rw [hi, bindS]
    rfl
  · have h2 : (k : Int) < (marksM m n).length := by rw [marksM_length]; omega
    have hl : k < (marksM m n).length := by rw [marksM_length]; exact hk
    simp only [sh26_1, h2, decide_true, cond_true, getI_lt hl, bindS, marksM_get m n k hk, bne_self_eq_false, cond_false]
    rw [w64_id (x := m + 3 * (k : Int) + 1) (by omega) (by omega), bne_self_eq_false, cond_false, w64_id (x := m + 3 * (k : Int) + 1 + 1) (by omega) (by omega)]
    rw [show m + 3 * (k : Int) + 1 + 1 = m + 3 * (k : Int) + 2 by omega, bne_self_eq_false, cond_false, w64_id (x := m + 3 * (k : Int) + 2 + 1) (by omega) (by omega), w64_id (x := (k : Int) + 1) (by omega) (by omega)]
    simp only [Option.some.injEq, Sum.inl.injEq, Prod.mk.injEq]
    refine ⟨by omega, by omega⟩
  · have hd : decide ((n : Int) < ((marksM m n).length : Int)) = false := by rw [marksM_length]; simp
    simp only [sh26_1, hd, cond_false]

/-! joined -/
def jstep (sep : List Int) (s : Nat × List Int) (p : List Int) : Nat × List Int := (s.1 + 1, (if 0 < s.1 then s.2 ++ sep else s.2) ++ p)
/-- Lists of bytes, joined. -/
def joinL (sep : List Int) (ps : List (List Int)) : List Int := (ps.foldl (jstep sep) (0, [])).2
theorem jstep_len {sep p : List Int} {s : Nat × List Int} {k B : Nat} (hs : sep.length ≤ 100) (hp : p.length ≤ B) (h : s.2.length ≤ (B + 100) * k) : (jstep sep s p).2.length ≤ (B + 100) * (k + 1) := by
  unfold jstep
  simp only [List.length_append]
  rw [Nat.mul_succ]
  split
  · rw [List.length_append]; omega
  · omega


/-! tooltext -/
theorem moveB_rng {m : SToolMove} (h : moveB m = true) : ((-100000 ≤ m.X ∧ m.X ≤ 100000) ∧ (-100000 ≤ m.Y ∧ m.Y ≤ 100000)) ∧ (-500 ≤ m.Z ∧ m.Z ≤ 500) := by
  unfold moveB coB at h
  simp only [Bool.and_eq_true, decide_eq_true_eq] at h
  exact h
def tmL (m : SToolMove) : List Int := decL m.X ++ [32] ++ decL m.Y ++ [32] ++ decL m.Z ++ [10]
def toolL (q : List SToolMove) : List Int := q.foldl (fun l m => l ++ tmL m) []
theorem tmL_len {m : SToolMove} (h : moveB m = true) : (tmL m).length ≤ 70 := by
  obtain ⟨⟨hx, hy⟩, hz⟩ := moveB_rng h
  have h1 := decL_len (n := m.X) (by omega) (by omega)
  have h2 := decL_len (n := m.Y) (by omega) (by omega)
  have h3 := decL_len (n := m.Z) (by omega) (by omega)
  unfold tmL
  simp only [List.length_append, List.length_cons, List.length_nil]
  omega
theorem tmL_byte (m : SToolMove) : ∀ x ∈ tmL m, 0 ≤ x ∧ x < 256 := by
  intro x hx
  unfold tmL at hx
  simp only [List.mem_append, List.mem_cons, List.not_mem_nil, or_false] at hx
  rcases hx with ((((h | h) | h) | h) | h) | h
  · exact decL_byte _ x h
  · omega
  · exact decL_byte _ x h
  · omega
  · exact decL_byte _ x h
  · omega
theorem movesB_all {q : List SToolMove} (h : movesB q = true) : ∀ p ∈ q, moveB p = true := by
  unfold movesB at h
  simp only [Bool.and_eq_true, List.all_eq_true] at h
  exact h.1


/-! readtool -/
theorem splitL_snoc (b : Int) : ∀ T : List Int, splitL b (T ++ [b]) = splitL b T ++ [[]]
  | [] => by simp [splitL]
  | x :: xs => by
    rw [List.cons_append, splitL, splitL, splitL_snoc b xs]
    split
    · rfl
    · cases hs : splitL b xs with
      | nil => exact absurd hs (splitL_ne b xs)
      | cons u t => rfl
theorem splitL_last (b : Int) : ∀ (T : List Int) (x : Int), x ≠ b → ∃ ws w, splitL b (T ++ [x]) = ws ++ [w] ∧ w ≠ []
  | [], x, hx => ⟨[], [x], by simp [splitL, hx, consHead], by simp⟩
  | y :: ys, x, hx => by
    obtain ⟨ws, w, h1, h2⟩ := splitL_last b ys x hx
    rw [List.cons_append, splitL, h1]
    split
    · exact ⟨[] :: ws, w, rfl, h2⟩
    · cases ws with
      | nil => exact ⟨[], y :: w, rfl, by simp⟩
      | cons u t => exact ⟨(y :: u) :: t, w, rfl, h2⟩
def toolP (w : List Int) : Option SToolMove := match splitL 32 w with
  | [a, b, c] => if ((readD a).2 = true ∧ (readD b).2 = true) ∧ (readD c).2 = true then some ⟨(readD a).1, (readD b).1, (readD c).1⟩ else none
  | _ => none
/-- What both come to, of the lines. -/
def readToolR (ls : List (List Int)) : List SToolMove × Bool := if ls.length ≤ 700 then (match mapO toolP ls with
  | some ms => if movesB ms = true then (ms, true) else ([], false)
  | none => ([], false)) else ([], false)
theorem tool_round_spec (W : List (List Int)) (hW : ∀ w ∈ W, (∀ x ∈ w, isByte x) ∧ w.length ≤ 1048576) (last : List Int) (hn : W.length ≤ 1048576) :
    iter (sh22_1 ((W ++ [last]).map bytesS)) (0, []) = some (match mapO toolP W with | some ps => .inl ps | none => .inr ([], false)) := by
  have hlen : (((W ++ [last]).map bytesS).length : Int) = (W.length : Int) + 1 := by simp
  have hi := iter_mapO (sb := sh22_1 ((W ++ [last]).map bytesS)) W toolP (([], false) : List SToolMove × Bool) 2000000 1 (by omega) (fun k hk out ho _ => ?_) (fun out ho => ?_)
  · rw [if_pos (by omega)] at hi
    rw [hi]
    cases mapO toolP W <;> rfl
  · rw [if_neg (by omega), Nat.one_mul]
    have hWk := hW _ (List.getElem_mem hk)
    obtain ⟨vn, vw⟩ := splitL_bound (b := 32) W[k]
    have hvb := splitL_mem (b := 32) (p := isByte) hWk.1
    have hd : decide ((k : Int) < w64 ((((W ++ [last]).map bytesS).length : Int) - 1)) = true := by rw [hlen, w64_id (by omega) (by omega)]; exact decide_eq_true (by omega)
    have hk2 : k < ((W ++ [last]).map bytesS).length := by simp; omega
    have hg : getI ((W ++ [last]).map bytesS) (k : Int) = some (bytesS W[k]) := by
      rw [getI_lt hk2, List.getElem_map, List.getElem_append_left hk]
    simp only [sh22_1, hd, cond_true, hg, bindS, l01Split_eq _ 32 hWk.1 hWk.2]
    unfold toolP
    rcases hs : splitL 32 W[k] with _ | ⟨a, _ | ⟨b, _ | ⟨c, _ | ⟨d, t⟩⟩⟩⟩
    · exact absurd hs (splitL_ne _ _)
    · rfl
    · rfl
    · rw [hs] at vw hvb
      obtain ⟨na, ra, fa, va⟩ := l20Number_eq a (hvb a (by simp)) (by have := vw a (by simp); omega)
      obtain ⟨nb, rb, fb, vb⟩ := l20Number_eq b (hvb b (by simp)) (by have := vw b (by simp); omega)
      obtain ⟨nc, rc, fc, vc⟩ := l20Number_eq c (hvb c (by simp)) (by have := vw c (by simp); omega)
      have g0 : getI ([a, b, c].map bytesS) 0 = some (bytesS a) := rfl
      have g1 : getI ([a, b, c].map bytesS) 1 = some (bytesS b) := rfl
      have g3 : getI ([a, b, c].map bytesS) 2 = some (bytesS c) := rfl
      have g2 : ((([a, b, c].map bytesS).length : Int) != 3) = false := rfl
      rw [g2, cond_false, g0, bindS, ra, bindS, g1, bindS, rb, bindS, g3, bindS, rc, bindS]
      cases h3 : (readD a).2 <;> cases h4 : (readD b).2 <;> cases h5 : (readD c).2 <;> rw [h3] at fa <;> rw [h4] at fb <;> rw [h5] at fc
      · simp [h3, h4, h5, fa, fb, fc]
      · simp [h3, h4, h5, fa, fb, fc]
      · simp [h3, h4, h5, fa, fb, fc]
      · simp [h3, h4, h5, fa, fb, fc]
      · simp [h3, h4, h5, fa, fb, fc]
      · simp [h3, h4, h5, fa, fb, fc]
      · simp [h3, h4, h5, fa, fb, fc]
      · simp only [h3, h4, h5, fa, fb, fc, va fa, vb fb, vc fc, Bool.not_true, Bool.or_self, cond_false, and_self, if_true]
        rw [appL_ok (by simp only [List.length_cons, List.length_nil]; omega), bindS, w64_id (by omega) (by omega), Nat.one_mul]
        rfl
    · have : (((a :: b :: c :: d :: t).map bytesS).length : Int) ≠ 3 := by simp only [List.length_map, List.length_cons]; omega
      rw [bne_iff_ne.2 this]
      rfl
  · have hd : decide (((1 * W.length : Nat) : Int) < w64 ((((W ++ [last]).map bytesS).length : Int) - 1)) = false := by rw [hlen, w64_id (by omega) (by omega)]; exact decide_eq_false (by omega)
    simp only [sh22_1, hd, cond_false]
theorem tool_three (a b c : List Int) (ha : ∀ x ∈ a, isByte x) (hb : ∀ x ∈ b, isByte x) (hc : ∀ x ∈ c, isByte x) (la : a.length ≤ 1048576) (lb : b.length ≤ 1048576) (lc : c.length ≤ 1048576) :
    iter (sh23_2 ([a, b, c].map bytesS)) (0, List.replicate 3 (0 : Int)) = some (if ((readD a).2 = true ∧ (readD b).2 = true) ∧ (readD c).2 = true then .inl [(readD a).1, (readD b).1, (readD c).1] else .inr ([], false)) := by
  have hi := iter_res (sb := sh23_2 ([a, b, c].map bytesS)) (fun k => ((k : Int), match k with | 0 => [0, 0, 0] | 1 => [(readD a).1, 0, 0] | 2 => [(readD a).1, (readD b).1, 0] | _ => [(readD a).1, (readD b).1, (readD c).1]))
    (fun k => match k with
      | 0 => if ((readD a).2 = true ∧ (readD b).2 = true) ∧ (readD c).2 = true then (.inl [(readD a).1, (readD b).1, (readD c).1] : List Int ⊕ (List SToolMove × Bool)) else .inr ([], false)
      | 1 => if (readD b).2 = true ∧ (readD c).2 = true then .inl [(readD a).1, (readD b).1, (readD c).1] else .inr ([], false)
      | 2 => if (readD c).2 = true then .inl [(readD a).1, (readD b).1, (readD c).1] else .inr ([], false)
      | _ => .inl [(readD a).1, (readD b).1, (readD c).1]) 3 (by omega) (fun k hk => ?_) (by rfl)
  · exact hi
  · have hd : decide ((k : Int) < (([a, b, c].map bytesS).length : Int)) = true := decide_eq_true (by simp; omega)
    have hw : w64 ((k : Int) + 1) = ((k + 1 : Nat) : Int) := by rw [w64_id (by omega) (by omega)]; omega
    match k, hk with
    | 0, _ =>
      have g0 : getI ([a, b, c].map bytesS) ((0 : Nat) : Int) = some (bytesS a) := rfl
      have g1 : getI ([0, 0, 0] : List Int) ((0 : Nat) : Int) = some 0 := rfl
      simp only [sh23_2, hd, cond_true, g0, bindS, readDecimal_eq a ha la, g1, hw]
      cases h : (readD a).2
      · right; simp [h]
      · left; exact ⟨rfl, by simp⟩
    | 1, _ =>
      have g0 : getI ([a, b, c].map bytesS) ((1 : Nat) : Int) = some (bytesS b) := rfl
      have g1 : getI ([(readD a).1, 0, 0] : List Int) ((1 : Nat) : Int) = some 0 := rfl
      simp only [sh23_2, hd, cond_true, g0, bindS, readDecimal_eq b hb lb, g1, hw]
      cases h : (readD b).2
      · right; simp [h]
      · left; exact ⟨rfl, by simp⟩
    | 2, _ =>
      have g0 : getI ([a, b, c].map bytesS) ((2 : Nat) : Int) = some (bytesS c) := rfl
      have g1 : getI ([(readD a).1, (readD b).1, 0] : List Int) ((2 : Nat) : Int) = some 0 := rfl
      simp only [sh23_2, hd, cond_true, g0, bindS, readDecimal_eq c hc lc, g1, hw]
      cases h : (readD c).2
      · right; simp [h]
      · left; exact ⟨rfl, by simp⟩
theorem tool_round_impl (W : List (List Int)) (fl : Bool) (hW : ∀ w ∈ W, (∀ x ∈ w, isByte x) ∧ w.length ≤ 1048576) (hn : W.length ≤ 1048576) :
    iter (sh23_1 (W.map bytesS, fl)) (0, []) = some (match mapO toolP W with | some ps => .inl ps | none => .inr ([], false)) := by
  have hi := iter_mapO (sb := sh23_1 (W.map bytesS, fl)) W toolP (([], false) : List SToolMove × Bool) 2000000 1 (by omega) (fun k hk out ho _ => ?_) (fun out ho => ?_)
  · rw [if_pos (by omega)] at hi
    rw [hi]
    cases mapO toolP W <;> rfl
  · rw [if_neg (by omega), Nat.one_mul]
    have hWk := hW _ (List.getElem_mem hk)
    obtain ⟨vn, vw⟩ := splitL_bound (b := 32) W[k]
    have hvb := splitL_mem (b := 32) (p := isByte) hWk.1
    have hk2 : k < (W.map bytesS).length := by simpa using hk
    have hd : decide ((k : Int) < ((W.map bytesS).length : Int)) = true := decide_eq_true (by omega)
    simp only [sh23_1, hd, cond_true, getI_lt hk2, List.getElem_map, bindS, splitAt_eq _ 32 hWk.1 hWk.2]
    unfold toolP
    rcases hs : splitL 32 W[k] with _ | ⟨a, _ | ⟨b, _ | ⟨c, _ | ⟨d, t⟩⟩⟩⟩
    · exact absurd hs (splitL_ne _ _)
    · rfl
    · rfl
    · rw [hs] at vw hvb
      have h3 := tool_three a b c (hvb a (by simp)) (hvb b (by simp)) (hvb c (by simp)) (by have := vw a (by simp); omega) (by have := vw b (by simp); omega) (by have := vw c (by simp); omega)
      have g2 : ((([a, b, c].map bytesS).length : Int) != 3) = false := rfl
      rw [g2, cond_false, h3, bindS]
      by_cases hf : ((readD a).2 = true ∧ (readD b).2 = true) ∧ (readD c).2 = true
      · simp only [if_pos hf, elimS]
        have e0 : getI [(readD a).1, (readD b).1, (readD c).1] 0 = some (readD a).1 := rfl
        have e1 : getI [(readD a).1, (readD b).1, (readD c).1] 1 = some (readD b).1 := rfl
        have e2 : getI [(readD a).1, (readD b).1, (readD c).1] 2 = some (readD c).1 := rfl
        rw [e0, bindS, e1, bindS, e2, bindS, appL_ok (by simp only [List.length_cons, List.length_nil]; omega), bindS, w64_id (by omega) (by omega), Nat.one_mul]
        rfl
      · simp only [if_neg hf, elimS]
    · have : (((a :: b :: c :: d :: t).map bytesS).length : Int) ≠ 3 := by simp only [List.length_map, List.length_cons]; omega
      rw [bne_iff_ne.2 this]
      rfl
  · have hd : decide (((1 * W.length : Nat) : Int) < ((W.map bytesS).length : Int)) = false := by rw [List.length_map, Nat.one_mul]; simp
    simp only [sh23_1, hd, cond_false]
theorem implReadTool_lines (W : List (List Int)) (hW : ∀ w ∈ W, (∀ x ∈ w, isByte x) ∧ w.length ≤ 1048576) (hn : W.length ≤ 1048576) (s : ByteArray) (hs : sh92 s = some (W.map bytesS, true)) : sh23 s = some (readToolR W) := by
  unfold sh23 readToolR
  rw [hs, bindS, List.length_map]
  by_cases hc : W.length ≤ 700
  · rw [decide_eq_false (by omega), if_pos hc]
    simp only [Bool.not_true, Bool.or_self, cond_false]
    rw [tool_round_impl W true hW hn, bindS]
    cases hm : mapO toolP W with
    | none => rfl
    | some ps =>
      have hpl := mapO_length hm
      simp only [elimS, validMoves_eq ps (show ps.length ≤ 1048576 by omega), bindS]
      cases movesB ps <;> rfl
  · rw [decide_eq_true (by omega), if_neg hc]; rfl
theorem specReadTool_lines (W : List (List Int)) (last : List Int) (hW : ∀ w ∈ W, (∀ x ∈ w, isByte x) ∧ w.length ≤ 1048576) (hlb : ∀ x ∈ last, isByte x) (hn : W.length ≤ 1048576) (s : ByteArray) (hs : sh85 s 10 = some ((W ++ [last]).map bytesS)) :
    sh22 s = some (if last = [] then readToolR W else ([], false)) := by
  unfold sh22 readToolR
  have hlen : (((W ++ [last]).map bytesS).length : Int) = (W.length : Int) + 1 := by simp
  have hg : getI ((W ++ [last]).map bytesS) (w64 ((((W ++ [last]).map bytesS).length : Int) - 1)) = some (bytesS last) := by
    rw [hlen, w64_id (by omega) (by omega), show (W.length : Int) + 1 - 1 = (W.length : Int) by omega, getI_lt (by simp), List.getElem_map, List.getElem_append_right (by omega)]
    simp
  rw [hs, bindS, hg, bindS, lit_nil, eqS hlb (by simp), hlen]
  by_cases hl : last = []
  · subst hl
    rw [decide_eq_true (show ([] : List Int) = [] from rfl)]
    by_cases hc : W.length ≤ 700
    · rw [decide_eq_false (by omega)]
      simp only [if_pos hc, if_true, Bool.not_true, Bool.or_self, cond_false]
      rw [tool_round_spec W hW [] hn, bindS]
      cases hm : mapO toolP W with
      | none => rfl
      | some ps =>
        have hpl := mapO_length hm
        simp only [elimS, l22Ok_eq ps (show ps.length ≤ 1048576 by omega), bindS]
        cases movesB ps <;> rfl
    · rw [decide_eq_true (by omega)]
      simp only [if_neg hc, if_true, Bool.or_true, cond_true]
  · rw [decide_eq_false hl, if_neg hl]
    simp only [Bool.not_false, Bool.true_or, cond_true]
theorem readTool_total (s : ByteArray) (h : s.size ≤ 1048576) : ∃ r, sh22 s = some r ∧ sh23 s = some r ∧ r.1.length ≤ 700 := by
  have hb := strI_byte s
  have hl : (strI s).length ≤ 1048576 := by rw [strI_length]; exact h
  rw [← bytesS_strI s]
  generalize strI s = L at hb hl
  have hsp := l01Split_eq L 10 hb hl
  have bound : ∀ W, (readToolR W).1.length ≤ 700 := by
    intro W
    unfold readToolR
    split
    · split
      · split
        · rename_i hs; exact movesB_len hs
        · simp
      · simp
    · simp
  rcases List.eq_nil_or_concat L with rfl | ⟨T, x, rfl⟩
  · rw [show splitL 10 ([] : List Int) = [] ++ [[]] from rfl] at hsp
    have h1 := specReadTool_lines [] [] (by simp) (by simp) (by simp) _ hsp
    have h2 := implReadTool_lines [] (by simp) (by simp) (bytesS []) (by
      unfold sh92
      rw [lit_nil, eqS (by simp) (by simp)]; rfl)
    rw [if_pos rfl] at h1
    exact ⟨_, h1, h2, bound _⟩
  · have hTb : ∀ y ∈ T, isByte y := fun y hy => hb y (by simp [hy])
    have hTl : T.length ≤ 1048575 := by simp at hl; omega
    simp only [List.concat_eq_append] at hb hl hsp ⊢
    have hg : getS (bytesS (T ++ [x])) (w64 (((bytesS (T ++ [x])).size : Int) - 1)) = some x := by
      rw [bytesS_size, List.length_append, List.length_singleton, w64_id (by omega) (by omega), show ((T.length + 1 : Nat) : Int) - 1 = (T.length : Int) by omega, getS_ok hb (by simp)]
      simp
    by_cases hx : x = 10
    · subst hx
      obtain ⟨hn, hw⟩ := splitL_bound (b := 10) T
      have hwb := splitL_mem (b := 10) (p := isByte) hTb
      have hW : ∀ w ∈ splitL 10 T, (∀ x ∈ w, isByte x) ∧ w.length ≤ 1048576 := fun w h => ⟨hwb w h, by have := hw w h; omega⟩
      rw [splitL_snoc] at hsp
      have h1 := specReadTool_lines (splitL 10 T) [] hW (by simp) (by omega) _ hsp
      rw [if_pos rfl] at h1
      have h2 := implReadTool_lines (splitL 10 T) hW (by omega) (bytesS (T ++ [10])) (by
        unfold sh92
        rw [lit_nil, eqS hb (by simp), decide_eq_false (by simp), cond_false, hg, bindS, bne_self_eq_false, cond_false, bytesS_size, List.length_append, List.length_singleton, w64_id (by omega) (by omega), show ((T.length + 1 : Nat) : Int) - 1 = (T.length : Int) by omega]
        have hs := subS_ok hb (i := 0) (j := T.length) (by omega) (by simp)
        rw [show List.take (T.length - 0) (List.drop 0 (T ++ [10])) = T by simp] at hs
        simp only [Int.natCast_zero] at hs
        rw [hs, bindS, splitAt_eq T 10 hTb (by omega), bindS])
      exact ⟨_, h1, h2, bound _⟩
    · obtain ⟨ws, w, h3, h4⟩ := splitL_last 10 T x hx
      obtain ⟨hn, hw⟩ := splitL_bound (b := 10) (T ++ [x])
      have hwb := splitL_mem (b := 10) (p := isByte) hb
      rw [h3] at hsp hn hw hwb
      have hW : ∀ v ∈ ws, (∀ x ∈ v, isByte x) ∧ v.length ≤ 1048576 := fun v h => ⟨hwb v (by simp [h]), by have := hw v (by simp [h]); omega⟩
      have h1 := specReadTool_lines ws w hW (hwb w (by simp)) (by simp at hn; omega) _ hsp
      rw [if_neg h4] at h1
      refine ⟨_, h1, ?_, by simp⟩
      unfold sh23 sh92
      rw [lit_nil, eqS hb (by simp), decide_eq_false (by simp), cond_false, hg, bindS, bne_iff_ne.2 hx, cond_true, bindS]
      rfl

/-! FnExactReadTool -/
theorem law5 (s : ByteArray) : sh5 s = some true := by
  unfold sh5
  by_cases h : s.size ≤ 1048576
  · obtain ⟨r, h1, h2, h3⟩ := readTool_total s h
    have hd : decide (1048576 < (s.size : Int)) = false := decide_eq_false (by omega)
    have m2 := markMoves_eq r.1 1 (by omega) (by omega) (by omega)
    have m3 := heldMoves_eq 1 r.1.length (by omega) (by omega) (by omega)
    have n2 : decide ((1 : Int) + 3 * (r.1.length : Int) < 0) = false := decide_eq_false (by omega)
    simp only [hd, cond_false, bindS, h1, h2, bne_self_eq_false, Bool.or_self, eqToolMoveS_eq r.1 r.1 (by omega), decide_true, Bool.not_true, m2, m3, n2]
  · have hd : decide (1048576 < (s.size : Int)) = true := decide_eq_true (by omega)
    rw [hd]; rfl
end Go.Sh
