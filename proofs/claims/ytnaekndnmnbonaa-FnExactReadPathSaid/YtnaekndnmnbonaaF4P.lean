/- Plain laws: what the shallow functions come to. -/
import Derived.Test.YtnaekndnmnbonaaF4W1
set_option linter.unusedVariables false
set_option linter.unusedSimpArgs false
namespace Go.Sh
open Go Go.RowKit

/-! iters -/
theorem w64_lo (x : Int) : -9223372036854775808 ≤ w64 x := by
  have := IntKind.wrap_i64 x
  show _ ≤ IntKind.i64.wrap x
  omega
theorem w64_hi (x : Int) : w64 x ≤ 9223372036854775807 := by
  have := IntKind.wrap_i64 x
  show IntKind.i64.wrap x ≤ _
  omega
theorem getI_toNat {T : Type} {xs : List T} {i : Int} (h0 : 0 ≤ i) (h : i.toNat < xs.length) : getI xs i = some xs[i.toNat] := by
  unfold getI; rw [if_pos h0]; exact List.getElem?_eq_getElem h
theorem nzI_ok {a : Int} (h : a ≠ 0) : nzI a = some a := by simp [nzI, h]

/-- The loop that looks for the first element that passes. -/
theorem iter_find {T : Type} {sb : Int → Option (Int ⊕ (Unit ⊕ Int))} {xs : List T} {p : T → Bool} (hl : xs.length < 1099511627776)
    (hsb : ∀ (k : Nat) (h : k < xs.length), sb (k : Int) = if p xs[k] = true then some (.inr (.inr (k : Int))) else some (.inl ((k : Int) + 1))) (he : sb (xs.length : Int) = some (.inr (.inl ()))) :
    iter sb 0 = some (if xs.any p = true then .inr (xs.findIdx p : Int) else .inl ()) := by
  have h := iter_res (sb := sb) (fun k => (k : Int)) (fun k => if (xs.drop k).any p = true then (.inr (k + (xs.drop k).findIdx p : Nat) : Unit ⊕ Int) else .inl ()) xs.length (by omega) (fun k hk => ?_) (by
    rw [he, List.drop_of_length_le (Nat.le_refl _)]; simp)
  · simpa using h
  · rw [hsb k hk, List.drop_eq_getElem_cons hk]
    by_cases hx : p xs[k] = true
    · right
      rw [if_pos hx]
      simp only [List.any_cons, hx, Bool.true_or, if_true, List.findIdx_cons, cond_true, Nat.add_zero]
    · left
      rw [if_neg hx]
      refine ⟨by simp, ?_⟩
      have hx' : p xs[k] = false := by simpa using hx
      simp only [List.any_cons, hx', Bool.false_or, List.findIdx_cons, cond_false]
      split <;> simp
      omega

theorem iterN_congr {σ ρ : Type} {sb1 sb2 : σ → Option (σ ⊕ ρ)} (I : σ → Prop) (hs : ∀ s, I s → sb1 s = sb2 s ∧ ∀ s', sb2 s = some (.inl s') → I s') : ∀ (n : Nat) (s : σ), I s → iterN sb1 n s = iterN sb2 n s
  | 0, _, _ => rfl
  | n + 1, s, h => by
    obtain ⟨h1, h2⟩ := hs s h
    simp only [iterN, h1]
    cases hb : sb2 s with
    | none => rfl
    | some o =>
      cases o with
      | inl s' => exact iterN_congr I hs n s' (h2 s' hb)
      | inr x => rfl
/-- Two loops whose bodies agree where the invariant holds. -/
theorem iter_congr {σ ρ : Type} {sb1 sb2 : σ → Option (σ ⊕ ρ)} (I : σ → Prop) {s0 : σ} (h0 : I s0) (hs : ∀ s, I s → sb1 s = sb2 s ∧ ∀ s', sb2 s = some (.inl s') → I s') : iter sb1 s0 = iter sb2 s0 :=
  iterN_congr I hs FUEL s0 h0

/-- A loop over a list, as a fold. -/
theorem iter_fold {T σ S ρ : Type} {sb : S → Option (S ⊕ ρ)} (xs : List T) (st : Nat → σ → S) (g : σ → T → σ) (h : σ → ρ) (I : Nat → σ → Prop) (s0 : σ) (h0 : I 0 s0) (hl : xs.length < 1099511627776)
    (hsb : ∀ (k : Nat) (hk : k < xs.length) s, I k s → sb (st k s) = some (.inl (st (k + 1) (g s xs[k]))) ∧ I (k + 1) (g s xs[k])) (he : ∀ s, I xs.length s → sb (st xs.length s) = some (.inr (h s))) :
    iter sb (st 0 s0) = some (h (xs.foldl g s0)) ∧ I xs.length (xs.foldl g s0) := by
  have hI : ∀ k, k ≤ xs.length → I k ((xs.take k).foldl g s0) := by
    intro k
    induction k with
    | zero => intro _; simpa using h0
    | succ k ih =>
      intro hk
      rw [List.take_succ_eq_append_getElem (by omega), List.foldl_append]
      exact (hsb k (by omega) _ (ih (by omega))).2
  have hlast := hI xs.length (Nat.le_refl _)
  rw [List.take_length] at hlast
  refine ⟨?_, hlast⟩
  refine iter_steps (fun k => st k ((xs.take k).foldl g s0)) xs.length (by omega) (fun k hk => ?_) (by rw [List.take_length]; exact he _ hlast)
  rw [(hsb k hk _ (hI k (by omega))).1, List.take_succ_eq_append_getElem hk, List.foldl_append]
  rfl

/-- The greater one. -/
def mx (a b : Int) : Int := if a < b then b else a
def mn (a b : Int) : Int := if b < a then b else a
theorem mx_comm' (a b : Int) : (if b < a then a else b) = mx a b := by unfold mx; split <;> split <;> omega
theorem foldl_snoc {α β : Type} (f : α → β) : ∀ (xs : List α) (a : List β), xs.foldl (fun acc m => acc ++ [f m]) a = a ++ xs.map f
  | [], a => by simp
  | x :: xs, a => by rw [List.foldl_cons, foldl_snoc f xs]; simp

/-! decimal -/
theorem u64_id {x : Int} (h1 : 0 ≤ x) (h2 : x < 18446744073709551616) : IntKind.u64.wrap x = x := by
  unfold IntKind.wrap
  have hs : IntKind.u64.signed = false := rfl
  have hb : IntKind.u64.bits = 64 := rfl
  simp only [hs, hb, Bool.false_and]
  show x % 2 ^ 64 = x
  omega
theorem u64_neg {x : Int} (h1 : -9223372036854775808 ≤ x) (h2 : x < 0) : IntKind.u64.wrap (0 - IntKind.u64.wrap x) = -x := by
  unfold IntKind.wrap
  have hs : IntKind.u64.signed = false := rfl
  have hb : IntKind.u64.bits = 64 := rfl
  simp only [hs, hb, Bool.false_and]
  show (0 - x % 2 ^ 64) % 2 ^ 64 = -x
  omega
theorem u8_id {x : Int} (h1 : 0 ≤ x) (h2 : x < 256) : IntKind.u8.wrap x = x := by
  unfold IntKind.wrap
  have hs : IntKind.u8.signed = false := rfl
  have hb : IntKind.u8.bits = 8 := rfl
  simp only [hs, hb, Bool.false_and]
  show x % 2 ^ 8 = x
  omega

/-- The digits of a number, the first one first. -/
def digs (n : Nat) : List Int := if h : n = 0 then [] else digs (n / 10) ++ [48 + ((n % 10 : Nat) : Int)]
decreasing_by omega
theorem digs_zero : digs 0 = [] := by unfold digs; simp
theorem digs_pos {n : Nat} (h : 0 < n) : digs n = digs (n / 10) ++ [48 + ((n % 10 : Nat) : Int)] := by
  rw [digs]; simp [show n ≠ 0 by omega]
theorem digs_len : ∀ (k n : Nat), n < 10 ^ k → (digs n).length ≤ k
  | 0, n, h => by
    have : n = 0 := by simpa using h
    subst this; simp [digs_zero]
  | k + 1, n, h => by
    by_cases h0 : n = 0
    · subst h0; simp [digs_zero]
    · rw [digs_pos (by omega), List.length_append]
      have := digs_len k (n / 10) (by rw [Nat.pow_succ] at h; omega)
      simp; omega
theorem digs_byte (n : Nat) : ∀ x ∈ digs n, 48 ≤ x ∧ x ≤ 57 := by
  induction n using Nat.strongRecOn with
  | ind n ih =>
    intro x hx
    by_cases h0 : n = 0
    · subst h0; rw [digs_zero] at hx; simp at hx
    · rw [digs_pos (by omega)] at hx
      rcases List.mem_append.1 hx with h | h
      · exact ih (n / 10) (by omega) x h
      · simp at h; omega
theorem digs_ne {n : Nat} (h : 0 < n) : digs n ≠ [] := by rw [digs_pos h]; simp

/-- The bytes of a number in decimal. -/
def decL (n : Int) : List Int := if n = 0 then [48] else (if n < 0 then [45] else []) ++ digs n.natAbs
theorem decL_len {n : Int} (h1 : -9223372036854775808 ≤ n) (h2 : n ≤ 9223372036854775807) : (decL n).length ≤ 20 := by
  unfold decL
  have := digs_len 19 n.natAbs (by omega)
  split
  · simp
  · split <;> simp <;> omega
theorem decL_byte (n : Int) : ∀ x ∈ decL n, 0 ≤ x ∧ x < 256 := by
  intro x hx
  unfold decL at hx
  split at hx
  · simp at hx; omega
  · rcases List.mem_append.1 hx with h | h
    · split at h <;> simp at h; omega
    · have := digs_byte _ x h; omega

/-! bytes as a string -/
theorem bytesS_foldl : ∀ (xs : List Int) (s : ByteArray), xs.foldl (fun r n => r.push (UInt8.ofNat n.toNat)) s = ⟨s.data ++ (xs.map fun n => UInt8.ofNat n.toNat).toArray⟩
  | [], s => by simp
  | n :: ns, s => by
    rw [List.foldl_cons, bytesS_foldl ns]
    simp [ByteArray.push]
theorem bytesS_data (xs : List Int) : bytesS xs = ⟨(xs.map fun n => UInt8.ofNat n.toNat).toArray⟩ := by
  unfold bytesS
  rw [bytesS_foldl]
  congr 1
  apply Array.ext'
  simp [ByteArray.empty, ByteArray.emptyWithCapacity]
  rfl
theorem bytesS_size (xs : List Int) : (bytesS xs).size = xs.length := by
  rw [bytesS_data]
  show (List.toArray _).size = _
  simp
theorem bytesS_append (xs ys : List Int) : bytesS xs ++ bytesS ys = bytesS (xs ++ ys) := by
  apply ByteArray.ext
  rw [ByteArray.data_append, bytesS_data, bytesS_data, bytesS_data]
  apply Array.ext'
  simp
theorem strI_bytesS {xs : List Int} (h : ∀ x ∈ xs, 0 ≤ x ∧ x < 256) : strI (bytesS xs) = xs := by
  rw [bytesS_data, strI]
  simp only [List.map_map]
  conv => rhs; rw [← List.map_id xs]
  refine List.map_congr_left fun x hx => ?_
  obtain ⟨h1, h2⟩ := h x hx
  show ((UInt8.ofNat x.toNat).toNat : Int) = x
  rw [UInt8.toNat_ofNat']
  omega
theorem catS_ok {xs ys : List Int} (h : xs.length + ys.length ≤ 1099511627776) : catS (bytesS xs) (bytesS ys) = some (bytesS (xs ++ ys)) := by
  have : LIM = 1099511627776 := rfl
  unfold catS
  rw [bytesS_size, bytesS_size, if_pos (by omega), bytesS_append]
theorem lit_nil : (ByteArray.mk #[] : ByteArray) = bytesS [] := rfl
theorem lit_minus : (ByteArray.mk #[45] : ByteArray) = bytesS [45] := rfl
theorem lit_zero : (ByteArray.mk #[48] : ByteArray) = bytesS [48] := rfl
theorem lit_blank : (ByteArray.mk #[32] : ByteArray) = bytesS [32] := rfl

theorem tmod_abs (n : Int) : (if n.tmod 10 < 0 then 0 - n.tmod 10 else n.tmod 10) = ((n.natAbs % 10 : Nat) : Int) := by
  by_cases h : 0 ≤ n
  · rw [Int.tmod_eq_emod_of_nonneg h]; split <;> omega
  · have := Int.neg_tmod (-n) 10
    rw [Int.neg_neg] at this
    rw [this, Int.tmod_eq_emod_of_nonneg (by omega)]
    split <;> omega
theorem tdiv_abs (n : Int) : (n.tdiv 10).natAbs = n.natAbs / 10 := by
  rw [Int.natAbs_tdiv]; rfl

theorem l01Dec_eq (n : Int) (h1 : -9223372036854775808 ≤ n) (h2 : n ≤ 9223372036854775807) : sh144 n = some (bytesS (decL n)) := by
  unfold sh144
  have hN : n.natAbs < 10 ^ 19 := by omega
  obtain ⟨b, hb, hr⟩ := iter_inv (sb := sh144_1) (fun (s : Int × List Int) => -9223372036854775808 ≤ s.1 ∧ s.1 ≤ 9223372036854775807 ∧ digs n.natAbs = digs s.1.natAbs ++ s.2) (fun s => (digs s.1.natAbs).length) (fun (b : List Int) => b = digs n.natAbs) (s0 := (n, [])) ⟨h1, h2, by simp⟩ (by have := digs_len 19 _ hN; simp only; omega) (by
    rintro ⟨x, l⟩ ⟨h3, h4, h5⟩
    simp only at h3 h4 h5
    by_cases hx : x = 0
    · right
      subst hx
      refine ⟨l, rfl, ?_⟩
      rw [h5]; simp [digs_zero]
    · left
      have hlen := digs_len 19 _ hN
      rw [h5, List.length_append] at hlen
      have hne : (x != 0) = true := bne_iff_ne.2 hx
      have hd := tmod_abs x
      simp only [sh144_1, hne, cond_true]
      have e1 : (bif decide ((x.tmod 10) < 0) then (some (w64 (0 - (x.tmod 10)))) else (some (x.tmod 10))) = some ((x.natAbs % 10 : Nat) : Int) := by
        rw [← hd]
        by_cases hneg : x.tmod 10 < 0
        · rw [if_pos hneg] at hd ⊢
          simp only [hneg, decide_true, cond_true]
          rw [w64_id (by omega) (by omega)]
        · rw [if_neg hneg]; simp [hneg]
      have hdiv := tdiv_abs x
      rw [e1, bindS, w64_id (x := 48 + _) (by omega) (by omega), u8_id (by omega) (by omega), appL_ok (by simp only [List.length_cons, List.length_nil]; omega), bindS, w64_id (x := x.tdiv 10) (by omega) (by omega)]
      have hp := digs_pos (n := x.natAbs) (by omega)
      refine ⟨_, rfl, ⟨?_, ?_, ?_⟩, ?_⟩
      · simp only; omega
      · simp only; omega
      · simp only
        rw [hdiv, h5, hp, List.append_assoc]
      · simp only; rw [hdiv, hp]; simp)
  rw [hb, bindS, hr]
  by_cases h0 : n = 0
  · subst h0; rw [Int.natAbs_zero, digs_zero]; rfl
  · have hne := digs_ne (n := n.natAbs) (by omega)
    have hl : ((digs n.natAbs).length : Int) ≠ 0 := by
      have := List.length_pos_iff.2 hne
      omega
    have hlen := digs_len 19 _ hN
    rw [beq_eq_false_iff_ne.2 hl, cond_false]
    unfold decL
    rw [if_neg h0]
    by_cases hneg : n < 0
    · simp only [hneg, decide_true, cond_true, if_true]
      rw [lit_minus, catS_ok (by simp only [List.length_cons, List.length_nil]; omega), bindS]
    · simp [hneg]

theorem Decimal_eq (n : Int) (h1 : -9223372036854775808 ≤ n) (h2 : n ≤ 9223372036854775807) : sh109 n = some (bytesS (decL n)) := by
  unfold sh109
  by_cases h0 : n = 0
  · subst h0; rfl
  · have hN : n.natAbs < 10 ^ 19 := by omega
    rw [beq_eq_false_iff_ne.2 h0, cond_false]
    have e1 : (bif decide (n < 0) then (some (IntKind.u64.wrap (0 - (IntKind.u64.wrap n)))) else (some (IntKind.u64.wrap n))) = some (n.natAbs : Int) := by
      by_cases hneg : n < 0
      · simp only [hneg, decide_true, cond_true]
        rw [u64_neg h1 hneg]; congr 1; omega
      · have hd : decide (n < 0) = false := decide_eq_false hneg
        simp only [hd, cond_false]
        rw [u64_id (by omega) (by omega)]; congr 1; omega
    rw [e1, bindS]
    obtain ⟨b, hb, hr1, hr2, hr3, hr4⟩ := iter_inv (sb := sh109_1) (fun (s : Int × Int × List Int) => ∃ a r : Nat, s.1 = (a : Int) ∧ s.2.1 = (r : Int) ∧ 1 ≤ a ∧ a ≤ 20 ∧ r < 10 ^ (a - 1) ∧ s.2.2.length = 20 ∧ digs n.natAbs = digs r ++ s.2.2.drop a) (fun s => s.1.toNat)
      (fun (b : Int × List Int) => 1 ≤ b.1 ∧ b.1 ≤ 20 ∧ b.2.length = 20 ∧ digs n.natAbs = b.2.drop b.1.toNat) (s0 := (20, (n.natAbs : Int), List.replicate 20 (0 : Int)))
      ⟨20, n.natAbs, rfl, rfl, by omega, by omega, hN, rfl, by simp⟩ (by simp only; omega) (by
      rintro ⟨x, y, l⟩ ⟨a, r, rfl, rfl, ha1, ha2, hr, hl, hd⟩
      simp only at hl hd ⊢
      by_cases hr0 : r = 0
      · right
        subst hr0
        refine ⟨((a : Int), l), rfl, by simp only; omega, by simp only; omega, hl, ?_⟩
        simp only [Int.toNat_natCast]
        rw [hd, digs_zero, List.nil_append]
      · left
        have ha : 2 ≤ a := by
          rcases Nat.lt_or_ge a 2 with h | h
          · have : a = 1 := by omega
            subst this
            simp at hr; omega
          · exact h
        have hp : 10 ^ (a - 1) ≤ 10 ^ 19 := Nat.pow_le_pow_right (by omega) (by omega)
        have hp2 : 10 ^ (a - 1) = 10 ^ (a - 1 - 1) * 10 := by rw [← Nat.pow_succ]; congr 1; omega
        have hpos : (0 : Int) < (r : Int) := by omega
        have hw : w64 ((a : Int) - 1) = ((a - 1 : Nat) : Int) := by rw [w64_id (by omega) (by omega)]; omega
        have hlt : a - 1 < l.length := by omega
        have et : ((r : Int)).tmod 10 = ((r % 10 : Nat) : Int) := by rw [Int.tmod_eq_emod_of_nonneg (by omega)]; omega
        have ed : ((r : Int)).tdiv 10 = ((r / 10 : Nat) : Int) := by rw [Int.tdiv_eq_ediv_of_nonneg (by omega)]; omega
        simp only [sh109_1, hpos, decide_true, cond_true, hw, getI_lt hlt, bindS, et, ed, Int.toNat_natCast]
        rw [u64_id (x := ((r / 10 : Nat) : Int)) (by omega) (by omega), u64_id (x := 48 + ((r % 10 : Nat) : Int)) (by omega) (by omega), u8_id (by omega) (by omega)]
        refine ⟨_, rfl, ⟨a - 1, r / 10, rfl, rfl, by omega, by omega, by omega, by simp only [List.length_set]; exact hl, ?_⟩, by simp only [Int.toNat_natCast]; omega⟩
        simp only
        rw [hd, digs_pos (n := r) (by omega), List.append_assoc]
        congr 1
        rw [List.drop_eq_getElem_cons (i := a - 1) (by rw [List.length_set]; exact hlt), List.getElem_set_self, List.drop_set_of_lt (by omega)]
        rw [show a - 1 + 1 = a by omega]
        rfl)
    rw [hb, bindS]
    obtain ⟨x, l⟩ := b
    simp only at hr1 hr2 hr3 hr4
    obtain ⟨a, rfl⟩ : ∃ a : Nat, x = a := ⟨x.toNat, by omega⟩
    simp only [Int.toNat_natCast] at hr4
    unfold decL
    rw [if_neg h0]
    by_cases hneg : n < 0
    · have hw : w64 ((a : Int) - 1) = ((a - 1 : Nat) : Int) := by rw [w64_id (by omega) (by omega)]; omega
      have hlt : a - 1 < l.length := by omega
      simp only [hneg, decide_true, cond_true, hw, getI_lt hlt, bindS, if_true, Int.toNat_natCast]
      have hdl : dropL (l.set (a - 1) 45) ((a - 1 : Nat) : Int) = some ((l.set (a - 1) 45).drop (a - 1)) := by
        simp [dropL]; omega
      rw [hdl, bindS, List.drop_eq_getElem_cons (i := a - 1) (by rw [List.length_set]; exact hlt), List.getElem_set_self, List.drop_set_of_lt (by omega), hr4]
      rw [show a - 1 + 1 = a by omega]
      rfl
    · have hd : decide (n < 0) = false := decide_eq_false hneg
      have hdl : dropL l (a : Int) = some (l.drop a) := by
        simp [dropL]; omega
      simp only [hd, cond_false, bindS, hdl]
      rw [if_neg hneg, List.nil_append, hr4]

/-! strs -/
def isByte (x : Int) : Prop := 0 ≤ x ∧ x < 256
theorem strI_byte (s : ByteArray) : ∀ x ∈ strI s, isByte x := by
  intro x hx
  unfold strI at hx
  obtain ⟨b, _, rfl⟩ := List.mem_map.1 hx
  have := UInt8.toNat_lt b
  unfold isByte
  omega
theorem bytesS_strI (s : ByteArray) : bytesS (strI s) = s := by
  rw [bytesS_data, strI, List.map_map]
  apply ByteArray.ext
  apply Array.ext'
  simp only [List.map_map]
  conv => rhs; rw [← List.map_id s.data.toList]
  refine List.map_congr_left fun b _ => ?_
  show UInt8.ofNat ((b.toNat : Int)).toNat = b
  rw [Int.toNat_natCast]
  exact UInt8.ofNat_toNat
theorem strI_inj {a b : ByteArray} (h : strI a = strI b) : a = b := by rw [← bytesS_strI a, h, bytesS_strI]
theorem bytesS_inj {A B : List Int} (hA : ∀ x ∈ A, isByte x) (hB : ∀ x ∈ B, isByte x) (h : bytesS A = bytesS B) : A = B := by
  rw [← strI_bytesS hA, h, strI_bytesS hB]
theorem toList_loop (s : ByteArray) : ∀ (k i : Nat) (r : List UInt8), s.size - i = k → ByteArray.toList.loop s i r = r.reverse ++ s.data.toList.drop i
  | 0, i, r, h => by
    rw [ByteArray.toList.loop, if_neg (by omega), List.drop_of_length_le (by show s.data.size ≤ i; have : s.data.size = s.size := rfl; omega), List.append_nil]
  | k + 1, i, r, h => by
    have hi : i < s.size := by omega
    have hi2 : i < s.data.toList.length := hi
    rw [ByteArray.toList.loop, if_pos hi, toList_loop s k (i + 1) _ (by omega), List.drop_eq_getElem_cons hi2, List.reverse_cons, List.append_assoc]
    have : s.get! i = s.data.toList[i] := by
      show s.data[i]! = _
      rw [getElem!_pos s.data i hi]
      simp
    rw [this]
    rfl
theorem toList_data (s : ByteArray) : s.toList = s.data.toList := by
  unfold ByteArray.toList
  rw [toList_loop s s.size 0 [] (by omega)]
  simp
theorem toList_inj {a b : ByteArray} (h : a.toList = b.toList) : a = b := by
  rw [toList_data, toList_data] at h
  exact ByteArray.ext (Array.toList_inj.1 h)
theorem eqS {A B : List Int} (hA : ∀ x ∈ A, isByte x) (hB : ∀ x ∈ B, isByte x) : ((bytesS A).toList == (bytesS B).toList) = decide (A = B) := by
  by_cases h : A = B
  · subst h; simp
  · have : (bytesS A).toList ≠ (bytesS B).toList := fun he => h (bytesS_inj hA hB (toList_inj he))
    simp [h, this]
theorem getS_strI (s : ByteArray) (k : Nat) : getS s (k : Int) = (strI s)[k]? := by
  unfold getS strI
  rw [if_pos (by omega), Int.toNat_natCast, List.getElem?_map]
  congr 1
  by_cases h : k < s.size
  · rw [getElem?_pos s k h, List.getElem?_eq_getElem (show k < s.data.toList.length from h)]
    rfl
  · rw [getElem?_neg s k h, List.getElem?_eq_none (show s.data.toList.length ≤ k from Nat.le_of_not_lt h)]
theorem getS_ok {L : List Int} (hb : ∀ x ∈ L, isByte x) {k : Nat} (h : k < L.length) : getS (bytesS L) (k : Int) = some L[k] := by
  rw [getS_strI, strI_bytesS hb, List.getElem?_eq_getElem h]
theorem subS_ok {L : List Int} (hb : ∀ x ∈ L, isByte x) {i j : Nat} (hij : i ≤ j) (h : j ≤ L.length) : subS (bytesS L) (i : Int) (j : Int) = some (bytesS ((L.drop i).take (j - i))) := by
  unfold subS
  rw [if_pos (by rw [bytesS_size]; omega), Int.toNat_natCast, Int.toNat_natCast]
  congr 1
  apply strI_inj
  rw [strI_bytesS (fun x hx => hb x (List.mem_of_mem_drop (List.mem_of_mem_take hx)))]
  unfold strI
  rw [ByteArray.data_extract, Array.toList_extract, List.extract_eq_take_drop, List.map_take, List.map_drop]
  have := strI_bytesS hb
  unfold strI at this
  rw [this]
theorem mem_drop_take {L : List Int} (hb : ∀ x ∈ L, isByte x) (i j : Nat) : ∀ x ∈ (L.drop i).take j, isByte x := fun x hx => hb x (List.mem_of_mem_drop (List.mem_of_mem_take hx))

/-! parts of a text -/
def consHead (x : Int) : List (List Int) → List (List Int)
  | [] => [[x]]
  | h :: t => (x :: h) :: t
def splitL (b : Int) : List Int → List (List Int)
  | [] => [[]]
  | x :: xs => if x = b then [] :: splitL b xs else consHead x (splitL b xs)
theorem splitL_ne (b : Int) (L : List Int) : splitL b L ≠ [] := by
  cases L with
  | nil => simp [splitL]
  | cons x xs =>
    unfold splitL
    split
    · simp
    · cases splitL b xs <;> simp [consHead]
theorem splitL_none {b : Int} : ∀ {a : List Int}, b ∉ a → splitL b a = [a]
  | [], _ => rfl
  | x :: xs, h => by
    have h1 : x ≠ b := fun e => h (by simp [e])
    have h2 : b ∉ xs := fun e => h (by simp [e])
    rw [splitL, if_neg h1, splitL_none h2]
    rfl
theorem splitL_app {b : Int} : ∀ {a : List Int} (c : List Int), b ∉ a → splitL b (a ++ b :: c) = a :: splitL b c
  | [], c, _ => by simp [splitL]
  | x :: xs, c, h => by
    have h1 : x ≠ b := fun e => h (by simp [e])
    have h2 : b ∉ xs := fun e => h (by simp [e])
    rw [List.cons_append, splitL, if_neg h1, splitL_app c h2]
    rfl
theorem splitL_mem {b : Int} {p : Int → Prop} : ∀ {L : List Int}, (∀ x ∈ L, p x) → ∀ w ∈ splitL b L, ∀ x ∈ w, p x
  | [], _, w, hw, x, hx => by simp [splitL] at hw; subst hw; cases hx
  | y :: ys, h, w, hw, x, hx => by
    have ih := splitL_mem (b := b) (fun z hz => h z (List.mem_cons_of_mem _ hz)) (L := ys)
    rw [splitL] at hw
    split at hw
    · rcases List.mem_cons.1 hw with rfl | hw
      · cases hx
      · exact ih w hw x hx
    · cases hs : splitL b ys with
      | nil => exact absurd hs (splitL_ne b ys)
      | cons u t =>
        rw [hs, consHead] at hw
        rw [hs] at ih
        rcases List.mem_cons.1 hw with rfl | hw
        · rcases List.mem_cons.1 hx with rfl | hx
          · exact h _ (List.mem_cons_self ..)
          · exact ih u (List.mem_cons_self ..) x hx
        · exact ih w (List.mem_cons_of_mem _ hw) x hx
theorem splitL_bound {b : Int} : ∀ (L : List Int), (splitL b L).length ≤ L.length + 1 ∧ ∀ w ∈ splitL b L, w.length ≤ L.length
  | [] => by simp [splitL]
  | y :: ys => by
    obtain ⟨h1, h2⟩ := splitL_bound (b := b) ys
    rw [splitL]
    split
    · refine ⟨by simp only [List.length_cons]; omega, fun w hw => ?_⟩
      rcases List.mem_cons.1 hw with rfl | hw
      · simp
      · have := h2 w hw; simp only [List.length_cons]; omega
    · cases hs : splitL b ys with
      | nil => exact absurd hs (splitL_ne b ys)
      | cons u t =>
        rw [hs] at h1 h2
        refine ⟨by simp only [consHead, List.length_cons] at h1 ⊢; omega, fun w hw => ?_⟩
        rw [consHead] at hw
        rcases List.mem_cons.1 hw with rfl | hw
        · have := h2 u (List.mem_cons_self ..); simp only [List.length_cons]; omega
        · have := h2 w (List.mem_cons_of_mem _ hw); simp only [List.length_cons]; omega
theorem drop_split {L : List Int} {f i : Nat} (hf : f ≤ i) (hi : i < L.length) : L.drop f = (L.drop f).take (i - f) ++ L[i] :: L.drop (i + 1) := by
  conv => lhs; rw [← List.take_append_drop (i - f) (L.drop f)]
  rw [List.drop_drop, show f + (i - f) = i by omega, List.drop_eq_getElem_cons hi]
theorem take_snoc {L : List Int} {f i : Nat} (hf : f ≤ i) (hi : i < L.length) : (L.drop f).take (i + 1 - f) = (L.drop f).take (i - f) ++ [L[i]] := by
  rw [show i + 1 - f = (i - f) + 1 by omega, List.take_succ_eq_append_getElem (by rw [List.length_drop]; omega), List.getElem_drop]
  congr 2
  simp only [show f + (i - f) = i by omega]

theorem splitAt_eq (L : List Int) (b : Int) (hb : ∀ x ∈ L, isByte x) (hl : L.length ≤ 1048576) : sh80 (bytesS L) b = some ((splitL b L).map bytesS) := by
  unfold sh80
  obtain ⟨y, hy, f, acc, rfl, hf, hacc, hno, hal⟩ := iter_inv (sb := sh80_1 (bytesS L) b)
    (fun (s : Int × Int × List ByteArray) => ∃ (f i : Nat) (acc : List (List Int)), s = ((f : Int), (i : Int), acc.map bytesS) ∧ f ≤ i ∧ i ≤ L.length ∧ acc ++ splitL b (L.drop f) = splitL b L ∧ b ∉ (L.drop f).take (i - f) ∧ acc.length ≤ f)
    (fun s => L.length - s.2.1.toNat)
    (fun (y : Int × List ByteArray) => ∃ (f : Nat) (acc : List (List Int)), y = ((f : Int), acc.map bytesS) ∧ f ≤ L.length ∧ acc ++ splitL b (L.drop f) = splitL b L ∧ b ∉ L.drop f ∧ acc.length ≤ f) (s0 := (0, 0, []))
    ⟨0, 0, [], rfl, by omega, by omega, by simp, by simp, by simp⟩ (by simp only; omega) (by
    rintro s ⟨f, i, acc, rfl, h1, h2, h3, h4, h5⟩
    by_cases hi : i < L.length
    · left
      have hd : decide ((i : Int) < ((bytesS L).size : Int)) = true := by rw [bytesS_size]; exact decide_eq_true (by omega)
      simp only [sh80_1, hd, cond_true, getS_ok hb hi, bindS]
      by_cases he : L[i] = b
      · have hp := subS_ok hb h1 (Nat.le_of_lt hi)
        rw [show (L[i] == b) = true from beq_iff_eq.2 he, cond_true, hp, bindS, appL_ok (by simp only [List.length_map, List.length_cons, List.length_nil]; omega), bindS, bindS, w64_id (by omega) (by omega)]
        refine ⟨_, rfl, ⟨i + 1, i + 1, acc ++ [(L.drop f).take (i - f)], by simp, by omega, by omega, ?_, by simp, by simp; omega⟩, by simp only; omega⟩
        rw [← h3, drop_split h1 hi, he, splitL_app _ h4]
        simp only [List.append_assoc, List.cons_append, List.nil_append]
        rw [← he, ← drop_split h1 hi]
      · rw [show (L[i] == b) = false from beq_eq_false_iff_ne.2 he, cond_false, bindS, w64_id (by omega) (by omega)]
        refine ⟨_, rfl, ⟨f, i + 1, acc, by simp, by omega, by omega, h3, ?_, h5⟩, by simp only; omega⟩
        rw [take_snoc h1 hi]
        intro hm
        rcases List.mem_append.1 hm with hm | hm
        · exact h4 hm
        · simp at hm; exact he hm.symm
    · right
      have hd : decide ((i : Int) < ((bytesS L).size : Int)) = false := by rw [bytesS_size]; exact decide_eq_false (by omega)
      simp only [sh80_1, hd, cond_false]
      refine ⟨_, rfl, f, acc, rfl, by omega, h3, ?_, h5⟩
      rw [List.take_of_length_le (by rw [List.length_drop]; omega)] at h4
      exact h4)
  rw [hy, bindS]
  have hp := subS_ok hb hf (Nat.le_refl L.length)
  rw [bytesS_size]
  rw [List.take_of_length_le (by rw [List.length_drop]; omega)] at hp
  rw [hp, bindS, appL_ok (by simp only [List.length_map, List.length_cons, List.length_nil]; omega), bindS, ← hacc, splitL_none hno]
  simp
theorem l01Split_same (s : ByteArray) (b : Int) : sh85 s b = sh80 s b := rfl
theorem l01Split_eq (L : List Int) (b : Int) (hb : ∀ x ∈ L, isByte x) (hl : L.length ≤ 1048576) : sh85 (bytesS L) b = some ((splitL b L).map bytesS) := by
  rw [l01Split_same, splitAt_eq L b hb hl]

/-! numbers -/
def isDig (x : Int) : Bool := decide (48 ≤ x) && decide (x ≤ 57)
def valD (D : List Int) : Int := D.foldl (fun a d => 10 * a + (d - 48)) 0
theorem valD_snoc (D : List Int) (x : Int) : valD (D ++ [x]) = 10 * valD D + (x - 48) := by simp [valD]
theorem valD_digs (n : Nat) : valD (digs n) = n := by
  induction n using Nat.strongRecOn with
  | ind n ih =>
    by_cases h0 : n = 0
    · subst h0; rw [digs_zero]; rfl
    · rw [digs_pos (by omega), valD_snoc, ih (n / 10) (by omega)]; omega
theorem digs_isDig (n : Nat) : (digs n).all isDig = true := by
  rw [List.all_eq_true]
  intro x hx
  have := digs_byte n x hx
  unfold isDig
  simp only [Bool.and_eq_true, decide_eq_true_eq]
  exact this
theorem digLoop (D : List Int) (hb : ∀ x ∈ D, isByte x) (hl : D.length ≤ 18) : iter (sh82_1 (bytesS D)) (0, 0) = some (if D.all isDig = true then .inl (valD D) else .inr (0, false)) ∧
    (D.all isDig = true → 0 ≤ valD D ∧ valD D < 1000000000000000000) := by
  obtain ⟨y, hy, hr⟩ := iter_inv (sb := sh82_1 (bytesS D)) (fun (s : Int × Int) => ∃ k : Nat, s = (valD (D.take k), (k : Int)) ∧ k ≤ D.length ∧ (D.take k).all isDig = true ∧ 0 ≤ valD (D.take k) ∧ valD (D.take k) < ((10 ^ k : Nat) : Int))
    (fun s => D.length - s.2.toNat) (fun (y : Int ⊕ (Int × Bool)) => y = (if D.all isDig = true then .inl (valD D) else .inr (0, false)) ∧ (D.all isDig = true → 0 ≤ valD D ∧ valD D < 1000000000000000000)) (s0 := (0, 0))
    ⟨0, rfl, by omega, rfl, by simp [valD], by simp [valD]⟩ (by simp only; omega) (by
    rintro s ⟨k, rfl, h1, h2, h3, h4⟩
    by_cases hk : k < D.length
    · have hd : decide ((k : Int) < ((bytesS D).size : Int)) = true := by rw [bytesS_size]; exact decide_eq_true (by omega)
      have hbk := hb _ (List.getElem_mem hk)
      simp only [sh82_1, hd, cond_true, getS_ok hb hk, bindS]
      have ec : (bif decide (D[k] < 48) then (some true) else some (decide (57 < D[k]))) = some (!isDig D[k]) := by
        unfold isDig
        by_cases h5 : D[k] < 48
        · rw [decide_eq_true h5, decide_eq_false (show ¬ 48 ≤ D[k] by omega)]; rfl
        · rw [decide_eq_false h5, decide_eq_true (show 48 ≤ D[k] by omega)]
          by_cases h6 : 57 < D[k]
          · rw [decide_eq_true h6, decide_eq_false (show ¬ D[k] ≤ 57 by omega)]; rfl
          · rw [decide_eq_false h6, decide_eq_true (show D[k] ≤ 57 by omega)]; rfl
      rw [ec, bindS]
      cases hdg : isDig D[k]
      · right
        refine ⟨_, rfl, ?_, ?_⟩
        · rw [if_neg]
          rw [List.all_eq_true]
          intro h
          rw [h _ (List.getElem_mem hk)] at hdg
          cases hdg
        · intro h
          rw [List.all_eq_true] at h
          rw [h _ (List.getElem_mem hk)] at hdg
          cases hdg
      · left
        have hx := hdg
        unfold isDig at hx
        simp only [Bool.and_eq_true, decide_eq_true_eq] at hx
        have hp : 10 ^ k ≤ 10 ^ 17 := Nat.pow_le_pow_right (by omega) (by omega)
        have hps : 10 ^ (k + 1) = 10 ^ k * 10 := Nat.pow_succ ..
        simp only [Bool.not_true, cond_false]
        rw [w64_id (x := 10 * valD (D.take k)) (by omega) (by omega), u8_id (by omega) (by omega), w64_id (x := D[k] - 48) (by omega) (by omega), w64_id (x := 10 * valD (D.take k) + (D[k] - 48)) (by omega) (by omega), w64_id (x := (k : Int) + 1) (by omega) (by omega)]
        have hv : valD (D.take (k + 1)) = 10 * valD (D.take k) + (D[k] - 48) := by rw [List.take_succ_eq_append_getElem hk, valD_snoc]
        refine ⟨_, rfl, ⟨k + 1, by rw [hv]; rfl, by omega, by rw [List.take_succ_eq_append_getElem hk, List.all_append, h2]; simp [hdg], by omega, by omega⟩, by simp only; omega⟩
    · right
      have hd : decide ((k : Int) < ((bytesS D).size : Int)) = false := by rw [bytesS_size]; exact decide_eq_false (by omega)
      simp only [sh82_1, hd, cond_false]
      have hkl : k = D.length := by omega
      subst hkl
      rw [List.take_length] at h2 h3 h4 ⊢
      have hp : 10 ^ D.length ≤ 10 ^ 18 := Nat.pow_le_pow_right (by omega) (by omega)
      exact ⟨_, rfl, by rw [if_pos h2], fun _ => ⟨h3, by omega⟩⟩)
  exact ⟨by rw [hy, hr.1], hr.2⟩

/-- What both readers of a number come to. -/
def digPart (L : List Int) : List Int := if L.head? = some 45 then L.tail else L
def numV (L : List Int) : Int := if (digPart L).length < L.length then 0 - valD (digPart L) else valD (digPart L)
def readD (L : List Int) : Int × Bool :=
  if (digPart L).length < 1 ∨ 18 < (digPart L).length then (0, false)
  else if (digPart L).all isDig = true then
    (if decL (numV L) = L then (numV L, true) else (0, false))
  else (0, false)
theorem digPart_byte {L : List Int} (hb : ∀ x ∈ L, isByte x) : ∀ x ∈ digPart L, isByte x := by
  intro x hx
  unfold digPart at hx
  split at hx
  · exact hb x (List.mem_of_mem_tail hx)
  · exact hb x hx
theorem readDecimal_eq (L : List Int) (hb : ∀ x ∈ L, isByte x) (hl : L.length ≤ 1048576) : sh82 (bytesS L) = some (readD L) := by
  unfold sh82 readD
  have e1 : (bif decide (0 < ((bytesS L).size : Int)) then (Option.bind (getS (bytesS L) 0) fun x2 => some (x2 == 45)) else (some false)) = some (decide (L.head? = some 45)) := by
    rw [bytesS_size]
    cases L with
    | nil => rfl
    | cons x xs =>
      have h := getS_ok hb (k := 0) (by simp)
      simp only [Int.natCast_zero] at h
      rw [decide_eq_true (by simp only [List.length_cons]; omega), cond_true, h, bindS]
      simp only [List.getElem_cons_zero, List.head?_cons, Option.some.injEq]
      by_cases hx : x = 45
      · subst hx; rfl
      · rw [beq_eq_false_iff_ne.2 hx, decide_eq_false hx]
  have e2 : (bif decide (L.head? = some 45) then (Option.bind (subS (bytesS L) 1 ((bytesS L).size : Int)) fun x12 => some x12) else (some (bytesS L))) = some (bytesS (digPart L)) := by
    unfold digPart
    by_cases hh : L.head? = some 45
    · rw [decide_eq_true hh, cond_true, if_pos hh, bytesS_size]
      cases L with
      | nil => cases hh
      | cons x xs =>
        have h := subS_ok hb (i := 1) (j := (x :: xs).length) (by simp) (Nat.le_refl _)
        rw [show ((1 : Nat) : Int) = 1 from rfl] at h
        rw [h, bindS]
        simp
    · rw [decide_eq_false hh, cond_false, if_neg hh]
  rw [e1, bindS, e2, bindS, bytesS_size, bytesS_size]
  have hdb := digPart_byte hb
  by_cases hlen : (digPart L).length < 1 ∨ 18 < (digPart L).length
  · rw [if_pos hlen]
    have : (decide (((digPart L).length : Int) < 1) || decide (18 < ((digPart L).length : Int))) = true := by
      rw [Bool.or_eq_true, decide_eq_true_eq, decide_eq_true_eq]; omega
    rw [this]; rfl
  · rw [if_neg hlen]
    have : (decide (((digPart L).length : Int) < 1) || decide (18 < ((digPart L).length : Int))) = false := by
      rw [Bool.or_eq_false_iff, decide_eq_false_iff_not, decide_eq_false_iff_not]; omega
    obtain ⟨h1, h2⟩ := digLoop (digPart L) hdb (by omega)
    rw [this, cond_false, h1, bindS]
    by_cases ha : (digPart L).all isDig = true
    · obtain ⟨h3, h4⟩ := h2 ha
      rw [if_pos ha, if_pos ha]
      simp only [elimS]
      have e3 : (bif decide (((digPart L).length : Int) < (L.length : Int)) then (some (w64 (0 - valD (digPart L)))) else (some (valD (digPart L)))) = some (numV L) := by
        unfold numV
        by_cases hc : (digPart L).length < L.length
        · rw [decide_eq_true (by omega), cond_true, if_pos hc, w64_id (by omega) (by omega)]
        · rw [decide_eq_false (by omega), cond_false, if_neg hc]
      rw [e3, bindS]
      have hr : -9223372036854775808 ≤ numV L ∧ numV L ≤ 9223372036854775807 := by unfold numV; split <;> omega
      rw [Decimal_eq _ hr.1 hr.2, bindS, eqS (decL_byte _) hb]
      by_cases hd : decL (numV L) = L
      · rw [if_pos hd, decide_eq_true hd]; rfl
      · rw [if_neg hd, decide_eq_false hd]; rfl
    · rw [if_neg ha, if_neg ha]; rfl
theorem numLoop_same (s : ByteArray) : sh140_1 s = sh82_1 s := by
  funext ⟨a, i⟩
  simp only [sh140_1, sh82_1, sh181]
  cases decide (i < (s.size : Int))
  · rfl
  · simp only [cond_true]
    cases hg : getS s i with
    | none => rfl
    | some x =>
      simp only [bindS]
      by_cases h5 : x < 48
      · rw [decide_eq_true h5, decide_eq_false (show ¬ 48 ≤ x by omega)]; rfl
      · rw [decide_eq_false h5, decide_eq_true (show 48 ≤ x by omega)]
        by_cases h6 : 57 < x
        · rw [decide_eq_true h6, decide_eq_false (show ¬ x ≤ 57 by omega)]; rfl
        · rw [decide_eq_false h6, decide_eq_true (show x ≤ 57 by omega)]; rfl
theorem l01Number_eq (L : List Int) (hb : ∀ x ∈ L, isByte x) (hl : L.length ≤ 1048576) : sh140 (bytesS L) = some (readD L) := by
  unfold sh140 readD
  rw [lit_nil, eqS hb (by simp)]
  have e1 : (bif !(decide (L = [])) then (Option.bind (getS (bytesS L) 0) fun x2 => some (x2 == 45)) else (some false)) = some (decide (L.head? = some 45)) := by
    cases L with
    | nil => rfl
    | cons x xs =>
      have h := getS_ok hb (k := 0) (by simp)
      simp only [Int.natCast_zero] at h
      rw [decide_eq_false (by simp), Bool.not_false, cond_true, h, bindS]
      simp only [List.getElem_cons_zero, List.head?_cons, Option.some.injEq]
      by_cases hx : x = 45
      · subst hx; rfl
      · rw [beq_eq_false_iff_ne.2 hx, decide_eq_false hx]
  have e2 : (bif decide (L.head? = some 45) then (Option.bind (subS (bytesS L) 1 ((bytesS L).size : Int)) fun x12 => some x12) else (some (bytesS L))) = some (bytesS (digPart L)) := by
    unfold digPart
    by_cases hh : L.head? = some 45
    · rw [decide_eq_true hh, cond_true, if_pos hh, bytesS_size]
      cases L with
      | nil => cases hh
      | cons x xs =>
        have h := subS_ok hb (i := 1) (j := (x :: xs).length) (by simp) (Nat.le_refl _)
        rw [show ((1 : Nat) : Int) = 1 from rfl] at h
        rw [h, bindS]
        simp
    · rw [decide_eq_false hh, cond_false, if_neg hh]
  rw [e1, bindS, e2, bindS, bytesS_size, bytesS_size, numLoop_same]
  have hdb := digPart_byte hb
  by_cases hlen : (digPart L).length < 1 ∨ 18 < (digPart L).length
  · rw [if_pos hlen]
    have : (decide (((digPart L).length : Int) < 1) || decide (18 < ((digPart L).length : Int))) = true := by
      rw [Bool.or_eq_true, decide_eq_true_eq, decide_eq_true_eq]; omega
    rw [this]; rfl
  · rw [if_neg hlen]
    have : (decide (((digPart L).length : Int) < 1) || decide (18 < ((digPart L).length : Int))) = false := by
      rw [Bool.or_eq_false_iff, decide_eq_false_iff_not, decide_eq_false_iff_not]; omega
    obtain ⟨h1, h2⟩ := digLoop (digPart L) hdb (by omega)
    rw [this, cond_false, h1, bindS]
    by_cases ha : (digPart L).all isDig = true
    · obtain ⟨h3, h4⟩ := h2 ha
      rw [if_pos ha, if_pos ha]
      simp only [elimS]
      have e3 : (bif decide (((digPart L).length : Int) < (L.length : Int)) then (some (w64 (0 - valD (digPart L)))) else (some (valD (digPart L)))) = some (numV L) := by
        unfold numV
        by_cases hc : (digPart L).length < L.length
        · rw [decide_eq_true (by omega), cond_true, if_pos hc, w64_id (by omega) (by omega)]
        · rw [decide_eq_false (by omega), cond_false, if_neg hc]
      rw [e3, bindS]
      have hr : -9223372036854775808 ≤ numV L ∧ numV L ≤ 9223372036854775807 := by unfold numV; split <;> omega
      rw [l01Dec_eq _ hr.1 hr.2, bindS, eqS (decL_byte _) hb]
      by_cases hd : decL (numV L) = L
      · rw [if_pos hd, decide_eq_true hd]; rfl
      · rw [if_neg hd, decide_eq_false hd]; rfl
    · rw [if_neg ha, if_neg ha]; rfl
/-- The characters of a number. -/
theorem decL_chars (n : Int) : ∀ x ∈ decL n, x = 45 ∨ (48 ≤ x ∧ x ≤ 57) := by
  intro x hx
  unfold decL at hx
  split at hx
  · simp at hx; omega
  · rcases List.mem_append.1 hx with h | h
    · split at h <;> simp at h; omega
    · have := digs_byte _ x h; omega
theorem readD_true {L : List Int} (h : (readD L).2 = true) : decL (readD L).1 = L ∧ (∀ x ∈ L, x = 45 ∨ (48 ≤ x ∧ x ≤ 57)) := by
  unfold readD at h ⊢
  split at h
  · cases h
  · rename_i h1
    rw [if_neg h1]
    split at h
    · rename_i h2
      rw [if_pos h2]
      split at h
      · rename_i h3
        rw [if_pos h3]
        refine ⟨h3, fun x hx => ?_⟩
        rw [← h3] at hx
        exact decL_chars _ x hx
      · cases h
    · cases h
theorem readD_false {L : List Int} (h : (readD L).2 = false) : readD L = (0, false) := by
  unfold readD at h ⊢
  split at h
  · rename_i h1; rw [if_pos h1]
  · rename_i h1
    rw [if_neg h1]
    split at h
    · rename_i h2
      rw [if_pos h2]
      split at h
      · cases h
      · rename_i h3; rw [if_neg h3]
    · rename_i h2; rw [if_neg h2]
theorem readD_decL (n : Int) (h1 : -1000000000000000000 < n) (h2 : n < 1000000000000000000) : readD (decL n) = (n, true) := by
  by_cases h0 : n = 0
  · subst h0; rfl
  · have hN : n.natAbs < 10 ^ 18 := by omega
    have hl := digs_len 18 _ hN
    have hne := List.length_pos_iff.2 (digs_ne (n := n.natAbs) (by omega))
    have hall := digs_isDig n.natAbs
    have hv := valD_digs n.natAbs
    by_cases hneg : n < 0
    · have hL : decL n = 45 :: digs n.natAbs := by unfold decL; rw [if_neg h0, if_pos hneg]; rfl
      have hD : digPart (decL n) = digs n.natAbs := by unfold digPart; rw [hL]; rfl
      have hc : (digs n.natAbs).length < (decL n).length := by rw [hL]; simp
      have hv2 : numV (decL n) = n := by unfold numV; rw [hD, if_pos hc, hv]; omega
      unfold readD
      rw [hv2, hD, if_neg (by omega), if_pos hall, if_pos rfl]
    · have hL : decL n = digs n.natAbs := by unfold decL; rw [if_neg h0, if_neg hneg]; rfl
      have hD : digPart (decL n) = digs n.natAbs := by
        unfold digPart
        rw [hL, if_neg]
        cases hh : digs n.natAbs with
        | nil => simp
        | cons x xs =>
          have := digs_byte n.natAbs x (by rw [hh]; simp)
          simp; omega
      have hv2 : numV (decL n) = n := by unfold numV; rw [hD, if_neg (by rw [hL]; omega), hv]; omega
      unfold readD
      rw [hv2, hD, if_neg (by omega), if_pos hall, if_pos rfl]
theorem readD_range {L : List Int} (h : (readD L).2 = true) : -1000000000000000000 < (readD L).1 ∧ (readD L).1 < 1000000000000000000 := by
  have hL := (readD_true h).1
  have hl : (digPart L).length ≤ 18 := by
    unfold readD at h
    split at h
    · cases h
    · omega
  generalize (readD L).1 = n at hL
  have hd : digs n.natAbs = [] ∨ digs n.natAbs = digPart L := by
    by_cases h0 : n = 0
    · left; subst h0; rw [Int.natAbs_zero, digs_zero]
    · right
      rw [← hL]
      by_cases hneg : n < 0
      · have hL : decL n = 45 :: digs n.natAbs := by unfold decL; rw [if_neg h0, if_pos hneg]; rfl
        unfold digPart; rw [hL]; rfl
      · have hL : decL n = digs n.natAbs := by unfold decL; rw [if_neg h0, if_neg hneg]; rfl
        unfold digPart
        rw [hL, if_neg]
        cases hh : digs n.natAbs with
        | nil => simp
        | cons x xs =>
          have := digs_byte n.natAbs x (by rw [hh]; simp)
          simp; omega
  have hlt : ∀ (k m : Nat), (digs m).length ≤ k → m < 10 ^ k := by
    intro k
    induction k with
    | zero =>
      intro m hm
      rcases Nat.eq_zero_or_pos m with h | h
      · subst h; simp
      · rw [digs_pos h] at hm; simp at hm
    | succ k ih =>
      intro m hm
      rcases Nat.eq_zero_or_pos m with h | h
      · subst h; exact Nat.pow_pos (by omega)
      · rw [digs_pos h, List.length_append] at hm
        have := ih (m / 10) (by simp at hm; omega)
        rw [Nat.pow_succ]; omega
  have : n.natAbs < 10 ^ 18 := hlt 18 _ (by
    rcases hd with h | h
    · rw [h]; simp
    · rw [h]; exact hl)
  omega
theorem l20Number_eq (L : List Int) (hb : ∀ x ∈ L, isByte x) (hl : L.length ≤ 1048576) : ∃ r, sh86 (bytesS L) = some r ∧ r.2 = (readD L).2 ∧ (r.2 = true → r.1 = (readD L).1) := by
  unfold sh86
  rw [lit_nil, eqS hb (by simp)]
  have e1 : (bif !(decide (L = [])) then (Option.bind (getS (bytesS L) 0) fun x2 => some (x2 == 45)) else (some false)) = some (decide (L.head? = some 45)) := by
    cases L with
    | nil => rfl
    | cons x xs =>
      have h := getS_ok hb (k := 0) (by simp)
      simp only [Int.natCast_zero] at h
      rw [decide_eq_false (by simp), Bool.not_false, cond_true, h, bindS]
      simp only [List.getElem_cons_zero, List.head?_cons, Option.some.injEq]
      by_cases hx : x = 45
      · subst hx; rfl
      · rw [beq_eq_false_iff_ne.2 hx, decide_eq_false hx]
  rw [e1, bindS]
  by_cases hh : L.head? = some 45
  · rw [decide_eq_true hh, cond_true, bytesS_size]
    cases L with
    | nil => cases hh
    | cons x T =>
      simp only [List.head?_cons, Option.some.injEq] at hh
      subst hh
      have h := subS_ok hb (i := 1) (j := ((45 : Int) :: T).length) (by simp) (Nat.le_refl _)
      rw [show ((1 : Nat) : Int) = 1 from rfl] at h
      have hT : ∀ x ∈ T, isByte x := fun x hx => hb x (List.mem_cons_of_mem _ hx)
      have hd1 : (List.take (((45 : Int) :: T).length - 1) (List.drop 1 (45 :: T))) = T := by simp
      rw [h, bindS, hd1, l01Number_eq T hT (by simp only [List.length_cons] at hl; omega), bindS]
      cases hr : (readD T).2
      · have hr0 := readD_false hr
        refine ⟨_, rfl, ?_, fun h => by simp at h⟩
        simp only [Bool.false_and]
        cases hq : (readD (45 :: T)).2
        · rfl
        · exfalso
          have hL := (readD_true hq).1
          have hrg := readD_range hq
          generalize (readD (45 :: T)).1 = n at hL hrg
          have h0 : n ≠ 0 := fun h => by subst h; simp [decL] at hL
          by_cases hneg : n < 0
          · have hL2 : decL n = 45 :: digs n.natAbs := by unfold decL; rw [if_neg h0, if_pos hneg]; rfl
            rw [hL2] at hL
            have hT2 : digs n.natAbs = T := (List.cons.inj hL).2
            have h3 := readD_decL (n.natAbs : Int) (by omega) (by omega)
            have hL3 : decL (n.natAbs : Int) = digs n.natAbs := by unfold decL; rw [if_neg (by omega), if_neg (by omega), Int.natAbs_natCast]; rfl
            rw [hL3, hT2] at h3
            rw [h3] at hr
            cases hr
          · have hL2 : decL n = digs n.natAbs := by unfold decL; rw [if_neg h0, if_neg hneg]; rfl
            rw [hL2] at hL
            have := digs_byte n.natAbs 45 (by rw [hL]; simp)
            omega
      · have hrg := readD_range hr
        have hL := (readD_true hr).1
        simp only [Bool.true_and]
        rw [w64_id (by omega) (by omega)]
        generalize (readD T).1 = m at hL hrg
        by_cases hm : 0 < m
        · have hL2 : decL m = digs m.natAbs := by unfold decL; rw [if_neg (by omega), if_neg (by omega)]; rfl
          have hL3 : decL (0 - m) = 45 :: T := by
            unfold decL
            rw [if_neg (by omega), if_pos (by omega), ← hL, hL2, show (0 - m).natAbs = m.natAbs by omega]; rfl
          have h3 := readD_decL (0 - m) (by omega) (by omega)
          rw [hL3] at h3
          rw [h3]
          exact ⟨_, rfl, by simp [hm], fun _ => rfl⟩
        · refine ⟨_, rfl, ?_, fun h => by simp [hm] at h⟩
          simp only [decide_eq_false hm]
          cases hq : (readD (45 :: T)).2
          · rfl
          · exfalso
            have hL4 := (readD_true hq).1
            have hrg4 := readD_range hq
            generalize (readD (45 :: T)).1 = n at hL4 hrg4
            have h0 : n ≠ 0 := fun h => by subst h; simp [decL] at hL4
            by_cases hneg : n < 0
            · have hL2 : decL n = 45 :: digs n.natAbs := by unfold decL; rw [if_neg h0, if_pos hneg]; rfl
              rw [hL2] at hL4
              have hT2 : digs n.natAbs = T := (List.cons.inj hL4).2
              have h3 := readD_decL (n.natAbs : Int) (by omega) (by omega)
              have hL3 : decL (n.natAbs : Int) = digs n.natAbs := by unfold decL; rw [if_neg (by omega), if_neg (by omega), Int.natAbs_natCast]; rfl
              have h5 := readD_decL m (by omega) (by omega)
              rw [hL3, hT2] at h3
              rw [hL] at h5
              rw [h3] at h5
              have := congrArg Prod.fst h5
              simp only at this
              omega
            · have hL2 : decL n = digs n.natAbs := by unfold decL; rw [if_neg h0, if_neg hneg]; rfl
              rw [hL2] at hL4
              have := digs_byte n.natAbs 45 (by rw [hL4]; simp)
              omega
  · rw [decide_eq_false hh, cond_false, l01Number_eq L hb hl, bindS]
    exact ⟨_, rfl, rfl, fun _ => rfl⟩

/-! iter_map -/
/-- A list read element by element, as far as all of it can be read. -/
def mapO {α β : Type} (f : α → Option β) : List α → Option (List β)
  | [] => some []
  | x :: xs => match f x with
    | none => none
    | some y => match mapO f xs with
      | none => none
      | some ys => some (y :: ys)
theorem mapO_snoc {α β : Type} {f : α → Option β} : ∀ {xs : List α} {ys : List β} {x : α} {y : β}, mapO f xs = some ys → f x = some y → mapO f (xs ++ [x]) = some (ys ++ [y])
  | [], ys, x, y, h, hx => by simp [mapO] at h; subst h; simp [mapO, hx]
  | z :: zs, ys, x, y, h, hx => by
    simp only [mapO, List.cons_append] at h ⊢
    cases hz : f z with
    | none => simp [hz] at h
    | some u =>
      simp only [hz] at h ⊢
      cases hr : mapO f zs with
      | none => simp [hr] at h
      | some us =>
        simp only [hr, Option.some.injEq] at h
        subst h
        rw [mapO_snoc hr hx]
        rfl
theorem mapO_none {α β : Type} {f : α → Option β} : ∀ {xs : List α} {k : Nat} (h : k < xs.length), f xs[k] = none → mapO f xs = none
  | x :: xs, 0, h, hx => by
    simp only [List.getElem_cons_zero] at hx
    simp [mapO, hx]
  | x :: xs, k + 1, h, hx => by
    simp only [List.getElem_cons_succ] at hx
    have := mapO_none (xs := xs) (by simpa using h) hx
    simp only [mapO, this]
    cases f x <;> rfl
theorem mapO_length {α β : Type} {f : α → Option β} : ∀ {xs : List α} {ys : List β}, mapO f xs = some ys → ys.length = xs.length
  | [], ys, h => by simp [mapO] at h; subst h; rfl
  | z :: zs, ys, h => by
    simp only [mapO] at h
    cases hz : f z with
    | none => simp [hz] at h
    | some u =>
      simp only [hz] at h
      cases hr : mapO f zs with
      | none => simp [hr] at h
      | some us =>
        simp only [hr, Option.some.injEq] at h
        subst h
        simp [mapO_length hr]
theorem mapO_congr {α β : Type} {f g : α → Option β} : ∀ {xs : List α}, (∀ x ∈ xs, f x = g x) → mapO f xs = mapO g xs
  | [], _ => rfl
  | z :: zs, h => by
    simp only [mapO, h z (List.mem_cons_self ..), mapO_congr (fun x hx => h x (List.mem_cons_of_mem _ hx))]
/-- The loop that reads a list, element by element: it gives up at an element that cannot be read, and at the element with number c. -/
theorem iter_mapO {α T R : Type} {sb : Int × List T → Option ((Int × List T) ⊕ (List T ⊕ R))} (W : List α) (f : α → Option T) (bad : R) (c d : Nat) (hl : W.length ≤ 1099511627776)
    (hsb : ∀ (k : Nat) (h : k < W.length) (out : List T), out.length = k → mapO f (W.take k) = some out → sb (((d * k : Nat) : Int), out) = if k = c then some (.inr (.inr bad)) else match f W[k] with
      | some y => some (.inl (((d * (k + 1) : Nat) : Int), out ++ [y]))
      | none => some (.inr (.inr bad)))
    (he : ∀ out : List T, out.length = W.length → sb (((d * W.length : Nat) : Int), out) = some (.inr (.inl out))) :
    iter sb (0, []) = some (if W.length ≤ c then (match mapO f W with | some ys => .inl ys | none => .inr bad) else .inr bad) := by
  obtain ⟨y, hy, hr⟩ := iter_inv (sb := sb) (fun (s : Int × List T) => ∃ (k : Nat) (out : List T), s = (((d * k : Nat) : Int), out) ∧ k ≤ W.length ∧ k ≤ c ∧ out.length = k ∧ mapO f (W.take k) = some out)
    (fun s => W.length - s.2.length) (fun (y : List T ⊕ R) => y = if W.length ≤ c then (match mapO f W with | some ys => .inl ys | none => .inr bad) else .inr bad) (s0 := (0, []))
    ⟨0, [], by simp, by omega, by omega, rfl, rfl⟩ (by simp only [List.length_nil]; omega) (by
    rintro s ⟨k, out, rfl, h1, h2, h3, h4⟩
    by_cases hk : k < W.length
    · rw [hsb k hk out h3 h4]
      by_cases hc : k = c
      · right
        rw [if_pos hc]
        exact ⟨_, rfl, by rw [if_neg (by omega)]⟩
      · rw [if_neg hc]
        cases hf : f W[k] with
        | none =>
          right
          refine ⟨_, rfl, ?_⟩
          rw [mapO_none hk hf]
          simp
        | some y =>
          left
          refine ⟨_, rfl, ⟨k + 1, out ++ [y], rfl, by omega, by omega, by simp [h3], ?_⟩, by simp only [List.length_append, List.length_cons, List.length_nil]; omega⟩
          rw [List.take_succ_eq_append_getElem hk]
          exact mapO_snoc h4 hf
    · right
      have hkl : k = W.length := by omega
      subst hkl
      rw [he out h3]
      rw [List.take_length] at h4
      exact ⟨_, rfl, by rw [if_pos h2, h4]⟩)
  rw [hy, hr]

/-! points -/
theorem eqPoint_eq (p q : SPoint) : sh84 p q = some (decide (p = q)) := by
  unfold sh84
  cases p with
  | mk a b =>
    cases q with
    | mk c d =>
      show (bif a != c then some false else (bif b != d then some false else some true)) = _
      by_cases h1 : a = c
      · subst h1
        rw [bne_self_eq_false, cond_false]
        by_cases h2 : b = d
        · subst h2; rw [bne_self_eq_false]; simp
        · rw [bne_iff_ne.2 h2]; simp [h2]
      · rw [bne_iff_ne.2 h1]; simp [h1]

theorem eqPointS_eq (xs ys : List SPoint) (h : xs.length ≤ 1048576) : sh17 xs ys = some (decide (xs = ys)) := by
  unfold sh17
  by_cases hl : xs.length = ys.length
  · have h1 : ((xs.length : Int) != (ys.length : Int)) = false := by simp; omega
    rw [h1, cond_false, iter_eq (xs := xs) (ys := ys) (by omega) hl (fun k hk => ?_) (by simp [sh17_1]), bindS]
    · by_cases he : xs = ys <;> simp [he, elimS]
    · have h2 : (k : Int) < xs.length := by omega
      have h3 : k < ys.length := by omega
      simp only [sh17_1, h2, decide_true, cond_true, getI_lt hk, getI_lt h3, bindS, eqPoint_eq]
      rw [w64_id (by omega) (by omega)]
      by_cases he : xs[k] = ys[k]
      · simp [he]
      · rw [if_neg he, decide_eq_false he]
        rfl
  · have h1 : ((xs.length : Int) != (ys.length : Int)) = true := by simp; omega
    rw [h1, cond_true]
    have : xs ≠ ys := fun h => hl (by rw [h])
    simp [this]

/-! mark_points -/
/-- The numbers that are laid into a result of places. -/
def marksP (m : Int) (n : Nat) : List SPoint := (List.range n).map fun (i : Nat) => ⟨m + 2 * (i : Int), m + 2 * (i : Int) + 1⟩
theorem marksP_length (m : Int) (n : Nat) : (marksP m n).length = n := by simp [marksP]
theorem marksP_get (m : Int) (n k : Nat) (h : k < n) : (marksP m n)[k]'(by rw [marksP_length]; exact h) = ⟨m + 2 * k, m + 2 * k + 1⟩ := by simp [marksP]
theorem marksP_succ (m : Int) (k : Nat) : marksP m (k + 1) = marksP m k ++ [⟨m + 2 * k, m + 2 * k + 1⟩] := by simp [marksP, List.range_succ]

theorem markPointS_eq (xs : List SPoint) (m : Int) (h0 : 0 ≤ m) (h1 : m ≤ 1099511627776) (h : xs.length ≤ 1099511627776) : sh18 xs m = some (m + 2 * xs.length, marksP m xs.length) := by
  unfold sh18
  have hi := iter_steps (sb := sh18_1 xs) (fun k => (m + 2 * (k : Int), (k : Int), marksP m k ++ xs.drop k)) xs.length (x := (m + 2 * xs.length, marksP m xs.length)) (by omega) (fun k hk => ?_) ?_
  · simp only [List.drop_zero] at hi
    rw [show marksP m 0 ++ xs = xs from rfl] at hi
    simp only [Int.natCast_zero, Int.mul_zero, Int.add_zero] at hi
    rw [hi, bindS]
  · have h2 : (k : Int) < xs.length := by omega
    have hl : k < (marksP m k ++ xs.drop k).length := by rw [List.length_append, marksP_length, List.length_drop]; omega
    have hl2 : ∀ y, k < ((marksP m k ++ xs.drop k).set k y).length := fun y => by rw [List.length_set]; exact hl
    simp only [sh18_1, h2, decide_true, cond_true, getI_lt hl, getI_lt (hl2 _), bindS, Int.toNat_natCast, List.getElem_set_self, List.set_set]
    rw [w64_id (x := m + 2 * (k : Int) + 1) (by omega) (by omega), w64_id (x := m + 2 * (k : Int) + 1 + 1) (by omega) (by omega), w64_id (x := (k : Int) + 1) (by omega) (by omega), List.set_append, if_neg (by rw [marksP_length]; omega), marksP_length, Nat.sub_self, List.drop_eq_getElem_cons hk, List.set_cons_zero, marksP_succ, List.append_assoc]
    simp only [Option.some.injEq, Sum.inl.injEq, Prod.mk.injEq]
    refine ⟨by omega, by omega, rfl⟩
  · have hd : decide ((xs.length : Int) < (xs.length : Int)) = false := by simp
    simp only [sh18_1, hd, cond_false, List.drop_length, List.append_nil]

theorem heldPointS_eq (m : Int) (n : Nat) (h0 : 0 ≤ m) (h1 : m ≤ 1099511627776) (h : n ≤ 1099511627776) : sh19 (marksP m n) m = some (m + 2 * n) := by
  unfold sh19
  have hi := iter_steps (sb := sh19_1 (marksP m n)) (fun k => (m + 2 * (k : Int), (k : Int))) n (x := .inl (m + 2 * n)) (by omega) (fun k hk => ?_) ?_
  · simp only [Int.natCast_zero, Int.mul_zero, Int.add_zero] at hi
    rw [hi, bindS]
    rfl
  · have h2 : (k : Int) < (marksP m n).length := by rw [marksP_length]; omega
    have hl : k < (marksP m n).length := by rw [marksP_length]; exact hk
    simp only [sh19_1, h2, decide_true, cond_true, getI_lt hl, bindS, marksP_get m n k hk, bne_self_eq_false, cond_false]
    rw [w64_id (x := m + 2 * (k : Int) + 1) (by omega) (by omega), bne_self_eq_false, cond_false, w64_id (x := m + 2 * (k : Int) + 1 + 1) (by omega) (by omega), w64_id (x := (k : Int) + 1) (by omega) (by omega)]
    simp only [Option.some.injEq, Sum.inl.injEq, Prod.mk.injEq]
    refine ⟨by omega, by omega⟩
  · have hd : decide ((n : Int) < ((marksP m n).length : Int)) = false := by rw [marksP_length]; simp
    simp only [sh19_1, hd, cond_false]

/-! joined -/
def jstep (sep : List Int) (s : Nat × List Int) (p : List Int) : Nat × List Int := (s.1 + 1, (if 0 < s.1 then s.2 ++ sep else s.2) ++ p)
/-- Lists of bytes, joined. -/
def joinL (sep : List Int) (ps : List (List Int)) : List Int := (ps.foldl (jstep sep) (0, [])).2
theorem jstep_len {sep p : List Int} {s : Nat × List Int} {k B : Nat} (hs : sep.length ≤ 100) (hp : p.length ≤ B) (h : s.2.length ≤ (B + 100) * k) : (jstep sep s p).2.length ≤ (B + 100) * (k + 1) := by
  unfold jstep
  simp only [List.length_append]
  rw [Nat.mul_succ]
  split
  · rw [List.length_append]; omega
  · omega


/-! polygon -/
def cornerB (p : SPoint) : Bool := (decide (-100000 ≤ p.X) && decide (p.X ≤ 100000)) && (decide (-100000 ≤ p.Y) && decide (p.Y ≤ 100000))
def polyB (q : List SPoint) : Bool := (decide (3 ≤ q.length) && decide (q.length ≤ 300)) && q.all cornerB

theorem l20Ok_eq (q : List SPoint) (h : q.length ≤ 1048576) : sh87 q = some (polyB q) := by
  unfold sh87 polyB
  rw [iter_all (xs := q) (p := cornerB) (r := false) (by omega) (fun k hk => ?_) (by simp [sh87_1]), bindS]
  · cases ha : q.all cornerB
    · simp [elimS]
    · simp only [elimS, if_true, sh115, bindS, Bool.and_true]
      congr 2
      · simp only [decide_eq_decide]; omega
      · simp only [decide_eq_decide]; omega
  · have h2 : (k : Int) < q.length := by omega
    simp only [sh87_1, sh115, h2, decide_true, cond_true, getI_lt hk, bindS]
    rw [w64_id (x := (k : Int) + 1) (by omega) (by omega)]
    unfold cornerB
    cases h0 : decide (-100000 ≤ q[k].X) && decide (q[k].X ≤ 100000) <;> cases h1 : decide (-100000 ≤ q[k].Y) && decide (q[k].Y ≤ 100000) <;> rfl

theorem isCorner_eq (p : SPoint) : sh146 p = some (cornerB p) := by
  unfold sh146 sh136 cornerB
  simp only [bindS]
  cases decide (-100000 ≤ p.X) && decide (p.X ≤ 100000) <;> rfl

theorem isPolygon_eq (q : List SPoint) (h : q.length ≤ 1048576) : sh89 q = some (polyB q) := by
  unfold sh89 sh141f145 sh182f145 sh136
  rw [iter_find (xs := q) (p := fun x => !cornerB x) (by omega) (fun k hk => ?_) (by simp [sh182f145_1])]
  · simp only [bindS]
    unfold polyB
    have e1 : decide ((3 : Int) ≤ (q.length : Int)) = decide (3 ≤ q.length) := by simp only [decide_eq_decide]; omega
    have e2 : decide ((q.length : Int) ≤ 300) = decide (q.length ≤ 300) := by simp only [decide_eq_decide]; omega
    rw [e1, e2]
    cases hc : decide (3 ≤ q.length) && decide (q.length ≤ 300)
    · rfl
    · have ha : q.any (fun x => !cornerB x) = !q.all cornerB := by rw [List.all_eq_not_any_not]; simp
      rw [ha]
      cases q.all cornerB
      · simp [elimS]
      · simp [elimS]
  · have h2 : (k : Int) < q.length := by omega
    simp only [sh182f145_1, sh145, isCorner_eq, h2, decide_true, cond_true, getI_lt hk, bindS]
    rw [w64_id (x := (k : Int) + 1) (by omega) (by omega)]
    cases cornerB q[k] <;> rfl

theorem polyB_len {q : List SPoint} (h : polyB q = true) : 3 ≤ q.length ∧ q.length ≤ 300 := by
  unfold polyB at h
  simp only [Bool.and_eq_true, decide_eq_true_eq] at h
  exact h.1

/-! pathtext -/
theorem cornerB_rng {p : SPoint} (h : cornerB p = true) : (-100000 ≤ p.X ∧ p.X ≤ 100000) ∧ (-100000 ≤ p.Y ∧ p.Y ≤ 100000) := by
  unfold cornerB at h
  simp only [Bool.and_eq_true, decide_eq_true_eq] at h
  exact h
def ptL (p : SPoint) : List Int := decL p.X ++ [32] ++ decL p.Y
def stepI (s : Nat × List Int) (p : SPoint) : Nat × List Int := (s.1 + 1, (if 0 < s.1 then s.2 ++ [32, 76, 32] else s.2) ++ ptL p)
def stepP (s : Nat × List Int) (p : SPoint) : Nat × List Int := (s.1 + 1, s.2 ++ ((if s.1 = 0 then [77, 32] else [76, 32]) ++ ptL p ++ [32]))
theorem decL_small {x : Int} (h1 : -100000 ≤ x) (h2 : x ≤ 100000) : (decL x).length ≤ 20 := decL_len (by omega) (by omega)
theorem ptL_len {p : SPoint} (h : cornerB p = true) : (ptL p).length ≤ 41 := by
  obtain ⟨hx, hy⟩ := cornerB_rng h
  have h1 := decL_small hx.1 hx.2
  have h2 := decL_small hy.1 hy.2
  unfold ptL
  simp only [List.length_append, List.length_cons, List.length_nil]
  omega
theorem ptL_byte (p : SPoint) : ∀ x ∈ ptL p, 0 ≤ x ∧ x < 256 := by
  intro x hx
  unfold ptL at hx
  rcases List.mem_append.1 hx with h | h
  · rcases List.mem_append.1 h with h | h
    · exact decL_byte _ x h
    · simp at h; omega
  · exact decL_byte _ x h
theorem polyB_all {q : List SPoint} (h : polyB q = true) : ∀ p ∈ q, cornerB p = true := by
  unfold polyB at h
  simp only [Bool.and_eq_true, List.all_eq_true] at h
  exact h.2

theorem implPathText_eq (q : List SPoint) (h : q.length ≤ 1048576) : sh90 q = some (bytesS (if polyB q = true then (q.foldl stepI (0, [77, 32])).2 ++ [32, 90] else [])) := by
  unfold sh90
  rw [isPolygon_eq q h, bindS]
  cases hv : polyB q
  · rfl
  · have hl := polyB_len hv
    have hi := iter_fold (sb := sh90_1 q) q (fun k (s : Nat × List Int) => (bytesS s.2, (k : Int))) stepI (fun s => bytesS s.2) (fun k s => s.1 = k ∧ s.2.length ≤ 50 * k + 2) (0, [77, 32]) ⟨rfl, by simp⟩ (by omega) (fun k hk s hI => ?_) (fun s _ => by
      have hd : decide ((q.length : Int) < (q.length : Int)) = false := by simp
      simp only [sh90_1, hd, cond_false])
    · have h1 := hi.1
      have h2 := hi.2.2
      simp only [Int.natCast_zero] at h1
      simp only [Bool.not_true, cond_false, if_true]
      rw [show (ByteArray.mk #[77, 32] : ByteArray) = bytesS [77, 32] from rfl, h1, bindS, show (ByteArray.mk #[32, 90] : ByteArray) = bytesS [32, 90] from rfl, catS_ok (by simp only [List.length_cons, List.length_nil]; omega), bindS]
    · obtain ⟨n, l⟩ := s
      obtain ⟨h1, h2⟩ := hI
      simp only at h1 h2
      subst h1
      have hc := polyB_all hv _ (List.getElem_mem hk)
      obtain ⟨hx, hy⟩ := cornerB_rng hc
      have b1 := decL_small hx.1 hx.2
      have b2 := decL_small hy.1 hy.2
      have hp := ptL_len hc
      refine ⟨?_, rfl, ?_⟩
      · have h3 : (n : Int) < q.length := by omega
        simp only [sh90_1, h3, decide_true, cond_true, getI_lt hk, bindS, Decimal_eq _ (show -9223372036854775808 ≤ q[n].X by omega) (show q[n].X ≤ 9223372036854775807 by omega), Decimal_eq _ (show -9223372036854775808 ≤ q[n].Y by omega) (show q[n].Y ≤ 9223372036854775807 by omega)]
        rw [w64_id (by omega) (by omega), show (ByteArray.mk #[32, 76, 32] : ByteArray) = bytesS [32, 76, 32] from rfl, lit_blank]
        by_cases h0 : 0 < n
        · have h4 : decide ((0 : Int) < (n : Int)) = true := decide_eq_true (by omega)
          rw [h4, cond_true, catS_ok (by simp only [List.length_cons, List.length_nil]; omega), bindS, bindS, catS_ok (by simp only [List.length_cons, List.length_nil]; omega), bindS, catS_ok (by simp only [List.length_append, List.length_cons, List.length_nil]; omega), bindS, catS_ok (by simp only [List.length_append, List.length_cons, List.length_nil]; omega), bindS]
          simp [stepI, h0, ptL]
        · have h4 : decide ((0 : Int) < (n : Int)) = false := decide_eq_false (by omega)
          rw [h4, cond_false, bindS, catS_ok (by simp only [List.length_cons, List.length_nil]; omega), bindS, catS_ok (by simp only [List.length_append, List.length_cons, List.length_nil]; omega), bindS, catS_ok (by simp only [List.length_append, List.length_cons, List.length_nil]; omega), bindS]
          simp [stepI, h0, ptL]
      · unfold stepI
        simp only [List.length_append]
        split
        · simp only [List.length_append, List.length_cons, List.length_nil]; omega
        · omega

theorem l20Text_eq (q : List SPoint) (hv : ∀ p ∈ q, cornerB p = true) (hl : q.length ≤ 1048576) : sh88 q = some (bytesS ((q.foldl stepP (0, [])).2 ++ [90])) := by
  unfold sh88
  have hi := iter_fold (sb := sh88_1 q) q (fun k (s : Nat × List Int) => ((k : Int), s.2)) stepP (fun s => s.2) (fun k s => s.1 = k ∧ s.2.length ≤ 50 * k) (0, []) ⟨rfl, by simp⟩ (by omega) (fun k hk s hI => ?_) (fun s _ => by
      have hd : decide ((q.length : Int) < (q.length : Int)) = false := by simp
      simp only [sh88_1, hd, cond_false])
  · have h1 := hi.1
    have h2 := hi.2.2
    simp only [Int.natCast_zero] at h1
    rw [h1, bindS, appL_ok (by simp only [List.length_cons, List.length_nil]; omega), bindS]
  · obtain ⟨n, l⟩ := s
    obtain ⟨h1, h2⟩ := hI
    simp only at h1 h2
    subst h1
    have hc := hv _ (List.getElem_mem hk)
    obtain ⟨hx, hy⟩ := cornerB_rng hc
    have b1 := decL_small hx.1 hx.2
    have b2 := decL_small hy.1 hy.2
    have hp := ptL_len hc
    have hpb := ptL_byte q[n]
    refine ⟨?_, rfl, ?_⟩
    · have h3 : (n : Int) < q.length := by omega
      simp only [sh88_1, h3, decide_true, cond_true, getI_lt hk, bindS, l01Dec_eq _ (show -9223372036854775808 ≤ q[n].X by omega) (show q[n].X ≤ 9223372036854775807 by omega), l01Dec_eq _ (show -9223372036854775808 ≤ q[n].Y by omega) (show q[n].Y ≤ 9223372036854775807 by omega)]
      rw [w64_id (by omega) (by omega), show (ByteArray.mk #[77, 32] : ByteArray) = bytesS [77, 32] from rfl, show (ByteArray.mk #[76, 32] : ByteArray) = bytesS [76, 32] from rfl, lit_blank]
      have ej : (bif ((n : Int) == 0) then some (bytesS [77, 32]) else some (bytesS [76, 32])) = some (bytesS (if n = 0 then [77, 32] else [76, 32])) := by
        by_cases h0 : n = 0
        · subst h0; rfl
        · have : ((n : Int) == 0) = false := beq_eq_false_iff_ne.2 (by omega)
          rw [this, if_neg h0]; rfl
      have el : (if n = 0 then [77, 32] else [76, 32] : List Int).length = 2 := by split <;> rfl
      have eb : ∀ x ∈ (if n = 0 then [77, 32] else [76, 32] : List Int), 0 ≤ x ∧ x < 256 := by
        intro x hx
        split at hx <;> simp at hx <;> omega
      rw [ej, bindS, catS_ok (by omega), bindS, catS_ok (by simp only [List.length_append, List.length_cons, List.length_nil]; omega), bindS, catS_ok (by simp only [List.length_append, List.length_cons, List.length_nil]; omega), bindS, catS_ok (by simp only [List.length_append, List.length_cons, List.length_nil]; omega), bindS]
      have ek : (if n = 0 then [77, 32] else [76, 32] : List Int) ++ decL q[n].X ++ [32] ++ decL q[n].Y ++ [32] = (if n = 0 then [77, 32] else [76, 32]) ++ ptL q[n] ++ [32] := by simp [ptL]
      rw [ek, strI_bytesS (fun x hx => by
        rcases List.mem_append.1 hx with h | h
        · rcases List.mem_append.1 h with h | h
          · exact eb x h
          · exact hpb x h
        · simp at h; omega), appL_ok (by simp only [List.length_append, List.length_cons, List.length_nil]; omega), bindS]
      rfl
    · unfold stepP
      have el : (if n = 0 then [77, 32] else [76, 32] : List Int).length = 2 := by split <;> rfl
      simp only [List.length_append, List.length_cons, List.length_nil]
      omega

theorem steps_rel : ∀ (q : List SPoint) (k : Nat) (l : List Int), 0 < k → (q.foldl stepP (k, l ++ [32])).2 = (q.foldl stepI (k, l)).2 ++ [32]
  | [], k, l, _ => rfl
  | p :: q, k, l, hk => by
    have h := steps_rel q (k + 1) (l ++ [32, 76, 32] ++ ptL p) (by omega)
    simp only [List.foldl_cons]
    rw [show stepP (k, l ++ [32]) p = (k + 1, (l ++ [32, 76, 32] ++ ptL p) ++ [32]) by
      unfold stepP; simp only [show k ≠ 0 by omega, if_false]; simp, show stepI (k, l) p = (k + 1, l ++ [32, 76, 32] ++ ptL p) by
      unfold stepI; simp only [hk, if_true]]
    exact h
theorem steps_same (q : List SPoint) (h : q ≠ []) : (q.foldl stepP (0, [])).2 ++ [90] = (q.foldl stepI (0, [77, 32])).2 ++ [32, 90] := by
  cases q with
  | nil => exact absurd rfl h
  | cons p q =>
    simp only [List.foldl_cons]
    rw [show stepP (0, []) p = (1, ([77, 32] ++ ptL p) ++ [32]) by unfold stepP; simp, show stepI (0, [77, 32]) p = (1, [77, 32] ++ ptL p) by unfold stepI; simp, steps_rel q 1 _ (by omega)]
    simp

/-! readpath -/
/-- The text of a path, word by word. -/
def pthB : Nat → List SPoint → List Int
  | _, [] => [90]
  | k, p :: q => (if k = 0 then [77] else [76]) ++ 32 :: (decL p.X ++ 32 :: (decL p.Y ++ 32 :: pthB (k + 1) q))
theorem pthB_steps : ∀ (q : List SPoint) (k : Nat) (l : List Int), (q.foldl stepP (k, l)).2 ++ [90] = l ++ pthB k q
  | [], k, l => rfl
  | p :: q, k, l => by
    rw [List.foldl_cons]
    have h := pthB_steps q (k + 1) (l ++ ((if k = 0 then [77, 32] else [76, 32]) ++ ptL p ++ [32]))
    rw [show stepP (k, l) p = (k + 1, l ++ ((if k = 0 then [77, 32] else [76, 32]) ++ ptL p ++ [32])) from rfl, h, pthB]
    by_cases hk : k = 0
    · subst hk; simp [ptL]
    · simp [hk, ptL]
theorem pthB_byte : ∀ (q : List SPoint) (k : Nat), ∀ x ∈ pthB k q, isByte x
  | [], k, x, hx => by simp [pthB] at hx; subst hx; unfold isByte; omega
  | p :: q, k, x, hx => by
    have ih := pthB_byte q (k + 1)
    have h1 := decL_byte p.X x
    have h2 := decL_byte p.Y x
    have h3 := ih x
    unfold isByte at h3 ⊢
    rw [pthB] at hx
    simp only [List.mem_append, List.mem_cons] at hx
    rcases hx with h | h | h | h | h | h | h
    · split at h <;> simp at h <;> omega
    · omega
    · exact h1 h
    · omega
    · exact h2 h
    · omega
    · exact h3 h
theorem blank_decL (n : Int) : (32 : Int) ∉ decL n := fun h => by
  have := decL_chars n 32 h
  omega
theorem pthB_words : ∀ (q : List SPoint) (k : Nat), (splitL 32 (pthB k q)).length = 3 * q.length + 1 ∧ (splitL 32 (pthB k q)).getLast? = some [90]
  | [], k => ⟨rfl, rfl⟩
  | p :: q, k => by
    obtain ⟨h1, h2⟩ := pthB_words q (k + 1)
    have hh : (32 : Int) ∉ (if k = 0 then [77] else [76] : List Int) := by split <;> simp
    rw [pthB, splitL_app _ hh, splitL_app _ (blank_decL _), splitL_app _ (blank_decL _)]
    refine ⟨by simp only [List.length_cons, h1]; omega, ?_⟩
    cases hs : splitL 32 (pthB (k + 1) q) with
    | nil => exact absurd hs (splitL_ne _ _)
    | cons u t =>
      rw [hs] at h2
      simpa [List.getLast?_cons_cons] using h2
def pathP (W : List (List Int)) (j : Nat) : Option SPoint :=
  if (readD (W.getD (3 * j + 1) [])).2 = true ∧ (readD (W.getD (3 * j + 2) [])).2 = true then some ⟨(readD (W.getD (3 * j + 1) [])).1, (readD (W.getD (3 * j + 2) [])).1⟩ else none
theorem getD_map {W : List (List Int)} {k : Nat} (h : k < W.length) : (W.map bytesS)[k]'(by simpa using h) = bytesS (W.getD k []) := by
  rw [List.getElem_map, List.getD_eq_getElem?_getD, List.getElem?_eq_getElem h]; rfl
theorem getD_mem {W : List (List Int)} {k : Nat} (h : k < W.length) : W.getD k [] ∈ W := by
  rw [List.getD_eq_getElem?_getD, List.getElem?_eq_getElem h]; exact List.getElem_mem h
/-- The words that are numbers, read by both. -/
theorem path_words_impl (W : List (List Int)) (hW : ∀ w ∈ W, (∀ x ∈ w, isByte x) ∧ w.length ≤ 1048576) (hn : W.length ≤ 1048577) :
    iter (sh21_1 (W.map bytesS)) (0, []) = some (match mapO (pathP W) (List.range (W.length / 3)) with | some ps => .inl ps | none => .inr ([], false)) := by
  have hi := iter_mapO (sb := sh21_1 (W.map bytesS)) (List.range (W.length / 3)) (pathP W) (([], false) : List SPoint × Bool) 2000000 3 (by rw [List.length_range]; omega) (fun k hk out ho _ => ?_) (fun out ho => ?_)
  · rw [List.length_range, if_pos (by omega)] at hi
    rw [hi]
    cases mapO (pathP W) (List.range (W.length / 3)) <;> rfl
  · rw [List.length_range] at hk
    have k1 : 3 * k + 1 < W.length := by omega
    have k2 : 3 * k + 2 < W.length := by omega
    have hw2 : w64 (((3 * k : Nat) : Int) + 2) = ((3 * k + 2 : Nat) : Int) := by rw [w64_id (by omega) (by omega)]; omega
    have hw1 : w64 (((3 * k : Nat) : Int) + 1) = ((3 * k + 1 : Nat) : Int) := by rw [w64_id (by omega) (by omega)]; omega
    have hw3 : w64 (((3 * k : Nat) : Int) + 3) = ((3 * (k + 1) : Nat) : Int) := by rw [w64_id (by omega) (by omega)]; omega
    have hd : decide (((3 * k + 2 : Nat) : Int) < ((W.map bytesS).length : Int)) = true := decide_eq_true (by rw [List.length_map]; omega)
    have r1 := readDecimal_eq _ (hW _ (getD_mem k1)).1 (hW _ (getD_mem k1)).2
    have r2 := readDecimal_eq _ (hW _ (getD_mem k2)).1 (hW _ (getD_mem k2)).2
    rw [if_neg (by omega)]
    simp only [sh21_1, hw1, hw2, hw3, hd, cond_true, getI_lt (show 3 * k + 1 < (W.map bytesS).length by rw [List.length_map]; exact k1), getI_lt (show 3 * k + 2 < (W.map bytesS).length by rw [List.length_map]; exact k2), bindS, getD_map k1, getD_map k2, r1, r2, List.getElem_range]
    unfold pathP
    cases h3 : (readD (W.getD (3 * k + 1) [])).2 <;> cases h4 : (readD (W.getD (3 * k + 2) [])).2
    · simp [h3, h4]
    · simp [h3, h4]
    · simp [h3, h4]
    · simp only [h3, h4, Bool.not_true, Bool.or_self, cond_false, and_self, if_true]
      rw [appL_ok (by simp only [List.length_cons, List.length_nil]; omega), bindS]
  · rw [List.length_range]
    have hw2 : w64 (((3 * (W.length / 3) : Nat) : Int) + 2) = ((3 * (W.length / 3) + 2 : Nat) : Int) := by rw [w64_id (by omega) (by omega)]; omega
    have hd : decide (((3 * (W.length / 3) + 2 : Nat) : Int) < ((W.map bytesS).length : Int)) = false := decide_eq_false (by rw [List.length_map]; omega)
    simp only [sh21_1, hw2, hd, cond_false]
theorem path_words_spec (W : List (List Int)) (hW : ∀ w ∈ W, (∀ x ∈ w, isByte x) ∧ w.length ≤ 1048576) (hn : W.length ≤ 1048577) (hm : W.length % 3 = 1) :
    iter (sh20_1 (W.map bytesS)) (0, []) = some (match mapO (pathP W) (List.range (W.length / 3)) with | some ps => .inl ps | none => .inr ([], false)) := by
  have hi := iter_mapO (sb := sh20_1 (W.map bytesS)) (List.range (W.length / 3)) (pathP W) (([], false) : List SPoint × Bool) 2000000 3 (by rw [List.length_range]; omega) (fun k hk out ho _ => ?_) (fun out ho => ?_)
  · rw [List.length_range, if_pos (by omega)] at hi
    rw [hi]
    cases mapO (pathP W) (List.range (W.length / 3)) <;> rfl
  · rw [List.length_range] at hk
    have k1 : 3 * k + 1 < W.length := by omega
    have k2 : 3 * k + 2 < W.length := by omega
    have hw2 : w64 (((3 * k : Nat) : Int) + 2) = ((3 * k + 2 : Nat) : Int) := by rw [w64_id (by omega) (by omega)]; omega
    have hw1 : w64 (((3 * k : Nat) : Int) + 1) = ((3 * k + 1 : Nat) : Int) := by rw [w64_id (by omega) (by omega)]; omega
    have hw3 : w64 (((3 * k : Nat) : Int) + 3) = ((3 * (k + 1) : Nat) : Int) := by rw [w64_id (by omega) (by omega)]; omega
    have hd : decide (((3 * (k + 1) : Nat) : Int) < ((W.map bytesS).length : Int)) = true := decide_eq_true (by rw [List.length_map]; omega)
    obtain ⟨n1, r1, f1, v1⟩ := l20Number_eq _ (hW _ (getD_mem k1)).1 (hW _ (getD_mem k1)).2
    obtain ⟨n2, r2, f2, v2⟩ := l20Number_eq _ (hW _ (getD_mem k2)).1 (hW _ (getD_mem k2)).2
    rw [if_neg (by omega)]
    simp only [sh20_1, hw1, hw2, hw3, hd, cond_true, getI_lt (show 3 * k + 1 < (W.map bytesS).length by rw [List.length_map]; exact k1), getI_lt (show 3 * k + 2 < (W.map bytesS).length by rw [List.length_map]; exact k2), bindS, getD_map k1, getD_map k2, r1, r2, List.getElem_range]
    unfold pathP
    cases h3 : (readD (W.getD (3 * k + 1) [])).2 <;> cases h4 : (readD (W.getD (3 * k + 2) [])).2 <;> rw [h3] at f1 <;> rw [h4] at f2
    · simp [h3, h4, f1, f2]
    · simp [h3, h4, f1, f2]
    · simp [h3, h4, f1, f2]
    · simp only [h3, h4, f1, f2, v1 f1, v2 f2, Bool.not_true, Bool.or_self, cond_false, and_self, if_true]
      rw [appL_ok (by simp only [List.length_cons, List.length_nil]; omega), bindS]
  · rw [List.length_range]
    have hw3 : w64 (((3 * (W.length / 3) : Nat) : Int) + 3) = ((3 * (W.length / 3) + 3 : Nat) : Int) := by rw [w64_id (by omega) (by omega)]; omega
    have hd : decide (((3 * (W.length / 3) + 3 : Nat) : Int) < ((W.map bytesS).length : Int)) = false := decide_eq_false (by rw [List.length_map]; omega)
    simp only [sh20_1, hw3, hd, cond_false]
/-- What both come to. -/
def readPathR (L : List Int) : List SPoint × Bool :=
  match mapO (pathP (splitL 32 L)) (List.range ((splitL 32 L).length / 3)) with
  | some ps => if polyB ps = true ∧ pthB 0 ps = L then (ps, true) else ([], false)
  | none => ([], false)
theorem implReadPath (L : List Int) (hb : ∀ x ∈ L, isByte x) (hl : L.length ≤ 1048576) : sh21 (bytesS L) = some (readPathR L) := by
  unfold sh21 readPathR
  obtain ⟨hn, hw⟩ := splitL_bound (b := 32) L
  have hwb := splitL_mem (b := 32) (p := isByte) hb
  rw [splitAt_eq L 32 hb hl, bindS, List.length_map]
  by_cases hc : (splitL 32 L).length ≤ 901
  · rw [decide_eq_false (by omega), cond_false, path_words_impl (splitL 32 L) (fun w h => ⟨hwb w h, Nat.le_trans (hw w h) hl⟩) (by omega), bindS]
    cases hm : mapO (pathP (splitL 32 L)) (List.range ((splitL 32 L).length / 3)) with
    | none => rfl
    | some ps =>
      have hpl := mapO_length hm
      rw [List.length_range] at hpl
      simp only [elimS, isPolygon_eq ps (show ps.length ≤ 1048576 by omega), bindS]
      cases hp : polyB ps
      · simp
      · have h3 := polyB_len hp
        have ht := steps_same ps (fun h => by subst h; simp at h3)
        rw [pthB_steps, List.nil_append] at ht
        simp only [Bool.not_true, cond_false, implPathText_eq ps (show ps.length ≤ 1048576 by omega), hp, if_true, bindS, ← ht, true_and]
        rw [eqS (pthB_byte ps 0) hb]
        by_cases he : pthB 0 ps = L
        · rw [decide_eq_true he, if_pos he]; rfl
        · rw [decide_eq_false he, if_neg he]; rfl
  · rw [decide_eq_true (by omega), cond_true]
    cases hm : mapO (pathP (splitL 32 L)) (List.range ((splitL 32 L).length / 3)) with
    | none => rfl
    | some ps =>
      have hpl := mapO_length hm
      rw [List.length_range] at hpl
      simp only
      rw [if_neg]
      rintro ⟨hp, he⟩
      have h3 := polyB_len hp
      have := (pthB_words ps 0).1
      rw [he] at this
      omega
theorem specReadPath (L : List Int) (hb : ∀ x ∈ L, isByte x) (hl : L.length ≤ 1048576) : sh20 (bytesS L) = some (readPathR L) := by
  unfold sh20 readPathR
  obtain ⟨hn, hw⟩ := splitL_bound (b := 32) L
  have hwb := splitL_mem (b := 32) (p := isByte) hb
  have hne := List.length_pos_iff.2 (splitL_ne 32 L)
  rw [l01Split_eq L 32 hb hl, bindS, List.length_map]
  have hlt : (splitL 32 L).length - 1 < (splitL 32 L).length := by omega
  have hg : getI ((splitL 32 L).map bytesS) (w64 (((splitL 32 L).length : Int) - 1)) = some (bytesS ((splitL 32 L).getD ((splitL 32 L).length - 1) [])) := by
    rw [w64_id (by omega) (by omega), show ((splitL 32 L).length : Int) - 1 = (((splitL 32 L).length - 1 : Nat) : Int) by omega, getI_lt (by rw [List.length_map]; exact hlt), getD_map hlt]
  have hlast : (splitL 32 L).getLast? = some ((splitL 32 L).getD ((splitL 32 L).length - 1) []) := by
    rw [List.getLast?_eq_getElem?, List.getD_eq_getElem?_getD, List.getElem?_eq_getElem hlt]; rfl
  have et : ((((splitL 32 L).length : Int).tmod 3) != 1) = !decide ((splitL 32 L).length % 3 = 1) := by
    rw [Int.tmod_eq_emod_of_nonneg (by omega)]
    by_cases h : (splitL 32 L).length % 3 = 1
    · rw [decide_eq_true h]
      have : ((splitL 32 L).length : Int) % 3 = 1 := by omega
      rw [this]; rfl
    · rw [decide_eq_false h]
      have : ((splitL 32 L).length : Int) % 3 ≠ 1 := by omega
      rw [bne_iff_ne.2 this]; rfl
  rw [et, hg, bindS, show (ByteArray.mk #[90] : ByteArray) = bytesS [90] from rfl, eqS (hwb _ (getD_mem hlt)) (fun x hx => by simp at hx; subst hx; unfold isByte; omega)]
  have refute : ∀ ps, polyB ps = true → pthB 0 ps = L → (splitL 32 L).length % 3 = 1 ∧ (splitL 32 L).getD ((splitL 32 L).length - 1) [] = [90] := by
    intro ps hp he
    obtain ⟨h1, h2⟩ := pthB_words ps 0
    rw [he] at h1 h2
    rw [hlast] at h2
    exact ⟨by omega, Option.some.inj h2⟩
  by_cases h1 : (splitL 32 L).length % 3 = 1
  · by_cases h2 : (splitL 32 L).getD ((splitL 32 L).length - 1) [] = [90]
    · rw [decide_eq_true h1, decide_eq_true h2]
      simp only [Bool.not_true, cond_false, bindS]
      rw [path_words_spec (splitL 32 L) (fun w h => ⟨hwb w h, Nat.le_trans (hw w h) hl⟩) (by omega) h1, bindS]
      cases hm : mapO (pathP (splitL 32 L)) (List.range ((splitL 32 L).length / 3)) with
      | none => rfl
      | some ps =>
        have hpl := mapO_length hm
        rw [List.length_range] at hpl
        simp only [elimS, l20Ok_eq ps (show ps.length ≤ 1048576 by omega), bindS]
        cases hp : polyB ps
        · simp
        · have ht := pthB_steps ps 0 []
          rw [List.nil_append] at ht
          simp only [Bool.not_true, cond_false, l20Text_eq ps (polyB_all hp) (show ps.length ≤ 1048576 by omega), bindS, ht, true_and]
          rw [eqS (pthB_byte ps 0) hb]
          by_cases he : pthB 0 ps = L
          · rw [decide_eq_true he, if_pos he]; rfl
          · rw [decide_eq_false he, if_neg he]; rfl
    · rw [decide_eq_true h1, decide_eq_false h2]
      simp only [Bool.not_true, Bool.not_false, cond_false, cond_true, bindS]
      cases hm : mapO (pathP (splitL 32 L)) (List.range ((splitL 32 L).length / 3)) with
      | none => rfl
      | some ps =>
        simp only
        rw [if_neg]
        rintro ⟨hp, he⟩
        exact h2 (refute ps hp he).2
  · rw [decide_eq_false h1]
    simp only [Bool.not_false, cond_true, bindS]
    cases hm : mapO (pathP (splitL 32 L)) (List.range ((splitL 32 L).length / 3)) with
    | none => rfl
    | some ps =>
      simp only
      rw [if_neg]
      rintro ⟨hp, he⟩
      exact h1 (refute ps hp he).1
theorem readPath_total (s : ByteArray) (h : s.size ≤ 1048576) : ∃ r, sh20 s = some r ∧ sh21 s = some r ∧ r.1.length ≤ 300 := by
  have hb := strI_byte s
  have hl : (strI s).length ≤ 1048576 := by rw [strI_length]; exact h
  rw [← bytesS_strI s, specReadPath _ hb hl, implReadPath _ hb hl]
  refine ⟨_, rfl, rfl, ?_⟩
  unfold readPathR
  split
  · split
    · rename_i hs; exact (polyB_len hs.1).2
    · simp
  · simp

/-! FnExactReadPath -/
theorem law4 (s : ByteArray) : sh4 s = some true := by
  unfold sh4
  by_cases h : s.size ≤ 1048576
  · obtain ⟨r, h1, h2, h3⟩ := readPath_total s h
    have hd : decide (1048576 < (s.size : Int)) = false := decide_eq_false (by omega)
    have m2 := markPointS_eq r.1 1 (by omega) (by omega) (by omega)
    have m3 := heldPointS_eq 1 r.1.length (by omega) (by omega) (by omega)
    have n2 : decide ((1 : Int) + 2 * (r.1.length : Int) < 0) = false := decide_eq_false (by omega)
    simp only [hd, cond_false, bindS, h1, h2, bne_self_eq_false, Bool.or_self, eqPointS_eq r.1 r.1 (by omega), decide_true, Bool.not_true, m2, m3, n2]
  · have hd : decide (1048576 < (s.size : Int)) = true := decide_eq_true (by omega)
    rw [hd]; rfl
end Go.Sh
