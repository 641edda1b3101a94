/- Plain laws: what the shallow functions come to. -/
import Derived.Test.YtnifcedmpilldaaF7W3
set_option linter.unusedVariables false
set_option linter.unusedSimpArgs false
namespace Go.Sh
open Go Go.RowKit

/-! iters -/
theorem w64_lo (x : Int) : -9223372036854775808 ≤ w64 x := by
  have := IntKind.wrap_i64 x
  show _ ≤ IntKind.i64.wrap x
  omega
theorem w64_hi (x : Int) : w64 x ≤ 9223372036854775807 := by
  have := IntKind.wrap_i64 x
  show IntKind.i64.wrap x ≤ _
  omega
theorem getI_toNat {T : Type} {xs : List T} {i : Int} (h0 : 0 ≤ i) (h : i.toNat < xs.length) : getI xs i = some xs[i.toNat] := by
  unfold getI; rw [if_pos h0]; exact List.getElem?_eq_getElem h
theorem nzI_ok {a : Int} (h : a ≠ 0) : nzI a = some a := by simp [nzI, h]

/-- The loop that looks for the first element that passes. -/
theorem iter_find {T : Type} {sb : Int → Option (Int ⊕ (Unit ⊕ Int))} {xs : List T} {p : T → Bool} (hl : xs.length < 1099511627776)
    (hsb : ∀ (k : Nat) (h : k < xs.length), sb (k : Int) = if p xs[k] = true then some (.inr (.inr (k : Int))) else some (.inl ((k : Int) + 1))) (he : sb (xs.length : Int) = some (.inr (.inl ()))) :
    iter sb 0 = some (if xs.any p = true then .inr (xs.findIdx p : Int) else .inl ()) := by
  have h := iter_res (sb := sb) (fun k => (k : Int)) (fun k => if (xs.drop k).any p = true then (.inr (k + (xs.drop k).findIdx p : Nat) : Unit ⊕ Int) else .inl ()) xs.length (by omega) (fun k hk => ?_) (by
    rw [he, List.drop_of_length_le (Nat.le_refl _)]; simp)
  · simpa using h
  · rw [hsb k hk, List.drop_eq_getElem_cons hk]
    by_cases hx : p xs[k] = true
    · right
      rw [if_pos hx]
      simp only [List.any_cons, hx, Bool.true_or, if_true, List.findIdx_cons, cond_true, Nat.add_zero]
    · left
      rw [if_neg hx]
      refine ⟨by simp, ?_⟩
      have hx' : p xs[k] = false := by simpa using hx
      simp only [List.any_cons, hx', Bool.false_or, List.findIdx_cons, cond_false]
      split <;> simp
      omega

theorem iterN_congr {σ ρ : Type} {sb1 sb2 : σ → Option (σ ⊕ ρ)} (I : σ → Prop) (hs : ∀ s, I s → sb1 s = sb2 s ∧ ∀ s', sb2 s = some (.inl s') → I s') : ∀ (n : Nat) (s : σ), I s → iterN sb1 n s = iterN sb2 n s
  | 0, _, _ => rfl
  | n + 1, s, h => by
    obtain ⟨h1, h2⟩ := hs s h
    simp only [iterN, h1]
    cases hb : sb2 s with
    | none => rfl
    | some o =>
      cases o with
      | inl s' => exact iterN_congr I hs n s' (h2 s' hb)
      | inr x => rfl
/-- Two loops whose bodies agree where the invariant holds. -/
theorem iter_congr {σ ρ : Type} {sb1 sb2 : σ → Option (σ ⊕ ρ)} (I : σ → Prop) {s0 : σ} (h0 : I s0) (hs : ∀ s, I s → sb1 s = sb2 s ∧ ∀ s', sb2 s = some (.inl s') → I s') : iter sb1 s0 = iter sb2 s0 :=
  iterN_congr I hs FUEL s0 h0

/-- A loop over a list, as a fold. -/
theorem iter_fold {T σ S ρ : Type} {sb : S → Option (S ⊕ ρ)} (xs : List T) (st : Nat → σ → S) (g : σ → T → σ) (h : σ → ρ) (I : Nat → σ → Prop) (s0 : σ) (h0 : I 0 s0) (hl : xs.length < 1099511627776)
    (hsb : ∀ (k : Nat) (hk : k < xs.length) s, I k s → sb (st k s) = some (.inl (st (k + 1) (g s xs[k]))) ∧ I (k + 1) (g s xs[k])) (he : ∀ s, I xs.length s → sb (st xs.length s) = some (.inr (h s))) :
    iter sb (st 0 s0) = some (h (xs.foldl g s0)) ∧ I xs.length (xs.foldl g s0) := by
  have hI : ∀ k, k ≤ xs.length → I k ((xs.take k).foldl g s0) := by
    intro k
    induction k with
    | zero => intro _; simpa using h0
    | succ k ih =>
      intro hk
      rw [List.take_succ_eq_append_getElem (by omega), List.foldl_append]
      exact (hsb k (by omega) _ (ih (by omega))).2
  have hlast := hI xs.length (Nat.le_refl _)
  rw [List.take_length] at hlast
  refine ⟨?_, hlast⟩
  refine iter_steps (fun k => st k ((xs.take k).foldl g s0)) xs.length (by omega) (fun k hk => ?_) (by rw [List.take_length]; exact he _ hlast)
  rw [(hsb k hk _ (hI k (by omega))).1, List.take_succ_eq_append_getElem hk, List.foldl_append]
  rfl

/-- The greater one. -/
def mx (a b : Int) : Int := if a < b then b else a
def mn (a b : Int) : Int := if b < a then b else a
theorem mx_comm' (a b : Int) : (if b < a then a else b) = mx a b := by unfold mx; split <;> split <;> omega
theorem foldl_snoc {α β : Type} (f : α → β) : ∀ (xs : List α) (a : List β), xs.foldl (fun acc m => acc ++ [f m]) a = a ++ xs.map f
  | [], a => by simp
  | x :: xs, a => by rw [List.foldl_cons, foldl_snoc f xs]; simp

/-! decimal -/
theorem u64_id {x : Int} (h1 : 0 ≤ x) (h2 : x < 18446744073709551616) : IntKind.u64.wrap x = x := by
  unfold IntKind.wrap
  have hs : IntKind.u64.signed = false := rfl
  have hb : IntKind.u64.bits = 64 := rfl
  simp only [hs, hb, Bool.false_and]
  show x % 2 ^ 64 = x
  omega
theorem u64_neg {x : Int} (h1 : -9223372036854775808 ≤ x) (h2 : x < 0) : IntKind.u64.wrap (0 - IntKind.u64.wrap x) = -x := by
  unfold IntKind.wrap
  have hs : IntKind.u64.signed = false := rfl
  have hb : IntKind.u64.bits = 64 := rfl
  simp only [hs, hb, Bool.false_and]
  show (0 - x % 2 ^ 64) % 2 ^ 64 = -x
  omega
theorem u8_id {x : Int} (h1 : 0 ≤ x) (h2 : x < 256) : IntKind.u8.wrap x = x := by
  unfold IntKind.wrap
  have hs : IntKind.u8.signed = false := rfl
  have hb : IntKind.u8.bits = 8 := rfl
  simp only [hs, hb, Bool.false_and]
  show x % 2 ^ 8 = x
  omega

/-- The digits of a number, the first one first. -/
def digs (n : Nat) : List Int := if h : n = 0 then [] else digs (n / 10) ++ [48 + ((n % 10 : Nat) : Int)]
decreasing_by omega
theorem digs_zero : digs 0 = [] := by unfold digs; simp
theorem digs_pos {n : Nat} (h : 0 < n) : digs n = digs (n / 10) ++ [48 + ((n % 10 : Nat) : Int)] := by
  rw [digs]; simp [show n ≠ 0 by omega]
theorem digs_len : ∀ (k n : Nat), n < 10 ^ k → (digs n).length ≤ k
  | 0, n, h => by
    have : n = 0 := by simpa using h
    subst this; simp [digs_zero]
  | k + 1, n, h => by
    by_cases h0 : n = 0
    · subst h0; simp [digs_zero]
    · rw [digs_pos (by omega), List.length_append]
      have := digs_len k (n / 10) (by rw [Nat.pow_succ] at h; omega)
      simp; omega
theorem digs_byte (n : Nat) : ∀ x ∈ digs n, 48 ≤ x ∧ x ≤ 57 := by
  induction n using Nat.strongRecOn with
  | ind n ih =>
    intro x hx
    by_cases h0 : n = 0
    · subst h0; rw [digs_zero] at hx; simp at hx
    · rw [digs_pos (by omega)] at hx
      rcases List.mem_append.1 hx with h | h
      · exact ih (n / 10) (by omega) x h
      · simp at h; omega
theorem digs_ne {n : Nat} (h : 0 < n) : digs n ≠ [] := by rw [digs_pos h]; simp

/-- The bytes of a number in decimal. -/
def decL (n : Int) : List Int := if n = 0 then [48] else (if n < 0 then [45] else []) ++ digs n.natAbs
theorem decL_len {n : Int} (h1 : -9223372036854775808 ≤ n) (h2 : n ≤ 9223372036854775807) : (decL n).length ≤ 20 := by
  unfold decL
  have := digs_len 19 n.natAbs (by omega)
  split
  · simp
  · split <;> simp <;> omega
theorem decL_byte (n : Int) : ∀ x ∈ decL n, 0 ≤ x ∧ x < 256 := by
  intro x hx
  unfold decL at hx
  split at hx
  · simp at hx; omega
  · rcases List.mem_append.1 hx with h | h
    · split at h <;> simp at h; omega
    · have := digs_byte _ x h; omega

/-! bytes as a string -/
theorem bytesS_foldl : ∀ (xs : List Int) (s : ByteArray), xs.foldl (fun r n => r.push (UInt8.ofNat n.toNat)) s = ⟨s.data ++ (xs.map fun n => UInt8.ofNat n.toNat).toArray⟩
  | [], s => by simp
  | n :: ns, s => by
    rw [List.foldl_cons, bytesS_foldl ns]
    simp [ByteArray.push]
theorem bytesS_data (xs : List Int) : bytesS xs = ⟨(xs.map fun n => UInt8.ofNat n.toNat).toArray⟩ := by
  unfold bytesS
  rw [bytesS_foldl]
  congr 1
  apply Array.ext'
  simp [ByteArray.empty, ByteArray.emptyWithCapacity]
  rfl
theorem bytesS_size (xs : List Int) : (bytesS xs).size = xs.length := by
  rw [bytesS_data]
  show (List.toArray _).size = _
  simp
theorem bytesS_append (xs ys : List Int) : bytesS xs ++ bytesS ys = bytesS (xs ++ ys) := by
  apply ByteArray.ext
  rw [ByteArray.data_append, bytesS_data, bytesS_data, bytesS_data]
  apply Array.ext'
  simp
theorem strI_bytesS {xs : List Int} (h : ∀ x ∈ xs, 0 ≤ x ∧ x < 256) : strI (bytesS xs) = xs := by
  rw [bytesS_data, strI]
  simp only [List.map_map]
  conv => rhs; rw [← List.map_id xs]
  refine List.map_congr_left fun x hx => ?_
  obtain ⟨h1, h2⟩ := h x hx
  show ((UInt8.ofNat x.toNat).toNat : Int) = x
  rw [UInt8.toNat_ofNat']
  omega
theorem catS_ok {xs ys : List Int} (h : xs.length + ys.length ≤ 1099511627776) : catS (bytesS xs) (bytesS ys) = some (bytesS (xs ++ ys)) := by
  have : LIM = 1099511627776 := rfl
  unfold catS
  rw [bytesS_size, bytesS_size, if_pos (by omega), bytesS_append]
theorem lit_nil : (ByteArray.mk #[] : ByteArray) = bytesS [] := rfl
theorem lit_minus : (ByteArray.mk #[45] : ByteArray) = bytesS [45] := rfl
theorem lit_zero : (ByteArray.mk #[48] : ByteArray) = bytesS [48] := rfl
theorem lit_blank : (ByteArray.mk #[32] : ByteArray) = bytesS [32] := rfl

theorem tmod_abs (n : Int) : (if n.tmod 10 < 0 then 0 - n.tmod 10 else n.tmod 10) = ((n.natAbs % 10 : Nat) : Int) := by
  by_cases h : 0 ≤ n
  · rw [Int.tmod_eq_emod_of_nonneg h]; split <;> omega
  · have := Int.neg_tmod (-n) 10
    rw [Int.neg_neg] at this
    rw [this, Int.tmod_eq_emod_of_nonneg (by omega)]
    split <;> omega
theorem tdiv_abs (n : Int) : (n.tdiv 10).natAbs = n.natAbs / 10 := by
  rw [Int.natAbs_tdiv]; rfl

theorem l01Dec_eq (n : Int) (h1 : -9223372036854775808 ≤ n) (h2 : n ≤ 9223372036854775807) : sh208 n = some (bytesS (decL n)) := by
  unfold sh208
  have hN : n.natAbs < 10 ^ 19 := by omega
  obtain ⟨b, hb, hr⟩ := iter_inv (sb := sh208_1) (fun (s : Int × List Int) => -9223372036854775808 ≤ s.1 ∧ s.1 ≤ 9223372036854775807 ∧ digs n.natAbs = digs s.1.natAbs ++ s.2) (fun s => (digs s.1.natAbs).length) (fun (b : List Int) => b = digs n.natAbs) (s0 := (n, [])) ⟨h1, h2, by simp⟩ (by have := digs_len 19 _ hN; simp only; omega) (by
    rintro ⟨x, l⟩ ⟨h3, h4, h5⟩
    simp only at h3 h4 h5
    by_cases hx : x = 0
    · right
      subst hx
      refine ⟨l, rfl, ?_⟩
      rw [h5]; simp [digs_zero]
    · left
      have hlen := digs_len 19 _ hN
      rw [h5, List.length_append] at hlen
      have hne : (x != 0) = true := bne_iff_ne.2 hx
      have hd := tmod_abs x
      simp only [sh208_1, hne, cond_true]
      have e1 : (bif decide ((x.tmod 10) < 0) then (some (w64 (0 - (x.tmod 10)))) else (some (x.tmod 10))) = some ((x.natAbs % 10 : Nat) : Int) := by
        rw [← hd]
        by_cases hneg : x.tmod 10 < 0
        · rw [if_pos hneg] at hd ⊢
          simp only [hneg, decide_true, cond_true]
          rw [w64_id (by omega) (by omega)]
        · rw [if_neg hneg]; simp [hneg]
      have hdiv := tdiv_abs x
      rw [e1, bindS, w64_id (x := 48 + _) (by omega) (by omega), u8_id (by omega) (by omega), appL_ok (by simp only [List.length_cons, List.length_nil]; omega), bindS, w64_id (x := x.tdiv 10) (by omega) (by omega)]
      have hp := digs_pos (n := x.natAbs) (by omega)
      refine ⟨_, rfl, ⟨?_, ?_, ?_⟩, ?_⟩
      · simp only; omega
      · simp only; omega
      · simp only
        rw [hdiv, h5, hp, List.append_assoc]
      · simp only; rw [hdiv, hp]; simp)
  rw [hb, bindS, hr]
  by_cases h0 : n = 0
  · subst h0; rw [Int.natAbs_zero, digs_zero]; rfl
  · have hne := digs_ne (n := n.natAbs) (by omega)
    have hl : ((digs n.natAbs).length : Int) ≠ 0 := by
      have := List.length_pos_iff.2 hne
      omega
    have hlen := digs_len 19 _ hN
    rw [beq_eq_false_iff_ne.2 hl, cond_false]
    unfold decL
    rw [if_neg h0]
    by_cases hneg : n < 0
    · simp only [hneg, decide_true, cond_true, if_true]
      rw [lit_minus, catS_ok (by simp only [List.length_cons, List.length_nil]; omega), bindS]
    · simp [hneg]

theorem Decimal_eq (n : Int) (h1 : -9223372036854775808 ≤ n) (h2 : n ≤ 9223372036854775807) : sh165 n = some (bytesS (decL n)) := by
  unfold sh165
  by_cases h0 : n = 0
  · subst h0; rfl
  · have hN : n.natAbs < 10 ^ 19 := by omega
    rw [beq_eq_false_iff_ne.2 h0, cond_false]
    have e1 : (bif decide (n < 0) then (some (IntKind.u64.wrap (0 - (IntKind.u64.wrap n)))) else (some (IntKind.u64.wrap n))) = some (n.natAbs : Int) := by
      by_cases hneg : n < 0
      · simp only [hneg, decide_true, cond_true]
        rw [u64_neg h1 hneg]; congr 1; omega
      · have hd : decide (n < 0) = false := decide_eq_false hneg
        simp only [hd, cond_false]
        rw [u64_id (by omega) (by omega)]; congr 1; omega
    rw [e1, bindS]
    obtain ⟨b, hb, hr1, hr2, hr3, hr4⟩ := iter_inv (sb := sh165_1) (fun (s : Int × Int × List Int) => ∃ a r : Nat, s.1 = (a : Int) ∧ s.2.1 = (r : Int) ∧ 1 ≤ a ∧ a ≤ 20 ∧ r < 10 ^ (a - 1) ∧ s.2.2.length = 20 ∧ digs n.natAbs = digs r ++ s.2.2.drop a) (fun s => s.1.toNat)
      (fun (b : Int × List Int) => 1 ≤ b.1 ∧ b.1 ≤ 20 ∧ b.2.length = 20 ∧ digs n.natAbs = b.2.drop b.1.toNat) (s0 := (20, (n.natAbs : Int), List.replicate 20 (0 : Int)))
      ⟨20, n.natAbs, rfl, rfl, by omega, by omega, hN, rfl, by simp⟩ (by simp only; omega) (by
      rintro ⟨x, y, l⟩ ⟨a, r, rfl, rfl, ha1, ha2, hr, hl, hd⟩
      simp only at hl hd ⊢
      by_cases hr0 : r = 0
      · right
        subst hr0
        refine ⟨((a : Int), l), rfl, by simp only; omega, by simp only; omega, hl, ?_⟩
        simp only [Int.toNat_natCast]
        rw [hd, digs_zero, List.nil_append]
      · left
        have ha : 2 ≤ a := by
          rcases Nat.lt_or_ge a 2 with h | h
          · have : a = 1 := by omega
            subst this
            simp at hr; omega
          · exact h
        have hp : 10 ^ (a - 1) ≤ 10 ^ 19 := Nat.pow_le_pow_right (by omega) (by omega)
        have hp2 : 10 ^ (a - 1) = 10 ^ (a - 1 - 1) * 10 := by rw [← Nat.pow_succ]; congr 1; omega
        have hpos : (0 : Int) < (r : Int) := by omega
        have hw : w64 ((a : Int) - 1) = ((a - 1 : Nat) : Int) := by rw [w64_id (by omega) (by omega)]; omega
        have hlt : a - 1 < l.length := by omega
        have et : ((r : Int)).tmod 10 = ((r % 10 : Nat) : Int) := by rw [Int.tmod_eq_emod_of_nonneg (by omega)]; omega
        have ed : ((r : Int)).tdiv 10 = ((r / 10 : Nat) : Int) := by rw [Int.tdiv_eq_ediv_of_nonneg (by omega)]; omega
        simp only [sh165_1, hpos, decide_true, cond_true, hw, getI_lt hlt, bindS, et, ed, Int.toNat_natCast]
        rw [u64_id (x := ((r / 10 : Nat) : Int)) (by omega) (by omega), u64_id (x := 48 + ((r % 10 : Nat) : Int)) (by omega) (by omega), u8_id (by omega) (by omega)]
        refine ⟨_, rfl, ⟨a - 1, r / 10, rfl, rfl, by omega, by omega, by omega, by simp only [List.length_set]; exact hl, ?_⟩, by simp only [Int.toNat_natCast]; omega⟩
        simp only
        rw [hd, digs_pos (n := r) (by omega), List.append_assoc]
        congr 1
        rw [List.drop_eq_getElem_cons (i := a - 1) (by rw [List.length_set]; exact hlt), List.getElem_set_self, List.drop_set_of_lt (by omega)]
        rw [show a - 1 + 1 = a by omega]
        rfl)
    rw [hb, bindS]
    obtain ⟨x, l⟩ := b
    simp only at hr1 hr2 hr3 hr4
    obtain ⟨a, rfl⟩ : ∃ a : Nat, x = a := ⟨x.toNat, by omega⟩
    simp only [Int.toNat_natCast] at hr4
    unfold decL
    rw [if_neg h0]
    by_cases hneg : n < 0
    · have hw : w64 ((a : Int) - 1) = ((a - 1 : Nat) : Int) := by rw [w64_id (by omega) (by omega)]; omega
      have hlt : a - 1 < l.length := by omega
      simp only [hneg, decide_true, cond_true, hw, getI_lt hlt, bindS, if_true, Int.toNat_natCast]
      have hdl : dropL (l.set (a - 1) 45) ((a - 1 : Nat) : Int) = some ((l.set (a - 1) 45).drop (a - 1)) := by
        simp [dropL]; omega
      rw [hdl, bindS, List.drop_eq_getElem_cons (i := a - 1) (by rw [List.length_set]; exact hlt), List.getElem_set_self, List.drop_set_of_lt (by omega), hr4]
      rw [show a - 1 + 1 = a by omega]
      rfl
    · have hd : decide (n < 0) = false := decide_eq_false hneg
      have hdl : dropL l (a : Int) = some (l.drop a) := by
        simp [dropL]; omega
      simp only [hd, cond_false, bindS, hdl]
      rw [if_neg hneg, List.nil_append, hr4]

/-! strs -/
def isByte (x : Int) : Prop := 0 ≤ x ∧ x < 256
theorem strI_byte (s : ByteArray) : ∀ x ∈ strI s, isByte x := by
  intro x hx
  unfold strI at hx
  obtain ⟨b, _, rfl⟩ := List.mem_map.1 hx
  have := UInt8.toNat_lt b
  unfold isByte
  omega
theorem bytesS_strI (s : ByteArray) : bytesS (strI s) = s := by
  rw [bytesS_data, strI, List.map_map]
  apply ByteArray.ext
  apply Array.ext'
  simp only [List.map_map]
  conv => rhs; rw [← List.map_id s.data.toList]
  refine List.map_congr_left fun b _ => ?_
  show UInt8.ofNat ((b.toNat : Int)).toNat = b
  rw [Int.toNat_natCast]
  exact UInt8.ofNat_toNat
theorem strI_inj {a b : ByteArray} (h : strI a = strI b) : a = b := by rw [← bytesS_strI a, h, bytesS_strI]
theorem bytesS_inj {A B : List Int} (hA : ∀ x ∈ A, isByte x) (hB : ∀ x ∈ B, isByte x) (h : bytesS A = bytesS B) : A = B := by
  rw [← strI_bytesS hA, h, strI_bytesS hB]
theorem toList_loop (s : ByteArray) : ∀ (k i : Nat) (r : List UInt8), s.size - i = k → ByteArray.toList.loop s i r = r.reverse ++ s.data.toList.drop i
  | 0, i, r, h => by
    rw [ByteArray.toList.loop, if_neg (by omega), List.drop_of_length_le (by show s.data.size ≤ i; have : s.data.size = s.size := rfl; omega), List.append_nil]
  | k + 1, i, r, h => by
    have hi : i < s.size := by omega
    have hi2 : i < s.data.toList.length := hi
    rw [ByteArray.toList.loop, if_pos hi, toList_loop s k (i + 1) _ (by omega), List.drop_eq_getElem_cons hi2, List.reverse_cons, List.append_assoc]
    have : s.get! i = s.data.toList[i] := by
      show s.data[i]! = _
      rw [getElem!_pos s.data i hi]
      simp
    rw [this]
    rfl
theorem toList_data (s : ByteArray) : s.toList = s.data.toList := by
  unfold ByteArray.toList
  rw [toList_loop s s.size 0 [] (by omega)]
  simp
theorem toList_inj {a b : ByteArray} (h : a.toList = b.toList) : a = b := by
  rw [toList_data, toList_data] at h
  exact ByteArray.ext (Array.toList_inj.1 h)
theorem eqS {A B : List Int} (hA : ∀ x ∈ A, isByte x) (hB : ∀ x ∈ B, isByte x) : ((bytesS A).toList == (bytesS B).toList) = decide (A = B) := by
  by_cases h : A = B
  · subst h; simp
  · have : (bytesS A).toList ≠ (bytesS B).toList := fun he => h (bytesS_inj hA hB (toList_inj he))
    simp [h, this]
theorem getS_strI (s : ByteArray) (k : Nat) : getS s (k : Int) = (strI s)[k]? := by
  unfold getS strI
  rw [if_pos (by omega), Int.toNat_natCast, List.getElem?_map]
  congr 1
  by_cases h : k < s.size
  · rw [getElem?_pos s k h, List.getElem?_eq_getElem (show k < s.data.toList.length from h)]
    rfl
  · rw [getElem?_neg s k h, List.getElem?_eq_none (show s.data.toList.length ≤ k from Nat.le_of_not_lt h)]
theorem getS_ok {L : List Int} (hb : ∀ x ∈ L, isByte x) {k : Nat} (h : k < L.length) : getS (bytesS L) (k : Int) = some L[k] := by
  rw [getS_strI, strI_bytesS hb, List.getElem?_eq_getElem h]
theorem subS_ok {L : List Int} (hb : ∀ x ∈ L, isByte x) {i j : Nat} (hij : i ≤ j) (h : j ≤ L.length) : subS (bytesS L) (i : Int) (j : Int) = some (bytesS ((L.drop i).take (j - i))) := by
  unfold subS
  rw [if_pos (by rw [bytesS_size]; omega), Int.toNat_natCast, Int.toNat_natCast]
  congr 1
  apply strI_inj
  rw [strI_bytesS (fun x hx => hb x (List.mem_of_mem_drop (List.mem_of_mem_take hx)))]
  unfold strI
  rw [ByteArray.data_extract, Array.toList_extract, List.extract_eq_take_drop, List.map_take, List.map_drop]
  have := strI_bytesS hb
  unfold strI at this
  rw [this]
theorem mem_drop_take {L : List Int} (hb : ∀ x ∈ L, isByte x) (i j : Nat) : ∀ x ∈ (L.drop i).take j, isByte x := fun x hx => hb x (List.mem_of_mem_drop (List.mem_of_mem_take hx))

/-! parts of a text -/
def consHead (x : Int) : List (List Int) → List (List Int)
  | [] => [[x]]
  | h :: t => (x :: h) :: t
def splitL (b : Int) : List Int → List (List Int)
  | [] => [[]]
  | x :: xs => if x = b then [] :: splitL b xs else consHead x (splitL b xs)
theorem splitL_ne (b : Int) (L : List Int) : splitL b L ≠ [] := by
  cases L with
  | nil => simp [splitL]
  | cons x xs =>
    unfold splitL
    split
    · simp
    · cases splitL b xs <;> simp [consHead]
theorem splitL_none {b : Int} : ∀ {a : List Int}, b ∉ a → splitL b a = [a]
  | [], _ => rfl
  | x :: xs, h => by
    have h1 : x ≠ b := fun e => h (by simp [e])
    have h2 : b ∉ xs := fun e => h (by simp [e])
    rw [splitL, if_neg h1, splitL_none h2]
    rfl
theorem splitL_app {b : Int} : ∀ {a : List Int} (c : List Int), b ∉ a → splitL b (a ++ b :: c) = a :: splitL b c
  | [], c, _ => by simp [splitL]
  | x :: xs, c, h => by
    have h1 : x ≠ b := fun e => h (by simp [e])
    have h2 : b ∉ xs := fun e => h (by simp [e])
    rw [List.cons_append, splitL, if_neg h1, splitL_app c h2]
    rfl
theorem splitL_mem {b : Int} {p : Int → Prop} : ∀ {L : List Int}, (∀ x ∈ L, p x) → ∀ w ∈ splitL b L, ∀ x ∈ w, p x
  | [], _, w, hw, x, hx => by simp [splitL] at hw; subst hw; cases hx
  | y :: ys, h, w, hw, x, hx => by
    have ih := splitL_mem (b := b) (fun z hz => h z (List.mem_cons_of_mem _ hz)) (L := ys)
    rw [splitL] at hw
    split at hw
    · rcases List.mem_cons.1 hw with rfl | hw
      · cases hx
      · exact ih w hw x hx
    · cases hs : splitL b ys with
      | nil => exact absurd hs (splitL_ne b ys)
      | cons u t =>
        rw [hs, consHead] at hw
        rw [hs] at ih
        rcases List.mem_cons.1 hw with rfl | hw
        · rcases List.mem_cons.1 hx with rfl | hx
          · exact h _ (List.mem_cons_self ..)
          · exact ih u (List.mem_cons_self ..) x hx
        · exact ih w (List.mem_cons_of_mem _ hw) x hx
theorem splitL_bound {b : Int} : ∀ (L : List Int), (splitL b L).length ≤ L.length + 1 ∧ ∀ w ∈ splitL b L, w.length ≤ L.length
  | [] => by simp [splitL]
  | y :: ys => by
    obtain ⟨h1, h2⟩ := splitL_bound (b := b) ys
    rw [splitL]
    split
    · refine ⟨by simp only [List.length_cons]; omega, fun w hw => ?_⟩
      rcases List.mem_cons.1 hw with rfl | hw
      · simp
      · have := h2 w hw; simp only [List.length_cons]; omega
    · cases hs : splitL b ys with
      | nil => exact absurd hs (splitL_ne b ys)
      | cons u t =>
        rw [hs] at h1 h2
        refine ⟨by simp only [consHead, List.length_cons] at h1 ⊢; omega, fun w hw => ?_⟩
        rw [consHead] at hw
        rcases List.mem_cons.1 hw with rfl | hw
        · have := h2 u (List.mem_cons_self ..); simp only [List.length_cons]; omega
        · have := h2 w (List.mem_cons_of_mem _ hw); simp only [List.length_cons]; omega
theorem drop_split {L : List Int} {f i : Nat} (hf : f ≤ i) (hi : i < L.length) : L.drop f = (L.drop f).take (i - f) ++ L[i] :: L.drop (i + 1) := by
  conv => lhs; rw [← List.take_append_drop (i - f) (L.drop f)]
  rw [List.drop_drop, show f + (i - f) = i by omega, List.drop_eq_getElem_cons hi]
theorem take_snoc {L : List Int} {f i : Nat} (hf : f ≤ i) (hi : i < L.length) : (L.drop f).take (i + 1 - f) = (L.drop f).take (i - f) ++ [L[i]] := by
  rw [show i + 1 - f = (i - f) + 1 by omega, List.take_succ_eq_append_getElem (by rw [List.length_drop]; omega), List.getElem_drop]
  congr 2
  simp only [show f + (i - f) = i by omega]

theorem splitAt_eq (L : List Int) (b : Int) (hb : ∀ x ∈ L, isByte x) (hl : L.length ≤ 1048576) : sh158 (bytesS L) b = some ((splitL b L).map bytesS) := by
  unfold sh158
  obtain ⟨y, hy, f, acc, rfl, hf, hacc, hno, hal⟩ := iter_inv (sb := sh158_1 (bytesS L) b)
    (fun (s : Int × Int × List ByteArray) => ∃ (f i : Nat) (acc : List (List Int)), s = ((f : Int), (i : Int), acc.map bytesS) ∧ f ≤ i ∧ i ≤ L.length ∧ acc ++ splitL b (L.drop f) = splitL b L ∧ b ∉ (L.drop f).take (i - f) ∧ acc.length ≤ f)
    (fun s => L.length - s.2.1.toNat)
    (fun (y : Int × List ByteArray) => ∃ (f : Nat) (acc : List (List Int)), y = ((f : Int), acc.map bytesS) ∧ f ≤ L.length ∧ acc ++ splitL b (L.drop f) = splitL b L ∧ b ∉ L.drop f ∧ acc.length ≤ f) (s0 := (0, 0, []))
    ⟨0, 0, [], rfl, by omega, by omega, by simp, by simp, by simp⟩ (by simp only; omega) (by
    rintro s ⟨f, i, acc, rfl, h1, h2, h3, h4, h5⟩
    by_cases hi : i < L.length
    · left
      have hd : decide ((i : Int) < ((bytesS L).size : Int)) = true := by rw [bytesS_size]; exact decide_eq_true (by omega)
      simp only [sh158_1, hd, cond_true, getS_ok hb hi, bindS]
      by_cases he : L[i] = b
      · have hp := subS_ok hb h1 (Nat.le_of_lt hi)
        rw [show (L[i] == b) = true from beq_iff_eq.2 he, cond_true, hp, bindS, appL_ok (by simp only [List.length_map, List.length_cons, List.length_nil]; omega), bindS, bindS, w64_id (by omega) (by omega)]
        refine ⟨_, rfl, ⟨i + 1, i + 1, acc ++ [(L.drop f).take (i - f)], by simp, by omega, by omega, ?_, by simp, by simp; omega⟩, by simp only; omega⟩
        rw [← h3, drop_split h1 hi, he, splitL_app _ h4]
        simp only [List.append_assoc, List.cons_append, List.nil_append]
        rw [← he, ← drop_split h1 hi]
      · rw [show (L[i] == b) = false from beq_eq_false_iff_ne.2 he, cond_false, bindS, w64_id (by omega) (by omega)]
        refine ⟨_, rfl, ⟨f, i + 1, acc, by simp, by omega, by omega, h3, ?_, h5⟩, by simp only; omega⟩
        rw [take_snoc h1 hi]
        intro hm
        rcases List.mem_append.1 hm with hm | hm
        · exact h4 hm
        · simp at hm; exact he hm.symm
    · right
      have hd : decide ((i : Int) < ((bytesS L).size : Int)) = false := by rw [bytesS_size]; exact decide_eq_false (by omega)
      simp only [sh158_1, hd, cond_false]
      refine ⟨_, rfl, f, acc, rfl, by omega, h3, ?_, h5⟩
      rw [List.take_of_length_le (by rw [List.length_drop]; omega)] at h4
      exact h4)
  rw [hy, bindS]
  have hp := subS_ok hb hf (Nat.le_refl L.length)
  rw [bytesS_size]
  rw [List.take_of_length_le (by rw [List.length_drop]; omega)] at hp
  rw [hp, bindS, appL_ok (by simp only [List.length_map, List.length_cons, List.length_nil]; omega), bindS, ← hacc, splitL_none hno]
  simp
theorem l01Split_same (s : ByteArray) (b : Int) : sh163 s b = sh158 s b := rfl
theorem l01Split_eq (L : List Int) (b : Int) (hb : ∀ x ∈ L, isByte x) (hl : L.length ≤ 1048576) : sh163 (bytesS L) b = some ((splitL b L).map bytesS) := by
  rw [l01Split_same, splitAt_eq L b hb hl]

/-! iter_map -/
/-- A list read element by element, as far as all of it can be read. -/
def mapO {α β : Type} (f : α → Option β) : List α → Option (List β)
  | [] => some []
  | x :: xs => match f x with
    | none => none
    | some y => match mapO f xs with
      | none => none
      | some ys => some (y :: ys)
theorem mapO_snoc {α β : Type} {f : α → Option β} : ∀ {xs : List α} {ys : List β} {x : α} {y : β}, mapO f xs = some ys → f x = some y → mapO f (xs ++ [x]) = some (ys ++ [y])
  | [], ys, x, y, h, hx => by simp [mapO] at h; subst h; simp [mapO, hx]
  | z :: zs, ys, x, y, h, hx => by
    simp only [mapO, List.cons_append] at h ⊢
    cases hz : f z with
    | none => simp [hz] at h
    | some u =>
      simp only [hz] at h ⊢
      cases hr : mapO f zs with
      | none => simp [hr] at h
      | some us =>
        simp only [hr, Option.some.injEq] at h
        subst h
        rw [mapO_snoc hr hx]
        rfl
theorem mapO_none {α β : Type} {f : α → Option β} : ∀ {xs : List α} {k : Nat} (h : k < xs.length), f xs[k] = none → mapO f xs = none
  | x :: xs, 0, h, hx => by
    simp only [List.getElem_cons_zero] at hx
    simp [mapO, hx]
  | x :: xs, k + 1, h, hx => by
    simp only [List.getElem_cons_succ] at hx
    have := mapO_none (xs := xs) (by simpa using h) hx
    simp only [mapO, this]
    cases f x <;> rfl
theorem mapO_length {α β : Type} {f : α → Option β} : ∀ {xs : List α} {ys : List β}, mapO f xs = some ys → ys.length = xs.length
  | [], ys, h => by simp [mapO] at h; subst h; rfl
  | z :: zs, ys, h => by
    simp only [mapO] at h
    cases hz : f z with
    | none => simp [hz] at h
    | some u =>
      simp only [hz] at h
      cases hr : mapO f zs with
      | none => simp [hr] at h
      | some us =>
        simp only [hr, Option.some.injEq] at h
        subst h
        simp [mapO_length hr]
theorem mapO_congr {α β : Type} {f g : α → Option β} : ∀ {xs : List α}, (∀ x ∈ xs, f x = g x) → mapO f xs = mapO g xs
  | [], _ => rfl
  | z :: zs, h => by
    simp only [mapO, h z (List.mem_cons_self ..), mapO_congr (fun x hx => h x (List.mem_cons_of_mem _ hx))]
/-- The loop that reads a list, element by element: it gives up at an element that cannot be read, and at the element with number c. -/
theorem iter_mapO {α T R : Type} {sb : Int × List T → Option ((Int × List T) ⊕ (List T ⊕ R))} (W : List α) (f : α → Option T) (bad : R) (c d : Nat) (hl : W.length ≤ 1099511627776)
    (hsb : ∀ (k : Nat) (h : k < W.length) (out : List T), out.length = k → mapO f (W.take k) = some out → sb (((d * k : Nat) : Int), out) = if k = c then some (.inr (.inr bad)) else match f W[k] with
      | some y => some (.inl (((d * (k + 1) : Nat) : Int), out ++ [y]))
      | none => some (.inr (.inr bad)))
    (he : ∀ out : List T, out.length = W.length → sb (((d * W.length : Nat) : Int), out) = some (.inr (.inl out))) :
    iter sb (0, []) = some (if W.length ≤ c then (match mapO f W with | some ys => .inl ys | none => .inr bad) else .inr bad) := by
  obtain ⟨y, hy, hr⟩ := iter_inv (sb := sb) (fun (s : Int × List T) => ∃ (k : Nat) (out : List T), s = (((d * k : Nat) : Int), out) ∧ k ≤ W.length ∧ k ≤ c ∧ out.length = k ∧ mapO f (W.take k) = some out)
    (fun s => W.length - s.2.length) (fun (y : List T ⊕ R) => y = if W.length ≤ c then (match mapO f W with | some ys => .inl ys | none => .inr bad) else .inr bad) (s0 := (0, []))
    ⟨0, [], by simp, by omega, by omega, rfl, rfl⟩ (by simp only [List.length_nil]; omega) (by
    rintro s ⟨k, out, rfl, h1, h2, h3, h4⟩
    by_cases hk : k < W.length
    · rw [hsb k hk out h3 h4]
      by_cases hc : k = c
      · right
        rw [if_pos hc]
        exact ⟨_, rfl, by rw [if_neg (by omega)]⟩
      · rw [if_neg hc]
        cases hf : f W[k] with
        | none =>
          right
          refine ⟨_, rfl, ?_⟩
          rw [mapO_none hk hf]
          simp
        | some y =>
          left
          refine ⟨_, rfl, ⟨k + 1, out ++ [y], rfl, by omega, by omega, by simp [h3], ?_⟩, by simp only [List.length_append, List.length_cons, List.length_nil]; omega⟩
          rw [List.take_succ_eq_append_getElem hk]
          exact mapO_snoc h4 hf
    · right
      have hkl : k = W.length := by omega
      subst hkl
      rw [he out h3]
      rw [List.take_length] at h4
      exact ⟨_, rfl, by rw [if_pos h2, h4]⟩)
  rw [hy, hr]

/-! splitjoin -/
theorem split_join {b : Int} : ∀ (t : List (List Int)) (a : List Int), b ∉ a → (∀ w ∈ t, b ∉ w) → splitL b (a ++ t.flatMap (fun w => [b] ++ w)) = a :: t
  | [], a, ha, _ => by simp [splitL_none ha]
  | c :: t, a, ha, ht => by
    rw [List.flatMap_cons]
    show splitL b (a ++ b :: (c ++ t.flatMap (fun w => [b] ++ w))) = _
    rw [splitL_app _ ha, split_join t c (ht c (List.mem_cons_self ..)) (fun w hw => ht w (List.mem_cons_of_mem _ hw))]
theorem mapO_map {α β : Type} {f : α → Option β} {g : β → α} : ∀ {q : List β}, (∀ p ∈ q, f (g p) = some p) → mapO f (q.map g) = some q
  | [], _ => rfl
  | p :: q, h => by
    rw [List.map_cons, mapO, h p (List.mem_cons_self ..), mapO_map (fun x hx => h x (List.mem_cons_of_mem _ hx))]

/-! src -/
/-- Bytes from which is drawn. -/
def srcB (c : List Int) : Prop := ∀ x ∈ c, 0 ≤ x ∧ x ≤ 255
theorem okI_u8 {x : Int} (h : okI .u8 x) : 0 ≤ x ∧ x ≤ 255 := by
  unfold okI Lit.wf at h
  simp only [Bool.and_eq_true, decide_eq_true_eq] at h
  have h1 : IntKind.u8.min = 0 := by decide
  have h2 : IntKind.u8.max = 255 := by decide
  rw [h1, h2] at h
  exact h
theorem srcB_of {c : List Int} (h : ∀ y ∈ c, okI .u8 y) : srcB c := fun x hx => okI_u8 (h x hx)
theorem andI_255 (a : Int) : 0 ≤ andI .u64 a 255 ∧ andI .u64 a 255 ≤ 255 := by
  unfold andI
  have hle : (BitVec.ofInt IntKind.u64.bits a &&& BitVec.ofInt IntKind.u64.bits 255).toNat ≤ 255 := by
    rw [BitVec.toNat_and]
    refine Nat.le_trans Nat.and_le_right ?_
    decide
  rw [IntKind.wrap_u64]
  omega
theorem next_ok (q : Sl00Src) (hc : srcB q.code) (h0 : 0 ≤ q.at_) (h1 : q.at_ ≤ 4611686018427387904) :
    ∃ r, sh173 q = some r ∧ (0 ≤ r.1 ∧ r.1 ≤ 255) ∧ 0 ≤ r.2.1 ∧ r.2.1 ≤ q.at_ + 1 := by
  unfold sh173
  have hw : w64 (q.at_ + 1) = q.at_ + 1 := w64_id (by omega) (by omega)
  have hfin : ∀ b : Int, 0 ≤ b ∧ b ≤ 255 → ∀ s t : Int, ∃ r, (bif decide (w64 (q.at_ + 1) ≤ (q.code.length : Int)) then some (b, w64 (q.at_ + 1), s) else some (w64 (andI .u64 t 255), w64 (q.at_ + 1), s)) = some r ∧ (0 ≤ r.1 ∧ r.1 ≤ 255) ∧ 0 ≤ r.2.1 ∧ r.2.1 ≤ q.at_ + 1 := by
    intro b hb s t
    have ha := andI_255 t
    have hwa : w64 (andI .u64 t 255) = andI .u64 t 255 := w64_id (by omega) (by omega)
    rw [hw, hwa]
    cases decide (q.at_ + 1 ≤ (q.code.length : Int))
    · exact ⟨_, rfl, ha, by simp only; omega, by simp only; omega⟩
    · exact ⟨_, rfl, hb, by simp only; omega, by simp only; omega⟩
  by_cases hl : q.at_ < (q.code.length : Int)
  · have hn : q.at_.toNat < q.code.length := by omega
    have hb := hc _ (List.getElem_mem hn)
    rw [decide_eq_true hl, cond_true, getI_toNat h0 hn, bindS, w64_id (by omega) (by omega), bindS]
    exact hfin _ hb _ _
  · rw [decide_eq_false hl, cond_false, bindS]
    exact hfin 0 (by omega) _ _
theorem pick_ok (q : Sl00Src) (n : Int) (hc : srcB q.code) (h0 : 0 ≤ q.at_) (h1 : q.at_ ≤ 2305843009213693952) :
    ∃ r, sh92 q n = some r ∧ (0 ≤ r.1 ∧ (r.1 < n ∨ r.1 = 0)) ∧ 0 ≤ r.2.1 ∧ r.2.1 ≤ q.at_ + 2 := by
  unfold sh92
  by_cases hn : n ≤ 1
  · rw [decide_eq_true hn, cond_true]
    exact ⟨_, rfl, by simp, h0, by simp only; omega⟩
  · rw [decide_eq_false hn, cond_false]
    obtain ⟨x, e, b, a0, a1⟩ := next_ok q hc h0 (by omega)
    rw [e, bindS]
    have hmod : ∀ z : Int, 0 ≤ z → 0 ≤ z.tmod n ∧ z.tmod n < n := fun z hz => by
      rw [Int.tmod_eq_emod_of_nonneg hz]
      exact ⟨Int.emod_nonneg _ (by omega), Int.emod_lt_of_pos _ (by omega)⟩
    by_cases hb : 200 < n
    · obtain ⟨y, e2, b2, c0, c1⟩ := next_ok ⟨q.code, x.2.1, x.2.2⟩ hc a0 (by simp only; omega)
      rw [decide_eq_true hb, cond_true, e2, bindS, bindS, nzI_ok (by omega), bindS]
      simp only at c1
      rw [w64_id (x := x.1 * 256) (by omega) (by omega), w64_id (by omega) (by omega)]
      have := hmod (x.1 * 256 + y.1) (by omega)
      exact ⟨_, rfl, ⟨this.1, .inl this.2⟩, c0, by simp only; omega⟩
    · rw [decide_eq_false hb, cond_false, bindS, nzI_ok (by omega), bindS]
      have := hmod x.1 b.1
      exact ⟨_, rfl, ⟨this.1, .inl this.2⟩, a0, by simp only; omega⟩
theorem one_ok (q : Sl00Src) (n : Int) (hc : srcB q.code) (h0 : 0 ≤ q.at_) (h1 : q.at_ ≤ 2305843009213693952) :
    ∃ r, sh93 q n = some r ∧ 0 ≤ r.2.1 ∧ r.2.1 ≤ q.at_ + 2 := by
  unfold sh93
  obtain ⟨x, e, _, a0, a1⟩ := pick_ok q n hc h0 h1
  rw [e, bindS]
  exact ⟨_, rfl, a0, a1⟩
theorem among_ok (q : Sl00Src) (l : List Int) (hc : srcB q.code) (h0 : 0 ≤ q.at_) (h1 : q.at_ ≤ 2305843009213693952) (hl : 0 < l.length) :
    ∃ r, sh94 q l = some r ∧ r.1 ∈ l ∧ 0 ≤ r.2.1 ∧ r.2.1 ≤ q.at_ + 2 := by
  unfold sh94
  obtain ⟨x, e, b, a0, a1⟩ := pick_ok q l.length hc h0 h1
  have hx : x.1.toNat < l.length := by omega
  rw [e, bindS, getI_toNat b.1 hx, bindS]
  exact ⟨_, rfl, List.getElem_mem hx, a0, a1⟩
theorem f6big_eq (c : List Int) (h : c.length ≤ 9223372036854775807) : sh9 c = some (decide (4096 < c.length)) := by
  unfold sh9
  congr 1
  simp only [decide_eq_decide]; omega

/-! to_i64s -/

/-! eq_i64s -/

/-! mark_i64s -/
/-- The numbers that are laid into a result to see whether it is of one's own. -/
def marksFrom (m : Int) (n : Nat) : List Int := (List.range n).map fun (i : Nat) => m + (i : Int)
theorem marksFrom_length (m : Int) (n : Nat) : (marksFrom m n).length = n := by simp [marksFrom]
theorem marksFrom_get (m : Int) (n k : Nat) (h : k < n) : (marksFrom m n)[k]'(by rw [marksFrom_length]; exact h) = m + k := by simp [marksFrom]
theorem marksFrom_succ (m : Int) (k : Nat) : marksFrom m (k + 1) = marksFrom m k ++ [m + k] := by simp [marksFrom, List.range_succ]


/-! panel -/
def brkB (k : Int) : Bool := decide (0 ≤ k) && decide (k ≤ 2)
def sideB (n : Int) : Bool := decide (1 ≤ n) && decide (n ≤ 8)
def innerN (w h : Int) : Int := w64 (w64 (w * w64 (h - 1)) + w64 (h * w64 (w - 1)))
def panelB (p : SPanel) : Bool := (sideB p.W && sideB p.H) && (((p.Breaks.length : Int) == innerN p.W p.H) && p.Breaks.all brkB)
theorem l02Ok_eq (p : SPanel) (h : p.Breaks.length ≤ 1048576) : sh139 p = some (panelB p) := by
  unfold sh139 panelB
  have hi : iter (sh139_1 p) 0 = some (if p.Breaks.all brkB = true then .inl () else .inr false) := iter_all (xs := p.Breaks) (by omega) (fun k hk => by
    have h2 : (k : Int) < p.Breaks.length := by omega
    simp only [sh139_1, sh100, h2, decide_true, cond_true, getI_lt hk, bindS]
    rw [w64_id (x := (k : Int) + 1) (by omega) (by omega)]
    unfold brkB
    cases decide (0 ≤ p.Breaks[k]) && decide (p.Breaks[k] ≤ 2) <;> rfl) (by simp [sh139_1])
  simp only [sh201, sh202, sh100, bindS, hi]
  show Option.bind (bif !(sideB p.W) then some true else some !(sideB p.H)) _ = _
  cases sideB p.W
  · rfl
  · cases sideB p.H
    · rfl
    · show (bif ((p.Breaks.length : Int) != innerN p.W p.H) then _ else _) = _
      simp only [bne]
      cases ((p.Breaks.length : Int) == innerN p.W p.H)
      · rfl
      · cases p.Breaks.all brkB <;> rfl
theorem panelB_facts {p : SPanel} (h : panelB p = true) : (1 ≤ p.W ∧ p.W ≤ 8) ∧ (1 ≤ p.H ∧ p.H ≤ 8) ∧ (p.Breaks.length : Int) = p.W * (p.H - 1) + p.H * (p.W - 1) ∧ (∀ k ∈ p.Breaks, 0 ≤ k ∧ k ≤ 2) ∧ p.Breaks.length ≤ 112 := by
  unfold panelB sideB brkB innerN at h
  simp only [Bool.and_eq_true, decide_eq_true_eq, List.all_eq_true, beq_iff_eq] at h
  obtain ⟨⟨⟨hw, hw2⟩, hh, hh2⟩, hl, ha⟩ := h
  have key : ∀ w : Int, 1 ≤ w → w ≤ 8 → ∀ k : Int, 1 ≤ k → k ≤ 8 → 0 ≤ w * (k - 1) ∧ w * (k - 1) ≤ 56 := by
    intro w h1 h2 k h3 h4
    have : 0 ≤ w * (k - 1) := Int.mul_nonneg (by omega) (by omega)
    have h5 : w * (k - 1) ≤ 8 * (k - 1) := Int.mul_le_mul_of_nonneg_right h2 (by omega)
    omega
  have k1 := key p.W hw hw2 p.H hh hh2
  have k2 := key p.H hh hh2 p.W hw hw2
  rw [w64_id (x := p.H - 1) (by omega) (by omega), w64_id (x := p.W - 1) (by omega) (by omega), w64_id (x := p.W * (p.H - 1)) (by omega) (by omega), w64_id (x := p.H * (p.W - 1)) (by omega) (by omega), w64_id (by omega) (by omega)] at hl
  exact ⟨⟨hw, hw2⟩, ⟨hh, hh2⟩, hl, ha, by omega⟩
def hasB (p : SPanel) (a : SPoint) : Bool := ((decide (0 ≤ a.X) && decide (a.X ≤ w64 (2 * p.W))) && (decide (0 ≤ a.Y) && decide (a.Y ≤ w64 (2 * p.H)))) && ((w64 (a.X + a.Y)).tmod 2 == 1)
def edgeB (p : SPanel) (a : SPoint) : Bool := (((a.X == 0) || (a.Y == 0)) || (a.X == w64 (2 * p.W))) || (a.Y == w64 (2 * p.H))
theorem l02Edge_eq (p : SPanel) (a : SPoint) : sh188 p a = some (edgeB p a) := rfl
def codeOf (p : SPanel) (a : SPoint) : Int := bif !panelB p then 1 else bif !hasB p a then 2 else bif edgeB p a then 6 else 0
theorem codeOf_cases (p : SPanel) (a : SPoint) : codeOf p a = 1 ∨ codeOf p a = 2 ∨ codeOf p a = 6 ∨ codeOf p a = 0 := by
  unfold codeOf
  cases panelB p <;> cases hasB p a <;> cases edgeB p a <;> simp

/-! walkers -/
/-- A walker that fits into a panel. -/
def okW (p : SPanel) (w : SWalker) : Prop := (w.DX = 1 ∨ w.DX = -1) ∧ (w.DY = 1 ∨ w.DY = -1) ∧ (0 ≤ w.At.X ∧ w.At.X ≤ 2 * p.W) ∧ (0 ≤ w.At.Y ∧ w.At.Y ≤ 2 * p.H) ∧ (w.At.X + w.At.Y) % 2 = 1 ∧ (0 ≤ w.At.X + w.DX ∧ w.At.X + w.DX ≤ 2 * p.W) ∧ (0 ≤ w.At.Y + w.DY ∧ w.At.Y + w.DY ≤ 2 * p.H)
structure Dim (p : SPanel) : Prop where
  w1 : 1 ≤ p.W
  w2 : p.W ≤ 8
  h1 : 1 ≤ p.H
  h2 : p.H ≤ 8
  bl : (p.Breaks.length : Int) = p.W * (p.H - 1) + p.H * (p.W - 1)
theorem dim_of {p : SPanel} (h : panelB p = true) : Dim p := let ⟨h1, h2, h3, _⟩ := panelB_facts h; ⟨h1.1, h1.2, h2.1, h2.2, h3⟩
theorem eight {n : Int} (h1 : 1 ≤ n) (h2 : n ≤ 8) : n = 1 ∨ n = 2 ∨ n = 3 ∨ n = 4 ∨ n = 5 ∨ n = 6 ∨ n = 7 ∨ n = 8 := by omega
def numF (p : SPanel) (x y : Int) : Int := (y - 1) * p.W - y / 2 + (x - 1) / 2
def brkF (p : SPanel) (x y : Int) : Int := if x = 0 ∨ x = 2 * p.W ∨ y = 0 ∨ y = 2 * p.H then 0 else p.Breaks.getD (numF p x y).toNat 0
def stp (p : SPanel) (w : SWalker) : SWalker := ⟨⟨w.At.X + w.DX, w.At.Y + w.DY⟩, if w.At.X + w.DX = 0 ∨ w.At.X + w.DX = 2 * p.W ∨ brkF p (w.At.X + w.DX) (w.At.Y + w.DY) = 1 then 0 - w.DX else w.DX, if w.At.Y + w.DY = 0 ∨ w.At.Y + w.DY = 2 * p.H ∨ brkF p (w.At.X + w.DX) (w.At.Y + w.DY) = 2 then 0 - w.DY else w.DY⟩
def bck (w : SWalker) : SWalker := ⟨⟨w.At.X + w.DX, w.At.Y + w.DY⟩, 0 - w.DX, 0 - w.DY⟩
def sgF (p : SPanel) (w : SWalker) : Int := (if w.DX = 1 then w.At.X else w.At.X - 1) * (2 * p.H) + (if w.DY = 1 then w.At.Y else w.At.Y - 1)
theorem brk_edge {p : SPanel} {x y : Int} (h : x = 0 ∨ x = 2 * p.W ∨ y = 0 ∨ y = 2 * p.H) : brkF p x y = 0 := if_pos h
theorem stp_ok {p : SPanel} {w : SWalker} (hd : Dim p) (h : okW p w) : okW p (stp p w) := by
  obtain ⟨w1, w2, h1, h2, bl⟩ := hd
  clear bl
  obtain ⟨⟨X, Y⟩, DX, DY⟩ := w
  obtain ⟨a1, a2, ⟨a3, a4⟩, ⟨a5, a6⟩, a7, ⟨a8, a9⟩, a10, a11⟩ := h
  simp only at a1 a2 a3 a4 a5 a6 a7 a8 a9 a10 a11
  unfold okW stp
  simp only
  generalize brkF p (X + DX) (Y + DY) = k
  rcases a1 with rfl | rfl <;> rcases a2 with rfl | rfl <;> (refine ⟨?_, ?_, ⟨?_, ?_⟩, ⟨?_, ?_⟩, ?_, ⟨?_, ?_⟩, ⟨?_, ?_⟩⟩ <;> (try split) <;> omega)
theorem bck_ok {p : SPanel} {w : SWalker} (h : okW p w) : okW p (bck w) := by
  obtain ⟨⟨X, Y⟩, DX, DY⟩ := w
  obtain ⟨a1, a2, ⟨a3, a4⟩, ⟨a5, a6⟩, a7, ⟨a8, a9⟩, a10, a11⟩ := h
  simp only at a1 a2 a3 a4 a5 a6 a7 a8 a9 a10 a11
  unfold okW bck
  simp only
  rcases a1 with rfl | rfl <;> rcases a2 with rfl | rfl <;> (refine ⟨?_, ?_, ⟨?_, ?_⟩, ⟨?_, ?_⟩, ?_, ⟨?_, ?_⟩, ⟨?_, ?_⟩⟩ <;> omega)
theorem walker_ext {a b : SWalker} (h1 : a.At.X = b.At.X) (h2 : a.At.Y = b.At.Y) (h3 : a.DX = b.DX) (h4 : a.DY = b.DY) : a = b := by
  obtain ⟨⟨ax, ay⟩, ad, ae⟩ := a
  obtain ⟨⟨bx, by'⟩, bd, be⟩ := b
  simp only at h1 h2 h3 h4
  subst h1; subst h2; subst h3; subst h4
  rfl
theorem bck_bck (w : SWalker) : bck (bck w) = w := by
  apply walker_ext <;> simp only [bck] <;> omega
theorem stp_back (p : SPanel) (w : SWalker) : stp p (bck (stp p w)) = bck w := by
  have e : ∀ a d : Int, a + d + (0 - d) = a := fun a d => by omega
  have hx : (bck (stp p w)).At.X + (bck (stp p w)).DX = w.At.X + w.DX := by simp only [bck, stp]; omega
  have hy : (bck (stp p w)).At.Y + (bck (stp p w)).DY = w.At.Y + w.DY := by simp only [bck, stp]; omega
  apply walker_ext
  · exact hx
  · exact hy
  · show (if (bck (stp p w)).At.X + (bck (stp p w)).DX = 0 ∨ (bck (stp p w)).At.X + (bck (stp p w)).DX = 2 * p.W ∨ brkF p ((bck (stp p w)).At.X + (bck (stp p w)).DX) ((bck (stp p w)).At.Y + (bck (stp p w)).DY) = 1 then 0 - (bck (stp p w)).DX else (bck (stp p w)).DX) = 0 - w.DX
    rw [hx, hy]
    simp only [bck, stp]
    split <;> omega
  · show (if (bck (stp p w)).At.Y + (bck (stp p w)).DY = 0 ∨ (bck (stp p w)).At.Y + (bck (stp p w)).DY = 2 * p.H ∨ brkF p ((bck (stp p w)).At.X + (bck (stp p w)).DX) ((bck (stp p w)).At.Y + (bck (stp p w)).DY) = 2 then 0 - (bck (stp p w)).DY else (bck (stp p w)).DY) = 0 - w.DY
    rw [hx, hy]
    simp only [bck, stp]
    split <;> omega
theorem stp_inj {p : SPanel} {a b : SWalker} (h : stp p a = stp p b) : a = b := by
  have h1 := stp_back p a
  rw [h, stp_back p b] at h1
  rw [← bck_bck a, ← h1, bck_bck]
theorem bck_ne {p : SPanel} {w : SWalker} (h : okW p w) : bck w ≠ w := by
  intro e
  have := congrArg (fun w : SWalker => w.At.X) e
  simp only [bck] at this
  rcases h.1 with a | a <;> omega
theorem stp_ne_bck {p : SPanel} {w : SWalker} (h : okW p w) : stp p w ≠ bck w := by
  intro e
  have e1 := congrArg (fun w : SWalker => w.DX) e
  have e2 := congrArg (fun w : SWalker => w.DY) e
  obtain ⟨⟨X, Y⟩, DX, DY⟩ := w
  obtain ⟨a1, a2, ⟨a3, a4⟩, ⟨a5, a6⟩, a7, ⟨a8, a9⟩, a10, a11⟩ := h
  simp only [bck, stp] at e1 e2 a1 a2 a3 a4 a5 a6 a7 a8 a9 a10 a11
  have hk : X + DX = 0 ∨ X + DX = 2 * p.W ∨ Y + DY = 0 ∨ Y + DY = 2 * p.H → brkF p (X + DX) (Y + DY) = 0 := brk_edge
  generalize brkF p (X + DX) (Y + DY) = k at e1 e2 hk
  rcases a1 with rfl | rfl <;> rcases a2 with rfl | rfl <;> split at e1 <;> split at e2 <;> omega
theorem sg_bck {p : SPanel} {w : SWalker} (h : okW p w) : sgF p (bck w) = sgF p w := by
  obtain ⟨⟨X, Y⟩, DX, DY⟩ := w
  obtain ⟨a1, a2, _⟩ := h
  simp only at a1 a2
  have ex : (if (0 : Int) - DX = 1 then X + DX else X + DX - 1) = (if DX = 1 then X else X - 1) := by rcases a1 with rfl | rfl <;> split <;> (try split) <;> omega
  have ey : (if (0 : Int) - DY = 1 then Y + DY else Y + DY - 1) = (if DY = 1 then Y else Y - 1) := by rcases a2 with rfl | rfl <;> split <;> (try split) <;> omega
  unfold sgF bck
  simp only
  rw [ex, ey]
theorem sg_bd {p : SPanel} {w : SWalker} (hd : Dim p) (h : okW p w) : 0 ≤ sgF p w ∧ sgF p w < 4 * p.W * p.H := by
  obtain ⟨w1, w2, h1, h2, bl⟩ := hd
  clear bl
  obtain ⟨a1, a2, ⟨a3, a4⟩, ⟨a5, a6⟩, a7, ⟨a8, a9⟩, a10, a11⟩ := h
  unfold sgF
  have key : ∀ a b : Int, 0 ≤ a → a + 1 ≤ 2 * p.W → 0 ≤ b → b + 1 ≤ 2 * p.H → 0 ≤ a * (2 * p.H) + b ∧ a * (2 * p.H) + b < 4 * p.W * p.H := by
    intro a b ha hb hc hd
    clear a1 a2 a3 a4 a5 a6 a7 a8 a9 a10 a11
    generalize p.H = H at *
    generalize p.W = W at *
    rcases eight h1 h2 with e | e | e | e | e | e | e | e <;> subst e <;> omega
  refine key _ _ ?_ ?_ ?_ ?_ <;> split <;> omega
theorem sg_same {p : SPanel} {v w : SWalker} (hd : Dim p) (hv : okW p v) (hw : okW p w) (h : sgF p v = sgF p w) : v = w ∨ v = bck w := by
  obtain ⟨w1, w2, h1, h2, bl⟩ := hd
  clear bl
  obtain ⟨a1, a2, ⟨a3, a4⟩, ⟨a5, a6⟩, a7, ⟨a8, a9⟩, a10, a11⟩ := hv
  obtain ⟨b1, b2, ⟨b3, b4⟩, ⟨b5, b6⟩, b7, ⟨b8, b9⟩, b10, b11⟩ := hw
  have key : ∀ a b c d : Int, 0 ≤ b → b + 1 ≤ 2 * p.H → 0 ≤ d → d + 1 ≤ 2 * p.H → a * (2 * p.H) + b = c * (2 * p.H) + d → a = c ∧ b = d := by
    intro a b c d hb hb2 hd hd2 he
    clear a1 a2 a3 a4 a5 a6 a7 a8 a9 a10 a11 b1 b2 b3 b4 b5 b6 b7 b8 b9 b10 b11 h
    generalize p.H = H at *
    rcases eight h1 h2 with e | e | e | e | e | e | e | e <;> subst e <;> omega
  unfold sgF at h
  obtain ⟨e1, e2⟩ := key _ _ _ _ (by split <;> omega) (by split <;> omega) (by split <;> omega) (by split <;> omega) h
  obtain ⟨⟨VX, VY⟩, VD, VE⟩ := v
  obtain ⟨⟨X, Y⟩, DX, DY⟩ := w
  simp only at a1 a2 a3 a4 a5 a6 a7 a8 a9 a10 a11 b1 b2 b3 b4 b5 b6 b7 b8 b9 b10 b11 e1 e2
  clear h h1 h2 w1 w2 key a3 a4 a5 a6 a8 a9 a10 a11 b3 b4 b5 b6 b8 b9 b10 b11
  rcases a1 with rfl | rfl <;> rcases b1 with rfl | rfl <;> rcases a2 with rfl | rfl <;> rcases b2 with rfl | rfl <;> simp only [show ¬ ((-1 : Int) = 1) by omega, if_true, if_false] at e1 e2 <;>
    first
    | (exfalso; omega)
    | (left; apply walker_ext <;> simp only <;> omega)
    | (right; apply walker_ext <;> simp only [bck] <;> omega)
/-- The walker of a segment. -/
def wlk (p : SPanel) (k : Int) : SWalker := if (k / (2 * p.H) + k % (2 * p.H)) % 2 = 1 then ⟨⟨k / (2 * p.H), k % (2 * p.H)⟩, 1, 1⟩ else ⟨⟨k / (2 * p.H), k % (2 * p.H) + 1⟩, 1, -1⟩
theorem wlk_ok {p : SPanel} (hd : Dim p) {k : Int} (h0 : 0 ≤ k) (h1 : k < 4 * p.W * p.H) : okW p (wlk p k) ∧ sgF p (wlk p k) = k := by
  obtain ⟨w1, w2, g1, g2, bl⟩ := hd
  clear bl
  have e1 : 0 ≤ k / (2 * p.H) ∧ k / (2 * p.H) + 1 ≤ 2 * p.W ∧ 0 ≤ k % (2 * p.H) ∧ k % (2 * p.H) + 1 ≤ 2 * p.H ∧ k / (2 * p.H) * (2 * p.H) + k % (2 * p.H) = k := by
    generalize p.H = H at *
    generalize p.W = W at *
    rcases eight g1 g2 with e | e | e | e | e | e | e | e <;> subst e <;> omega
  obtain ⟨e1, e2, e3, e4, e5⟩ := e1
  unfold wlk
  generalize k / (2 * p.H) = a at *
  generalize k % (2 * p.H) = b at *
  split
  · refine ⟨⟨.inl rfl, .inl rfl, ⟨?_, ?_⟩, ⟨?_, ?_⟩, ?_, ⟨?_, ?_⟩, ⟨?_, ?_⟩⟩, ?_⟩ <;> simp only [sgF, if_true] <;> omega
  · refine ⟨⟨.inl rfl, .inr rfl, ⟨?_, ?_⟩, ⟨?_, ?_⟩, ?_, ⟨?_, ?_⟩, ⟨?_, ?_⟩⟩, ?_⟩ <;> simp only [sgF, if_true, show ¬ ((-1 : Int) = 1) by omega, if_false] <;> omega

/-! draw02 -/
theorem l02New_ok (w h : Int) (hw : 1 ≤ w ∧ w ≤ 8) (hh : 1 ≤ h ∧ h ≤ 8) : ∃ r, sh184 w h = some r ∧ r.W = w ∧ r.H = h ∧ (∀ x ∈ r.Breaks, x = 0) ∧ panelB r = true := by
  unfold sh184 sh202
  have hb1 : 0 ≤ w * (h - 1) ∧ w * (h - 1) ≤ 56 := by
    have h1 : 0 ≤ w * (h - 1) := Int.mul_nonneg (by omega) (by omega)
    have h2 : w * (h - 1) ≤ 8 * (h - 1) := Int.mul_le_mul_of_nonneg_right (by omega) (by omega)
    omega
  have hb2 : 0 ≤ h * (w - 1) ∧ h * (w - 1) ≤ 56 := by
    have h1 : 0 ≤ h * (w - 1) := Int.mul_nonneg (by omega) (by omega)
    have h2 : h * (w - 1) ≤ 8 * (w - 1) := Int.mul_le_mul_of_nonneg_right (by omega) (by omega)
    omega
  have e : w64 (w64 (w * w64 (h - 1)) + w64 (h * w64 (w - 1))) = ((w * (h - 1) + h * (w - 1)).toNat : Int) := by
    rw [w64_id (x := h - 1) (by omega) (by omega), w64_id (x := w - 1) (by omega) (by omega), w64_id (x := w * (h - 1)) (by omega) (by omega), w64_id (x := h * (w - 1)) (by omega) (by omega), w64_id (by omega) (by omega)]
    omega
  simp only [bindS]
  rw [e, mkL_ok (by omega), bindS]
  refine ⟨_, rfl, rfl, rfl, fun x hx => List.eq_of_mem_replicate hx, ?_⟩
  unfold panelB
  simp only [List.length_replicate, Bool.and_eq_true, beq_iff_eq, List.all_eq_true]
  refine ⟨⟨?_, ?_⟩, ?_, fun x hx => ?_⟩
  · unfold sideB; simp [hw.1, hw.2]
  · unfold sideB; simp [hh.1, hh.2]
  · unfold innerN; rw [e]
  · rw [List.eq_of_mem_replicate hx]; rfl
theorem panelB_of {w h : Int} {b b' : List Int} (hp : panelB ⟨w, h, b⟩ = true) (hl : b'.length = b.length) (hx : ∀ x ∈ b', 0 ≤ x ∧ x ≤ 2) : panelB ⟨w, h, b'⟩ = true := by
  unfold panelB at hp ⊢
  simp only [Bool.and_eq_true, List.all_eq_true, hl] at hp ⊢
  refine ⟨hp.1, hp.2.1, fun x hm => ?_⟩
  unfold brkB; simp [(hx x hm).1, (hx x hm).2]
theorem draw02_ok (q : Sl00Src) (n : Int) (hn : 1 ≤ n ∧ n ≤ 8) (hc : srcB q.code) (h0 : 0 ≤ q.at_) (h1 : q.at_ ≤ 1099511627776) :
    ∃ r, sh183 q n = some r ∧ panelB r.1 = true ∧ (r.1.W ≤ n ∧ r.1.H ≤ n) ∧ 0 ≤ r.2.1 ∧ r.2.1 ≤ q.at_ + 1000 := by
  unfold sh183
  obtain ⟨x3, e3, b3, a3, c3⟩ := pick_ok q n hc h0 (by omega)
  rw [e3, bindS]
  obtain ⟨x4, e4, b4, a4, c4⟩ := pick_ok ⟨q.code, x3.2.1, x3.2.2⟩ n hc a3 (by simp only; omega)
  rw [e4, bindS, w64_id (x := 1 + x3.1) (by omega) (by omega), w64_id (x := 1 + x4.1) (by omega) (by omega)]
  simp only at c4
  obtain ⟨x5, e5, w5, h5, z5, p5⟩ := l02New_ok (1 + x3.1) (1 + x4.1) ⟨by omega, by omega⟩ ⟨by omega, by omega⟩
  rw [e5, bindS]
  obtain ⟨x11, e11, b11, a11, c11⟩ := pick_ok ⟨q.code, x4.2.1, x4.2.2⟩ 4 hc a4 (by simp only; omega)
  rw [e11, bindS]
  simp only at c11
  have hbl : x5.Breaks.length ≤ 112 := (panelB_facts p5).2.2.2.2
  have hi := iter_inv (sb := sh183_1 q x5 x11) (s0 := (0, (x11.2.1, x11.2.2), x5.Breaks)) (fun s => 0 ≤ s.1 ∧ s.1 ≤ x5.Breaks.length ∧ s.2.2.length = x5.Breaks.length ∧ (∀ x ∈ s.2.2, 0 ≤ x ∧ x ≤ 2) ∧ 0 ≤ s.2.1.1 ∧ s.2.1.1 ≤ q.at_ + 6 + 4 * s.1) (fun s => ((x5.Breaks.length : Int) - s.1).toNat)
    (fun s => s.2.length = x5.Breaks.length ∧ (∀ x ∈ s.2, 0 ≤ x ∧ x ≤ 2) ∧ 0 ≤ s.1.1 ∧ s.1.1 ≤ q.at_ + 600) ⟨by simp, by simp, rfl, fun x hx => by rw [z5 x hx]; omega, a11, by simp only; omega⟩ (by simp only; omega) (by
    rintro ⟨k, ⟨a, sd⟩, l⟩ ⟨i1, i2, i3, i4, i5, i6⟩
    simp only at i1 i2 i3 i4 i5 i6
    by_cases hk : k < x5.Breaks.length
    · left
      have hkd : k < ((x5.Breaks.length : Nat) : Int) := hk
      simp only [sh183_1, hkd, decide_true, cond_true]
      obtain ⟨y, g, n1, m, n2⟩ := pick_ok ⟨q.code, a, sd⟩ 4 hc i5 (by simp only; omega)
      simp only at n2
      rw [g, bindS]
      by_cases hlt : y.1 < x11.1
      · obtain ⟨y2, g2, n3, m2, n4⟩ := pick_ok ⟨q.code, y.2.1, y.2.2⟩ 2 hc m (by simp only; omega)
        simp only at n4
        rw [decide_eq_true hlt, cond_true, g2, bindS, getI_toNat i1 (by omega), bindS, bindS, w64_id (x := k + 1) (by omega) (by omega), w64_id (x := 1 + y2.1) (by omega) (by omega)]
        refine ⟨_, rfl, ⟨by simp only; omega, by simp only; omega, by simp only [List.length_set]; omega, fun x hx => ?_, m2, by simp only; omega⟩, by simp only; omega⟩
        rcases List.mem_or_eq_of_mem_set hx with h | h
        · exact i4 x h
        · rw [h]; omega
      · rw [decide_eq_false hlt, cond_false, bindS, w64_id (x := k + 1) (by omega) (by omega)]
        exact ⟨_, rfl, ⟨by simp only; omega, by simp only; omega, i3, i4, m, by simp only; omega⟩, by simp only; omega⟩
    · right
      have hkd : ¬ k < ((x5.Breaks.length : Nat) : Int) := hk
      simp only [sh183_1, hkd, decide_false, cond_false]
      exact ⟨_, rfl, i3, i4, i5, by simp only; omega⟩)
  obtain ⟨b, hb, d1, d2, d3, d4⟩ := hi
  rw [hb, bindS]
  refine ⟨_, rfl, panelB_of (b := x5.Breaks) (by exact p5) d1 d2, ⟨by simp only [w5]; omega, by simp only [h5]; omega⟩, d3, by simp only; omega⟩

/-! max -/
theorem l00Max_eq (a b : Int) : sh182 a b = some (mx a b) := by
  unfold sh182
  rw [← mx_comm']
  by_cases h : b < a <;> simp [h]

/-! draw19 -/
def i64R (x : Int) : Prop := -9223372036854775808 ≤ x ∧ x ≤ 9223372036854775807
def ptR (p : SPoint) : Prop := i64R p.X ∧ i64R p.Y
theorem i64R_w64 (x : Int) : i64R (w64 x) := ⟨w64_lo x, w64_hi x⟩
theorem i64R_mx {a b : Int} (ha : i64R a) (hb : i64R b) : i64R (mx a b) := by
  unfold mx
  split
  · exact hb
  · exact ha
theorem i64R_small {x : Int} (h1 : -1000000 ≤ x) (h2 : x ≤ 1000000) : i64R x := ⟨by omega, by omega⟩
theorem ptR_set {l : List SPoint} {k : Nat} {p : SPoint} (hl : ∀ x ∈ l, ptR x) (hp : ptR p) : ∀ x ∈ l.set k p, ptR x := fun x hx => by
  rcases List.mem_or_eq_of_mem_set hx with h | h
  · exact hl x h
  · rw [h]; exact hp

/-! dist -/
def dst (a b : Int) : Int := mx (w64 (a - b)) (w64 (b - a))
theorem l10Away_eq (a b : Int) : sh114 a b = some (dst a b) := by
  unfold sh114
  rw [l00Max_eq]; rfl
theorem distance_eq (a b : Int) : sh204 a b = some (dst a b) := rfl

/-! steps -/
theorem ok_small {p : SPanel} {w : SWalker} (hd : Dim p) (h : okW p w) : (0 ≤ w.At.X ∧ w.At.X ≤ 16) ∧ (0 ≤ w.At.Y ∧ w.At.Y ≤ 16) ∧ (0 ≤ w.At.X + w.DX ∧ w.At.X + w.DX ≤ 16) ∧ (0 ≤ w.At.Y + w.DY ∧ w.At.Y + w.DY ≤ 16) := by
  obtain ⟨w1, w2, h1, h2, bl⟩ := hd
  clear bl
  obtain ⟨a1, a2, ⟨a3, a4⟩, ⟨a5, a6⟩, a7, ⟨a8, a9⟩, a10, a11⟩ := h
  omega
theorem l03Next_eq {p : SPanel} {w : SWalker} (hd : Dim p) (h : okW p w) : sh216 w = some ⟨w.At.X + w.DX, w.At.Y + w.DY⟩ := by
  obtain ⟨b1, b2, b3, b4⟩ := ok_small hd h
  unfold sh216
  rw [w64_id (by omega) (by omega), w64_id (by omega) (by omega)]
theorem mul_small {a H : Int} (h1 : 1 ≤ H) (h2 : H ≤ 8) (ha : 0 ≤ a) (ha2 : a ≤ 40) : 0 ≤ a * H ∧ a * H ≤ 320 := by
  rcases eight h1 h2 with e | e | e | e | e | e | e | e <;> subst e <;> omega
theorem seg_spec {p : SPanel} {w : SWalker} (hd : Dim p) (h : okW p w) : sh214 p w = some (sgF p w) := by
  obtain ⟨b1, b2, b3, b4⟩ := ok_small hd h
  have hn := l03Next_eq hd h
  unfold sh214 sh217
  rw [hn, bindS]
  unfold sgF
  rcases h.1 with a | a <;> rcases h.2.1 with b | b
  · rw [a, b]
    simp only [beq_self_eq_true, cond_true, bindS, if_true]
    have hm := mul_small (a := w.At.X * 2) hd.h1 hd.h2 (by omega) (by omega)
    rw [decide_eq_true (by omega), cond_true, bindS, w64_id (x := w.At.X * 2) (by omega) (by omega), w64_id (x := w.At.X * 2 * p.H) (by omega) (by omega), w64_id (x := w.At.X * 2 * p.H + w.At.Y) (by omega) (by omega), w64_id (x := w.At.X * 2 * p.H + w.At.Y - 1) (by omega) (by omega), w64_id (by omega) (by omega), Int.mul_assoc]
    congr 1; omega
  · rw [b] at b4
    rw [a, b]
    simp only [beq_self_eq_true, cond_true, bindS, if_true, show ¬ ((-1 : Int) = 1) by omega, if_false]
    have hm := mul_small (a := w.At.X * 2) hd.h1 hd.h2 (by omega) (by omega)
    rw [decide_eq_false (by omega), cond_false, bindS, w64_id (x := w.At.X * 2) (by omega) (by omega), w64_id (x := w.At.X * 2 * p.H) (by omega) (by omega), w64_id (x := w.At.X * 2 * p.H + w.At.Y) (by omega) (by omega), w64_id (by omega) (by omega), Int.mul_assoc]
    congr 1; omega
  · rw [a] at b3
    rw [a, b]
    simp only [show ((-1 : Int) == 1) = false from rfl, cond_false, bindS, if_true, show ¬ ((-1 : Int) = 1) by omega, if_false]
    have hm := mul_small (a := (w.At.X + -1) * 2) hd.h1 hd.h2 (by omega) (by omega)
    rw [decide_eq_false (by omega), cond_false, bindS, w64_id (x := (w.At.X + -1) * 2) (by omega) (by omega), w64_id (x := (w.At.X + -1) * 2 * p.H) (by omega) (by omega), w64_id (x := (w.At.X + -1) * 2 * p.H + (w.At.Y + 1)) (by omega) (by omega), w64_id (by omega) (by omega), Int.mul_assoc, show w.At.X + -1 = w.At.X - 1 by omega]
    congr 1; omega
  · rw [a] at b3
    rw [b] at b4
    rw [a, b]
    simp only [show ((-1 : Int) == 1) = false from rfl, cond_false, bindS, show ¬ ((-1 : Int) = 1) by omega, if_false]
    have hm := mul_small (a := (w.At.X + -1) * 2) hd.h1 hd.h2 (by omega) (by omega)
    rw [decide_eq_true (by omega), cond_true, bindS, w64_id (x := (w.At.X + -1) * 2) (by omega) (by omega), w64_id (x := (w.At.X + -1) * 2 * p.H) (by omega) (by omega), w64_id (x := (w.At.X + -1) * 2 * p.H + (w.At.Y + -1)) (by omega) (by omega), w64_id (x := (w.At.X + -1) * 2 * p.H + (w.At.Y + -1) - 1) (by omega) (by omega), w64_id (by omega) (by omega), Int.mul_assoc, show w.At.X + -1 = w.At.X - 1 by omega]
    congr 1; omega
/-- An inner point. -/
def inr (p : SPanel) (x y : Int) : Prop := (1 ≤ x ∧ x ≤ 2 * p.W - 1) ∧ (1 ≤ y ∧ y ≤ 2 * p.H - 1) ∧ (x + y) % 2 = 1
theorem num_bd {p : SPanel} (hd : Dim p) {x y : Int} (h : inr p x y) : 0 ≤ numF p x y ∧ numF p x y < p.Breaks.length := by
  obtain ⟨w1, w2, h1, h2, bl⟩ := hd
  obtain ⟨⟨a1, a2⟩, ⟨a3, a4⟩, a5⟩ := h
  rw [bl]
  unfold numF
  clear bl
  generalize p.W = W at *
  generalize p.H = H at *
  rcases eight w1 w2 with e | e | e | e | e | e | e | e <;> subst e <;> constructor <;> omega
theorem row_spec {p : SPanel} (hd : Dim p) {y : Int} (h0 : 1 ≤ y) (h1 : y ≤ 16) : sh203 p y = some ((y - 1) * p.W - y / 2) := by
  obtain ⟨w1, w2, _, _, bl⟩ := hd
  clear bl
  unfold sh203
  obtain ⟨n, hn⟩ : ∃ n : Nat, y = n + 1 := ⟨(y - 1).toNat, by omega⟩
  have hi := iter_steps (sb := sh203_1 p y) (fun k => ((k : Int) * p.W - ((k : Int) + 1) / 2, (k : Int) + 1)) n (x := (y - 1) * p.W - y / 2) (by omega) (fun k hk => ?_) ?_
  · simp only [Int.natCast_zero, Int.zero_mul] at hi
    rw [show (0 : Int) - (0 + 1) / 2 = 0 by omega, show (0 : Int) + 1 = 1 by omega] at hi
    rw [hi, bindS]
  · have h2 : (k : Int) + 1 < y := by omega
    have hm : 0 ≤ (k : Int) * p.W ∧ (k : Int) * p.W ≤ 320 := by have := mul_small (a := (k : Int)) w1 w2 (by omega) (by omega); exact this
    have e6 : ((k : Int) + 1).tmod 2 = ((k : Int) + 1) % 2 := Int.tmod_eq_emod_of_nonneg (by omega)
    have hms : ((k + 1 : Nat) : Int) * p.W = (k : Int) * p.W + p.W := by rw [Int.natCast_add, Int.add_mul]; simp
    simp only [sh203_1, h2, decide_true, cond_true, e6]
    rw [hms]
    generalize (k : Int) * p.W = m at *
    rw [w64_id (x := m - ((k : Int) + 1) / 2 + p.W) (by omega) (by omega), w64_id (x := (k : Int) + 1 + 1) (by omega) (by omega), w64_id (x := m - ((k : Int) + 1) / 2 + p.W - 1) (by omega) (by omega)]
    by_cases hy : ((k : Int) + 1) % 2 = 1
    · rw [beq_iff_eq.2 hy, cond_true, bindS]
      simp only [Option.some.injEq, Sum.inl.injEq, Prod.mk.injEq]
      refine ⟨by omega, by omega⟩
    · rw [beq_eq_false_iff_ne.2 hy, cond_false, bindS]
      simp only [Option.some.injEq, Sum.inl.injEq, Prod.mk.injEq]
      refine ⟨by omega, by omega⟩
  · have hd : decide ((n : Int) + 1 < y) = false := decide_eq_false (by omega)
    simp only [sh203_1, hd, cond_false]
    rw [hn, show (n : Int) + 1 - 1 = (n : Int) by omega]
theorem number_spec {p : SPanel} (hd : Dim p) {x y : Int} (h : inr p x y) : sh141 p ⟨x, y⟩ = some (numF p x y) := by
  have hb := num_bd hd h
  have hd' := hd
  obtain ⟨w1, w2, h1, h2, bl⟩ := hd
  obtain ⟨⟨a1, a2⟩, ⟨a3, a4⟩, a5⟩ := h
  unfold sh141
  rw [show (SPoint.mk x y).Y = y from rfl, show (SPoint.mk x y).X = x from rfl, row_spec hd' (by omega) (by omega), bindS, w64_id (x := x - 1) (by omega) (by omega), Int.tdiv_eq_ediv_of_nonneg (by omega), w64_id (x := (x - 1) / 2) (by omega) (by omega)]
  have hm := mul_small (a := y - 1) w1 w2 (by omega) (by omega)
  unfold numF
  rw [w64_id (by omega) (by omega)]
theorem inner_of {p : SPanel} {w : SWalker} (h : okW p w) (he : ¬ (w.At.X + w.DX = 0 ∨ w.At.X + w.DX = 2 * p.W ∨ w.At.Y + w.DY = 0 ∨ w.At.Y + w.DY = 2 * p.H)) : inr p (w.At.X + w.DX) (w.At.Y + w.DY) := by
  obtain ⟨a1, a2, ⟨a3, a4⟩, ⟨a5, a6⟩, a7, ⟨a8, a9⟩, a10, a11⟩ := h
  refine ⟨⟨by omega, by omega⟩, ⟨by omega, by omega⟩, ?_⟩
  rcases a1 with a1 | a1 <;> rcases a2 with a2 | a2 <;> omega
theorem beq_dec (a b : Int) : (a == b) = decide (a = b) := by
  by_cases h : a = b
  · subst h; simp
  · rw [beq_eq_false_iff_ne.2 h, decide_eq_false h]
theorem ite_flip {c : Prop} [Decidable c] {α : Type} {a b : α} : (bif decide c then some a else some b) = some (if c then a else b) := by
  by_cases h : c <;> simp [h]
theorem step_spec {p : SPanel} {w : SWalker} (hd : Dim p) (h : okW p w) : sh213 p w = some (stp p w) := by
  obtain ⟨b1, b2, b3, b4⟩ := ok_small hd h
  have hwW : w64 (2 * p.W) = 2 * p.W := by have := hd.w1; have := hd.w2; exact w64_id (by omega) (by omega)
  have hwH : w64 (2 * p.H) = 2 * p.H := by have := hd.h1; have := hd.h2; exact w64_id (by omega) (by omega)
  have hdx : w64 (0 - w.DX) = 0 - w.DX := by rcases h.1 with a | a <;> rw [a] <;> exact w64_id (by omega) (by omega)
  have hdy : w64 (0 - w.DY) = 0 - w.DY := by rcases h.2.1 with a | a <;> rw [a] <;> exact w64_id (by omega) (by omega)
  unfold sh213 sh188
  rw [l03Next_eq hd h, bindS]
  simp only [hwW, hwH, bindS, beq_dec, hdx]
  by_cases he : w.At.X + w.DX = 0 ∨ w.At.X + w.DX = 2 * p.W ∨ w.At.Y + w.DY = 0 ∨ w.At.Y + w.DY = 2 * p.H
  · have e0 : (((decide (w.At.X + w.DX = 0) || decide (w.At.Y + w.DY = 0)) || decide (w.At.X + w.DX = 2 * p.W)) || decide (w.At.Y + w.DY = 2 * p.H)) = true := by
      simp only [Bool.or_eq_true, decide_eq_true_eq]; rcases he with h | h | h | h <;> simp [h]
    have hk := brk_edge he
    simp only [e0, Bool.not_true, cond_false, bindS, stp, hk]
    have c1 : (decide (w.At.X + w.DX = 0) || decide (w.At.X + w.DX = 2 * p.W)) = decide (w.At.X + w.DX = 0 ∨ w.At.X + w.DX = 2 * p.W ∨ (0 : Int) = 1) := by simp
    have c2 : (decide (w.At.Y + w.DY = 0) || decide (w.At.Y + w.DY = 2 * p.H)) = decide (w.At.Y + w.DY = 0 ∨ w.At.Y + w.DY = 2 * p.H ∨ (0 : Int) = 2) := by simp
    rw [c1, c2]
    by_cases d1 : w.At.X + w.DX = 0 ∨ w.At.X + w.DX = 2 * p.W ∨ (0 : Int) = 1 <;> by_cases d2 : w.At.Y + w.DY = 0 ∨ w.At.Y + w.DY = 2 * p.H ∨ (0 : Int) = 2
    · rw [decide_eq_true d1, decide_eq_true d2, if_pos d1, if_pos d2, cond_true, bindS, cond_true, bindS]
      simp only [hdy]
    · rw [decide_eq_true d1, decide_eq_false d2, if_pos d1, if_neg d2, cond_true, bindS, cond_false, bindS]
    · rw [decide_eq_false d1, decide_eq_true d2, if_neg d1, if_pos d2, cond_false, bindS, cond_true, bindS]
      simp only [hdy]
    · rw [decide_eq_false d1, decide_eq_false d2, if_neg d1, if_neg d2, cond_false, bindS, cond_false, bindS]
  · have hin := inner_of h he
    have hb := num_bd hd hin
    have hl : (numF p (w.At.X + w.DX) (w.At.Y + w.DY)).toNat < p.Breaks.length := by omega
    have hg : getI p.Breaks (numF p (w.At.X + w.DX) (w.At.Y + w.DY)) = some (brkF p (w.At.X + w.DX) (w.At.Y + w.DY)) := by
      rw [getI_toNat hb.1 hl]
      unfold brkF
      rw [if_neg he, List.getD_eq_getElem?_getD, List.getElem?_eq_getElem hl]
      rfl
    simp only [not_or] at he
    simp only [he.1, he.2.1, he.2.2.1, he.2.2.2, decide_false, Bool.or_self, Bool.not_false, cond_false, cond_true, bindS, number_spec hd hin, hg, stp, false_or]
    generalize brkF p (w.At.X + w.DX) (w.At.Y + w.DY) = k
    by_cases d1 : k = 1
    · subst d1
      simp only [decide_true, cond_true, bindS, if_true, hdx, show ¬ ((1 : Int) = 2) by omega, if_false]
    · by_cases d2 : k = 2
      · subst d2
        simp only [show ¬ ((2 : Int) = 1) by omega, decide_false, decide_true, cond_true, cond_false, bindS, if_true, hdy, if_false]
      · simp only [d1, d2, decide_false, cond_false, bindS, if_false]
theorem walker_spec {p : SPanel} (hd : Dim p) {k : Int} (h0 : 0 ≤ k) (h1 : k < 4 * p.W * p.H) : sh206 p k = some (wlk p k) := by
  have hwH : w64 (2 * p.H) = 2 * p.H := by have := hd.h1; have := hd.h2; exact w64_id (by omega) (by omega)
  have hb : 0 ≤ k / (2 * p.H) ∧ k / (2 * p.H) ≤ 16 ∧ 0 ≤ k % (2 * p.H) ∧ k % (2 * p.H) ≤ 16 := by
    obtain ⟨w1, w2, g1, g2, bl⟩ := hd
    clear bl
    generalize p.H = H at *
    generalize p.W = W at *
    rcases eight g1 g2 with e | e | e | e | e | e | e | e <;> subst e <;> omega
  have e1 : k.tdiv (2 * p.H) = k / (2 * p.H) := Int.tdiv_eq_ediv_of_nonneg h0
  have e2 : k.tmod (2 * p.H) = k % (2 * p.H) := Int.tmod_eq_emod_of_nonneg h0
  unfold sh206 wlk
  rw [hwH, nzI_ok (by have := hd.h1; omega), bindS, bindS, e1, e2, w64_id (x := k / (2 * p.H)) (by omega) (by omega)]
  generalize k / (2 * p.H) = a at *
  generalize k % (2 * p.H) = b at *
  have t1 : a.tmod 2 = a % 2 := Int.tmod_eq_emod_of_nonneg (by omega)
  have t2 : b.tdiv 2 = b / 2 := Int.tdiv_eq_ediv_of_nonneg (by omega)
  have t3 : b.tmod 2 = b % 2 := Int.tmod_eq_emod_of_nonneg (by omega)
  have t4 : w64 (b + 1) = b + 1 := w64_id (by omega) (by omega)
  have t5 : (b + 1).tdiv 2 = (b + 1) / 2 := Int.tdiv_eq_ediv_of_nonneg (by omega)
  rw [t1, t2, t3, t4, t5, w64_id (x := b / 2) (by omega) (by omega), w64_id (x := b / 2 * 2) (by omega) (by omega), w64_id (x := b / 2 * 2 + 1) (by omega) (by omega), w64_id (x := 2 * (b % 2)) (by omega) (by omega), w64_id (x := 2 * (b % 2) - 1) (by omega) (by omega), w64_id (x := (b + 1) / 2) (by omega) (by omega), w64_id (x := (b + 1) / 2 * 2) (by omega) (by omega)]
  by_cases ha : a % 2 = 0
  · rw [beq_iff_eq.2 ha, cond_true]
    split
    · rw [show b / 2 * 2 + 1 = b by omega, show 2 * (b % 2) - 1 = 1 by omega]
    · rw [show b / 2 * 2 + 1 = b + 1 by omega, show 2 * (b % 2) - 1 = -1 by omega]
  · rw [beq_eq_false_iff_ne.2 ha, cond_false]
    by_cases hbb : b % 2 = 1
    · rw [beq_iff_eq.2 hbb, cond_true, bindS, if_neg (by omega), show (b + 1) / 2 * 2 = b + 1 by omega]
    · rw [beq_eq_false_iff_ne.2 hbb, cond_false, bindS, if_pos (by omega), show (b + 1) / 2 * 2 = b by omega]

/-! trace -/
def orb (p : SPanel) (w0 : SWalker) : Nat → SWalker
  | 0 => w0
  | i + 1 => stp p (orb p w0 i)
theorem orb_ok {p : SPanel} {w0 : SWalker} (hd : Dim p) (h : okW p w0) : ∀ i, okW p (orb p w0 i)
  | 0 => h
  | i + 1 => stp_ok hd (orb_ok hd h i)
theorem no_back {p : SPanel} {w0 : SWalker} (hd : Dim p) (h : okW p w0) : ∀ d i, orb p w0 (i + d) ≠ bck (orb p w0 i)
  | 0, i => fun e => bck_ne (orb_ok hd h i) e.symm
  | 1, i => fun e => stp_ne_bck (orb_ok hd h i) e
  | d + 2, i => fun e => by
    have h1 : stp p (orb p w0 (i + d + 1)) = stp p (bck (stp p (orb p w0 i))) := by rw [stp_back]; exact e
    have h2 := stp_inj h1
    exact no_back hd h d (i + 1) (by rw [show i + 1 + d = i + d + 1 by omega]; exact h2)
def ofN (p : SPanel) (w0 : SWalker) (c : Int) (of : List Int) : Nat → List Int
  | 0 => of
  | i + 1 => (ofN p w0 c of i).set (sgF p (orb p w0 i)).toNat c
theorem ofN_length (p : SPanel) (w0 : SWalker) (c : Int) (of : List Int) : ∀ i, (ofN p w0 c of i).length = of.length
  | 0 => rfl
  | i + 1 => by rw [ofN, List.length_set, ofN_length]
theorem getD_set (l : List Int) (i j : Nat) (c d : Int) (h : i < l.length) : (l.set i c).getD j d = if i = j then c else l.getD j d := by
  rw [List.getD_eq_getElem?_getD, List.getD_eq_getElem?_getD, List.getElem?_set]
  by_cases hij : i = j
  · subst hij; simp [h]
  · simp [hij]
def NS (p : SPanel) : Nat := (4 * p.W * p.H).toNat
theorem NS_eq {p : SPanel} (hd : Dim p) : ((NS p : Nat) : Int) = 4 * p.W * p.H ∧ NS p ≤ 256 ∧ 1 ≤ NS p := by
  obtain ⟨w1, w2, h1, h2, bl⟩ := hd
  clear bl
  unfold NS
  generalize p.W = W at *
  generalize p.H = H at *
  rcases eight h1 h2 with e | e | e | e | e | e | e | e <;> subst e <;> omega
theorem sg_lt {p : SPanel} {w : SWalker} (hd : Dim p) (h : okW p w) : (sgF p w).toNat < NS p ∧ 0 ≤ sgF p w := by
  have h1 := sg_bd hd h
  have h2 := NS_eq hd
  omega
theorem ofN_hit {p : SPanel} {w0 : SWalker} {c : Int} {of : List Int} (hd : Dim p) (h : okW p w0) (hl : of.length = NS p) : ∀ (i m : Nat), m < i → (ofN p w0 c of i).getD (sgF p (orb p w0 m)).toNat 0 = c
  | i + 1, m, hm => by
    have hi := sg_lt hd (orb_ok hd h i)
    rw [ofN, getD_set _ _ _ _ _ (by rw [ofN_length, hl]; exact hi.1)]
    split
    · rfl
    · rename_i hne
      have : m ≠ i := fun e => hne (by rw [e])
      exact ofN_hit hd h hl i m (by omega)
theorem ofN_old {p : SPanel} {w0 : SWalker} {c : Int} {of : List Int} (hd : Dim p) (h : okW p w0) (hl : of.length = NS p) : ∀ (i j : Nat), (∀ m, m < i → (sgF p (orb p w0 m)).toNat ≠ j) → (ofN p w0 c of i).getD j 0 = of.getD j 0
  | 0, _, _ => rfl
  | i + 1, j, hn => by
    have hi := sg_lt hd (orb_ok hd h i)
    rw [ofN, getD_set _ _ _ _ _ (by rw [ofN_length, hl]; exact hi.1), if_neg (hn i (by omega))]
    exact ofN_old hd h hl i j (fun m hm => hn m (by omega))
/-- The runs of a curve: each segment is free when it comes up. -/
def Run (p : SPanel) (w0 : SWalker) (c : Int) (of : List Int) (n : Nat) : Prop := ∀ j, j < n → (ofN p w0 c of j).getD (sgF p (orb p w0 j)).toNat 0 < 0
/-- What is owned is owned as a whole. -/
def Clo (p : SPanel) (of : List Int) : Prop := ∀ w, okW p w → 0 ≤ of.getD (sgF p w).toNat 0 → 0 ≤ of.getD (sgF p (stp p w)).toNat 0
theorem sg_eq_of {p : SPanel} {v w : SWalker} (hd : Dim p) (hv : okW p v) (hw : okW p w) (h : (sgF p v).toNat = (sgF p w).toNat) : sgF p v = sgF p w := by
  have := sg_lt hd hv
  have := sg_lt hd hw
  omega
theorem free_old {p : SPanel} {w0 : SWalker} {c : Int} {of : List Int} (hd : Dim p) (h : okW p w0) (hl : of.length = NS p) (hc : 0 ≤ c) {k : Nat} (hk : (ofN p w0 c of k).getD (sgF p (orb p w0 k)).toNat 0 < 0) :
    of.getD (sgF p (orb p w0 k)).toNat 0 < 0 ∧ ∀ m, m < k → sgF p (orb p w0 m) ≠ sgF p (orb p w0 k) := by
  have hno : ∀ m, m < k → (sgF p (orb p w0 m)).toNat ≠ (sgF p (orb p w0 k)).toNat := fun m hm e => by
    have := ofN_hit (c := c) hd h hl k m hm
    rw [e] at this
    omega
  rw [ofN_old hd h hl k _ hno] at hk
  exact ⟨hk, fun m hm e => hno m hm (by rw [e])⟩
theorem period {p : SPanel} {w0 : SWalker} {c : Int} {of : List Int} (hd : Dim p) (h : okW p w0) (hl : of.length = NS p) (hc : 0 ≤ c) (hcl : Clo p of) {n : Nat} (hn : 1 ≤ n) (hr : Run p w0 c of n) (hs : 0 ≤ (ofN p w0 c of n).getD (sgF p (orb p w0 n)).toNat 0) :
    orb p w0 n = w0 ∧ ∀ i, 0 < i → i < n → orb p w0 i ≠ w0 := by
  constructor
  · by_cases hit : ∃ m, m < n ∧ (sgF p (orb p w0 m)).toNat = (sgF p (orb p w0 n)).toNat
    · obtain ⟨m, hm, he⟩ := hit
      rcases sg_same hd (orb_ok hd h n) (orb_ok hd h m) (sg_eq_of hd (orb_ok hd h m) (orb_ok hd h n) he).symm with e | e
      · cases m with
        | zero => exact e
        | succ m =>
          obtain ⟨k, rfl⟩ : ∃ k, n = k + 1 := ⟨n - 1, by omega⟩
          have e2 : orb p w0 k = orb p w0 m := stp_inj e
          have := (free_old hd h hl hc (hr k (by omega))).2 m (by omega)
          rw [e2] at this
          exact absurd rfl this
      · exact absurd (by rw [show m + (n - m) = n by omega]; exact e) (no_back hd h (n - m) m)
    · exfalso
      rw [ofN_old hd h hl n _ (fun m hm e => hit ⟨m, hm, e⟩)] at hs
      obtain ⟨k, rfl⟩ : ∃ k, n = k + 1 := ⟨n - 1, by omega⟩
      have h1 := hcl (bck (orb p w0 (k + 1))) (bck_ok (orb_ok hd h (k + 1))) (by rw [sg_bck (orb_ok hd h (k + 1))]; exact hs)
      rw [show stp p (bck (orb p w0 (k + 1))) = bck (orb p w0 k) from stp_back p (orb p w0 k), sg_bck (orb_ok hd h k)] at h1
      have := (free_old hd h hl hc (hr k (by omega))).1
      omega
  · intro i h0 hi e
    have := (free_old hd h hl hc (hr i hi)).2 0 h0
    rw [e] at this
    exact absurd rfl this
theorem ofN_mono {p : SPanel} {w0 : SWalker} {c : Int} {of : List Int} (hd : Dim p) (h : okW p w0) (hl : of.length = NS p) (hc : 0 ≤ c) (n j : Nat) (hj : 0 ≤ of.getD j 0) : 0 ≤ (ofN p w0 c of n).getD j 0 := by
  by_cases hit : ∃ m, m < n ∧ (sgF p (orb p w0 m)).toNat = j
  · obtain ⟨m, hm, he⟩ := hit
    rw [← he, ofN_hit hd h hl n m hm]; exact hc
  · rw [ofN_old hd h hl n j (fun m hm e => hit ⟨m, hm, e⟩)]; exact hj
theorem clo_next {p : SPanel} {w0 : SWalker} {c : Int} {of : List Int} (hd : Dim p) (h : okW p w0) (hl : of.length = NS p) (hc : 0 ≤ c) (hcl : Clo p of) {n : Nat} (hn : 1 ≤ n) (hp : orb p w0 n = w0) : Clo p (ofN p w0 c of n) := by
  intro w hw hg
  have hit : ∀ m, m < n → ∀ v, sgF p v = sgF p (orb p w0 m) → 0 ≤ (ofN p w0 c of n).getD (sgF p v).toNat 0 := fun m hm v he => by
    rw [he, ofN_hit hd h hl n m hm]; exact hc
  by_cases hh : ∃ m, m < n ∧ (sgF p (orb p w0 m)).toNat = (sgF p w).toNat
  · obtain ⟨m, hm, he⟩ := hh
    rcases sg_same hd hw (orb_ok hd h m) (sg_eq_of hd (orb_ok hd h m) hw he).symm with e | e
    · subst e
      by_cases hm2 : m + 1 < n
      · exact hit (m + 1) hm2 _ rfl
      · have : m + 1 = n := by omega
        exact hit 0 (by omega) _ (by show sgF p (orb p w0 (m + 1)) = _; rw [this, hp]; rfl)
    · subst e
      cases m with
      | zero =>
        obtain ⟨k, rfl⟩ : ∃ k, n = k + 1 := ⟨n - 1, by omega⟩
        refine hit k (by omega) _ ?_
        rw [show bck (orb p w0 0) = bck (stp p (orb p w0 k)) from (show bck w0 = bck (orb p w0 (k + 1)) by rw [hp]), stp_back, sg_bck (orb_ok hd h k)]
      | succ m =>
        refine hit m (by omega) _ ?_
        rw [show stp p (bck (orb p w0 (m + 1))) = bck (orb p w0 m) from stp_back p (orb p w0 m), sg_bck (orb_ok hd h m)]
  · rw [ofN_old hd h hl n _ (fun m hm e => hh ⟨m, hm, e⟩)] at hg
    exact ofN_mono hd h hl hc n _ (hcl w hw hg)

def negs (l : List Int) : Nat := l.countP fun x => decide (x < 0)
theorem negs_set {l : List Int} {i : Nat} {c : Int} (h : i < l.length) (hf : l.getD i 0 < 0) (hc : 0 ≤ c) : negs (l.set i c) + 1 = negs l := by
  unfold negs
  induction l generalizing i with
  | nil => simp at h
  | cons x xs ih =>
    cases i with
    | zero =>
      have hx : x < 0 := by simpa using hf
      rw [List.set_cons_zero, List.countP_cons, List.countP_cons, decide_eq_true hx, decide_eq_false (show ¬ c < 0 by omega)]
      simp
    | succ i =>
      have := ih (i := i) (by simpa using h) (by simpa using hf)
      rw [List.set_cons_succ, List.countP_cons, List.countP_cons]
      omega
theorem negs_le (l : List Int) : negs l ≤ l.length := List.countP_le_length
theorem getI_sg {p : SPanel} {w : SWalker} {of : List Int} (hd : Dim p) (h : okW p w) (hl : of.length = NS p) : getI of (sgF p w) = some (of.getD (sgF p w).toNat 0) := by
  have h1 := sg_lt hd h
  rw [List.getD_eq_getElem?_getD, List.getElem?_eq_getElem (by omega)]
  exact getI_toNat h1.2 (by omega)
theorem range_snoc {T : Type} (f : Nat → T) (i : Nat) : (List.range (i + 1)).map f = (List.range i).map f ++ [f i] := by simp [List.range_succ]
instance decW : DecidableEq SWalker := fun a b => if h : a.At.X = b.At.X ∧ a.At.Y = b.At.Y ∧ a.DX = b.DX ∧ a.DY = b.DY then isTrue (walker_ext h.1 h.2.1 h.2.2.1 h.2.2.2) else isFalse (fun e => h (by subst e; simp))
theorem eqW (a b : SWalker) : (((a.At.X == b.At.X) && ((a.At.Y == b.At.Y) && true)) && ((a.DX == b.DX) && ((a.DY == b.DY) && true))) = decide (a = b) := by
  by_cases h : a = b
  · subst h; simp
  · rw [decide_eq_false h]
    simp only [Bool.and_true]
    cases h1 : (a.At.X == b.At.X) <;> cases h2 : (a.At.Y == b.At.Y) <;> cases h3 : (a.DX == b.DX) <;> cases h4 : (a.DY == b.DY) <;> (try rfl)
    simp only [beq_iff_eq] at h1 h2 h3 h4
    exact absurd (walker_ext h1 h2 h3 h4) h
theorem curve_spec {p : SPanel} {w0 : SWalker} (hd : Dim p) (h : okW p w0) {n : Nat} (hn : 1 ≤ n) (hn2 : n ≤ 256) (hp : orb p w0 n = w0) (ha : ∀ i, 0 < i → i < n → orb p w0 i ≠ w0) :
    sh205 p w0 = some ((List.range n).map (fun i => (orb p w0 i).At), (List.range n).map (fun i => sgF p (orb p w0 i))) := by
  unfold sh205
  have hi := iter_steps (sb := sh205_1 p w0) (fun i => ((List.range i).map (fun i => (orb p w0 i).At), (List.range i).map (fun i => sgF p (orb p w0 i)), orb p w0 i)) n (x := ((List.range n).map (fun i => (orb p w0 i).At), (List.range n).map (fun i => sgF p (orb p w0 i)))) (by omega) (fun i hi => ?_) ?_
  · simp only [List.range_zero, List.map_nil] at hi
    rw [show orb p w0 0 = w0 from rfl] at hi
    rw [hi, bindS]
  · have hok := orb_ok hd h i
    have hc : (((((List.range i).map (fun i => (orb p w0 i).At)).length : Int) == 0) || (!decide (orb p w0 i = w0))) = true := by
      rcases Nat.eq_zero_or_pos i with h0 | h0
      · subst h0; rfl
      · rw [decide_eq_false (ha i h0 hi)]; simp
    simp only [sh205_1, eqW, hc, cond_true]
    rw [appL_ok (by simp only [List.length_map, List.length_range, List.length_cons, List.length_nil]; omega), bindS, seg_spec hd hok, bindS, appL_ok (by simp only [List.length_map, List.length_range, List.length_cons, List.length_nil]; omega), bindS, step_spec hd hok, bindS, range_snoc, range_snoc]
    rfl
  · have hc : (((((List.range n).map (fun i => (orb p w0 i).At)).length : Int) == 0) || (!decide (orb p w0 n = w0))) = false := by
      rw [decide_eq_true hp]
      simp
      omega
    simp only [sh205_1, eqW, hc, cond_false]
theorem set_spec {p : SPanel} {w0 : SWalker} {of : List Int} (hd : Dim p) (h : okW p w0) (hl : of.length = NS p) (out : List (List SPoint)) (pts : List SPoint) (n : Nat) (hn : n ≤ 256) :
    iter (sh147_3 out (pts, (List.range n).map (fun i => sgF p (orb p w0 i)))) (0, of) = some (ofN p w0 (out.length : Int) of n) := by
  refine iter_steps (sb := sh147_3 out (pts, (List.range n).map (fun i => sgF p (orb p w0 i)))) (fun i => ((i : Int), ofN p w0 (out.length : Int) of i)) n (by omega) (fun i hi => ?_) ?_
  · have hok := orb_ok hd h i
    have hli : (ofN p w0 (out.length : Int) of i).length = NS p := by rw [ofN_length, hl]
    have hlt : i < ((List.range n).map (fun i => sgF p (orb p w0 i))).length := by simpa using hi
    have hd1 : decide ((i : Int) < (((List.range n).map (fun i => sgF p (orb p w0 i))).length : Int)) = true := decide_eq_true (by omega)
    simp only [sh147_3, hd1, cond_true, getI_lt hlt, List.getElem_map, List.getElem_range, bindS, getI_sg hd hok hli]
    rw [w64_id (by omega) (by omega)]
    rfl
  · have hd1 : decide ((n : Int) < (((List.range n).map (fun i => sgF p (orb p w0 i))).length : Int)) = false := decide_eq_false (by simp)
    simp only [sh147_3, hd1, cond_false]

/-- Two loops side by side. -/
theorem iter_rel {σ1 σ2 ρ1 ρ2 : Type} {sb1 : σ1 → Option (σ1 ⊕ ρ1)} {sb2 : σ2 → Option (σ2 ⊕ ρ2)} (R : σ1 → σ2 → Prop) (μ : σ1 → Nat) (Q : ρ1 → ρ2 → Prop) {s1 : σ1} {s2 : σ2} (h0 : R s1 s2) (hμ : μ s1 < 4611686018427387904)
    (hs : ∀ a b, R a b → (∃ a' b', sb1 a = some (.inl a') ∧ sb2 b = some (.inl b') ∧ R a' b' ∧ μ a' < μ a) ∨ (∃ x y, sb1 a = some (.inr x) ∧ sb2 b = some (.inr y) ∧ Q x y)) : ∃ x y, iter sb1 s1 = some x ∧ iter sb2 s2 = some y ∧ Q x y := by
  have key : ∀ k a b, μ a ≤ k → R a b → ∃ x y, iterN sb1 (k + 1) a = some x ∧ iterN sb2 (k + 1) b = some y ∧ Q x y := by
    intro k
    induction k with
    | zero =>
      intro a b hk hR
      rcases hs a b hR with ⟨a', b', _, _, _, h4⟩ | ⟨x, y, h1, h2, h3⟩
      · omega
      · exact ⟨x, y, by simp [iterN, h1], by simp [iterN, h2], h3⟩
    | succ k ih =>
      intro a b hk hR
      rcases hs a b hR with ⟨a', b', h1, h2, h3, h4⟩ | ⟨x, y, h1, h2, h3⟩
      · obtain ⟨x, y, g1, g2, g3⟩ := ih a' b' (by omega) h3
        exact ⟨x, y, by rw [iterN, h1]; exact g1, by rw [iterN, h2]; exact g2, g3⟩
      · exact ⟨x, y, by simp [iterN, h1], by simp [iterN, h2], h3⟩
  obtain ⟨x, y, h1, h2, h3⟩ := key (μ s1) s1 s2 (Nat.le_refl _) h0
  exact ⟨x, y, iterN_mono _ FUEL _ _ (by rw [FUEL_eq]; omega) h1, iterN_mono _ FUEL _ _ (by rw [FUEL_eq]; omega) h2, h3⟩
theorem fill_step {a b : Int} {k n : Nat} (h : k < n) : (List.replicate k a ++ List.replicate (n - k) b).set k a = List.replicate (k + 1) a ++ List.replicate (n - (k + 1)) b := by
  obtain ⟨m, hm⟩ : ∃ m, n - k = m + 1 := ⟨n - k - 1, by omega⟩
  rw [List.set_append, if_neg (by simp), List.length_replicate, Nat.sub_self, hm, List.replicate_succ, List.set_cons_zero, show n - (k + 1) = m by omega, List.replicate_succ', List.append_assoc]
  rfl
/-- A closed curve. -/
def Cyc (p : SPanel) (c : List SWalker) : Prop := ∃ w0 n, okW p w0 ∧ 1 ≤ n ∧ n ≤ 256 ∧ orb p w0 n = w0 ∧ c = (List.range n).map (orb p w0)
def ptsOf (c : List SWalker) : List SPoint := c.map (·.At)
structure Tr (p : SPanel) (cs : List (List SWalker)) (of : List Int) (k : Nat) : Prop where
  len : of.length = NS p
  clo : Clo p of
  own : ∀ j, j < k → 0 ≤ of.getD j 0
  val : ∀ j, of.getD j 0 < (cs.length : Int) ∨ (of.getD j 0 = 0 ∧ NS p ≤ j)
  few : cs.length ≤ k
  cyc : ∀ c ∈ cs, Cyc p c
theorem seg_n {p : SPanel} (hd : Dim p) : w64 (w64 (4 * p.W) * p.H) = (NS p : Int) := by
  have h1 := NS_eq hd
  have := hd.w1; have := hd.w2
  rw [w64_id (x := 4 * p.W) (by omega) (by omega), w64_id (by omega) (by omega), h1.1]

/-! trace_spec -/
/-- A run of segments that are free comes to an end. -/
theorem curve_run {p : SPanel} {w0 : SWalker} {of : List Int} (hd : Dim p) (h : okW p w0) (hl : of.length = NS p) (c : Int) (hc : 0 ≤ c) (hf : of.getD (sgF p w0).toNat 0 < 0) :
    ∃ n, 1 ≤ n ∧ n ≤ 256 ∧ Run p w0 c of n ∧ 0 ≤ (ofN p w0 c of n).getD (sgF p (orb p w0 n)).toNat 0 := by
  have hN := NS_eq hd
  have hng := negs_le of
  have key : ∀ m i, negs (ofN p w0 c of i) ≤ m → Run p w0 c of i → i + negs (ofN p w0 c of i) = negs of → ∃ n, i ≤ n ∧ n ≤ 256 ∧ Run p w0 c of n ∧ 0 ≤ (ofN p w0 c of n).getD (sgF p (orb p w0 n)).toNat 0 := by
    intro m
    induction m with
    | zero =>
      intro i hm hr hn
      refine ⟨i, Nat.le_refl _, by omega, hr, ?_⟩
      by_cases hneg : (ofN p w0 c of i).getD (sgF p (orb p w0 i)).toNat 0 < 0
      · have hok := orb_ok hd h i
        have hset := negs_set (c := c) (by rw [ofN_length, hl]; exact (sg_lt hd hok).1) hneg hc
        omega
      · omega
    | succ m ih =>
      intro i hm hr hn
      by_cases hneg : (ofN p w0 c of i).getD (sgF p (orb p w0 i)).toNat 0 < 0
      · have hok := orb_ok hd h i
        have hset := negs_set (c := c) (by rw [ofN_length, hl]; exact (sg_lt hd hok).1) hneg hc
        obtain ⟨n, h1, h2, h3, h4⟩ := ih (i + 1) (by rw [ofN]; omega) (fun j hj => by
          by_cases hji : j = i
          · subst hji; exact hneg
          · exact hr j (by omega)) (by rw [ofN]; omega)
        exact ⟨n, by omega, h2, h3, h4⟩
      · exact ⟨i, Nat.le_refl _, by omega, hr, by omega⟩
  obtain ⟨n, _, h2, h3, h4⟩ := key (negs of) 0 (by simp [ofN]) (fun j hj => by omega) (by simp [ofN])
  refine ⟨n, ?_, h2, h3, h4⟩
  rcases Nat.eq_zero_or_pos n with h0 | h0
  · subst h0
    exfalso
    have : 0 ≤ of.getD (sgF p w0).toNat 0 := h4
    omega
  · exact h0
theorem trace_body_spec {p : SPanel} (hd : Dim p) (cs : List (List SWalker)) (of : List Int) (k : Nat) (hk : k < NS p) (ht : Tr p cs of k) : ∃ cs' of', Tr p cs' of' (k + 1) ∧
    sh147_2 p ((k : Int), of, cs.map ptsOf) = some (.inl (((k + 1 : Nat) : Int), of', cs'.map ptsOf)) := by
  obtain ⟨tl, tc, to, tv, tf, ty⟩ := ht
  have hN := NS_eq hd
  have hkl : k < of.length := by omega
  have hw : w64 ((k : Int) + 1) = ((k + 1 : Nat) : Int) := by rw [w64_id (by omega) (by omega)]; omega
  have hkd : decide ((k : Int) < (NS p : Int)) = true := decide_eq_true (by omega)
  have hgd : of.getD k 0 = of[k] := by rw [List.getD_eq_getElem?_getD, List.getElem?_eq_getElem hkl]; rfl
  simp only [sh147_2, seg_n hd, hkd, cond_true, getI_lt hkl, bindS, hw]
  by_cases hneg : 0 ≤ of[k]
  · rw [decide_eq_true hneg]
    refine ⟨cs, of, ⟨tl, tc, fun j hj => ?_, tv, by omega, ty⟩, rfl⟩
    by_cases hjk : j = k
    · subst hjk; rw [hgd]; exact hneg
    · exact to j (by omega)
  · rw [decide_eq_false hneg]
    obtain ⟨wok, wsg⟩ := wlk_ok hd (k := (k : Int)) (by omega) (by omega)
    obtain ⟨n, n1, n2, nr, ns⟩ := curve_run hd wok tl (cs.length : Int) (by omega) (by rw [wsg, Int.toNat_natCast, hgd]; omega)
    obtain ⟨np, na⟩ := period hd wok tl (by omega) tc n1 nr ns
    simp only [cond_false]
    rw [walker_spec hd (by omega) (by omega), bindS, curve_spec hd wok n1 n2 np na, bindS]
    have hss := set_spec hd wok tl (cs.map ptsOf) ((List.range n).map (fun i => (orb p (wlk p k) i).At)) n n2
    rw [List.length_map] at hss
    rw [hss, bindS, appL_ok (by simp only [List.length_map, List.length_cons, List.length_nil]; omega), bindS]
    refine ⟨cs ++ [(List.range n).map (orb p (wlk p k))], ofN p (wlk p k) (cs.length : Int) of n, ⟨by rw [ofN_length, tl], clo_next hd wok tl (by omega) tc n1 np, fun j hj => ?_, fun j => ?_, by simp only [List.length_append, List.length_cons, List.length_nil]; omega, fun c hc => ?_⟩, ?_⟩
    · by_cases hjk : j = k
      · subst hjk
        have := ofN_hit (c := (cs.length : Int)) hd wok tl n 0 (by omega)
        rw [show orb p (wlk p j) 0 = wlk p j from rfl, wsg, Int.toNat_natCast] at this
        omega
      · exact ofN_mono hd wok tl (by omega) n j (to j (by omega))
    · simp only [List.length_append, List.length_cons, List.length_nil]
      by_cases hit : ∃ m, m < n ∧ (sgF p (orb p (wlk p k) m)).toNat = j
      · obtain ⟨m, hm, he⟩ := hit
        have := ofN_hit (c := (cs.length : Int)) hd wok tl n m hm
        rw [he] at this
        left; omega
      · rw [ofN_old hd wok tl n j (fun m hm e => hit ⟨m, hm, e⟩)]
        rcases tv j with h | h
        · left; omega
        · right; exact h
    · rcases List.mem_append.1 hc with hc | hc
      · exact ty c hc
      · simp only [List.mem_cons, List.not_mem_nil, or_false] at hc
        exact ⟨wlk p k, n, wok, n1, n2, np, hc⟩
    · simp only [List.map_append, List.map_cons, List.map_nil, ptsOf, List.map_map]
      rfl
theorem trace_spec_eq (p : SPanel) (hd : Dim p) : ∃ (cs : List (List SWalker)) (of : List Int), sh147 p = some (cs.map ptsOf, of) ∧ Tr p cs of (NS p) := by
  have hN := NS_eq hd
  have hmk : mkL (NS p : Int) (0 : Int) = some (List.replicate (NS p) 0) := mkL_ok (by omega)
  have e2 : iter (sh147_1 p) (0, List.replicate (NS p) 0) = some (List.replicate (NS p) (-1)) := by
    have := iter_steps (sb := sh147_1 p) (fun k => ((k : Int), List.replicate k (-1) ++ List.replicate (NS p - k) 0)) (NS p) (x := List.replicate (NS p) (-1)) (by omega) (fun k hk => ?_) ?_
    · simpa using this
    · have hl : k < (List.replicate k (-1 : Int) ++ List.replicate (NS p - k) 0).length := by simp; omega
      have hd1 : decide ((k : Int) < (NS p : Int)) = true := decide_eq_true (by omega)
      simp only [sh147_1, seg_n hd, hd1, cond_true, getI_lt hl, bindS, Int.toNat_natCast]
      rw [w64_id (by omega) (by omega), fill_step hk]
      rfl
    · have hd1 : decide (((NS p : Nat) : Int) < (NS p : Int)) = false := decide_eq_false (by omega)
      simp only [sh147_1, seg_n hd, hd1, cond_false]
      simp
  have hneg : ∀ j, (List.replicate (NS p) (-1 : Int)).getD j 0 = if j < NS p then -1 else 0 := by
    intro j
    rw [List.getD_eq_getElem?_getD, List.getElem?_replicate]
    split <;> rfl
  have h0 : Tr p [] (List.replicate (NS p) (-1)) 0 := ⟨by simp, fun w hw hg => by rw [hneg, if_pos (sg_lt hd hw).1] at hg; omega, fun j hj => by omega, fun j => by rw [hneg]; split <;> simp; omega, by simp, by simp⟩
  obtain ⟨y, hy, cs, of, rfl, ht⟩ := iter_inv (sb := sh147_2 p) (fun b => ∃ (k : Nat) (cs : List (List SWalker)) (of : List Int), b = ((k : Int), of, cs.map ptsOf) ∧ k ≤ NS p ∧ Tr p cs of k)
    (fun a => NS p - a.1.toNat) (fun y => ∃ (cs : List (List SWalker)) (of : List Int), y = (of, cs.map ptsOf) ∧ Tr p cs of (NS p)) (s0 := (0, List.replicate (NS p) (-1), [])) ⟨0, [], _, rfl, by omega, h0⟩ (by simp only; omega) (by
    rintro b ⟨k, cs, of, rfl, hk, ht⟩
    by_cases hk2 : k < NS p
    · left
      obtain ⟨cs', of', h1, h3⟩ := trace_body_spec hd cs of k hk2 ht
      exact ⟨_, h3, ⟨k + 1, cs', of', rfl, by omega, h1⟩, by simp only [Int.toNat_natCast]; omega⟩
    · right
      have hkn : k = NS p := by omega
      subst hkn
      have hd1 : decide (((NS p : Nat) : Int) < (NS p : Int)) = false := decide_eq_false (by omega)
      simp only [sh147_2, seg_n hd, hd1, cond_false]
      exact ⟨_, rfl, cs, of, rfl, ht⟩)
  refine ⟨cs, of, ?_, ht⟩
  unfold sh147
  rw [seg_n hd, hmk, bindS, e2, bindS, hy, bindS]

/-! points -/

/-! mark_points -/
/-- The numbers that are laid into a result of places. -/
def marksP (m : Int) (n : Nat) : List SPoint := (List.range n).map fun (i : Nat) => ⟨m + 2 * (i : Int), m + 2 * (i : Int) + 1⟩
theorem marksP_length (m : Int) (n : Nat) : (marksP m n).length = n := by simp [marksP]
theorem marksP_get (m : Int) (n k : Nat) (h : k < n) : (marksP m n)[k]'(by rw [marksP_length]; exact h) = ⟨m + 2 * k, m + 2 * k + 1⟩ := by simp [marksP]
theorem marksP_succ (m : Int) (k : Nat) : marksP m (k + 1) = marksP m k ++ [⟨m + 2 * k, m + 2 * k + 1⟩] := by simp [marksP, List.range_succ]


/-! curves -/
theorem inB_dec (k n : Int) : (decide (0 ≤ k) && decide (k ≤ n - 1)) = decide (0 ≤ k ∧ k < n) := by
  by_cases h : 0 ≤ k ∧ k < n
  · rw [decide_eq_true h, decide_eq_true h.1, decide_eq_true (by omega)]; rfl
  · rw [decide_eq_false h]
    by_cases h1 : 0 ≤ k
    · rw [decide_eq_true h1, decide_eq_false (by omega)]; rfl
    · rw [decide_eq_false h1]; rfl
def unitB (u : Int) : Bool := decide (1 ≤ u) && decide (u ≤ 1000)
theorem l20Code_eq {p : SPanel} {ps : List (List SPoint)} {of : List Int} (hb : p.Breaks.length ≤ 1048576) (hp : panelB p = true) (ht : sh147 p = some (ps, of)) (hc : ps.length ≤ 256) (k u : Int) : sh99 p k u = some (if (0 ≤ k ∧ k < (ps.length : Int)) ∧ unitB u = true then (ps.getD k.toNat [], 0) else ([], 2)) := by
  unfold sh99 sh100
  rw [l02Ok_eq p hb, hp, bindS, ht]
  simp only [Bool.not_true, cond_false, bindS]
  rw [w64_id (x := ((ps.length : Nat) : Int) - 1) (by omega) (by omega), inB_dec]
  by_cases h : 0 ≤ k ∧ k < (ps.length : Int)
  · rw [decide_eq_true h]
    show Option.bind (bif !true then some true else some !(unitB u)) _ = _
    cases hu : unitB u
    · simp [bindS]
    · have hl : k.toNat < ps.length := by omega
      simp only [Bool.not_true, cond_false, bindS, getI_toNat h.1 hl]
      rw [if_pos ⟨h, by first | rfl | trivial⟩, List.getD_eq_getElem?_getD, List.getElem?_eq_getElem hl]
      rfl
  · rw [decide_eq_false h, if_neg (fun hh => h hh.1)]; rfl
theorem l20Code_bad {p : SPanel} (hb : p.Breaks.length ≤ 1048576) (hp : panelB p = false) (k u : Int) : sh99 p k u = some ([], 1) := by
  unfold sh99
  rw [l02Ok_eq p hb, hp, bindS]; rfl
def upt (u : Int) (a : SPoint) : SPoint := ⟨w64 (a.X * u), w64 (a.Y * u)⟩
theorem cyc_len {p : SPanel} {c : List SWalker} (h : Cyc p c) : 1 ≤ c.length ∧ c.length ≤ 256 := by
  obtain ⟨w0, n, _, h1, h2, _, rfl⟩ := h
  simp; omega
theorem getD_map_pts (cs : List (List SWalker)) (k : Nat) : (cs.map ptsOf).getD k [] = ptsOf (cs.getD k []) := by
  rw [List.getD_eq_getElem?_getD, List.getD_eq_getElem?_getD, List.getElem?_map]
  cases cs[k]? <;> rfl
theorem getD_mem3 {cs : List (List SWalker)} {k : Nat} (h : k < cs.length) : cs.getD k [] ∈ cs ∧ getI cs (k : Int) = some (cs.getD k []) := by
  rw [List.getD_eq_getElem?_getD, List.getElem?_eq_getElem h]
  exact ⟨List.getElem_mem h, getI_lt h⟩

/-! toolmoves -/

/-! mark_moves -/
/-- The numbers that are laid into a result of moves of a tool. -/
def marksM (m : Int) (n : Nat) : List SToolMove := (List.range n).map fun (i : Nat) => ⟨m + 3 * (i : Int), m + 3 * (i : Int) + 1, m + 3 * (i : Int) + 2⟩
theorem marksM_length (m : Int) (n : Nat) : (marksM m n).length = n := by simp [marksM]
theorem marksM_get (m : Int) (n k : Nat) (h : k < n) : (marksM m n)[k]'(by rw [marksM_length]; exact h) = ⟨m + 3 * k, m + 3 * k + 1, m + 3 * k + 2⟩ := by simp [marksM]
theorem marksM_succ (m : Int) (k : Nat) : marksM m (k + 1) = marksM m k ++ [⟨m + 3 * k, m + 3 * k + 1, m + 3 * k + 2⟩] := by simp [marksM, List.range_succ]


/-! carvecurve -/
def mvT (d : Int) (a : SPoint) : SToolMove := ⟨a.X, a.Y, d⟩
/-- The moves along places. -/
def carveL (d s : Int) (q : List SPoint) : List SToolMove := [mvT s (q.getD 0 ⟨0, 0⟩)] ++ q.map (mvT (w64 (0 - d))) ++ [mvT (w64 (0 - d)) (q.getD 0 ⟨0, 0⟩), mvT s (q.getD 0 ⟨0, 0⟩)]
theorem carve_spec (q : List SPoint) (u d s : Int) (h1 : 1 ≤ q.length) (h : q.length ≤ 256) : sh149 q u d s = some (carveL d s (q.map (upt u))) := by
  unfold sh149
  have hg : getI q 0 = some (q.getD 0 ⟨0, 0⟩) := by
    have := getI_lt (xs := q) (k := 0) (by omega)
    rw [List.getD_eq_getElem?_getD, List.getElem?_eq_getElem (by omega)]
    exact this
  have hgm : (q.map (upt u)).getD 0 ⟨0, 0⟩ = upt u (q.getD 0 ⟨0, 0⟩) := by
    rw [List.getD_eq_getElem?_getD, List.getD_eq_getElem?_getD, List.getElem?_map, List.getElem?_eq_getElem (show 0 < q.length by omega)]
    rfl
  have hi := iter_steps (sb := sh149_1 q u d) (fun k => ((k : Int), [mvT s (upt u (q.getD 0 ⟨0, 0⟩))] ++ ((q ++ [q.getD 0 ⟨0, 0⟩]).take k).map (fun a => mvT (w64 (0 - d)) (upt u a)))) (q.length + 1) (x := [mvT s (upt u (q.getD 0 ⟨0, 0⟩))] ++ (q ++ [q.getD 0 ⟨0, 0⟩]).map (fun a => mvT (w64 (0 - d)) (upt u a))) (by omega) (fun k hk => ?_) ?_
  · simp only [Int.natCast_zero, List.take_zero, List.map_nil, List.append_nil] at hi
    rw [hg, bindS, bindS, appL_ok (by simp), bindS, List.nil_append]
    rw [show SToolMove.mk (w64 ((q.getD 0 ⟨0, 0⟩).X * u)) (w64 ((q.getD 0 ⟨0, 0⟩).Y * u)) s = mvT s (upt u (q.getD 0 ⟨0, 0⟩)) from rfl, hi, bindS, bindS, bindS, appL_ok (by simp only [List.length_append, List.length_map, List.length_cons, List.length_nil]; omega), bindS]
    unfold carveL
    rw [hgm]
    simp [List.map_map, Function.comp_def]
    rfl
  · have h2 : (k : Int) ≤ q.length := by omega
    have hkl : k < (q ++ [q.getD 0 ⟨0, 0⟩]).length := by simp; omega
    have hgk : getI q ((k : Int).tmod (q.length : Int)) = some (q ++ [q.getD 0 ⟨0, 0⟩])[k] := by
      rw [Int.tmod_eq_emod_of_nonneg (by omega)]
      by_cases hkq : k < q.length
      · rw [Int.emod_eq_of_lt (by omega) (by omega), getI_lt hkq, List.getElem_append_left hkq]
      · have : k = q.length := by omega
        subst this
        rw [Int.emod_self, hg, List.getElem_append_right (by omega)]
        simp
    simp only [sh149_1, h2, decide_true, cond_true, nzI_ok (show (q.length : Int) ≠ 0 by omega), bindS, hgk]
    rw [appL_ok (by simp only [List.length_append, List.length_map, List.length_take, List.length_cons, List.length_nil]; omega), bindS, w64_id (x := (k : Int) + 1) (by omega) (by omega), List.take_succ_eq_append_getElem hkl]
    simp only [List.map_append, List.map_cons, List.map_nil, List.append_assoc]
    rfl
  · have hd : decide (((q.length + 1 : Nat) : Int) ≤ (q.length : Int)) = false := decide_eq_false (by omega)
    simp only [sh149_1, hd, cond_false]
    rw [List.take_of_length_le (by simp)]
theorem carveL_len (d s : Int) (q : List SPoint) : (carveL d s q).length = q.length + 3 := by simp [carveL]
def cutB (d : Int) : Bool := decide (1 ≤ d) && decide (d ≤ 500)

/-! orderspec -/
theorem bestS_ok (cs : List (List SPoint)) (at' : SPoint) (dn : List Bool) (hc : ∀ c ∈ cs, 1 ≤ c.length) (hl : dn.length = cs.length) (hn : cs.length ≤ 256) (hf : ∃ j : Nat, dn[j]? = some false) :
    ∃ b : Int, iter (sh148_2 cs at' dn) (-1, 0, 0) = some b ∧ ∃ k : Nat, b = k ∧ k < cs.length ∧ dn[k]? = some false := by
  obtain ⟨j0, hj0⟩ := hf
  refine iter_inv (fun s : Int × Int × Int => ∃ i : Nat, s.2.2 = i ∧ i ≤ cs.length ∧ ((s.1 = -1 ∧ ∀ j, j < i → dn[j]? = some true) ∨ ∃ k : Nat, s.1 = k ∧ k < cs.length ∧ dn[k]? = some false)) (fun s : Int × Int × Int => ((cs.length : Int) - s.2.2).toNat) _ ⟨0, rfl, Nat.zero_le _, .inl ⟨rfl, fun j hj => absurd hj (Nat.not_lt_zero _)⟩⟩ (by simp; omega) ?_
  rintro ⟨b, l, i⟩ ⟨k, hi, hk, hI⟩
  simp only at hi
  subst hi
  by_cases hlt : k < cs.length
  · left
    have hd : decide ((k : Int) < ((cs.length : Nat) : Int)) = true := decide_eq_true (by omega)
    have hdl : k < dn.length := by omega
    have hck := hc _ (List.getElem_mem hlt)
    have hg0 : getI cs[k] 0 = some (cs[k][0]) := getI_lt (xs := cs[k]) (k := 0) (by omega)
    simp only [sh148_2, hd, cond_true, getI_lt hlt, bindS, hg0, l10Away_eq, getI_lt hdl, w64_id (x := (k : Int) + 1) (by omega) (by omega)]
    cases hdk : dn[k]
    · by_cases hb : (decide (b < 0) || decide (w64 (dst cs[k][0].X at'.X + dst cs[k][0].Y at'.Y) < l)) = true
      · rw [hb]
        refine ⟨_, rfl, ⟨k + 1, rfl, hlt, .inr ⟨k, rfl, hlt, ?_⟩⟩, ?_⟩
        · rw [List.getElem?_eq_getElem hdl, hdk]
        · simp only; omega
      · have hb' : (decide (b < 0) || decide (w64 (dst cs[k][0].X at'.X + dst cs[k][0].Y at'.Y) < l)) = false := by simpa using hb
        rw [hb']
        have hb0 : ¬ b < 0 := by simp at hb; omega
        refine ⟨_, rfl, ⟨k + 1, rfl, hlt, .inr ?_⟩, ?_⟩
        · rcases hI with ⟨h1, _⟩ | h1
          · simp only at h1; omega
          · exact h1
        · simp only; omega
    · refine ⟨_, rfl, ⟨k + 1, rfl, hlt, ?_⟩, ?_⟩
      · rcases hI with ⟨h1, h2⟩ | h1
        · refine .inl ⟨h1, fun j hj => ?_⟩
          by_cases hjk : j = k
          · subst hjk; rw [List.getElem?_eq_getElem hdl, hdk]
          · exact h2 j (by omega)
        · exact .inr h1
      · simp only [Bool.not_true, Bool.false_and, cond_false, bindS]; omega
  · right
    have hd : decide ((k : Int) < ((cs.length : Nat) : Int)) = false := decide_eq_false (by omega)
    simp only [sh148_2, hd, cond_false]
    refine ⟨b, rfl, ?_⟩
    rcases hI with ⟨_, h2⟩ | h1
    · have hj : j0 < dn.length := (List.getElem?_eq_some_iff.1 hj0).1
      rw [h2 j0 (by omega)] at hj0
      cases hj0
    · exact h1
/-- The order has each curve once. -/
theorem orderS_ok (cs : List (List SPoint)) (hc : ∀ c ∈ cs, 1 ≤ c.length) (hn : cs.length ≤ 256) :
    ∃ o, sh148 cs = some o ∧ o.length = cs.length ∧ o.Nodup ∧ ∀ x ∈ o, ∃ k : Nat, x = k ∧ k < cs.length := by
  unfold sh148
  rw [mkL_ok (by omega), bindS]
  obtain ⟨x, h1, h3⟩ := iter_inv (sb := sh148_1 cs)
    (fun a => a.2.1.length = cs.length ∧ a.2.1.count false = cs.length - a.1.length ∧ a.1.length ≤ cs.length ∧ a.1.Nodup ∧ ∀ x ∈ a.1, ∃ k : Nat, x = k ∧ k < cs.length ∧ a.2.1[k]? = some true)
    (fun a => cs.length - a.1.length) (fun x => x.length = cs.length ∧ x.Nodup ∧ ∀ z ∈ x, ∃ k : Nat, z = k ∧ k < cs.length)
    (s0 := ([], List.replicate cs.length false, ⟨0, 0⟩))
    ⟨by simp, by simp, by simp, by simp, by simp⟩ (by simp; omega) (by
      rintro ⟨o', dn2, at2⟩ ⟨r5, r6, r7, rn, r8⟩
      simp only at r5 r6 r7 rn r8
      by_cases hlt : o'.length < cs.length
      · left
        have hd : decide ((o'.length : Int) < ((cs.length : Nat) : Int)) = true := decide_eq_true (by omega)
        have hex : ∃ j : Nat, dn2[j]? = some false := by
          have hm : false ∈ dn2 := List.count_pos_iff.1 (by omega)
          obtain ⟨j, hj, he⟩ := List.getElem_of_mem hm
          exact ⟨j, by rw [List.getElem?_eq_getElem hj, he]⟩
        obtain ⟨b, hb, k, rfl, hk, hdk⟩ := bestS_ok cs at2 dn2 hc r5 hn hex
        have hkd : k < dn2.length := by omega
        have hdk' : dn2[k] = false := by rw [List.getElem?_eq_getElem hkd] at hdk; exact Option.some.inj hdk
        have hck := hc _ (List.getElem_mem hk)
        have hg0 : getI cs[k] 0 = some (cs[k][0]) := getI_lt (xs := cs[k]) (k := 0) (by omega)
        have ha : appL o' [(k : Int)] = some (o' ++ [(k : Int)]) := appL_ok (by simp only [List.length_cons, List.length_nil]; omega)
        refine ⟨(o' ++ [(k : Int)], dn2.set k true, (cs[k][0])), ?_, ⟨?_, ?_, ?_, ?_, ?_⟩, ?_⟩
        · simp only [sh148_1, hd, cond_true, hb, bindS, getI_lt hkd, getI_lt hk, hg0, ha, Int.toNat_natCast]
        · simpa using r5
        · simp only [List.count_set hkd, hdk', List.length_append, List.length_cons, List.length_nil]
          simp
          omega
        · simp only [List.length_append, List.length_cons, List.length_nil]; omega
        · rw [List.nodup_append]
          refine ⟨rn, by simp, fun x hx y hy => ?_⟩
          simp at hy
          subst hy
          intro hxk
          obtain ⟨j, hj, _, hj3⟩ := r8 x hx
          have : j = k := by omega
          subst this
          rw [hdk] at hj3
          cases hj3
        · intro x hx
          simp only at hx ⊢
          rcases List.mem_append.1 hx with hx | hx
          · obtain ⟨j, hj, hj2, hj3⟩ := r8 x hx
            refine ⟨j, hj, hj2, ?_⟩
            rw [List.getElem?_set]
            split
            · rename_i h; subst h; simp [hkd]
            · exact hj3
          · simp at hx
            exact ⟨k, hx, hk, by simp [hkd]⟩
        · simp only [List.length_append, List.length_cons, List.length_nil]; omega
      · right
        have hd : decide ((o'.length : Int) < ((cs.length : Nat) : Int)) = false := decide_eq_false (by omega)
        refine ⟨o', ?_, by omega, rn, fun x hx => ?_⟩
        · simp only [sh148_1, hd, cond_false]
        · obtain ⟨j, hj, hj2, _⟩ := r8 x hx
          exact ⟨j, hj, hj2⟩)
  rw [h1]
  exact ⟨x, rfl, h3⟩
/-- The moves for all curves in some order. -/
def carveAll (u d s : Int) (cs : List (List SPoint)) (o : List Int) : List SToolMove := o.flatMap fun k => carveL d s ((cs.getD k.toNat []).map (upt u))
theorem flatMap_snoc {α β : Type} (f : α → List β) (l : List α) (x : α) : (l ++ [x]).flatMap f = l.flatMap f ++ f x := by simp
theorem carveAll_len (u d s : Int) (cs : List (List SPoint)) : ∀ (o : List Int), (∀ x ∈ o, ∃ k : Nat, x = k ∧ k < cs.length) → (∀ c ∈ cs, c.length ≤ 256) → (carveAll u d s cs o).length ≤ 259 * o.length
  | [], _, _ => by simp [carveAll]
  | x :: o, h, hc => by
    have ih := carveAll_len u d s cs o (fun y hy => h y (List.mem_cons_of_mem _ hy)) hc
    obtain ⟨k, rfl, hk⟩ := h x (List.mem_cons_self ..)
    have hg : cs.getD k [] = cs[k] := by rw [List.getD_eq_getElem?_getD, List.getElem?_eq_getElem hk]; rfl
    have := hc _ (List.getElem_mem hk)
    unfold carveAll at ih ⊢
    rw [List.flatMap_cons, List.length_append, carveL_len, List.length_map, Int.toNat_natCast, hg, List.length_cons]
    omega
theorem panelS_loop (cs : List (List SPoint)) (of : List Int) (o : List Int) (u d s : Int) (hc : ∀ c ∈ cs, 1 ≤ c.length ∧ c.length ≤ 256) (hn : cs.length ≤ 256) (hl : o.length = cs.length) (ho : ∀ x ∈ o, ∃ k : Nat, x = k ∧ k < cs.length) :
    iter (sh51_1 u d s (cs, of) o) (0, []) = some (carveAll u d s cs o) := by
  have hi := iter_steps (sb := sh51_1 u d s (cs, of) o) (fun k => ((k : Int), carveAll u d s cs (o.take k))) o.length (x := carveAll u d s cs o) (by omega) (fun i hlt => ?_) ?_
  · simpa [carveAll] using hi
  · have hd : decide ((i : Int) < (o.length : Int)) = true := decide_eq_true (by omega)
    obtain ⟨k, hk, hkl⟩ := ho _ (List.getElem_mem hlt)
    have hck := hc _ (List.getElem_mem hkl)
    have hlen := carveAll_len u d s cs (o.take i) (fun x hx => ho x (List.mem_of_mem_take hx)) (fun c hcm => (hc c hcm).2)
    rw [List.length_take] at hlen
    have hg : cs.getD k [] = cs[k] := by rw [List.getD_eq_getElem?_getD, List.getElem?_eq_getElem hkl]; rfl
    have ha : appL (carveAll u d s cs (o.take i)) (carveL d s (cs[k].map (upt u))) = some (carveAll u d s cs (o.take i) ++ carveL d s (cs[k].map (upt u))) := appL_ok (by rw [carveL_len, List.length_map]; omega)
    have hw : w64 ((i : Int) + 1) = ((i + 1 : Nat) : Int) := by rw [w64_id (by omega) (by omega)]; rfl
    simp only [sh51_1, hd, cond_true, getI_lt hlt, bindS, hk, getI_lt hkl, carve_spec _ u d s hck.1 hck.2, ha, hw]
    rw [List.take_succ_eq_append_getElem hlt, hk]
    unfold carveAll
    rw [flatMap_snoc, Int.toNat_natCast, hg]
  · have hd : decide ((o.length : Int) < (o.length : Int)) = false := by simp
    simp only [sh51_1, hd, cond_false, List.take_length]
/-- What carving a panel comes to. -/
theorem panelS_val (p : SPanel) (u d s : Int) (hp : panelB p = true) (hu : unitB u = true) (hd : cutB d = true) (hs : cutB s = true) : ∃ (cs : List (List SWalker)) (of o : List Int), sh147 p = some (cs.map ptsOf, of) ∧ Tr p cs of (NS p) ∧ sh51 p u d s = some (carveAll u d s (cs.map ptsOf) o, 0) ∧ o.length = cs.length ∧ o.Nodup ∧ (∀ x ∈ o, ∃ k : Nat, x = k ∧ k < cs.length) ∧ 1 ≤ cs.length ∧ cs.length ≤ 256 := by
  have hb := (panelB_facts hp).2.2.2.2
  obtain ⟨cs, of, h2, ht⟩ := trace_spec_eq p (dim_of hp)
  have hN := NS_eq (dim_of hp)
  have hf := ht.few
  have h0 := ht.own 0 (by omega)
  have hc1 : 1 ≤ cs.length := by
    rcases ht.val 0 with h | h
    · omega
    · omega
  have hcl : ∀ c ∈ cs.map ptsOf, 1 ≤ c.length ∧ c.length ≤ 256 := fun c hc => by
    obtain ⟨w, hw, rfl⟩ := List.mem_map.1 hc
    have := cyc_len (ht.cyc w hw)
    unfold ptsOf
    rw [List.length_map]; exact this
  obtain ⟨o, g1, g2, g3, g4⟩ := orderS_ok (cs.map ptsOf) (fun c hc => (hcl c hc).1) (by rw [List.length_map]; omega)
  rw [List.length_map] at g2 g4
  refine ⟨cs, of, o, h2, ht, ?_, g2, g3, g4, hc1, by omega⟩
  unfold sh51 sh146
  rw [l20Code_eq (by omega) hp h2 (by rw [List.length_map]; omega), List.length_map, if_pos ⟨by omega, hu⟩]
  have hd0 : sh100 d 1 500 = some (cutB d) := rfl
  have hs0 : sh100 s 1 500 = some (cutB s) := rfl
  rw [hd0, hs0, hd, hs]
  simp only [bindS, beq_self_eq_true, cond_true, Bool.not_true, cond_false, bne_self_eq_false, h2, g1]
  rw [panelS_loop (cs.map ptsOf) of o u d s hcl (by rw [List.length_map]; omega) (by rw [List.length_map]; exact g2) (by rw [List.length_map]; exact g4)]
  rfl

/-! moves -/
def coB (x : Int) : Bool := decide (-100000 ≤ x) && decide (x ≤ 100000)
def moveB (m : SToolMove) : Bool := (coB m.X && coB m.Y) && (decide (-500 ≤ m.Z) && decide (m.Z ≤ 500))
def movesB (q : List SToolMove) : Bool := q.all moveB && decide (q.length ≤ 700)

theorem l22Ok_eq (q : List SToolMove) (h : q.length ≤ 1048576) : sh152 q = some (movesB q) := by
  unfold sh152 movesB
  rw [iter_all (xs := q) (p := moveB) (r := false) (by omega) (fun k hk => ?_) (by simp [sh152_1]), bindS]
  · cases ha : q.all moveB
    · simp [elimS]
    · simp only [elimS, if_true, Bool.true_and]
      congr 1
      simp only [decide_eq_decide]; omega
  · have h2 : (k : Int) < q.length := by omega
    simp only [sh152_1, sh100, h2, decide_true, cond_true, getI_lt hk, bindS]
    rw [w64_id (x := (k : Int) + 1) (by omega) (by omega)]
    unfold moveB coB
    cases h0 : decide (-100000 ≤ q[k].X) && decide (q[k].X ≤ 100000) <;> cases h1 : decide (-100000 ≤ q[k].Y) && decide (q[k].Y ≤ 100000) <;> cases h3 : decide (-500 ≤ q[k].Z) && decide (q[k].Z ≤ 500) <;> rfl

theorem validMoves_eq (q : List SToolMove) (h : q.length ≤ 1048576) : sh151 q = some (movesB q) := by
  unfold sh151 movesB
  rw [iter_all (xs := q) (p := moveB) (r := false) (by omega) (fun k hk => ?_) (by simp [sh151_1]), bindS]
  · cases ha : q.all moveB
    · simp [elimS]
    · simp only [elimS, if_true, Bool.true_and]
      congr 1
      simp only [decide_eq_decide]; omega
  · have h2 : (k : Int) < q.length := by omega
    simp only [sh151_1, sh106, sh107, h2, decide_true, cond_true, getI_lt hk, bindS]
    rw [w64_id (x := (k : Int) + 1) (by omega) (by omega)]
    unfold moveB coB
    cases h0 : decide (-100000 ≤ q[k].X) && decide (q[k].X ≤ 100000) <;> cases h1 : decide (-100000 ≤ q[k].Y) && decide (q[k].Y ≤ 100000) <;> cases h3 : decide (-500 ≤ q[k].Z) && decide (q[k].Z ≤ 500) <;> rfl

theorem movesB_len {q : List SToolMove} (h : movesB q = true) : q.length ≤ 700 := by
  unfold movesB at h
  simp only [Bool.and_eq_true, decide_eq_true_eq] at h
  exact h.2

/-! draw22 -/
def mvR (m : SToolMove) : Prop := (i64R m.X ∧ i64R m.Y) ∧ i64R m.Z
theorem carveL_R {u d s : Int} (hs : i64R s) {q : List SPoint} : ∀ m ∈ carveL d s (q.map (upt u)), mvR m := by
  have hp : ∀ x ∈ q.map (upt u), i64R x.X ∧ i64R x.Y := fun x hx => by
    obtain ⟨z, _, rfl⟩ := List.mem_map.1 hx
    exact ⟨i64R_w64 _, i64R_w64 _⟩
  have h0 : i64R ((q.map (upt u)).getD 0 ⟨0, 0⟩).X ∧ i64R ((q.map (upt u)).getD 0 ⟨0, 0⟩).Y := by
    cases hq : q.map (upt u) with
    | nil => exact ⟨i64R_small (by decide) (by decide), i64R_small (by decide) (by decide)⟩
    | cons a t => exact hp a (by rw [hq]; exact List.mem_cons_self ..)
  intro m hm
  unfold carveL mvT at hm
  simp only [List.mem_append, List.mem_cons, List.not_mem_nil, or_false, List.mem_map] at hm
  rcases hm with (h | ⟨x, ⟨z, hz, rfl⟩, rfl⟩) | h | h
  · rw [h]; exact ⟨h0, hs⟩
  · exact ⟨⟨i64R_w64 _, i64R_w64 _⟩, i64R_w64 _⟩
  · rw [h]; exact ⟨h0, i64R_w64 _⟩
  · rw [h]; exact ⟨h0, hs⟩
theorem draw22_ok (q : Sl00Src) (hc : srcB q.code) (h0 : 0 ≤ q.at_) (h1 : q.at_ ≤ 549755813888) : ∃ r, sh161 q = some r ∧ r.1.length ≤ 40 ∧ (∀ m ∈ r.1, mvR m) ∧ 0 ≤ r.2.1 ∧ r.2.1 ≤ q.at_ + 1100 := by
  unfold sh161
  obtain ⟨x1, e1, p1, _, a1, c1⟩ := draw02_ok q 3 (by omega) hc h0 (by omega)
  obtain ⟨x2, e2, b2, a2, c2⟩ := pick_ok ⟨q.code, x1.2.1, x1.2.2⟩ 9 hc a1 (by simp only; omega)
  simp only at c2
  obtain ⟨x3, e3, b3, a3, c3⟩ := pick_ok ⟨q.code, x2.2.1, x2.2.2⟩ 20 hc a2 (by simp only; omega)
  simp only at c3
  obtain ⟨x4, e4, b4, a4, c4⟩ := pick_ok ⟨q.code, x3.2.1, x3.2.2⟩ 9 hc a3 (by simp only; omega)
  simp only at c4
  have w1 : w64 (1 + x2.1) = 1 + x2.1 := w64_id (by omega) (by omega)
  have w2 : w64 (1 + x3.1) = 1 + x3.1 := w64_id (by omega) (by omega)
  have w3 : w64 (1 + x4.1) = 1 + x4.1 := w64_id (by omega) (by omega)
  obtain ⟨cs, of, o, g1, g2, g3, g4, g5, g6, g7, g8⟩ := panelS_val x1.1 (1 + x2.1) (1 + x3.1) (1 + x4.1) p1 (by unfold unitB; simp; omega) (by unfold cutB; simp; omega) (by unfold cutB; simp; omega)
  rw [e1, bindS, e2, bindS, e3, bindS, e4, bindS, w1, w2, w3, g3, bindS]
  have hR : ∀ m ∈ carveAll (1 + x2.1) (1 + x3.1) (1 + x4.1) (cs.map ptsOf) o, mvR m := fun m hm => by
    unfold carveAll at hm
    rw [List.mem_flatMap] at hm
    obtain ⟨k, _, hk⟩ := hm
    exact carveL_R (i64R_small (by omega) (by omega)) m hk
  simp only
  by_cases hl : (40 : Int) < ((carveAll (1 + x2.1) (1 + x3.1) (1 + x4.1) (cs.map ptsOf) o).length : Int)
  · obtain ⟨x5, e5, b5, a5, c5⟩ := pick_ok ⟨q.code, x4.2.1, x4.2.2⟩ 30 hc a4 (by simp only; omega)
    simp only at c5
    have ht : takeL (carveAll (1 + x2.1) (1 + x3.1) (1 + x4.1) (cs.map ptsOf) o) (w64 (10 + x5.1)) = some ((carveAll (1 + x2.1) (1 + x3.1) (1 + x4.1) (cs.map ptsOf) o).take (10 + x5.1).toNat) := by
      rw [w64_id (by omega) (by omega)]
      unfold takeL
      rw [if_pos (by omega)]
    rw [decide_eq_true hl, cond_true, e5, bindS, ht, bindS, bindS]
    exact ⟨_, rfl, by simp only [List.length_take]; omega, fun m hm => hR m (List.mem_of_mem_take hm), a5, by simp only; omega⟩
  · rw [decide_eq_false hl, cond_false, bindS]
    exact ⟨_, rfl, by simp only; omega, hR, a4, by simp only; omega⟩
theorem mvR_set {l : List SToolMove} {k : Nat} {p : SToolMove} (hl : ∀ x ∈ l, mvR x) (hp : mvR p) : ∀ x ∈ l.set k p, mvR x := fun x hx => by
  rcases List.mem_or_eq_of_mem_set hx with h | h
  · exact hl x h
  · rw [h]; exact hp
theorem bent22_ok (q : Sl00Src) (hc : srcB q.code) (h0 : 0 ≤ q.at_) (h1 : q.at_ ≤ 274877906944) : ∃ r, sh150 q = some r ∧ r.1.length ≤ 701 ∧ (∀ m ∈ r.1, mvR m) ∧ 0 ≤ r.2.1 ∧ r.2.1 ≤ q.at_ + 1200 := by
  unfold sh150
  obtain ⟨x1, e1, b1, d1, a1, c1⟩ := draw22_ok q hc h0 (by omega)
  rw [e1, bindS]
  by_cases hl : x1.1.length = 0
  · have : ((x1.1.length : Int) == 0) = true := beq_iff_eq.2 (by omega)
    rw [this, cond_true]
    exact ⟨_, rfl, by simp only; omega, d1, a1, by simp only; omega⟩
  · have hlb : ((x1.1.length : Int) == 0) = false := beq_eq_false_iff_ne.2 (by omega)
    obtain ⟨x5, e5, b5, a5, c5⟩ := pick_ok ⟨q.code, x1.2.1, x1.2.2⟩ (x1.1.length : Int) hc a1 (by simp only; omega)
    simp only at c5
    obtain ⟨x6, e6, b6, a6, c6⟩ := pick_ok ⟨q.code, x5.2.1, x5.2.2⟩ 16 hc a5 (by simp only; omega)
    simp only at c6
    have hk : x5.1.toNat < x1.1.length := by
      rcases b5.2 with h | h
      · omega
      · omega
    have hg : getI x1.1 x5.1 = some x1.1[x5.1.toNat] := getI_toNat b5.1 hk
    have hp0 := d1 _ (List.getElem_mem hk)
    rw [hlb, cond_false, e5, bindS, e6, bindS]
    cases x6.1 == 0
    · rw [cond_false]
      cases x6.1 == 1
      · rw [cond_false]
        cases x6.1 == 2
        · rw [cond_false]
          cases x6.1 == 3
          · rw [cond_false, bindS]
            exact ⟨_, rfl, by simp only; omega, d1, a6, by simp only; omega⟩
          · rw [cond_true, hg, bindS, bindS, bindS]
            exact ⟨_, rfl, by simp only [List.length_set]; omega, mvR_set d1 ⟨hp0.1, i64R_w64 _⟩, a6, by simp only; omega⟩
        · rw [cond_true]
          obtain ⟨y, g, n1, m, n⟩ := pick_ok ⟨q.code, x6.2.1, x6.2.2⟩ 2 hc a6 (by simp only; omega)
          simp only at n
          have hw : w64 (700 + y.1) = ((700 + y.1.toNat : Nat) : Int) := by rw [w64_id (by omega) (by omega)]; omega
          rw [g, bindS, hw, mkL_ok (by omega), bindS]
          refine ⟨_, rfl, by simp only [List.length_replicate]; omega, fun p hp => ?_, m, by simp only; omega⟩
          rw [List.eq_of_mem_replicate hp]
          exact ⟨⟨i64R_small (by decide) (by decide), i64R_small (by decide) (by decide)⟩, i64R_small (by decide) (by decide)⟩
      · rw [cond_true]
        obtain ⟨y, g, n1, m, n⟩ := among_ok ⟨q.code, x6.2.1, x6.2.2⟩ [(-501), (-500), 500, 501] hc a6 (by simp only; omega) (by simp)
        simp only at n
        rw [g, bindS, hg, bindS]
        refine ⟨_, rfl, by simp only [List.length_set]; omega, mvR_set d1 ⟨hp0.1, show i64R y.1 from ?_⟩, m, by simp only; omega⟩
        simp only [List.mem_cons, List.not_mem_nil, or_false] at n1
        unfold i64R
        rcases n1 with h | h | h | h <;> rw [h] <;> decide
    · rw [cond_true]
      obtain ⟨y, g, n1, m, n⟩ := among_ok ⟨q.code, x6.2.1, x6.2.2⟩ [(-100001), (-100000), 100000, 100001] hc a6 (by simp only; omega) (by simp)
      simp only at n
      rw [g, bindS, hg, bindS]
      refine ⟨_, rfl, by simp only [List.length_set]; omega, mvR_set d1 ⟨⟨show i64R y.1 from ?_, hp0.1.2⟩, hp0.2⟩, m, by simp only; omega⟩
      simp only [List.mem_cons, List.not_mem_nil, or_false] at n1
      unfold i64R
      rcases n1 with h | h | h | h <;> rw [h] <;> decide

/-! drawtext -/
theorem textD_ok (q : Sl00Src) (l : List ByteArray) (hc : srcB q.code) (h0 : 0 ≤ q.at_) (h1 : q.at_ ≤ 2305843009213693952) (hl : 0 < l.length) :
    ∃ r, sh209 q l = some r ∧ r.1 ∈ l ∧ 0 ≤ r.2.1 ∧ r.2.1 ≤ q.at_ + 2 := by
  unfold sh209
  obtain ⟨x, e, b, a0, a1⟩ := pick_ok q l.length hc h0 h1
  have hx : x.1.toNat < l.length := by omega
  rw [e, bindS, getI_toNat b.1 hx, bindS]
  exact ⟨_, rfl, List.getElem_mem hx, a0, a1⟩
theorem subS_tot {s : ByteArray} {i j : Int} (h0 : 0 ≤ i) (h1 : i ≤ j) (h2 : j ≤ s.size) : ∃ t, subS s i j = some t ∧ (t.size : Int) = j - i := by
  refine ⟨_, if_pos ⟨h0, h1, h2⟩, ?_⟩
  rw [ByteArray.size_extract]
  omega
theorem catS_tot3 {x y : ByteArray} (h : x.size + y.size ≤ 1099511627776) : ∃ t, catS x y = some t ∧ t.size = x.size + y.size := by
  have : LIM = 1099511627776 := rfl
  unfold catS
  rw [if_pos (by omega)]
  exact ⟨_, rfl, ByteArray.size_append⟩
theorem spoil_ok (q : Sl00Src) (t : ByteArray) (hc : srcB q.code) (h0 : 0 ≤ q.at_) (h1 : q.at_ ≤ 549755813888) (ht : t.size ≤ 1000000) :
    ∃ r, sh162 q t = some r ∧ r.1.size ≤ t.size + 1 ∧ 0 ≤ r.2.1 ∧ r.2.1 ≤ q.at_ + 6 := by
  unfold sh162
  obtain ⟨x1, e1, b1, a1, c1⟩ := pick_ok q 5 hc h0 (by omega)
  rw [e1, bindS]
  have hw : w64 ((t.size : Int) + 1) = (t.size : Int) + 1 := w64_id (by omega) (by omega)
  rw [hw]
  cases x1.1 == 0
  · rw [cond_false]
    cases x1.1 == 1
    · rw [cond_false, bindS, bindS]
      exact ⟨_, rfl, by simp only; omega, a1, by simp only; omega⟩
    · rw [cond_true]
      cases hz : t.toList == (ByteArray.mk #[]).toList
      · have hpos : 0 < t.size := by
          rcases Nat.eq_zero_or_pos t.size with h | h
          · exfalso
            have h2 : strI t = [] := List.eq_nil_of_length_eq_zero (by rw [strI_length]; exact h)
            rw [← bytesS_strI t, h2] at hz
            rw [lit_nil, eqS (by simp) (by simp)] at hz
            simp at hz
          · exact h
        rw [Bool.not_false, cond_true]
        obtain ⟨y, g, n1, m, n⟩ := pick_ok ⟨q.code, x1.2.1, x1.2.2⟩ (t.size : Int) hc a1 (by simp only; omega)
        simp only at n
        rw [g, bindS, w64_id (by omega) (by omega)]
        obtain ⟨u, hu, hu2⟩ := subS_tot (s := t) (i := 0) (j := y.1) (by omega) (by omega) (by omega)
        obtain ⟨v, hv, hv2⟩ := subS_tot (s := t) (i := y.1 + 1) (j := t.size) (by omega) (by omega) (by omega)
        obtain ⟨z, hz1, hz2⟩ := catS_tot3 (x := u) (y := v) (by omega)
        rw [hu, bindS, hv, bindS, hz1, bindS, bindS, bindS, bindS]
        exact ⟨_, rfl, by simp only; omega, m, by simp only; omega⟩
      · rw [Bool.not_true, cond_false, bindS, bindS, bindS]
        exact ⟨_, rfl, by simp only; omega, a1, by simp only; omega⟩
  · rw [cond_true]
    obtain ⟨y, g, n1, m, n⟩ := pick_ok ⟨q.code, x1.2.1, x1.2.2⟩ ((t.size : Int) + 1) hc a1 (by simp only; omega)
    simp only at n
    rw [g, bindS]
    obtain ⟨u, hu, hu2⟩ := subS_tot (s := t) (i := 0) (j := y.1) (by omega) (by omega) (by omega)
    obtain ⟨v, hv, hv2⟩ := subS_tot (s := t) (i := y.1) (j := t.size) (by omega) (by omega) (by omega)
    obtain ⟨w, k, l1, l2, l3⟩ := textD_ok ⟨q.code, y.2.1, y.2.2⟩ ([ByteArray.mk #[32], ByteArray.mk #[48], ByteArray.mk #[45], ByteArray.mk #[120], ByteArray.mk #[49], ByteArray.mk #[57], ByteArray.mk #[46]]) hc m (by simp only; omega) (by simp)
    simp only at l3
    have hw1 : w.1.size = 1 := by
      simp only [List.mem_cons, List.not_mem_nil, or_false] at l1
      rcases l1 with h | h | h | h | h | h | h <;> rw [h] <;> rfl
    obtain ⟨z, hz1, hz2⟩ := catS_tot3 (x := u) (y := w.1) (by omega)
    obtain ⟨z2, hz3, hz4⟩ := catS_tot3 (x := z) (y := v) (by omega)
    rw [hu, bindS, hv, bindS, k, bindS, hz1, bindS, hz3, bindS, bindS]
    exact ⟨_, rfl, by simp only; omega, l2, by simp only; omega⟩

/-! numbers -/
def isDig (x : Int) : Bool := decide (48 ≤ x) && decide (x ≤ 57)
def valD (D : List Int) : Int := D.foldl (fun a d => 10 * a + (d - 48)) 0
theorem valD_snoc (D : List Int) (x : Int) : valD (D ++ [x]) = 10 * valD D + (x - 48) := by simp [valD]
theorem valD_digs (n : Nat) : valD (digs n) = n := by
  induction n using Nat.strongRecOn with
  | ind n ih =>
    by_cases h0 : n = 0
    · subst h0; rw [digs_zero]; rfl
    · rw [digs_pos (by omega), valD_snoc, ih (n / 10) (by omega)]; omega
theorem digs_isDig (n : Nat) : (digs n).all isDig = true := by
  rw [List.all_eq_true]
  intro x hx
  have := digs_byte n x hx
  unfold isDig
  simp only [Bool.and_eq_true, decide_eq_true_eq]
  exact this
theorem digLoop (D : List Int) (hb : ∀ x ∈ D, isByte x) (hl : D.length ≤ 18) : iter (sh159_1 (bytesS D)) (0, 0) = some (if D.all isDig = true then .inl (valD D) else .inr (0, false)) ∧
    (D.all isDig = true → 0 ≤ valD D ∧ valD D < 1000000000000000000) := by
  obtain ⟨y, hy, hr⟩ := iter_inv (sb := sh159_1 (bytesS D)) (fun (s : Int × Int) => ∃ k : Nat, s = (valD (D.take k), (k : Int)) ∧ k ≤ D.length ∧ (D.take k).all isDig = true ∧ 0 ≤ valD (D.take k) ∧ valD (D.take k) < ((10 ^ k : Nat) : Int))
    (fun s => D.length - s.2.toNat) (fun (y : Int ⊕ (Int × Bool)) => y = (if D.all isDig = true then .inl (valD D) else .inr (0, false)) ∧ (D.all isDig = true → 0 ≤ valD D ∧ valD D < 1000000000000000000)) (s0 := (0, 0))
    ⟨0, rfl, by omega, rfl, by simp [valD], by simp [valD]⟩ (by simp only; omega) (by
    rintro s ⟨k, rfl, h1, h2, h3, h4⟩
    by_cases hk : k < D.length
    · have hd : decide ((k : Int) < ((bytesS D).size : Int)) = true := by rw [bytesS_size]; exact decide_eq_true (by omega)
      have hbk := hb _ (List.getElem_mem hk)
      simp only [sh159_1, hd, cond_true, getS_ok hb hk, bindS]
      have ec : (bif decide (D[k] < 48) then (some true) else some (decide (57 < D[k]))) = some (!isDig D[k]) := by
        unfold isDig
        by_cases h5 : D[k] < 48
        · rw [decide_eq_true h5, decide_eq_false (show ¬ 48 ≤ D[k] by omega)]; rfl
        · rw [decide_eq_false h5, decide_eq_true (show 48 ≤ D[k] by omega)]
          by_cases h6 : 57 < D[k]
          · rw [decide_eq_true h6, decide_eq_false (show ¬ D[k] ≤ 57 by omega)]; rfl
          · rw [decide_eq_false h6, decide_eq_true (show D[k] ≤ 57 by omega)]; rfl
      rw [ec, bindS]
      cases hdg : isDig D[k]
      · right
        refine ⟨_, rfl, ?_, ?_⟩
        · rw [if_neg]
          rw [List.all_eq_true]
          intro h
          rw [h _ (List.getElem_mem hk)] at hdg
          cases hdg
        · intro h
          rw [List.all_eq_true] at h
          rw [h _ (List.getElem_mem hk)] at hdg
          cases hdg
      · left
        have hx := hdg
        unfold isDig at hx
        simp only [Bool.and_eq_true, decide_eq_true_eq] at hx
        have hp : 10 ^ k ≤ 10 ^ 17 := Nat.pow_le_pow_right (by omega) (by omega)
        have hps : 10 ^ (k + 1) = 10 ^ k * 10 := Nat.pow_succ ..
        simp only [Bool.not_true, cond_false]
        rw [w64_id (x := 10 * valD (D.take k)) (by omega) (by omega), u8_id (by omega) (by omega), w64_id (x := D[k] - 48) (by omega) (by omega), w64_id (x := 10 * valD (D.take k) + (D[k] - 48)) (by omega) (by omega), w64_id (x := (k : Int) + 1) (by omega) (by omega)]
        have hv : valD (D.take (k + 1)) = 10 * valD (D.take k) + (D[k] - 48) := by rw [List.take_succ_eq_append_getElem hk, valD_snoc]
        refine ⟨_, rfl, ⟨k + 1, by rw [hv]; rfl, by omega, by rw [List.take_succ_eq_append_getElem hk, List.all_append, h2]; simp [hdg], by omega, by omega⟩, by simp only; omega⟩
    · right
      have hd : decide ((k : Int) < ((bytesS D).size : Int)) = false := by rw [bytesS_size]; exact decide_eq_false (by omega)
      simp only [sh159_1, hd, cond_false]
      have hkl : k = D.length := by omega
      subst hkl
      rw [List.take_length] at h2 h3 h4 ⊢
      have hp : 10 ^ D.length ≤ 10 ^ 18 := Nat.pow_le_pow_right (by omega) (by omega)
      exact ⟨_, rfl, by rw [if_pos h2], fun _ => ⟨h3, by omega⟩⟩)
  exact ⟨by rw [hy, hr.1], hr.2⟩

/-- What both readers of a number come to. -/
def digPart (L : List Int) : List Int := if L.head? = some 45 then L.tail else L
def numV (L : List Int) : Int := if (digPart L).length < L.length then 0 - valD (digPart L) else valD (digPart L)
def readD (L : List Int) : Int × Bool :=
  if (digPart L).length < 1 ∨ 18 < (digPart L).length then (0, false)
  else if (digPart L).all isDig = true then
    (if decL (numV L) = L then (numV L, true) else (0, false))
  else (0, false)
theorem digPart_byte {L : List Int} (hb : ∀ x ∈ L, isByte x) : ∀ x ∈ digPart L, isByte x := by
  intro x hx
  unfold digPart at hx
  split at hx
  · exact hb x (List.mem_of_mem_tail hx)
  · exact hb x hx
theorem readDecimal_eq (L : List Int) (hb : ∀ x ∈ L, isByte x) (hl : L.length ≤ 1048576) : sh159 (bytesS L) = some (readD L) := by
  unfold sh159 readD
  have e1 : (bif decide (0 < ((bytesS L).size : Int)) then (Option.bind (getS (bytesS L) 0) fun x2 => some (x2 == 45)) else (some false)) = some (decide (L.head? = some 45)) := by
    rw [bytesS_size]
    cases L with
    | nil => rfl
    | cons x xs =>
      have h := getS_ok hb (k := 0) (by simp)
      simp only [Int.natCast_zero] at h
      rw [decide_eq_true (by simp only [List.length_cons]; omega), cond_true, h, bindS]
      simp only [List.getElem_cons_zero, List.head?_cons, Option.some.injEq]
      by_cases hx : x = 45
      · subst hx; rfl
      · rw [beq_eq_false_iff_ne.2 hx, decide_eq_false hx]
  have e2 : (bif decide (L.head? = some 45) then (Option.bind (subS (bytesS L) 1 ((bytesS L).size : Int)) fun x12 => some x12) else (some (bytesS L))) = some (bytesS (digPart L)) := by
    unfold digPart
    by_cases hh : L.head? = some 45
    · rw [decide_eq_true hh, cond_true, if_pos hh, bytesS_size]
      cases L with
      | nil => cases hh
      | cons x xs =>
        have h := subS_ok hb (i := 1) (j := (x :: xs).length) (by simp) (Nat.le_refl _)
        rw [show ((1 : Nat) : Int) = 1 from rfl] at h
        rw [h, bindS]
        simp
    · rw [decide_eq_false hh, cond_false, if_neg hh]
  rw [e1, bindS, e2, bindS, bytesS_size, bytesS_size]
  have hdb := digPart_byte hb
  by_cases hlen : (digPart L).length < 1 ∨ 18 < (digPart L).length
  · rw [if_pos hlen]
    have : (decide (((digPart L).length : Int) < 1) || decide (18 < ((digPart L).length : Int))) = true := by
      rw [Bool.or_eq_true, decide_eq_true_eq, decide_eq_true_eq]; omega
    rw [this]; rfl
  · rw [if_neg hlen]
    have : (decide (((digPart L).length : Int) < 1) || decide (18 < ((digPart L).length : Int))) = false := by
      rw [Bool.or_eq_false_iff, decide_eq_false_iff_not, decide_eq_false_iff_not]; omega
    obtain ⟨h1, h2⟩ := digLoop (digPart L) hdb (by omega)
    rw [this, cond_false, h1, bindS]
    by_cases ha : (digPart L).all isDig = true
    · obtain ⟨h3, h4⟩ := h2 ha
      rw [if_pos ha, if_pos ha]
      simp only [elimS]
      have e3 : (bif decide (((digPart L).length : Int) < (L.length : Int)) then (some (w64 (0 - valD (digPart L)))) else (some (valD (digPart L)))) = some (numV L) := by
        unfold numV
        by_cases hc : (digPart L).length < L.length
        · rw [decide_eq_true (by omega), cond_true, if_pos hc, w64_id (by omega) (by omega)]
        · rw [decide_eq_false (by omega), cond_false, if_neg hc]
      rw [e3, bindS]
      have hr : -9223372036854775808 ≤ numV L ∧ numV L ≤ 9223372036854775807 := by unfold numV; split <;> omega
      rw [Decimal_eq _ hr.1 hr.2, bindS, eqS (decL_byte _) hb]
      by_cases hd : decL (numV L) = L
      · rw [if_pos hd, decide_eq_true hd]; rfl
      · rw [if_neg hd, decide_eq_false hd]; rfl
    · rw [if_neg ha, if_neg ha]; rfl
theorem numLoop_same (s : ByteArray) : sh210_1 s = sh159_1 s := by
  funext ⟨a, i⟩
  simp only [sh210_1, sh159_1, sh215]
  cases decide (i < (s.size : Int))
  · rfl
  · simp only [cond_true]
    cases hg : getS s i with
    | none => rfl
    | some x =>
      simp only [bindS]
      by_cases h5 : x < 48
      · rw [decide_eq_true h5, decide_eq_false (show ¬ 48 ≤ x by omega)]; rfl
      · rw [decide_eq_false h5, decide_eq_true (show 48 ≤ x by omega)]
        by_cases h6 : 57 < x
        · rw [decide_eq_true h6, decide_eq_false (show ¬ x ≤ 57 by omega)]; rfl
        · rw [decide_eq_false h6, decide_eq_true (show x ≤ 57 by omega)]; rfl
theorem l01Number_eq (L : List Int) (hb : ∀ x ∈ L, isByte x) (hl : L.length ≤ 1048576) : sh210 (bytesS L) = some (readD L) := by
  unfold sh210 readD
  rw [lit_nil, eqS hb (by simp)]
  have e1 : (bif !(decide (L = [])) then (Option.bind (getS (bytesS L) 0) fun x2 => some (x2 == 45)) else (some false)) = some (decide (L.head? = some 45)) := by
    cases L with
    | nil => rfl
    | cons x xs =>
      have h := getS_ok hb (k := 0) (by simp)
      simp only [Int.natCast_zero] at h
      rw [decide_eq_false (by simp), Bool.not_false, cond_true, h, bindS]
      simp only [List.getElem_cons_zero, List.head?_cons, Option.some.injEq]
      by_cases hx : x = 45
      · subst hx; rfl
      · rw [beq_eq_false_iff_ne.2 hx, decide_eq_false hx]
  have e2 : (bif decide (L.head? = some 45) then (Option.bind (subS (bytesS L) 1 ((bytesS L).size : Int)) fun x12 => some x12) else (some (bytesS L))) = some (bytesS (digPart L)) := by
    unfold digPart
    by_cases hh : L.head? = some 45
    · rw [decide_eq_true hh, cond_true, if_pos hh, bytesS_size]
      cases L with
      | nil => cases hh
      | cons x xs =>
        have h := subS_ok hb (i := 1) (j := (x :: xs).length) (by simp) (Nat.le_refl _)
        rw [show ((1 : Nat) : Int) = 1 from rfl] at h
        rw [h, bindS]
        simp
    · rw [decide_eq_false hh, cond_false, if_neg hh]
  rw [e1, bindS, e2, bindS, bytesS_size, bytesS_size, numLoop_same]
  have hdb := digPart_byte hb
  by_cases hlen : (digPart L).length < 1 ∨ 18 < (digPart L).length
  · rw [if_pos hlen]
    have : (decide (((digPart L).length : Int) < 1) || decide (18 < ((digPart L).length : Int))) = true := by
      rw [Bool.or_eq_true, decide_eq_true_eq, decide_eq_true_eq]; omega
    rw [this]; rfl
  · rw [if_neg hlen]
    have : (decide (((digPart L).length : Int) < 1) || decide (18 < ((digPart L).length : Int))) = false := by
      rw [Bool.or_eq_false_iff, decide_eq_false_iff_not, decide_eq_false_iff_not]; omega
    obtain ⟨h1, h2⟩ := digLoop (digPart L) hdb (by omega)
    rw [this, cond_false, h1, bindS]
    by_cases ha : (digPart L).all isDig = true
    · obtain ⟨h3, h4⟩ := h2 ha
      rw [if_pos ha, if_pos ha]
      simp only [elimS]
      have e3 : (bif decide (((digPart L).length : Int) < (L.length : Int)) then (some (w64 (0 - valD (digPart L)))) else (some (valD (digPart L)))) = some (numV L) := by
        unfold numV
        by_cases hc : (digPart L).length < L.length
        · rw [decide_eq_true (by omega), cond_true, if_pos hc, w64_id (by omega) (by omega)]
        · rw [decide_eq_false (by omega), cond_false, if_neg hc]
      rw [e3, bindS]
      have hr : -9223372036854775808 ≤ numV L ∧ numV L ≤ 9223372036854775807 := by unfold numV; split <;> omega
      rw [l01Dec_eq _ hr.1 hr.2, bindS, eqS (decL_byte _) hb]
      by_cases hd : decL (numV L) = L
      · rw [if_pos hd, decide_eq_true hd]; rfl
      · rw [if_neg hd, decide_eq_false hd]; rfl
    · rw [if_neg ha, if_neg ha]; rfl
/-- The characters of a number. -/
theorem decL_chars (n : Int) : ∀ x ∈ decL n, x = 45 ∨ (48 ≤ x ∧ x ≤ 57) := by
  intro x hx
  unfold decL at hx
  split at hx
  · simp at hx; omega
  · rcases List.mem_append.1 hx with h | h
    · split at h <;> simp at h; omega
    · have := digs_byte _ x h; omega
theorem readD_true {L : List Int} (h : (readD L).2 = true) : decL (readD L).1 = L ∧ (∀ x ∈ L, x = 45 ∨ (48 ≤ x ∧ x ≤ 57)) := by
  unfold readD at h ⊢
  split at h
  · cases h
  · rename_i h1
    rw [if_neg h1]
    split at h
    · rename_i h2
      rw [if_pos h2]
      split at h
      · rename_i h3
        rw [if_pos h3]
        refine ⟨h3, fun x hx => ?_⟩
        rw [← h3] at hx
        exact decL_chars _ x hx
      · cases h
    · cases h
theorem readD_false {L : List Int} (h : (readD L).2 = false) : readD L = (0, false) := by
  unfold readD at h ⊢
  split at h
  · rename_i h1; rw [if_pos h1]
  · rename_i h1
    rw [if_neg h1]
    split at h
    · rename_i h2
      rw [if_pos h2]
      split at h
      · cases h
      · rename_i h3; rw [if_neg h3]
    · rename_i h2; rw [if_neg h2]
theorem readD_decL (n : Int) (h1 : -1000000000000000000 < n) (h2 : n < 1000000000000000000) : readD (decL n) = (n, true) := by
  by_cases h0 : n = 0
  · subst h0; rfl
  · have hN : n.natAbs < 10 ^ 18 := by omega
    have hl := digs_len 18 _ hN
    have hne := List.length_pos_iff.2 (digs_ne (n := n.natAbs) (by omega))
    have hall := digs_isDig n.natAbs
    have hv := valD_digs n.natAbs
    by_cases hneg : n < 0
    · have hL : decL n = 45 :: digs n.natAbs := by unfold decL; rw [if_neg h0, if_pos hneg]; rfl
      have hD : digPart (decL n) = digs n.natAbs := by unfold digPart; rw [hL]; rfl
      have hc : (digs n.natAbs).length < (decL n).length := by rw [hL]; simp
      have hv2 : numV (decL n) = n := by unfold numV; rw [hD, if_pos hc, hv]; omega
      unfold readD
      rw [hv2, hD, if_neg (by omega), if_pos hall, if_pos rfl]
    · have hL : decL n = digs n.natAbs := by unfold decL; rw [if_neg h0, if_neg hneg]; rfl
      have hD : digPart (decL n) = digs n.natAbs := by
        unfold digPart
        rw [hL, if_neg]
        cases hh : digs n.natAbs with
        | nil => simp
        | cons x xs =>
          have := digs_byte n.natAbs x (by rw [hh]; simp)
          simp; omega
      have hv2 : numV (decL n) = n := by unfold numV; rw [hD, if_neg (by rw [hL]; omega), hv]; omega
      unfold readD
      rw [hv2, hD, if_neg (by omega), if_pos hall, if_pos rfl]
theorem readD_range {L : List Int} (h : (readD L).2 = true) : -1000000000000000000 < (readD L).1 ∧ (readD L).1 < 1000000000000000000 := by
  have hL := (readD_true h).1
  have hl : (digPart L).length ≤ 18 := by
    unfold readD at h
    split at h
    · cases h
    · omega
  generalize (readD L).1 = n at hL
  have hd : digs n.natAbs = [] ∨ digs n.natAbs = digPart L := by
    by_cases h0 : n = 0
    · left; subst h0; rw [Int.natAbs_zero, digs_zero]
    · right
      rw [← hL]
      by_cases hneg : n < 0
      · have hL : decL n = 45 :: digs n.natAbs := by unfold decL; rw [if_neg h0, if_pos hneg]; rfl
        unfold digPart; rw [hL]; rfl
      · have hL : decL n = digs n.natAbs := by unfold decL; rw [if_neg h0, if_neg hneg]; rfl
        unfold digPart
        rw [hL, if_neg]
        cases hh : digs n.natAbs with
        | nil => simp
        | cons x xs =>
          have := digs_byte n.natAbs x (by rw [hh]; simp)
          simp; omega
  have hlt : ∀ (k m : Nat), (digs m).length ≤ k → m < 10 ^ k := by
    intro k
    induction k with
    | zero =>
      intro m hm
      rcases Nat.eq_zero_or_pos m with h | h
      · subst h; simp
      · rw [digs_pos h] at hm; simp at hm
    | succ k ih =>
      intro m hm
      rcases Nat.eq_zero_or_pos m with h | h
      · subst h; exact Nat.pow_pos (by omega)
      · rw [digs_pos h, List.length_append] at hm
        have := ih (m / 10) (by simp at hm; omega)
        rw [Nat.pow_succ]; omega
  have : n.natAbs < 10 ^ 18 := hlt 18 _ (by
    rcases hd with h | h
    · rw [h]; simp
    · rw [h]; exact hl)
  omega
theorem l20Number_eq (L : List Int) (hb : ∀ x ∈ L, isByte x) (hl : L.length ≤ 1048576) : ∃ r, sh164 (bytesS L) = some r ∧ r.2 = (readD L).2 ∧ (r.2 = true → r.1 = (readD L).1) := by
  unfold sh164
  rw [lit_nil, eqS hb (by simp)]
  have e1 : (bif !(decide (L = [])) then (Option.bind (getS (bytesS L) 0) fun x2 => some (x2 == 45)) else (some false)) = some (decide (L.head? = some 45)) := by
    cases L with
    | nil => rfl
    | cons x xs =>
      have h := getS_ok hb (k := 0) (by simp)
      simp only [Int.natCast_zero] at h
      rw [decide_eq_false (by simp), Bool.not_false, cond_true, h, bindS]
      simp only [List.getElem_cons_zero, List.head?_cons, Option.some.injEq]
      by_cases hx : x = 45
      · subst hx; rfl
      · rw [beq_eq_false_iff_ne.2 hx, decide_eq_false hx]
  rw [e1, bindS]
  by_cases hh : L.head? = some 45
  · rw [decide_eq_true hh, cond_true, bytesS_size]
    cases L with
    | nil => cases hh
    | cons x T =>
      simp only [List.head?_cons, Option.some.injEq] at hh
      subst hh
      have h := subS_ok hb (i := 1) (j := ((45 : Int) :: T).length) (by simp) (Nat.le_refl _)
      rw [show ((1 : Nat) : Int) = 1 from rfl] at h
      have hT : ∀ x ∈ T, isByte x := fun x hx => hb x (List.mem_cons_of_mem _ hx)
      have hd1 : (List.take (((45 : Int) :: T).length - 1) (List.drop 1 (45 :: T))) = T := by simp
      rw [h, bindS, hd1, l01Number_eq T hT (by simp only [List.length_cons] at hl; omega), bindS]
      cases hr : (readD T).2
      · have hr0 := readD_false hr
        refine ⟨_, rfl, ?_, fun h => by simp at h⟩
        simp only [Bool.false_and]
        cases hq : (readD (45 :: T)).2
        · rfl
        · exfalso
          have hL := (readD_true hq).1
          have hrg := readD_range hq
          generalize (readD (45 :: T)).1 = n at hL hrg
          have h0 : n ≠ 0 := fun h => by subst h; simp [decL] at hL
          by_cases hneg : n < 0
          · have hL2 : decL n = 45 :: digs n.natAbs := by unfold decL; rw [if_neg h0, if_pos hneg]; rfl
            rw [hL2] at hL
            have hT2 : digs n.natAbs = T := (List.cons.inj hL).2
            have h3 := readD_decL (n.natAbs : Int) (by omega) (by omega)
            have hL3 : decL (n.natAbs : Int) = digs n.natAbs := by unfold decL; rw [if_neg (by omega), if_neg (by omega), Int.natAbs_natCast]; rfl
            rw [hL3, hT2] at h3
            rw [h3] at hr
            cases hr
          · have hL2 : decL n = digs n.natAbs := by unfold decL; rw [if_neg h0, if_neg hneg]; rfl
            rw [hL2] at hL
            have := digs_byte n.natAbs 45 (by rw [hL]; simp)
            omega
      · have hrg := readD_range hr
        have hL := (readD_true hr).1
        simp only [Bool.true_and]
        rw [w64_id (by omega) (by omega)]
        generalize (readD T).1 = m at hL hrg
        by_cases hm : 0 < m
        · have hL2 : decL m = digs m.natAbs := by unfold decL; rw [if_neg (by omega), if_neg (by omega)]; rfl
          have hL3 : decL (0 - m) = 45 :: T := by
            unfold decL
            rw [if_neg (by omega), if_pos (by omega), ← hL, hL2, show (0 - m).natAbs = m.natAbs by omega]; rfl
          have h3 := readD_decL (0 - m) (by omega) (by omega)
          rw [hL3] at h3
          rw [h3]
          exact ⟨_, rfl, by simp [hm], fun _ => rfl⟩
        · refine ⟨_, rfl, ?_, fun h => by simp [hm] at h⟩
          simp only [decide_eq_false hm]
          cases hq : (readD (45 :: T)).2
          · rfl
          · exfalso
            have hL4 := (readD_true hq).1
            have hrg4 := readD_range hq
            generalize (readD (45 :: T)).1 = n at hL4 hrg4
            have h0 : n ≠ 0 := fun h => by subst h; simp [decL] at hL4
            by_cases hneg : n < 0
            · have hL2 : decL n = 45 :: digs n.natAbs := by unfold decL; rw [if_neg h0, if_pos hneg]; rfl
              rw [hL2] at hL4
              have hT2 : digs n.natAbs = T := (List.cons.inj hL4).2
              have h3 := readD_decL (n.natAbs : Int) (by omega) (by omega)
              have hL3 : decL (n.natAbs : Int) = digs n.natAbs := by unfold decL; rw [if_neg (by omega), if_neg (by omega), Int.natAbs_natCast]; rfl
              have h5 := readD_decL m (by omega) (by omega)
              rw [hL3, hT2] at h3
              rw [hL] at h5
              rw [h3] at h5
              have := congrArg Prod.fst h5
              simp only at this
              omega
            · have hL2 : decL n = digs n.natAbs := by unfold decL; rw [if_neg h0, if_neg hneg]; rfl
              rw [hL2] at hL4
              have := digs_byte n.natAbs 45 (by rw [hL4]; simp)
              omega
  · rw [decide_eq_false hh, cond_false, l01Number_eq L hb hl, bindS]
    exact ⟨_, rfl, rfl, fun _ => rfl⟩

/-! joined -/
def jstep (sep : List Int) (s : Nat × List Int) (p : List Int) : Nat × List Int := (s.1 + 1, (if 0 < s.1 then s.2 ++ sep else s.2) ++ p)
/-- Lists of bytes, joined. -/
def joinL (sep : List Int) (ps : List (List Int)) : List Int := (ps.foldl (jstep sep) (0, [])).2
theorem jstep_len {sep p : List Int} {s : Nat × List Int} {k B : Nat} (hs : sep.length ≤ 100) (hp : p.length ≤ B) (h : s.2.length ≤ (B + 100) * k) : (jstep sep s p).2.length ≤ (B + 100) * (k + 1) := by
  unfold jstep
  simp only [List.length_append]
  rw [Nat.mul_succ]
  split
  · rw [List.length_append]; omega
  · omega

theorem joined_eq (ps : List (List Int)) (sep : List Int) (hn : ps.length ≤ 1048576) (hs : sep.length ≤ 100) (hp : ∀ p ∈ ps, p.length ≤ 10000) : sh166 (ps.map bytesS) (bytesS sep) = some (bytesS (joinL sep ps)) := by
  unfold sh166
  have hi := iter_fold (sb := sh166_1 (ps.map bytesS) (bytesS sep)) ps (fun k (s : Nat × List Int) => (bytesS s.2, (k : Int))) (jstep sep) (fun s => bytesS s.2) (fun k s => s.1 = k ∧ s.2.length ≤ 10100 * k) (0, []) ⟨rfl, by simp⟩ (by omega) (fun k hk s hI => ?_) (fun s _ => by
      have hd : decide ((ps.length : Int) < ((ps.map bytesS).length : Int)) = false := by simp
      simp only [sh166_1, hd, cond_false])
  · have h1 := hi.1
    simp only [Int.natCast_zero] at h1
    rw [lit_nil, h1, bindS]
    rfl
  · obtain ⟨n, l⟩ := s
    obtain ⟨rfl, h2⟩ := hI
    simp only at h2
    have hpk : ps[n].length ≤ 10000 := hp _ (List.getElem_mem hk)
    refine ⟨?_, rfl, jstep_len (B := 10000) hs hpk h2⟩
    have hk2 : n < (ps.map bytesS).length := by simpa using hk
    have h3 : (n : Int) < (ps.map bytesS).length := by omega
    simp only [sh166_1, h3, decide_true, cond_true, getI_lt hk2, bindS, List.getElem_map]
    rw [w64_id (by omega) (by omega)]
    by_cases h0 : 0 < n
    · have h4 : decide ((0 : Int) < (n : Int)) = true := decide_eq_true (by omega)
      rw [h4, cond_true, catS_ok (by omega), bindS, bindS, catS_ok (by rw [List.length_append]; omega), bindS]
      simp [jstep, h0]
    · have h4 : decide ((0 : Int) < (n : Int)) = false := decide_eq_false (by omega)
      rw [h4, cond_false, bindS, catS_ok (by omega), bindS]
      simp [jstep, h0]

theorem decimals_eq (w : List Int) (sep : List Int) (hn : w.length ≤ 1048576) (hs : sep.length ≤ 100) (hr : ∀ x ∈ w, -9223372036854775808 ≤ x ∧ x ≤ 9223372036854775807) : sh156 w (bytesS sep) = some (bytesS (joinL sep (w.map decL))) := by
  unfold sh156
  have hi := iter_fold (sb := sh156_1 w) w (fun k (l : List ByteArray) => ((k : Int), l)) (fun acc m => acc ++ [bytesS (decL m)]) (fun l => l) (fun k l => l.length = k) [] rfl (by omega) (fun k hk l hI => ?_) (fun l _ => by
      have hd : decide ((w.length : Int) < (w.length : Int)) = false := by simp
      simp only [sh156_1, hd, cond_false])
  · have h1 := hi.1
    simp only [Int.natCast_zero] at h1
    rw [h1, bindS, foldl_snoc, List.nil_append]
    have h2 : w.map (fun m => bytesS (decL m)) = (w.map decL).map bytesS := by rw [List.map_map]; rfl
    rw [h2, joined_eq _ _ (by rw [List.length_map]; exact hn) hs (fun p hp => by
      obtain ⟨x, hx, rfl⟩ := List.mem_map.1 hp
      have := decL_len (hr x hx).1 (hr x hx).2
      omega), bindS]
  · have h2 : (k : Int) < w.length := by omega
    have hx := hr _ (List.getElem_mem hk)
    refine ⟨?_, by simp [hI]⟩
    simp only [sh156_1, h2, decide_true, cond_true, getI_lt hk, bindS, Decimal_eq _ hx.1 hx.2]
    rw [appL_ok (by simp only [List.length_cons, List.length_nil]; omega), bindS, w64_id (by omega) (by omega)]
    rfl

/-! tooltext -/
theorem moveB_rng {m : SToolMove} (h : moveB m = true) : ((-100000 ≤ m.X ∧ m.X ≤ 100000) ∧ (-100000 ≤ m.Y ∧ m.Y ≤ 100000)) ∧ (-500 ≤ m.Z ∧ m.Z ≤ 500) := by
  unfold moveB coB at h
  simp only [Bool.and_eq_true, decide_eq_true_eq] at h
  exact h
def tmL (m : SToolMove) : List Int := decL m.X ++ [32] ++ decL m.Y ++ [32] ++ decL m.Z ++ [10]
def toolL (q : List SToolMove) : List Int := q.foldl (fun l m => l ++ tmL m) []
theorem tmL_len {m : SToolMove} (h : moveB m = true) : (tmL m).length ≤ 70 := by
  obtain ⟨⟨hx, hy⟩, hz⟩ := moveB_rng h
  have h1 := decL_len (n := m.X) (by omega) (by omega)
  have h2 := decL_len (n := m.Y) (by omega) (by omega)
  have h3 := decL_len (n := m.Z) (by omega) (by omega)
  unfold tmL
  simp only [List.length_append, List.length_cons, List.length_nil]
  omega
theorem tmL_byte (m : SToolMove) : ∀ x ∈ tmL m, 0 ≤ x ∧ x < 256 := by
  intro x hx
  unfold tmL at hx
  simp only [List.mem_append, List.mem_cons, List.not_mem_nil, or_false] at hx
  rcases hx with ((((h | h) | h) | h) | h) | h
  · exact decL_byte _ x h
  · omega
  · exact decL_byte _ x h
  · omega
  · exact decL_byte _ x h
  · omega
theorem movesB_all {q : List SToolMove} (h : movesB q = true) : ∀ p ∈ q, moveB p = true := by
  unfold movesB at h
  simp only [Bool.and_eq_true, List.all_eq_true] at h
  exact h.1

theorem l22Text_eq (q : List SToolMove) (hv : ∀ p ∈ q, moveB p = true) (hl : q.length ≤ 1048576) : sh160 q = some (bytesS (toolL q)) := by
  unfold sh160
  have hi := iter_fold (sb := sh160_1 q) q (fun k (l : List Int) => ((k : Int), l)) (fun l m => l ++ tmL m) (fun l => l) (fun k l => l.length ≤ 70 * k) [] (by simp) (by omega) (fun k hk l h2 => ?_) (fun s _ => by
      have hd : decide ((q.length : Int) < (q.length : Int)) = false := by simp
      simp only [sh160_1, hd, cond_false])
  · have h1 := hi.1
    simp only [Int.natCast_zero] at h1
    rw [h1, bindS]
    rfl
  · have hc := hv _ (List.getElem_mem hk)
    obtain ⟨⟨hx, hy⟩, hz⟩ := moveB_rng hc
    have b1 := decL_len (n := q[k].X) (by omega) (by omega)
    have b2 := decL_len (n := q[k].Y) (by omega) (by omega)
    have b3 := decL_len (n := q[k].Z) (by omega) (by omega)
    have hp := tmL_len hc
    refine ⟨?_, by rw [List.length_append]; omega⟩
    have h3 : (k : Int) < q.length := by omega
    simp only [sh160_1, h3, decide_true, cond_true, getI_lt hk, bindS, l01Dec_eq _ (show -9223372036854775808 ≤ q[k].X by omega) (show q[k].X ≤ 9223372036854775807 by omega), l01Dec_eq _ (show -9223372036854775808 ≤ q[k].Y by omega) (show q[k].Y ≤ 9223372036854775807 by omega), l01Dec_eq _ (show -9223372036854775808 ≤ q[k].Z by omega) (show q[k].Z ≤ 9223372036854775807 by omega)]
    rw [w64_id (by omega) (by omega), lit_blank, show (ByteArray.mk #[10] : ByteArray) = bytesS [10] from rfl, catS_ok (by simp only [List.length_cons, List.length_nil]; omega), bindS, catS_ok (by simp only [List.length_append, List.length_cons, List.length_nil]; omega), bindS, catS_ok (by simp only [List.length_append, List.length_cons, List.length_nil]; omega), bindS, catS_ok (by simp only [List.length_append, List.length_cons, List.length_nil]; omega), bindS, catS_ok (by simp only [List.length_append, List.length_cons, List.length_nil]; omega), bindS]
    rw [show decL q[k].X ++ [32] ++ decL q[k].Y ++ [32] ++ decL q[k].Z ++ [10] = tmL q[k] from rfl, strI_bytesS (tmL_byte _), appL_ok (by omega), bindS]
    rfl

theorem implToolText_eq (q : List SToolMove) (h : q.length ≤ 1048576) : sh73 q = some (bytesS (if movesB q = true then toolL q else [])) := by
  unfold sh73
  rw [validMoves_eq q h, bindS]
  cases hv : movesB q
  · rfl
  · have hi := iter_fold (sb := sh73_1 q) q (fun k (l : List Int) => (bytesS l, (k : Int))) (fun l m => l ++ tmL m) (fun l => bytesS l) (fun k l => l.length ≤ 70 * k) [] (by simp) (by omega) (fun k hk l h2 => ?_) (fun s _ => by
      have hd : decide ((q.length : Int) < (q.length : Int)) = false := by simp
      simp only [sh73_1, hd, cond_false])
    · have h1 := hi.1
      simp only [Int.natCast_zero] at h1
      simp only [Bool.not_true, cond_false, if_true]
      rw [lit_nil, h1, bindS]
      rfl
    · have hc := movesB_all hv _ (List.getElem_mem hk)
      obtain ⟨⟨hx, hy⟩, hz⟩ := moveB_rng hc
      have hp := tmL_len hc
      refine ⟨?_, by rw [List.length_append]; omega⟩
      have h3 : (k : Int) < q.length := by omega
      have hdec := decimals_eq [q[k].X, q[k].Y, q[k].Z] [32] (by simp) (by simp) (fun x hx => by
        simp only [List.mem_cons, List.not_mem_nil, or_false] at hx
        rcases hx with rfl | rfl | rfl <;> omega)
      have ej : joinL [32] ([q[k].X, q[k].Y, q[k].Z].map decL) ++ [10] = tmL q[k] := by simp [joinL, jstep, tmL]
      have el : (joinL [32] ([q[k].X, q[k].Y, q[k].Z].map decL)).length + 1 = (tmL q[k]).length := by rw [← ej]; simp
      simp only [sh73_1, h3, decide_true, cond_true, getI_lt hk, bindS]
      rw [w64_id (by omega) (by omega), lit_blank, hdec, bindS, show (ByteArray.mk #[10] : ByteArray) = bytesS [10] from rfl, catS_ok (by simp only [List.length_cons, List.length_nil]; omega), bindS, ej, catS_ok (by omega), bindS]
      rfl
theorem toolText_same (q : List SToolMove) (h : q.length ≤ 1048576) : sh77 q = sh73 q := by
  rw [implToolText_eq q h]
  unfold sh77
  rw [l22Ok_eq q h, bindS]
  cases hv : movesB q
  · rfl
  · simp only [Bool.not_true, cond_false, if_true]
    rw [l22Text_eq q (movesB_all hv) h, bindS]

/-! readtool -/
theorem splitL_snoc (b : Int) : ∀ T : List Int, splitL b (T ++ [b]) = splitL b T ++ [[]]
  | [] => by simp [splitL]
  | x :: xs => by
    rw [List.cons_append, splitL, splitL, splitL_snoc b xs]
    split
    · rfl
    · cases hs : splitL b xs with
      | nil => exact absurd hs (splitL_ne b xs)
      | cons u t => rfl
theorem splitL_last (b : Int) : ∀ (T : List Int) (x : Int), x ≠ b → ∃ ws w, splitL b (T ++ [x]) = ws ++ [w] ∧ w ≠ []
  | [], x, hx => ⟨[], [x], by simp [splitL, hx, consHead], by simp⟩
  | y :: ys, x, hx => by
    obtain ⟨ws, w, h1, h2⟩ := splitL_last b ys x hx
    rw [List.cons_append, splitL, h1]
    split
    · exact ⟨[] :: ws, w, rfl, h2⟩
    · cases ws with
      | nil => exact ⟨[], y :: w, rfl, by simp⟩
      | cons u t => exact ⟨(y :: u) :: t, w, rfl, h2⟩
def toolP (w : List Int) : Option SToolMove := match splitL 32 w with
  | [a, b, c] => if ((readD a).2 = true ∧ (readD b).2 = true) ∧ (readD c).2 = true then some ⟨(readD a).1, (readD b).1, (readD c).1⟩ else none
  | _ => none
/-- What both come to, of the lines. -/
def readToolR (ls : List (List Int)) : List SToolMove × Bool := if ls.length ≤ 700 then (match mapO toolP ls with
  | some ms => if movesB ms = true then (ms, true) else ([], false)
  | none => ([], false)) else ([], false)
theorem tool_round_spec (W : List (List Int)) (hW : ∀ w ∈ W, (∀ x ∈ w, isByte x) ∧ w.length ≤ 1048576) (last : List Int) (hn : W.length ≤ 1048576) :
    iter (sh76_1 ((W ++ [last]).map bytesS)) (0, []) = some (match mapO toolP W with | some ps => .inl ps | none => .inr ([], false)) := by
  have hlen : (((W ++ [last]).map bytesS).length : Int) = (W.length : Int) + 1 := by simp
  have hi := iter_mapO (sb := sh76_1 ((W ++ [last]).map bytesS)) W toolP (([], false) : List SToolMove × Bool) 2000000 1 (by omega) (fun k hk out ho _ => ?_) (fun out ho => ?_)
  · rw [if_pos (by omega)] at hi
    rw [hi]
    cases mapO toolP W <;> rfl
  · rw [if_neg (by omega), Nat.one_mul]
    have hWk := hW _ (List.getElem_mem hk)
    obtain ⟨vn, vw⟩ := splitL_bound (b := 32) W[k]
    have hvb := splitL_mem (b := 32) (p := isByte) hWk.1
    have hd : decide ((k : Int) < w64 ((((W ++ [last]).map bytesS).length : Int) - 1)) = true := by rw [hlen, w64_id (by omega) (by omega)]; exact decide_eq_true (by omega)
    have hk2 : k < ((W ++ [last]).map bytesS).length := by simp; omega
    have hg : getI ((W ++ [last]).map bytesS) (k : Int) = some (bytesS W[k]) := by
      rw [getI_lt hk2, List.getElem_map, List.getElem_append_left hk]
    simp only [sh76_1, hd, cond_true, hg, bindS, l01Split_eq _ 32 hWk.1 hWk.2]
    unfold toolP
    rcases hs : splitL 32 W[k] with _ | ⟨a, _ | ⟨b, _ | ⟨c, _ | ⟨d, t⟩⟩⟩⟩
    · exact absurd hs (splitL_ne _ _)
    · rfl
    · rfl
    · rw [hs] at vw hvb
      obtain ⟨na, ra, fa, va⟩ := l20Number_eq a (hvb a (by simp)) (by have := vw a (by simp); omega)
      obtain ⟨nb, rb, fb, vb⟩ := l20Number_eq b (hvb b (by simp)) (by have := vw b (by simp); omega)
      obtain ⟨nc, rc, fc, vc⟩ := l20Number_eq c (hvb c (by simp)) (by have := vw c (by simp); omega)
      have g0 : getI ([a, b, c].map bytesS) 0 = some (bytesS a) := rfl
      have g1 : getI ([a, b, c].map bytesS) 1 = some (bytesS b) := rfl
      have g3 : getI ([a, b, c].map bytesS) 2 = some (bytesS c) := rfl
      have g2 : ((([a, b, c].map bytesS).length : Int) != 3) = false := rfl
      rw [g2, cond_false, g0, bindS, ra, bindS, g1, bindS, rb, bindS, g3, bindS, rc, bindS]
      cases h3 : (readD a).2 <;> cases h4 : (readD b).2 <;> cases h5 : (readD c).2 <;> rw [h3] at fa <;> rw [h4] at fb <;> rw [h5] at fc
      · simp [h3, h4, h5, fa, fb, fc]
      · simp [h3, h4, h5, fa, fb, fc]
      · simp [h3, h4, h5, fa, fb, fc]
      · simp [h3, h4, h5, fa, fb, fc]
      · simp [h3, h4, h5, fa, fb, fc]
      · simp [h3, h4, h5, fa, fb, fc]
      · simp [h3, h4, h5, fa, fb, fc]
      · simp only [h3, h4, h5, fa, fb, fc, va fa, vb fb, vc fc, Bool.not_true, Bool.or_self, cond_false, and_self, if_true]
        rw [appL_ok (by simp only [List.length_cons, List.length_nil]; omega), bindS, w64_id (by omega) (by omega), Nat.one_mul]
        rfl
    · have : (((a :: b :: c :: d :: t).map bytesS).length : Int) ≠ 3 := by simp only [List.length_map, List.length_cons]; omega
      rw [bne_iff_ne.2 this]
      rfl
  · have hd : decide (((1 * W.length : Nat) : Int) < w64 ((((W ++ [last]).map bytesS).length : Int) - 1)) = false := by rw [hlen, w64_id (by omega) (by omega)]; exact decide_eq_false (by omega)
    simp only [sh76_1, hd, cond_false]
theorem tool_three (a b c : List Int) (ha : ∀ x ∈ a, isByte x) (hb : ∀ x ∈ b, isByte x) (hc : ∀ x ∈ c, isByte x) (la : a.length ≤ 1048576) (lb : b.length ≤ 1048576) (lc : c.length ≤ 1048576) :
    iter (sh74_2 ([a, b, c].map bytesS)) (0, List.replicate 3 (0 : Int)) = some (if ((readD a).2 = true ∧ (readD b).2 = true) ∧ (readD c).2 = true then .inl [(readD a).1, (readD b).1, (readD c).1] else .inr ([], false)) := by
  have hi := iter_res (sb := sh74_2 ([a, b, c].map bytesS)) (fun k => ((k : Int), match k with | 0 => [0, 0, 0] | 1 => [(readD a).1, 0, 0] | 2 => [(readD a).1, (readD b).1, 0] | _ => [(readD a).1, (readD b).1, (readD c).1]))
    (fun k => match k with
      | 0 => if ((readD a).2 = true ∧ (readD b).2 = true) ∧ (readD c).2 = true then (.inl [(readD a).1, (readD b).1, (readD c).1] : List Int ⊕ (List SToolMove × Bool)) else .inr ([], false)
      | 1 => if (readD b).2 = true ∧ (readD c).2 = true then .inl [(readD a).1, (readD b).1, (readD c).1] else .inr ([], false)
      | 2 => if (readD c).2 = true then .inl [(readD a).1, (readD b).1, (readD c).1] else .inr ([], false)
      | _ => .inl [(readD a).1, (readD b).1, (readD c).1]) 3 (by omega) (fun k hk => ?_) (by rfl)
  · exact hi
  · have hd : decide ((k : Int) < (([a, b, c].map bytesS).length : Int)) = true := decide_eq_true (by simp; omega)
    have hw : w64 ((k : Int) + 1) = ((k + 1 : Nat) : Int) := by rw [w64_id (by omega) (by omega)]; omega
    match k, hk with
    | 0, _ =>
      have g0 : getI ([a, b, c].map bytesS) ((0 : Nat) : Int) = some (bytesS a) := rfl
      have g1 : getI ([0, 0, 0] : List Int) ((0 : Nat) : Int) = some 0 := rfl
      simp only [sh74_2, hd, cond_true, g0, bindS, readDecimal_eq a ha la, g1, hw]
      cases h : (readD a).2
      · right; simp [h]
      · left; exact ⟨rfl, by simp⟩
    | 1, _ =>
      have g0 : getI ([a, b, c].map bytesS) ((1 : Nat) : Int) = some (bytesS b) := rfl
      have g1 : getI ([(readD a).1, 0, 0] : List Int) ((1 : Nat) : Int) = some 0 := rfl
      simp only [sh74_2, hd, cond_true, g0, bindS, readDecimal_eq b hb lb, g1, hw]
      cases h : (readD b).2
      · right; simp [h]
      · left; exact ⟨rfl, by simp⟩
    | 2, _ =>
      have g0 : getI ([a, b, c].map bytesS) ((2 : Nat) : Int) = some (bytesS c) := rfl
      have g1 : getI ([(readD a).1, (readD b).1, 0] : List Int) ((2 : Nat) : Int) = some 0 := rfl
      simp only [sh74_2, hd, cond_true, g0, bindS, readDecimal_eq c hc lc, g1, hw]
      cases h : (readD c).2
      · right; simp [h]
      · left; exact ⟨rfl, by simp⟩
theorem tool_round_impl (W : List (List Int)) (fl : Bool) (hW : ∀ w ∈ W, (∀ x ∈ w, isByte x) ∧ w.length ≤ 1048576) (hn : W.length ≤ 1048576) :
    iter (sh74_1 (W.map bytesS, fl)) (0, []) = some (match mapO toolP W with | some ps => .inl ps | none => .inr ([], false)) := by
  have hi := iter_mapO (sb := sh74_1 (W.map bytesS, fl)) W toolP (([], false) : List SToolMove × Bool) 2000000 1 (by omega) (fun k hk out ho _ => ?_) (fun out ho => ?_)
  · rw [if_pos (by omega)] at hi
    rw [hi]
    cases mapO toolP W <;> rfl
  · rw [if_neg (by omega), Nat.one_mul]
    have hWk := hW _ (List.getElem_mem hk)
    obtain ⟨vn, vw⟩ := splitL_bound (b := 32) W[k]
    have hvb := splitL_mem (b := 32) (p := isByte) hWk.1
    have hk2 : k < (W.map bytesS).length := by simpa using hk
    have hd : decide ((k : Int) < ((W.map bytesS).length : Int)) = true := decide_eq_true (by omega)
    simp only [sh74_1, hd, cond_true, getI_lt hk2, List.getElem_map, bindS, splitAt_eq _ 32 hWk.1 hWk.2]
    unfold toolP
    rcases hs : splitL 32 W[k] with _ | ⟨a, _ | ⟨b, _ | ⟨c, _ | ⟨d, t⟩⟩⟩⟩
    · exact absurd hs (splitL_ne _ _)
    · rfl
    · rfl
    · rw [hs] at vw hvb
      have h3 := tool_three a b c (hvb a (by simp)) (hvb b (by simp)) (hvb c (by simp)) (by have := vw a (by simp); omega) (by have := vw b (by simp); omega) (by have := vw c (by simp); omega)
      have g2 : ((([a, b, c].map bytesS).length : Int) != 3) = false := rfl
      rw [g2, cond_false, h3, bindS]
      by_cases hf : ((readD a).2 = true ∧ (readD b).2 = true) ∧ (readD c).2 = true
      · simp only [if_pos hf, elimS]
        have e0 : getI [(readD a).1, (readD b).1, (readD c).1] 0 = some (readD a).1 := rfl
        have e1 : getI [(readD a).1, (readD b).1, (readD c).1] 1 = some (readD b).1 := rfl
        have e2 : getI [(readD a).1, (readD b).1, (readD c).1] 2 = some (readD c).1 := rfl
        rw [e0, bindS, e1, bindS, e2, bindS, appL_ok (by simp only [List.length_cons, List.length_nil]; omega), bindS, w64_id (by omega) (by omega), Nat.one_mul]
        rfl
      · simp only [if_neg hf, elimS]
    · have : (((a :: b :: c :: d :: t).map bytesS).length : Int) ≠ 3 := by simp only [List.length_map, List.length_cons]; omega
      rw [bne_iff_ne.2 this]
      rfl
  · have hd : decide (((1 * W.length : Nat) : Int) < ((W.map bytesS).length : Int)) = false := by rw [List.length_map, Nat.one_mul]; simp
    simp only [sh74_1, hd, cond_false]
theorem implReadTool_lines (W : List (List Int)) (hW : ∀ w ∈ W, (∀ x ∈ w, isByte x) ∧ w.length ≤ 1048576) (hn : W.length ≤ 1048576) (s : ByteArray) (hs : sh157 s = some (W.map bytesS, true)) : sh74 s = some (readToolR W) := by
  unfold sh74 readToolR
  rw [hs, bindS, List.length_map]
  by_cases hc : W.length ≤ 700
  · rw [decide_eq_false (by omega), if_pos hc]
    simp only [Bool.not_true, Bool.or_self, cond_false]
    rw [tool_round_impl W true hW hn, bindS]
    cases hm : mapO toolP W with
    | none => rfl
    | some ps =>
      have hpl := mapO_length hm
      simp only [elimS, validMoves_eq ps (show ps.length ≤ 1048576 by omega), bindS]
      cases movesB ps <;> rfl
  · rw [decide_eq_true (by omega), if_neg hc]; rfl
theorem specReadTool_lines (W : List (List Int)) (last : List Int) (hW : ∀ w ∈ W, (∀ x ∈ w, isByte x) ∧ w.length ≤ 1048576) (hlb : ∀ x ∈ last, isByte x) (hn : W.length ≤ 1048576) (s : ByteArray) (hs : sh163 s 10 = some ((W ++ [last]).map bytesS)) :
    sh76 s = some (if last = [] then readToolR W else ([], false)) := by
  unfold sh76 readToolR
  have hlen : (((W ++ [last]).map bytesS).length : Int) = (W.length : Int) + 1 := by simp
  have hg : getI ((W ++ [last]).map bytesS) (w64 ((((W ++ [last]).map bytesS).length : Int) - 1)) = some (bytesS last) := by
    rw [hlen, w64_id (by omega) (by omega), show (W.length : Int) + 1 - 1 = (W.length : Int) by omega, getI_lt (by simp), List.getElem_map, List.getElem_append_right (by omega)]
    simp
  rw [hs, bindS, hg, bindS, lit_nil, eqS hlb (by simp), hlen]
  by_cases hl : last = []
  · subst hl
    rw [decide_eq_true (show ([] : List Int) = [] from rfl)]
    by_cases hc : W.length ≤ 700
    · rw [decide_eq_false (by omega)]
      simp only [if_pos hc, if_true, Bool.not_true, Bool.or_self, cond_false]
      rw [tool_round_spec W hW [] hn, bindS]
      cases hm : mapO toolP W with
      | none => rfl
      | some ps =>
        have hpl := mapO_length hm
        simp only [elimS, l22Ok_eq ps (show ps.length ≤ 1048576 by omega), bindS]
        cases movesB ps <;> rfl
    · rw [decide_eq_true (by omega)]
      simp only [if_neg hc, if_true, Bool.or_true, cond_true]
  · rw [decide_eq_false hl, if_neg hl]
    simp only [Bool.not_false, Bool.true_or, cond_true]
theorem readTool_total (s : ByteArray) (h : s.size ≤ 1048576) : ∃ r, sh76 s = some r ∧ sh74 s = some r ∧ r.1.length ≤ 700 := by
  have hb := strI_byte s
  have hl : (strI s).length ≤ 1048576 := by rw [strI_length]; exact h
  rw [← bytesS_strI s]
  generalize strI s = L at hb hl
  have hsp := l01Split_eq L 10 hb hl
  have bound : ∀ W, (readToolR W).1.length ≤ 700 := by
    intro W
    unfold readToolR
    split
    · split
      · split
        · rename_i hs; exact movesB_len hs
        · simp
      · simp
    · simp
  rcases List.eq_nil_or_concat L with rfl | ⟨T, x, rfl⟩
  · rw [show splitL 10 ([] : List Int) = [] ++ [[]] from rfl] at hsp
    have h1 := specReadTool_lines [] [] (by simp) (by simp) (by simp) _ hsp
    have h2 := implReadTool_lines [] (by simp) (by simp) (bytesS []) (by
      unfold sh157
      rw [lit_nil, eqS (by simp) (by simp)]; rfl)
    rw [if_pos rfl] at h1
    exact ⟨_, h1, h2, bound _⟩
  · have hTb : ∀ y ∈ T, isByte y := fun y hy => hb y (by simp [hy])
    have hTl : T.length ≤ 1048575 := by simp at hl; omega
    simp only [List.concat_eq_append] at hb hl hsp ⊢
    have hg : getS (bytesS (T ++ [x])) (w64 (((bytesS (T ++ [x])).size : Int) - 1)) = some x := by
      rw [bytesS_size, List.length_append, List.length_singleton, w64_id (by omega) (by omega), show ((T.length + 1 : Nat) : Int) - 1 = (T.length : Int) by omega, getS_ok hb (by simp)]
      simp
    by_cases hx : x = 10
    · subst hx
      obtain ⟨hn, hw⟩ := splitL_bound (b := 10) T
      have hwb := splitL_mem (b := 10) (p := isByte) hTb
      have hW : ∀ w ∈ splitL 10 T, (∀ x ∈ w, isByte x) ∧ w.length ≤ 1048576 := fun w h => ⟨hwb w h, by have := hw w h; omega⟩
      rw [splitL_snoc] at hsp
      have h1 := specReadTool_lines (splitL 10 T) [] hW (by simp) (by omega) _ hsp
      rw [if_pos rfl] at h1
      have h2 := implReadTool_lines (splitL 10 T) hW (by omega) (bytesS (T ++ [10])) (by
        unfold sh157
        rw [lit_nil, eqS hb (by simp), decide_eq_false (by simp), cond_false, hg, bindS, bne_self_eq_false, cond_false, bytesS_size, List.length_append, List.length_singleton, w64_id (by omega) (by omega), show ((T.length + 1 : Nat) : Int) - 1 = (T.length : Int) by omega]
        have hs := subS_ok hb (i := 0) (j := T.length) (by omega) (by simp)
        rw [show List.take (T.length - 0) (List.drop 0 (T ++ [10])) = T by simp] at hs
        simp only [Int.natCast_zero] at hs
        rw [hs, bindS, splitAt_eq T 10 hTb (by omega), bindS])
      exact ⟨_, h1, h2, bound _⟩
    · obtain ⟨ws, w, h3, h4⟩ := splitL_last 10 T x hx
      obtain ⟨hn, hw⟩ := splitL_bound (b := 10) (T ++ [x])
      have hwb := splitL_mem (b := 10) (p := isByte) hb
      rw [h3] at hsp hn hw hwb
      have hW : ∀ v ∈ ws, (∀ x ∈ v, isByte x) ∧ v.length ≤ 1048576 := fun v h => ⟨hwb v (by simp [h]), by have := hw v (by simp [h]); omega⟩
      have h1 := specReadTool_lines ws w hW (hwb w (by simp)) (by simp at hn; omega) _ hsp
      rw [if_neg h4] at h1
      refine ⟨_, h1, ?_, by simp⟩
      unfold sh74 sh157
      rw [lit_nil, eqS hb (by simp), decide_eq_false (by simp), cond_false, hg, bindS, bne_iff_ne.2 hx, cond_true, bindS]
      rfl

/-! layersof -/
def layerM (n k : Int) (m : SToolMove) : SToolMove := if m.Z < 0 then ⟨m.X, m.Y, w64 ((w64 (m.Z * k)).tdiv n)⟩ else m
theorem layer_inner (q : List SToolMove) (n k : Int) (hn : n ≠ 0) (hq : q.length ≤ 700) (l : List SToolMove) (hl : l.length ≤ 100000) : iter (sh66_2 q n k) (0, l) = some (l ++ q.map (layerM n k)) := by
  have hi := iter_fold (sb := sh66_2 q n k) q (fun j (l : List SToolMove) => ((j : Int), l)) (fun acc a => acc ++ [layerM n k a]) (fun l => l) (fun j x => x.length = l.length + j) l (by simp) (by omega) (fun j hj x hI => ?_) (fun x _ => by
      have hd : decide ((q.length : Int) < (q.length : Int)) = false := by simp
      simp only [sh66_2, hd, cond_false])
  · have h1 := hi.1
    simp only [Int.natCast_zero] at h1
    rw [h1, foldl_snoc]
  · have h2 : (j : Int) < q.length := by omega
    refine ⟨?_, by simp [hI]; omega⟩
    have e : (bif decide (q[j].Z < 0) then (Option.bind (nzI n) fun x30 => some (SToolMove.mk q[j].X q[j].Y (w64 ((w64 (q[j].Z * k)).tdiv n)))) else (some q[j])) = some (layerM n k q[j]) := by
      unfold layerM
      rw [nzI_ok hn]
      by_cases hz : q[j].Z < 0 <;> simp [hz]
    simp only [sh66_2, h2, decide_true, cond_true, getI_lt hj, bindS, e]
    rw [appL_ok (by simp only [List.length_cons, List.length_nil]; omega), bindS, w64_id (by omega) (by omega)]
    rfl
theorem layer_total (q : List SToolMove) (n : Int) (hn : 1 ≤ n) (hn2 : n ≤ 20) (hq : q.length ≤ 700) : ∃ l, iter (sh66_1 q n) (1, []) = some l ∧ l.length ≤ 14000 := by
  refine iter_inv (fun (s : Int × List SToolMove) => 1 ≤ s.1 ∧ s.1 ≤ n + 1 ∧ (s.2.length : Int) ≤ 700 * (s.1 - 1)) (fun s => (n + 1 - s.1).toNat) (fun (l : List SToolMove) => l.length ≤ 14000) ⟨by simp, by simp only; omega, by simp⟩ (by simp only; omega) ?_
  rintro ⟨k, l⟩ ⟨h1, h2, h3⟩
  simp only at h1 h2 h3
  by_cases hk : k ≤ n
  · left
    simp only [sh66_1, hk, decide_true, cond_true]
    rw [layer_inner q n k (by omega) hq l (by omega), bindS, w64_id (x := k + 1) (by omega) (by omega)]
    exact ⟨_, rfl, ⟨by simp only; omega, by simp only; omega, by simp only [List.length_append, List.length_map]; omega⟩, by simp only; omega⟩
  · right
    have hd : decide (k ≤ n) = false := decide_eq_false hk
    simp only [sh66_1, hd, cond_false]
    exact ⟨_, rfl, by omega⟩
theorem layersOf_total (q : List SToolMove) (n : Int) (h : q.length ≤ 1048576) : ∃ r, sh66 q n = some r ∧ sh65 q n = some r ∧ r.1.length ≤ 14000 := by
  unfold sh66 sh65
  rw [l22Ok_eq q h, validMoves_eq q h]
  have es : sh65_1 q n = sh66_1 q n := rfl
  simp only [bindS, sh100, sh107, es]
  cases hp : movesB q
  · exact ⟨_, rfl, rfl, by simp⟩
  · have hl := movesB_len hp
    cases hr : decide (1 ≤ n) && decide (n ≤ 20)
    · exact ⟨_, rfl, rfl, by simp⟩
    · simp only [Bool.and_eq_true, decide_eq_true_eq] at hr
      obtain ⟨l, h1, h2⟩ := layer_total q n hr.1 hr.2 hl
      simp only [Bool.not_true, cond_false]
      cases decide (700 < w64 (n * (q.length : Int)))
      · simp only [cond_false, h1, bindS]
        exact ⟨_, rfl, rfl, h2⟩
      · exact ⟨_, rfl, rfl, by simp⟩

/-! lengths -/
def away (p q : SToolMove) : Int := mx (mx (dst p.X q.X) (dst p.Y q.Y)) (dst p.Z q.Z)
theorem l22Away_eq (p q : SToolMove) : sh207 p q = some (away p q) := by
  unfold sh207 away
  simp only [l10Away_eq, bindS, l00Max_eq]
  congr 1
  unfold mx
  repeat' split
  all_goals omega

theorem length_loop (q : List SToolMove) (b : Bool) (s i : Int) (h1 : 1 ≤ i) (h2 : i ≤ q.length) (hq : q.length ≤ 700) :
    sh155_1 q b (s, i) = sh154_1 q b (s, i) ∧ ((i < q.length ∧ ∃ s', sh154_1 q b (s, i) = some (.inl (s', i + 1))) ∨ (∃ x, sh154_1 q b (s, i) = some (.inr x))) := by
  by_cases hi : i < q.length
  · obtain ⟨k, rfl⟩ : ∃ k : Nat, i = k := ⟨i.toNat, by omega⟩
    have hk : k < q.length := by omega
    have hk1 : k - 1 < q.length := by omega
    have hw : w64 ((k : Int) - 1) = ((k - 1 : Nat) : Int) := by rw [w64_id (by omega) (by omega)]; omega
    simp only [sh155_1, sh154_1, hi, decide_true, cond_true, hw, getI_lt hk, getI_lt hk1, bindS, l22Away_eq, distance_eq]
    rw [w64_id (x := (k : Int) + 1) (by omega) (by omega)]
    cases decide (q[k - 1].Z < 0) <;> cases decide (q[k].Z < 0) <;> cases b <;> exact ⟨rfl, .inl ⟨trivial, _, rfl⟩⟩
  · have hd : decide (i < (q.length : Int)) = false := decide_eq_false hi
    simp only [sh155_1, sh154_1, hd, cond_false]
    exact ⟨trivial, .inr ⟨_, rfl⟩⟩

theorem lengthOf_total (q : List SToolMove) (b : Bool) (h : q.length ≤ 1048576) : ∃ r, sh154 q b = some r ∧ (Option.bind (sh152 q) fun x1 => bif !x1 then (some (0, 1)) else (Option.bind (sh155 q b) fun x2 => some (x2, 0))) = some r := by
  unfold sh154 sh155
  rw [l22Ok_eq q h, validMoves_eq q h]
  simp only [bindS]
  cases hp : movesB q
  · exact ⟨_, rfl, rfl⟩
  · have hl := movesB_len hp
    by_cases h1 : 1 ≤ q.length
    · have hc := iter_congr (sb1 := sh155_1 q b) (sb2 := sh154_1 q b) (fun (s : Int × Int) => 1 ≤ s.2 ∧ s.2 ≤ q.length) (s0 := (0, 1)) (by simp only; omega) (by
        rintro ⟨s, i⟩ ⟨h1, h2⟩
        obtain ⟨h3, h4⟩ := length_loop q b s i h1 h2 hl
        refine ⟨h3, fun s' hs => ?_⟩
        rcases h4 with ⟨h4, t, ht⟩ | ⟨x, hx⟩
        · rw [ht] at hs; cases hs; exact ⟨by simp only; omega, by simp only; omega⟩
        · rw [hx] at hs; cases hs)
      obtain ⟨x, hx, _⟩ := iter_inv (sb := sh154_1 q b) (fun (s : Int × Int) => 1 ≤ s.2 ∧ s.2 ≤ q.length) (fun s => (q.length - s.2).toNat) (fun _ => True) (s0 := (0, 1)) (by simp only; omega) (by simp only; omega) (by
        rintro ⟨s, i⟩ ⟨h1, h2⟩
        rcases (length_loop q b s i h1 h2 hl).2 with ⟨h4, t, ht⟩ | ⟨x, hx⟩
        · exact .inl ⟨_, ht, ⟨by simp only; omega, by simp only; omega⟩, by simp only; omega⟩
        · exact .inr ⟨_, hx, trivial⟩)
      simp only [Bool.not_true, cond_false, hc, hx, bindS]
      exact ⟨_, rfl, rfl⟩
    · have h0 : q = [] := List.eq_nil_of_length_eq_zero (by omega)
      subst h0
      have e1 : iter (sh155_1 [] b) (0, 1) = some 0 := iter_steps (fun _ => (0, 1)) 0 (by omega) (fun k hk => by omega) rfl
      have e2 : iter (sh154_1 [] b) (0, 1) = some 0 := iter_steps (fun _ => (0, 1)) 0 (by omega) (fun k hk => by omega) rfl
      simp only [Bool.not_true, cond_false, e1, e2, bindS]
      exact ⟨_, rfl, rfl⟩

/-! fntools -/
/-! ### layers -/
def layersL (q : List SToolMove) (n : Int) (j : Nat) : List SToolMove := (List.range j).flatMap fun (i : Nat) => q.map (layerM n ((i : Int) + 1))
theorem layersL_len (q : List SToolMove) (n : Int) : ∀ j, (layersL q n j).length = j * q.length
  | 0 => by simp [layersL]
  | j + 1 => by
    have := layersL_len q n j
    unfold layersL at this ⊢
    rw [List.range_succ, List.flatMap_append, List.length_append, this]
    simp [Nat.succ_mul]
theorem layers_val (q : List SToolMove) (n : Int) (hn : 1 ≤ n) (hn2 : n ≤ 20) (hq : q.length ≤ 700) : iter (sh66_1 q n) (1, []) = some (layersL q n n.toNat) := by
  have hi := iter_steps (sb := sh66_1 q n) (fun k => ((k : Int) + 1, layersL q n k)) n.toNat (x := layersL q n n.toNat) (by omega) (fun k hk => ?_) ?_
  · have h0 : layersL q n 0 = [] := rfl
    simp only [Int.natCast_zero, Int.zero_add, h0] at hi
    exact hi
  · have hd : decide ((k : Int) + 1 ≤ n) = true := decide_eq_true (by omega)
    have hl := layersL_len q n k
    have hl2 : k * q.length ≤ 20 * 700 := Nat.mul_le_mul (by omega) hq
    simp only [sh66_1, hd, cond_true]
    rw [layer_inner q n _ (by omega) hq _ (by omega), bindS, w64_id (by omega) (by omega)]
    unfold layersL
    rw [List.range_succ, List.flatMap_append]
    simp
  · have hd : decide (((n.toNat : Nat) : Int) + 1 ≤ n) = false := decide_eq_false (by omega)
    simp only [sh66_1, hd, cond_false]
theorem layer_last {n : Int} (hn : 1 ≤ n) (hn2 : n ≤ 20) {m : SToolMove} (h : moveB m = true) : layerM n n m = m := by
  obtain ⟨_, hz⟩ := moveB_rng h
  unfold layerM
  split
  · have hb : -10000 ≤ m.Z * n ∧ m.Z * n ≤ 0 := by
      have h1 : m.Z * n ≤ 0 := by
        have := Int.mul_nonneg (show 0 ≤ -m.Z by omega) (show 0 ≤ n by omega)
        rw [Int.neg_mul] at this; omega
      have h2 : (-m.Z) * n ≤ 500 * 20 := Int.mul_le_mul (by omega) hn2 (by omega) (by omega)
      rw [Int.neg_mul] at h2
      omega
    rw [w64_id (x := m.Z * n) (by omega) (by omega), Int.mul_tdiv_cancel _ (by omega), w64_id (by omega) (by omega)]
  · rfl
theorem layersOf_val (q : List SToolMove) (n : Int) (h : q.length ≤ 1048576) {r : List SToolMove × Int} (hr : sh65 q n = some r) (h0 : r.2 = 0) : (1 ≤ n ∧ n ≤ 20) ∧ q.length ≤ 700 ∧ movesB q = true ∧ r.1 = layersL q n n.toNat := by
  unfold sh65 at hr
  have es : sh65_1 q n = sh66_1 q n := rfl
  rw [validMoves_eq q h] at hr
  simp only [bindS, sh107, es] at hr
  cases hp : movesB q
  · rw [hp] at hr
    have := Option.some.inj hr
    rw [← this] at h0; cases h0
  · have hl := movesB_len hp
    rw [hp] at hr
    simp only [Bool.not_true, cond_false] at hr
    cases hg : decide (1 ≤ n) && decide (n ≤ 20)
    · rw [hg] at hr
      have := Option.some.inj hr
      rw [← this] at h0; cases h0
    · rw [hg] at hr
      simp only [Bool.and_eq_true, decide_eq_true_eq] at hg
      simp only [Bool.not_true, cond_false] at hr
      cases hw : decide (700 < w64 (n * (q.length : Int)))
      · rw [hw, cond_false, layers_val q n hg.1 hg.2 hl, bindS] at hr
        have := Option.some.inj hr
        rw [← this]
        exact ⟨hg, hl, rfl, rfl⟩
      · rw [hw] at hr
        have := Option.some.inj hr
        rw [← this] at h0; cases h0
theorem eqMv (p q : SToolMove) : ((p.X == q.X) && ((p.Y == q.Y) && ((p.Z == q.Z) && true))) = decide (p = q) := by
  cases p with
  | mk a b c =>
    cases q with
    | mk d e f =>
      by_cases h1 : a = d
      · by_cases h2 : b = e
        · by_cases h3 : c = f
          · subst h1 h2 h3; simp
          · have : ¬ ((SToolMove.mk a b c) = (SToolMove.mk d e f)) := fun h => h3 (congrArg SToolMove.Z h)
            rw [decide_eq_false this]; simp [h3]
        · have : ¬ ((SToolMove.mk a b c) = (SToolMove.mk d e f)) := fun h => h2 (congrArg SToolMove.Y h)
          rw [decide_eq_false this]; simp [h2]
      · have : ¬ ((SToolMove.mk a b c) = (SToolMove.mk d e f)) := fun h => h1 (congrArg SToolMove.X h)
        rw [decide_eq_false this]; simp [h1]
theorem f6tools_eq (xs ys : List SToolMove) (h : xs.length ≤ 1048576) : sh61 xs ys = some (decide (xs = ys)) := by
  unfold sh61
  by_cases hl : xs.length = ys.length
  · have h1 : ((xs.length : Int) != (ys.length : Int)) = false := by simp; omega
    rw [h1, cond_false, iter_eq (xs := xs) (ys := ys) (by omega) hl (fun k hk => ?_) (by simp [sh61_1]), bindS]
    · by_cases he : xs = ys <;> simp [he, elimS]
    · have h2 : (k : Int) < xs.length := by omega
      have h3 : k < ys.length := by omega
      simp only [sh61_1, h2, decide_true, cond_true, getI_lt hk, getI_lt h3, bindS, eqMv]
      rw [w64_id (by omega) (by omega)]
      by_cases he : xs[k] = ys[k]
      · simp [he]
      · rw [if_neg he, decide_eq_false he]
        rfl
  · have h1 : ((xs.length : Int) != (ys.length : Int)) = true := by simp; omega
    rw [h1, cond_true]
    have : xs ≠ ys := fun h => hl (by rw [h])
    simp [this]
/-! ### a tool is read back -/
def lineL (m : SToolMove) : List Int := decL m.X ++ 32 :: (decL m.Y ++ 32 :: decL m.Z)
theorem tmL_line (m : SToolMove) : tmL m = lineL m ++ [10] := by unfold tmL lineL; simp
theorem lineL_no10 (m : SToolMove) : (10 : Int) ∉ lineL m := fun h => by
  unfold lineL at h
  simp only [List.mem_append, List.mem_cons] at h
  rcases h with h | h | h | h | h
  · have := decL_chars _ _ h; omega
  · omega
  · have := decL_chars _ _ h; omega
  · omega
  · have := decL_chars _ _ h; omega
theorem lineL_byte (m : SToolMove) : ∀ x ∈ lineL m, isByte x := fun x hx => by
  unfold lineL at hx
  simp only [List.mem_append, List.mem_cons] at hx
  unfold isByte
  rcases hx with h | h | h | h | h
  · exact decL_byte _ x h
  · omega
  · exact decL_byte _ x h
  · omega
  · exact decL_byte _ x h
theorem decL_no32 (n : Int) : (32 : Int) ∉ decL n := fun h => by
  have := decL_chars n 32 h
  omega
theorem toolP_line {m : SToolMove} (h : moveB m = true) : toolP (lineL m) = some m := by
  obtain ⟨⟨hx, hy⟩, hz⟩ := moveB_rng h
  unfold toolP lineL
  rw [splitL_app _ (decL_no32 _), splitL_app _ (decL_no32 _), splitL_none (decL_no32 _)]
  simp only [readD_decL _ (show -1000000000000000000 < m.X by omega) (by omega), readD_decL _ (show -1000000000000000000 < m.Y by omega) (by omega), readD_decL _ (show -1000000000000000000 < m.Z by omega) (by omega), and_self, if_true]
theorem toolL_flat (q : List SToolMove) : toolL q = q.flatMap tmL := by
  have key : ∀ (q : List SToolMove) (l : List Int), q.foldl (fun l m => l ++ tmL m) l = l ++ q.flatMap tmL := by
    intro q
    induction q with
    | nil => intro l; simp
    | cons m t ih => intro l; rw [List.foldl_cons, ih, List.flatMap_cons, List.append_assoc]
  unfold toolL
  rw [key]; rfl
theorem toolL_lines : ∀ (t : List SToolMove) (m : SToolMove), toolL (m :: t) = (lineL m ++ (t.map lineL).flatMap (fun w => [10] ++ w)) ++ [10]
  | [], m => by rw [toolL_flat]; simp [tmL_line]
  | a :: t, m => by
    have ih := toolL_lines t a
    rw [toolL_flat] at ih ⊢
    rw [List.flatMap_cons, ih, tmL_line]
    simp
theorem toolL_len : ∀ (q : List SToolMove), (∀ m ∈ q, mvR m) → (toolL q).length ≤ 70 * q.length
  | [], _ => by rw [toolL_flat]; simp
  | m :: t, h => by
    have ih := toolL_len t (fun x hx => h x (List.mem_cons_of_mem _ hx))
    obtain ⟨⟨hx, hy⟩, hz⟩ := h m (List.mem_cons_self ..)
    have h1 := decL_len hx.1 hx.2
    have h2 := decL_len hy.1 hy.2
    have h3 := decL_len hz.1 hz.2
    rw [toolL_flat] at ih ⊢
    rw [List.flatMap_cons, List.length_append, List.length_cons]
    have h4 : (tmL m).length ≤ 70 := by unfold tmL; simp only [List.length_append, List.length_cons, List.length_nil]; omega
    omega
theorem mvR_of {m : SToolMove} (h : moveB m = true) : mvR m := by
  obtain ⟨⟨hx, hy⟩, hz⟩ := moveB_rng h
  exact ⟨⟨i64R_small (by omega) (by omega), i64R_small (by omega) (by omega)⟩, i64R_small (by omega) (by omega)⟩
theorem tool_back {q : List SToolMove} (hne : q ≠ []) (h : movesB q = true) : sh74 (bytesS (toolL q)) = some (q, true) := by
  have hl := movesB_len h
  have ha := movesB_all h
  have hlen := toolL_len q (fun m hm => mvR_of (ha m hm))
  cases q with
  | nil => exact absurd rfl hne
  | cons m t =>
    rw [toolL_lines] at hlen ⊢
    have hT : ∀ x ∈ lineL m ++ (t.map lineL).flatMap (fun w => [10] ++ w), isByte x := fun x hx => by
      rcases List.mem_append.1 hx with h1 | h1
      · exact lineL_byte m x h1
      · rw [List.mem_flatMap] at h1
        obtain ⟨w, hw, hx2⟩ := h1
        obtain ⟨z, _, rfl⟩ := List.mem_map.1 hw
        simp only [List.mem_append, List.mem_cons, List.not_mem_nil, or_false] at hx2
        rcases hx2 with h2 | h2
        · unfold isByte; omega
        · exact lineL_byte z x h2
    have hsp : splitL 10 (lineL m ++ (t.map lineL).flatMap (fun w => [10] ++ w)) = (m :: t).map lineL := by
      rw [split_join (t.map lineL) (lineL m) (lineL_no10 m) (fun w hw => by
        obtain ⟨z, _, rfl⟩ := List.mem_map.1 hw
        exact lineL_no10 z)]
      rfl
    generalize lineL m ++ (t.map lineL).flatMap (fun w => [10] ++ w) = T at *
    simp only [List.length_append, List.length_cons, List.length_nil] at hlen hl
    have hb : ∀ x ∈ T ++ [10], isByte x := fun x hx => by
      rcases List.mem_append.1 hx with h1 | h1
      · exact hT x h1
      · simp at h1; subst h1; unfold isByte; omega
    have hg : getS (bytesS (T ++ [10])) (w64 (((bytesS (T ++ [10])).size : Int) - 1)) = some 10 := by
      rw [bytesS_size, List.length_append, List.length_singleton, w64_id (by omega) (by omega), show ((T.length + 1 : Nat) : Int) - 1 = (T.length : Int) by omega, getS_ok hb (by simp)]
      simp
    obtain ⟨hn, hw⟩ := splitL_bound (b := 10) T
    have hwb := splitL_mem (b := 10) (p := isByte) hT
    have hW : ∀ w ∈ splitL 10 T, (∀ x ∈ w, isByte x) ∧ w.length ≤ 1048576 := fun w h => ⟨hwb w h, by have := hw w h; omega⟩
    have h2 := implReadTool_lines (splitL 10 T) hW (by omega) (bytesS (T ++ [10])) (by
      unfold sh157
      rw [lit_nil, eqS hb (by simp), decide_eq_false (by simp), cond_false, hg, bindS, bne_self_eq_false, cond_false, bytesS_size, List.length_append, List.length_singleton, w64_id (by omega) (by omega), show ((T.length + 1 : Nat) : Int) - 1 = (T.length : Int) by omega]
      have hs := subS_ok hb (i := 0) (j := T.length) (by omega) (by simp)
      rw [show List.take (T.length - 0) (List.drop 0 (T ++ [10])) = T by simp] at hs
      simp only [Int.natCast_zero] at hs
      rw [hs, bindS, splitAt_eq T 10 hT (by omega), bindS])
    rw [h2, hsp]
    unfold readToolR
    rw [List.length_map, if_pos (by simp only [List.length_cons]; omega), mapO_map (fun x hx => toolP_line (ha x hx))]
    simp only [h, if_true]
theorem toolL_ne {q : List SToolMove} (h : q ≠ []) : toolL q ≠ [] := by
  cases q with
  | nil => exact absurd rfl h
  | cons m t => rw [toolL_lines]; simp
theorem toolL_byte (q : List SToolMove) : ∀ x ∈ toolL q, isByte x := by
  intro x hx
  rw [toolL_flat, List.mem_flatMap] at hx
  obtain ⟨m, _, hm⟩ := hx
  exact tmL_byte m x hm
theorem l22Text_gen (q : List SToolMove) (hv : ∀ p ∈ q, mvR p) (hl : q.length ≤ 1000) : sh160 q = some (bytesS (toolL q)) := by
  unfold sh160
  have hi := iter_fold (sb := sh160_1 q) q (fun k (l : List Int) => ((k : Int), l)) (fun l m => l ++ tmL m) (fun l => l) (fun k l => l.length ≤ 70 * k) [] (by simp) (by omega) (fun k hk l hI => ?_) (fun l _ => by
      have hd : decide ((q.length : Int) < (q.length : Int)) = false := by simp
      simp only [sh160_1, hd, cond_false])
  · have h1 := hi.1
    simp only [Int.natCast_zero] at h1
    rw [h1, bindS]
    rfl
  · obtain ⟨⟨hx, hy⟩, hz⟩ := hv _ (List.getElem_mem hk)
    have b1 := decL_len hx.1 hx.2
    have b2 := decL_len hy.1 hy.2
    have b3 := decL_len hz.1 hz.2
    have h3 : (k : Int) < q.length := by omega
    have htl : (tmL q[k]).length ≤ 70 := by unfold tmL; simp only [List.length_append, List.length_cons, List.length_nil]; omega
    refine ⟨?_, by rw [List.length_append]; omega⟩
    simp only [sh160_1, h3, decide_true, cond_true, getI_lt hk, bindS, l01Dec_eq _ hx.1 hx.2, l01Dec_eq _ hy.1 hy.2, l01Dec_eq _ hz.1 hz.2]
    rw [w64_id (by omega) (by omega), lit_blank, show (ByteArray.mk #[10] : ByteArray) = bytesS [10] from rfl, catS_ok (by simp only [List.length_cons, List.length_nil]; omega), bindS, catS_ok (by simp only [List.length_append, List.length_cons, List.length_nil]; omega), bindS, catS_ok (by simp only [List.length_append, List.length_cons, List.length_nil]; omega), bindS, catS_ok (by simp only [List.length_append, List.length_cons, List.length_nil]; omega), bindS, catS_ok (by simp only [List.length_append, List.length_cons, List.length_nil]; omega), bindS]
    have ek : decL q[k].X ++ [32] ++ decL q[k].Y ++ [32] ++ decL q[k].Z ++ [10] = tmL q[k] := rfl
    rw [ek, strI_bytesS (tmL_byte q[k]), appL_ok (by omega), bindS]
    rfl

/-! FnTools -/
theorem law7 (c : List Int) (hl0 : c.length ≤ maxLen) (hk0 : ∀ y ∈ c, okI .u8 y) : sh7 c = some true := by
  unfold sh7
  have hm : maxLen = 9223372036854775807 := rfl
  have hc := srcB_of hk0
  rw [f6big_eq c (by omega), bindS]
  cases hbig : decide (4096 < c.length)
  · rw [cond_false]
    have hfrom : sh90 c = some ⟨c, 0, 0⟩ := rfl
    obtain ⟨d, e, l, r, a, b⟩ := bent22_ok ⟨c, 0, 0⟩ hc (Int.le_refl 0) (by simp only; omega)
    simp only at b
    obtain ⟨x1, e1, b1, a1, c1⟩ := pick_ok ⟨c, d.2.1, d.2.2⟩ 6 hc a (by simp only; omega)
    simp only at c1
    obtain ⟨x2, e2, a2, c2⟩ := one_ok ⟨c, x1.2.1, x1.2.2⟩ 10 hc a1 (by simp only; omega)
    simp only at c2
    obtain ⟨x3, e3, _, _⟩ := among_ok ⟨c, x2.2.1, x2.2.2⟩ [0, 1, 20, 21] hc a2 (by simp only; omega) (by simp)
    have hA : ∃ n, sh64 c = some (d.1, n) := by
      unfold sh64
      simp only [hfrom, bindS, e, e1, e2, e3]
      cases x2.1 <;> exact ⟨_, rfl⟩
    obtain ⟨n, hA⟩ := hA
    have hB : sh67 c = some d.1 := by unfold sh67; simp only [hfrom, bindS, e]
    have hC : sh69 c = some d.1 := by unfold sh69; simp only [hfrom, bindS, e]
    have hD : sh72 c = some d.1 := by unfold sh72; simp only [hfrom, bindS, e]
    obtain ⟨y, f, l2, r2, a3, b3⟩ := draw22_ok ⟨c, 0, 0⟩ hc (Int.le_refl 0) (by simp only; omega)
    simp only at b3
    have hT := l22Text_gen y.1 r2 (by omega)
    have hTl := toolL_len y.1 r2
    obtain ⟨y2, f2, a4, c4⟩ := one_ok ⟨c, y.2.1, y.2.2⟩ 3 hc a3 (by simp only; omega)
    simp only at c4
    have hE : ∃ t, sh75 c = some t ∧ t.size ≤ 1048576 := by
      unfold sh75
      simp only [hfrom, bindS, f, hT, f2]
      cases y2.1
      · exact ⟨_, rfl, by rw [bytesS_size]; omega⟩
      · obtain ⟨z, hz, hz2, _⟩ := spoil_ok ⟨c, y2.2.1, y2.2.2⟩ (bytesS (toolL y.1)) hc a4 (by simp only; omega) (by rw [bytesS_size]; omega)
        rw [bytesS_size] at hz2
        simp only [cond_true, hz, bindS]
        exact ⟨_, rfl, by omega⟩
    obtain ⟨u, hE, hu⟩ := hE
    obtain ⟨ra, h1, h2, h3⟩ := layersOf_total d.1 n (by omega)
    obtain ⟨rb, k1, k2⟩ := lengthOf_total d.1 true (by omega)
    have k3 : sh68 d.1 = some rb := k2
    have k4 : sh63 d.1 = some rb := by unfold sh63; rw [k1]; rfl
    obtain ⟨rc, m1, m2⟩ := lengthOf_total d.1 false (by omega)
    have m3 : sh71 d.1 = some rc := m2
    have m4 : sh70 d.1 = some rc := by unfold sh70; rw [m1]; rfl
    have ht := implToolText_eq d.1 (by omega)
    have hts := toolText_same d.1 (by omega)
    rw [ht] at hts
    obtain ⟨rd, n1, n2, n3⟩ := readTool_total u hu
    rw [hA, hB, hC, hD, hE]
    have hF : ∃ x31, sh74 (bytesS (if movesB d.1 = true then toolL d.1 else [])) = some x31 ∧ (bif !((bytesS (if movesB d.1 = true then toolL d.1 else [])).toList == (ByteArray.mk #[]).toList) then (Option.bind (bif !x31.2 then (some true) else (Option.bind (sh61 x31.1 d.1) fun x51 => some !x51)) fun cb50 => (some cb50)) else (some false)) = some false := by
      by_cases hcase : movesB d.1 = true ∧ d.1 ≠ []
      · rw [if_pos hcase.1]
        refine ⟨_, tool_back hcase.2 hcase.1, ?_⟩
        rw [lit_nil, eqS (toolL_byte d.1) (by simp), decide_eq_false (toolL_ne hcase.2)]
        simp only [Bool.not_false, cond_true, Bool.not_true, cond_false, f6tools_eq d.1 d.1 (by omega), decide_true, bindS]
      · have hz : (if movesB d.1 = true then toolL d.1 else []) = ([] : List Int) := by
          by_cases hmv : movesB d.1 = true
          · rw [if_pos hmv]
            have : d.1 = [] := Classical.byContradiction fun hne => hcase ⟨hmv, hne⟩
            rw [this, toolL_flat]; rfl
          · rw [if_neg hmv]
        rw [hz]
        obtain ⟨w, _, w2, _⟩ := readTool_total (bytesS []) (by rw [bytesS_size]; simp)
        refine ⟨w, w2, ?_⟩
        rw [lit_nil, eqS (by simp) (by simp)]
        rfl
    obtain ⟨x31, g1, g2⟩ := hF
    simp only [bindS, h1, h2, k3, k4, m3, m4, ht, hts, g1, g2, n1, n2, bne_self_eq_false, cond_false, Bool.or_self, Bool.false_or, f6tools_eq ra.1 ra.1 (by omega), f6tools_eq rd.1 rd.1 (by omega), decide_true, Bool.not_true, beq_self_eq_true]
    by_cases h0 : ra.2 = 0
    · obtain ⟨v1, v2, v3, v4⟩ := layersOf_val d.1 n (by omega) h2 h0
      have hn0 : (ra.2 != 0) = false := by simpa using h0
      have hlen := layersL_len d.1 n n.toNat
      have hmul : n.toNat * d.1.length ≤ 20 * 700 := Nat.mul_le_mul (by omega) v2
      have hnm : n * (d.1.length : Int) = ((n.toNat * d.1.length : Nat) : Int) := by
        rw [Int.natCast_mul, Int.toNat_of_nonneg (by omega)]
      have hw : w64 (n * (d.1.length : Int)) = (ra.1.length : Int) := by
        rw [v4, hlen, hnm, w64_id (by omega) (by omega)]
      rw [hn0, cond_false, hw, bne_self_eq_false, cond_false]
      have hall := movesB_all v3
      have hloop : iter (sh7_1 (d.1, n) ra) 0 = some (.inl ()) := by
        rw [iter_all (xs := d.1) (p := fun _ => true) (r := false) (by omega) (fun k hk => ?_) (by simp [sh7_1])]
        · simp
        · have hk2 : (k : Int) < d.1.length := by omega
          obtain ⟨j, hj⟩ : ∃ j, n.toNat = j + 1 := ⟨n.toNat - 1, by omega⟩
          have hsp : ra.1 = layersL d.1 n j ++ d.1.map (layerM n n) := by
            rw [v4, hj]
            unfold layersL
            rw [List.range_succ, List.flatMap_append]
            have : ((j : Int) + 1) = n := by omega
            simp [this]
          have hjl := layersL_len d.1 n j
          have hral : ra.1.length = (layersL d.1 n j).length + d.1.length := by rw [hsp, List.length_append, List.length_map]
          have hidx : w64 (w64 ((ra.1.length : Int) - (d.1.length : Int)) + (k : Int)) = (((layersL d.1 n j).length + k : Nat) : Int) := by
            rw [w64_id (x := (ra.1.length : Int) - (d.1.length : Int)) (by omega) (by omega), w64_id (by omega) (by omega)]; omega
          have hlt : (layersL d.1 n j).length + k < ra.1.length := by omega
          have hget : ra.1[(layersL d.1 n j).length + k] = d.1[k] := by
            have h5 : ra.1[(layersL d.1 n j).length + k]? = some d.1[k] := by
              rw [hsp, List.getElem?_append_right (by omega), Nat.add_sub_cancel_left, List.getElem?_map, List.getElem?_eq_getElem hk, Option.map_some, layer_last v1.1 v1.2 (hall _ (List.getElem_mem hk))]
            rw [List.getElem?_eq_getElem hlt] at h5
            exact Option.some.inj h5
          simp only [sh7_1, hk2, decide_true, cond_true, hidx, getI_lt hlt, hget, getI_lt hk, bindS, eqMv, Bool.not_true, cond_false, if_true]
          rw [w64_id (by omega) (by omega)]
      rw [hloop]
      rfl
    · have hn0 : (ra.2 != 0) = true := by simpa using h0
      rw [hn0]; rfl
  · rfl
end Go.Sh
